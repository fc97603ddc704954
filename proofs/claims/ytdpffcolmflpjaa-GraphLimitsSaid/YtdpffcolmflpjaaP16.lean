/-
  Texts of the walk: PlA H5 MpA H6 H7 H8 H9 H11 H14 H15.
-/
import Derived.Test.YtdpffcolmflpjaaP15
section
namespace Go.Proofs
open Go Go.Rx Go.Vx Go.Shelf Go.Sort
set_option linter.unusedVariables false
theorem q2q {α β:Type} (a:α) (k:α→Option β):bindO (some a) k=k a:=rfl
theorem wr {z:Int} (h1 : -9223372036854775808≤z) (h2:z≤9223372036854775807):IntKind.i64.wrap z=z:=qa6 (by omega) (by omega)
theorem wr1 {i len:Nat} (h:i<len) (hl:len≤9223372036854775807):IntKind.i64.wrap ((i:Int)+1)=((i+1:Nat):Int):=by rw [wr (by omega) (by omega)]; simp
theorem wrn {z:Int} {k:Nat} (h:z=k) (h2:k≤9223372036854775807):IntKind.i64.wrap z=(k:Int):=by subst h; exact wr (by omega) (by omega)
theorem get_of {α:Type} {l:List α} {i:Nat} (h:i<l.length):∃ x,l[i]? = some x∧x∈l:=⟨l[i],by simp [h],by simp⟩
theorem q8s {α:Type} {l:List α} {i:Nat} {x:α} (h:l[i]? = some x):l.take (i+1)=l.take i++[x]:=by rw [List.take_add_one,h]; rfl
theorem drop_cons' {α:Type} {l:List α} {i:Nat} {x:α} (h:l[i]? = some x):l.drop i=x::l.drop (i+1):=by
 have hlt:i<l.length:=(List.getElem?_eq_some_iff.1 h).1
 rw [List.drop_eq_getElem_cons hlt]
 congr 1
 rw [List.getElem?_eq_getElem hlt] at h
 exact Option.some.inj h
theorem dlt {i n:Nat} (h:i<n):decide ((i:Int)<(n:Int))=true:=by simp; omega
theorem dnlt {i n:Nat} (h:¬ i<n):decide ((i:Int)<(n:Int))=false:=by simp; omega
theorem drop_nil' {α:Type} {l:List α} {i:Nat} (h:¬ i<l.length):l.drop i=[]:=List.drop_eq_nil_of_le (by omega)
structure Cmp {α:Type} (c:α→α→Int):Prop where
 val:∀ x y,c x y = -1∨c x y=0∨c x y=1
 anti:∀ x y,c y x = - c x y
 trans:∀ x y z,c x y≤0→c y z≤0→c x z≤0
theorem Cmp.self {α:Type} {c:α→α→Int} (h:Cmp c) (x:α):c x x=0:=by have:=h.anti x x; omega
theorem Cmp.congr {α:Type} {c:α→α→Int} (h:Cmp c) {x y:α} (hxy:c x y=0) (z:α):c x z=c y z:=by
 have h1:=h.val x z
 have h2:=h.val y z
 have a1:=h.anti x y
 have a2:=h.anti x z
 have a3:=h.anti y z
 have t1:=h.trans x y z
 have t2:=h.trans y x z
 have t3:=h.trans z x y
 have t4:=h.trans z y x
 omega
theorem Cmp.lt_of {α:Type} {c:α→α→Int} (h:Cmp c) {x y z:α} (h1:c x y<0) (h2:c y z≤0):c x z<0:=by
 have t1:=h.trans x y z (by omega) h2
 rcases Int.lt_or_eq_of_le t1 with h3 | h3
 ·exact h3
 ·have:=h.congr h3 y
  have a3:=h.anti y z
  omega
theorem Cmp.pull {α β:Type} {c:α→α→Int} (h:Cmp c) (f:β→α):Cmp (fun x y=>c (f x) (f y)):=⟨fun x y=>h.val _ _,fun x y=>h.anti _ _,fun x y z=>h.trans _ _ _⟩
def cmpI (a b:Int):Int:=if a<b then -1 else if b<a then 1 else 0
theorem cmpI_zero {a b : Int} : cmpI a b = 0 ↔ a = b := by unfold cmpI; split; · omega
                                                           split <;> omega
theorem cmpI_ok : Cmp cmpI where
  val x y := by unfold cmpI; split; · simp
                split <;> simp
  anti x y := by unfold cmpI; split <;> split <;> (try split) <;> omega
  trans x y z := by
    unfold cmpI
    intro h1 h2
    split at h1 <;> split at h2 <;> (try split at h1) <;> (try split at h2) <;> (try split) <;> (try split) <;> omega
theorem ltOf_iff {α:Type} (c:α→α→Int) (x y:α):ltOf c x y=true↔c x y<0:=by simp [ltOf]
theorem Cmp.swo {α:Type} {c:α→α→Int} (h:Cmp c):SWO (ltOf c) where
 irrefl x:=by have:=h.self x; simp [ltOf,this]
 trans x y z h1 h2:=by rw [ltOf_iff] at *; exact h.lt_of h1 (by omega)
 ntrans x y z h1 h2:=by
  have e:∀ a b,ltOf c a b=false↔c b a≤0:=fun a b=>by have:=h.anti a b; simp [ltOf]; omega
  rw [e] at *
  exact h.trans z y x h2 h1
section
variable {α:Type} {c:α→α→Int}
end
end Go.Proofs
end
section
namespace Go.Proofs
open Go Go.Rx Go.Vx Go.Shelf Go.Sort
set_option linter.unusedVariables false
set_option linter.unusedSimpArgs false
set_option maxRecDepth 10000
theorem ex_ok (m:Nat):q2o (m+60)=some true:=by kernel_rfl
theorem ex_n {n:Nat} (h:60≤n):q2o n=some true:=by
 have:=ex_ok (n - 60)
 rwa [Nat.sub_add_cancel h] at this
theorem cmpInt_eq (n:Nat) (a b:Int):q1q n a b=some (cmpI a b):=by
 have e1:(a != a)=false:=by simp
 have e2:(b != b)=false:=by simp
 simp only [q1q,q40,q2q,e1,e2,cond_false,cmpI]
 by_cases h1:a<b
 ·simp [h1]
 ·by_cases h2:b<a<;>simp [h1,h2]
structure Small (f:GFS) (k:Nat):Prop where
 nodes:f.Nodes.length≤k
 arcs:∀ x∈f.Nodes,x.Arcs.length≤k
end Go.Proofs
end
section
namespace Go.Vx
open Go Go.Rx
set_option linter.unusedVariables false
section
variable {K V:Type} [DecidableEq K]
def aget (k:K):List (K×V×Nat)→Option V
 | []=>none
 | e::es=>if k=e.1 then some e.2.1 else aget k es
variable {eq:K→K→Bool} (he:∀ a b,eq a b=true↔a=b)
include he
omit [DecidableEq K] in
theorem eq_f {a b:K} (h:¬ a=b):eq a b=false:=by
 cases h':eq a b with
 | false=>rfl
 | true=>exact absurd ((he a b).1 h') h
theorem q9r (k:K):∀ (es:List (K×V×Nat)) (i:Nat),(mFindL eq k es i).map (fun x=>x.2.1)=aget k es
 | [],i=>rfl
 | e::es,i=>by
  simp only [mFindL,aget]
  by_cases h:k=e.1
  ·rw [(he k e.1).2 h,if_pos h]; rfl
  ·rw [eq_f he h,if_neg h]; exact q9r k es (i+1)
theorem mGet_get (m:MapL K V) (k:K):mGet eq m k=aget k m.es:=q9r he k m.es 0
theorem get_set (k:K) (v:V):∀ {es:List (K×V×Nat)} {i j:Nat} {q:V×Nat},mFindL eq k es i=some (j,q)→i≤j∧∀ x,aget x (mSetL v es (j - i))=if x=k then some v else aget x es
 | [],i,j,q,h=>by cases h
 | e::es,i,j,q,h=>by
  simp only [mFindL] at h
  by_cases hk:k=e.1
  ·rw [(he k e.1).2 hk] at h
   simp only [cond_true,Option.some.injEq,Prod.mk.injEq] at h
   obtain ⟨rfl,_⟩:=h
   refine ⟨Nat.le_refl _,fun x=>?_⟩
   simp only [Nat.sub_self,mSetL,aget,hk]
   split<;>rfl
  ·rw [eq_f he hk] at h
   simp only [cond_false] at h
   obtain ⟨h1,h2⟩:=get_set k v h
   refine ⟨by omega,fun x=>?_⟩
   rw [show j - i=(j - (i+1))+1 by omega]
   simp only [mSetL,aget,h2]
   by_cases hx:x=e.1
   ·have:¬ x=k:=fun h=>hk (h ▸ hx)
    simp [hx]
    intro h; exact absurd h.symm hk
   ·simp [hx]
omit he [DecidableEq K] in
theorem set_keys (v:V):∀ (es:List (K×V×Nat)) (i:Nat),(mSetL v es i).map (fun e=>e.1)=es.map (fun e=>e.1)∧(mSetL v es i).map (fun e=>e.2.2)=es.map (fun e=>e.2.2)
 | [],i=>by simp [mSetL]
 | e::es,0=>by simp [mSetL]
 | e::es,i+1=>by simp [mSetL,set_keys v es i]
omit he in
theorem get_none {k:K}:∀ {es:List (K×V×Nat)},k ∉ es.map (fun e=>e.1)→aget k es=none
 | [],_=>rfl
 | e::es,h=>by
  simp only [List.map_cons,List.mem_cons,not_or] at h
  simp only [aget,h.1,if_false]
  exact get_none h.2
theorem get_del (k:K):∀ {es:List (K×V×Nat)} {i j:Nat} {q:V×Nat},(es.map (fun e=>e.1)).Nodup→mFindL eq k es i=some (j,q)→i≤j∧∀ x,aget x (mDelL es (j - i))=if x=k then none else aget x es
 | [],i,j,q,_,h=>by cases h
 | e::es,i,j,q,hn,h=>by
  simp only [mFindL] at h
  simp only [List.map_cons,List.nodup_cons] at hn
  by_cases hk:k=e.1
  ·rw [(he k e.1).2 hk] at h
   simp only [cond_true,Option.some.injEq,Prod.mk.injEq] at h
   obtain ⟨rfl,_⟩:=h
   refine ⟨Nat.le_refl _,fun x=>?_⟩
   simp only [Nat.sub_self,mDelL,aget]
   by_cases hx:x=k
   ·rw [if_pos hx,hx,hk]; exact get_none hn.1
   ·have:¬ x=e.1:=fun h=>hx (h.trans hk.symm)
    simp [hx,this]
  ·rw [eq_f he hk] at h
   simp only [cond_false] at h
   obtain ⟨h1,h2⟩:=get_del k hn.2 h
   refine ⟨by omega,fun x=>?_⟩
   rw [show j - i=(j - (i+1))+1 by omega]
   simp only [mDelL,aget,h2]
   by_cases hx:x=e.1
   ·have:¬ x=k:=fun h=>hk (h ▸ hx)
    simp [hx]
    intro h; exact absurd h.symm hk
   ·simp [hx]
omit he [DecidableEq K] in
theorem del_sub:∀ (es:List (K×V×Nat)) (i:Nat),(mDelL es i).Sublist es
 | [],i=>by simp [mDelL]
 | e::es,0=>by simp [mDelL]
 | e::es,i+1=>by simp [mDelL,del_sub es i]
omit he in
theorem get_app (x k:K) (v:V) (b:Nat):∀ es:List (K×V×Nat),aget x (es++[(k,v,b)])=if aget x es=none then (if x=k then some v else none) else aget x es
 | []=>by simp [aget]
 | e::es=>by
  simp only [List.cons_append,aget]
  by_cases hx:x=e.1
  ·simp [hx]
  ·simp only [hx,if_false]; exact get_app x k v b es
structure MInv (m:MapL K V):Prop where
 keys:(m.es.map (fun e=>e.1)).Nodup
 borns:(m.es.map (fun e=>e.2.2)).Nodup
 lt:∀ e∈m.es,e.2.2<m.cl
omit he in
theorem MInv.app {m:MapL K V} (h:MInv m) {k:K} (hf:aget k m.es=none) (v:V):MInv (⟨m.es++[(k,v,m.cl)],m.cl+1⟩:MapL K V):=by
 refine ⟨?_,?_,?_⟩
 ·simp only [List.map_append,List.map_cons,List.map_nil]
  rw [List.nodup_append]
  refine ⟨h.keys,by simp,?_⟩
  intro a ha b hb hab
  simp only [List.mem_singleton] at hb
  subst hab hb
  clear h
  generalize m.es=es at *
  induction es with
  | nil=>simp at ha
  | cons e es ih =>
   simp only [aget] at hf
   by_cases hx:a=e.1
   ·simp [hx] at hf
   ·simp only [hx,if_false] at hf
    simp only [List.map_cons,List.mem_cons,hx,false_or] at ha
    exact ih ha hf
 ·simp only [List.map_append,List.map_cons,List.map_nil]
  rw [List.nodup_append]
  refine ⟨h.borns,by simp,?_⟩
  intro a ha b hb hab
  simp only [List.mem_singleton] at hb
  obtain ⟨e,he,rfl⟩:=List.mem_map.1 ha
  have:=h.lt e he
  omega
 ·intro e he
  rcases List.mem_append.1 he with he | he
  ·have:=h.lt e he; simp only; omega
  ·simp only [List.mem_singleton] at he; subst he; simp
omit he [DecidableEq K] in
theorem MInv.set {m:MapL K V} (h:MInv m) (v:V) (i:Nat):MInv (⟨mSetL v m.es i,m.cl⟩:MapL K V):=by
 obtain ⟨h1,h2⟩:=set_keys v m.es i
 refine ⟨by simp only [h1]; exact h.keys,by simp only [h2]; exact h.borns,fun e he=>?_⟩
 have:e.2.2∈(mSetL v m.es i).map (fun e=>e.2.2):=List.mem_map.2 ⟨e,he,rfl⟩
 rw [h2] at this
 obtain ⟨e',g1,g2⟩:=List.mem_map.1 this
 have:=h.lt e' g1
 simp only at g2 ⊢
 omega
theorem upd_ok {m:MapL K V} (h:MInv m) (k:K) (v:V):MInv (mUpd eq m k v)∧∀ x,aget x (mUpd eq m k v).es=if x=k then some v else aget x m.es:=by
 unfold mUpd
 cases hf:mFindL eq k m.es 0 with
 | none =>
  have hg:aget k m.es=none:=by rw [← q9r he k m.es 0,hf]; rfl
  refine ⟨h.app hg v,fun x=>?_⟩
  simp only [get_app]
  by_cases hx:x=k
  ·simp [hx,hg]
  ·simp only [hx,if_false]; split<;>simp_all
 | some q =>
  obtain ⟨j,q⟩:=q
  have:=(get_set he k v hf).2
  exact ⟨h.set v j,fun x=>by simpa using this x⟩
theorem del_ok {m:MapL K V} (h:MInv m) (k:K):MInv (mDel eq m k)∧∀ x,aget x (mDel eq m k).es=if x=k then none else aget x m.es:=by
 unfold mDel
 cases hf:mFindL eq k m.es 0 with
 | none =>
  have hg:aget k m.es=none:=by rw [← q9r he k m.es 0,hf]; rfl
  refine ⟨h,fun x=>?_⟩
  by_cases hx:x=k
  ·simp [hx,hg]
  ·simp [hx]
 | some q =>
  obtain ⟨j,q⟩:=q
  have:=(get_del he k h.keys hf).2
  have hs:=del_sub m.es j
  exact ⟨⟨(hs.map _).nodup h.keys,(hs.map _).nodup h.borns,fun e he=>h.lt e (hs.subset he)⟩,fun x=>by simpa using this x⟩
end
end Go.Vx
end
section
namespace Go.Proofs
open Go Go.Rx Go.Vx Go.Shelf Go.Sort
set_option linter.unusedVariables false
set_option linter.unusedSimpArgs false
set_option maxRecDepth 10000
theorem insB_congr {α:Type} {lt lt':α→α→Bool} (x:α):∀ {l:List α},(∀ y∈l,lt y x=lt' y x)→insB lt x l=insB lt' x l
 | [],_=>rfl
 | y::l,h=>by
  have ih:=insB_congr (lt:=lt) (lt':=lt') x (l:=l) fun z hz=>h z (List.mem_cons_of_mem _ hz)
  simp only [insB,h y (by simp),ih]
theorem srt_congr {α:Type} {lt lt':α→α→Bool}:∀ {l:List α},(∀ x∈l,∀ y∈l,lt x y=lt' x y)→srt lt l=srt lt' l
 | [],_=>rfl
 | x::l,h=>by
  simp only [srt]
  rw [srt_congr fun a ha b hb=>h a (by simp [ha]) b (by simp [hb])]
  exact insB_congr x fun y hy=>h y (by simp [(q7l lt' l).mem_iff.1 hy]) x (by simp)
theorem okSort_of {α:Type} {eq:α→α→Bool} (heq:∀ x,eq x x=true) {f:α→α→Option Int} {c:α→α→Int} (hc:Cmp c) {ds:List α} (hf:∀ x∈ds,∀ y∈ds,f x y=some (c x y)) (hz:∀ x∈ds,∀ y∈ds,c x y=0→x=y):okSort eq f ds=true:=by
 have hlt:∀ x∈ds,∀ y∈ds,fLt f x y=ltOf c x y:=fun x hx y hy=>by simp [fLt,hf x hx y hy,ltOf]
 have hs:=hc.swo
 unfold okSort
 rw [List.all_eq_true]
 intro x hx
 rw [Bool.and_eq_true,Bool.not_eq_true',List.all_eq_true]
 refine ⟨by rw [hlt x hx x hx]; exact hs.irrefl x,fun y hy=>?_⟩
 rw [Bool.and_eq_true,Bool.and_eq_true,List.all_eq_true]
 refine ⟨by rw [hf x hx y hy]; rfl,?_,fun z hzm=>?_⟩
 ·rw [hlt x hx y hy,hlt y hy x hx]
  cases h1:ltOf c x y with
  | true=>rfl
  | false =>
   cases h2:ltOf c y x with
   | true=>rfl
   | false =>
    have a:=hc.anti x y
    simp [ltOf] at h1 h2
    have:=hz x hx y hy (by omega)
    subst this
    simp [heq]
 ·rw [hlt x hx y hy,hlt y hy z hzm,hlt x hx z hzm]
  cases h1:ltOf c x y with
  | true =>
   cases h2:ltOf c y z with
   | true=>simp [hs.trans x y z h1 h2]
   | false=>simp
  | false =>
   cases h2:ltOf c y z with
   | true=>simp
   | false=>simp [hs.ntrans x y z h1 h2]
theorem sortO_of {α:Type} {eq:α→α→Bool} (heq:∀ x,eq x x=true) {f:α→α→Option Int} {c:α→α→Int} (hc:Cmp c) {ds:List α} (hl:ds.length≤1000000) (hf:∀ x∈ds,∀ y∈ds,f x y=some (c x y)) (hz:∀ x∈ds,∀ y∈ds,c x y=0→x=y):sortO eq f ds=some (srt (ltOf c) ds):=by
 unfold sortO
 have hb:Nat.ble ds.length 1000000=true:=by rw [Nat.ble_eq]; exact hl
 rw [okSort_of heq hc hf hz,hb]
 simp only [Bool.and_self,cond_true]
 have e:srt (fLt f) ds=srt (ltOf c) ds:=srt_congr fun x hx y hy=>by simp [fLt,hf x hx y hy,ltOf]
 rw [e]
def cF (a b:GArc):Int:=cmpI a.Feat b.Feat
theorem cF_ok:Cmp cF:=cmpI_ok.pull GArc.Feat
def srtA (l:List GArc):List GArc:=srt (ltOf cF) l
theorem qb9 (l:List GArc):(srtA l).Perm l:=q7l _ l
def Dis (l:List GArc):Prop:=l.Pairwise (fun a b=>a.Feat≠b.Feat)
theorem Dis.eq:∀ {l:List GArc},Dis l→∀ x∈l,∀ y∈l,x.Feat=y.Feat→x=y
 | [],_,x,hx,_,_,_=>by cases hx
 | a::l,h,x,hx,y,hy,e=>by
  obtain ⟨h1,h2⟩:=List.pairwise_cons.1 h
  rcases List.mem_cons.1 hx with e1 | hx'
  ·rcases List.mem_cons.1 hy with e2 | hy'
   ·rw [e1,e2]
   ·subst e1; exact absurd e (h1 y hy')
  ·rcases List.mem_cons.1 hy with e2 | hy'
   ·subst e2; exact absurd e.symm (h1 x hx')
   ·exact Dis.eq h2 x hx' y hy' e
theorem append_L {l:List GArc} (hl:l.length≤1000000):∀ (m i:Nat),l.length - i<m→i≤l.length→q11 l m i (l.take i)=some l
 | 0,i,hm,_=>by omega
 | m+1,i,hm,hi=>by
  unfold q11
  by_cases hlt:i<l.length
  ·obtain ⟨x,hx,_⟩:=get_of hlt
   have hn:((l.take i).length+1)*16≤140737488355328∧(l.take i).length+1≤140737488355328:=by rw [List.length_take]; omega
   simp only [dlt hlt,cond_true,q6f,hx,q2q,needO,hn,and_self,if_true,q2c,wr1 hlt (show l.length≤9223372036854775807 by omega),← q8s hx]
   exact append_L hl m (i+1) (by omega) (by omega)
  ·simp only [dnlt hlt,cond_false,q2b]
   rw [List.take_of_length_le (by omega)]
theorem byF_ok (n:Nat) (a b:GArc):q3j n a b=some (cF a b):=by simp [q3j,cmpInt_eq,q2q,cF]
theorem eqA_refl (x:GArc):eqA x x=true:=by simp [eqA]
theorem sorted_ok {l:List GArc} (hl:l.length≤1000000) (hd:Dis l) {n:Nat} (hn:l.length<n):q0x n l=some (srtA l):=by
 have h1:=append_L hl n 0 (by omega) (by omega)
 rw [Int.ofNat_zero,List.take_zero] at h1
 have h2:=sortO_of eqA_refl (f:=fun a b=>q3j n a b) cF_ok hl (fun x _ y _=>byF_ok n x y) (fun x hx y hy h=>hd.eq x hx y hy (cmpI_zero.1 h))
 simp only [q0x,q3d,q2z,h1,q2q,h2,srtA]
structure NOk (x:GNode) (N:Nat):Prop where
 ty:0≤x.Typex
 dis:Dis x.Arcs
 arc:∀ a∈x.Arcs,0≤a.Feat∧0≤a.To∧a.To<N
def GOK (f:GFS):Prop:=∀ x∈f.Nodes,NOk x f.Nodes.length
def nd (f:GFS) (v:Int):GNode:=(f.Nodes[v.toNat]?).getD (GNode.mk 0 [])
def InG (f:GFS) (v:Int):Prop:=0≤v∧v<f.Nodes.length
theorem nd_at {f:GFS} {v:Int} (h:InG f v):idxO f.Nodes v=some (nd f v)∧nd f v∈f.Nodes:=by
 have hv:v.toNat<f.Nodes.length:=by have:=h.1; have:=h.2; omega
 have h1:0≤v∧v<(f.Nodes.length:Int):=h
 simp [idxO,h1,nd,hv]
def sar (f:GFS) (v:Int):List GArc:=srtA (nd f v).Arcs
theorem sar_mem {f:GFS} {v:Int} {a:GArc}:a∈sar f v↔a∈(nd f v).Arcs:=(qb9 _).mem_iff
def dfsF (g:List Int→Int→List Int) (o:List Int) (a:GArc):List Int:=if a.To∈o then o else g o a.To
def dfs (f:GFS):Nat→List Int→Int→List Int
 | 0,o,_=>o
 | k+1,o,v=>(sar f v).foldl (dfsF (dfs f k)) (o++[v])
structure Seen (f:GFS) (o:List Int):Prop where
 nd:o.Nodup
 ing:∀ v∈o,InG f v
theorem qau:∀ (N:Nat) {o:List Int},o.Nodup→(∀ v∈o,0≤v∧v<N)→o.length≤N
 | 0,o,_,h=>by
  cases o with
  | nil=>simp
  | cons v o=>have:=h v (by simp); omega
 | N+1,o,hn,h=>by
  have h1:=qau N (o:=o.filter (fun v=>v != (N:Int))) (hn.filter _) fun v hv=>by
   rw [List.mem_filter] at hv
   have:=h v hv.1
   have h2:=hv.2
   simp at h2
   omega
  have h2:o.length≤(o.filter (fun v=>v != (N:Int))).length+1:=by
   clear h1 h
   induction o with
   | nil=>simp
   | cons x o ih =>
    obtain ⟨h3,h4⟩:=List.nodup_cons.1 hn
    have:=ih h4
    by_cases e:x=N
    ·subst e
     have:o.filter (fun v=>v != (N:Int))=o:=List.filter_eq_self.2 fun v hv=>by
      simp only [bne_iff_ne,ne_eq]
      intro e; subst e; exact h3 hv
     simp [this]
    ·have e2:(x != (N:Int))=true:=by simpa using e
     rw [List.filter_cons_of_pos (by simpa using e)]
     simp only [List.length_cons]
     omega
  omega
theorem Seen.len {f:GFS} {o:List Int} (h:Seen f o):o.length≤f.Nodes.length:=qau _ h.nd h.ing
theorem Seen.snoc {f:GFS} {o:List Int} (h:Seen f o) {v:Int} (hv:InG f v) (hn:v ∉ o):Seen f (o++[v]):=⟨by
 rw [List.nodup_append]
 refine ⟨h.nd,by simp,?_⟩
 intro a ha b hb
 simp at hb
 subst hb
 intro e; subst e; exact hn ha,fun u hu=>by
 rcases List.mem_append.1 hu with hu | hu
 ·exact h.ing u hu
 ·simp at hu; subst hu; exact hv⟩
theorem dfs_ok {f:GFS} (hg:GOK f):∀ (k:Nat) (o:List Int) (v:Int),Seen f o→InG f v→v ∉ o→f.Nodes.length - o.length≤k →
  Seen f (dfs f k o v)∧(∃ t,dfs f k o v=o++v::t)∧(∀ u∈dfs f k o v,u ∉ o→∀ a∈(nd f u).Arcs,a.To∈dfs f k o v)∧(∀ k',f.Nodes.length - o.length≤k'→dfs f k' o v=dfs f k o v)
 | 0,o,v,hs,hv,hn,hk=>by
  have h1:=(hs.snoc hv hn).len
  simp only [List.length_append,List.length_cons,List.length_nil] at h1
  omega
 | k+1,o,v,hs,hv,hn,hk=>by
  have hs1:=hs.snoc hv hn
  have hl1:=hs1.len
  simp only [List.length_append,List.length_cons,List.length_nil] at hl1
  have key:∀ (l:List GArc),(∀ a∈l,InG f a.To)→∀ (p:List Int),Seen f p→(∃ t,p=o++v::t)→(∀ u∈p,u ∉ o→u≠v→∀ a∈(nd f u).Arcs,a.To∈p) →
    Seen f (l.foldl (dfsF (dfs f k)) p)∧(∃ t,l.foldl (dfsF (dfs f k)) p=p++t)∧(∀ u∈l.foldl (dfsF (dfs f k)) p,u ∉ o→u≠v→∀ a∈(nd f u).Arcs,a.To∈l.foldl (dfsF (dfs f k)) p)∧(∀ a∈l,a.To∈l.foldl (dfsF (dfs f k)) p) ∧
     (∀ k',f.Nodes.length - (o.length+1)≤k'→l.foldl (dfsF (dfs f k')) p=l.foldl (dfsF (dfs f k)) p):=by
   intro l
   induction l with
   | nil=>intro _ p hp hpre hcl; exact ⟨hp,⟨[],by simp⟩,hcl,⟨fun a ha=>(List.not_mem_nil ha).elim,fun _ _=>rfl⟩⟩
   | cons a l ih =>
    intro hl p hp hpre hcl
    have hla:=hl a (by simp)
    have hll:=fun b hb=>hl b (List.mem_cons_of_mem a hb)
    simp only [List.foldl_cons]
    by_cases hm:a.To∈p
    ·have e:∀ k',dfsF (dfs f k') p a=p:=fun k'=>by simp [dfsF,hm]
     simp only [e]
     obtain ⟨g1,⟨t,g2⟩,g3,g4,g5⟩:=ih hll p hp hpre hcl
     refine ⟨g1,⟨t,g2⟩,g3,fun b hb=>?_,g5⟩
     rcases List.mem_cons.1 hb with rfl | hb
     ·rw [g2]; exact List.mem_append_left _ hm
     ·exact g4 b hb
    ·have e:∀ k',dfsF (dfs f k') p a=dfs f k' p a.To:=fun k'=>by simp [dfsF,hm]
     obtain ⟨t0,hpre⟩:=hpre
     have hpl:o.length+1≤p.length:=by rw [hpre]; simp
     obtain ⟨d1,⟨t1,d2⟩,d3,d4⟩:=dfs_ok hg k p a.To hp hla hm (by omega)
     have hsub:∀ u∈p,u∈dfs f k p a.To:=fun u hu=>by rw [d2]; exact List.mem_append_left _ hu
     obtain ⟨g1,⟨t,g2⟩,g3,g4,g5⟩:=ih hll (dfs f k p a.To) d1 ⟨t0++a.To::t1,by rw [d2,hpre]; simp⟩ (fun u hu h1 h2 b hb=>by
      by_cases hup:u∈p
      ·exact hsub _ (hcl u hup h1 h2 b hb)
      ·exact d3 u hu hup b hb)
     rw [e k]
     refine ⟨g1,⟨a.To::t1++t,by rw [g2,d2]; simp⟩,g3,fun b hb=>?_,fun k' hk'=>?_⟩
     ·rcases List.mem_cons.1 hb with rfl | hb
      ·rw [g2,d2]; simp
      ·exact g4 b hb
     ·rw [e k',d4 k' (by omega)]; exact g5 k' hk'
  have hla:∀ a∈sar f v,InG f a.To:=fun a ha=>by
   have h1:=(hg _ (nd_at hv).2).arc a (sar_mem.1 ha)
   exact ⟨h1.2.1,h1.2.2⟩
  obtain ⟨g1,⟨t,g2⟩,g3,g4,g5⟩:=key (sar f v) hla (o++[v]) hs1 ⟨[],rfl⟩ (fun u hu h1 h2=>by
   rcases List.mem_append.1 hu with hu | hu
   ·exact absurd hu h1
   ·simp at hu; exact absurd hu h2)
  refine ⟨g1,⟨t,by show (sar f v).foldl _ _=_; rw [g2]; simp⟩,fun u hu h1 a ha=>?_,fun k' hk'=>?_⟩
  ·by_cases e:u=v
   ·subst e; exact g4 a (sar_mem.2 ha)
   ·exact g3 u hu h1 e a ha
  ·cases k' with
   | zero=>omega
   | succ k'=>exact g5 k' (by omega)
def ordG (f:GFS) (r:Int):List Int:=dfs f f.Nodes.length [] r
theorem Seen.nil (f:GFS):Seen f []:=⟨List.nodup_nil,fun v hv=>by cases hv⟩
structure OrdOk (f:GFS) (r:Int) (o:List Int):Prop where
 seen:Seen f o
 head:∃ t,o=r::t
 clo:∀ u∈o,∀ a∈(nd f u).Arcs,a.To∈o
theorem ordG_ok {f:GFS} (hg:GOK f) {r:Int} (hr:InG f r):OrdOk f r (ordG f r)∧∀ k,f.Nodes.length≤k→dfs f k [] r=ordG f r:=by
 obtain ⟨h1,⟨t,h2⟩,h3,h4⟩:=dfs_ok hg f.Nodes.length [] r (Seen.nil f) hr (by simp) (by simp)
 exact ⟨⟨h1,⟨t,by have h5:=h2; rw [List.nil_append] at h5; exact h5⟩,fun u hu=>h3 u hu (by simp)⟩,fun k hk=>h4 k (by simpa using hk)⟩
def arcC (o:List Int) (a:GArc):GArc:=⟨a.Feat,(o.idxOf a.To:Int)⟩
def nodeC (f:GFS) (o:List Int) (v:Int):GNode:=⟨(nd f v).Typex,(sar f v).map (arcC o)⟩
def canonG (f:GFS) (r:Int):GFS:=⟨(ordG f r).map (nodeC f (ordG f r))⟩
structure Rep (w:MapL Int Int) (o:List Int):Prop where
 inv:MInv w
 get:∀ x,aget x w.es=if x∈o then some (o.idxOf x:Int) else none
theorem beqI (a b:Int):(a == b)=true↔a=b:=by simp
theorem Rep.nil:Rep (mNew:MapL Int Int) []:=⟨⟨by simp [mNew],by simp [mNew],by simp [mNew]⟩,fun x=>by simp [mNew,aget]⟩
theorem Rep.snoc {w:MapL Int Int} {o:List Int} (h:Rep w o) {v:Int} (hv:v ∉ o):Rep (mUpd (fun a b=>a == b) w v (o.length:Int)) (o++[v]):=by
 obtain ⟨h1,h2⟩:=upd_ok (eq:=fun a b:Int=>a == b) beqI h.inv v (o.length:Int)
 refine ⟨h1,fun x=>?_⟩
 rw [h2,h.get]
 by_cases e:x=v
 ·subst e
  simp [List.idxOf_append,hv]
 ·by_cases hx:x∈o
  ·simp [e,hx,List.idxOf_append]
  ·simp [e,hx]
theorem Rep.mget {w:MapL Int Int} {o:List Int} (h:Rep w o) (x:Int):mGet (fun a b=>a == b) w x=if x∈o then some (o.idxOf x:Int) else none:=by
 rw [mGet_get (eq:=fun a b:Int=>a == b) beqI,h.get]
theorem visit_ok {f:GFS} {k:Nat} (hg:GOK f) (hf:Small f k) (hk:k≤1000000):∀ (n:Nat) (o:List Int) (v:Int) (w:MapL Int Int),Seen f o→InG f v→v ∉ o→Rep w o→f.Nodes.length - o.length+k+2≤n →
  ∃ w',q0r n v f.Nodes o w=some (dfs f n o v,w')∧Rep w' (dfs f n o v)
 | 0,o,v,w,hs,hv,hn,hw,hfu=>by omega
 | n+1,o,v,w,hs,hv,hn,hw,hfu=>by
  have hs1:=hs.snoc hv hn
  have hl1:=hs1.len
  simp only [List.length_append,List.length_cons,List.length_nil] at hl1
  obtain ⟨hx,hxm⟩:=nd_at hv
  have hno:=hg _ hxm
  have hal:=hf.arcs _ hxm
  have hnl:=hf.nodes
  have hsl:(sar f v).length=(nd f v).Arcs.length:=(qb9 _).length_eq
  have key:∀ (m i:Nat) (p:List Int) (w:MapL Int Int),(sar f v).length - i<m→i≤(sar f v).length→Seen f p→o.length+1≤p.length→Rep w p →
    ∃ w',q0o f.Nodes (sar f v) (q0r n) m i p w=some (((sar f v).drop i).foldl (dfsF (dfs f n)) p,w')∧Rep w' (((sar f v).drop i).foldl (dfsF (dfs f n)) p):=by
   intro m
   induction m with
   | zero=>intro i p w hm; omega
   | succ m ih =>
    intro i p w hm hi hp hpl hw
    unfold q0o
    by_cases hlt:i<(sar f v).length
    ·obtain ⟨a,ha,ham⟩:=get_of hlt
     have h1:=hno.arc a (sar_mem.1 ham)
     have hw1:IntKind.i64.wrap ((i:Int)+1)=((i+1:Nat):Int):=wr1 hlt (by omega)
     simp only [dlt hlt,cond_true,q6f,ha,q2q,hw.mget,drop_cons' ha,List.foldl_cons]
     by_cases hm2:a.To∈p
     ·simp only [hm2,if_true,Option.isSome_some,Bool.not_true,cond_false,q1f,hw1,dfsF]
      exact ih (i+1) p w (by omega) (by omega) hp hpl hw
     ·simp only [hm2,if_false,Option.isSome_none,Bool.not_false,cond_true,q1f,hw1,dfsF]
      obtain ⟨w1,g1,g2⟩:=visit_ok hg hf hk n p a.To w hp ⟨h1.2.1,h1.2.2⟩ hm2 hw (by omega)
      obtain ⟨d1,⟨t,d2⟩,_,_⟩:=dfs_ok hg n p a.To hp ⟨h1.2.1,h1.2.2⟩ hm2 (by omega)
      simp only [g1,q2q]
      exact ih (i+1) _ w1 (by omega) (by omega) d1 (by rw [d2]; simp; omega) g2
    ·rw [drop_nil' hlt]
     simp only [dnlt hlt,cond_false,q25,List.foldl_nil]
     exact ⟨w,rfl,hw⟩
  have hneed:(o.length+1)*8≤140737488355328∧o.length+1≤140737488355328:=by omega
  obtain ⟨w',g1,g2⟩:=key n 0 (o++[v]) _ (by omega) (by omega) hs1 (by simp) (hw.snoc hn)
  rw [Int.ofNat_zero,List.drop_zero] at g1
  rw [List.drop_zero] at g2
  refine ⟨w',?_,g2⟩
  show q1y n (q0r n) v f.Nodes o w=_
  simp only [q1y,needO,hneed,and_self,if_true,hx,q2q,q1l,sorted_ok (show (nd f v).Arcs.length≤1000000 by omega) hno.dis (show (nd f v).Arcs.length<n by omega)]
  exact g1
theorem set_at {α:Type} (a b:List α) (x y:α):(a++x::b).set a.length y=a++y::b:=by simp
theorem build_L2 {f:GFS} {o:List Int} {w:MapL Int Int} {z:Int} {l15:List GNode} {rc:Int→List GNode→Option GFS} {x:Int} {l:List GArc} (hl:l.length≤1000000) (hw:Rep w o) (hin:∀ a∈l,a.To∈o):∀ (m i:Nat),l.length - i<m→i≤l.length →
  q1m f (o,w) z l15 rc x l m i ((l.take i).map (arcC o)++l.drop i)=q2m f (o,w) z l15 rc x (l.map (arcC o))
 | 0,i,hm,_=>by omega
 | m+1,i,hm,hi=>by
  unfold q1m
  by_cases hlt:i<l.length
  ·obtain ⟨a,ha,ham⟩:=get_of hlt
   have e1:(((l.take i).map (arcC o)++l.drop i))[i]? = some a:=by
    rw [List.getElem?_append_right (by simp; omega)]
    simp [show min i l.length=i by omega,ha]
   have e2:(((l.take i).map (arcC o)++l.drop i)).set (0+(i:Int).toNat) (arcC o a)=(l.take (i+1)).map (arcC o)++l.drop (i+1):=by
    rw [drop_cons' ha,q8s ha]
    have h3:((l.take i).map (arcC o)).length=i:=by simp; omega
    have:=set_at ((l.take i).map (arcC o)) (l.drop (i+1)) a (arcC o a)
    rw [h3] at this
    rw [Nat.zero_add,Int.toNat_natCast,this,List.map_append,List.map_cons,List.map_nil,List.append_assoc]
    rfl
   have e3:(⟨a.Feat,((if a.To∈o then some (o.idxOf a.To:Int) else none).getD 0)⟩:GArc)=arcC o a:=by simp [hin a ham,arcC]
   simp only [dlt hlt,cond_true,q6f,e1,q2q,hw.mget,e3,e2,wr1 hlt (show l.length≤9223372036854775807 by omega)]
   exact build_L2 hl hw hin m (i+1) (by omega) (by omega)
  ·simp only [dnlt hlt,cond_false]
   rw [List.take_of_length_le (by omega),List.drop_eq_nil_of_le (by omega),List.append_nil]
theorem build_L1 {f:GFS} {k:Nat} (hg:GOK f) (hf:Small f k) (hk:k≤1000000) {n:Nat} (hn:k+2≤n) {r:Int} {o:List Int} {w:MapL Int Int} (ho:OrdOk f r o) (hw:Rep w o):∀ (m i:Nat),o.length - i<m→i≤o.length →
  q14 f n (o,w) m i ((o.take i).map (nodeC f o)++List.replicate (o.length - i) (GNode.mk 0 []))=some ⟨o.map (nodeC f o)⟩
 | 0,i,hm,_=>by omega
 | m+1,i,hm,hi=>by
  have hol:=ho.seen.len
  have hnl:=hf.nodes
  unfold q14
  by_cases hlt:i<o.length
  ·obtain ⟨v,hv,hvm⟩:=get_of hlt
   obtain ⟨hx,hxm⟩:=nd_at (ho.seen.ing v hvm)
   have hno:=hg _ hxm
   have hal:=hf.arcs _ hxm
   have hsl:(sar f v).length=(nd f v).Arcs.length:=(qb9 _).length_eq
   have h2:=build_L2 (f:=f) (z:=(i:Int)) (l15:=(o.take i).map (nodeC f o)++List.replicate (o.length - i) (GNode.mk 0 [])) (rc:=q14 f n (o,w) m) (x:=v) (l:=sar f v) (by omega) hw (fun a ha=>ho.clo v hvm a (sar_mem.1 ha)) n 0 (by omega) (by omega)
   rw [Int.ofNat_zero,List.take_zero,List.map_nil,List.nil_append,List.drop_zero] at h2
   have h3:((o.take i).map (nodeC f o)).length=i:=by simp; omega
   have e0:o.length - i=(o.length - (i+1))+1:=by omega
   have e1:idxV ((o.take i).map (nodeC f o)++List.replicate (o.length - i) (GNode.mk 0 [])) 0 ((o.length:Int).toNat) (i:Int)=some (GNode.mk 0 []):=by
    have hi:0≤(i:Int)∧(i:Int)<(((o.length:Int).toNat:Nat):Int):=by rw [Int.toNat_natCast]; omega
    rw [idxV,if_pos hi,Nat.zero_add,Int.toNat_natCast,List.getElem?_append_right (by omega),h3,e0]
    simp
   have e2:((o.take i).map (nodeC f o)++List.replicate (o.length - i) (GNode.mk 0 [])).set (i:Int).toNat (nodeC f o v)=(o.take (i+1)).map (nodeC f o)++List.replicate (o.length - (i+1)) (GNode.mk 0 []):=by
    rw [e0,List.replicate_succ,q8s hv]
    have:=set_at ((o.take i).map (nodeC f o)) (List.replicate (o.length - (i+1)) (GNode.mk 0 [])) (GNode.mk 0 []) (nodeC f o v)
    rw [h3] at this
    simp only [Int.toNat_natCast]
    rw [this]
    simp
   have e3:(⟨(nd f v).Typex,(sar f v).map (arcC o)⟩:GNode)=nodeC f o v:=rfl
   have hso:=sorted_ok (show (nd f v).Arcs.length≤1000000 by omega) hno.dis (show (nd f v).Arcs.length<n by omega)
   simp only [dlt hlt,cond_true,q6f,hv,hx,q2q,q1l,hso]
   show q1m f (o,w) i _ _ v (sar f v) n 0 (sar f v)=_
   rw [h2]
   simp only [q2m,hx,q2q,e1,e3,wr1 hlt (show o.length≤9223372036854775807 by omega)]
   rw [e2]
   exact build_L1 hg hf hk hn ho hw m (i+1) (by omega) (by omega)
  ·have e:((o.length:Int)).toNat=((o.take i).map (nodeC f o)++List.replicate (o.length - i) (GNode.mk 0 [])).length:=by simp; omega
   simp only [dnlt hlt,cond_false,q39,needO,← e,if_true]
   rw [List.take_of_length_le (by omega),show o.length - i=0 by omega]
   simp
theorem canonical_ok {f:GFS} {k:Nat} (hg:GOK f) (hf:Small f k) (hk:k≤1000000) {r:Int} (hr:InG f r) {n:Nat} (hn:2*k+4≤n):q24 n f r=some (canonG f r):=by
 obtain ⟨ho,hst⟩:=ordG_ok hg hr
 have hnl:=hf.nodes
 obtain ⟨w,g1,g2⟩:=visit_ok hg hf hk n [] r mNew (Seen.nil f) hr (by simp) Rep.nil (by simp; omega)
 rw [hst n (by omega)] at g1 g2
 have hol:=ho.seen.len
 have h1:=build_L1 hg hf hk (show k+2≤n by omega) ho g2 n 0 (by omega) (by omega)
 rw [Int.ofNat_zero,List.take_zero,List.map_nil,List.nil_append,Nat.sub_zero] at h1
 have hneed:0≤((ordG f r).length:Int)∧32*((ordG f r).length:Int).toNat≤281474976710656∧((ordG f r).length:Int)≤281474976710656:=by simp; omega
 simp only [q24,g1,q2q,needO,hneed,and_self,if_true]
 rw [Int.toNat_natCast]
 exact h1
end Go.Proofs
end
section
namespace Go.Proofs
open Go Go.Rx Go.Vx Go.Shelf Go.Sort
set_option linter.unusedVariables false
set_option linter.unusedSimpArgs false
set_option maxRecDepth 10000
def errA (N:Nat) (seen:List Int):List GArc→Int
 | []=>0
 | a::l=>if a.Feat<0∨a.To<0∨a.To ≥ (N:Int) then 2 else if a.Feat∈seen then 4 else errA N (a.Feat::seen) l
def errN (N:Nat) (x:GNode):Int:=if x.Typex<0 then 2 else errA N [] x.Arcs
structure RepB (w:MapL Int Bool) (o:List Int):Prop where
 inv:MInv w
 get:∀ x,aget x w.es=if x∈o then some true else none
theorem RepB.nil:RepB (mNew:MapL Int Bool) []:=⟨⟨by simp [mNew],by simp [mNew],by simp [mNew]⟩,fun x=>by simp [mNew,aget]⟩
theorem RepB.cons {w:MapL Int Bool} {o:List Int} (h:RepB w o) (v:Int):RepB (mUpd (fun a b=>a == b) w v true) (v::o):=by
 obtain ⟨h1,h2⟩:=upd_ok (eq:=fun a b:Int=>a == b) beqI h.inv v true
 refine ⟨h1,fun x=>?_⟩
 rw [h2,h.get]
 by_cases e:x=v
 ·simp [e]
 ·by_cases hx:x∈o<;>simp [e,hx]
theorem RepB.mget {w:MapL Int Bool} {o:List Int} (h:RepB w o) (x:Int):(mGet (fun a b=>a == b) w x).getD false=decide (x∈o):=by
 rw [mGet_get (eq:=fun a b:Int=>a == b) beqI,h.get]
 by_cases hx:x∈o<;>simp [hx]
theorem nodeErr_L {x:GNode} {N:Nat} (hl:x.Arcs.length≤1000000):∀ (m i:Nat) (w:MapL Int Bool) (o:List Int),x.Arcs.length - i<m→i≤x.Arcs.length→RepB w o →
  q2n x N m i w=some (errA N o (x.Arcs.drop i))
 | 0,i,w,o,hm,_,_=>by omega
 | m+1,i,w,o,hm,hi,hw=>by
  unfold q2n
  by_cases hlt:i<x.Arcs.length
  ·obtain ⟨a,ha,_⟩:=get_of hlt
   simp only [dlt hlt,cond_true,q6f,ha,q2q,drop_cons' ha,errA,hw.mget,wr1 hlt (show x.Arcs.length≤9223372036854775807 by omega)]
   by_cases h1:a.Feat<0
   ·simp [h1,q2q]
   ·by_cases h2:a.To<0
    ·simp [h1,h2,q2q]
    ·by_cases h3:a.To ≥ (N:Int)
     ·simp [h1,h2,h3,q2q]
     ·simp only [h1,h2,h3,decide_false,cond_false,q2q,or_self,if_false]
      by_cases h4:a.Feat∈o
      ·simp [h4]
      ·simp only [h4,decide_false,cond_false,if_false]
       exact nodeErr_L hl m (i+1) _ _ (by omega) (by omega) (hw.cons _)
  ·simp only [dnlt hlt,cond_false,q3t,drop_nil' hlt,errA]
theorem nodeErr_ok {x:GNode} {N n:Nat} (hl:x.Arcs.length≤1000000) (hn:x.Arcs.length<n):q34 n x N=some (errN N x):=by
 have h:=nodeErr_L (N:=N) hl n 0 mNew [] (by omega) (by omega) RepB.nil
 rw [Int.ofNat_zero,List.drop_zero] at h
 simp only [q34,h,errN]
 by_cases h1:x.Typex<0<;>simp [h1]
theorem errA_zero {N:Nat}:∀ {l:List GArc} {seen:List Int},errA N seen l=0↔(∀ a∈l,0≤a.Feat∧0≤a.To∧a.To<N)∧Dis l∧∀ a∈l,a.Feat ∉ seen
 | [],seen=>by simp [errA,Dis]
 | a::l,seen=>by
  simp only [errA]
  by_cases h1:a.Feat<0∨a.To<0∨a.To ≥ (N:Int)
  ·simp only [h1,if_true]
   refine ⟨fun h=>absurd h (by decide),fun h=>?_⟩
   have:=h.1 a (by simp)
   omega
  ·by_cases h2:a.Feat∈seen
   ·simp only [h1,h2,if_true,if_false]
    exact ⟨fun h=>absurd h (by decide),fun h=>absurd h2 (h.2.2 a (by simp))⟩
   ·simp only [h1,h2,if_false]
    rw [errA_zero (l:=l)]
    unfold Dis
    rw [List.pairwise_cons]
    constructor
    ·rintro ⟨g1,g2,g3⟩
     refine ⟨fun b hb=>?_,⟨fun b hb=>?_,g2⟩,fun b hb=>?_⟩
     ·rcases List.mem_cons.1 hb with rfl | hb
      ·omega
      ·exact g1 b hb
     ·have:=g3 b hb
      simp only [List.mem_cons,not_or] at this
      exact fun e=>this.1 e.symm
     ·rcases List.mem_cons.1 hb with rfl | hb
      ·exact h2
      ·have:=g3 b hb
       simp only [List.mem_cons,not_or] at this
       exact this.2
    ·rintro ⟨g1,⟨g2,g3⟩,g4⟩
     refine ⟨fun b hb=>g1 b (by simp [hb]),g3,fun b hb=>?_⟩
     simp only [List.mem_cons,not_or]
     exact ⟨fun e=>g2 b hb e.symm,g4 b (by simp [hb])⟩
theorem qag {N:Nat} {x:GNode}:errN N x=0↔NOk x N:=by
 unfold errN
 by_cases h:x.Typex<0
 ·simp only [h,if_true]
  exact ⟨fun h=>absurd h (by decide),fun h'=>by have:=h'.ty; omega⟩
 ·simp only [h,if_false]
  rw [errA_zero]
  exact ⟨fun ⟨h1,h2,_⟩=>⟨by omega,h2,h1⟩,fun h=>⟨h.arc,h.dis,fun _ _=>by simp⟩⟩
def errL (N:Nat):List GNode→Int
 | []=>0
 | x::l=>if errN N x≠0 then errN N x else errL N l
theorem qaf {N:Nat}:∀ {l:List GNode},errL N l=0↔∀ x∈l,NOk x N
 | []=>by simp [errL]
 | x::l=>by
  simp only [errL]
  by_cases h:errN N x=0
  ·simp only [h,ne_eq,not_true,if_false,qaf (l:=l),List.mem_cons,forall_eq_or_imp,qag.1 h,true_and]
  ·simp only [h,ne_eq,not_false_eq_true,if_true,List.mem_cons,forall_eq_or_imp,false_iff,not_and]
   exact fun h2=>absurd (qag.2 h2) h
def errG (f:GFS):Int:=if f.Nodes.length=0 then 1 else if f.Nodes.length > 4096 then 7 else errL f.Nodes.length f.Nodes
theorem Canon_L {f:GFS} {k:Nat} (hf:Small f k) (hk:k≤1000000) {n:Nat} (hn:2*k+4≤n) (h0:0<f.Nodes.length) (hfull:errL f.Nodes.length f.Nodes=0→GOK f):∀ (m i:Nat),f.Nodes.length - i<m→i≤f.Nodes.length→(∀ x∈f.Nodes.take i,NOk x f.Nodes.length) →
  q30 f n m i=some (if errL f.Nodes.length (f.Nodes.drop i)=0 then (canonG f 0,0) else (⟨[]⟩,errL f.Nodes.length (f.Nodes.drop i)))
 | 0,i,hm,_,_=>by omega
 | m+1,i,hm,hi,hok=>by
  have hnl:=hf.nodes
  unfold q30
  by_cases hlt:i<f.Nodes.length
  ·obtain ⟨x,hx,hxm⟩:=get_of hlt
   have hal:=hf.arcs x hxm
   simp only [dlt hlt,cond_true,q6f,hx,q2q,nodeErr_ok (N:=f.Nodes.length) (show x.Arcs.length≤1000000 by omega) (show x.Arcs.length<n by omega),drop_cons' hx,errL,wr1 hlt (show f.Nodes.length≤9223372036854775807 by omega)]
   by_cases h:errN f.Nodes.length x=0
   ·simp only [h,bne_self_eq_false,cond_false,ne_eq,not_true,if_false]
    refine Canon_L hf hk hn h0 hfull m (i+1) (by omega) (by omega) fun y hy=>?_
    rw [q8s hx] at hy
    rcases List.mem_append.1 hy with hy | hy
    ·exact hok y hy
    ·simp at hy; subst hy; exact qag.1 h
   ·have hb:(errN f.Nodes.length x != 0)=true:=by simpa using h
    simp only [hb,cond_true,h,ne_eq,not_false_eq_true,if_true,if_false]
  ·simp only [dnlt hlt,cond_false,q3q,drop_nil' hlt,errL,if_true]
   have hg:GOK f:=fun x hx=>hok x (by rw [List.take_of_length_le (by omega)]; exact hx)
   rw [canonical_ok hg hf hk ⟨by omega,by omega⟩ hn,q2q]
theorem Canon_ok {f:GFS} {k:Nat} (hf:Small f k) (hk:k≤1000000) {n:Nat} (hn:2*k+4≤n):q1v n f=some (if errG f=0 then (canonG f 0,0) else (⟨[]⟩,errG f)):=by
 have hnl:=hf.nodes
 unfold q1v errG
 by_cases h0:f.Nodes.length=0
 ·simp [h0]
 ·have e0:((f.Nodes.length:Int) == 0)=false:=by simp; intro h; simp [h] at h0
  simp only [e0,cond_false,h0,if_false]
  by_cases h1:f.Nodes.length > 4096
  ·have:(f.Nodes.length:Int) > 4096:=by omega
   simp [h1,this]
  ·have:¬ (f.Nodes.length:Int) > 4096:=by omega
   simp only [h1,this,decide_false,cond_false,if_false]
   have h:=Canon_L hf hk hn (by omega) (fun h=>qaf.1 h) n 0 (by omega) (by omega) (by simp)
   rw [Int.ofNat_zero,List.drop_zero] at h
   exact h
theorem errG_zero {f:GFS}:errG f=0↔f.Nodes.length≠0∧f.Nodes.length≤4096∧GOK f:=by
 unfold errG
 by_cases h0:f.Nodes.length=0
 ·simp [h0]
 ·by_cases h1:f.Nodes.length > 4096
  ·simp [h0,h1]; intro _; omega
  ·simp only [h0,h1,if_false,qaf]
   exact ⟨fun h=>⟨by simpa using h0,by omega,h⟩,fun h=>h.2.2⟩
structure Sim (f g:GFS) (π:Int→Int) (S:Int→Prop):Prop where
 clo:∀ v,S v→∀ a∈sar f v,S a.To
 inj:∀ u v,S u→S v→π u=π v→u=v
 ty:∀ v,S v→(nd g (π v)).Typex=(nd f v).Typex
 arc:∀ v,S v→sar g (π v)=(sar f v).map fun a=>⟨a.Feat,π a.To⟩
end Go.Proofs
end
section
namespace Go.Proofs
open Go Go.Rx Go.Vx Go.Shelf Go.Sort
set_option linter.unusedVariables false
set_option linter.unusedSimpArgs false
set_option maxRecDepth 10000
structure Pl (N:Nat) (p:List Int):Prop where
 len:p.length=N
 nd:p.Nodup
 ing:∀ v∈p,0≤v∧v<N
 root:0<N→p[0]? = some 0
def idN (N:Nat):List Int:=(List.range N).map fun (i:Nat)=>(i:Int)
theorem idN_get {N i:Nat} (h:i<N):(idN N)[i]? = some (i:Int):=by simp [idN,h]
theorem Pl.id (N:Nat):Pl N (idN N):=⟨by simp [idN],by
 unfold idN
 rw [List.Nodup,List.pairwise_map]
 exact List.nodup_range.imp fun {a b} h e=>h (Int.ofNat.inj e),fun v hv=>by
 simp only [idN,List.mem_map,List.mem_range] at hv
 obtain ⟨i,hi,rfl⟩:=hv
 omega,fun h=>idN_get h⟩
end Go.Proofs
end
section
namespace Go.Proofs
open Go Go.Rx Go.Vx Go.Shelf Go.Sort
set_option linter.unusedVariables false
set_option linter.unusedSimpArgs false
set_option maxRecDepth 10000
inductive Rch (f:GFS):Int→Int→Prop
 | one {u:Int} {a:GArc}:a∈(nd f u).Arcs→Rch f u a.To
 | snoc {u v:Int} {a:GArc}:Rch f u v→a∈(nd f v).Arcs→Rch f u a.To
theorem Rch.trans {f:GFS} {u v w:Int} (h:Rch f u v) (h':Rch f v w):Rch f u w:=by
 induction h' with
 | one ha=>exact .snoc h ha
 | snoc _ ha ih=>exact .snoc ih ha
end Go.Proofs
end
section
namespace Go.Proofs
open Go Go.Rx Go.Vx Go.Shelf Go.Sort
set_option linter.unusedVariables false
set_option linter.unusedSimpArgs false
set_option maxRecDepth 10000
structure RepN (f:GFS) (w:List Int) (o:List Int):Prop where
 len:w.length=f.Nodes.length
 get:∀ x,InG f x→idxO w x=some (if x∈o then (o.idxOf x:Int) else -1)
theorem RepN.snoc {f:GFS} {w o:List Int} (h:RepN f w o) {v:Int} (hv:InG f v) (hn:v ∉ o):RepN f (w.set (0+v.toNat) (o.length:Int)) (o++[v]):=by
 refine ⟨by simp [h.len],fun x hx=>?_⟩
 have hvl:v.toNat<w.length:=by rw [h.len]; have:=hv.1; have:=hv.2; omega
 have hc:0≤x∧x<((w.set (0+v.toNat) (o.length:Int)).length:Int):=by rw [List.length_set,h.len]; exact hx
 have h2:=h.get x hx
 have hc2:0≤x∧x<(w.length:Int):=by rw [h.len]; exact hx
 rw [idxO,if_pos hc2] at h2
 rw [idxO,if_pos hc,Nat.zero_add]
 by_cases e:x=v
 ·subst e
  simp [List.idxOf_append,hn,hvl]
 ·rw [List.getElem?_set_ne (by have:=hx.1; have:=hv.1; omega),h2]
  by_cases hxo:x∈o
  ·simp [hxo,List.idxOf_append]
  ·simp [hxo,e]
end Go.Proofs
end
section
namespace Go.Proofs
open Go Go.Rx Go.Vx Try
set_option maxRecDepth 10000
set_option linter.unusedSimpArgs false
set_option linter.unusedVariables false
def q26 (z26:Int) (rc1:Int→(List Int)→(MapL Int Int)→Option ((List Int)×(MapL Int Int))) (l37:List Int) (w39:MapL Int Int):Option ((List Int)×(MapL Int Int)) :=
 rc1 (IntKind.i64.wrap (z26+1)) l37 w39
def q2y  (l30:List Int) (w32:MapL Int Int):Option ((List Int)×(MapL Int Int)) :=
 some (l30,w32)
def q13 (p5:List GNode) (r13:(List GArc)) (self:Int→(List Int)→(MapL Int Int)→(List GNode)→Option ((List Int)×(MapL Int Int))):Nat→Int→(List Int)→(MapL Int Int)→Option ((List Int)×(MapL Int Int))
 | 0,_,_,_=>none
 | m1+1,z26,l27,w29 =>
  cond (decide (z26<(r13.length:Int)))
   (bindO (idxO r13 z26) fun x34 =>
   cond (!((mGet (fun a b=>a == b) w29 x34.To).isSome))
    (bindO (self x34.To l27 w29 p5) fun r40 =>
    q26 z26 (q13 p5 r13 self m1) r40.1 r40.2)
    (q26 z26 (q13 p5 r13 self m1) l27 w29))
   (q2y l27 w29)
def q36 (n:Nat) (self:Int→(List Int)→(MapL Int Int)→(List GNode)→Option ((List Int)×(MapL Int Int))) (p1:Int) (p2:List Int) (p4:MapL Int Int) (p5:List GNode):Option ((List Int)×(MapL Int Int)) :=
 needO ((p2.length+1)*8≤140737488355328∧p2.length+1≤140737488355328) (
 bindO (idxO p5 p1) fun x8 =>
 bindO (q1l n x8.Arcs) fun r10 =>
 bindO (q0x n r10) fun r13 =>
 q13 p5 r13 self n 0 (p2++[p1]) (mUpd (fun a b=>a == b) p4 p1 (p2.length:Int)))
def q1k:Nat→Int→(List Int)→(MapL Int Int)→(List GNode)→Option ((List Int)×(MapL Int Int))
 | 0,_,_,_,_=>none
 | n+1,p1,p2,p4,p5=>q36 n (q1k n) p1 p2 p4 p5
theorem q4q:∀ (n:Nat) (p1:Int) (p2:List Int) (p4:MapL Int Int) (p5:List GNode) (r:(List Int)×(MapL Int Int)),q1k n p1 p2 p4 p5=some r→∀ t3 t6:Nat,EvU Try.prog 42 [.int .i64 p1,.ptr 0 0 0,.ptr 1 0 0,.ptr 2 0 0,.ptr 3 0 0] ⟨[(0,.row [.vl 4 t3 0 p2.length] 55),(1,.row [.map 5] 61),(2,.row [.vl 6 t6 0 p5.length] 25),(3,.row [.fn (.func 42) [] [.ptr 0 0 0,.ptr 1 0 0,.ptr 2 0 0,.ptr 3 0 0]] 62),(4,.vec (List.map (cI .i64) p2).flatten 3 1 t3),(5,.map (List.map (mE (fun x=>.int .i64 x) (fun x=>.int .i64 x)) p4.es) p4.cl),(6,.vec (List.map cGNode p5).flatten 43 2 t6)],7⟩ (fun u σ'=>∃ t:Nat→Nat,u = .tup []∧σ'=⟨[(0,.row [.vl 4 (t 0) 0 r.1.length] 55),(1,.row [.map 5] 61),(2,.row [.vl 6 t6 0 p5.length] 25),(3,.row [.fn (.func 42) [] [.ptr 0 0 0,.ptr 1 0 0,.ptr 2 0 0,.ptr 3 0 0]] 62),(4,.vec (List.map (cI .i64) r.1).flatten 3 1 (t 0)),(5,.map (List.map (mE (fun x=>.int .i64 x) (fun x=>.int .i64 x)) r.2.es) r.2.cl),(6,.vec (List.map cGNode p5).flatten 43 2 t6)],7⟩)
 | 0,p1,p2,p4,p5,r,hF=>by cases hF
 | n+1,p1,p2,p4,p5,r,hF=>by
  have ih:=q4q n
  unfold q1k q36 at hF
  intro t3 t6
  refine EvU.of_body Try.tb_ok fn42 rfl ?_
  refine WPU.ghost (tm':=fr 45 [(0,.int .i64 p1),(1,.ptr 0 0 0),(2,.ptr 1 0 0),(3,.ptr 2 0 0),(4,.ptr 3 0 0)]) (Gh.start (Nat.le_of_ble_eq_true rfl)) (Nat.le_refl _) ?_
  refine sr ?_
  refine RS.q (u:=.map 5) rfl (q05 und61 rfl rfl rfl rfl) (RS.mv rfl rfl rfl rfl (RS.q (u:=.vl 4 t3 0 p2.length) rfl (q05 und55 rfl rfl rfl rfl) (RS.q rfl (q1e rfl rfl rfl (q54 und55 rfl)) (RS.opn (u:=.junk) (σ':=⟨[(0,.row [.vl 4 t3 0 p2.length] 55),(1,.row [.map 5] 61),(2,.row [.vl 6 t6 0 p5.length] 25),(3,.row [.fn (.func 42) [] [.ptr 0 0 0,.ptr 1 0 0,.ptr 2 0 0,.ptr 3 0 0]] 62),(4,.vec (List.map (cI .i64) p2).flatten 3 1 t3),(5,.map (List.map (mE (fun x=>.int .i64 x) (fun x=>.int .i64 x)) (mUpd (fun a b=>a == b) p4 p1 (p2.length:Int)).es) (mUpd (fun a b=>a == b) p4 p1 (p2.length:Int)).cl),(6,.vec (List.map cGNode p5).flatten 43 2 t6)],7⟩) rfl (op_mup (kU:=(fun x=>.int .i64 x)) (vU:=(fun x=>.int .i64 x)) (m:=p4) (k:=p1) (v:=(p2.length:Int)) (q70 und3) und61 rfl rfl rfl rfl rfl) rfl ?_))))
  refine sd ?_
  obtain ⟨h7,hF⟩:=q2h hF
  refine sr ?_
  refine RS.q (u:=.vl 4 t3 0 p2.length) rfl (q05 und55 rfl rfl rfl rfl) (RS.mv rfl rfl rfl rfl (RS.q (u:=.sl 7 0 1 1) (σ':=⟨[(7,.row [.int .i64 p1] 3),(0,.row [.vl 4 t3 0 p2.length] 55),(1,.row [.map 5] 61),(2,.row [.vl 6 t6 0 p5.length] 25),(3,.row [.fn (.func 42) [] [.ptr 0 0 0,.ptr 1 0 0,.ptr 2 0 0,.ptr 3 0 0]] 62),(4,.vec (List.map (cI .i64) p2).flatten 3 1 t3),(5,.map (List.map (mE (fun x=>.int .i64 x) (fun x=>.int .i64 x)) (mUpd (fun a b=>a == b) p4 p1 (p2.length:Int)).es) (mUpd (fun a b=>a == b) p4 p1 (p2.length:Int)).cl),(6,.vec (List.map cGNode p5).flatten 43 2 t6)],8⟩) rfl (q1z und55 inf3 rfl rfl rfl rfl rfl rfl rfl) (RS.q (u:=.vl 4 (t3+1) 0 ((p2++[p1]).length)) (σ':=⟨[(7,.row [.int .i64 p1] 3),(0,.row [.vl 4 t3 0 p2.length] 55),(1,.row [.map 5] 61),(2,.row [.vl 6 t6 0 p5.length] 25),(3,.row [.fn (.func 42) [] [.ptr 0 0 0,.ptr 1 0 0,.ptr 2 0 0,.ptr 3 0 0]] 62),(4,.vec (List.map (cI .i64) (p2++[p1])).flatten 3 1 (t3+1)),(5,.map (List.map (mE (fun x=>.int .i64 x) (fun x=>.int .i64 x)) (mUpd (fun a b=>a == b) p4 p1 (p2.length:Int)).es) (mUpd (fun a b=>a == b) p4 p1 (p2.length:Int)).cl),(6,.vec (List.map cGNode p5).flatten 43 2 t6)],8⟩) rfl (q8i rfl rfl rfl rfl (q86 (cI .i64) ([p1]) und55 und55 inf3 rfl (q68 .i64) rfl (q6p (cI .i64) [p1] rfl rfl rfl rfl) h7)) (RS.opn (u:=.junk) (σ':=⟨[(7,.row [.int .i64 p1] 3),(0,.row [.vl 4 (t3+1) 0 ((p2++[p1]).length)] 55),(1,.row [.map 5] 61),(2,.row [.vl 6 t6 0 p5.length] 25),(3,.row [.fn (.func 42) [] [.ptr 0 0 0,.ptr 1 0 0,.ptr 2 0 0,.ptr 3 0 0]] 62),(4,.vec (List.map (cI .i64) (p2++[p1])).flatten 3 1 (t3+1)),(5,.map (List.map (mE (fun x=>.int .i64 x) (fun x=>.int .i64 x)) (mUpd (fun a b=>a == b) p4 p1 (p2.length:Int)).es) (mUpd (fun a b=>a == b) p4 p1 (p2.length:Int)).cl),(6,.vec (List.map cGNode p5).flatten 43 2 t6)],8⟩) rfl (q0e (q02 inf55) rfl rfl rfl rfl rfl rfl rfl rfl) rfl ?_))))
  refine sd ?_
  obtain ⟨x8,h9,hF⟩:=q00 hF
  obtain ⟨r10,h11,hF⟩:=q00 hF
  obtain ⟨r13,h14,hF⟩:=q00 hF
  refine sr ?_
  refine RS.q (u:=.ptr 2 0 0) rfl (q0z und25 rfl (q02 inf23) rfl rfl rfl) (RS.q (u:=.vl 6 t6 0 p5.length) rfl (q05 und23 rfl rfl rfl rfl) (RS.mv rfl rfl rfl rfl ?_))
  refine RS.q (u:=.ptr 6 t6 (0*2+p1.toNat*2)) rfl (q2t rfl rfl (q7r cGNode und23 (q02 inf43) (by decide) q0s (vo rfl) h9)) ?_
  refine RS.q (u:=.ptr 6 t6 (0*2+p1.toNat*2+1)) rfl (q0z und43 rfl (q02 inf41) rfl (qar rfl) rfl) (RS.q (u:=.isl false (List.map cGArc x8.Arcs)) rfl (ld_vf cGNode und41 rfl q0s rfl rfl (qan h9) rfl) ?_)
  refine RS.callx (R:=fun u σ'=>∃ t12:Nat→Nat,u = .fn (.func 55) [] [.iptr [.isl false (List.map cGArc r10)]]∧σ'=⟨[(7,.row [.int .i64 p1] 3),(0,.row [.vl 4 (t3+1) 0 ((p2++[p1]).length)] 55),(1,.row [.map 5] 61),(2,.row [.vl 6 t6 0 p5.length] 25),(3,.row [.fn (.func 42) [] [.ptr 0 0 0,.ptr 1 0 0,.ptr 2 0 0,.ptr 3 0 0]] 62),(4,.vec (List.map (cI .i64) (p2++[p1])).flatten 3 1 (t3+1)),(5,.map (List.map (mE (fun x=>.int .i64 x) (fun x=>.int .i64 x)) (mUpd (fun a b=>a == b) p4 p1 (p2.length:Int)).es) (mUpd (fun a b=>a == b) p4 p1 (p2.length:Int)).cl),(6,.vec (List.map cGNode p5).flatten 43 2 t6)],8⟩) (args:=[.isl false (List.map cGArc x8.Arcs)]) rfl (q01 rfl rfl fn44 hb44 rfl rfl) (EvU.st [] (q37 n x8.Arcs r10 h11 )) rfl rfl ?_
  rintro _ _ ⟨t12,rfl,rfl⟩
  refine RS.callx (R:=fun u σ'=>∃ t15:Nat→Nat,u = .vl 9 (t15 0) 0 r13.length∧σ'=⟨[(9,.vec (List.map cGArc r13).flatten 45 2 (t15 0)),(7,.row [.int .i64 p1] 3),(0,.row [.vl 4 (t3+1) 0 ((p2++[p1]).length)] 55),(1,.row [.map 5] 61),(2,.row [.vl 6 t6 0 p5.length] 25),(3,.row [.fn (.func 42) [] [.ptr 0 0 0,.ptr 1 0 0,.ptr 2 0 0,.ptr 3 0 0]] 62),(4,.vec (List.map (cI .i64) (p2++[p1])).flatten 3 1 (t3+1)),(5,.map (List.map (mE (fun x=>.int .i64 x) (fun x=>.int .i64 x)) (mUpd (fun a b=>a == b) p4 p1 (p2.length:Int)).es) (mUpd (fun a b=>a == b) p4 p1 (p2.length:Int)).cl),(6,.vec (List.map cGNode p5).flatten 43 2 t6)],10⟩) (args:=[.fn (.func 55) [] [.iptr [.isl false (List.map cGArc r10)]],.fn (.func 45) [] []]) rfl (q01 rfl rfl fn43 hb43 rfl rfl) (EvU.st [] (q2d n r10 r13 h14 )) rfl rfl ?_
  rintro _ _ ⟨t15,rfl,rfl⟩
  refine RS.q rfl (q1e rfl rfl rfl (q54 und41 rfl)) (RS.mv rfl rfl rfl rfl ?_)
  refine sd ?_
  refine WPU.ghost (tm':=fr 45 [(2,.ptr 1 0 0),(4,.ptr 3 0 0),(25,.vl 9 (t15 0) 0 r13.length),(26,.int .i64 (r13.length:Int)),(27,.int .i64 0)]) (Gh.sub ⟨rfl,rfl,rfl,rfl,rfl,trivial⟩) (Nat.le_of_ble_eq_true rfl) ?_
  refine WPU.loopK (fun m tm σ=>∃ z26:Int,∃ l27:List Int,∃ t28:Nat,∃ w29:MapL Int Int,q13 p5 r13 (q1k n) m z26 l27 w29=some r∧tm=fr 45 [(2,.ptr 1 0 0),(4,.ptr 3 0 0),(25,.vl 9 (t15 0) 0 r13.length),(26,.int .i64 (r13.length:Int)),(27,.int .i64 z26)]∧σ=⟨[(9,.vec (List.map cGArc r13).flatten 45 2 (t15 0)),(7,.row [.int .i64 p1] 3),(0,.row [.vl 4 t28 0 l27.length] 55),(1,.row [.map 5] 61),(2,.row [.vl 6 t6 0 p5.length] 25),(3,.row [.fn (.func 42) [] [.ptr 0 0 0,.ptr 1 0 0,.ptr 2 0 0,.ptr 3 0 0]] 62),(4,.vec (List.map (cI .i64) l27).flatten 3 1 t28),(5,.map (List.map (mE (fun x=>.int .i64 x) (fun x=>.int .i64 x)) w29.es) w29.cl),(6,.vec (List.map cGNode p5).flatten 43 2 t6)],10⟩) (fun tm σ=>∃ l30:List Int,∃ t31:Nat,∃ w32:MapL Int Int,q2y l30 w32=some r∧tm=fr 45 []∧σ=⟨[(9,.vec (List.map cGArc r13).flatten 45 2 (t15 0)),(7,.row [.int .i64 p1] 3),(0,.row [.vl 4 t31 0 l30.length] 55),(1,.row [.map 5] 61),(2,.row [.vl 6 t6 0 p5.length] 25),(3,.row [.fn (.func 42) [] [.ptr 0 0 0,.ptr 1 0 0,.ptr 2 0 0,.ptr 3 0 0]] 62),(4,.vec (List.map (cI .i64) l30).flatten 3 1 t31),(5,.map (List.map (mE (fun x=>.int .i64 x) (fun x=>.int .i64 x)) w32.es) w32.cl),(6,.vec (List.map cGNode p5).flatten 43 2 t6)],10⟩) n ⟨0,(p2++[p1]),(t3+1),(mUpd (fun a b=>a == b) p4 p1 (p2.length:Int)),hF,rfl,rfl⟩ ?_ ?_
  rintro _ _ ⟨l30,t31,w32,hF,rfl,rfl⟩
  unfold q2y at hF
  refine st ?_
  have hr:=Option.some.inj hF
  subst hr
  exact ⟨.inl rfl,[],q20,.tup [],⟨[(0,.row [.vl 4 t31 0 l30.length] 55),(1,.row [.map 5] 61),(2,.row [.vl 6 t6 0 p5.length] 25),(3,.row [.fn (.func 42) [] [.ptr 0 0 0,.ptr 1 0 0,.ptr 2 0 0,.ptr 3 0 0]] 62),(4,.vec (List.map (cI .i64) l30).flatten 3 1 t31),(5,.map (List.map (mE (fun x=>.int .i64 x) (fun x=>.int .i64 x)) w32.es) w32.cl),(6,.vec (List.map cGNode p5).flatten 43 2 t6)],7⟩,(Nat.le_of_ble_eq_true rfl),Gh.to (n1:=7) [] rfl rfl (Nat.le_of_ble_eq_true rfl) (Nat.le_of_ble_eq_true rfl) BUL.h BH.h,stF [t31],rfl,rfl⟩
  rintro m1 _ _ ⟨z26,l27,t28,w29,hF,rfl,rfl⟩
  rcases m1 with _ | m1
  cases hF
  unfold q13 at hF
  refine sr ?_
  refine RS.q rfl (q06 rfl rfl (q2s _ _ _) rfl) ?_
  refine sd ?_
  refine WPU.condS (t:=(decide (z26<(r13.length:Int)))) rfl (fun h33=>?_) (fun h33=>?_)
  replace hF:=q0q h33 hF
  refine st ?_
  refine WPU.skip ?_
  refine st ?_
  refine WPU.block ?_
  refine st ?_
  obtain ⟨x34,h35,hF⟩:=q00 hF
  refine sr ?_
  refine RS.q (u:=.ptr 9 (t15 0) (0*2+z26.toNat*2)) rfl (q2t rfl rfl (q7r cGArc und41 (q02 inf45) (by decide) q17 (vo rfl) h35)) ?_
  refine RS.q (u:=.agg (cGArc x34)) rfl (ld_vec cGArc und45 rfl (q02 inf45) q17 rfl rfl h35 rfl) (RS.q (u:=.ptr 10 0 0) (σ':=⟨[(10,.row [.int .i64 0,.int .i64 0] 45),(9,.vec (List.map cGArc r13).flatten 45 2 (t15 0)),(7,.row [.int .i64 p1] 3),(0,.row [.vl 4 t28 0 l27.length] 55),(1,.row [.map 5] 61),(2,.row [.vl 6 t6 0 p5.length] 25),(3,.row [.fn (.func 42) [] [.ptr 0 0 0,.ptr 1 0 0,.ptr 2 0 0,.ptr 3 0 0]] 62),(4,.vec (List.map (cI .i64) l27).flatten 3 1 t28),(5,.map (List.map (mE (fun x=>.int .i64 x) (fun x=>.int .i64 x)) w29.es) w29.cl),(6,.vec (List.map cGNode p5).flatten 43 2 t6)],11⟩) rfl (q0v inf45 rfl rfl) (RS.opn (u:=.junk) (σ':=⟨[(10,.row (cGArc x34) 45),(9,.vec (List.map cGArc r13).flatten 45 2 (t15 0)),(7,.row [.int .i64 p1] 3),(0,.row [.vl 4 t28 0 l27.length] 55),(1,.row [.map 5] 61),(2,.row [.vl 6 t6 0 p5.length] 25),(3,.row [.fn (.func 42) [] [.ptr 0 0 0,.ptr 1 0 0,.ptr 2 0 0,.ptr 3 0 0]] 62),(4,.vec (List.map (cI .i64) l27).flatten 3 1 t28),(5,.map (List.map (mE (fun x=>.int .i64 x) (fun x=>.int .i64 x)) w29.es) w29.cl),(6,.vec (List.map cGNode p5).flatten 43 2 t6)],11⟩) rfl (q0e (q02 inf45) rfl rfl rfl rfl rfl rfl rfl rfl) rfl ?_))
  refine se ?_
  refine RS.q (u:=.map 5) rfl (q05 und61 rfl rfl rfl rfl) (RS.q (u:=.ptr 10 0 1) rfl (q0z und45 rfl (q02 inf3) rfl rfl rfl) (RS.q (u:=.int .i64 x34.To) rfl (q05 und3 rfl rfl rfl rfl) (RS.q (u:=.tup [.int .i64 ((mGet (fun a b=>a == b) w29 x34.To).getD 0),.bool ((mGet (fun a b=>a == b) w29 x34.To).isSome)]) rfl (op_look2 (kU:=(fun x=>.int .i64 x)) (vU:=(fun x=>.int .i64 x)) (m:=w29) (k:=x34.To) (zv:=0) (q70 und3) und61 rfl rfl rfl inf3 rfl) (RS.mv rfl rfl rfl rfl (RS.q rfl (q62 rfl rfl) (RS.q rfl (q62 rfl rfl) ?_))))))
  repeat refine RS.as rfl rfl rfl rfl ?_
  refine se ?_
  refine RS.q (u:=.bool (!((mGet (fun a b=>a == b) w29 x34.To).isSome))) rfl (q8j rfl rfl rfl rfl) ?_
  refine sd ?_
  refine WPU.joinK (fun tm σ=>∃ l37:List Int,∃ t38:Nat,∃ w39:MapL Int Int,q26 z26 (q13 p5 r13 (q1k n) m1) l37 w39=some r∧tm=fr 45 [(2,.ptr 1 0 0),(4,.ptr 3 0 0),(25,.vl 9 (t15 0) 0 r13.length),(26,.int .i64 (r13.length:Int)),(27,.int .i64 z26)]∧σ=⟨[(10,.row (cGArc x34) 45),(9,.vec (List.map cGArc r13).flatten 45 2 (t15 0)),(7,.row [.int .i64 p1] 3),(0,.row [.vl 4 t38 0 l37.length] 55),(1,.row [.map 5] 61),(2,.row [.vl 6 t6 0 p5.length] 25),(3,.row [.fn (.func 42) [] [.ptr 0 0 0,.ptr 1 0 0,.ptr 2 0 0,.ptr 3 0 0]] 62),(4,.vec (List.map (cI .i64) l37).flatten 3 1 t38),(5,.map (List.map (mE (fun x=>.int .i64 x) (fun x=>.int .i64 x)) w39.es) w39.cl),(6,.vec (List.map cGNode p5).flatten 43 2 t6)],11⟩) ?_ ?_
  rintro _ _ ⟨l37,t38,w39,hF,rfl,rfl⟩
  unfold q26 at hF
  refine sr ?_
  refine RS.q rfl (q06 rfl rfl (q3w _ _ _) rfl) (RS.mv rfl rfl rfl rfl ?_)
  refine sd ?_
  exact ⟨m1,_,_,Nat.lt_succ_self _,⟨(IntKind.i64.wrap (z26+1)),l37,t38,w39,hF,rfl,rfl⟩,(Nat.le_of_ble_eq_true rfl),Gh.toC (n1:=10) ⟨rfl,rfl,rfl,rfl,rfl,trivial⟩ rfl (Nat.le_of_ble_eq_true rfl) (by simp)⟩
  refine WPU.condS (t:=(!((mGet (fun a b=>a == b) w29 x34.To).isSome))) rfl (fun h36=>?_) (fun h36=>?_)
  replace hF:=q0q h36 hF
  refine st ?_
  obtain ⟨r40,h41,hF⟩:=q00 hF
  refine sr ?_
  refine RS.q (u:=.fn (.func 42) [] [.ptr 0 0 0,.ptr 1 0 0,.ptr 2 0 0,.ptr 3 0 0]) rfl (q05 und62 rfl rfl rfl rfl) (RS.q (u:=.ptr 10 0 1) rfl (q0z und45 rfl (q02 inf3) rfl rfl rfl) (RS.q (u:=.int .i64 x34.To) rfl (q05 und3 rfl rfl rfl rfl) ?_))
  refine RS.callx (R:=fun u σ'=>∃ t42:Nat→Nat,u = .tup []∧σ'=⟨[(10,.row (cGArc x34) 45),(9,.vec (List.map cGArc r13).flatten 45 2 (t15 0)),(7,.row [.int .i64 p1] 3),(0,.row [.vl 4 (t42 0) 0 r40.1.length] 55),(1,.row [.map 5] 61),(2,.row [.vl 6 t6 0 p5.length] 25),(3,.row [.fn (.func 42) [] [.ptr 0 0 0,.ptr 1 0 0,.ptr 2 0 0,.ptr 3 0 0]] 62),(4,.vec (List.map (cI .i64) r40.1).flatten 3 1 (t42 0)),(5,.map (List.map (mE (fun x=>.int .i64 x) (fun x=>.int .i64 x)) r40.2.es) r40.2.cl),(6,.vec (List.map cGNode p5).flatten 43 2 t6)],11⟩) (args:=[.int .i64 x34.To,.ptr 0 0 0,.ptr 1 0 0,.ptr 2 0 0,.ptr 3 0 0]) rfl (q01 rfl rfl fn42 hb42 rfl rfl) (EvU.st [0,1,2,3,4,5,6] (ih x34.To l27 w29 p5 r40 h41 t28 t6)) rfl rfl ?_
  rintro _ _ ⟨t42,rfl,rfl⟩
  refine sd ?_
  exact ⟨_,_,⟨r40.1,(t42 0),r40.2,hF,rfl,rfl⟩,(Nat.le_of_ble_eq_true rfl),Gh.toC (n1:=11) ⟨rfl,rfl,rfl,rfl,rfl,trivial⟩ rfl (Nat.le_of_ble_eq_true rfl) (by simp)⟩
  replace hF:=q0p h36 hF
  refine st ?_
  refine WPU.skip ?_
  refine st ?_
  exact ⟨_,_,⟨l27,t28,w29,hF,rfl,rfl⟩,(Nat.le_of_ble_eq_true rfl),Gh.toC (n1:=11) ⟨rfl,rfl,rfl,rfl,rfl,trivial⟩ rfl (Nat.le_of_ble_eq_true rfl) (by simp)⟩
  replace hF:=q0p h33 hF
  refine st ?_
  refine WPU.exit ?_
  refine st ?_
  exact ⟨_,_,⟨l27,t28,w29,hF,rfl,rfl⟩,(Nat.le_of_ble_eq_true rfl),Gh.toC (n1:=10) trivial rfl (Nat.le_of_ble_eq_true rfl) (by simp)⟩
def q3c (p2:List GNode) (r4:(List Int)×(MapL Int Int)) (z16:Int) (l17:List GNode) (rc1:Int→(List GNode)→Option (Nat×(List GNode))) (x20:Int) (l46:List GArc):Option (Nat×(List GNode)) :=
 bindO (idxO p2 x20) fun x47 =>
 bindO (idxV l17 0 ((r4.1.length:Int).toNat) z16) fun x49 =>
 rc1 (IntKind.i64.wrap (z16+1)) (l17.set z16.toNat (GNode.mk x47.Typex l46))
def q21 (p2:List GNode) (r4:(List Int)×(MapL Int Int)) (z16:Int) (l17:List GNode) (rc1:Int→(List GNode)→Option (Nat×(List GNode))) (x20:Int) (r27:(List GArc)):Nat→Int→(List GArc)→Option (Nat×(List GNode))
 | 0,_,_=>none
 | m2+1,z44,l45 =>
  cond (decide (z44<(r27.length:Int)))
   (bindO (idxO l45 z44) fun x52 =>
   bindO (idxO l45 z44) fun x54 =>
   (q21 p2 r4 z16 l17 rc1 x20 r27 m2) (IntKind.i64.wrap (z44+1)) (l45.set (0+z44.toNat) (GArc.mk x54.Feat ((mGet (fun a b=>a == b) r4.2 x52.To).getD 0))))
   (q3c p2 r4 z16 l17 rc1 x20 l45)
def q3b (r4:(List Int)×(MapL Int Int)) (l18:List GNode):Option (Nat×(List GNode)) :=
 some ((r4.1.length:Int).toNat,l18)
def q1d (p2:List GNode) (n:Nat) (r4:(List Int)×(MapL Int Int)):Nat→Int→(List GNode)→Option (Nat×(List GNode))
 | 0,_,_=>none
 | m1+1,z16,l17 =>
  cond (decide (z16<(r4.1.length:Int)))
   (bindO (idxO r4.1 z16) fun x20 =>
   bindO (idxO p2 x20) fun x22 =>
   bindO (q1l n x22.Arcs) fun r24 =>
   bindO (q0x n r24) fun r27 =>
   q21 p2 r4 z16 l17 (q1d p2 n r4 m1) x20 r27 n 0 r27)
   (q3b r4 l17)
def q3a (n:Nat) (p1:Int) (p2:List GNode):Option (Nat×(List GNode)) :=
 bindO (q1k n p1 ([]:List Int) (mNew:MapL Int Int) p2) fun r4 =>
 needO (0≤(r4.1.length:Int)∧32*(r4.1.length:Int).toNat≤281474976710656∧(r4.1.length:Int)≤281474976710656) (
 q1d p2 n r4 n 0 (List.replicate (r4.1.length:Int).toNat (GNode.mk 0 [])))
theorem q7p (n:Nat) (p1:Int) (p2:List GNode) (r:Nat×(List GNode)) (hF:q3a n p1 p2=some r):∀ t3:Nat,EvU Try.prog 31 [.agg [.vl 0 t3 0 p2.length],.int .i64 p1] ⟨[(0,.vec (List.map cGNode p2).flatten 43 2 t3)],1⟩ (fun u σ'=>∃ t:Nat→Nat,u = .agg [.sl 8 0 r.1 r.1]∧σ'=⟨[(8,.row (List.map cGNode r.2).flatten 43),(0,.vec (List.map cGNode p2).flatten 43 2 t3)],9⟩):=by
 unfold q3a at hF
 intro t3
 refine EvU.of_body Try.tb_ok fn31 rfl ?_
 refine WPU.ghost (tm':=fr 68 [(0,.agg [.vl 0 t3 0 p2.length]),(1,.int .i64 p1)]) (Gh.start (Nat.le_of_ble_eq_true rfl)) (Nat.le_refl _) ?_
 refine sr ?_
 refine RS.q (u:=.ptr 1 0 0) (σ':=⟨[(1,.row [.vl 0 t3 0 p2.length] 25),(0,.vec (List.map cGNode p2).flatten 43 2 t3)],2⟩) rfl (q3u rfl rfl rfl) (RS.q (u:=.ptr 2 0 0) (σ':=⟨[(2,.row [.nils] 25),(1,.row [.vl 0 t3 0 p2.length] 25),(0,.vec (List.map cGNode p2).flatten 43 2 t3)],3⟩) rfl (q0v inf25 rfl rfl) ?_)
 refine se ?_
 refine RS.q (u:=.map 3) (σ':=⟨[(3,.map (List.map (mE (fun x=>.int .i64 x) (fun x=>.int .i64 x)) (mNew:MapL Int Int).es) (mNew:MapL Int Int).cl),(2,.row [.nils] 25),(1,.row [.vl 0 t3 0 p2.length] 25),(0,.vec (List.map cGNode p2).flatten 43 2 t3)],4⟩) rfl (op_mnew) (RS.q (u:=.ptr 4 0 0) (σ':=⟨[(4,.row [.nilm] 61),(3,.map (List.map (mE (fun x=>.int .i64 x) (fun x=>.int .i64 x)) (mNew:MapL Int Int).es) (mNew:MapL Int Int).cl),(2,.row [.nils] 25),(1,.row [.vl 0 t3 0 p2.length] 25),(0,.vec (List.map cGNode p2).flatten 43 2 t3)],5⟩) rfl (q0v inf61 rfl rfl) (RS.opn (u:=.junk) (σ':=⟨[(4,.row [.map 3] 61),(3,.map (List.map (mE (fun x=>.int .i64 x) (fun x=>.int .i64 x)) (mNew:MapL Int Int).es) (mNew:MapL Int Int).cl),(2,.row [.nils] 25),(1,.row [.vl 0 t3 0 p2.length] 25),(0,.vec (List.map cGNode p2).flatten 43 2 t3)],5⟩) rfl (q0e (q02 inf61) rfl rfl rfl rfl rfl rfl rfl rfl) rfl ?_))
 refine se ?_
 refine RS.q (u:=.ptr 5 0 0) (σ':=⟨[(5,.row [.nils] 55),(4,.row [.map 3] 61),(3,.map (List.map (mE (fun x=>.int .i64 x) (fun x=>.int .i64 x)) (mNew:MapL Int Int).es) (mNew:MapL Int Int).cl),(2,.row [.nils] 25),(1,.row [.vl 0 t3 0 p2.length] 25),(0,.vec (List.map cGNode p2).flatten 43 2 t3)],6⟩) rfl (q0v inf55 rfl rfl) ?_
 refine se ?_
 refine RS.q (u:=.ptr 6 0 0) (σ':=⟨[(6,.row [.nilf] 62),(5,.row [.nils] 55),(4,.row [.map 3] 61),(3,.map (List.map (mE (fun x=>.int .i64 x) (fun x=>.int .i64 x)) (mNew:MapL Int Int).es) (mNew:MapL Int Int).cl),(2,.row [.nils] 25),(1,.row [.vl 0 t3 0 p2.length] 25),(0,.vec (List.map cGNode p2).flatten 43 2 t3)],7⟩) rfl (q0v inf62 rfl rfl) ?_
 refine se ?_
 refine RS.q rfl (op_fun rfl rfl) (RS.opn (u:=.junk) (σ':=⟨[(6,.row [.fn (.func 42) [] [.ptr 5 0 0,.ptr 4 0 0,.ptr 1 0 0,.ptr 6 0 0]] 62),(5,.row [.nils] 55),(4,.row [.map 3] 61),(3,.map (List.map (mE (fun x=>.int .i64 x) (fun x=>.int .i64 x)) (mNew:MapL Int Int).es) (mNew:MapL Int Int).cl),(2,.row [.nils] 25),(1,.row [.vl 0 t3 0 p2.length] 25),(0,.vec (List.map cGNode p2).flatten 43 2 t3)],7⟩) rfl (q0e (q02 inf62) rfl rfl rfl rfl rfl rfl rfl rfl) rfl ?_)
 refine sd ?_
 refine WPU.ghost (tm':=fr 68 [(1,.int .i64 p1),(2,.ptr 1 0 0),(4,.ptr 2 0 0),(5,.ptr 4 0 0),(6,.ptr 5 0 0),(7,.ptr 6 0 0)]) (σ':=⟨[(7,.vec (List.map (cI .i64) ([]:List Int)).flatten 3 1 0),(6,.row [.fn (.func 42) [] [.ptr 5 0 0,.ptr 4 0 0,.ptr 1 0 0,.ptr 6 0 0]] 62),(5,.row [.vl 7 0 0 (([]:List Int).length)] 55),(4,.row [.map 3] 61),(3,.map (List.map (mE (fun x=>.int .i64 x) (fun x=>.int .i64 x)) (mNew:MapL Int Int).es) (mNew:MapL Int Int).cl),(2,.row [.nils] 25),(1,.row [.vl 0 t3 0 p2.length] 25),(0,.vec (List.map cGNode p2).flatten 43 2 t3)],8⟩) (Gh.trans (Gh.nilC 5 0 3 1 (by decide) (Nat.le_of_ble_eq_true rfl) rfl rfl) (Gh.eqS ⟨rfl,rfl,rfl,rfl,rfl,rfl,trivial⟩ rfl)) (Nat.le_of_ble_eq_true rfl) ?_
 refine st ?_
 obtain ⟨r4,h5,hF⟩:=q00 hF
 refine sr ?_
 refine RS.q (u:=.fn (.func 42) [] [.ptr 5 0 0,.ptr 4 0 0,.ptr 1 0 0,.ptr 6 0 0]) rfl (q05 und62 rfl rfl rfl rfl) (RS.mv rfl rfl rfl rfl ?_)
 refine RS.callx (R:=fun u σ'=>∃ t6:Nat→Nat,u = .tup []∧σ'=⟨[(7,.vec (List.map (cI .i64) r4.1).flatten 3 1 (t6 0)),(6,.row [.fn (.func 42) [] [.ptr 5 0 0,.ptr 4 0 0,.ptr 1 0 0,.ptr 6 0 0]] 62),(5,.row [.vl 7 (t6 0) 0 r4.1.length] 55),(4,.row [.map 3] 61),(3,.map (List.map (mE (fun x=>.int .i64 x) (fun x=>.int .i64 x)) r4.2.es) r4.2.cl),(2,.row [.nils] 25),(1,.row [.vl 0 t3 0 p2.length] 25),(0,.vec (List.map cGNode p2).flatten 43 2 t3)],8⟩) (args:=[.int .i64 p1,.ptr 5 0 0,.ptr 4 0 0,.ptr 1 0 0,.ptr 6 0 0]) rfl (q01 rfl rfl fn42 hb42 rfl rfl) (EvU.st [5,4,1,6,7,3,0] (q4q n p1 ([]:List Int) (mNew:MapL Int Int) p2 r4 h5 0 t3)) rfl rfl ?_
 rintro _ _ ⟨t6,rfl,rfl⟩
 refine sd ?_
 obtain ⟨h7,hF⟩:=q2h hF
 refine sr ?_
 refine RS.q (u:=.vl 7 (t6 0) 0 r4.1.length) rfl (q05 und55 rfl rfl rfl rfl) (RS.q rfl (q1e rfl rfl rfl (q54 und55 rfl)) (RS.q (u:=.sl 8 0 ((r4.1.length:Int).toNat) ((r4.1.length:Int).toNat)) (σ':=⟨[(8,.row (List.map cGNode (List.replicate (r4.1.length:Int).toNat (GNode.mk 0 []))).flatten 43),(7,.vec (List.map (cI .i64) r4.1).flatten 3 1 (t6 0)),(6,.row [.fn (.func 42) [] [.ptr 5 0 0,.ptr 4 0 0,.ptr 1 0 0,.ptr 6 0 0]] 62),(5,.row [.vl 7 (t6 0) 0 r4.1.length] 55),(4,.row [.map 3] 61),(3,.map (List.map (mE (fun x=>.int .i64 x) (fun x=>.int .i64 x)) r4.2.es) r4.2.cl),(2,.row [.nils] 25),(1,.row [.vl 0 t3 0 p2.length] 25),(0,.vec (List.map cGNode p2).flatten 43 2 t3)],9⟩) rfl (op_mks cGNode (GNode.mk 0 []) rfl rfl und23 inf43 rfl rfl rfl rfl h7) (RS.q (u:=.agg [.sl 8 0 ((r4.1.length:Int).toNat) ((r4.1.length:Int).toNat)]) rfl (q5d bd25 rfl rfl rfl) (RS.q (u:=.ptr 9 0 0) (σ':=⟨[(9,.row [.nils] 25),(8,.row (List.map cGNode (List.replicate (r4.1.length:Int).toNat (GNode.mk 0 []))).flatten 43),(7,.vec (List.map (cI .i64) r4.1).flatten 3 1 (t6 0)),(6,.row [.fn (.func 42) [] [.ptr 5 0 0,.ptr 4 0 0,.ptr 1 0 0,.ptr 6 0 0]] 62),(5,.row [.vl 7 (t6 0) 0 r4.1.length] 55),(4,.row [.map 3] 61),(3,.map (List.map (mE (fun x=>.int .i64 x) (fun x=>.int .i64 x)) r4.2.es) r4.2.cl),(2,.row [.nils] 25),(1,.row [.vl 0 t3 0 p2.length] 25),(0,.vec (List.map cGNode p2).flatten 43 2 t3)],10⟩) rfl (q0v inf25 rfl rfl) (RS.opn (u:=.junk) (σ':=⟨[(9,.row [.sl 8 0 ((r4.1.length:Int).toNat) ((r4.1.length:Int).toNat)] 25),(8,.row (List.map cGNode (List.replicate (r4.1.length:Int).toNat (GNode.mk 0 []))).flatten 43),(7,.vec (List.map (cI .i64) r4.1).flatten 3 1 (t6 0)),(6,.row [.fn (.func 42) [] [.ptr 5 0 0,.ptr 4 0 0,.ptr 1 0 0,.ptr 6 0 0]] 62),(5,.row [.vl 7 (t6 0) 0 r4.1.length] 55),(4,.row [.map 3] 61),(3,.map (List.map (mE (fun x=>.int .i64 x) (fun x=>.int .i64 x)) r4.2.es) r4.2.cl),(2,.row [.nils] 25),(1,.row [.vl 0 t3 0 p2.length] 25),(0,.vec (List.map cGNode p2).flatten 43 2 t3)],10⟩) rfl (q0e (q02 inf25) rfl rfl rfl rfl rfl rfl rfl rfl) rfl ?_)))))
 refine se ?_
 refine RS.q (u:=.vl 7 (t6 0) 0 r4.1.length) rfl (q05 und55 rfl rfl rfl rfl) (RS.q rfl (q1e rfl rfl rfl (q54 und55 rfl)) (RS.mv rfl rfl rfl rfl ?_))
 refine sd ?_
 refine WPU.ghost (tm':=fr 68 [(2,.ptr 1 0 0),(4,.ptr 2 0 0),(5,.ptr 4 0 0),(8,.ptr 9 0 0),(22,.vl 7 (t6 0) 0 r4.1.length),(23,.int .i64 (r4.1.length:Int)),(24,.int .i64 0)]) (Gh.sub ⟨rfl,rfl,rfl,rfl,rfl,rfl,rfl,trivial⟩) (Nat.le_of_ble_eq_true rfl) ?_
 refine WPU.loopK (fun m tm σ=>∃ z16:Int,∃ l17:List GNode,q1d p2 n r4 m z16 l17=some r∧tm=fr 68 [(2,.ptr 1 0 0),(4,.ptr 2 0 0),(5,.ptr 4 0 0),(8,.ptr 9 0 0),(22,.vl 7 (t6 0) 0 r4.1.length),(23,.int .i64 (r4.1.length:Int)),(24,.int .i64 z16)]∧σ=⟨[(9,.row [.sl 8 0 ((r4.1.length:Int).toNat) ((r4.1.length:Int).toNat)] 25),(8,.row (List.map cGNode l17).flatten 43),(7,.vec (List.map (cI .i64) r4.1).flatten 3 1 (t6 0)),(6,.row [.fn (.func 42) [] [.ptr 5 0 0,.ptr 4 0 0,.ptr 1 0 0,.ptr 6 0 0]] 62),(5,.row [.vl 7 (t6 0) 0 r4.1.length] 55),(4,.row [.map 3] 61),(3,.map (List.map (mE (fun x=>.int .i64 x) (fun x=>.int .i64 x)) r4.2.es) r4.2.cl),(2,.row [.nils] 25),(1,.row [.vl 0 t3 0 p2.length] 25),(0,.vec (List.map cGNode p2).flatten 43 2 t3)],10⟩) (fun tm σ=>∃ l18:List GNode,q3b r4 l18=some r∧tm=fr 68 [(4,.ptr 2 0 0),(8,.ptr 9 0 0)]∧σ=⟨[(9,.row [.sl 8 0 ((r4.1.length:Int).toNat) ((r4.1.length:Int).toNat)] 25),(8,.row (List.map cGNode l18).flatten 43),(7,.vec (List.map (cI .i64) r4.1).flatten 3 1 (t6 0)),(6,.row [.fn (.func 42) [] [.ptr 5 0 0,.ptr 4 0 0,.ptr 1 0 0,.ptr 6 0 0]] 62),(5,.row [.vl 7 (t6 0) 0 r4.1.length] 55),(4,.row [.map 3] 61),(3,.map (List.map (mE (fun x=>.int .i64 x) (fun x=>.int .i64 x)) r4.2.es) r4.2.cl),(2,.row [.nils] 25),(1,.row [.vl 0 t3 0 p2.length] 25),(0,.vec (List.map cGNode p2).flatten 43 2 t3)],10⟩) n ⟨0,(List.replicate (r4.1.length:Int).toNat (GNode.mk 0 [])),hF,rfl,rfl⟩ ?_ ?_
 rintro _ _ ⟨l18,hF,rfl,rfl⟩
 unfold q3b at hF
 refine sr ?_
 refine RS.q (u:=.agg [.sl 8 0 ((r4.1.length:Int).toNat) ((r4.1.length:Int).toNat)]) rfl (q12 und25 rfl (q02 inf25) rfl rfl rfl) (RS.opn (u:=.junk) (σ':=⟨[(9,.row [.sl 8 0 ((r4.1.length:Int).toNat) ((r4.1.length:Int).toNat)] 25),(8,.row (List.map cGNode l18).flatten 43),(7,.vec (List.map (cI .i64) r4.1).flatten 3 1 (t6 0)),(6,.row [.fn (.func 42) [] [.ptr 5 0 0,.ptr 4 0 0,.ptr 1 0 0,.ptr 6 0 0]] 62),(5,.row [.vl 7 (t6 0) 0 r4.1.length] 55),(4,.row [.map 3] 61),(3,.map (List.map (mE (fun x=>.int .i64 x) (fun x=>.int .i64 x)) r4.2.es) r4.2.cl),(2,.row [.sl 8 0 ((r4.1.length:Int).toNat) ((r4.1.length:Int).toNat)] 25),(1,.row [.vl 0 t3 0 p2.length] 25),(0,.vec (List.map cGNode p2).flatten 43 2 t3)],10⟩) rfl (q0e (q02 inf25) rfl rfl rfl rfl rfl rfl rfl rfl) rfl ?_)
 refine sd ?_
 refine WPU.ret ?_
 refine st ?_
 have hr:=Option.some.inj hF
 subst hr
 exact ⟨.inr rfl,[.agg [.sl 8 0 ((r4.1.length:Int).toNat) ((r4.1.length:Int).toNat)]],q8n (q12 und25 rfl (q02 inf25) rfl rfl rfl) (q20),.agg [.sl 8 0 ((r4.1.length:Int).toNat) ((r4.1.length:Int).toNat)],⟨[(8,.row (List.map cGNode l18).flatten 43),(0,.vec (List.map cGNode p2).flatten 43 2 t3)],9⟩,(Nat.le_of_ble_eq_true rfl),Gh.trans (Gh.only (fun k=>hasN [0,8] k)) (Gh.to (n1:=9) [] rfl rfl (Nat.le_of_ble_eq_true rfl) (Nat.le_of_ble_eq_true rfl) BUL.h BH.h),stF [],rfl,rfl⟩
 rintro m1 _ _ ⟨z16,l17,hF,rfl,rfl⟩
 rcases m1 with _ | m1
 cases hF
 unfold q1d at hF
 refine sr ?_
 refine RS.q rfl (q06 rfl rfl (q2s _ _ _) rfl) ?_
 refine sd ?_
 refine WPU.condS (t:=(decide (z16<(r4.1.length:Int)))) rfl (fun h19=>?_) (fun h19=>?_)
 replace hF:=q0q h19 hF
 refine st ?_
 refine WPU.skip ?_
 refine st ?_
 refine WPU.block ?_
 refine st ?_
 obtain ⟨x20,h21,hF⟩:=q00 hF
 refine sr ?_
 refine RS.q (u:=.ptr 7 (t6 0) (0*1+z16.toNat*1)) rfl (q2t rfl rfl (q7r (cI .i64) und55 (q02 inf3) (by decide) (q68 .i64) (vo rfl) h21)) ?_
 refine RS.q (u:=.int .i64 x20) rfl (q97 (cI .i64) (fun x=>.int .i64 x) und3 rfl (fun _=>rfl) rfl rfl h21) ?_
 repeat refine RS.as rfl rfl rfl rfl ?_
 refine sd ?_
 obtain ⟨x22,h23,hF⟩:=q00 hF
 obtain ⟨r24,h25,hF⟩:=q00 hF
 obtain ⟨r27,h28,hF⟩:=q00 hF
 refine sr ?_
 refine RS.q (u:=.ptr 1 0 0) rfl (q0z und25 rfl (q02 inf23) rfl rfl rfl) (RS.q (u:=.vl 0 t3 0 p2.length) rfl (q05 und23 rfl rfl rfl rfl) (RS.mv rfl rfl rfl rfl ?_))
 refine RS.q (u:=.ptr 0 t3 (0*2+x20.toNat*2)) rfl (q2t rfl rfl (q7r cGNode und23 (q02 inf43) (by decide) q0s (vo rfl) h23)) ?_
 refine RS.q (u:=.ptr 0 t3 (0*2+x20.toNat*2+1)) rfl (q0z und43 rfl (q02 inf41) rfl (qar rfl) rfl) (RS.q (u:=.isl false (List.map cGArc x22.Arcs)) rfl (ld_vf cGNode und41 rfl q0s rfl rfl (qan h23) rfl) ?_)
 refine RS.callx (R:=fun u σ'=>∃ t26:Nat→Nat,u = .fn (.func 55) [] [.iptr [.isl false (List.map cGArc r24)]]∧σ'=⟨[(9,.row [.sl 8 0 ((r4.1.length:Int).toNat) ((r4.1.length:Int).toNat)] 25),(8,.row (List.map cGNode l17).flatten 43),(7,.vec (List.map (cI .i64) r4.1).flatten 3 1 (t6 0)),(6,.row [.fn (.func 42) [] [.ptr 5 0 0,.ptr 4 0 0,.ptr 1 0 0,.ptr 6 0 0]] 62),(5,.row [.vl 7 (t6 0) 0 r4.1.length] 55),(4,.row [.map 3] 61),(3,.map (List.map (mE (fun x=>.int .i64 x) (fun x=>.int .i64 x)) r4.2.es) r4.2.cl),(2,.row [.nils] 25),(1,.row [.vl 0 t3 0 p2.length] 25),(0,.vec (List.map cGNode p2).flatten 43 2 t3)],10⟩) (args:=[.isl false (List.map cGArc x22.Arcs)]) rfl (q01 rfl rfl fn44 hb44 rfl rfl) (EvU.st [] (q37 n x22.Arcs r24 h25 )) rfl rfl ?_
 rintro _ _ ⟨t26,rfl,rfl⟩
 refine RS.callx (R:=fun u σ'=>∃ t29:Nat→Nat,u = .vl 11 (t29 0) 0 r27.length∧σ'=⟨[(11,.vec (List.map cGArc r27).flatten 45 2 (t29 0)),(9,.row [.sl 8 0 ((r4.1.length:Int).toNat) ((r4.1.length:Int).toNat)] 25),(8,.row (List.map cGNode l17).flatten 43),(7,.vec (List.map (cI .i64) r4.1).flatten 3 1 (t6 0)),(6,.row [.fn (.func 42) [] [.ptr 5 0 0,.ptr 4 0 0,.ptr 1 0 0,.ptr 6 0 0]] 62),(5,.row [.vl 7 (t6 0) 0 r4.1.length] 55),(4,.row [.map 3] 61),(3,.map (List.map (mE (fun x=>.int .i64 x) (fun x=>.int .i64 x)) r4.2.es) r4.2.cl),(2,.row [.nils] 25),(1,.row [.vl 0 t3 0 p2.length] 25),(0,.vec (List.map cGNode p2).flatten 43 2 t3)],12⟩) (args:=[.fn (.func 55) [] [.iptr [.isl false (List.map cGArc r24)]],.fn (.func 45) [] []]) rfl (q01 rfl rfl fn43 hb43 rfl rfl) (EvU.st [] (q2d n r24 r27 h28 )) rfl rfl ?_
 rintro _ _ ⟨t29,rfl,rfl⟩
 refine se ?_
 refine RS.q rfl (q1e rfl rfl rfl (q54 und41 rfl)) (RS.mv rfl rfl rfl rfl ?_)
 refine sd ?_
 refine WPU.ghost (tm':=fr 68 [(2,.ptr 1 0 0),(4,.ptr 2 0 0),(5,.ptr 4 0 0),(8,.ptr 9 0 0),(9,.int .i64 z16),(10,.int .i64 x20),(11,.vl 11 (t29 0) 0 r27.length),(22,.vl 7 (t6 0) 0 r4.1.length),(23,.int .i64 (r4.1.length:Int)),(24,.int .i64 z16),(38,.int .i64 (r27.length:Int)),(39,.int .i64 0)]) (Gh.sub ⟨rfl,rfl,rfl,rfl,rfl,rfl,rfl,rfl,rfl,rfl,rfl,rfl,trivial⟩) (Nat.le_of_ble_eq_true rfl) ?_
 refine WPU.loopK (fun m tm σ=>∃ z44:Int,∃ l45:List GArc,q21 p2 r4 z16 l17 (q1d p2 n r4 m1) x20 r27 m z44 l45=some r∧tm=fr 68 [(2,.ptr 1 0 0),(4,.ptr 2 0 0),(5,.ptr 4 0 0),(8,.ptr 9 0 0),(9,.int .i64 z16),(10,.int .i64 x20),(11,.vl 11 (t29 0) 0 l45.length),(22,.vl 7 (t6 0) 0 r4.1.length),(23,.int .i64 (r4.1.length:Int)),(24,.int .i64 z16),(38,.int .i64 (r27.length:Int)),(39,.int .i64 z44)]∧σ=⟨[(11,.vec (List.map cGArc l45).flatten 45 2 (t29 0)),(9,.row [.sl 8 0 ((r4.1.length:Int).toNat) ((r4.1.length:Int).toNat)] 25),(8,.row (List.map cGNode l17).flatten 43),(7,.vec (List.map (cI .i64) r4.1).flatten 3 1 (t6 0)),(6,.row [.fn (.func 42) [] [.ptr 5 0 0,.ptr 4 0 0,.ptr 1 0 0,.ptr 6 0 0]] 62),(5,.row [.vl 7 (t6 0) 0 r4.1.length] 55),(4,.row [.map 3] 61),(3,.map (List.map (mE (fun x=>.int .i64 x) (fun x=>.int .i64 x)) r4.2.es) r4.2.cl),(2,.row [.nils] 25),(1,.row [.vl 0 t3 0 p2.length] 25),(0,.vec (List.map cGNode p2).flatten 43 2 t3)],12⟩) (fun tm σ=>∃ l46:List GArc,q3c p2 r4 z16 l17 (q1d p2 n r4 m1) x20 l46=some r∧tm=fr 68 [(2,.ptr 1 0 0),(4,.ptr 2 0 0),(5,.ptr 4 0 0),(8,.ptr 9 0 0),(9,.int .i64 z16),(10,.int .i64 x20),(11,.vl 11 (t29 0) 0 l46.length),(22,.vl 7 (t6 0) 0 r4.1.length),(23,.int .i64 (r4.1.length:Int)),(24,.int .i64 z16)]∧σ=⟨[(11,.vec (List.map cGArc l46).flatten 45 2 (t29 0)),(9,.row [.sl 8 0 ((r4.1.length:Int).toNat) ((r4.1.length:Int).toNat)] 25),(8,.row (List.map cGNode l17).flatten 43),(7,.vec (List.map (cI .i64) r4.1).flatten 3 1 (t6 0)),(6,.row [.fn (.func 42) [] [.ptr 5 0 0,.ptr 4 0 0,.ptr 1 0 0,.ptr 6 0 0]] 62),(5,.row [.vl 7 (t6 0) 0 r4.1.length] 55),(4,.row [.map 3] 61),(3,.map (List.map (mE (fun x=>.int .i64 x) (fun x=>.int .i64 x)) r4.2.es) r4.2.cl),(2,.row [.nils] 25),(1,.row [.vl 0 t3 0 p2.length] 25),(0,.vec (List.map cGNode p2).flatten 43 2 t3)],12⟩) n ⟨0,r27,hF,rfl,rfl⟩ ?_ ?_
 rintro _ _ ⟨l46,hF,rfl,rfl⟩
 unfold q3c at hF
 refine st ?_
 refine WPU.ghost (tm':=fr 68 [(2,.ptr 1 0 0),(4,.ptr 2 0 0),(5,.ptr 4 0 0),(8,.ptr 9 0 0),(9,.int .i64 z16),(10,.int .i64 x20),(11,.isl false (List.map cGArc l46)),(22,.vl 7 (t6 0) 0 r4.1.length),(23,.int .i64 (r4.1.length:Int)),(24,.int .i64 z16)]) (σ':=⟨[(9,.row [.sl 8 0 ((r4.1.length:Int).toNat) ((r4.1.length:Int).toNat)] 25),(8,.row (List.map cGNode l17).flatten 43),(7,.vec (List.map (cI .i64) r4.1).flatten 3 1 (t6 0)),(6,.row [.fn (.func 42) [] [.ptr 5 0 0,.ptr 4 0 0,.ptr 1 0 0,.ptr 6 0 0]] 62),(5,.row [.vl 7 (t6 0) 0 r4.1.length] 55),(4,.row [.map 3] 61),(3,.map (List.map (mE (fun x=>.int .i64 x) (fun x=>.int .i64 x)) r4.2.es) r4.2.cl),(2,.row [.nils] 25),(1,.row [.vl 0 t3 0 p2.length] 25),(0,.vec (List.map cGNode p2).flatten 43 2 t3)],12⟩) (Gh.trans (Gh.sub (l':=[(2,.ptr 1 0 0),(4,.ptr 2 0 0),(5,.ptr 4 0 0),(8,.ptr 9 0 0),(9,.int .i64 z16),(10,.int .i64 x20),(11,.vl 11 (t29 0) 0 l46.length),(22,.vl 7 (t6 0) 0 r4.1.length),(23,.int .i64 (r4.1.length:Int)),(24,.int .i64 z16)]) ⟨rfl,rfl,rfl,rfl,rfl,rfl,rfl,rfl,rfl,rfl,trivial⟩) (Gh.fzS (l':=[(2,.ptr 1 0 0),(4,.ptr 2 0 0),(5,.ptr 4 0 0),(8,.ptr 9 0 0),(9,.int .i64 z16),(10,.int .i64 x20),(11,.isl false (List.map cGArc l46)),(22,.vl 7 (t6 0) 0 r4.1.length),(23,.int .i64 (r4.1.length:Int)),(24,.int .i64 z16)]) (h':=[(9,.row [.sl 8 0 ((r4.1.length:Int).toNat) ((r4.1.length:Int).toNat)] 25),(8,.row (List.map cGNode l17).flatten 43),(7,.vec (List.map (cI .i64) r4.1).flatten 3 1 (t6 0)),(6,.row [.fn (.func 42) [] [.ptr 5 0 0,.ptr 4 0 0,.ptr 1 0 0,.ptr 6 0 0]] 62),(5,.row [.vl 7 (t6 0) 0 r4.1.length] 55),(4,.row [.map 3] 61),(3,.map (List.map (mE (fun x=>.int .i64 x) (fun x=>.int .i64 x)) r4.2.es) r4.2.cl),(2,.row [.nils] 25),(1,.row [.vl 0 t3 0 p2.length] 25),(0,.vec (List.map cGNode p2).flatten 43 2 t3)]) 11 (.vec (List.map cGArc l46).flatten 45 2 (t29 0)) 2 rfl (by simp) (by simp only [fzS,oneU,q07,q03,q0h,q09,q0k,q0d,q0c,q0b,q0a,q08,q0i,q0j,q0g,q0l,q1i,junkT,fz_vl q17,q2x (show Nat.beq 0 11=false from rfl),q2w (show Nat.beq 0 11=false from rfl),q2v (show Nat.beq 0 11=false from rfl),q2x (show Nat.beq 1 11=false from rfl),q2w (show Nat.beq 1 11=false from rfl),q2v (show Nat.beq 1 11=false from rfl),q2x (show Nat.beq 2 11=false from rfl),q2w (show Nat.beq 2 11=false from rfl),q2v (show Nat.beq 2 11=false from rfl),q2x (show Nat.beq 3 11=false from rfl),q2w (show Nat.beq 3 11=false from rfl),q2v (show Nat.beq 3 11=false from rfl),q2x (show Nat.beq 4 11=false from rfl),q2w (show Nat.beq 4 11=false from rfl),q2v (show Nat.beq 4 11=false from rfl),q2x (show Nat.beq 5 11=false from rfl),q2w (show Nat.beq 5 11=false from rfl),q2v (show Nat.beq 5 11=false from rfl),q2x (show Nat.beq 6 11=false from rfl),q2w (show Nat.beq 6 11=false from rfl),q2v (show Nat.beq 6 11=false from rfl),q2x (show Nat.beq 7 11=false from rfl),q2w (show Nat.beq 7 11=false from rfl),q2v (show Nat.beq 7 11=false from rfl),q2x (show Nat.beq 8 11=false from rfl),q2w (show Nat.beq 8 11=false from rfl),q2v (show Nat.beq 8 11=false from rfl),q2x (show Nat.beq 9 11=false from rfl),q2w (show Nat.beq 9 11=false from rfl),q2v (show Nat.beq 9 11=false from rfl),q2g _ _ _ (q2i 11 (fun q=>q32 _ q) l17),q2g _ _ _ (q2i 11 (fun q=>bel_cI _ .i64 q) r4.1),q2g _ _ _ (q2i 11 (fun q=>q32 _ q) p2),fz_mE]) (by simp only [fzH,fzB,ug,Nat.beq,cond_true,cond_false,oneU,q07,q03,q0h,q09,q0k,q0d,q0c,q0b,q0a,q08,q0i,q0j,q0g,q0l,q1i,junkT,fz_vl q17,q2x (show Nat.beq 0 11=false from rfl),q2w (show Nat.beq 0 11=false from rfl),q2v (show Nat.beq 0 11=false from rfl),q2x (show Nat.beq 1 11=false from rfl),q2w (show Nat.beq 1 11=false from rfl),q2v (show Nat.beq 1 11=false from rfl),q2x (show Nat.beq 2 11=false from rfl),q2w (show Nat.beq 2 11=false from rfl),q2v (show Nat.beq 2 11=false from rfl),q2x (show Nat.beq 3 11=false from rfl),q2w (show Nat.beq 3 11=false from rfl),q2v (show Nat.beq 3 11=false from rfl),q2x (show Nat.beq 4 11=false from rfl),q2w (show Nat.beq 4 11=false from rfl),q2v (show Nat.beq 4 11=false from rfl),q2x (show Nat.beq 5 11=false from rfl),q2w (show Nat.beq 5 11=false from rfl),q2v (show Nat.beq 5 11=false from rfl),q2x (show Nat.beq 6 11=false from rfl),q2w (show Nat.beq 6 11=false from rfl),q2v (show Nat.beq 6 11=false from rfl),q2x (show Nat.beq 7 11=false from rfl),q2w (show Nat.beq 7 11=false from rfl),q2v (show Nat.beq 7 11=false from rfl),q2x (show Nat.beq 8 11=false from rfl),q2w (show Nat.beq 8 11=false from rfl),q2v (show Nat.beq 8 11=false from rfl),q2x (show Nat.beq 9 11=false from rfl),q2w (show Nat.beq 9 11=false from rfl),q2v (show Nat.beq 9 11=false from rfl),q2g _ _ _ (q2i 11 (fun q=>q32 _ q) l17),q2g _ _ _ (q2i 11 (fun q=>bel_cI _ .i64 q) r4.1),q2g _ _ _ (q2i 11 (fun q=>q32 _ q) p2),fz_mE]))) (Nat.le_of_ble_eq_true rfl) ?_
 refine st ?_
 obtain ⟨x47,h48,hF⟩:=q00 hF
 obtain ⟨x49,h50,hF⟩:=q00 hF
 refine WPU.drawE Try.tb_ok [] (by kernel_rfl) ?_
 refine RD.q (u:=.ptr 9 0 0) rfl (q0z und25 rfl (q02 inf23) rfl rfl rfl) (RD.q (u:=.sl 8 0 ((r4.1.length:Int).toNat) ((r4.1.length:Int).toNat)) rfl (q05 und23 rfl rfl rfl rfl) (RD.mv rfl rfl rfl rfl (RD.q (u:=.ptr 1 0 0) rfl (q0z und25 rfl (q02 inf23) rfl rfl rfl) (RD.q (u:=.vl 0 t3 0 p2.length) rfl (q05 und23 rfl rfl rfl rfl) (RD.mv rfl rfl rfl rfl ?_)))))
 refine RD.q (u:=.ptr 0 t3 (0*2+x20.toNat*2)) rfl (q2t rfl rfl (q7r cGNode und23 (q02 inf43) (by decide) q0s (vo rfl) h48)) ?_
 refine RD.q (u:=.ptr 0 t3 (0*2+x20.toNat*2+0)) rfl (q0z und43 rfl (q02 inf3) rfl (qar rfl) rfl) (RD.q (u:=.int .i64 x47.Typex) rfl (ld_vf cGNode und3 rfl q0s rfl rfl (qan h48) rfl) (RD.mv rfl rfl rfl rfl (RD.q (u:=.agg [.int .i64 x47.Typex,.isl false (List.map cGArc l46)]) rfl (q5d bd43 rfl rfl rfl) (RD.q (u:=.ptr 8 0 (0*2+z16.toNat*2)) rfl (q2t rfl rfl (q9o und23 (q02 inf43) rfl h50)) (RD.actn (u:=.junk) (σ':=⟨[(9,.row [.sl 8 0 ((r4.1.length:Int).toNat) ((r4.1.length:Int).toNat)] 25),(8,.row (List.map cGNode (l17.set z16.toNat (GNode.mk x47.Typex l46))).flatten 43),(7,.vec (List.map (cI .i64) r4.1).flatten 3 1 (t6 0)),(6,.row [.fn (.func 42) [] [.ptr 5 0 0,.ptr 4 0 0,.ptr 1 0 0,.ptr 6 0 0]] 62),(5,.row [.vl 7 (t6 0) 0 r4.1.length] 55),(4,.row [.map 3] 61),(3,.map (List.map (mE (fun x=>.int .i64 x) (fun x=>.int .i64 x)) r4.2.es) r4.2.cl),(2,.row [.nils] 25),(1,.row [.vl 0 t3 0 p2.length] 25),(0,.vec (List.map cGNode p2).flatten 43 2 t3)],12⟩) rfl (st_rl cGNode (q02 inf43) q0s rfl rfl rfl rfl rfl rfl h50 rfl) rfl ?_)))))
 refine RD.done ⟨by kernel_rfl,trivial,?_⟩
 refine sr ?_
 refine RS.q rfl (q06 rfl rfl (q3w _ _ _) rfl) (RS.mv rfl rfl rfl rfl ?_)
 refine sd ?_
 exact ⟨m1,_,_,Nat.lt_succ_self _,⟨(IntKind.i64.wrap (z16+1)),(l17.set z16.toNat (GNode.mk x47.Typex l46)),hF,rfl,rfl⟩,(Nat.le_of_ble_eq_true rfl),Gh.toC (n1:=10) ⟨rfl,rfl,rfl,rfl,rfl,rfl,rfl,trivial⟩ rfl (Nat.le_of_ble_eq_true rfl) (by simp)⟩
 rintro m2 _ _ ⟨z44,l45,hF,rfl,rfl⟩
 rcases m2 with _ | m2
 cases hF
 unfold q21 at hF
 refine sr ?_
 refine RS.q rfl (q06 rfl rfl (q2s _ _ _) rfl) ?_
 refine sd ?_
 refine WPU.condS (t:=(decide (z44<(r27.length:Int)))) rfl (fun h51=>?_) (fun h51=>?_)
 replace hF:=q0q h51 hF
 refine st ?_
 refine WPU.skip ?_
 refine st ?_
 refine WPU.block ?_
 refine sr ?_
 refine sd ?_
 obtain ⟨x52,h53,hF⟩:=q00 hF
 obtain ⟨x54,h55,hF⟩:=q00 hF
 refine WPU.joinK (fun tm σ=>tm=fr 68 [(2,.ptr 1 0 0),(4,.ptr 2 0 0),(5,.ptr 4 0 0),(8,.ptr 9 0 0),(9,.int .i64 z16),(10,.int .i64 x20),(11,.vl 11 (t29 0) 0 ((l45.set (0+z44.toNat) (GArc.mk x54.Feat ((mGet (fun a b=>a == b) r4.2 x52.To).getD 0))).length)),(22,.vl 7 (t6 0) 0 r4.1.length),(23,.int .i64 (r4.1.length:Int)),(24,.int .i64 z16),(38,.int .i64 (r27.length:Int)),(39,.int .i64 z44)]∧σ=⟨[(11,.vec (List.map cGArc (l45.set (0+z44.toNat) (GArc.mk x54.Feat ((mGet (fun a b=>a == b) r4.2 x52.To).getD 0)))).flatten 45 2 (t29 0)),(9,.row [.sl 8 0 ((r4.1.length:Int).toNat) ((r4.1.length:Int).toNat)] 25),(8,.row (List.map cGNode l17).flatten 43),(7,.vec (List.map (cI .i64) r4.1).flatten 3 1 (t6 0)),(6,.row [.fn (.func 42) [] [.ptr 5 0 0,.ptr 4 0 0,.ptr 1 0 0,.ptr 6 0 0]] 62),(5,.row [.vl 7 (t6 0) 0 r4.1.length] 55),(4,.row [.map 3] 61),(3,.map (List.map (mE (fun x=>.int .i64 x) (fun x=>.int .i64 x)) r4.2.es) r4.2.cl),(2,.row [.nils] 25),(1,.row [.vl 0 t3 0 p2.length] 25),(0,.vec (List.map cGNode p2).flatten 43 2 t3)],12⟩) ?_ ?_
 rintro _ _ ⟨rfl,rfl⟩
 refine sr ?_
 refine RS.q rfl (q06 rfl rfl (q3w _ _ _) rfl) (RS.mv rfl rfl rfl rfl ?_)
 refine sd ?_
 exact ⟨m2,_,_,Nat.lt_succ_self _,⟨(IntKind.i64.wrap (z44+1)),(l45.set (0+z44.toNat) (GArc.mk x54.Feat ((mGet (fun a b=>a == b) r4.2 x52.To).getD 0))),hF,rfl,rfl⟩,(Nat.le_of_ble_eq_true rfl),Gh.toC (n1:=12) ⟨rfl,rfl,rfl,rfl,rfl,rfl,rfl,rfl,rfl,rfl,rfl,rfl,trivial⟩ rfl (Nat.le_of_ble_eq_true rfl) (by simp)⟩
 refine WPU.drawE Try.tb_ok [] (by kernel_rfl) ?_
 repeat refine RD.mv rfl rfl rfl rfl ?_
 refine RD.q (u:=.map 3) rfl (q05 und61 rfl rfl rfl rfl) ?_
 repeat refine RD.mv rfl rfl rfl rfl ?_
 refine RD.q (u:=.ptr 11 (t29 0) (0*2+z44.toNat*2)) rfl (q2t rfl rfl (q7r cGArc und41 (q02 inf45) (by decide) q17 (vo rfl) h53)) ?_
 refine RD.q (u:=.ptr 11 (t29 0) (0*2+z44.toNat*2+1)) rfl (q0z und45 rfl (q02 inf3) rfl (qar rfl) rfl) (RD.q (u:=.int .i64 x52.To) rfl (ld_vf cGArc und3 rfl q17 rfl rfl (qan h53) rfl) (RD.q (u:=.int .i64 ((mGet (fun a b=>a == b) r4.2 x52.To).getD 0)) rfl (op_look (kU:=(fun x=>.int .i64 x)) (vU:=(fun x=>.int .i64 x)) (m:=r4.2) (k:=x52.To) (zv:=0) (q70 und3) und61 rfl rfl rfl inf3 rfl) ?_))
 refine RD.q (u:=.ptr 11 (t29 0) (0*2+z44.toNat*2)) rfl (q2t rfl rfl (q7r cGArc und41 (q02 inf45) (by decide) q17 (vo rfl) h55)) ?_
 refine RD.q (u:=.ptr 11 (t29 0) (0*2+z44.toNat*2+1)) rfl (q0z und45 rfl (q02 inf3) rfl (qar rfl) rfl) (RD.actn (u:=.junk) (σ':=⟨[(11,.vec (List.map cGArc (l45.set (0+z44.toNat) (GArc.mk x54.Feat ((mGet (fun a b=>a == b) r4.2 x52.To).getD 0)))).flatten 45 2 (t29 0)),(9,.row [.sl 8 0 ((r4.1.length:Int).toNat) ((r4.1.length:Int).toNat)] 25),(8,.row (List.map cGNode l17).flatten 43),(7,.vec (List.map (cI .i64) r4.1).flatten 3 1 (t6 0)),(6,.row [.fn (.func 42) [] [.ptr 5 0 0,.ptr 4 0 0,.ptr 1 0 0,.ptr 6 0 0]] 62),(5,.row [.vl 7 (t6 0) 0 r4.1.length] 55),(4,.row [.map 3] 61),(3,.map (List.map (mE (fun x=>.int .i64 x) (fun x=>.int .i64 x)) r4.2.es) r4.2.cl),(2,.row [.nils] 25),(1,.row [.vl 0 t3 0 p2.length] 25),(0,.vec (List.map cGNode p2).flatten 43 2 t3)],12⟩) rfl (st_vf (y:=(GArc.mk x54.Feat ((mGet (fun a b=>a == b) r4.2 x52.To).getD 0))) cGArc (q02 inf3) q17 rfl rfl rfl rfl rfl rfl (qan h55) rfl rfl) rfl ?_)
 refine RD.done ⟨by kernel_rfl,trivial,?_⟩
 refine st ?_
 exact ⟨_,_,⟨rfl,rfl⟩,(Nat.le_of_ble_eq_true rfl),Gh.eqS ⟨rfl,rfl,rfl,rfl,rfl,rfl,(by simp only [List.length_set]; rfl),rfl,rfl,rfl,rfl,rfl,trivial⟩ rfl⟩
 replace hF:=q0p h51 hF
 refine st ?_
 refine WPU.exit ?_
 refine st ?_
 exact ⟨_,_,⟨l45,hF,rfl,rfl⟩,(Nat.le_of_ble_eq_true rfl),Gh.toC (n1:=12) ⟨rfl,rfl,rfl,rfl,rfl,rfl,rfl,rfl,rfl,rfl,trivial⟩ rfl (Nat.le_of_ble_eq_true rfl) (by simp)⟩
 replace hF:=q0p h19 hF
 refine st ?_
 refine WPU.exit ?_
 refine st ?_
 exact ⟨_,_,⟨l17,hF,rfl,rfl⟩,(Nat.le_of_ble_eq_true rfl),Gh.toC (n1:=10) ⟨rfl,rfl,trivial⟩ rfl (Nat.le_of_ble_eq_true rfl) (by simp)⟩
def q3h (p1:List GNode) (n:Nat)  : Option (GFS×Int) :=
 bindO (q3a n 0 p1) fun r10 =>
 needO (r10.1=r10.2.length) (
 some ((GFS.mk r10.2),0))
def q33 (p1:List GNode) (n:Nat):Nat→Int→Option (GFS×Int)
 | 0,_=>none
 | m1+1,z9 =>
  cond (decide (z9<(p1.length:Int)))
   (bindO (idxO p1 z9) fun x15 =>
   bindO (q34 n x15 (p1.length:Int)) fun r17 =>
   cond (r17 != 0)
    (some ((GFS.mk []),r17))
    ((q33 p1 n m1) (IntKind.i64.wrap (z9+1))))
   (q3h p1 n)
def q31 (n:Nat) (p1:List GNode):Option (GFS×Int) :=
 cond ((p1.length:Int) == 0)
  (some ((GFS.mk []),1))
  (cond (decide ((p1.length:Int) > 4096))
   (some ((GFS.mk []),7))
   (q33 p1 n n 0))
theorem q6s (n:Nat) (p1:List GNode) (r:GFS×Int) (hF:q31 n p1=some r):∀ t2:Nat,EvU Try.prog 13 [.agg [.vl 0 t2 0 p1.length]] ⟨[(0,.vec (List.map cGNode p1).flatten 43 2 t2)],1⟩ (fun u σ'=>∃ t:Nat→Nat,u = .tup [.agg [.isl false (List.map cGNode r.1.Nodes)],.int .i64 r.2]∧σ'=⟨[(0,.vec (List.map cGNode p1).flatten 43 2 t2)],1⟩):=by
 unfold q31 at hF
 intro t2
 refine EvU.of_body Try.tb_ok fn13 rfl ?_
 refine WPU.ghost (tm':=fr 36 [(0,.agg [.vl 0 t2 0 p1.length])]) (Gh.start (Nat.le_of_ble_eq_true rfl)) (Nat.le_refl _) ?_
 refine sr ?_
 refine RS.q (u:=.ptr 1 0 0) (σ':=⟨[(1,.row [.vl 0 t2 0 p1.length] 25),(0,.vec (List.map cGNode p1).flatten 43 2 t2)],2⟩) rfl (q3u rfl rfl rfl) (RS.q (u:=.ptr 2 0 0) (σ':=⟨[(2,.row [.nils] 25),(1,.row [.vl 0 t2 0 p1.length] 25),(0,.vec (List.map cGNode p1).flatten 43 2 t2)],3⟩) rfl (q0v inf25 rfl rfl) ?_)
 refine se ?_
 refine RS.q (u:=.ptr 1 0 0) rfl (q0z und25 rfl (q02 inf23) rfl rfl rfl) (RS.q (u:=.vl 0 t2 0 p1.length) rfl (q05 und23 rfl rfl rfl rfl) (RS.q rfl (q1e rfl rfl rfl (q54 und23 rfl)) (RS.q rfl (q06 rfl rfl (q3l _ _ _) rfl) ?_)))
 refine sd ?_
 refine WPU.condS (t:=((p1.length:Int) == 0)) rfl (fun h3=>?_) (fun h3=>?_)
 replace hF:=q0q h3 hF
 refine sr ?_
 refine RS.q (u:=.agg [.nils]) rfl (q5d bd25 rfl rfl rfl) (RS.opn (u:=.junk) (σ':=⟨[(2,.row [.nils] 25),(1,.row [.vl 0 t2 0 p1.length] 25),(0,.vec (List.map cGNode p1).flatten 43 2 t2)],3⟩) rfl (q0e (q02 inf25) rfl rfl rfl rfl rfl rfl rfl rfl) rfl ?_)
 refine sd ?_
 refine WPU.ret ?_
 refine st ?_
 have hr:=Option.some.inj hF
 subst hr
 exact ⟨.inr rfl,[.agg [.nils],.int .i64 1],q8n (q12 und25 rfl (q02 inf25) rfl rfl rfl) (q2k rfl (q20)),.tup [.agg [.isl false []],.int .i64 1],⟨[(0,.vec (List.map cGNode p1).flatten 43 2 t2)],1⟩,(Nat.le_of_ble_eq_true rfl),Gh.trans (Gh.wk (.cons (.tup (.cons (.agg (.cons (.nil false) .nil)) (.cons (.refl _) .nil))) .nil)) (Gh.to (n1:=1) [] rfl rfl (Nat.le_of_ble_eq_true rfl) (Nat.le_of_ble_eq_true rfl) BUL.h BH.h),stF [],rfl,rfl⟩
 replace hF:=q0p h3 hF
 refine st ?_
 refine WPU.skip ?_
 refine sr ?_
 refine RS.q (u:=.ptr 1 0 0) rfl (q0z und25 rfl (q02 inf23) rfl rfl rfl) (RS.q (u:=.vl 0 t2 0 p1.length) rfl (q05 und23 rfl rfl rfl rfl) (RS.q rfl (q1e rfl rfl rfl (q54 und23 rfl)) (RS.q rfl (q06 rfl rfl (ix_gtr _ _ _) rfl) ?_)))
 refine sd ?_
 refine WPU.condS (t:=(decide ((p1.length:Int) > 4096))) rfl (fun h4=>?_) (fun h4=>?_)
 replace hF:=q0q h4 hF
 refine sr ?_
 refine RS.q (u:=.agg [.nils]) rfl (q5d bd25 rfl rfl rfl) (RS.opn (u:=.junk) (σ':=⟨[(2,.row [.nils] 25),(1,.row [.vl 0 t2 0 p1.length] 25),(0,.vec (List.map cGNode p1).flatten 43 2 t2)],3⟩) rfl (q0e (q02 inf25) rfl rfl rfl rfl rfl rfl rfl rfl) rfl ?_)
 refine sd ?_
 refine WPU.ret ?_
 refine st ?_
 have hr:=Option.some.inj hF
 subst hr
 exact ⟨.inr rfl,[.agg [.nils],.int .i64 7],q8n (q12 und25 rfl (q02 inf25) rfl rfl rfl) (q2k rfl (q20)),.tup [.agg [.isl false []],.int .i64 7],⟨[(0,.vec (List.map cGNode p1).flatten 43 2 t2)],1⟩,(Nat.le_of_ble_eq_true rfl),Gh.trans (Gh.wk (.cons (.tup (.cons (.agg (.cons (.nil false) .nil)) (.cons (.refl _) .nil))) .nil)) (Gh.to (n1:=1) [] rfl rfl (Nat.le_of_ble_eq_true rfl) (Nat.le_of_ble_eq_true rfl) BUL.h BH.h),stF [],rfl,rfl⟩
 replace hF:=q0p h4 hF
 refine st ?_
 refine WPU.skip ?_
 refine sr ?_
 refine RS.q (u:=.ptr 1 0 0) rfl (q0z und25 rfl (q02 inf23) rfl rfl rfl) (RS.q (u:=.vl 0 t2 0 p1.length) rfl (q05 und23 rfl rfl rfl rfl) (RS.q rfl (q1e rfl rfl rfl (q54 und23 rfl)) (RS.mv rfl rfl rfl rfl ?_)))
 refine sd ?_
 refine WPU.ghost (tm':=fr 36 [(1,.ptr 1 0 0),(2,.ptr 2 0 0),(18,.vl 0 t2 0 p1.length),(19,.int .i64 (p1.length:Int)),(20,.int .i64 0)]) (Gh.sub ⟨rfl,rfl,rfl,rfl,rfl,trivial⟩) (Nat.le_of_ble_eq_true rfl) ?_
 refine WPU.loopK (fun m tm σ=>∃ z9:Int,q33 p1 n m z9=some r∧tm=fr 36 [(1,.ptr 1 0 0),(2,.ptr 2 0 0),(18,.vl 0 t2 0 p1.length),(19,.int .i64 (p1.length:Int)),(20,.int .i64 z9)]∧σ=⟨[(2,.row [.nils] 25),(1,.row [.vl 0 t2 0 p1.length] 25),(0,.vec (List.map cGNode p1).flatten 43 2 t2)],3⟩) (fun tm σ=>q3h p1 n=some r∧tm=fr 36 [(1,.ptr 1 0 0),(2,.ptr 2 0 0)]∧σ=⟨[(2,.row [.nils] 25),(1,.row [.vl 0 t2 0 p1.length] 25),(0,.vec (List.map cGNode p1).flatten 43 2 t2)],3⟩) n ⟨0,hF,rfl,rfl⟩ ?_ ?_
 rintro _ _ ⟨hF,rfl,rfl⟩
 unfold q3h at hF
 refine st ?_
 obtain ⟨r10,h11,hF⟩:=q00 hF
 refine sr ?_
 refine RS.q (u:=.agg [.vl 0 t2 0 p1.length]) rfl (q12 und25 rfl (q02 inf25) rfl rfl rfl) ?_
 refine RS.callx (R:=fun u σ'=>∃ t12:Nat→Nat,u = .agg [.sl 10 0 r10.1 r10.1]∧σ'=⟨[(10,.row (List.map cGNode r10.2).flatten 43),(2,.row [.nils] 25),(1,.row [.vl 0 t2 0 p1.length] 25),(0,.vec (List.map cGNode p1).flatten 43 2 t2)],11⟩) (args:=[.agg [.vl 0 t2 0 p1.length],.int .i64 0]) rfl (q01 rfl rfl fn31 hb31 rfl rfl) (EvU.st [0] (q7p n 0 p1 r10 h11 t2)) rfl rfl ?_
 rintro _ _ ⟨t12,rfl,rfl⟩
 refine RS.opn (u:=.junk) (σ':=⟨[(10,.row (List.map cGNode r10.2).flatten 43),(2,.row [.sl 10 0 r10.1 r10.1] 25),(1,.row [.vl 0 t2 0 p1.length] 25),(0,.vec (List.map cGNode p1).flatten 43 2 t2)],11⟩) rfl (q0e (q02 inf25) rfl rfl rfl rfl rfl rfl rfl rfl) rfl ?_
 refine sd ?_
 refine WPU.ret ?_
 refine st ?_
 obtain ⟨h13,hF⟩:=q2h hF
 have hr:=Option.some.inj hF
 subst hr
 exact ⟨.inr rfl,[.agg [.sl 10 0 r10.1 r10.1],.int .i64 0],q8n (q12 und25 rfl (q02 inf25) rfl rfl rfl) (q2k rfl (q20)),.tup [.agg [.isl false (List.map cGNode r10.2)],.int .i64 0],⟨[(0,.vec (List.map cGNode p1).flatten 43 2 t2)],1⟩,(Nat.le_of_ble_eq_true rfl),Gh.trans (Gh.fz (tm':=[.tup [.agg [.isl false (List.map cGNode r10.2)],.int .i64 0]]) (h':=[(2,.row [.isl false (List.map cGNode r10.2)] 25),(1,.row [.vl 0 t2 0 p1.length] 25),(0,.vec (List.map cGNode p1).flatten 43 2 t2)]) 10 (.row (List.map cGNode r10.2).flatten 43) 2 rfl (by simp) (by simp only [oneU,q07,q03,q0h,q09,q0k,q0d,q0c,q0b,q0a,q08,q0i,q0j,q0g,q0l,q1i,junkT,fz_rl q0s h13,q2x (show Nat.beq 0 10=false from rfl),q2w (show Nat.beq 0 10=false from rfl),q2v (show Nat.beq 0 10=false from rfl),q2g _ _ _ (q2i 10 (fun q=>q32 _ q) p1)]) (by simp only [fzH,fzB,ug,Nat.beq,cond_true,cond_false,oneU,q07,q03,q0h,q09,q0k,q0d,q0c,q0b,q0a,q08,q0i,q0j,q0g,q0l,q1i,junkT,fz_rl q0s h13,q2x (show Nat.beq 0 10=false from rfl),q2w (show Nat.beq 0 10=false from rfl),q2v (show Nat.beq 0 10=false from rfl),q2g _ _ _ (q2i 10 (fun q=>q32 _ q) p1)])) (Gh.to (n1:=1) [] rfl rfl (Nat.le_of_ble_eq_true rfl) (Nat.le_of_ble_eq_true rfl) BUL.h BH.h),stF [],rfl,rfl⟩
 rintro m1 _ _ ⟨z9,hF,rfl,rfl⟩
 rcases m1 with _ | m1
 cases hF
 unfold q33 at hF
 refine sr ?_
 refine RS.q rfl (q06 rfl rfl (q2s _ _ _) rfl) ?_
 refine sd ?_
 refine WPU.condS (t:=(decide (z9<(p1.length:Int)))) rfl (fun h14=>?_) (fun h14=>?_)
 replace hF:=q0q h14 hF
 refine st ?_
 refine WPU.skip ?_
 refine st ?_
 refine WPU.block ?_
 refine st ?_
 obtain ⟨x15,h16,hF⟩:=q00 hF
 refine sr ?_
 refine RS.q (u:=.ptr 0 t2 (0*2+z9.toNat*2)) rfl (q2t rfl rfl (q7r cGNode und23 (q02 inf43) (by decide) q0s (vo rfl) h16)) ?_
 refine RS.q (u:=.agg (cGNode x15)) rfl (ld_vec cGNode und43 rfl (q02 inf43) q0s rfl rfl h16 rfl) (RS.q (u:=.ptr 3 0 0) (σ':=⟨[(3,.row [.int .i64 0,.nils] 43),(2,.row [.nils] 25),(1,.row [.vl 0 t2 0 p1.length] 25),(0,.vec (List.map cGNode p1).flatten 43 2 t2)],4⟩) rfl (q0v inf43 rfl rfl) (RS.opn (u:=.junk) (σ':=⟨[(3,.row (cGNode x15) 43),(2,.row [.nils] 25),(1,.row [.vl 0 t2 0 p1.length] 25),(0,.vec (List.map cGNode p1).flatten 43 2 t2)],4⟩) rfl (q0e (q02 inf43) rfl rfl rfl rfl rfl rfl rfl rfl) rfl ?_))
 refine sd ?_
 obtain ⟨r17,h18,hF⟩:=q00 hF
 refine sr ?_
 refine RS.q (u:=.agg (cGNode x15)) rfl (q12 und43 rfl (q02 inf43) rfl rfl rfl) (RS.q (u:=.ptr 1 0 0) rfl (q0z und25 rfl (q02 inf23) rfl rfl rfl) (RS.q (u:=.vl 0 t2 0 p1.length) rfl (q05 und23 rfl rfl rfl rfl) (RS.q rfl (q1e rfl rfl rfl (q54 und23 rfl)) (RS.call (u:=.int .i64 r17) (args:=[.agg (cGNode x15),.int .i64 (p1.length:Int)]) rfl (q01 rfl rfl fn30 hb30 rfl rfl) (q5z n x15 (p1.length:Int) r17 h18 _) rfl rfl ?_))))
 refine se ?_
 refine RS.q rfl (q06 rfl rfl (q5q _ _ _) rfl) ?_
 refine sd ?_
 refine WPU.condS (t:=(r17 != 0)) rfl (fun h19=>?_) (fun h19=>?_)
 replace hF:=q0q h19 hF
 refine sr ?_
 refine RS.q (u:=.agg [.nils]) rfl (q5d bd25 rfl rfl rfl) (RS.mv rfl rfl rfl rfl (RS.opn (u:=.junk) (σ':=⟨[(3,.row (cGNode x15) 43),(2,.row [.nils] 25),(1,.row [.vl 0 t2 0 p1.length] 25),(0,.vec (List.map cGNode p1).flatten 43 2 t2)],4⟩) rfl (q0e (q02 inf25) rfl rfl rfl rfl rfl rfl rfl rfl) rfl ?_))
 refine sd ?_
 refine WPU.ret ?_
 refine st ?_
 have hr:=Option.some.inj hF
 subst hr
 exact ⟨.inr rfl,[.agg [.nils],.int .i64 r17],q8n (q12 und25 rfl (q02 inf25) rfl rfl rfl) (q2k rfl (q20)),.tup [.agg [.isl false []],.int .i64 r17],⟨[(0,.vec (List.map cGNode p1).flatten 43 2 t2)],1⟩,(Nat.le_of_ble_eq_true rfl),Gh.trans (Gh.wk (.cons (.tup (.cons (.agg (.cons (.nil false) .nil)) (.cons (.refl _) .nil))) .nil)) (Gh.to (n1:=1) [] rfl rfl (Nat.le_of_ble_eq_true rfl) (Nat.le_of_ble_eq_true rfl) BUL.h BH.h),stF [],rfl,rfl⟩
 replace hF:=q0p h19 hF
 refine st ?_
 refine WPU.skip ?_
 refine sr ?_
 refine RS.q rfl (q06 rfl rfl (q3w _ _ _) rfl) (RS.mv rfl rfl rfl rfl ?_)
 refine sd ?_
 exact ⟨m1,_,_,Nat.lt_succ_self _,⟨(IntKind.i64.wrap (z9+1)),hF,rfl,rfl⟩,(Nat.le_of_ble_eq_true rfl),Gh.toC (n1:=3) ⟨rfl,rfl,rfl,rfl,rfl,trivial⟩ rfl (Nat.le_of_ble_eq_true rfl) (by simp)⟩
 replace hF:=q0p h14 hF
 refine st ?_
 refine WPU.exit ?_
 refine st ?_
 exact ⟨_,_,⟨hF,rfl,rfl⟩,(Nat.le_of_ble_eq_true rfl),Gh.toC (n1:=3) ⟨rfl,rfl,trivial⟩ rfl (Nat.le_of_ble_eq_true rfl) (by simp)⟩
def q28 (n:Nat) (l9:List GNode):Option (Bool) :=
 bindO (q16 n 1 []) fun r11 =>
 needO ((l9.length+1)*32≤140737488355328∧l9.length+1≤140737488355328) (
 bindO (q31 n (l9++[r11])) fun r14 =>
 bindO (q16 n 1 []) fun r17 =>
 needO (((l9++[r11]).length+1)*32≤140737488355328∧(l9++[r11]).length+1≤140737488355328) (
 bindO (q31 n ((l9++[r11])++[r17])) fun r20 =>
 bindO (cond (r14.2 == 0)
  (cond ((r14.1.Nodes.length:Int) == 4096)
   (bindO (idxO r14.1.Nodes 4095) fun x25 =>
   cond (x25.Typex == 1)
    (cond (r20.2 == 7)
     (bindO (q2o n) fun r29 =>
     some r29)
     (some false))
    (some false))
   (some false))
  (some false)) fun b31 =>
 some b31))
def q29 (p1:Int) (n:Nat):Nat→Int→(List GNode)→Option (Bool)
 | 0,_,_=>none
 | m1+1,z6,l7 =>
  cond (decide (z6<4096))
   (bindO (q16 n 0 ([(IntKind.i64.wrap p1),z6])) fun r34 =>
   needO ((l7.length+1)*32≤140737488355328∧l7.length+1≤140737488355328) (
   (q29 p1 n m1) (IntKind.i64.wrap (z6+1)) (l7++[r34])))
   (q28 n l7)
def q4s (n:Nat) (p1:Int):Option (Bool) :=
 q29 p1 n n 1 ([]:List GNode)
theorem q81 (n:Nat) (p1:Int) (r:Bool) (hF:q4s n p1=some r):EvU Try.prog 11 [.int .u8 p1] ⟨[],0⟩ (fun u _=>u = .bool r∧Bel 0 u):=by
 unfold q4s at hF
 refine EvU.of_body Try.tb_ok fn11 rfl ?_
 refine WPU.ghost (tm':=fr 68 [(0,.int .u8 p1)]) (Gh.start (Nat.le_of_ble_eq_true rfl)) (Nat.zero_le _) ?_
 refine sr ?_
 refine se ?_
 refine RS.q (u:=.ptr 0 0 0) (σ':=⟨[(0,.row [.nils] 25)],1⟩) rfl (q0v inf25 rfl rfl) ?_
 refine se ?_
 refine sd ?_
 refine WPU.ghost (tm':=fr 68 [(0,.int .u8 p1),(3,.ptr 0 0 0),(4,.int .i64 1)]) (σ':=⟨[(1,.vec (List.map cGNode ([]:List GNode)).flatten 43 2 0),(0,.row [.vl 1 0 0 (([]:List GNode).length)] 25)],2⟩) (Gh.trans (Gh.nilC 0 0 43 2 (by decide) (Nat.zero_le _) rfl rfl) (Gh.eqS ⟨rfl,rfl,rfl,trivial⟩ rfl)) (Nat.zero_le _) ?_
 refine WPU.ghost (tm':=fr 68 [(0,.int .u8 p1),(3,.ptr 0 0 0),(4,.int .i64 1)]) (Gh.sub ⟨rfl,rfl,rfl,trivial⟩) (Nat.zero_le _) ?_
 refine WPU.loopK (fun m tm σ=>∃ z6:Int,∃ l7:List GNode,∃ t8:Nat,q29 p1 n m z6 l7=some r∧tm=fr 68 [(0,.int .u8 p1),(3,.ptr 0 0 0),(4,.int .i64 z6)]∧σ=⟨[(1,.vec (List.map cGNode l7).flatten 43 2 t8),(0,.row [.vl 1 t8 0 l7.length] 25)],2⟩) (fun tm σ=>∃ l9:List GNode,∃ t10:Nat,q28 n l9=some r∧tm=fr 68 [(3,.ptr 0 0 0)]∧σ=⟨[(1,.vec (List.map cGNode l9).flatten 43 2 t10),(0,.row [.vl 1 t10 0 l9.length] 25)],2⟩) n ⟨1,([]:List GNode),0,hF,rfl,rfl⟩ ?_ ?_
 rintro _ _ ⟨l9,t10,hF,rfl,rfl⟩
 unfold q28 at hF
 refine st ?_
 obtain ⟨r11,h12,hF⟩:=q00 hF
 obtain ⟨h13,hF⟩:=q2h hF
 refine WPU.drawE Try.tb_ok [(0,3),(1,3)] (by kernel_rfl) ?_
 refine RD.q (u:=.ptr 0 0 0) rfl (q0z und25 rfl (q02 inf23) rfl rfl rfl) (RD.q (u:=.vl 1 t10 0 l9.length) rfl (q05 und23 rfl rfl rfl rfl) (RD.free (u:=.agg (cGNode r11)) (args:=[.int .i64 1,.nils]) rfl (q01 rfl rfl fn29 hb29 rfl rfl) (fun s=>EvU.wkA (args':=[.int .i64 1,.isl false []]) (.cons (.refl _) (.cons (.nil false) .nil)) (fun s=>q04 n 1 [] r11 h12 s) s) rfl rfl (RD.act (u:=.sl 2 0 1 1) (σ':=⟨[(2,.row (cGNode r11) 43),(1,.vec (List.map cGNode l9).flatten 43 2 t10),(0,.row [.vl 1 t10 0 l9.length] 25)],3⟩) rfl (q1z und23 inf43 rfl rfl rfl rfl rfl rfl rfl) rfl rfl (RD.act (u:=.vl 1 (t10+1) 0 ((l9++[r11]).length)) (σ':=⟨[(2,.row (cGNode r11) 43),(1,.vec (List.map cGNode (l9++[r11])).flatten 43 2 (t10+1)),(0,.row [.vl 1 t10 0 l9.length] 25)],3⟩) rfl (q8i rfl rfl rfl rfl (q86 cGNode ([r11]) und23 und23 inf43 rfl q0s rfl (q6p cGNode [r11] rfl rfl rfl rfl) h13)) rfl rfl (RD.q (u:=.ptr 0 0 0) rfl (q0z und25 rfl (q02 inf23) rfl rfl rfl) (RD.actn (u:=.junk) (σ':=⟨[(2,.row (cGNode r11) 43),(1,.vec (List.map cGNode (l9++[r11])).flatten 43 2 (t10+1)),(0,.row [.vl 1 (t10+1) 0 ((l9++[r11]).length)] 25)],3⟩) rfl (q0e (q02 inf23) rfl rfl rfl rfl rfl rfl rfl rfl) rfl ?_))))))
 refine RD.done ⟨by kernel_rfl,⟨q0z und25 rfl (q02 inf23) rfl rfl rfl,⟨q05 und23 rfl rfl rfl rfl,trivial⟩⟩,?_⟩
 refine st ?_
 obtain ⟨r14,h15,hF⟩:=q00 hF
 refine sr ?_
 refine RS.q (u:=.agg [.vl 1 (t10+1) 0 ((l9++[r11]).length)]) rfl (q12 und25 rfl (q02 inf25) rfl rfl rfl) ?_
 refine RS.callx (R:=fun u σ'=>∃ t16:Nat→Nat,u = .tup [.agg [.isl false (List.map cGNode r14.1.Nodes)],.int .i64 r14.2]∧σ'=⟨[(2,.row (cGNode r11) 43),(1,.vec (List.map cGNode (l9++[r11])).flatten 43 2 (t10+1)),(0,.row [.vl 1 (t10+1) 0 ((l9++[r11]).length)] 25)],3⟩) (args:=[.agg [.vl 1 (t10+1) 0 ((l9++[r11]).length)]]) rfl (q01 rfl rfl fn13 hb13 rfl rfl) (EvU.st [1] (q6s n (l9++[r11]) r14 h15 (t10+1))) rfl rfl ?_
 rintro _ _ ⟨t16,rfl,rfl⟩
 refine RS.mv rfl rfl rfl rfl (RS.q rfl (q62 rfl rfl) (RS.q rfl (q62 rfl rfl) (RS.q (u:=.ptr 3 0 0) (σ':=⟨[(3,.row [.nils] 25),(2,.row (cGNode r11) 43),(1,.vec (List.map cGNode (l9++[r11])).flatten 43 2 (t10+1)),(0,.row [.vl 1 (t10+1) 0 ((l9++[r11]).length)] 25)],4⟩) rfl (q0v inf25 rfl rfl) (RS.opn (u:=.junk) (σ':=⟨[(3,.row [.isl false (List.map cGNode r14.1.Nodes)] 25),(2,.row (cGNode r11) 43),(1,.vec (List.map cGNode (l9++[r11])).flatten 43 2 (t10+1)),(0,.row [.vl 1 (t10+1) 0 ((l9++[r11]).length)] 25)],4⟩) rfl (q0e (q02 inf25) rfl rfl rfl rfl rfl rfl rfl rfl) rfl ?_))))
 refine sd ?_
 obtain ⟨r17,h18,hF⟩:=q00 hF
 obtain ⟨h19,hF⟩:=q2h hF
 refine WPU.drawE Try.tb_ok [(0,3),(1,3)] (by kernel_rfl) ?_
 refine RD.q (u:=.ptr 0 0 0) rfl (q0z und25 rfl (q02 inf23) rfl rfl rfl) (RD.q (u:=.vl 1 (t10+1) 0 ((l9++[r11]).length)) rfl (q05 und23 rfl rfl rfl rfl) (RD.free (u:=.agg (cGNode r17)) (args:=[.int .i64 1,.nils]) rfl (q01 rfl rfl fn29 hb29 rfl rfl) (fun s=>EvU.wkA (args':=[.int .i64 1,.isl false []]) (.cons (.refl _) (.cons (.nil false) .nil)) (fun s=>q04 n 1 [] r17 h18 s) s) rfl rfl (RD.act (u:=.sl 4 0 1 1) (σ':=⟨[(4,.row (cGNode r17) 43),(3,.row [.isl false (List.map cGNode r14.1.Nodes)] 25),(2,.row (cGNode r11) 43),(1,.vec (List.map cGNode (l9++[r11])).flatten 43 2 (t10+1)),(0,.row [.vl 1 (t10+1) 0 ((l9++[r11]).length)] 25)],5⟩) rfl (q1z und23 inf43 rfl rfl rfl rfl rfl rfl rfl) rfl rfl (RD.act (u:=.vl 1 ((t10+1)+1) 0 (((l9++[r11])++[r17]).length)) (σ':=⟨[(4,.row (cGNode r17) 43),(3,.row [.isl false (List.map cGNode r14.1.Nodes)] 25),(2,.row (cGNode r11) 43),(1,.vec (List.map cGNode ((l9++[r11])++[r17])).flatten 43 2 ((t10+1)+1)),(0,.row [.vl 1 (t10+1) 0 ((l9++[r11]).length)] 25)],5⟩) rfl (q8i rfl rfl rfl rfl (q86 cGNode ([r17]) und23 und23 inf43 rfl q0s rfl (q6p cGNode [r17] rfl rfl rfl rfl) h19)) rfl rfl (RD.q (u:=.ptr 0 0 0) rfl (q0z und25 rfl (q02 inf23) rfl rfl rfl) (RD.actn (u:=.junk) (σ':=⟨[(4,.row (cGNode r17) 43),(3,.row [.isl false (List.map cGNode r14.1.Nodes)] 25),(2,.row (cGNode r11) 43),(1,.vec (List.map cGNode ((l9++[r11])++[r17])).flatten 43 2 ((t10+1)+1)),(0,.row [.vl 1 ((t10+1)+1) 0 (((l9++[r11])++[r17]).length)] 25)],5⟩) rfl (q0e (q02 inf23) rfl rfl rfl rfl rfl rfl rfl rfl) rfl ?_))))))
 refine RD.done ⟨by kernel_rfl,⟨q0z und25 rfl (q02 inf23) rfl rfl rfl,⟨q05 und23 rfl rfl rfl rfl,trivial⟩⟩,?_⟩
 refine st ?_
 obtain ⟨r20,h21,hF⟩:=q00 hF
 refine sr ?_
 refine RS.q (u:=.agg [.vl 1 ((t10+1)+1) 0 (((l9++[r11])++[r17]).length)]) rfl (q12 und25 rfl (q02 inf25) rfl rfl rfl) ?_
 refine RS.callx (R:=fun u σ'=>∃ t22:Nat→Nat,u = .tup [.agg [.isl false (List.map cGNode r20.1.Nodes)],.int .i64 r20.2]∧σ'=⟨[(4,.row (cGNode r17) 43),(3,.row [.isl false (List.map cGNode r14.1.Nodes)] 25),(2,.row (cGNode r11) 43),(1,.vec (List.map cGNode ((l9++[r11])++[r17])).flatten 43 2 ((t10+1)+1)),(0,.row [.vl 1 ((t10+1)+1) 0 (((l9++[r11])++[r17]).length)] 25)],5⟩) (args:=[.agg [.vl 1 ((t10+1)+1) 0 (((l9++[r11])++[r17]).length)]]) rfl (q01 rfl rfl fn13 hb13 rfl rfl) (EvU.st [1] (q6s n ((l9++[r11])++[r17]) r20 h21 ((t10+1)+1))) rfl rfl ?_
 rintro _ _ ⟨t22,rfl,rfl⟩
 refine RS.mv rfl rfl rfl rfl (RS.q rfl (q62 rfl rfl) (RS.q rfl (q62 rfl rfl) (RS.q (u:=.ptr 5 0 0) (σ':=⟨[(5,.row [.nils] 25),(4,.row (cGNode r17) 43),(3,.row [.isl false (List.map cGNode r14.1.Nodes)] 25),(2,.row (cGNode r11) 43),(1,.vec (List.map cGNode ((l9++[r11])++[r17])).flatten 43 2 ((t10+1)+1)),(0,.row [.vl 1 ((t10+1)+1) 0 (((l9++[r11])++[r17]).length)] 25)],6⟩) rfl (q0v inf25 rfl rfl) (RS.opn (u:=.junk) (σ':=⟨[(5,.row [.isl false (List.map cGNode r20.1.Nodes)] 25),(4,.row (cGNode r17) 43),(3,.row [.isl false (List.map cGNode r14.1.Nodes)] 25),(2,.row (cGNode r11) 43),(1,.vec (List.map cGNode ((l9++[r11])++[r17])).flatten 43 2 ((t10+1)+1)),(0,.row [.vl 1 ((t10+1)+1) 0 (((l9++[r11])++[r17]).length)] 25)],6⟩) rfl (q0e (q02 inf25) rfl rfl rfl rfl rfl rfl rfl rfl) rfl ?_))))
 refine sd ?_
 obtain ⟨b31,h32,hF⟩:=q00 hF
 refine WPU.joinK (fun tm σ=>tm=fr 68 [(2,.bool b31)]∧σ=⟨[(5,.row [.isl false (List.map cGNode r20.1.Nodes)] 25),(4,.row (cGNode r17) 43),(3,.row [.isl false (List.map cGNode r14.1.Nodes)] 25),(2,.row (cGNode r11) 43),(1,.vec (List.map cGNode ((l9++[r11])++[r17])).flatten 43 2 ((t10+1)+1)),(0,.row [.vl 1 ((t10+1)+1) 0 (((l9++[r11])++[r17]).length)] 25)],6⟩) ?_ ?_
 rintro _ _ ⟨rfl,rfl⟩
 refine st ?_
 refine WPU.ret ?_
 refine st ?_
 have hr:=Option.some.inj hF
 subst hr
 exact ⟨.inr rfl,[.bool b31],q2k rfl (q20),.bool b31,⟨[],0⟩,Nat.le_refl _,Gh.toR (.bool b31) rfl,rfl,BU.h⟩
 rcases q3m (r14.2 == 0) with h23 | h23
 replace h32:=q0q h23 h32
 rcases q3m ((r14.1.Nodes.length:Int) == 4096) with h24 | h24
 replace h32:=q0q h24 h32
 obtain ⟨x25,h26,h32⟩:=q00 h32
 rcases q3m (x25.Typex == 1) with h27 | h27
 replace h32:=q0q h27 h32
 rcases q3m (r20.2 == 7) with h28 | h28
 replace h32:=q0q h28 h32
 obtain ⟨r29,h30,h32⟩:=q00 h32
 replace h32:=Option.some.inj h32
 subst h32
 refine sr ?_
 refine RS.q rfl (q06 rfl rfl (q3l _ _ _) rfl) (RS.mv rfl rfl rfl rfl (RS.op (u:=.ptr 3 0 0) (want1 rfl rfl rfl h23) (q0z und25 rfl (q02 inf23) rfl rfl rfl) rfl rfl (RS.op (u:=.isl false (List.map cGNode r14.1.Nodes)) (want1 rfl rfl rfl h23) (q05 und23 rfl rfl rfl rfl) rfl rfl (RS.op (want1 rfl rfl rfl h23) (q1e rfl rfl rfl (q1n cGNode und23)) rfl rfl (RS.op (want1 rfl rfl rfl h23) (q06 rfl rfl (q3l _ _ _) rfl) rfl rfl (RS.q (u:=.bool ((r14.1.Nodes.length:Int) == 4096)) rfl (q0n rfl h23 rfl) (RS.mv rfl rfl rfl rfl ?_)))))))
 refine RS.op (u:=.ptr 3 0 0) (want1 rfl rfl rfl h24) (q0z und25 rfl (q02 inf23) rfl rfl rfl) rfl rfl (RS.op (u:=.isl false (List.map cGNode r14.1.Nodes)) (want1 rfl rfl rfl h24) (q05 und23 rfl rfl rfl rfl) rfl rfl (RS.op (u:=.iptr (cGNode x25)) (want1 rfl rfl rfl h24) (q2t rfl rfl (q45 cGNode und23 (q02 inf43) q0s h26 rfl)) rfl rfl (RS.op (u:=.iptr (cGNode x25)) (want1 rfl rfl rfl h24) (qax und43 rfl (q02 inf3) rfl rfl) rfl rfl (RS.op (u:=.int .i64 x25.Typex) (want1 rfl rfl rfl h24) (q5r und3 rfl rfl rfl) rfl rfl (RS.op (want1 rfl rfl rfl h24) (q06 rfl rfl (q3l _ _ _) rfl) rfl rfl (RS.q (u:=.bool (x25.Typex == 1)) rfl (q0n rfl h24 rfl) (RS.mv rfl rfl rfl rfl ?_)))))))
 refine RS.op (want1 rfl rfl rfl h27) (q4d rfl) rfl rfl (RS.op (want1 rfl rfl rfl h27) (q06 rfl rfl (q3l _ _ _) rfl) rfl rfl (RS.q (u:=.bool (r20.2 == 7)) rfl (q0n rfl h27 rfl) (RS.mv rfl rfl rfl rfl (RS.call (u:=.bool r29) (args:=[]) (want1 rfl rfl rfl h28) (q01 rfl rfl fn16 hb16 rfl rfl) (q71 n  r29 h30 _) rfl rfl (RS.q (u:=.bool r29) rfl (q0n rfl h28 rfl) ?_)))))
 refine sd ?_
 exact ⟨_,_,⟨rfl,rfl⟩,(Nat.zero_le _),Gh.toC (n1:=6) ⟨rfl,trivial⟩ rfl (Nat.zero_le _) (by simp)⟩
 replace h32:=q0p h28 h32
 replace h32:=Option.some.inj h32
 subst h32
 refine sr ?_
 refine RS.q rfl (q06 rfl rfl (q3l _ _ _) rfl) (RS.mv rfl rfl rfl rfl (RS.op (u:=.ptr 3 0 0) (want1 rfl rfl rfl h23) (q0z und25 rfl (q02 inf23) rfl rfl rfl) rfl rfl (RS.op (u:=.isl false (List.map cGNode r14.1.Nodes)) (want1 rfl rfl rfl h23) (q05 und23 rfl rfl rfl rfl) rfl rfl (RS.op (want1 rfl rfl rfl h23) (q1e rfl rfl rfl (q1n cGNode und23)) rfl rfl (RS.op (want1 rfl rfl rfl h23) (q06 rfl rfl (q3l _ _ _) rfl) rfl rfl (RS.q (u:=.bool ((r14.1.Nodes.length:Int) == 4096)) rfl (q0n rfl h23 rfl) (RS.mv rfl rfl rfl rfl ?_)))))))
 refine RS.op (u:=.ptr 3 0 0) (want1 rfl rfl rfl h24) (q0z und25 rfl (q02 inf23) rfl rfl rfl) rfl rfl (RS.op (u:=.isl false (List.map cGNode r14.1.Nodes)) (want1 rfl rfl rfl h24) (q05 und23 rfl rfl rfl rfl) rfl rfl (RS.op (u:=.iptr (cGNode x25)) (want1 rfl rfl rfl h24) (q2t rfl rfl (q45 cGNode und23 (q02 inf43) q0s h26 rfl)) rfl rfl (RS.op (u:=.iptr (cGNode x25)) (want1 rfl rfl rfl h24) (qax und43 rfl (q02 inf3) rfl rfl) rfl rfl (RS.op (u:=.int .i64 x25.Typex) (want1 rfl rfl rfl h24) (q5r und3 rfl rfl rfl) rfl rfl (RS.op (want1 rfl rfl rfl h24) (q06 rfl rfl (q3l _ _ _) rfl) rfl rfl (RS.q (u:=.bool (x25.Typex == 1)) rfl (q0n rfl h24 rfl) (RS.mv rfl rfl rfl rfl ?_)))))))
 refine RS.op (want1 rfl rfl rfl h27) (q4d rfl) rfl rfl (RS.op (want1 rfl rfl rfl h27) (q06 rfl rfl (q3l _ _ _) rfl) rfl rfl (RS.q (u:=.bool (r20.2 == 7)) rfl (q0n rfl h27 rfl) (RS.mv rfl rfl rfl rfl (RS.no (want0 rfl rfl rfl h28) rfl rfl (RS.q (u:=.bool false) rfl (q0m rfl h28 rfl) ?_)))))
 refine sd ?_
 exact ⟨_,_,⟨rfl,rfl⟩,(Nat.zero_le _),Gh.toC (n1:=6) ⟨rfl,trivial⟩ rfl (Nat.zero_le _) (by simp)⟩
 replace h32:=q0p h27 h32
 replace h32:=Option.some.inj h32
 subst h32
 refine sr ?_
 refine RS.q rfl (q06 rfl rfl (q3l _ _ _) rfl) (RS.mv rfl rfl rfl rfl (RS.op (u:=.ptr 3 0 0) (want1 rfl rfl rfl h23) (q0z und25 rfl (q02 inf23) rfl rfl rfl) rfl rfl (RS.op (u:=.isl false (List.map cGNode r14.1.Nodes)) (want1 rfl rfl rfl h23) (q05 und23 rfl rfl rfl rfl) rfl rfl (RS.op (want1 rfl rfl rfl h23) (q1e rfl rfl rfl (q1n cGNode und23)) rfl rfl (RS.op (want1 rfl rfl rfl h23) (q06 rfl rfl (q3l _ _ _) rfl) rfl rfl (RS.q (u:=.bool ((r14.1.Nodes.length:Int) == 4096)) rfl (q0n rfl h23 rfl) (RS.mv rfl rfl rfl rfl ?_)))))))
 refine RS.op (u:=.ptr 3 0 0) (want1 rfl rfl rfl h24) (q0z und25 rfl (q02 inf23) rfl rfl rfl) rfl rfl (RS.op (u:=.isl false (List.map cGNode r14.1.Nodes)) (want1 rfl rfl rfl h24) (q05 und23 rfl rfl rfl rfl) rfl rfl (RS.op (u:=.iptr (cGNode x25)) (want1 rfl rfl rfl h24) (q2t rfl rfl (q45 cGNode und23 (q02 inf43) q0s h26 rfl)) rfl rfl (RS.op (u:=.iptr (cGNode x25)) (want1 rfl rfl rfl h24) (qax und43 rfl (q02 inf3) rfl rfl) rfl rfl (RS.op (u:=.int .i64 x25.Typex) (want1 rfl rfl rfl h24) (q5r und3 rfl rfl rfl) rfl rfl (RS.op (want1 rfl rfl rfl h24) (q06 rfl rfl (q3l _ _ _) rfl) rfl rfl (RS.q (u:=.bool (x25.Typex == 1)) rfl (q0n rfl h24 rfl) (RS.mv rfl rfl rfl rfl ?_)))))))
 repeat refine RS.no (want0 rfl rfl rfl h27) rfl rfl ?_
 refine RS.q (u:=.bool false) rfl (q0m rfl h27 rfl) (RS.mv rfl rfl rfl rfl (RS.no (want0 rfl rfl rfl rfl) rfl rfl (RS.q (u:=.bool false) rfl (q0m rfl rfl rfl) ?_)))
 refine sd ?_
 exact ⟨_,_,⟨rfl,rfl⟩,(Nat.zero_le _),Gh.toC (n1:=6) ⟨rfl,trivial⟩ rfl (Nat.zero_le _) (by simp)⟩
 replace h32:=q0p h24 h32
 replace h32:=Option.some.inj h32
 subst h32
 refine sr ?_
 refine RS.q rfl (q06 rfl rfl (q3l _ _ _) rfl) (RS.mv rfl rfl rfl rfl (RS.op (u:=.ptr 3 0 0) (want1 rfl rfl rfl h23) (q0z und25 rfl (q02 inf23) rfl rfl rfl) rfl rfl (RS.op (u:=.isl false (List.map cGNode r14.1.Nodes)) (want1 rfl rfl rfl h23) (q05 und23 rfl rfl rfl rfl) rfl rfl (RS.op (want1 rfl rfl rfl h23) (q1e rfl rfl rfl (q1n cGNode und23)) rfl rfl (RS.op (want1 rfl rfl rfl h23) (q06 rfl rfl (q3l _ _ _) rfl) rfl rfl (RS.q (u:=.bool ((r14.1.Nodes.length:Int) == 4096)) rfl (q0n rfl h23 rfl) (RS.mv rfl rfl rfl rfl ?_)))))))
 repeat refine RS.no (want0 rfl rfl rfl h24) rfl rfl ?_
 refine RS.q (u:=.bool false) rfl (q0m rfl h24 rfl) (RS.mv rfl rfl rfl rfl ?_)
 repeat refine RS.no (want0 rfl rfl rfl rfl) rfl rfl ?_
 refine RS.q (u:=.bool false) rfl (q0m rfl rfl rfl) (RS.mv rfl rfl rfl rfl (RS.no (want0 rfl rfl rfl rfl) rfl rfl (RS.q (u:=.bool false) rfl (q0m rfl rfl rfl) ?_)))
 refine sd ?_
 exact ⟨_,_,⟨rfl,rfl⟩,(Nat.zero_le _),Gh.toC (n1:=6) ⟨rfl,trivial⟩ rfl (Nat.zero_le _) (by simp)⟩
 replace h32:=q0p h23 h32
 replace h32:=Option.some.inj h32
 subst h32
 refine sr ?_
 refine RS.q rfl (q06 rfl rfl (q3l _ _ _) rfl) (RS.mv rfl rfl rfl rfl ?_)
 repeat refine RS.no (want0 rfl rfl rfl h23) rfl rfl ?_
 refine RS.q (u:=.bool false) rfl (q0m rfl h23 rfl) (RS.mv rfl rfl rfl rfl ?_)
 repeat refine RS.no (want0 rfl rfl rfl rfl) rfl rfl ?_
 refine RS.q (u:=.bool false) rfl (q0m rfl rfl rfl) (RS.mv rfl rfl rfl rfl ?_)
 repeat refine RS.no (want0 rfl rfl rfl rfl) rfl rfl ?_
 refine RS.q (u:=.bool false) rfl (q0m rfl rfl rfl) (RS.mv rfl rfl rfl rfl (RS.no (want0 rfl rfl rfl rfl) rfl rfl (RS.q (u:=.bool false) rfl (q0m rfl rfl rfl) ?_)))
 refine sd ?_
 exact ⟨_,_,⟨rfl,rfl⟩,(Nat.zero_le _),Gh.toC (n1:=6) ⟨rfl,trivial⟩ rfl (Nat.zero_le _) (by simp)⟩
 rintro m1 _ _ ⟨z6,l7,t8,hF,rfl,rfl⟩
 rcases m1 with _ | m1
 cases hF
 unfold q29 at hF
 refine sr ?_
 refine RS.q rfl (q06 rfl rfl (q2s _ _ _) rfl) ?_
 refine sd ?_
 refine WPU.condS (t:=(decide (z6<4096))) rfl (fun h33=>?_) (fun h33=>?_)
 replace hF:=q0q h33 hF
 refine st ?_
 refine WPU.skip ?_
 refine st ?_
 refine WPU.block ?_
 refine st ?_
 obtain ⟨r34,h35,hF⟩:=q00 hF
 obtain ⟨h36,hF⟩:=q2h hF
 refine WPU.drawE Try.tb_ok [(0,5),(0,6),(0,7),(1,5),(1,6),(1,7)] (by kernel_rfl) ?_
 refine RD.q (u:=.ptr 0 0 0) rfl (q0z und25 rfl (q02 inf23) rfl rfl rfl) (RD.q (u:=.vl 1 t8 0 l7.length) rfl (q05 und23 rfl rfl rfl rfl) (RD.mv rfl rfl rfl rfl ?_))
 refine RD.q (u:=.int .i64 (IntKind.i64.wrap p1)) rfl (op_conv rfl rfl (by simp only [convX,und5,und3]<;>rfl) rfl) ?_
 refine RD.mv rfl rfl rfl rfl (RD.act (u:=.sl 2 0 2 2) (σ':=⟨[(2,.row [.int .i64 (IntKind.i64.wrap p1),.int .i64 z6] 3),(1,.vec (List.map cGNode l7).flatten 43 2 t8),(0,.row [.vl 1 t8 0 l7.length] 25)],3⟩) rfl (q1z und55 inf3 rfl rfl rfl rfl rfl rfl rfl) rfl rfl ?_)
 refine RD.fcall (u:=.agg (cGNode r34)) (args:=[.int .i64 0,.sl 2 0 2 2]) (σ1:=⟨[(1,.vec (List.map cGNode l7).flatten 43 2 t8),(0,.row [.vl 1 t8 0 l7.length] 25)],3⟩) rfl (q01 rfl rfl fn29 hb29 rfl rfl) (Gh.fz (tm':=[.int .i64 0,.isl false (List.map (cI .i64) ([(IntKind.i64.wrap p1),z6]))]) (h':=[(1,.vec (List.map cGNode l7).flatten 43 2 t8),(0,.row [.vl 1 t8 0 l7.length] 25)]) 2 (.row [.int .i64 (IntKind.i64.wrap p1),.int .i64 z6] 3) 1 rfl (by simp) (by simp only [oneU,q07,q03,q0h,q09,q0k,q0d,q0c,q0b,q0a,q08,q0i,q0j,q0g,q0l,q1i,junkT,q1u,q1x,q2x (show Nat.beq 1 2=false from rfl),q2w (show Nat.beq 1 2=false from rfl),q2v (show Nat.beq 1 2=false from rfl),q2g _ _ _ (q2i 2 (fun q=>q32 _ q) l7),Nat.reduceLeDiff,Nat.reduceMul,List.length_cons,List.length_nil,Nat.reduceAdd]<;>simp only [chunks,List.take,List.drop,List.map,cI,cB,cS,cL]) (by simp only [fzH,fzB,ug,Nat.beq,cond_true,cond_false,oneU,q07,q03,q0h,q09,q0k,q0d,q0c,q0b,q0a,q08,q0i,q0j,q0g,q0l,q1i,junkT,q1u,q1x,q2x (show Nat.beq 1 2=false from rfl),q2w (show Nat.beq 1 2=false from rfl),q2v (show Nat.beq 1 2=false from rfl),q2g _ _ _ (q2i 2 (fun q=>q32 _ q) l7),Nat.reduceLeDiff,Nat.reduceMul,List.length_cons,List.length_nil,Nat.reduceAdd]<;>simp only [chunks,List.take,List.drop,List.map,cI,cB,cS,cL])) (Nat.le_of_ble_eq_true rfl) (q04 n 0 ([(IntKind.i64.wrap p1),z6]) r34 h35 _) rfl rfl ?_
 refine RD.act (u:=.sl 3 0 1 1) (σ':=⟨[(3,.row (cGNode r34) 43),(1,.vec (List.map cGNode l7).flatten 43 2 t8),(0,.row [.vl 1 t8 0 l7.length] 25)],4⟩) rfl (q1z und23 inf43 rfl rfl rfl rfl rfl rfl rfl) rfl rfl (RD.act (u:=.vl 1 (t8+1) 0 ((l7++[r34]).length)) (σ':=⟨[(3,.row (cGNode r34) 43),(1,.vec (List.map cGNode (l7++[r34])).flatten 43 2 (t8+1)),(0,.row [.vl 1 t8 0 l7.length] 25)],4⟩) rfl (q8i rfl rfl rfl rfl (q86 cGNode ([r34]) und23 und23 inf43 rfl q0s rfl (q6p cGNode [r34] rfl rfl rfl rfl) h36)) rfl rfl (RD.q (u:=.ptr 0 0 0) rfl (q0z und25 rfl (q02 inf23) rfl rfl rfl) (RD.actn (u:=.junk) (σ':=⟨[(3,.row (cGNode r34) 43),(1,.vec (List.map cGNode (l7++[r34])).flatten 43 2 (t8+1)),(0,.row [.vl 1 (t8+1) 0 ((l7++[r34]).length)] 25)],4⟩) rfl (q0e (q02 inf23) rfl rfl rfl rfl rfl rfl rfl rfl) rfl ?_)))
 refine RD.done ⟨by kernel_rfl,⟨q0z und25 rfl (q02 inf23) rfl rfl rfl,⟨q0z und25 rfl (q02 inf23) rfl rfl rfl,⟨q0z und25 rfl (q02 inf23) rfl rfl rfl,⟨q05 und23 rfl rfl rfl rfl,⟨q05 und23 rfl rfl rfl rfl,⟨q05 und23 rfl rfl rfl rfl,trivial⟩⟩⟩⟩⟩⟩,?_⟩
 refine sr ?_
 refine RS.q rfl (q06 rfl rfl (q3w _ _ _) rfl) ?_
 refine sd ?_
 exact ⟨m1,_,_,Nat.lt_succ_self _,⟨(IntKind.i64.wrap (z6+1)),(l7++[r34]),(t8+1),hF,rfl,rfl⟩,(Nat.zero_le _),Gh.toC (n1:=2) ⟨rfl,rfl,rfl,trivial⟩ rfl (Nat.zero_le _) (by simp)⟩
 replace hF:=q0p h33 hF
 refine st ?_
 refine WPU.exit ?_
 refine st ?_
 exact ⟨_,_,⟨l7,t8,hF,rfl,rfl⟩,(Nat.zero_le _),Gh.toC (n1:=2) ⟨rfl,trivial⟩ rfl (Nat.zero_le _) (by simp)⟩
end Go.Proofs
end
section
namespace Go.Proofs
open Go Go.Rx Go.Vx Go.Shelf Go.Sort
set_option linter.unusedVariables false
set_option linter.unusedSimpArgs false
set_option maxRecDepth 10000
theorem q6b {α β γ:Type} (a:Option α) (f:α→Option β) (g:β→Option γ):bindO (bindO a f) g=bindO a fun x=>bindO (f x) g:=by cases a<;>rfl
theorem bindO_cond {α β:Type} (b:Bool) (x y:Option α) (g:α→Option β):bindO (cond b x y) g=cond b (bindO x g) (bindO y g):=by cases b<;>rfl
theorem bindO_need {α β:Type} (p:Prop) [Decidable p] (x:Option α) (g:α→Option β):bindO (needO p x) g=needO p (bindO x g):=by
 by_cases h:p<;>simp [needO,h]<;>rfl
theorem t1_L1 {l:List GNode} {r:List GArc} {se:Int→List GNode→List Int→MapL Int Int→Option ((List Int)×(MapL Int Int))} {te:Int→List Int→MapL Int Int→List GNode→Option ((List Int)×(MapL Int Int))} (h:∀ v o w,te v o w l=se v l o w):∀ (m:Nat) (z:Int) (o:List Int) (w:MapL Int Int),
  q13 l r te m z o w=q0o l r se m z o w
 | 0,z,o,w=>rfl
 | m+1,z,o,w=>by
  unfold q13 q0o
  simp only [q26,q1f,q2y,q25,h,t1_L1 h m]
theorem t1_eq (l:List GNode):∀ (n:Nat) (v:Int) (o:List Int) (w:MapL Int Int),q1k n v o w l=q0r n v l o w
 | 0,v,o,w=>rfl
 | n+1,v,o,w=>by
  show q36 n (q1k n) v o w l=q1y n (q0r n) v l o w
  simp only [q36,q1y,t1_L1 (fun v o w=>t1_eq l n v o w)]
def postC (x:Nat×List GNode):Option GFS:=needO (x.1=x.2.length) (some (GFS.mk x.2))
theorem s1_L2 {l:List GNode} {r4:(List Int)×(MapL Int Int)} {z:Int} {l17:List GNode} {rc:Int→List GNode→Option (Nat×List GNode)} {rc':Int→List GNode→Option GFS} (h:∀ z q,bindO (rc z q) postC=rc' z q) {x:Int} {r:List GArc}:∀ (m:Nat) (j:Int) (a:List GArc),
  bindO (q21 l r4 z l17 rc x r m j a) postC=q1m ⟨l⟩ r4 z l17 rc' x r m j a
 | 0,j,a=>rfl
 | m+1,j,a=>by
  unfold q21 q1m
  simp only [bindO_cond,q6b,s1_L2 h m,q3c,q2m,h]
theorem s1_L1 {l:List GNode} {n:Nat} {r4:(List Int)×(MapL Int Int)}:∀ (m:Nat) (z:Int) (q:List GNode),bindO (q1d l n r4 m z q) postC=q14 ⟨l⟩ n r4 m z q
 | 0,z,q=>rfl
 | m+1,z,q=>by
  unfold q1d q14
  simp only [bindO_cond,q6b,s1_L2 (fun z q=>s1_L1 (l:=l) (n:=n) (r4:=r4) m z q),q3b,q39,q2q,postC]
theorem s1_eq (l:List GNode) (n:Nat) (v:Int):bindO (q3a n v l) postC=q24 n ⟨l⟩ v:=by
 simp only [q3a,q24,q6b,bindO_need,s1_L1,t1_eq]
theorem CanonS_L (l:List GNode) (n:Nat):∀ (m:Nat) (z:Int),q33 l n m z=q30 ⟨l⟩ n m z
 | 0,z=>rfl
 | m+1,z=>by
  have h:q3h l n=q3q ⟨l⟩ n:=by
   simp only [q3h,q3q,← s1_eq,q6b,postC,bindO_need,q2q]
  unfold q33 q30
  simp only [h,CanonS_L l n m]
theorem CanonS_eq (l:List GNode) (n:Nat):q31 n l=q1v n ⟨l⟩:=by
 simp only [q31,q1v,CanonS_L]
def chn (p:Int) (i:Nat):List GNode:=(List.range i).map fun j=>⟨0,[⟨p,((j+1:Nat):Int)⟩]⟩
theorem q8z (p:Int) (i:Nat):(chn p i).length=i:=by simp [chn]
theorem chn_get {p:Int} {i j:Nat} (h:j<i):(chn p i)[j]? = some ⟨0,[⟨p,((j+1:Nat):Int)⟩]⟩:=by simp [chn,h]
theorem chn_succ (p:Int) (i:Nat):chn p i++[⟨0,[⟨p,((i+1:Nat):Int)⟩]⟩]=chn p (i+1):=by simp [chn,List.range_succ]
def chG (p:Int):GFS:=⟨chn p 4095++[⟨1,[]⟩]⟩
theorem q6y (p:Int):(chG p).Nodes.length=4096:=by simp [chG,q8z]
theorem chG_mem {p:Int} {x:GNode} (h:x∈(chG p).Nodes):(∃ j,j<4095∧x=⟨0,[⟨p,((j+1:Nat):Int)⟩]⟩)∨x=⟨1,[]⟩:=by
 simp only [chG,List.mem_append,chn,List.mem_map,List.mem_range,List.mem_singleton] at h
 rcases h with ⟨j,hj,rfl⟩ | h
 ·exact .inl ⟨j,hj,rfl⟩
 ·exact .inr h
theorem chG_ok {p:Int} (hp:0≤p):GOK (chG p):=fun x hx=>by
 rw [q6y]
 rcases chG_mem hx with ⟨j,hj,rfl⟩ | rfl
 ·exact ⟨by simp,by simp [Dis],fun a ha=>by simp at ha; subst ha; exact ⟨hp,by simp only; omega,by simp only; omega⟩⟩
 ·exact ⟨by simp,by simp [Dis],fun a ha=>by cases ha⟩
theorem chG_nd {p:Int} {i:Nat} (h:i<4095):nd (chG p) (i:Int)=⟨0,[⟨p,((i+1:Nat):Int)⟩]⟩:=by
 simp only [nd,chG,Int.toNat_natCast]
 rw [List.getElem?_append_left (by rw [q8z]; exact h),chn_get h]
 rfl
theorem chG_last {p:Int}:nd (chG p) ((4095:Nat):Int)=⟨1,[]⟩:=by
 simp only [nd,chG,Int.toNat_natCast]
 rw [List.getElem?_append_right (by rw [q8z]; omega),q8z]
 rfl
theorem idN_succ (i:Nat):idN i++[(i:Int)]=idN (i+1):=by simp [idN,List.range_succ]
theorem chG_dfs {p:Int}:∀ (d k i:Nat),4095 - i=d→i≤4095→d<k→dfs (chG p) k (idN i) (i:Int)=idN 4096
 | d,0,i,_,_,h=>by omega
 | d,k+1,i,hd,hi,hk=>by
  show (sar (chG p) (i:Int)).foldl _ (idN i++[(i:Int)])=_
  rw [idN_succ]
  by_cases e:i=4095
  ·subst e
   have:sar (chG p) ((4095:Nat):Int)=[]:=by rw [sar,chG_last]; rfl
   rw [this]
   rfl
  ·have:sar (chG p) (i:Int)=[⟨p,((i+1:Nat):Int)⟩]:=by rw [sar,chG_nd (by omega)]; rfl
   rw [this]
   simp only [List.foldl_cons,List.foldl_nil]
   have hn:((i+1:Nat):Int) ∉ idN (i+1):=fun h=>by
    have:=(Pl.id (i+1)).ing _ h
    omega
   rw [dfsF,if_neg hn]
   exact chG_dfs (d - 1) k (i+1) (by omega) (by omega) (by omega)
theorem chG_small (p:Int):Small (chG p) 4096:=⟨by rw [q6y]; omega,fun x hx=>by
 rcases chG_mem hx with ⟨j,hj,rfl⟩ | rfl<;>simp⟩
theorem need2 (p:Int):((chG p).Nodes.length+1)*32≤140737488355328∧(chG p).Nodes.length+1≤140737488355328:=by
 have h:=q6y p
 generalize (chG p).Nodes.length=N at h
 omega
theorem nodes2 (p:Int):chn p 4095++[(⟨1,[]⟩:GNode)]=(chG p).Nodes:=rfl
theorem CanonOK {f:GFS} {k:Nat} (hf:Small f k) (hk:k≤1000000) {n:Nat} (hn:2*k+4≤n) (h:errG f=0):q1v n f=some (canonG f 0,0):=by
 rw [Canon_ok hf hk hn,h,if_pos rfl]
theorem CanonNo {f:GFS} {k:Nat} (hf:Small f k) (hk:k≤1000000) {n:Nat} (hn:2*k+4≤n) {e:Int} (h:errG f=e) (he:e≠0):q1v n f=some (⟨[]⟩,e):=by
 rw [Canon_ok hf hk hn,h,if_neg he]
theorem chG_ord (p:Int):ordG (chG p) 0=idN 4096:=by
 have h:=chG_dfs (p:=p) 4095 4096 0 rfl (by omega) (by omega)
 have e0:idN 0=[]:=rfl
 rw [e0,Int.ofNat_zero] at h
 rw [ordG,q6y]
 exact h
theorem chG_clen (p:Int):(canonG (chG p) 0).Nodes.length=4096:=by
 rw [canonG,List.length_map,chG_ord,(Pl.id 4096).len]
theorem chG_clast (p:Int):idxO (canonG (chG p) 0).Nodes ((4095:Nat):Int)=some (nodeC (chG p) (ordG (chG p) 0) ((4095:Nat):Int)):=by
 have h:(ordG (chG p) 0)[4095]? = some ((4095:Nat):Int):=by rw [chG_ord]; exact idN_get (by omega)
 rw [q6f,canonG,List.getElem?_map,h,Option.map_some]
theorem chG_cty (p:Int):(nodeC (chG p) (ordG (chG p) 0) ((4095:Nat):Int)).Typex=1:=by
 rw [nodeC,chG_last]
theorem chG_err {p:Int} (hp:0≤p):errG (chG p)=0:=errG_zero.2 ⟨by rw [q6y]; decide,by rw [q6y]; decide,chG_ok hp⟩
theorem chG_err2 (p:Int):errG ⟨(chG p).Nodes++[⟨1,[]⟩]⟩=7:=by
 have hl:((chG p).Nodes++[(⟨1,[]⟩:GNode)]).length=4097:=by rw [List.length_append,q6y]; rfl
 unfold errG
 simp only [hl]
 rw [if_neg (by decide),if_pos (by decide)]
theorem chG_small2 (p:Int):Small ⟨(chG p).Nodes++[⟨1,[]⟩]⟩ 4097:=⟨by rw [List.length_append,q6y]; decide,fun x hx=>by
 rcases List.mem_append.1 hx with hx | hx
 ·have:=(chG_small p).arcs x hx; omega
 ·simp at hx; subst hx; simp⟩
theorem limA (n:Nat) (hn:3000000≤n) (g:GFS) (c:List GNode) (cg:GFS) (x:GNode) (n1:(c.length+1)*32≤140737488355328∧c.length+1≤140737488355328) (n2:(g.Nodes.length+1)*32≤140737488355328∧g.Nodes.length+1≤140737488355328)
  (e1:c++[(⟨1,[]⟩:GNode)]=g.Nodes) (hC:q1v n g=some (cg,0)) (hC2:q1v n ⟨g.Nodes++[⟨1,[]⟩]⟩=some (⟨[]⟩,7)) (hlen:cg.Nodes.length=4096) (hlast:idxO cg.Nodes ((4095:Nat):Int)=some x) (hty:x.Typex=1):q28 n c=some true:=by
 have hnode:q16 n 1 []=some ⟨1,[]⟩:=by
  obtain ⟨m,rfl⟩:∃ m,n=m+10:=⟨n - 10,by omega⟩
  rfl
 have hex:=ex_n (show 60≤n by omega)
 have hS1:q31 n (c++[(⟨1,[]⟩:GNode)])=some (cg,0):=by rw [CanonS_eq,e1]; exact hC
 have hS2:q31 n ((c++[(⟨1,[]⟩:GNode)])++[(⟨1,[]⟩:GNode)])=some (⟨[]⟩,7):=by rw [CanonS_eq,e1]; exact hC2
 have n2':((c++[(⟨1,[]⟩:GNode)]).length+1)*32≤140737488355328∧(c++[(⟨1,[]⟩:GNode)]).length+1≤140737488355328:=by rw [e1]; exact n2
 have b2:((cg.Nodes.length:Int) == 4096)=true:=by rw [hlen]; rfl
 have hl:idxO cg.Nodes 4095=some x:=hlast
 have b4:(x.Typex == 1)=true:=by rw [hty]; rfl
 simp only [q28,hnode,q2q,needO]
 rw [if_pos n1]
 simp only [hS1,q2q]
 rw [if_pos n2']
 simp only [hS2,q2q,beq_self_eq_true,cond_true,b2,hl,b4,hex]
theorem need1 (p:Int):((chn p 4095).length+1)*32≤140737488355328∧(chn p 4095).length+1≤140737488355328:=by
 have h:=q8z p 4095
 generalize (chn p 4095).length=N at h
 omega
theorem chG_C1 {p:Int} (hp:0≤p) {n:Nat} (hn:3000000≤n):q1v n (chG p)=some (canonG (chG p) 0,0) :=
 CanonOK (chG_small p) (by omega) (by omega) (chG_err hp)
theorem chG_C2 (p:Int) {n:Nat} (hn:3000000≤n):q1v n ⟨(chG p).Nodes++[⟨1,[]⟩]⟩=some (⟨[]⟩,7) :=
 CanonNo (chG_small2 p) (by omega) (by omega) (chG_err2 p) (by decide)
theorem limits_K1 {p:Int} (hp:0≤p) {n:Nat} (hn:3000000≤n):q28 n (chn p 4095)=some true :=
 limA n hn (chG p) (chn p 4095) (canonG (chG p) 0) (nodeC (chG p) (ordG (chG p) 0) ((4095:Nat):Int)) (need1 p) (need2 p) (nodes2 p) (chG_C1 hp hn) (chG_C2 p hn) (chG_clen p) (chG_clast p) (chG_cty p)
theorem limits_L1 {p:Int} (hp:0≤p∧p≤255) {n:Nat} (hn:3000000≤n):∀ (m i:Nat),4096 - (i+1)<m→i≤4095→q29 p n m ((i+1:Nat):Int) (chn p i)=some true
 | 0,i,hm,_=>by omega
 | m+1,i,hm,hi=>by
  have hwp:IntKind.i64.wrap p=p:=wr (by omega) (by omega)
  have hnode:∀ a b:Int,q16 n 0 [a,b]=some ⟨0,[⟨a,b⟩]⟩:=fun a b=>by
   obtain ⟨m,rfl⟩:∃ m,n=m+10:=⟨n - 10,by omega⟩
   rfl
  unfold q29
  by_cases hlt:i<4095
  ·have hd:((i+1:Nat):Int)<4096:=by omega
   have n1:((chn p i).length+1)*32≤140737488355328∧(chn p i).length+1≤140737488355328:=by rw [q8z]; omega
   have hw:IntKind.i64.wrap (((i+1:Nat):Int)+1)=((i+1+1:Nat):Int):=wrn (by omega) (by omega)
   simp only [hd,decide_true,cond_true,hwp,hnode,q2q,needO]
   rw [if_pos n1,hw,chn_succ]
   exact limits_L1 hp hn m (i+1) (by omega) (by omega)
  ·have:i=4095:=by omega
   subst this
   have hd:¬ (((4095+1:Nat):Nat):Int)<4096:=by omega
   simp only [hd,decide_false,cond_false]
   exact limits_K1 hp.1 hn
theorem limits_law {p:Int} (hp:0≤p∧p≤255) {n:Nat} (hn:3000000≤n):q4s n p=some true:=by
 have:=limits_L1 hp hn n 0 (by omega) (by omega)
 exact this
end Go.Proofs
end
