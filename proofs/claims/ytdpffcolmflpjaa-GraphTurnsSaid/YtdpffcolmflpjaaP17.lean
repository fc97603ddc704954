/-
  Texts of the walk: MpA H6 H7 H8.
-/
import Derived.Test.YtdpffcolmflpjaaP16
section
namespace Go.Vx
open Go Go.Rx
set_option linter.unusedVariables false
section
variable {K V:Type} [DecidableEq K]
def aget (k:K):List (K×V×Nat)→Option V
 | []=>none
 | e::es=>if k=e.1 then some e.2.1 else aget k es
variable {eq:K→K→Bool} (he:∀ a b,eq a b=true↔a=b)
include he
omit [DecidableEq K] in
theorem eq_f {a b:K} (h:¬ a=b):eq a b=false:=by
 cases h':eq a b with
 | false=>rfl
 | true=>exact absurd ((he a b).1 h') h
theorem q9d (k:K):∀ (es:List (K×V×Nat)) (i:Nat),(mFindL eq k es i).map (fun x=>x.2.1)=aget k es
 | [],i=>rfl
 | e::es,i=>by
  simp only [mFindL,aget]
  by_cases h:k=e.1
  ·rw [(he k e.1).2 h,if_pos h]; rfl
  ·rw [eq_f he h,if_neg h]; exact q9d k es (i+1)
theorem mGet_get (m:MapL K V) (k:K):mGet eq m k=aget k m.es:=q9d he k m.es 0
theorem get_set (k:K) (v:V):∀ {es:List (K×V×Nat)} {i j:Nat} {q:V×Nat},mFindL eq k es i=some (j,q)→i≤j∧∀ x,aget x (mSetL v es (j - i))=if x=k then some v else aget x es
 | [],i,j,q,h=>by cases h
 | e::es,i,j,q,h=>by
  simp only [mFindL] at h
  by_cases hk:k=e.1
  ·rw [(he k e.1).2 hk] at h
   simp only [cond_true,Option.some.injEq,Prod.mk.injEq] at h
   obtain ⟨rfl,_⟩:=h
   refine ⟨Nat.le_refl _,fun x=>?_⟩
   simp only [Nat.sub_self,mSetL,aget,hk]
   split<;>rfl
  ·rw [eq_f he hk] at h
   simp only [cond_false] at h
   obtain ⟨h1,h2⟩:=get_set k v h
   refine ⟨by omega,fun x=>?_⟩
   rw [show j - i=(j - (i+1))+1 by omega]
   simp only [mSetL,aget,h2]
   by_cases hx:x=e.1
   ·have:¬ x=k:=fun h=>hk (h ▸ hx)
    simp [hx]
    intro h; exact absurd h.symm hk
   ·simp [hx]
omit he [DecidableEq K] in
theorem set_keys (v:V):∀ (es:List (K×V×Nat)) (i:Nat),(mSetL v es i).map (fun e=>e.1)=es.map (fun e=>e.1)∧(mSetL v es i).map (fun e=>e.2.2)=es.map (fun e=>e.2.2)
 | [],i=>by simp [mSetL]
 | e::es,0=>by simp [mSetL]
 | e::es,i+1=>by simp [mSetL,set_keys v es i]
omit he in
theorem get_none {k:K}:∀ {es:List (K×V×Nat)},k ∉ es.map (fun e=>e.1)→aget k es=none
 | [],_=>rfl
 | e::es,h=>by
  simp only [List.map_cons,List.mem_cons,not_or] at h
  simp only [aget,h.1,if_false]
  exact get_none h.2
theorem get_del (k:K):∀ {es:List (K×V×Nat)} {i j:Nat} {q:V×Nat},(es.map (fun e=>e.1)).Nodup→mFindL eq k es i=some (j,q)→i≤j∧∀ x,aget x (mDelL es (j - i))=if x=k then none else aget x es
 | [],i,j,q,_,h=>by cases h
 | e::es,i,j,q,hn,h=>by
  simp only [mFindL] at h
  simp only [List.map_cons,List.nodup_cons] at hn
  by_cases hk:k=e.1
  ·rw [(he k e.1).2 hk] at h
   simp only [cond_true,Option.some.injEq,Prod.mk.injEq] at h
   obtain ⟨rfl,_⟩:=h
   refine ⟨Nat.le_refl _,fun x=>?_⟩
   simp only [Nat.sub_self,mDelL,aget]
   by_cases hx:x=k
   ·rw [if_pos hx,hx,hk]; exact get_none hn.1
   ·have:¬ x=e.1:=fun h=>hx (h.trans hk.symm)
    simp [hx,this]
  ·rw [eq_f he hk] at h
   simp only [cond_false] at h
   obtain ⟨h1,h2⟩:=get_del k hn.2 h
   refine ⟨by omega,fun x=>?_⟩
   rw [show j - i=(j - (i+1))+1 by omega]
   simp only [mDelL,aget,h2]
   by_cases hx:x=e.1
   ·have:¬ x=k:=fun h=>hk (h ▸ hx)
    simp [hx]
    intro h; exact absurd h.symm hk
   ·simp [hx]
omit he [DecidableEq K] in
theorem del_sub:∀ (es:List (K×V×Nat)) (i:Nat),(mDelL es i).Sublist es
 | [],i=>by simp [mDelL]
 | e::es,0=>by simp [mDelL]
 | e::es,i+1=>by simp [mDelL,del_sub es i]
omit he in
theorem get_app (x k:K) (v:V) (b:Nat):∀ es:List (K×V×Nat),aget x (es++[(k,v,b)])=if aget x es=none then (if x=k then some v else none) else aget x es
 | []=>by simp [aget]
 | e::es=>by
  simp only [List.cons_append,aget]
  by_cases hx:x=e.1
  ·simp [hx]
  ·simp only [hx,if_false]; exact get_app x k v b es
structure MInv (m:MapL K V):Prop where
 keys:(m.es.map (fun e=>e.1)).Nodup
 borns:(m.es.map (fun e=>e.2.2)).Nodup
 lt:∀ e∈m.es,e.2.2<m.cl
omit he in
theorem MInv.app {m:MapL K V} (h:MInv m) {k:K} (hf:aget k m.es=none) (v:V):MInv (⟨m.es++[(k,v,m.cl)],m.cl+1⟩:MapL K V):=by
 refine ⟨?_,?_,?_⟩
 ·simp only [List.map_append,List.map_cons,List.map_nil]
  rw [List.nodup_append]
  refine ⟨h.keys,by simp,?_⟩
  intro a ha b hb hab
  simp only [List.mem_singleton] at hb
  subst hab hb
  clear h
  generalize m.es=es at *
  induction es with
  | nil=>simp at ha
  | cons e es ih =>
   simp only [aget] at hf
   by_cases hx:a=e.1
   ·simp [hx] at hf
   ·simp only [hx,if_false] at hf
    simp only [List.map_cons,List.mem_cons,hx,false_or] at ha
    exact ih ha hf
 ·simp only [List.map_append,List.map_cons,List.map_nil]
  rw [List.nodup_append]
  refine ⟨h.borns,by simp,?_⟩
  intro a ha b hb hab
  simp only [List.mem_singleton] at hb
  obtain ⟨e,he,rfl⟩:=List.mem_map.1 ha
  have:=h.lt e he
  omega
 ·intro e he
  rcases List.mem_append.1 he with he | he
  ·have:=h.lt e he; simp only; omega
  ·simp only [List.mem_singleton] at he; subst he; simp
omit he [DecidableEq K] in
theorem MInv.set {m:MapL K V} (h:MInv m) (v:V) (i:Nat):MInv (⟨mSetL v m.es i,m.cl⟩:MapL K V):=by
 obtain ⟨h1,h2⟩:=set_keys v m.es i
 refine ⟨by simp only [h1]; exact h.keys,by simp only [h2]; exact h.borns,fun e he=>?_⟩
 have:e.2.2∈(mSetL v m.es i).map (fun e=>e.2.2):=List.mem_map.2 ⟨e,he,rfl⟩
 rw [h2] at this
 obtain ⟨e',g1,g2⟩:=List.mem_map.1 this
 have:=h.lt e' g1
 simp only at g2 ⊢
 omega
theorem upd_ok {m:MapL K V} (h:MInv m) (k:K) (v:V):MInv (mUpd eq m k v)∧∀ x,aget x (mUpd eq m k v).es=if x=k then some v else aget x m.es:=by
 unfold mUpd
 cases hf:mFindL eq k m.es 0 with
 | none =>
  have hg:aget k m.es=none:=by rw [← q9d he k m.es 0,hf]; rfl
  refine ⟨h.app hg v,fun x=>?_⟩
  simp only [get_app]
  by_cases hx:x=k
  ·simp [hx,hg]
  ·simp only [hx,if_false]; split<;>simp_all
 | some q =>
  obtain ⟨j,q⟩:=q
  have:=(get_set he k v hf).2
  exact ⟨h.set v j,fun x=>by simpa using this x⟩
theorem del_ok {m:MapL K V} (h:MInv m) (k:K):MInv (mDel eq m k)∧∀ x,aget x (mDel eq m k).es=if x=k then none else aget x m.es:=by
 unfold mDel
 cases hf:mFindL eq k m.es 0 with
 | none =>
  have hg:aget k m.es=none:=by rw [← q9d he k m.es 0,hf]; rfl
  refine ⟨h,fun x=>?_⟩
  by_cases hx:x=k
  ·simp [hx,hg]
  ·simp [hx]
 | some q =>
  obtain ⟨j,q⟩:=q
  have:=(get_del he k h.keys hf).2
  have hs:=del_sub m.es j
  exact ⟨⟨(hs.map _).nodup h.keys,(hs.map _).nodup h.borns,fun e he=>h.lt e (hs.subset he)⟩,fun x=>by simpa using this x⟩
end
end Go.Vx
end
section
namespace Go.Proofs
open Go Go.Rx Go.Vx Go.Shelf Go.Sort
set_option linter.unusedVariables false
set_option linter.unusedSimpArgs false
set_option maxRecDepth 10000
theorem insB_congr {α:Type} {lt lt':α→α→Bool} (x:α):∀ {l:List α},(∀ y∈l,lt y x=lt' y x)→insB lt x l=insB lt' x l
 | [],_=>rfl
 | y::l,h=>by
  have ih:=insB_congr (lt:=lt) (lt':=lt') x (l:=l) fun z hz=>h z (List.mem_cons_of_mem _ hz)
  simp only [insB,h y (by simp),ih]
theorem srt_congr {α:Type} {lt lt':α→α→Bool}:∀ {l:List α},(∀ x∈l,∀ y∈l,lt x y=lt' x y)→srt lt l=srt lt' l
 | [],_=>rfl
 | x::l,h=>by
  simp only [srt]
  rw [srt_congr fun a ha b hb=>h a (by simp [ha]) b (by simp [hb])]
  exact insB_congr x fun y hy=>h y (by simp [(q77 lt' l).mem_iff.1 hy]) x (by simp)
theorem okSort_of {α:Type} {eq:α→α→Bool} (heq:∀ x,eq x x=true) {f:α→α→Option Int} {c:α→α→Int} (hc:Cmp c) {ds:List α} (hf:∀ x∈ds,∀ y∈ds,f x y=some (c x y)) (hz:∀ x∈ds,∀ y∈ds,c x y=0→x=y):okSort eq f ds=true:=by
 have hlt:∀ x∈ds,∀ y∈ds,fLt f x y=ltOf c x y:=fun x hx y hy=>by simp [fLt,hf x hx y hy,ltOf]
 have hs:=hc.swo
 unfold okSort
 rw [List.all_eq_true]
 intro x hx
 rw [Bool.and_eq_true,Bool.not_eq_true',List.all_eq_true]
 refine ⟨by rw [hlt x hx x hx]; exact hs.irrefl x,fun y hy=>?_⟩
 rw [Bool.and_eq_true,Bool.and_eq_true,List.all_eq_true]
 refine ⟨by rw [hf x hx y hy]; rfl,?_,fun z hzm=>?_⟩
 ·rw [hlt x hx y hy,hlt y hy x hx]
  cases h1:ltOf c x y with
  | true=>rfl
  | false =>
   cases h2:ltOf c y x with
   | true=>rfl
   | false =>
    have a:=hc.anti x y
    simp [ltOf] at h1 h2
    have:=hz x hx y hy (by omega)
    subst this
    simp [heq]
 ·rw [hlt x hx y hy,hlt y hy z hzm,hlt x hx z hzm]
  cases h1:ltOf c x y with
  | true =>
   cases h2:ltOf c y z with
   | true=>simp [hs.trans x y z h1 h2]
   | false=>simp
  | false =>
   cases h2:ltOf c y z with
   | true=>simp
   | false=>simp [hs.ntrans x y z h1 h2]
theorem sortO_of {α:Type} {eq:α→α→Bool} (heq:∀ x,eq x x=true) {f:α→α→Option Int} {c:α→α→Int} (hc:Cmp c) {ds:List α} (hl:ds.length≤1000000) (hf:∀ x∈ds,∀ y∈ds,f x y=some (c x y)) (hz:∀ x∈ds,∀ y∈ds,c x y=0→x=y):sortO eq f ds=some (srt (ltOf c) ds):=by
 unfold sortO
 have hb:Nat.ble ds.length 1000000=true:=by rw [Nat.ble_eq]; exact hl
 rw [okSort_of heq hc hf hz,hb]
 simp only [Bool.and_self,cond_true]
 have e:srt (fLt f) ds=srt (ltOf c) ds:=srt_congr fun x hx y hy=>by simp [fLt,hf x hx y hy,ltOf]
 rw [e]
def cF (a b:GArc):Int:=cmpI a.Feat b.Feat
theorem cF_ok:Cmp cF:=q8k.pull GArc.Feat
def srtA (l:List GArc):List GArc:=srt (ltOf cF) l
theorem q5p (l:List GArc):(srtA l).Perm l:=q77 _ l
def Dis (l:List GArc):Prop:=l.Pairwise (fun a b=>a.Feat≠b.Feat)
theorem Dis.perm {l m:List GArc} (h:l.Perm m) (hd:Dis l):Dis m:=(h.pairwise_iff (fun {a b} h=>Ne.symm h)).1 hd
theorem Dis.eq:∀ {l:List GArc},Dis l→∀ x∈l,∀ y∈l,x.Feat=y.Feat→x=y
 | [],_,x,hx,_,_,_=>by cases hx
 | a::l,h,x,hx,y,hy,e=>by
  obtain ⟨h1,h2⟩:=List.pairwise_cons.1 h
  rcases List.mem_cons.1 hx with e1 | hx'
  ·rcases List.mem_cons.1 hy with e2 | hy'
   ·rw [e1,e2]
   ·subst e1; exact absurd e (h1 y hy')
  ·rcases List.mem_cons.1 hy with e2 | hy'
   ·subst e2; exact absurd e.symm (h1 x hx')
   ·exact Dis.eq h2 x hx' y hy' e
def UpA (l:List GArc):Prop:=l.Pairwise (fun a b=>a.Feat<b.Feat)
theorem cF_le {a b:GArc}:cF a b≤0↔a.Feat≤b.Feat:=by
 unfold cF cmpI
 by_cases h1:a.Feat<b.Feat
 ·simp [h1]; omega
 ·by_cases h2:b.Feat<a.Feat
  ·simp [h1,h2]
  ·simp [h1,h2]; omega
theorem srtA_up {l:List GArc} (h:Dis l):UpA (srtA l):=by
 have h1:=srt_le cF_ok l
 have h2:Dis (srtA l):=h.perm (q5p l).symm
 refine (List.Pairwise.and h1 h2).imp fun {a b} h=>?_
 have:=cF_le.1 h.1
 have:=h.2
 omega
theorem upA_uniq:∀ {a b:List GArc},UpA a→UpA b→a.Perm b→a=b
 | [],b,_,_,h=>(List.nil_perm.1 h).symm
 | x::a,[],_,_,h=>by have:=h.length_eq; simp at this
 | x::a,y::b,ha,hb,h=>by
  obtain ⟨h1,h2⟩:=List.pairwise_cons.1 ha
  obtain ⟨h3,h4⟩:=List.pairwise_cons.1 hb
  have hxy:x=y:=by
   rcases List.mem_cons.1 (h.mem_iff.1 (List.mem_cons_self)) with hx | hx
   ·exact hx
   ·rcases List.mem_cons.1 (h.mem_iff.2 (List.mem_cons_self)) with hy | hy
    ·exact hy.symm
    ·have h5:=h1 y hy; have h6:=h3 x hx; omega
  subst hxy
  rw [upA_uniq h2 h4 (h.cons_inv)]
theorem srtA_of {l m:List GArc} (hd:Dis l) (h:m.Perm l) (hm:UpA m):srtA l=m:=upA_uniq (srtA_up hd) hm ((q5p l).trans h.symm)
theorem UpA.dis {l:List GArc} (h:UpA l):Dis l:=h.imp fun {a b} h=>by omega
theorem append_L {l:List GArc} (hl:l.length≤1000000):∀ (m i:Nat),l.length - i<m→i≤l.length→q0w l m i (l.take i)=some l
 | 0,i,hm,_=>by omega
 | m+1,i,hm,hi=>by
  unfold q0w
  by_cases hlt:i<l.length
  ·obtain ⟨x,hx,_⟩:=q61 hlt
   have hn:((l.take i).length+1)*16≤140737488355328∧(l.take i).length+1≤140737488355328:=by rw [List.length_take]; omega
   simp only [dlt hlt,cond_true,q4b,hx,q1d,needO,hn,and_self,if_true,q25,wr1 hlt (show l.length≤9223372036854775807 by omega),← q6v hx]
   exact append_L hl m (i+1) (by omega) (by omega)
  ·simp only [dnlt hlt,cond_false,q24]
   rw [List.take_of_length_le (by omega)]
theorem byF_ok (n:Nat) (a b:GArc):q33 n a b=some (cF a b):=by simp [q33,cmpInt_eq,q1d,cF]
theorem eqA_refl (x:GArc):eqA x x=true:=by simp [eqA]
theorem sorted_ok {l:List GArc} (hl:l.length≤1000000) (hd:Dis l) {n:Nat} (hn:l.length<n):q1i n l=some (srtA l):=by
 have h1:=append_L hl n 0 (by omega) (by omega)
 rw [Int.ofNat_zero,List.take_zero] at h1
 have h2:=sortO_of eqA_refl (f:=fun a b=>q33 n a b) cF_ok hl (fun x _ y _=>byF_ok n x y) (fun x hx y hy h=>hd.eq x hx y hy (qa0.1 h))
 simp only [q1i,q2x,q2k,h1,q1d,h2,srtA]
structure NOk (x:GNode) (N:Nat):Prop where
 ty:0≤x.Typex
 dis:Dis x.Arcs
 arc:∀ a∈x.Arcs,0≤a.Feat∧0≤a.To∧a.To<N
def GOK (f:GFS):Prop:=∀ x∈f.Nodes,NOk x f.Nodes.length
def nd (f:GFS) (v:Int):GNode:=(f.Nodes[v.toNat]?).getD (GNode.mk 0 [])
def InG (f:GFS) (v:Int):Prop:=0≤v∧v<f.Nodes.length
theorem qah {f:GFS} {v:Int} (h:InG f v):idxO f.Nodes v=some (nd f v)∧nd f v∈f.Nodes:=by
 have hv:v.toNat<f.Nodes.length:=by have:=h.1; have:=h.2; omega
 have h1:0≤v∧v<(f.Nodes.length:Int):=h
 simp [idxO,h1,nd,hv]
def sar (f:GFS) (v:Int):List GArc:=srtA (nd f v).Arcs
theorem q7q {f:GFS} {v:Int} {a:GArc}:a∈sar f v↔a∈(nd f v).Arcs:=(q5p _).mem_iff
def dfsF (g:List Int→Int→List Int) (o:List Int) (a:GArc):List Int:=if a.To∈o then o else g o a.To
def dfs (f:GFS):Nat→List Int→Int→List Int
 | 0,o,_=>o
 | k+1,o,v=>(sar f v).foldl (dfsF (dfs f k)) (o++[v])
structure Seen (f:GFS) (o:List Int):Prop where
 nd:o.Nodup
 ing:∀ v∈o,InG f v
theorem qaj:∀ (N:Nat) {o:List Int},o.Nodup→(∀ v∈o,0≤v∧v<N)→o.length≤N
 | 0,o,_,h=>by
  cases o with
  | nil=>simp
  | cons v o=>have:=h v (by simp); omega
 | N+1,o,hn,h=>by
  have h1:=qaj N (o:=o.filter (fun v=>v != (N:Int))) (hn.filter _) fun v hv=>by
   rw [List.mem_filter] at hv
   have:=h v hv.1
   have h2:=hv.2
   simp at h2
   omega
  have h2:o.length≤(o.filter (fun v=>v != (N:Int))).length+1:=by
   clear h1 h
   induction o with
   | nil=>simp
   | cons x o ih =>
    obtain ⟨h3,h4⟩:=List.nodup_cons.1 hn
    have:=ih h4
    by_cases e:x=N
    ·subst e
     have:o.filter (fun v=>v != (N:Int))=o:=List.filter_eq_self.2 fun v hv=>by
      simp only [bne_iff_ne,ne_eq]
      intro e; subst e; exact h3 hv
     simp [this]
    ·have e2:(x != (N:Int))=true:=by simpa using e
     rw [List.filter_cons_of_pos (by simpa using e)]
     simp only [List.length_cons]
     omega
  omega
theorem Seen.len {f:GFS} {o:List Int} (h:Seen f o):o.length≤f.Nodes.length:=qaj _ h.nd h.ing
theorem Seen.snoc {f:GFS} {o:List Int} (h:Seen f o) {v:Int} (hv:InG f v) (hn:v ∉ o):Seen f (o++[v]):=⟨by
 rw [List.nodup_append]
 refine ⟨h.nd,by simp,?_⟩
 intro a ha b hb
 simp at hb
 subst hb
 intro e; subst e; exact hn ha,fun u hu=>by
 rcases List.mem_append.1 hu with hu | hu
 ·exact h.ing u hu
 ·simp at hu; subst hu; exact hv⟩
theorem dfs_ok {f:GFS} (hg:GOK f):∀ (k:Nat) (o:List Int) (v:Int),Seen f o→InG f v→v ∉ o→f.Nodes.length - o.length≤k →
  Seen f (dfs f k o v)∧(∃ t,dfs f k o v=o++v::t)∧(∀ u∈dfs f k o v,u ∉ o→∀ a∈(nd f u).Arcs,a.To∈dfs f k o v)∧(∀ k',f.Nodes.length - o.length≤k'→dfs f k' o v=dfs f k o v)
 | 0,o,v,hs,hv,hn,hk=>by
  have h1:=(hs.snoc hv hn).len
  simp only [List.length_append,List.length_cons,List.length_nil] at h1
  omega
 | k+1,o,v,hs,hv,hn,hk=>by
  have hs1:=hs.snoc hv hn
  have hl1:=hs1.len
  simp only [List.length_append,List.length_cons,List.length_nil] at hl1
  have key:∀ (l:List GArc),(∀ a∈l,InG f a.To)→∀ (p:List Int),Seen f p→(∃ t,p=o++v::t)→(∀ u∈p,u ∉ o→u≠v→∀ a∈(nd f u).Arcs,a.To∈p) →
    Seen f (l.foldl (dfsF (dfs f k)) p)∧(∃ t,l.foldl (dfsF (dfs f k)) p=p++t)∧(∀ u∈l.foldl (dfsF (dfs f k)) p,u ∉ o→u≠v→∀ a∈(nd f u).Arcs,a.To∈l.foldl (dfsF (dfs f k)) p)∧(∀ a∈l,a.To∈l.foldl (dfsF (dfs f k)) p) ∧
     (∀ k',f.Nodes.length - (o.length+1)≤k'→l.foldl (dfsF (dfs f k')) p=l.foldl (dfsF (dfs f k)) p):=by
   intro l
   induction l with
   | nil=>intro _ p hp hpre hcl; exact ⟨hp,⟨[],by simp⟩,hcl,⟨fun a ha=>(List.not_mem_nil ha).elim,fun _ _=>rfl⟩⟩
   | cons a l ih =>
    intro hl p hp hpre hcl
    have hla:=hl a (by simp)
    have hll:=fun b hb=>hl b (List.mem_cons_of_mem a hb)
    simp only [List.foldl_cons]
    by_cases hm:a.To∈p
    ·have e:∀ k',dfsF (dfs f k') p a=p:=fun k'=>by simp [dfsF,hm]
     simp only [e]
     obtain ⟨g1,⟨t,g2⟩,g3,g4,g5⟩:=ih hll p hp hpre hcl
     refine ⟨g1,⟨t,g2⟩,g3,fun b hb=>?_,g5⟩
     rcases List.mem_cons.1 hb with rfl | hb
     ·rw [g2]; exact List.mem_append_left _ hm
     ·exact g4 b hb
    ·have e:∀ k',dfsF (dfs f k') p a=dfs f k' p a.To:=fun k'=>by simp [dfsF,hm]
     obtain ⟨t0,hpre⟩:=hpre
     have hpl:o.length+1≤p.length:=by rw [hpre]; simp
     obtain ⟨d1,⟨t1,d2⟩,d3,d4⟩:=dfs_ok hg k p a.To hp hla hm (by omega)
     have hsub:∀ u∈p,u∈dfs f k p a.To:=fun u hu=>by rw [d2]; exact List.mem_append_left _ hu
     obtain ⟨g1,⟨t,g2⟩,g3,g4,g5⟩:=ih hll (dfs f k p a.To) d1 ⟨t0++a.To::t1,by rw [d2,hpre]; simp⟩ (fun u hu h1 h2 b hb=>by
      by_cases hup:u∈p
      ·exact hsub _ (hcl u hup h1 h2 b hb)
      ·exact d3 u hu hup b hb)
     rw [e k]
     refine ⟨g1,⟨a.To::t1++t,by rw [g2,d2]; simp⟩,g3,fun b hb=>?_,fun k' hk'=>?_⟩
     ·rcases List.mem_cons.1 hb with rfl | hb
      ·rw [g2,d2]; simp
      ·exact g4 b hb
     ·rw [e k',d4 k' (by omega)]; exact g5 k' hk'
  have hla:∀ a∈sar f v,InG f a.To:=fun a ha=>by
   have h1:=(hg _ (qah hv).2).arc a (q7q.1 ha)
   exact ⟨h1.2.1,h1.2.2⟩
  obtain ⟨g1,⟨t,g2⟩,g3,g4,g5⟩:=key (sar f v) hla (o++[v]) hs1 ⟨[],rfl⟩ (fun u hu h1 h2=>by
   rcases List.mem_append.1 hu with hu | hu
   ·exact absurd hu h1
   ·simp at hu; exact absurd hu h2)
  refine ⟨g1,⟨t,by show (sar f v).foldl _ _=_; rw [g2]; simp⟩,fun u hu h1 a ha=>?_,fun k' hk'=>?_⟩
  ·by_cases e:u=v
   ·subst e; exact g4 a (q7q.2 ha)
   ·exact g3 u hu h1 e a ha
  ·cases k' with
   | zero=>omega
   | succ k'=>exact g5 k' (by omega)
def ordG (f:GFS) (r:Int):List Int:=dfs f f.Nodes.length [] r
theorem Seen.nil (f:GFS):Seen f []:=⟨List.nodup_nil,fun v hv=>by cases hv⟩
structure OrdOk (f:GFS) (r:Int) (o:List Int):Prop where
 seen:Seen f o
 head:∃ t,o=r::t
 clo:∀ u∈o,∀ a∈(nd f u).Arcs,a.To∈o
theorem q8s {f:GFS} (hg:GOK f) {r:Int} (hr:InG f r):OrdOk f r (ordG f r)∧∀ k,f.Nodes.length≤k→dfs f k [] r=ordG f r:=by
 obtain ⟨h1,⟨t,h2⟩,h3,h4⟩:=dfs_ok hg f.Nodes.length [] r (Seen.nil f) hr (by simp) (by simp)
 exact ⟨⟨h1,⟨t,by have h5:=h2; rw [List.nil_append] at h5; exact h5⟩,fun u hu=>h3 u hu (by simp)⟩,fun k hk=>h4 k (by simpa using hk)⟩
def arcC (o:List Int) (a:GArc):GArc:=⟨a.Feat,(o.idxOf a.To:Int)⟩
def nodeC (f:GFS) (o:List Int) (v:Int):GNode:=⟨(nd f v).Typex,(sar f v).map (arcC o)⟩
def canonG (f:GFS) (r:Int):GFS:=⟨(ordG f r).map (nodeC f (ordG f r))⟩
structure Rep (w:MapL Int Int) (o:List Int):Prop where
 inv:MInv w
 get:∀ x,aget x w.es=if x∈o then some (o.idxOf x:Int) else none
theorem beqI (a b:Int):(a == b)=true↔a=b:=by simp
theorem Rep.nil:Rep (mNew:MapL Int Int) []:=⟨⟨by simp [mNew],by simp [mNew],by simp [mNew]⟩,fun x=>by simp [mNew,aget]⟩
theorem Rep.snoc {w:MapL Int Int} {o:List Int} (h:Rep w o) {v:Int} (hv:v ∉ o):Rep (mUpd (fun a b=>a == b) w v (o.length:Int)) (o++[v]):=by
 obtain ⟨h1,h2⟩:=upd_ok (eq:=fun a b:Int=>a == b) beqI h.inv v (o.length:Int)
 refine ⟨h1,fun x=>?_⟩
 rw [h2,h.get]
 by_cases e:x=v
 ·subst e
  simp [List.idxOf_append,hv]
 ·by_cases hx:x∈o
  ·simp [e,hx,List.idxOf_append]
  ·simp [e,hx]
theorem Rep.mget {w:MapL Int Int} {o:List Int} (h:Rep w o) (x:Int):mGet (fun a b=>a == b) w x=if x∈o then some (o.idxOf x:Int) else none:=by
 rw [mGet_get (eq:=fun a b:Int=>a == b) beqI,h.get]
theorem visit_ok {f:GFS} {k:Nat} (hg:GOK f) (hf:Small f k) (hk:k≤1000000):∀ (n:Nat) (o:List Int) (v:Int) (w:MapL Int Int),Seen f o→InG f v→v ∉ o→Rep w o→f.Nodes.length - o.length+k+2≤n →
  ∃ w',q11 n v f.Nodes o w=some (dfs f n o v,w')∧Rep w' (dfs f n o v)
 | 0,o,v,w,hs,hv,hn,hw,hfu=>by omega
 | n+1,o,v,w,hs,hv,hn,hw,hfu=>by
  have hs1:=hs.snoc hv hn
  have hl1:=hs1.len
  simp only [List.length_append,List.length_cons,List.length_nil] at hl1
  obtain ⟨hx,hxm⟩:=qah hv
  have hno:=hg _ hxm
  have hal:=hf.arcs _ hxm
  have hnl:=hf.nodes
  have hsl:(sar f v).length=(nd f v).Arcs.length:=(q5p _).length_eq
  have key:∀ (m i:Nat) (p:List Int) (w:MapL Int Int),(sar f v).length - i<m→i≤(sar f v).length→Seen f p→o.length+1≤p.length→Rep w p →
    ∃ w',q0x f.Nodes (sar f v) (q11 n) m i p w=some (((sar f v).drop i).foldl (dfsF (dfs f n)) p,w')∧Rep w' (((sar f v).drop i).foldl (dfsF (dfs f n)) p):=by
   intro m
   induction m with
   | zero=>intro i p w hm; omega
   | succ m ih =>
    intro i p w hm hi hp hpl hw
    unfold q0x
    by_cases hlt:i<(sar f v).length
    ·obtain ⟨a,ha,ham⟩:=q61 hlt
     have h1:=hno.arc a (q7q.1 ham)
     have hw1:IntKind.i64.wrap ((i:Int)+1)=((i+1:Nat):Int):=wr1 hlt (by omega)
     simp only [dlt hlt,cond_true,q4b,ha,q1d,hw.mget,drop_cons' ha,List.foldl_cons]
     by_cases hm2:a.To∈p
     ·simp only [hm2,if_true,Option.isSome_some,Bool.not_true,cond_false,q1l,hw1,dfsF]
      exact ih (i+1) p w (by omega) (by omega) hp hpl hw
     ·simp only [hm2,if_false,Option.isSome_none,Bool.not_false,cond_true,q1l,hw1,dfsF]
      obtain ⟨w1,g1,g2⟩:=visit_ok hg hf hk n p a.To w hp ⟨h1.2.1,h1.2.2⟩ hm2 hw (by omega)
      obtain ⟨d1,⟨t,d2⟩,_,_⟩:=dfs_ok hg n p a.To hp ⟨h1.2.1,h1.2.2⟩ hm2 (by omega)
      simp only [g1,q1d]
      exact ih (i+1) _ w1 (by omega) (by omega) d1 (by rw [d2]; simp; omega) g2
    ·rw [drop_nil' hlt]
     simp only [dnlt hlt,cond_false,q2j,List.foldl_nil]
     exact ⟨w,rfl,hw⟩
  have hneed:(o.length+1)*8≤140737488355328∧o.length+1≤140737488355328:=by omega
  obtain ⟨w',g1,g2⟩:=key n 0 (o++[v]) _ (by omega) (by omega) hs1 (by simp) (hw.snoc hn)
  rw [Int.ofNat_zero,List.drop_zero] at g1
  rw [List.drop_zero] at g2
  refine ⟨w',?_,g2⟩
  show q2t n (q11 n) v f.Nodes o w=_
  simp only [q2t,needO,hneed,and_self,if_true,hx,q1d,q22,sorted_ok (show (nd f v).Arcs.length≤1000000 by omega) hno.dis (show (nd f v).Arcs.length<n by omega)]
  exact g1
theorem set_at {α:Type} (a b:List α) (x y:α):(a++x::b).set a.length y=a++y::b:=by simp
theorem build_L2 {f:GFS} {o:List Int} {w:MapL Int Int} {z:Int} {l15:List GNode} {rc:Int→List GNode→Option GFS} {x:Int} {l:List GArc} (hl:l.length≤1000000) (hw:Rep w o) (hin:∀ a∈l,a.To∈o):∀ (m i:Nat),l.length - i<m→i≤l.length →
  q1z f (o,w) z l15 rc x l m i ((l.take i).map (arcC o)++l.drop i)=q2w f (o,w) z l15 rc x (l.map (arcC o))
 | 0,i,hm,_=>by omega
 | m+1,i,hm,hi=>by
  unfold q1z
  by_cases hlt:i<l.length
  ·obtain ⟨a,ha,ham⟩:=q61 hlt
   have e1:(((l.take i).map (arcC o)++l.drop i))[i]? = some a:=by
    rw [List.getElem?_append_right (by simp; omega)]
    simp [show min i l.length=i by omega,ha]
   have e2:(((l.take i).map (arcC o)++l.drop i)).set (0+(i:Int).toNat) (arcC o a)=(l.take (i+1)).map (arcC o)++l.drop (i+1):=by
    rw [drop_cons' ha,q6v ha]
    have h3:((l.take i).map (arcC o)).length=i:=by simp; omega
    have:=set_at ((l.take i).map (arcC o)) (l.drop (i+1)) a (arcC o a)
    rw [h3] at this
    rw [Nat.zero_add,Int.toNat_natCast,this,List.map_append,List.map_cons,List.map_nil,List.append_assoc]
    rfl
   have e3:(⟨a.Feat,((if a.To∈o then some (o.idxOf a.To:Int) else none).getD 0)⟩:GArc)=arcC o a:=by simp [hin a ham,arcC]
   simp only [dlt hlt,cond_true,q4b,e1,q1d,hw.mget,e3,e2,wr1 hlt (show l.length≤9223372036854775807 by omega)]
   exact build_L2 hl hw hin m (i+1) (by omega) (by omega)
  ·simp only [dnlt hlt,cond_false]
   rw [List.take_of_length_le (by omega),List.drop_eq_nil_of_le (by omega),List.append_nil]
theorem build_L1 {f:GFS} {k:Nat} (hg:GOK f) (hf:Small f k) (hk:k≤1000000) {n:Nat} (hn:k+2≤n) {r:Int} {o:List Int} {w:MapL Int Int} (ho:OrdOk f r o) (hw:Rep w o):∀ (m i:Nat),o.length - i<m→i≤o.length →
  q1e f n (o,w) m i ((o.take i).map (nodeC f o)++List.replicate (o.length - i) (GNode.mk 0 []))=some ⟨o.map (nodeC f o)⟩
 | 0,i,hm,_=>by omega
 | m+1,i,hm,hi=>by
  have hol:=ho.seen.len
  have hnl:=hf.nodes
  unfold q1e
  by_cases hlt:i<o.length
  ·obtain ⟨v,hv,hvm⟩:=q61 hlt
   obtain ⟨hx,hxm⟩:=qah (ho.seen.ing v hvm)
   have hno:=hg _ hxm
   have hal:=hf.arcs _ hxm
   have hsl:(sar f v).length=(nd f v).Arcs.length:=(q5p _).length_eq
   have h2:=build_L2 (f:=f) (z:=(i:Int)) (l15:=(o.take i).map (nodeC f o)++List.replicate (o.length - i) (GNode.mk 0 [])) (rc:=q1e f n (o,w) m) (x:=v) (l:=sar f v) (by omega) hw (fun a ha=>ho.clo v hvm a (q7q.1 ha)) n 0 (by omega) (by omega)
   rw [Int.ofNat_zero,List.take_zero,List.map_nil,List.nil_append,List.drop_zero] at h2
   have h3:((o.take i).map (nodeC f o)).length=i:=by simp; omega
   have e0:o.length - i=(o.length - (i+1))+1:=by omega
   have e1:idxV ((o.take i).map (nodeC f o)++List.replicate (o.length - i) (GNode.mk 0 [])) 0 ((o.length:Int).toNat) (i:Int)=some (GNode.mk 0 []):=by
    have hi:0≤(i:Int)∧(i:Int)<(((o.length:Int).toNat:Nat):Int):=by rw [Int.toNat_natCast]; omega
    rw [idxV,if_pos hi,Nat.zero_add,Int.toNat_natCast,List.getElem?_append_right (by omega),h3,e0]
    simp
   have e2:((o.take i).map (nodeC f o)++List.replicate (o.length - i) (GNode.mk 0 [])).set (i:Int).toNat (nodeC f o v)=(o.take (i+1)).map (nodeC f o)++List.replicate (o.length - (i+1)) (GNode.mk 0 []):=by
    rw [e0,List.replicate_succ,q6v hv]
    have:=set_at ((o.take i).map (nodeC f o)) (List.replicate (o.length - (i+1)) (GNode.mk 0 [])) (GNode.mk 0 []) (nodeC f o v)
    rw [h3] at this
    simp only [Int.toNat_natCast]
    rw [this]
    simp
   have e3:(⟨(nd f v).Typex,(sar f v).map (arcC o)⟩:GNode)=nodeC f o v:=rfl
   have hso:=sorted_ok (show (nd f v).Arcs.length≤1000000 by omega) hno.dis (show (nd f v).Arcs.length<n by omega)
   simp only [dlt hlt,cond_true,q4b,hv,hx,q1d,q22,hso]
   show q1z f (o,w) i _ _ v (sar f v) n 0 (sar f v)=_
   rw [h2]
   simp only [q2w,hx,q1d,e1,e3,wr1 hlt (show o.length≤9223372036854775807 by omega)]
   rw [e2]
   exact build_L1 hg hf hk hn ho hw m (i+1) (by omega) (by omega)
  ·have e:((o.length:Int)).toNat=((o.take i).map (nodeC f o)++List.replicate (o.length - i) (GNode.mk 0 [])).length:=by simp; omega
   simp only [dnlt hlt,cond_false,q3p,needO,← e,if_true]
   rw [List.take_of_length_le (by omega),show o.length - i=0 by omega]
   simp
theorem canonical_ok {f:GFS} {k:Nat} (hg:GOK f) (hf:Small f k) (hk:k≤1000000) {r:Int} (hr:InG f r) {n:Nat} (hn:2*k+4≤n):q2q n f r=some (canonG f r):=by
 obtain ⟨ho,hst⟩:=q8s hg hr
 have hnl:=hf.nodes
 obtain ⟨w,g1,g2⟩:=visit_ok hg hf hk n [] r mNew (Seen.nil f) hr (by simp) Rep.nil (by simp; omega)
 rw [hst n (by omega)] at g1 g2
 have hol:=ho.seen.len
 have h1:=build_L1 hg hf hk (show k+2≤n by omega) ho g2 n 0 (by omega) (by omega)
 rw [Int.ofNat_zero,List.take_zero,List.map_nil,List.nil_append,Nat.sub_zero] at h1
 have hneed:0≤((ordG f r).length:Int)∧32*((ordG f r).length:Int).toNat≤281474976710656∧((ordG f r).length:Int)≤281474976710656:=by simp; omega
 simp only [q2q,g1,q1d,needO,hneed,and_self,if_true]
 rw [Int.toNat_natCast]
 exact h1
end Go.Proofs
end
section
namespace Go.Proofs
open Go Go.Rx Go.Vx Go.Shelf Go.Sort
set_option linter.unusedVariables false
set_option linter.unusedSimpArgs false
set_option maxRecDepth 10000
def errA (N:Nat) (seen:List Int):List GArc→Int
 | []=>0
 | a::l=>if a.Feat<0∨a.To<0∨a.To ≥ (N:Int) then 2 else if a.Feat∈seen then 4 else errA N (a.Feat::seen) l
def errN (N:Nat) (x:GNode):Int:=if x.Typex<0 then 2 else errA N [] x.Arcs
structure RepB (w:MapL Int Bool) (o:List Int):Prop where
 inv:MInv w
 get:∀ x,aget x w.es=if x∈o then some true else none
theorem RepB.nil:RepB (mNew:MapL Int Bool) []:=⟨⟨by simp [mNew],by simp [mNew],by simp [mNew]⟩,fun x=>by simp [mNew,aget]⟩
theorem RepB.cons {w:MapL Int Bool} {o:List Int} (h:RepB w o) (v:Int):RepB (mUpd (fun a b=>a == b) w v true) (v::o):=by
 obtain ⟨h1,h2⟩:=upd_ok (eq:=fun a b:Int=>a == b) beqI h.inv v true
 refine ⟨h1,fun x=>?_⟩
 rw [h2,h.get]
 by_cases e:x=v
 ·simp [e]
 ·by_cases hx:x∈o<;>simp [e,hx]
theorem RepB.mget {w:MapL Int Bool} {o:List Int} (h:RepB w o) (x:Int):(mGet (fun a b=>a == b) w x).getD false=decide (x∈o):=by
 rw [mGet_get (eq:=fun a b:Int=>a == b) beqI,h.get]
 by_cases hx:x∈o<;>simp [hx]
theorem nodeErr_L {x:GNode} {N:Nat} (hl:x.Arcs.length≤1000000):∀ (m i:Nat) (w:MapL Int Bool) (o:List Int),x.Arcs.length - i<m→i≤x.Arcs.length→RepB w o →
  q2f x N m i w=some (errA N o (x.Arcs.drop i))
 | 0,i,w,o,hm,_,_=>by omega
 | m+1,i,w,o,hm,hi,hw=>by
  unfold q2f
  by_cases hlt:i<x.Arcs.length
  ·obtain ⟨a,ha,_⟩:=q61 hlt
   simp only [dlt hlt,cond_true,q4b,ha,q1d,drop_cons' ha,errA,hw.mget,wr1 hlt (show x.Arcs.length≤9223372036854775807 by omega)]
   by_cases h1:a.Feat<0
   ·simp [h1,q1d]
   ·by_cases h2:a.To<0
    ·simp [h1,h2,q1d]
    ·by_cases h3:a.To ≥ (N:Int)
     ·simp [h1,h2,h3,q1d]
     ·simp only [h1,h2,h3,decide_false,cond_false,q1d,or_self,if_false]
      by_cases h4:a.Feat∈o
      ·simp [h4]
      ·simp only [h4,decide_false,cond_false,if_false]
       exact nodeErr_L hl m (i+1) _ _ (by omega) (by omega) (hw.cons _)
  ·simp only [dnlt hlt,cond_false,q3r,drop_nil' hlt,errA]
theorem nodeErr_ok {x:GNode} {N n:Nat} (hl:x.Arcs.length≤1000000) (hn:x.Arcs.length<n):q34 n x N=some (errN N x):=by
 have h:=nodeErr_L (N:=N) hl n 0 mNew [] (by omega) (by omega) RepB.nil
 rw [Int.ofNat_zero,List.drop_zero] at h
 simp only [q34,h,errN]
 by_cases h1:x.Typex<0<;>simp [h1]
theorem errA_zero {N:Nat}:∀ {l:List GArc} {seen:List Int},errA N seen l=0↔(∀ a∈l,0≤a.Feat∧0≤a.To∧a.To<N)∧Dis l∧∀ a∈l,a.Feat ∉ seen
 | [],seen=>by simp [errA,Dis]
 | a::l,seen=>by
  simp only [errA]
  by_cases h1:a.Feat<0∨a.To<0∨a.To ≥ (N:Int)
  ·simp only [h1,if_true]
   refine ⟨fun h=>absurd h (by decide),fun h=>?_⟩
   have:=h.1 a (by simp)
   omega
  ·by_cases h2:a.Feat∈seen
   ·simp only [h1,h2,if_true,if_false]
    exact ⟨fun h=>absurd h (by decide),fun h=>absurd h2 (h.2.2 a (by simp))⟩
   ·simp only [h1,h2,if_false]
    rw [errA_zero (l:=l)]
    unfold Dis
    rw [List.pairwise_cons]
    constructor
    ·rintro ⟨g1,g2,g3⟩
     refine ⟨fun b hb=>?_,⟨fun b hb=>?_,g2⟩,fun b hb=>?_⟩
     ·rcases List.mem_cons.1 hb with rfl | hb
      ·omega
      ·exact g1 b hb
     ·have:=g3 b hb
      simp only [List.mem_cons,not_or] at this
      exact fun e=>this.1 e.symm
     ·rcases List.mem_cons.1 hb with rfl | hb
      ·exact h2
      ·have:=g3 b hb
       simp only [List.mem_cons,not_or] at this
       exact this.2
    ·rintro ⟨g1,⟨g2,g3⟩,g4⟩
     refine ⟨fun b hb=>g1 b (by simp [hb]),g3,fun b hb=>?_⟩
     simp only [List.mem_cons,not_or]
     exact ⟨fun e=>g2 b hb e.symm,g4 b (by simp [hb])⟩
theorem qa3 {N:Nat} {x:GNode}:errN N x=0↔NOk x N:=by
 unfold errN
 by_cases h:x.Typex<0
 ·simp only [h,if_true]
  exact ⟨fun h=>absurd h (by decide),fun h'=>by have:=h'.ty; omega⟩
 ·simp only [h,if_false]
  rw [errA_zero]
  exact ⟨fun ⟨h1,h2,_⟩=>⟨by omega,h2,h1⟩,fun h=>⟨h.arc,h.dis,fun _ _=>by simp⟩⟩
def errL (N:Nat):List GNode→Int
 | []=>0
 | x::l=>if errN N x≠0 then errN N x else errL N l
theorem qa2 {N:Nat}:∀ {l:List GNode},errL N l=0↔∀ x∈l,NOk x N
 | []=>by simp [errL]
 | x::l=>by
  simp only [errL]
  by_cases h:errN N x=0
  ·simp only [h,ne_eq,not_true,if_false,qa2 (l:=l),List.mem_cons,forall_eq_or_imp,qa3.1 h,true_and]
  ·simp only [h,ne_eq,not_false_eq_true,if_true,List.mem_cons,forall_eq_or_imp,false_iff,not_and]
   exact fun h2=>absurd (qa3.2 h2) h
def errG (f:GFS):Int:=if f.Nodes.length=0 then 1 else if f.Nodes.length > 4096 then 7 else errL f.Nodes.length f.Nodes
theorem Canon_L {f:GFS} {k:Nat} (hf:Small f k) (hk:k≤1000000) {n:Nat} (hn:2*k+4≤n) (h0:0<f.Nodes.length) (hfull:errL f.Nodes.length f.Nodes=0→GOK f):∀ (m i:Nat),f.Nodes.length - i<m→i≤f.Nodes.length→(∀ x∈f.Nodes.take i,NOk x f.Nodes.length) →
  q3l f n m i=some (if errL f.Nodes.length (f.Nodes.drop i)=0 then (canonG f 0,0) else (⟨[]⟩,errL f.Nodes.length (f.Nodes.drop i)))
 | 0,i,hm,_,_=>by omega
 | m+1,i,hm,hi,hok=>by
  have hnl:=hf.nodes
  unfold q3l
  by_cases hlt:i<f.Nodes.length
  ·obtain ⟨x,hx,hxm⟩:=q61 hlt
   have hal:=hf.arcs x hxm
   simp only [dlt hlt,cond_true,q4b,hx,q1d,nodeErr_ok (N:=f.Nodes.length) (show x.Arcs.length≤1000000 by omega) (show x.Arcs.length<n by omega),drop_cons' hx,errL,wr1 hlt (show f.Nodes.length≤9223372036854775807 by omega)]
   by_cases h:errN f.Nodes.length x=0
   ·simp only [h,bne_self_eq_false,cond_false,ne_eq,not_true,if_false]
    refine Canon_L hf hk hn h0 hfull m (i+1) (by omega) (by omega) fun y hy=>?_
    rw [q6v hx] at hy
    rcases List.mem_append.1 hy with hy | hy
    ·exact hok y hy
    ·simp at hy; subst hy; exact qa3.1 h
   ·have hb:(errN f.Nodes.length x != 0)=true:=by simpa using h
    simp only [hb,cond_true,h,ne_eq,not_false_eq_true,if_true,if_false]
  ·simp only [dnlt hlt,cond_false,q4w,drop_nil' hlt,errL,if_true]
   have hg:GOK f:=fun x hx=>hok x (by rw [List.take_of_length_le (by omega)]; exact hx)
   rw [canonical_ok hg hf hk ⟨by omega,by omega⟩ hn,q1d]
theorem Canon_ok {f:GFS} {k:Nat} (hf:Small f k) (hk:k≤1000000) {n:Nat} (hn:2*k+4≤n):q2p n f=some (if errG f=0 then (canonG f 0,0) else (⟨[]⟩,errG f)):=by
 have hnl:=hf.nodes
 unfold q2p errG
 by_cases h0:f.Nodes.length=0
 ·simp [h0]
 ·have e0:((f.Nodes.length:Int) == 0)=false:=by simp; intro h; simp [h] at h0
  simp only [e0,cond_false,h0,if_false]
  by_cases h1:f.Nodes.length > 4096
  ·have:(f.Nodes.length:Int) > 4096:=by omega
   simp [h1,this]
  ·have:¬ (f.Nodes.length:Int) > 4096:=by omega
   simp only [h1,this,decide_false,cond_false,if_false]
   have h:=Canon_L hf hk hn (by omega) (fun h=>qa2.1 h) n 0 (by omega) (by omega) (by simp)
   rw [Int.ofNat_zero,List.drop_zero] at h
   exact h
theorem q7u {f:GFS}:errG f=0↔f.Nodes.length≠0∧f.Nodes.length≤4096∧GOK f:=by
 unfold errG
 by_cases h0:f.Nodes.length=0
 ·simp [h0]
 ·by_cases h1:f.Nodes.length > 4096
  ·simp [h0,h1]; intro _; omega
  ·simp only [h0,h1,if_false,qa2]
   exact ⟨fun h=>⟨by simpa using h0,by omega,h⟩,fun h=>h.2.2⟩
structure Sim (f g:GFS) (π:Int→Int) (S:Int→Prop):Prop where
 clo:∀ v,S v→∀ a∈sar f v,S a.To
 inj:∀ u v,S u→S v→π u=π v→u=v
 ty:∀ v,S v→(nd g (π v)).Typex=(nd f v).Typex
 arc:∀ v,S v→sar g (π v)=(sar f v).map fun a=>⟨a.Feat,π a.To⟩
theorem Sim.dfs {f g:GFS} {π:Int→Int} {S:Int→Prop} (h:Sim f g π S):∀ (k:Nat) (o:List Int) (v:Int),S v→(∀ u∈o,S u)→dfs g k (o.map π) (π v)=(Go.Proofs.dfs f k o v).map π∧∀ u∈Go.Proofs.dfs f k o v,S u
 | 0,o,v,hv,ho=>⟨rfl,ho⟩
 | k+1,o,v,hv,ho=>by
  have key:∀ (l:List GArc) (p:List Int),(∀ a∈l,S a.To)→(∀ u∈p,S u) →
    (l.map fun a=>(⟨a.Feat,π a.To⟩:GArc)).foldl (dfsF (Go.Proofs.dfs g k)) (p.map π)=(l.foldl (dfsF (Go.Proofs.dfs f k)) p).map π∧∀ u∈l.foldl (dfsF (Go.Proofs.dfs f k)) p,S u:=by
   intro l
   induction l with
   | nil=>intro p _ hp; exact ⟨rfl,hp⟩
   | cons a l ih =>
    intro p hl hp
    have hla:=hl a (by simp)
    simp only [List.map_cons,List.foldl_cons]
    have hm:π a.To∈p.map π↔a.To∈p:=by
     rw [List.mem_map]
     exact ⟨fun ⟨u,hu,e⟩=>by rw [← h.inj u a.To (hp u hu) hla e]; exact hu,fun hu=>⟨_,hu,rfl⟩⟩
    by_cases hin:a.To∈p
    ·have e1:dfsF (Go.Proofs.dfs g k) (p.map π) (⟨a.Feat,π a.To⟩:GArc)=p.map π:=by simp only [dfsF,hm.2 hin,if_true]
     have e2:dfsF (Go.Proofs.dfs f k) p a=p:=by simp only [dfsF,hin,if_true]
     rw [e1,e2]
     exact ih p (fun b hb=>hl b (List.mem_cons_of_mem _ hb)) hp
    ·have e1:dfsF (Go.Proofs.dfs g k) (p.map π) (⟨a.Feat,π a.To⟩:GArc)=Go.Proofs.dfs g k (p.map π) (π a.To):=by simp only [dfsF,mt hm.1 hin,if_false]
     have e2:dfsF (Go.Proofs.dfs f k) p a=Go.Proofs.dfs f k p a.To:=by simp only [dfsF,hin,if_false]
     obtain ⟨g1,g2⟩:=Sim.dfs h k p a.To hla hp
     rw [e1,e2,g1]
     exact ih _ (fun b hb=>hl b (List.mem_cons_of_mem _ hb)) g2
  have ho1:∀ u∈o++[v],S u:=fun u hu=>by
   rcases List.mem_append.1 hu with hu | hu
   ·exact ho u hu
   ·simp at hu; subst hu; exact hv
  have:=key (sar f v) (o++[v]) (h.clo v hv) ho1
  refine ⟨?_,this.2⟩
  show (sar g (π v)).foldl _ (o.map π++[π v])=_
  have e:=this.1
  simp only [List.map_append,List.map_cons,List.map_nil] at e
  rw [h.arc v hv]
  exact e
theorem idxOf_map {π:Int→Int}:∀ {o:List Int} {x:Int},(∀ u∈o,π u=π x→u=x)→(o.map π).idxOf (π x)=o.idxOf x
 | [],x,_=>rfl
 | u::o,x,h=>by
  simp only [List.map_cons,List.idxOf_cons]
  have ih:=idxOf_map (o:=o) (x:=x) fun w hw=>h w (List.mem_cons_of_mem _ hw)
  by_cases e:u=x
  ·subst e; simp
  ·have e2:¬ π u=π x:=fun h2=>e (h u (by simp) h2)
   have e3:(u == x)=false:=by simpa using e
   have e4:(π u == π x)=false:=by simpa using e2
   simp only [e3,e4,cond_false,ih]
theorem Sim.canon {f g:GFS} {π:Int→Int} {S:Int→Prop} (h:Sim f g π S) (hf:GOK f) (hg:GOK g) {r:Int} (hr:InG f r) (hS:S r) (hr':InG g (π r)):ordG g (π r)=(ordG f r).map π∧canonG g (π r)=canonG f r:=by
 obtain ⟨o1,s1⟩:=q8s hf hr
 obtain ⟨o2,s2⟩:=q8s hg hr'
 have h1:=h.dfs (f.Nodes.length+g.Nodes.length) [] r hS (by simp)
 rw [List.map_nil,s1 _ (by omega),s2 _ (by omega)] at h1
 refine ⟨h1.1,?_⟩
 unfold canonG
 rw [h1.1,List.map_map]
 congr 1
 refine List.map_congr_left fun v hv=>?_
 have hSv:=h1.2 v hv
 simp only [Function.comp,nodeC,h.ty v hSv,h.arc v hSv,List.map_map]
 congr 1
 refine List.map_congr_left fun a ha=>?_
 have hSa:=h.clo v hSv a ha
 simp only [Function.comp,arcC]
 rw [idxOf_map fun u hu e=>h.inj u a.To (h1.2 u hu) hSa e]
theorem srtA_id {l:List GArc} (h:UpA l):srtA l=l:=srtA_of h.dis (List.Perm.refl _) h
theorem qab {o:List Int} {v:Int} (h:v∈o):o[o.idxOf v]? = some v:=by
 have h1:=List.idxOf_lt_length_of_mem h
 rw [List.getElem?_eq_getElem h1,List.getElem_idxOf]
structure CanOk (f:GFS) (r:Int) (c:GFS):Prop where
 len:c.Nodes.length=(ordG f r).length
 le:c.Nodes.length≤f.Nodes.length
 pos:0<c.Nodes.length
 ok:GOK c
 at_:∀ v∈ordG f r,nd c ((ordG f r).idxOf v:Int)=nodeC f (ordG f r) v
 up:∀ x∈c.Nodes,UpA x.Arcs
 sim:Sim f c (fun v=>((ordG f r).idxOf v:Int)) (fun v=>v∈ordG f r)
theorem up_map {o:List Int} {l:List GArc} (h:UpA l):UpA (l.map (arcC o)):=by
 unfold UpA at *
 rw [List.pairwise_map]
 exact h
theorem canG_ok {f:GFS} (hf:GOK f) {r:Int} (hr:InG f r):CanOk f r (canonG f r):=by
 obtain ⟨o1,_⟩:=q8s hf hr
 have hat:∀ v∈ordG f r,nd (canonG f r) ((ordG f r).idxOf v:Int)=nodeC f (ordG f r) v:=fun v hv=>by
  simp only [nd,canonG,Int.toNat_natCast,List.getElem?_map,qab hv,Option.map_some,Option.getD_some]
 have hin:∀ v∈ordG f r,InG f v:=o1.seen.ing
 have hup:∀ v∈ordG f r,UpA (nodeC f (ordG f r) v).Arcs:=fun v hv=>up_map (srtA_up (hf _ (qah (hin v hv)).2).dis)
 refine ⟨by simp [canonG],by simp only [canonG,List.length_map]; exact o1.seen.len,?_,?_,hat,?_,?_⟩
 ·obtain ⟨t,ht⟩:=o1.head
  simp [canonG,ht]
 ·intro x hx
  simp only [canonG,List.mem_map] at hx
  obtain ⟨v,hv,rfl⟩:=hx
  have hn:=hf _ (qah (hin v hv)).2
  refine ⟨hn.ty,(hup v hv).dis,fun a ha=>?_⟩
  simp only [nodeC,List.mem_map] at ha
  obtain ⟨b,hb,rfl⟩:=ha
  have hb':=q7q.1 hb
  refine ⟨(hn.arc b hb').1,by simp only [arcC]; omega,?_⟩
  have:=List.idxOf_lt_length_of_mem (o1.clo v hv b hb')
  simp only [arcC,canonG,List.length_map]
  omega
 ·intro x hx
  simp only [canonG,List.mem_map] at hx
  obtain ⟨v,hv,rfl⟩:=hx
  exact hup v hv
 ·refine ⟨fun v hv a ha=>o1.clo v hv a (q7q.1 ha),fun u v hu hv e=>?_,fun v hv=>?_,fun v hv=>?_⟩
  ·have h1:=qab hu
   have h2:=qab hv
   have e':(ordG f r).idxOf u=(ordG f r).idxOf v:=Int.ofNat.inj e
   rw [e',h2] at h1
   exact (Option.some.inj h1).symm
  ·simp only [hat v hv,nodeC]
  ·simp only [sar,hat v hv]
   rw [srtA_id (hup v hv)]
   rfl
theorem canon_idem {f:GFS} (hf:GOK f) {r:Int} (hr:InG f r):canonG (canonG f r) 0=canonG f r∧ordG (canonG f r) 0=(ordG f r).map fun v=>((ordG f r).idxOf v:Int):=by
 have hc:=canG_ok hf hr
 obtain ⟨o1,_⟩:=q8s hf hr
 obtain ⟨t,ht⟩:=o1.head
 have hrm:r∈ordG f r:=by rw [ht]; simp
 have h0:((ordG f r).idxOf r:Int)=0:=by rw [ht]; simp
 have:=hc.sim.canon hf hc.ok hr hrm ⟨by omega,by have:=hc.pos; simp only [h0]; omega⟩
 simp only [h0] at this
 exact ⟨this.2,this.1⟩
theorem Small.canon {f:GFS} {k:Nat} (hs:Small f k) (hf:GOK f) {r:Int} (hr:InG f r):Small (canonG f r) k:=by
 have hc:=canG_ok hf hr
 obtain ⟨o1,_⟩:=q8s hf hr
 refine ⟨Nat.le_trans hc.le hs.nodes,fun x hx=>?_⟩
 simp only [canonG,List.mem_map] at hx
 obtain ⟨v,hv,rfl⟩:=hx
 simp only [nodeC,List.length_map,sar]
 rw [(q5p _).length_eq]
 exact hs.arcs _ (qah (o1.seen.ing v hv)).2
theorem errG_canon {f:GFS} (h:errG f=0):errG (canonG f 0)=0:=by
 obtain ⟨h1,h2,h3⟩:=q7u.1 h
 have hc:=canG_ok h3 (r:=0) ⟨by omega,by omega⟩
 refine q7u.2 ⟨by have:=hc.pos; omega,by have:=hc.le; omega,hc.ok⟩
end Go.Proofs
end
section
namespace Go.Proofs
open Go Go.Rx Go.Vx Go.Shelf Go.Sort
set_option linter.unusedVariables false
set_option linter.unusedSimpArgs false
set_option maxRecDepth 10000
structure Pl (N:Nat) (p:List Int):Prop where
 len:p.length=N
 nd:p.Nodup
 ing:∀ v∈p,0≤v∧v<N
 root:0<N→p[0]? = some 0
def idN (N:Nat):List Int:=(List.range N).map fun (i:Nat)=>(i:Int)
theorem idN_get {N i:Nat} (h:i<N):(idN N)[i]? = some (i:Int):=by simp [idN,h]
theorem Pl.id (N:Nat):Pl N (idN N):=⟨by simp [idN],by
 unfold idN
 rw [List.Nodup,List.pairwise_map]
 exact List.nodup_range.imp fun {a b} h e=>h (Int.ofNat.inj e),fun v hv=>by
 simp only [idN,List.mem_map,List.mem_range] at hv
 obtain ⟨i,hi,rfl⟩:=hv
 omega,fun h=>idN_get h⟩
theorem perm_L1 {f:GFS} {k:Nat} (hf:Small f k) (hk:k≤1000000) {mv:List Int} {n:Nat}:∀ (m i:Nat),f.Nodes.length - i<m→i≤f.Nodes.length →
  q2n f mv n m i ((idN f.Nodes.length).take i++List.replicate (f.Nodes.length - i) 0)=q35 f mv n (idN f.Nodes.length)
 | 0,i,hm,_=>by omega
 | m+1,i,hm,hi=>by
  have hnl:=hf.nodes
  have hlen:(idN f.Nodes.length).length=f.Nodes.length:=by simp [idN]
  unfold q2n
  rw [Int.toNat_natCast]
  by_cases hlt:i<f.Nodes.length
  ·have h3:((idN f.Nodes.length).take i).length=i:=by simp; omega
   have e0:f.Nodes.length - i=(f.Nodes.length - (i+1))+1:=by omega
   have e1:idxV ((idN f.Nodes.length).take i++List.replicate (f.Nodes.length - i) 0) 0 f.Nodes.length (i:Int)=some 0:=by
    rw [idxV,if_pos ⟨by omega,by omega⟩,Nat.zero_add,Int.toNat_natCast,List.getElem?_append_right (by omega),h3,e0]
    simp
   have e2:((idN f.Nodes.length).take i++List.replicate (f.Nodes.length - i) 0).set (i:Int).toNat (i:Int)=(idN f.Nodes.length).take (i+1)++List.replicate (f.Nodes.length - (i+1)) 0:=by
    rw [e0,List.replicate_succ,q6v (idN_get hlt)]
    have:=set_at ((idN f.Nodes.length).take i) (List.replicate (f.Nodes.length - (i+1)) 0) 0 (i:Int)
    rw [h3] at this
    simp only [Int.toNat_natCast]
    rw [this]
    simp
   simp only [dlt hlt,cond_true,e1,q1d,wr1 hlt (show f.Nodes.length≤9223372036854775807 by omega)]
   rw [e2]
   exact perm_L1 hf hk m (i+1) (by omega) (by omega)
  ·simp only [dnlt hlt,cond_false]
   rw [List.take_of_length_le (by omega),show f.Nodes.length - i=0 by omega]
   simp
theorem swap_get {p:List Int} {a b:Nat} (ha:a<p.length) (hb:b<p.length) (i:Nat):((p.set a p[b]).set b p[a])[i]? = if i=b then some p[a] else if i=a then some p[b] else p[i]?:=by
 by_cases h1:i=b
 ·subst h1; simp [hb]
 ·rw [List.getElem?_set_ne (fun h=>h1 h.symm)]
  by_cases h2:i=a
  ·subst h2; simp [h1,ha]
  ·rw [List.getElem?_set_ne (fun h=>h2 h.symm)]; simp [h1,h2]
theorem Pl.swap {N:Nat} {p:List Int} (h:Pl N p) {a b:Nat} (ha:a<p.length) (hb:b<p.length) (ha0:0<a) (hb0:0<b):Pl N ((p.set a p[b]).set b p[a]):=by
 have hnd:∀ i j v,p[i]? = some v→p[j]? = some v→i=j:=fun i j v hi hj=>by
  obtain ⟨h1,e1⟩:=List.getElem?_eq_some_iff.1 hi
  obtain ⟨h2,e2⟩:=List.getElem?_eq_some_iff.1 hj
  exact (List.getElem_inj h.nd).1 (e1.trans e2.symm)
 have hpa:p[a]? = some p[a]:=by simp [ha]
 have hpb:p[b]? = some p[b]:=by simp [hb]
 refine ⟨by simp [h.len],?_,fun v hv=>?_,fun h0=>?_⟩
 ·rw [List.Nodup,List.pairwise_iff_getElem]
  intro i j hi hj hij e
  have e1:((p.set a p[b]).set b p[a])[i]? = ((p.set a p[b]).set b p[a])[j]?:=by simp only [List.getElem?_eq_getElem hi,List.getElem?_eq_getElem hj,e]
  rw [swap_get ha hb,swap_get ha hb] at e1
  simp at hi hj
  have hpi:p[i]? = some p[i]:=by simp [hi]
  have hpj:p[j]? = some p[j]:=by simp [hj]
  by_cases hib:i=b
  ·by_cases hja:j=a
   ·have h5:¬ j=b:=by omega
    have h6:¬ a=b:=by omega
    simp only [hib,h5,hja,h6,if_true,if_false] at e1
    have:=hnd a b p[a] hpa (by rw [e1]; exact hpb)
    omega
   ·have h5:¬ j=b:=by omega
    simp only [hib,h5,hja,if_true,if_false] at e1
    have:=hnd j a p[a] e1.symm hpa
    omega
  ·by_cases hia:i=a
   ·by_cases hjb:j=b
    ·simp only [hib,hia,hjb,if_true,if_false] at e1
     have h5:¬ a=b:=by omega
     simp only [h5,if_false] at e1
     have:=hnd b a p[b] hpb (by rw [e1]; exact hpa)
     omega
    ·have h5:¬ j=a:=by omega
     have h6:¬ a=b:=by omega
     simp only [hia,h6,hjb,h5,if_true,if_false] at e1
     have:=hnd j b p[b] e1.symm hpb
     omega
   ·simp only [hib,hia,if_false] at e1
    by_cases hjb:j=b
    ·simp only [hjb,if_true] at e1
     have:=hnd i a p[a] e1 hpa
     omega
    ·by_cases hja:j=a
     ·have h6:¬ a=b:=fun h=>hjb (hja.trans h)
      simp only [hja,h6,if_true,if_false] at e1
      have:=hnd i b p[b] e1 hpb
      omega
     ·simp only [hjb,hja,if_false] at e1
      rw [hpj] at e1
      have:=hnd i j _ e1 hpj
      omega
 ·rcases List.mem_or_eq_of_mem_set hv with hv | rfl
  ·rcases List.mem_or_eq_of_mem_set hv with hv | rfl
   ·exact h.ing v hv
   ·exact h.ing _ (List.getElem_mem _)
  ·exact h.ing _ (List.getElem_mem _)
 ·rw [swap_get ha hb]
  have h1:¬ 0=b:=by omega
  have h2:¬ 0=a:=by omega
  simp only [h1,h2,if_false]
  exact h.root h0
theorem perm_L2 {f:GFS} {k:Nat} (hf:Small f k) (hk:k≤1000000) {mv:List Int} (hm:mv.length≤1000) (hmv:∀ x∈mv,0≤x∧x≤255) {n:Nat}:∀ (m i:Nat) (p:List Int),mv.length - i<m→i≤mv.length→Pl f.Nodes.length p →
  ∃ p',Pl f.Nodes.length p'∧q1w f mv n m i p=q36 f n p'
 | 0,i,p,hm,_,_=>by omega
 | m+1,i,p,hmm,hi,hp=>by
  have hnl:=hf.nodes
  unfold q1w
  by_cases hlt:i<mv.length
  ·obtain ⟨x,hx,hxm⟩:=q61 hlt
   have hxb:=hmv x hxm
   have hw1:=wr1 hlt (show mv.length≤9223372036854775807 by omega)
   simp only [dlt hlt,cond_true,q4b,hx,q1d]
   by_cases h1:(f.Nodes.length:Int) > 1
   ·have hwN:IntKind.i64.wrap ((f.Nodes.length:Int) - 1)=((f.Nodes.length - 1:Nat):Int):=wrn (by omega) (by omega)
    have hne:¬ ((f.Nodes.length - 1:Nat):Int)=0:=by omega
    have hwx:IntKind.i64.wrap x=((x.toNat:Nat):Int):=wrn (by omega) (by omega)
    have ht1:((i:Int)).tmod ((f.Nodes.length - 1:Nat):Int)=((i % (f.Nodes.length - 1):Nat):Int):=rfl
    have ht2:((x.toNat:Nat):Int).tmod ((f.Nodes.length - 1:Nat):Int)=((x.toNat % (f.Nodes.length - 1):Nat):Int):=rfl
    have hb1:i % (f.Nodes.length - 1)<f.Nodes.length - 1:=Nat.mod_lt _ (by omega)
    have hb2:x.toNat % (f.Nodes.length - 1)<f.Nodes.length - 1:=Nat.mod_lt _ (by omega)
    generalize hA:i % (f.Nodes.length - 1)=A at *
    generalize hB:x.toNat % (f.Nodes.length - 1)=B at *
    have hwa:IntKind.i64.wrap (1+(A:Int))=((A+1:Nat):Int):=wrn (by omega) (by omega)
    have hwb:IntKind.i64.wrap (1+(B:Int))=((B+1:Nat):Int):=wrn (by omega) (by omega)
    have ha:A+1<p.length:=by rw [hp.len]; omega
    have hb:B+1<p.length:=by rw [hp.len]; omega
    have iA:∀ (l:List Int),l.length=f.Nodes.length→∀ (j:Nat),j<f.Nodes.length→idxV l 0 f.Nodes.length (j:Int)=l[j]?:=fun l hl j hj=>by
     rw [idxV,if_pos ⟨by omega,by omega⟩,Nat.zero_add,Int.toNat_natCast]
    have g1:idxV p 0 f.Nodes.length ((A+1:Nat):Int)=some p[A+1]:=by rw [iA p hp.len _ (by omega)]; simp [ha]
    have g2:idxV p 0 f.Nodes.length ((B+1:Nat):Int)=some p[B+1]:=by rw [iA p hp.len _ (by omega)]; simp [hb]
    have g3:∃ y,idxV (p.set (A+1) p[B+1]) 0 f.Nodes.length ((B+1:Nat):Int)=some y:=by
     rw [iA _ (by simp [hp.len]) _ (by omega)]
     exact ⟨(p.set (A+1) p[B+1])[B+1]'(by simpa using hb),by simp⟩
    obtain ⟨y,g3⟩:=g3
    obtain ⟨p',q1,q2⟩:=perm_L2 hf hk hm hmv m (i+1) ((p.set (A+1) p[B+1]).set (B+1) p[A+1]) (by omega) (by omega) (hp.swap ha hb (by omega) (by omega))
    refine ⟨p',q1,?_⟩
    rw [← q2]
    simp only [h1,decide_true,cond_true,hwN,needO,hne,not_false_eq_true,if_true,hwx,ht1,ht2,hwa,hwb,Int.toNat_natCast,g1,g2,g3,q1d,q2m,hw1]
   ·simp only [h1,decide_false,cond_false,q2m,hw1]
    exact perm_L2 hf hk hm hmv m (i+1) p (by omega) (by omega) hp
  ·simp only [dnlt hlt,cond_false]
   exact ⟨p,hp,rfl⟩
def pat (p:List Int) (v:Int):Int:=(p[v.toNat]?).getD 0
def arcP (p:List Int) (a:GArc):GArc:=⟨a.Feat,pat p a.To⟩
def nodeP (f:GFS) (p:List Int) (v:Int):GNode:=⟨(nd f v).Typex,(nd f v).Arcs.reverse.map (arcP p)⟩
theorem Pl.at {N:Nat} {p:List Int} (h:Pl N p) {v:Int} (hv:0≤v∧v<N):idxV p 0 N v=some (pat p v)∧0≤pat p v∧pat p v<N:=by
 have h1:v.toNat<p.length:=by rw [h.len]; omega
 have e:pat p v=p[v.toNat]:=by simp [pat,h1]
 rw [idxV,if_pos hv,e]
 refine ⟨by simp [h1],?_⟩
 exact h.ing _ (List.getElem_mem _)
theorem perm_L4 {f:GFS} (hg:GOK f) {i:Nat} (hi:i<f.Nodes.length) {p:List Int} (hp:Pl f.Nodes.length p) (hN:f.Nodes.length≤1000000) {q:List GNode} {rc:Int→List GNode→Option GFS} {x:GNode} (ha:(nd f i).Arcs.length≤1000000):∀ (m j:Nat),j<m→j≤(nd f i).Arcs.length →
  q2o f p i q rc x m ((j:Int) - 1) (((nd f i).Arcs.drop j).reverse.map (arcP p))=q38 f p i q rc x ((nd f i).Arcs.reverse.map (arcP p))
 | 0,j,hm,_=>by omega
 | m+1,j,hm,hj=>by
  have hx:=qah (f:=f) (v:=(i:Int)) ⟨by omega,by omega⟩
  unfold q2o
  cases j with
  | zero =>
   have:¬ ((0:Nat):Int) - 1 ≥ 0:=by omega
   simp only [this,decide_false,cond_false,List.drop_zero]
  | succ j =>
   have h1:((j+1:Nat):Int) - 1=(j:Int):=by omega
   rw [h1]
   have h2:(j:Int) ≥ 0:=by omega
   obtain ⟨a,hga,ham⟩:=q61 (l:=(nd f i).Arcs) (i:=j) (by omega)
   have hto:=(hg _ hx.2).arc a ham
   have hpl:=hp.at ⟨hto.2.1,hto.2.2⟩
   have hw:IntKind.i64.wrap ((j:Int) - 1)=(j:Int) - 1:=wr (by omega) (by omega)
   have hneed:((((nd f i).Arcs.drop (j+1)).reverse.map (arcP p)).length+1)*16≤140737488355328∧(((nd f i).Arcs.drop (j+1)).reverse.map (arcP p)).length+1≤140737488355328:=by simp; omega
   have e:((nd f i).Arcs.drop (j+1)).reverse.map (arcP p)++[(GArc.mk a.Feat (pat p a.To))]=((nd f i).Arcs.drop j).reverse.map (arcP p):=by
    rw [drop_cons' hga]; simp [arcP]
   simp only [h2,decide_true,cond_true,hx.1,q1d,q4b,hga,Int.toNat_natCast,hpl.1,needO,hneed,and_self,if_true,hw,e]
   exact perm_L4 hg hi hp hN ha m j (by omega) (by omega)
structure Built (f:GFS) (k:Nat) (p:List Int) (i:Nat) (q:List GNode):Prop where
 sm:∀ x∈q,x.Arcs.length≤k
 len:q.length=f.Nodes.length+1
 done:∀ j,j<i→q[(pat p j).toNat]? = some (nodeP f p j)
 ok:∀ x∈q,NOk x (f.Nodes.length+1)
theorem nodeP_ok {f:GFS} (hg:GOK f) {p:List Int} (hp:Pl f.Nodes.length p) {v:Int} (hv:InG f v):NOk (nodeP f p v) (f.Nodes.length+1):=by
 have hn:=hg _ (qah hv).2
 refine ⟨hn.ty,?_,fun a ha=>?_⟩
 ·show Dis ((nd f v).Arcs.reverse.map (arcP p))
  unfold Dis
  rw [List.pairwise_map]
  exact (Dis.perm (List.reverse_perm _).symm hn.dis)
 ·simp only [nodeP,List.mem_map,List.mem_reverse] at ha
  obtain ⟨b,hb,rfl⟩:=ha
  have hto:=hn.arc b hb
  have hpl:=hp.at ⟨hto.2.1,hto.2.2⟩
  exact ⟨hto.1,hpl.2.1,by have:=hpl.2.2; simp only [arcP]; omega⟩
theorem pat_inj {N:Nat} {p:List Int} (h:Pl N p) {u v:Int} (hu:0≤u∧u<N) (hv:0≤v∧v<N) (e:pat p u=pat p v):u=v:=by
 have h1:u.toNat<p.length:=by rw [h.len]; omega
 have h2:v.toNat<p.length:=by rw [h.len]; omega
 have e1:pat p u=p[u.toNat]:=by simp [pat,h1]
 have e2:pat p v=p[v.toNat]:=by simp [pat,h2]
 rw [e1,e2] at e
 have:=(List.getElem_inj h.nd).1 e
 omega
theorem perm_L3 {f:GFS} {k:Nat} (hg:GOK f) (hf:Small f k) (hk:k≤1000000) {n:Nat} (hn:k+100≤n) {p:List Int} (hp:Pl f.Nodes.length p):∀ (m i:Nat) (q:List GNode),f.Nodes.length - i<m→i≤f.Nodes.length→Built f k p i q →
  ∃ q',Built f k p f.Nodes.length q'∧q1n f n p m i q=q37 f n q'
 | 0,i,q,hm,_,_=>by omega
 | m+1,i,q,hm,hi,hq=>by
  have hnl:=hf.nodes
  unfold q1n
  by_cases hlt:i<f.Nodes.length
  ·have hin:InG f (i:Int):=⟨by omega,by omega⟩
   have hx:=qah hin
   have hal:=hf.arcs _ hx.2
   have hw:IntKind.i64.wrap (((nd f (i:Int)).Arcs.length:Int) - 1)=((nd f (i:Int)).Arcs.length:Int) - 1:=wr (by omega) (by omega)
   have h4:=perm_L4 hg hlt hp (by omega) (q:=q) (rc:=q1n f n p m) (x:=nd f (i:Int)) (by omega) n (nd f (i:Int)).Arcs.length (by omega) (Nat.le_refl _)
   rw [List.drop_length,List.reverse_nil,List.map_nil] at h4
   have hpl:=hp.at (v:=(i:Int)) ⟨by omega,by omega⟩
   have hwN:IntKind.i64.wrap ((f.Nodes.length:Int)+1)=((f.Nodes.length+1:Nat):Int):=wrn (by omega) (by omega)
   have hq2:∃ y,idxV q 0 (f.Nodes.length+1) (pat p (i:Int))=some y:=by
    rw [idxV,if_pos ⟨hpl.2.1,by have:=hpl.2.2; omega⟩,Nat.zero_add]
    have:(pat p (i:Int)).toNat<q.length:=by rw [hq.len]; have:=hpl.2.2; omega
    exact ⟨q[(pat p (i:Int)).toNat],by simp [this]⟩
   obtain ⟨y,hy⟩:=hq2
   have hb:Built f k p (i+1) (q.set (pat p (i:Int)).toNat (nodeP f p (i:Int))):=⟨fun x hx=>by
    rcases List.mem_or_eq_of_mem_set hx with hx | rfl
    ·exact hq.sm x hx
    ·simp only [nodeP,List.length_map,List.length_reverse]; exact hal,by simp [hq.len],fun j hj=>by
    by_cases e:j=i
    ·subst e
     have:(pat p (j:Int)).toNat<q.length:=by rw [hq.len]; have:=hpl.2.2; omega
     simp [this]
    ·have hpj:=hp.at (v:=(j:Int)) ⟨by omega,by omega⟩
     rw [List.getElem?_set_ne fun h=>e (by
      have:pat p (i:Int)=pat p (j:Int):=by omega
      have:=pat_inj hp (u:=(i:Int)) (v:=(j:Int)) ⟨by omega,by omega⟩ ⟨by omega,by omega⟩ this
      omega)]
     exact hq.done j (by omega),fun z hz=>by
    rcases List.mem_or_eq_of_mem_set hz with hz | rfl
    ·exact hq.ok z hz
    ·exact nodeP_ok hg hp hin⟩
   obtain ⟨q',g1,g2⟩:=perm_L3 hg hf hk hn hp m (i+1) _ (by omega) (by omega) hb
   refine ⟨q',g1,?_⟩
   rw [← g2]
   simp only [dlt hlt,cond_true,hx.1,q1d,hw,h4,q38,Int.toNat_natCast,hpl.1,hwN,hy,wr1 hlt (show f.Nodes.length≤9223372036854775807 by omega)]
   rfl
  ·simp only [dnlt hlt,cond_false]
   have:i=f.Nodes.length:=by omega
   subst this
   exact ⟨q,hq,rfl⟩
theorem node2_ok {n:Nat} (hn:10≤n):q1c n 3 [2,0]=some ⟨3,[⟨2,0⟩]⟩:=by
 obtain ⟨m,rfl⟩:∃ m,n=m+10:=⟨n - 10,by omega⟩
 rfl
structure Permd (f g:GFS) (k:Nat) (p:List Int):Prop where
 sm:∀ x∈g.Nodes,x.Arcs.length≤k+1
 pl:Pl f.Nodes.length p
 len:g.Nodes.length=f.Nodes.length+1
 at_:∀ v,InG f v→nd g (pat p v)=nodeP f p v
 ok:GOK g
theorem perm_ok {f:GFS} {k:Nat} (hg:GOK f) (hf:Small f k) (hk:k≤1000000) {mv:List Int} (hm:mv.length≤1000) (hmv:∀ x∈mv,0≤x∧x≤255) {n:Nat} (hn:k+2000≤n) (h0:0<f.Nodes.length):∃ g p,q3n n f mv=some g∧Permd f g k p:=by
 have hnl:=hf.nodes
 have hneed:0≤(f.Nodes.length:Int)∧8*(f.Nodes.length:Int).toNat≤281474976710656∧(f.Nodes.length:Int)≤281474976710656:=by rw [Int.toNat_natCast]; omega
 have h1:=perm_L1 hf hk (mv:=mv) (n:=n) n 0 (by omega) (by omega)
 rw [Int.ofNat_zero,List.take_zero,List.nil_append,Nat.sub_zero] at h1
 obtain ⟨p,hp,h2⟩:=perm_L2 hf hk hm hmv (n:=n) n 0 (idN f.Nodes.length) (by omega) (by omega) (Pl.id _)
 rw [Int.ofNat_zero] at h2
 have hwN:IntKind.i64.wrap ((f.Nodes.length:Int)+1)=((f.Nodes.length+1:Nat):Int):=wrn (by omega) (by omega)
 have hneed2:0≤((f.Nodes.length+1:Nat):Int)∧32*(f.Nodes.length+1)≤281474976710656∧((f.Nodes.length+1:Nat):Int)≤281474976710656:=by omega
 obtain ⟨q,hq,h3⟩:=perm_L3 hg hf hk (show k+100≤n by omega) hp n 0 (List.replicate (f.Nodes.length+1) (GNode.mk 0 [])) (by omega) (by omega) ⟨fun x hx=>by
  have:=(List.mem_replicate.1 hx).2
  subst this
  simp,by simp,fun j hj=>by omega,fun x hx=>by
  have:=(List.mem_replicate.1 hx).2
  subst this
  exact ⟨by simp,List.Pairwise.nil,fun a ha=>by cases ha⟩⟩
 rw [Int.ofNat_zero] at h3
 have hlast:∃ y,idxV q 0 (f.Nodes.length+1) (f.Nodes.length:Int)=some y:=by
  rw [idxV,if_pos ⟨by omega,by omega⟩,Nat.zero_add,Int.toNat_natCast]
  exact ⟨q[f.Nodes.length]'(by rw [hq.len]; omega),by simp [hq.len]⟩
 obtain ⟨y,hy⟩:=hlast
 refine ⟨⟨q.set f.Nodes.length ⟨3,[⟨2,0⟩]⟩⟩,p,?_,fun x hx=>?_,hp,by simp [hq.len],fun v hv=>?_,fun x hx=>?_⟩
 ·have hl:f.Nodes.length+1=(q.set f.Nodes.length ⟨3,[⟨2,0⟩]⟩).length:=by simp [hq.len]
  simp only [q3n,needO]
  rw [if_pos hneed,Int.toNat_natCast,h1]
  simp only [q35]
  rw [h2]
  simp only [q36,hwN,needO,Int.toNat_natCast]
  rw [if_pos hneed2,h3]
  simp only [q37,node2_ok (show 10≤n by omega),q1d,hwN,Int.toNat_natCast,hy,needO]
  rw [if_pos hl]
 ·rcases List.mem_or_eq_of_mem_set hx with hx | rfl
  ·have:=hq.sm x hx; omega
  ·simp
 ·have hpl:=hp.at hv
  have h5:(v.toNat:Int)=v:=by have:=hv.1; omega
  have:=hq.done v.toNat (by have:=hv.1; have:=hv.2; omega)
  rw [h5] at this
  simp only [nd]
  rw [List.getElem?_set_ne (by have:=hpl.2.1; have:=hpl.2.2; omega),this]
  rfl
 ·have hl:(q.set f.Nodes.length ⟨3,[⟨2,0⟩]⟩).length=f.Nodes.length+1:=by simp [hq.len]
  show NOk x (q.set f.Nodes.length ⟨3,[⟨2,0⟩]⟩).length
  rw [hl]
  rcases List.mem_or_eq_of_mem_set hx with hx | rfl
  ·exact hq.ok x hx
  ·exact ⟨by decide,by simp [Dis],fun a ha=>by simp at ha; subst ha; exact ⟨by decide,by decide,by show (0:Int)<_; omega⟩⟩
theorem Permd.sim {f g:GFS} {k:Nat} {p:List Int} (hg:GOK f) (h:Permd f g k p):Sim f g (pat p) (InG f):=by
 refine ⟨fun v hv a ha=>?_,fun u v hu hv e=>pat_inj h.pl hu hv e,fun v hv=>by rw [h.at_ v hv]; rfl,fun v hv=>?_⟩
 ·have:=(hg _ (qah hv).2).arc a (q7q.1 ha)
  exact ⟨this.2.1,this.2.2⟩
 ·have hn:=hg _ (qah hv).2
  show srtA (nd g (pat p v)).Arcs=_
  rw [h.at_ v hv]
  refine srtA_of (nodeP_ok hg h.pl hv).dis ?_ ?_
  ·exact ((q5p _).trans (List.reverse_perm _).symm).map (arcP p)
  ·unfold UpA
   rw [List.pairwise_map]
   exact srtA_up hn.dis
theorem turns_law (f:GFS) {mv:List Int} (hmv:∀ x∈mv,0≤x∧x≤255) {n:Nat} (hn:3000000≤n):q4c n f mv=some true:=by
 obtain ⟨b,h1,h2⟩:=light_ok f (show 20≤n by omega)
 simp only [q4c,h1,q1d,ex_n (show 60≤n by omega)]
 cases b with
 | false=>simp
 | true =>
  have hf:=h2 rfl
  by_cases hm:(mv.length:Int) > 30
  ·simp [hm]
  ·simp only [hm,Bool.not_true,cond_false,decide_false,q1d]
   have hC:=Canon_ok hf (by omega) (show 2*12+4≤n by omega)
   by_cases he:errG f=0
   ·simp only [he,if_true] at hC
    obtain ⟨e1,e2,e3⟩:=q7u.1 he
    have hr:InG f 0:=⟨by omega,by omega⟩
    obtain ⟨g,p,k1,k2⟩:=perm_ok e3 hf (by omega) (show mv.length≤1000 by omega) hmv (show 12+2000≤n by omega) (by omega)
    have h0:pat p 0=0:=by
     have:=k2.pl.root (by omega)
     simp [pat,this]
    have hnl:=hf.nodes
    have hgs:Small g 13:=⟨by rw [k2.len]; omega,k2.sm⟩
    ·have hge:errG g=0:=q7u.2 ⟨by rw [k2.len]; omega,by rw [k2.len]; omega,k2.ok⟩
     have hCg:=Canon_ok hgs (by omega) (show 2*13+4≤n by omega)
     simp only [hge,if_true] at hCg
     have hs:=(k2.sim e3).canon e3 k2.ok hr hr (by rw [h0]; exact ⟨by omega,by rw [k2.len]; omega⟩)
     rw [h0] at hs
     have hcs:=hf.canon e3 hr
     have hCc:=Canon_ok hcs (by omega) (show 2*12+4≤n by omega)
     simp only [errG_canon he,if_true,(canon_idem e3 hr).1] at hCc
     have hq:=refEq_ok (hcs.up (show 12≤1000 by omega)) (hcs.up (show 12≤1000 by omega)) hn
     rw [hs.2] at hCg
     simp [hC,k1,hCg,hCc,hq,q1d,ccG_ok.self]
   ·have hb:(errG f != 0)=true:=by simpa using he
    simp only [he,if_false] at hC
    simp [hC,hb,q1d]
end Go.Proofs
end
