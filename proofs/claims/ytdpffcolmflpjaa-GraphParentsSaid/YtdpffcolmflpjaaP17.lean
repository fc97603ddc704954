/-
  Texts of the walk: MpA H6 H7 H8 H9 H10.
-/
import Derived.Test.YtdpffcolmflpjaaP16
section
namespace Go.Vx
open Go Go.Rx
set_option linter.unusedVariables false
section
variable {K V:Type} [DecidableEq K]
def aget (k:K):List (K×V×Nat)→Option V
 | []=>none
 | e::es=>if k=e.1 then some e.2.1 else aget k es
variable {eq:K→K→Bool} (he:∀ a b,eq a b=true↔a=b)
include he
omit [DecidableEq K] in
theorem eq_f {a b:K} (h:¬ a=b):eq a b=false:=by
 cases h':eq a b with
 | false=>rfl
 | true=>exact absurd ((he a b).1 h') h
theorem q9a (k:K):∀ (es:List (K×V×Nat)) (i:Nat),(mFindL eq k es i).map (fun x=>x.2.1)=aget k es
 | [],i=>rfl
 | e::es,i=>by
  simp only [mFindL,aget]
  by_cases h:k=e.1
  ·rw [(he k e.1).2 h,if_pos h]; rfl
  ·rw [eq_f he h,if_neg h]; exact q9a k es (i+1)
theorem mGet_get (m:MapL K V) (k:K):mGet eq m k=aget k m.es:=q9a he k m.es 0
theorem get_set (k:K) (v:V):∀ {es:List (K×V×Nat)} {i j:Nat} {q:V×Nat},mFindL eq k es i=some (j,q)→i≤j∧∀ x,aget x (mSetL v es (j - i))=if x=k then some v else aget x es
 | [],i,j,q,h=>by cases h
 | e::es,i,j,q,h=>by
  simp only [mFindL] at h
  by_cases hk:k=e.1
  ·rw [(he k e.1).2 hk] at h
   simp only [cond_true,Option.some.injEq,Prod.mk.injEq] at h
   obtain ⟨rfl,_⟩:=h
   refine ⟨Nat.le_refl _,fun x=>?_⟩
   simp only [Nat.sub_self,mSetL,aget,hk]
   split<;>rfl
  ·rw [eq_f he hk] at h
   simp only [cond_false] at h
   obtain ⟨h1,h2⟩:=get_set k v h
   refine ⟨by omega,fun x=>?_⟩
   rw [show j - i=(j - (i+1))+1 by omega]
   simp only [mSetL,aget,h2]
   by_cases hx:x=e.1
   ·have:¬ x=k:=fun h=>hk (h ▸ hx)
    simp [hx]
    intro h; exact absurd h.symm hk
   ·simp [hx]
omit he [DecidableEq K] in
theorem set_keys (v:V):∀ (es:List (K×V×Nat)) (i:Nat),(mSetL v es i).map (fun e=>e.1)=es.map (fun e=>e.1)∧(mSetL v es i).map (fun e=>e.2.2)=es.map (fun e=>e.2.2)
 | [],i=>by simp [mSetL]
 | e::es,0=>by simp [mSetL]
 | e::es,i+1=>by simp [mSetL,set_keys v es i]
omit he in
theorem get_none {k:K}:∀ {es:List (K×V×Nat)},k ∉ es.map (fun e=>e.1)→aget k es=none
 | [],_=>rfl
 | e::es,h=>by
  simp only [List.map_cons,List.mem_cons,not_or] at h
  simp only [aget,h.1,if_false]
  exact get_none h.2
theorem get_del (k:K):∀ {es:List (K×V×Nat)} {i j:Nat} {q:V×Nat},(es.map (fun e=>e.1)).Nodup→mFindL eq k es i=some (j,q)→i≤j∧∀ x,aget x (mDelL es (j - i))=if x=k then none else aget x es
 | [],i,j,q,_,h=>by cases h
 | e::es,i,j,q,hn,h=>by
  simp only [mFindL] at h
  simp only [List.map_cons,List.nodup_cons] at hn
  by_cases hk:k=e.1
  ·rw [(he k e.1).2 hk] at h
   simp only [cond_true,Option.some.injEq,Prod.mk.injEq] at h
   obtain ⟨rfl,_⟩:=h
   refine ⟨Nat.le_refl _,fun x=>?_⟩
   simp only [Nat.sub_self,mDelL,aget]
   by_cases hx:x=k
   ·rw [if_pos hx,hx,hk]; exact get_none hn.1
   ·have:¬ x=e.1:=fun h=>hx (h.trans hk.symm)
    simp [hx,this]
  ·rw [eq_f he hk] at h
   simp only [cond_false] at h
   obtain ⟨h1,h2⟩:=get_del k hn.2 h
   refine ⟨by omega,fun x=>?_⟩
   rw [show j - i=(j - (i+1))+1 by omega]
   simp only [mDelL,aget,h2]
   by_cases hx:x=e.1
   ·have:¬ x=k:=fun h=>hk (h ▸ hx)
    simp [hx]
    intro h; exact absurd h.symm hk
   ·simp [hx]
omit he [DecidableEq K] in
theorem del_sub:∀ (es:List (K×V×Nat)) (i:Nat),(mDelL es i).Sublist es
 | [],i=>by simp [mDelL]
 | e::es,0=>by simp [mDelL]
 | e::es,i+1=>by simp [mDelL,del_sub es i]
omit he in
theorem get_app (x k:K) (v:V) (b:Nat):∀ es:List (K×V×Nat),aget x (es++[(k,v,b)])=if aget x es=none then (if x=k then some v else none) else aget x es
 | []=>by simp [aget]
 | e::es=>by
  simp only [List.cons_append,aget]
  by_cases hx:x=e.1
  ·simp [hx]
  ·simp only [hx,if_false]; exact get_app x k v b es
structure MInv (m:MapL K V):Prop where
 keys:(m.es.map (fun e=>e.1)).Nodup
 borns:(m.es.map (fun e=>e.2.2)).Nodup
 lt:∀ e∈m.es,e.2.2<m.cl
omit he in
theorem MInv.app {m:MapL K V} (h:MInv m) {k:K} (hf:aget k m.es=none) (v:V):MInv (⟨m.es++[(k,v,m.cl)],m.cl+1⟩:MapL K V):=by
 refine ⟨?_,?_,?_⟩
 ·simp only [List.map_append,List.map_cons,List.map_nil]
  rw [List.nodup_append]
  refine ⟨h.keys,by simp,?_⟩
  intro a ha b hb hab
  simp only [List.mem_singleton] at hb
  subst hab hb
  clear h
  generalize m.es=es at *
  induction es with
  | nil=>simp at ha
  | cons e es ih =>
   simp only [aget] at hf
   by_cases hx:a=e.1
   ·simp [hx] at hf
   ·simp only [hx,if_false] at hf
    simp only [List.map_cons,List.mem_cons,hx,false_or] at ha
    exact ih ha hf
 ·simp only [List.map_append,List.map_cons,List.map_nil]
  rw [List.nodup_append]
  refine ⟨h.borns,by simp,?_⟩
  intro a ha b hb hab
  simp only [List.mem_singleton] at hb
  obtain ⟨e,he,rfl⟩:=List.mem_map.1 ha
  have:=h.lt e he
  omega
 ·intro e he
  rcases List.mem_append.1 he with he | he
  ·have:=h.lt e he; simp only; omega
  ·simp only [List.mem_singleton] at he; subst he; simp
omit he [DecidableEq K] in
theorem MInv.set {m:MapL K V} (h:MInv m) (v:V) (i:Nat):MInv (⟨mSetL v m.es i,m.cl⟩:MapL K V):=by
 obtain ⟨h1,h2⟩:=set_keys v m.es i
 refine ⟨by simp only [h1]; exact h.keys,by simp only [h2]; exact h.borns,fun e he=>?_⟩
 have:e.2.2∈(mSetL v m.es i).map (fun e=>e.2.2):=List.mem_map.2 ⟨e,he,rfl⟩
 rw [h2] at this
 obtain ⟨e',g1,g2⟩:=List.mem_map.1 this
 have:=h.lt e' g1
 simp only at g2 ⊢
 omega
theorem upd_ok {m:MapL K V} (h:MInv m) (k:K) (v:V):MInv (mUpd eq m k v)∧∀ x,aget x (mUpd eq m k v).es=if x=k then some v else aget x m.es:=by
 unfold mUpd
 cases hf:mFindL eq k m.es 0 with
 | none =>
  have hg:aget k m.es=none:=by rw [← q9a he k m.es 0,hf]; rfl
  refine ⟨h.app hg v,fun x=>?_⟩
  simp only [get_app]
  by_cases hx:x=k
  ·simp [hx,hg]
  ·simp only [hx,if_false]; split<;>simp_all
 | some q =>
  obtain ⟨j,q⟩:=q
  have:=(get_set he k v hf).2
  exact ⟨h.set v j,fun x=>by simpa using this x⟩
theorem del_ok {m:MapL K V} (h:MInv m) (k:K):MInv (mDel eq m k)∧∀ x,aget x (mDel eq m k).es=if x=k then none else aget x m.es:=by
 unfold mDel
 cases hf:mFindL eq k m.es 0 with
 | none =>
  have hg:aget k m.es=none:=by rw [← q9a he k m.es 0,hf]; rfl
  refine ⟨h,fun x=>?_⟩
  by_cases hx:x=k
  ·simp [hx,hg]
  ·simp [hx]
 | some q =>
  obtain ⟨j,q⟩:=q
  have:=(get_del he k h.keys hf).2
  have hs:=del_sub m.es j
  exact ⟨⟨(hs.map _).nodup h.keys,(hs.map _).nodup h.borns,fun e he=>h.lt e (hs.subset he)⟩,fun x=>by simpa using this x⟩
end
end Go.Vx
end
section
namespace Go.Proofs
open Go Go.Rx Go.Vx Go.Shelf Go.Sort
set_option linter.unusedVariables false
set_option linter.unusedSimpArgs false
set_option maxRecDepth 10000
theorem insB_congr {α:Type} {lt lt':α→α→Bool} (x:α):∀ {l:List α},(∀ y∈l,lt y x=lt' y x)→insB lt x l=insB lt' x l
 | [],_=>rfl
 | y::l,h=>by
  have ih:=insB_congr (lt:=lt) (lt':=lt') x (l:=l) fun z hz=>h z (List.mem_cons_of_mem _ hz)
  simp only [insB,h y (by simp),ih]
theorem srt_congr {α:Type} {lt lt':α→α→Bool}:∀ {l:List α},(∀ x∈l,∀ y∈l,lt x y=lt' x y)→srt lt l=srt lt' l
 | [],_=>rfl
 | x::l,h=>by
  simp only [srt]
  rw [srt_congr fun a ha b hb=>h a (by simp [ha]) b (by simp [hb])]
  exact insB_congr x fun y hy=>h y (by simp [(q77 lt' l).mem_iff.1 hy]) x (by simp)
theorem okSort_of {α:Type} {eq:α→α→Bool} (heq:∀ x,eq x x=true) {f:α→α→Option Int} {c:α→α→Int} (hc:Cmp c) {ds:List α} (hf:∀ x∈ds,∀ y∈ds,f x y=some (c x y)) (hz:∀ x∈ds,∀ y∈ds,c x y=0→x=y):okSort eq f ds=true:=by
 have hlt:∀ x∈ds,∀ y∈ds,fLt f x y=ltOf c x y:=fun x hx y hy=>by simp [fLt,hf x hx y hy,ltOf]
 have hs:=hc.swo
 unfold okSort
 rw [List.all_eq_true]
 intro x hx
 rw [Bool.and_eq_true,Bool.not_eq_true',List.all_eq_true]
 refine ⟨by rw [hlt x hx x hx]; exact hs.irrefl x,fun y hy=>?_⟩
 rw [Bool.and_eq_true,Bool.and_eq_true,List.all_eq_true]
 refine ⟨by rw [hf x hx y hy]; rfl,?_,fun z hzm=>?_⟩
 ·rw [hlt x hx y hy,hlt y hy x hx]
  cases h1:ltOf c x y with
  | true=>rfl
  | false =>
   cases h2:ltOf c y x with
   | true=>rfl
   | false =>
    have a:=hc.anti x y
    simp [ltOf] at h1 h2
    have:=hz x hx y hy (by omega)
    subst this
    simp [heq]
 ·rw [hlt x hx y hy,hlt y hy z hzm,hlt x hx z hzm]
  cases h1:ltOf c x y with
  | true =>
   cases h2:ltOf c y z with
   | true=>simp [hs.trans x y z h1 h2]
   | false=>simp
  | false =>
   cases h2:ltOf c y z with
   | true=>simp
   | false=>simp [hs.ntrans x y z h1 h2]
theorem sortO_of {α:Type} {eq:α→α→Bool} (heq:∀ x,eq x x=true) {f:α→α→Option Int} {c:α→α→Int} (hc:Cmp c) {ds:List α} (hl:ds.length≤1000000) (hf:∀ x∈ds,∀ y∈ds,f x y=some (c x y)) (hz:∀ x∈ds,∀ y∈ds,c x y=0→x=y):sortO eq f ds=some (srt (ltOf c) ds):=by
 unfold sortO
 have hb:Nat.ble ds.length 1000000=true:=by rw [Nat.ble_eq]; exact hl
 rw [okSort_of heq hc hf hz,hb]
 simp only [Bool.and_self,cond_true]
 have e:srt (fLt f) ds=srt (ltOf c) ds:=srt_congr fun x hx y hy=>by simp [fLt,hf x hx y hy,ltOf]
 rw [e]
def cF (a b:GArc):Int:=cmpI a.Feat b.Feat
theorem cF_ok:Cmp cF:=q8g.pull GArc.Feat
def srtA (l:List GArc):List GArc:=srt (ltOf cF) l
theorem q62 (l:List GArc):(srtA l).Perm l:=q77 _ l
def Dis (l:List GArc):Prop:=l.Pairwise (fun a b=>a.Feat≠b.Feat)
theorem Dis.perm {l m:List GArc} (h:l.Perm m) (hd:Dis l):Dis m:=(h.pairwise_iff (fun {a b} h=>Ne.symm h)).1 hd
theorem Dis.eq:∀ {l:List GArc},Dis l→∀ x∈l,∀ y∈l,x.Feat=y.Feat→x=y
 | [],_,x,hx,_,_,_=>by cases hx
 | a::l,h,x,hx,y,hy,e=>by
  obtain ⟨h1,h2⟩:=List.pairwise_cons.1 h
  rcases List.mem_cons.1 hx with e1 | hx'
  ·rcases List.mem_cons.1 hy with e2 | hy'
   ·rw [e1,e2]
   ·subst e1; exact absurd e (h1 y hy')
  ·rcases List.mem_cons.1 hy with e2 | hy'
   ·subst e2; exact absurd e.symm (h1 x hx')
   ·exact Dis.eq h2 x hx' y hy' e
def UpA (l:List GArc):Prop:=l.Pairwise (fun a b=>a.Feat<b.Feat)
theorem cF_le {a b:GArc}:cF a b≤0↔a.Feat≤b.Feat:=by
 unfold cF cmpI
 by_cases h1:a.Feat<b.Feat
 ·simp [h1]; omega
 ·by_cases h2:b.Feat<a.Feat
  ·simp [h1,h2]
  ·simp [h1,h2]; omega
theorem srtA_up {l:List GArc} (h:Dis l):UpA (srtA l):=by
 have h1:=srt_le cF_ok l
 have h2:Dis (srtA l):=h.perm (q62 l).symm
 refine (List.Pairwise.and h1 h2).imp fun {a b} h=>?_
 have:=cF_le.1 h.1
 have:=h.2
 omega
theorem upA_uniq:∀ {a b:List GArc},UpA a→UpA b→a.Perm b→a=b
 | [],b,_,_,h=>(List.nil_perm.1 h).symm
 | x::a,[],_,_,h=>by have:=h.length_eq; simp at this
 | x::a,y::b,ha,hb,h=>by
  obtain ⟨h1,h2⟩:=List.pairwise_cons.1 ha
  obtain ⟨h3,h4⟩:=List.pairwise_cons.1 hb
  have hxy:x=y:=by
   rcases List.mem_cons.1 (h.mem_iff.1 (List.mem_cons_self)) with hx | hx
   ·exact hx
   ·rcases List.mem_cons.1 (h.mem_iff.2 (List.mem_cons_self)) with hy | hy
    ·exact hy.symm
    ·have h5:=h1 y hy; have h6:=h3 x hx; omega
  subst hxy
  rw [upA_uniq h2 h4 (h.cons_inv)]
theorem srtA_of {l m:List GArc} (hd:Dis l) (h:m.Perm l) (hm:UpA m):srtA l=m:=upA_uniq (srtA_up hd) hm ((q62 l).trans h.symm)
theorem UpA.dis {l:List GArc} (h:UpA l):Dis l:=h.imp fun {a b} h=>by omega
theorem append_L {l:List GArc} (hl:l.length≤1000000):∀ (m i:Nat),l.length - i<m→i≤l.length→q11 l m i (l.take i)=some l
 | 0,i,hm,_=>by omega
 | m+1,i,hm,hi=>by
  unfold q11
  by_cases hlt:i<l.length
  ·obtain ⟨x,hx,_⟩:=q5r hlt
   have hn:((l.take i).length+1)*16≤140737488355328∧(l.take i).length+1≤140737488355328:=by rw [List.length_take]; omega
   simp only [dlt hlt,cond_true,q3k,hx,q0o,needO,hn,and_self,if_true,q28,wr1 hlt (show l.length≤9223372036854775807 by omega),← q6v hx]
   exact append_L hl m (i+1) (by omega) (by omega)
  ·simp only [dnlt hlt,cond_false,q27]
   rw [List.take_of_length_le (by omega)]
theorem byF_ok (n:Nat) (a b:GArc):q34 n a b=some (cF a b):=by simp [q34,cmpInt_eq,q0o,cF]
theorem eqA_refl (x:GArc):eqA x x=true:=by simp [eqA]
theorem sorted_ok {l:List GArc} (hl:l.length≤1000000) (hd:Dis l) {n:Nat} (hn:l.length<n):q1i n l=some (srtA l):=by
 have h1:=append_L hl n 0 (by omega) (by omega)
 rw [Int.ofNat_zero,List.take_zero] at h1
 have h2:=sortO_of eqA_refl (f:=fun a b=>q34 n a b) cF_ok hl (fun x _ y _=>byF_ok n x y) (fun x hx y hy h=>hd.eq x hx y hy (q9y.1 h))
 simp only [q1i,q2y,q2n,h1,q0o,h2,srtA]
structure NOk (x:GNode) (N:Nat):Prop where
 ty:0≤x.Typex
 dis:Dis x.Arcs
 arc:∀ a∈x.Arcs,0≤a.Feat∧0≤a.To∧a.To<N
def GOK (f:GFS):Prop:=∀ x∈f.Nodes,NOk x f.Nodes.length
def nd (f:GFS) (v:Int):GNode:=(f.Nodes[v.toNat]?).getD (GNode.mk 0 [])
def InG (f:GFS) (v:Int):Prop:=0≤v∧v<f.Nodes.length
theorem qad {f:GFS} {v:Int} (h:InG f v):idxO f.Nodes v=some (nd f v)∧nd f v∈f.Nodes:=by
 have hv:v.toNat<f.Nodes.length:=by have:=h.1; have:=h.2; omega
 have h1:0≤v∧v<(f.Nodes.length:Int):=h
 simp [idxO,h1,nd,hv]
def sar (f:GFS) (v:Int):List GArc:=srtA (nd f v).Arcs
theorem q59 {f:GFS} {v:Int} {a:GArc}:a∈sar f v↔a∈(nd f v).Arcs:=(q62 _).mem_iff
def dfsF (g:List Int→Int→List Int) (o:List Int) (a:GArc):List Int:=if a.To∈o then o else g o a.To
def dfs (f:GFS):Nat→List Int→Int→List Int
 | 0,o,_=>o
 | k+1,o,v=>(sar f v).foldl (dfsF (dfs f k)) (o++[v])
structure Seen (f:GFS) (o:List Int):Prop where
 nd:o.Nodup
 ing:∀ v∈o,InG f v
theorem q6c:∀ (N:Nat) {o:List Int},o.Nodup→(∀ v∈o,0≤v∧v<N)→o.length≤N
 | 0,o,_,h=>by
  cases o with
  | nil=>simp
  | cons v o=>have:=h v (by simp); omega
 | N+1,o,hn,h=>by
  have h1:=q6c N (o:=o.filter (fun v=>v != (N:Int))) (hn.filter _) fun v hv=>by
   rw [List.mem_filter] at hv
   have:=h v hv.1
   have h2:=hv.2
   simp at h2
   omega
  have h2:o.length≤(o.filter (fun v=>v != (N:Int))).length+1:=by
   clear h1 h
   induction o with
   | nil=>simp
   | cons x o ih =>
    obtain ⟨h3,h4⟩:=List.nodup_cons.1 hn
    have:=ih h4
    by_cases e:x=N
    ·subst e
     have:o.filter (fun v=>v != (N:Int))=o:=List.filter_eq_self.2 fun v hv=>by
      simp only [bne_iff_ne,ne_eq]
      intro e; subst e; exact h3 hv
     simp [this]
    ·have e2:(x != (N:Int))=true:=by simpa using e
     rw [List.filter_cons_of_pos (by simpa using e)]
     simp only [List.length_cons]
     omega
  omega
theorem Seen.len {f:GFS} {o:List Int} (h:Seen f o):o.length≤f.Nodes.length:=q6c _ h.nd h.ing
theorem Seen.snoc {f:GFS} {o:List Int} (h:Seen f o) {v:Int} (hv:InG f v) (hn:v ∉ o):Seen f (o++[v]):=⟨by
 rw [List.nodup_append]
 refine ⟨h.nd,by simp,?_⟩
 intro a ha b hb
 simp at hb
 subst hb
 intro e; subst e; exact hn ha,fun u hu=>by
 rcases List.mem_append.1 hu with hu | hu
 ·exact h.ing u hu
 ·simp at hu; subst hu; exact hv⟩
theorem dfs_ok {f:GFS} (hg:GOK f):∀ (k:Nat) (o:List Int) (v:Int),Seen f o→InG f v→v ∉ o→f.Nodes.length - o.length≤k →
  Seen f (dfs f k o v)∧(∃ t,dfs f k o v=o++v::t)∧(∀ u∈dfs f k o v,u ∉ o→∀ a∈(nd f u).Arcs,a.To∈dfs f k o v)∧(∀ k',f.Nodes.length - o.length≤k'→dfs f k' o v=dfs f k o v)
 | 0,o,v,hs,hv,hn,hk=>by
  have h1:=(hs.snoc hv hn).len
  simp only [List.length_append,List.length_cons,List.length_nil] at h1
  omega
 | k+1,o,v,hs,hv,hn,hk=>by
  have hs1:=hs.snoc hv hn
  have hl1:=hs1.len
  simp only [List.length_append,List.length_cons,List.length_nil] at hl1
  have key:∀ (l:List GArc),(∀ a∈l,InG f a.To)→∀ (p:List Int),Seen f p→(∃ t,p=o++v::t)→(∀ u∈p,u ∉ o→u≠v→∀ a∈(nd f u).Arcs,a.To∈p) →
    Seen f (l.foldl (dfsF (dfs f k)) p)∧(∃ t,l.foldl (dfsF (dfs f k)) p=p++t)∧(∀ u∈l.foldl (dfsF (dfs f k)) p,u ∉ o→u≠v→∀ a∈(nd f u).Arcs,a.To∈l.foldl (dfsF (dfs f k)) p)∧(∀ a∈l,a.To∈l.foldl (dfsF (dfs f k)) p) ∧
     (∀ k',f.Nodes.length - (o.length+1)≤k'→l.foldl (dfsF (dfs f k')) p=l.foldl (dfsF (dfs f k)) p):=by
   intro l
   induction l with
   | nil=>intro _ p hp hpre hcl; exact ⟨hp,⟨[],by simp⟩,hcl,⟨fun a ha=>(List.not_mem_nil ha).elim,fun _ _=>rfl⟩⟩
   | cons a l ih =>
    intro hl p hp hpre hcl
    have hla:=hl a (by simp)
    have hll:=fun b hb=>hl b (List.mem_cons_of_mem a hb)
    simp only [List.foldl_cons]
    by_cases hm:a.To∈p
    ·have e:∀ k',dfsF (dfs f k') p a=p:=fun k'=>by simp [dfsF,hm]
     simp only [e]
     obtain ⟨g1,⟨t,g2⟩,g3,g4,g5⟩:=ih hll p hp hpre hcl
     refine ⟨g1,⟨t,g2⟩,g3,fun b hb=>?_,g5⟩
     rcases List.mem_cons.1 hb with rfl | hb
     ·rw [g2]; exact List.mem_append_left _ hm
     ·exact g4 b hb
    ·have e:∀ k',dfsF (dfs f k') p a=dfs f k' p a.To:=fun k'=>by simp [dfsF,hm]
     obtain ⟨t0,hpre⟩:=hpre
     have hpl:o.length+1≤p.length:=by rw [hpre]; simp
     obtain ⟨d1,⟨t1,d2⟩,d3,d4⟩:=dfs_ok hg k p a.To hp hla hm (by omega)
     have hsub:∀ u∈p,u∈dfs f k p a.To:=fun u hu=>by rw [d2]; exact List.mem_append_left _ hu
     obtain ⟨g1,⟨t,g2⟩,g3,g4,g5⟩:=ih hll (dfs f k p a.To) d1 ⟨t0++a.To::t1,by rw [d2,hpre]; simp⟩ (fun u hu h1 h2 b hb=>by
      by_cases hup:u∈p
      ·exact hsub _ (hcl u hup h1 h2 b hb)
      ·exact d3 u hu hup b hb)
     rw [e k]
     refine ⟨g1,⟨a.To::t1++t,by rw [g2,d2]; simp⟩,g3,fun b hb=>?_,fun k' hk'=>?_⟩
     ·rcases List.mem_cons.1 hb with rfl | hb
      ·rw [g2,d2]; simp
      ·exact g4 b hb
     ·rw [e k',d4 k' (by omega)]; exact g5 k' hk'
  have hla:∀ a∈sar f v,InG f a.To:=fun a ha=>by
   have h1:=(hg _ (qad hv).2).arc a (q59.1 ha)
   exact ⟨h1.2.1,h1.2.2⟩
  obtain ⟨g1,⟨t,g2⟩,g3,g4,g5⟩:=key (sar f v) hla (o++[v]) hs1 ⟨[],rfl⟩ (fun u hu h1 h2=>by
   rcases List.mem_append.1 hu with hu | hu
   ·exact absurd hu h1
   ·simp at hu; exact absurd hu h2)
  refine ⟨g1,⟨t,by show (sar f v).foldl _ _=_; rw [g2]; simp⟩,fun u hu h1 a ha=>?_,fun k' hk'=>?_⟩
  ·by_cases e:u=v
   ·subst e; exact g4 a (q59.2 ha)
   ·exact g3 u hu h1 e a ha
  ·cases k' with
   | zero=>omega
   | succ k'=>exact g5 k' (by omega)
def ordG (f:GFS) (r:Int):List Int:=dfs f f.Nodes.length [] r
theorem Seen.nil (f:GFS):Seen f []:=⟨List.nodup_nil,fun v hv=>by cases hv⟩
structure OrdOk (f:GFS) (r:Int) (o:List Int):Prop where
 seen:Seen f o
 head:∃ t,o=r::t
 clo:∀ u∈o,∀ a∈(nd f u).Arcs,a.To∈o
theorem q6e {f:GFS} (hg:GOK f) {r:Int} (hr:InG f r):OrdOk f r (ordG f r)∧∀ k,f.Nodes.length≤k→dfs f k [] r=ordG f r:=by
 obtain ⟨h1,⟨t,h2⟩,h3,h4⟩:=dfs_ok hg f.Nodes.length [] r (Seen.nil f) hr (by simp) (by simp)
 exact ⟨⟨h1,⟨t,by have h5:=h2; rw [List.nil_append] at h5; exact h5⟩,fun u hu=>h3 u hu (by simp)⟩,fun k hk=>h4 k (by simpa using hk)⟩
def arcC (o:List Int) (a:GArc):GArc:=⟨a.Feat,(o.idxOf a.To:Int)⟩
def nodeC (f:GFS) (o:List Int) (v:Int):GNode:=⟨(nd f v).Typex,(sar f v).map (arcC o)⟩
def canonG (f:GFS) (r:Int):GFS:=⟨(ordG f r).map (nodeC f (ordG f r))⟩
structure Rep (w:MapL Int Int) (o:List Int):Prop where
 inv:MInv w
 get:∀ x,aget x w.es=if x∈o then some (o.idxOf x:Int) else none
theorem beqI (a b:Int):(a == b)=true↔a=b:=by simp
theorem Rep.nil:Rep (mNew:MapL Int Int) []:=⟨⟨by simp [mNew],by simp [mNew],by simp [mNew]⟩,fun x=>by simp [mNew,aget]⟩
theorem Rep.snoc {w:MapL Int Int} {o:List Int} (h:Rep w o) {v:Int} (hv:v ∉ o):Rep (mUpd (fun a b=>a == b) w v (o.length:Int)) (o++[v]):=by
 obtain ⟨h1,h2⟩:=upd_ok (eq:=fun a b:Int=>a == b) beqI h.inv v (o.length:Int)
 refine ⟨h1,fun x=>?_⟩
 rw [h2,h.get]
 by_cases e:x=v
 ·subst e
  simp [List.idxOf_append,hv]
 ·by_cases hx:x∈o
  ·simp [e,hx,List.idxOf_append]
  ·simp [e,hx]
theorem Rep.mget {w:MapL Int Int} {o:List Int} (h:Rep w o) (x:Int):mGet (fun a b=>a == b) w x=if x∈o then some (o.idxOf x:Int) else none:=by
 rw [mGet_get (eq:=fun a b:Int=>a == b) beqI,h.get]
theorem visit_ok {f:GFS} {k:Nat} (hg:GOK f) (hf:Small f k) (hk:k≤1000000):∀ (n:Nat) (o:List Int) (v:Int) (w:MapL Int Int),Seen f o→InG f v→v ∉ o→Rep w o→f.Nodes.length - o.length+k+2≤n →
  ∃ w',q16 n v f.Nodes o w=some (dfs f n o v,w')∧Rep w' (dfs f n o v)
 | 0,o,v,w,hs,hv,hn,hw,hfu=>by omega
 | n+1,o,v,w,hs,hv,hn,hw,hfu=>by
  have hs1:=hs.snoc hv hn
  have hl1:=hs1.len
  simp only [List.length_append,List.length_cons,List.length_nil] at hl1
  obtain ⟨hx,hxm⟩:=qad hv
  have hno:=hg _ hxm
  have hal:=hf.arcs _ hxm
  have hnl:=hf.nodes
  have hsl:(sar f v).length=(nd f v).Arcs.length:=(q62 _).length_eq
  have key:∀ (m i:Nat) (p:List Int) (w:MapL Int Int),(sar f v).length - i<m→i≤(sar f v).length→Seen f p→o.length+1≤p.length→Rep w p →
    ∃ w',q12 f.Nodes (sar f v) (q16 n) m i p w=some (((sar f v).drop i).foldl (dfsF (dfs f n)) p,w')∧Rep w' (((sar f v).drop i).foldl (dfsF (dfs f n)) p):=by
   intro m
   induction m with
   | zero=>intro i p w hm; omega
   | succ m ih =>
    intro i p w hm hi hp hpl hw
    unfold q12
    by_cases hlt:i<(sar f v).length
    ·obtain ⟨a,ha,ham⟩:=q5r hlt
     have h1:=hno.arc a (q59.1 ham)
     have hw1:IntKind.i64.wrap ((i:Int)+1)=((i+1:Nat):Int):=wr1 hlt (by omega)
     simp only [dlt hlt,cond_true,q3k,ha,q0o,hw.mget,drop_cons' ha,List.foldl_cons]
     by_cases hm2:a.To∈p
     ·simp only [hm2,if_true,Option.isSome_some,Bool.not_true,cond_false,q1n,hw1,dfsF]
      exact ih (i+1) p w (by omega) (by omega) hp hpl hw
     ·simp only [hm2,if_false,Option.isSome_none,Bool.not_false,cond_true,q1n,hw1,dfsF]
      obtain ⟨w1,g1,g2⟩:=visit_ok hg hf hk n p a.To w hp ⟨h1.2.1,h1.2.2⟩ hm2 hw (by omega)
      obtain ⟨d1,⟨t,d2⟩,_,_⟩:=dfs_ok hg n p a.To hp ⟨h1.2.1,h1.2.2⟩ hm2 (by omega)
      simp only [g1,q0o]
      exact ih (i+1) _ w1 (by omega) (by omega) d1 (by rw [d2]; simp; omega) g2
    ·rw [drop_nil' hlt]
     simp only [dnlt hlt,cond_false,q2m,List.foldl_nil]
     exact ⟨w,rfl,hw⟩
  have hneed:(o.length+1)*8≤140737488355328∧o.length+1≤140737488355328:=by omega
  obtain ⟨w',g1,g2⟩:=key n 0 (o++[v]) _ (by omega) (by omega) hs1 (by simp) (hw.snoc hn)
  rw [Int.ofNat_zero,List.drop_zero] at g1
  rw [List.drop_zero] at g2
  refine ⟨w',?_,g2⟩
  show q2q n (q16 n) v f.Nodes o w=_
  simp only [q2q,needO,hneed,and_self,if_true,hx,q0o,q24,sorted_ok (show (nd f v).Arcs.length≤1000000 by omega) hno.dis (show (nd f v).Arcs.length<n by omega)]
  exact g1
theorem set_at {α:Type} (a b:List α) (x y:α):(a++x::b).set a.length y=a++y::b:=by simp
theorem build_L2 {f:GFS} {o:List Int} {w:MapL Int Int} {z:Int} {l15:List GNode} {rc:Int→List GNode→Option GFS} {x:Int} {l:List GArc} (hl:l.length≤1000000) (hw:Rep w o) (hin:∀ a∈l,a.To∈o):∀ (m i:Nat),l.length - i<m→i≤l.length →
  q21 f (o,w) z l15 rc x l m i ((l.take i).map (arcC o)++l.drop i)=q2u f (o,w) z l15 rc x (l.map (arcC o))
 | 0,i,hm,_=>by omega
 | m+1,i,hm,hi=>by
  unfold q21
  by_cases hlt:i<l.length
  ·obtain ⟨a,ha,ham⟩:=q5r hlt
   have e1:(((l.take i).map (arcC o)++l.drop i))[i]? = some a:=by
    rw [List.getElem?_append_right (by simp; omega)]
    simp [show min i l.length=i by omega,ha]
   have e2:(((l.take i).map (arcC o)++l.drop i)).set (0+(i:Int).toNat) (arcC o a)=(l.take (i+1)).map (arcC o)++l.drop (i+1):=by
    rw [drop_cons' ha,q6v ha]
    have h3:((l.take i).map (arcC o)).length=i:=by simp; omega
    have:=set_at ((l.take i).map (arcC o)) (l.drop (i+1)) a (arcC o a)
    rw [h3] at this
    rw [Nat.zero_add,Int.toNat_natCast,this,List.map_append,List.map_cons,List.map_nil,List.append_assoc]
    rfl
   have e3:(⟨a.Feat,((if a.To∈o then some (o.idxOf a.To:Int) else none).getD 0)⟩:GArc)=arcC o a:=by simp [hin a ham,arcC]
   simp only [dlt hlt,cond_true,q3k,e1,q0o,hw.mget,e3,e2,wr1 hlt (show l.length≤9223372036854775807 by omega)]
   exact build_L2 hl hw hin m (i+1) (by omega) (by omega)
  ·simp only [dnlt hlt,cond_false]
   rw [List.take_of_length_le (by omega),List.drop_eq_nil_of_le (by omega),List.append_nil]
theorem build_L1 {f:GFS} {k:Nat} (hg:GOK f) (hf:Small f k) (hk:k≤1000000) {n:Nat} (hn:k+2≤n) {r:Int} {o:List Int} {w:MapL Int Int} (ho:OrdOk f r o) (hw:Rep w o):∀ (m i:Nat),o.length - i<m→i≤o.length →
  q1f f n (o,w) m i ((o.take i).map (nodeC f o)++List.replicate (o.length - i) (GNode.mk 0 []))=some ⟨o.map (nodeC f o)⟩
 | 0,i,hm,_=>by omega
 | m+1,i,hm,hi=>by
  have hol:=ho.seen.len
  have hnl:=hf.nodes
  unfold q1f
  by_cases hlt:i<o.length
  ·obtain ⟨v,hv,hvm⟩:=q5r hlt
   obtain ⟨hx,hxm⟩:=qad (ho.seen.ing v hvm)
   have hno:=hg _ hxm
   have hal:=hf.arcs _ hxm
   have hsl:(sar f v).length=(nd f v).Arcs.length:=(q62 _).length_eq
   have h2:=build_L2 (f:=f) (z:=(i:Int)) (l15:=(o.take i).map (nodeC f o)++List.replicate (o.length - i) (GNode.mk 0 [])) (rc:=q1f f n (o,w) m) (x:=v) (l:=sar f v) (by omega) hw (fun a ha=>ho.clo v hvm a (q59.1 ha)) n 0 (by omega) (by omega)
   rw [Int.ofNat_zero,List.take_zero,List.map_nil,List.nil_append,List.drop_zero] at h2
   have h3:((o.take i).map (nodeC f o)).length=i:=by simp; omega
   have e0:o.length - i=(o.length - (i+1))+1:=by omega
   have e1:idxV ((o.take i).map (nodeC f o)++List.replicate (o.length - i) (GNode.mk 0 [])) 0 ((o.length:Int).toNat) (i:Int)=some (GNode.mk 0 []):=by
    have hi:0≤(i:Int)∧(i:Int)<(((o.length:Int).toNat:Nat):Int):=by rw [Int.toNat_natCast]; omega
    rw [idxV,if_pos hi,Nat.zero_add,Int.toNat_natCast,List.getElem?_append_right (by omega),h3,e0]
    simp
   have e2:((o.take i).map (nodeC f o)++List.replicate (o.length - i) (GNode.mk 0 [])).set (i:Int).toNat (nodeC f o v)=(o.take (i+1)).map (nodeC f o)++List.replicate (o.length - (i+1)) (GNode.mk 0 []):=by
    rw [e0,List.replicate_succ,q6v hv]
    have:=set_at ((o.take i).map (nodeC f o)) (List.replicate (o.length - (i+1)) (GNode.mk 0 [])) (GNode.mk 0 []) (nodeC f o v)
    rw [h3] at this
    simp only [Int.toNat_natCast]
    rw [this]
    simp
   have e3:(⟨(nd f v).Typex,(sar f v).map (arcC o)⟩:GNode)=nodeC f o v:=rfl
   have hso:=sorted_ok (show (nd f v).Arcs.length≤1000000 by omega) hno.dis (show (nd f v).Arcs.length<n by omega)
   simp only [dlt hlt,cond_true,q3k,hv,hx,q0o,q24,hso]
   show q21 f (o,w) i _ _ v (sar f v) n 0 (sar f v)=_
   rw [h2]
   simp only [q2u,hx,q0o,e1,e3,wr1 hlt (show o.length≤9223372036854775807 by omega)]
   rw [e2]
   exact build_L1 hg hf hk hn ho hw m (i+1) (by omega) (by omega)
  ·have e:((o.length:Int)).toNat=((o.take i).map (nodeC f o)++List.replicate (o.length - i) (GNode.mk 0 [])).length:=by simp; omega
   simp only [dnlt hlt,cond_false,q3g,needO,← e,if_true]
   rw [List.take_of_length_le (by omega),show o.length - i=0 by omega]
   simp
theorem q8v {f:GFS} {k:Nat} (hg:GOK f) (hf:Small f k) (hk:k≤1000000) {r:Int} (hr:InG f r) {n:Nat} (hn:2*k+4≤n):q2o n f r=some (canonG f r):=by
 obtain ⟨ho,hst⟩:=q6e hg hr
 have hnl:=hf.nodes
 obtain ⟨w,g1,g2⟩:=visit_ok hg hf hk n [] r mNew (Seen.nil f) hr (by simp) Rep.nil (by simp; omega)
 rw [hst n (by omega)] at g1 g2
 have hol:=ho.seen.len
 have h1:=build_L1 hg hf hk (show k+2≤n by omega) ho g2 n 0 (by omega) (by omega)
 rw [Int.ofNat_zero,List.take_zero,List.map_nil,List.nil_append,Nat.sub_zero] at h1
 have hneed:0≤((ordG f r).length:Int)∧32*((ordG f r).length:Int).toNat≤281474976710656∧((ordG f r).length:Int)≤281474976710656:=by simp; omega
 simp only [q2o,g1,q0o,needO,hneed,and_self,if_true]
 rw [Int.toNat_natCast]
 exact h1
end Go.Proofs
end
section
namespace Go.Proofs
open Go Go.Rx Go.Vx Go.Shelf Go.Sort
set_option linter.unusedVariables false
set_option linter.unusedSimpArgs false
set_option maxRecDepth 10000
def errA (N:Nat) (seen:List Int):List GArc→Int
 | []=>0
 | a::l=>if a.Feat<0∨a.To<0∨a.To ≥ (N:Int) then 2 else if a.Feat∈seen then 4 else errA N (a.Feat::seen) l
def errN (N:Nat) (x:GNode):Int:=if x.Typex<0 then 2 else errA N [] x.Arcs
structure RepB (w:MapL Int Bool) (o:List Int):Prop where
 inv:MInv w
 get:∀ x,aget x w.es=if x∈o then some true else none
theorem RepB.nil:RepB (mNew:MapL Int Bool) []:=⟨⟨by simp [mNew],by simp [mNew],by simp [mNew]⟩,fun x=>by simp [mNew,aget]⟩
theorem RepB.cons {w:MapL Int Bool} {o:List Int} (h:RepB w o) (v:Int):RepB (mUpd (fun a b=>a == b) w v true) (v::o):=by
 obtain ⟨h1,h2⟩:=upd_ok (eq:=fun a b:Int=>a == b) beqI h.inv v true
 refine ⟨h1,fun x=>?_⟩
 rw [h2,h.get]
 by_cases e:x=v
 ·simp [e]
 ·by_cases hx:x∈o<;>simp [e,hx]
theorem RepB.mget {w:MapL Int Bool} {o:List Int} (h:RepB w o) (x:Int):(mGet (fun a b=>a == b) w x).getD false=decide (x∈o):=by
 rw [mGet_get (eq:=fun a b:Int=>a == b) beqI,h.get]
 by_cases hx:x∈o<;>simp [hx]
theorem nodeErr_L {x:GNode} {N:Nat} (hl:x.Arcs.length≤1000000):∀ (m i:Nat) (w:MapL Int Bool) (o:List Int),x.Arcs.length - i<m→i≤x.Arcs.length→RepB w o →
  q2h x N m i w=some (errA N o (x.Arcs.drop i))
 | 0,i,w,o,hm,_,_=>by omega
 | m+1,i,w,o,hm,hi,hw=>by
  unfold q2h
  by_cases hlt:i<x.Arcs.length
  ·obtain ⟨a,ha,_⟩:=q5r hlt
   simp only [dlt hlt,cond_true,q3k,ha,q0o,drop_cons' ha,errA,hw.mget,wr1 hlt (show x.Arcs.length≤9223372036854775807 by omega)]
   by_cases h1:a.Feat<0
   ·simp [h1,q0o]
   ·by_cases h2:a.To<0
    ·simp [h1,h2,q0o]
    ·by_cases h3:a.To ≥ (N:Int)
     ·simp [h1,h2,h3,q0o]
     ·simp only [h1,h2,h3,decide_false,cond_false,q0o,or_self,if_false]
      by_cases h4:a.Feat∈o
      ·simp [h4]
      ·simp only [h4,decide_false,cond_false,if_false]
       exact nodeErr_L hl m (i+1) _ _ (by omega) (by omega) (hw.cons _)
  ·simp only [dnlt hlt,cond_false,q3i,drop_nil' hlt,errA]
theorem nodeErr_ok {x:GNode} {N n:Nat} (hl:x.Arcs.length≤1000000) (hn:x.Arcs.length<n):q35 n x N=some (errN N x):=by
 have h:=nodeErr_L (N:=N) hl n 0 mNew [] (by omega) (by omega) RepB.nil
 rw [Int.ofNat_zero,List.drop_zero] at h
 simp only [q35,h,errN]
 by_cases h1:x.Typex<0<;>simp [h1]
theorem errA_zero {N:Nat}:∀ {l:List GArc} {seen:List Int},errA N seen l=0↔(∀ a∈l,0≤a.Feat∧0≤a.To∧a.To<N)∧Dis l∧∀ a∈l,a.Feat ∉ seen
 | [],seen=>by simp [errA,Dis]
 | a::l,seen=>by
  simp only [errA]
  by_cases h1:a.Feat<0∨a.To<0∨a.To ≥ (N:Int)
  ·simp only [h1,if_true]
   refine ⟨fun h=>absurd h (by decide),fun h=>?_⟩
   have:=h.1 a (by simp)
   omega
  ·by_cases h2:a.Feat∈seen
   ·simp only [h1,h2,if_true,if_false]
    exact ⟨fun h=>absurd h (by decide),fun h=>absurd h2 (h.2.2 a (by simp))⟩
   ·simp only [h1,h2,if_false]
    rw [errA_zero (l:=l)]
    unfold Dis
    rw [List.pairwise_cons]
    constructor
    ·rintro ⟨g1,g2,g3⟩
     refine ⟨fun b hb=>?_,⟨fun b hb=>?_,g2⟩,fun b hb=>?_⟩
     ·rcases List.mem_cons.1 hb with rfl | hb
      ·omega
      ·exact g1 b hb
     ·have:=g3 b hb
      simp only [List.mem_cons,not_or] at this
      exact fun e=>this.1 e.symm
     ·rcases List.mem_cons.1 hb with rfl | hb
      ·exact h2
      ·have:=g3 b hb
       simp only [List.mem_cons,not_or] at this
       exact this.2
    ·rintro ⟨g1,⟨g2,g3⟩,g4⟩
     refine ⟨fun b hb=>g1 b (by simp [hb]),g3,fun b hb=>?_⟩
     simp only [List.mem_cons,not_or]
     exact ⟨fun e=>g2 b hb e.symm,g4 b (by simp [hb])⟩
theorem qa1 {N:Nat} {x:GNode}:errN N x=0↔NOk x N:=by
 unfold errN
 by_cases h:x.Typex<0
 ·simp only [h,if_true]
  exact ⟨fun h=>absurd h (by decide),fun h'=>by have:=h'.ty; omega⟩
 ·simp only [h,if_false]
  rw [errA_zero]
  exact ⟨fun ⟨h1,h2,_⟩=>⟨by omega,h2,h1⟩,fun h=>⟨h.arc,h.dis,fun _ _=>by simp⟩⟩
def errL (N:Nat):List GNode→Int
 | []=>0
 | x::l=>if errN N x≠0 then errN N x else errL N l
theorem qa0 {N:Nat}:∀ {l:List GNode},errL N l=0↔∀ x∈l,NOk x N
 | []=>by simp [errL]
 | x::l=>by
  simp only [errL]
  by_cases h:errN N x=0
  ·simp only [h,ne_eq,not_true,if_false,qa0 (l:=l),List.mem_cons,forall_eq_or_imp,qa1.1 h,true_and]
  ·simp only [h,ne_eq,not_false_eq_true,if_true,List.mem_cons,forall_eq_or_imp,false_iff,not_and]
   exact fun h2=>absurd (qa1.2 h2) h
def errG (f:GFS):Int:=if f.Nodes.length=0 then 1 else if f.Nodes.length > 4096 then 7 else errL f.Nodes.length f.Nodes
theorem Canon_L {f:GFS} {k:Nat} (hf:Small f k) (hk:k≤1000000) {n:Nat} (hn:2*k+4≤n) (h0:0<f.Nodes.length) (hfull:errL f.Nodes.length f.Nodes=0→GOK f):∀ (m i:Nat),f.Nodes.length - i<m→i≤f.Nodes.length→(∀ x∈f.Nodes.take i,NOk x f.Nodes.length) →
  q3d f n m i=some (if errL f.Nodes.length (f.Nodes.drop i)=0 then (canonG f 0,0) else (⟨[]⟩,errL f.Nodes.length (f.Nodes.drop i)))
 | 0,i,hm,_,_=>by omega
 | m+1,i,hm,hi,hok=>by
  have hnl:=hf.nodes
  unfold q3d
  by_cases hlt:i<f.Nodes.length
  ·obtain ⟨x,hx,hxm⟩:=q5r hlt
   have hal:=hf.arcs x hxm
   simp only [dlt hlt,cond_true,q3k,hx,q0o,nodeErr_ok (N:=f.Nodes.length) (show x.Arcs.length≤1000000 by omega) (show x.Arcs.length<n by omega),drop_cons' hx,errL,wr1 hlt (show f.Nodes.length≤9223372036854775807 by omega)]
   by_cases h:errN f.Nodes.length x=0
   ·simp only [h,bne_self_eq_false,cond_false,ne_eq,not_true,if_false]
    refine Canon_L hf hk hn h0 hfull m (i+1) (by omega) (by omega) fun y hy=>?_
    rw [q6v hx] at hy
    rcases List.mem_append.1 hy with hy | hy
    ·exact hok y hy
    ·simp at hy; subst hy; exact qa1.1 h
   ·have hb:(errN f.Nodes.length x != 0)=true:=by simpa using h
    simp only [hb,cond_true,h,ne_eq,not_false_eq_true,if_true,if_false]
  ·simp only [dnlt hlt,cond_false,q4s,drop_nil' hlt,errL,if_true]
   have hg:GOK f:=fun x hx=>hok x (by rw [List.take_of_length_le (by omega)]; exact hx)
   rw [q8v hg hf hk ⟨by omega,by omega⟩ hn,q0o]
theorem Canon_ok {f:GFS} {k:Nat} (hf:Small f k) (hk:k≤1000000) {n:Nat} (hn:2*k+4≤n):q37 n f=some (if errG f=0 then (canonG f 0,0) else (⟨[]⟩,errG f)):=by
 have hnl:=hf.nodes
 unfold q37 errG
 by_cases h0:f.Nodes.length=0
 ·simp [h0]
 ·have e0:((f.Nodes.length:Int) == 0)=false:=by simp; intro h; simp [h] at h0
  simp only [e0,cond_false,h0,if_false]
  by_cases h1:f.Nodes.length > 4096
  ·have:(f.Nodes.length:Int) > 4096:=by omega
   simp [h1,this]
  ·have:¬ (f.Nodes.length:Int) > 4096:=by omega
   simp only [h1,this,decide_false,cond_false,if_false]
   have h:=Canon_L hf hk hn (by omega) (fun h=>qa0.1 h) n 0 (by omega) (by omega) (by simp)
   rw [Int.ofNat_zero,List.drop_zero] at h
   exact h
theorem errG_zero {f:GFS}:errG f=0↔f.Nodes.length≠0∧f.Nodes.length≤4096∧GOK f:=by
 unfold errG
 by_cases h0:f.Nodes.length=0
 ·simp [h0]
 ·by_cases h1:f.Nodes.length > 4096
  ·simp [h0,h1]; intro _; omega
  ·simp only [h0,h1,if_false,qa0]
   exact ⟨fun h=>⟨by simpa using h0,by omega,h⟩,fun h=>h.2.2⟩
structure Sim (f g:GFS) (π:Int→Int) (S:Int→Prop):Prop where
 clo:∀ v,S v→∀ a∈sar f v,S a.To
 inj:∀ u v,S u→S v→π u=π v→u=v
 ty:∀ v,S v→(nd g (π v)).Typex=(nd f v).Typex
 arc:∀ v,S v→sar g (π v)=(sar f v).map fun a=>⟨a.Feat,π a.To⟩
theorem Sim.dfs {f g:GFS} {π:Int→Int} {S:Int→Prop} (h:Sim f g π S):∀ (k:Nat) (o:List Int) (v:Int),S v→(∀ u∈o,S u)→dfs g k (o.map π) (π v)=(Go.Proofs.dfs f k o v).map π∧∀ u∈Go.Proofs.dfs f k o v,S u
 | 0,o,v,hv,ho=>⟨rfl,ho⟩
 | k+1,o,v,hv,ho=>by
  have key:∀ (l:List GArc) (p:List Int),(∀ a∈l,S a.To)→(∀ u∈p,S u) →
    (l.map fun a=>(⟨a.Feat,π a.To⟩:GArc)).foldl (dfsF (Go.Proofs.dfs g k)) (p.map π)=(l.foldl (dfsF (Go.Proofs.dfs f k)) p).map π∧∀ u∈l.foldl (dfsF (Go.Proofs.dfs f k)) p,S u:=by
   intro l
   induction l with
   | nil=>intro p _ hp; exact ⟨rfl,hp⟩
   | cons a l ih =>
    intro p hl hp
    have hla:=hl a (by simp)
    simp only [List.map_cons,List.foldl_cons]
    have hm:π a.To∈p.map π↔a.To∈p:=by
     rw [List.mem_map]
     exact ⟨fun ⟨u,hu,e⟩=>by rw [← h.inj u a.To (hp u hu) hla e]; exact hu,fun hu=>⟨_,hu,rfl⟩⟩
    by_cases hin:a.To∈p
    ·have e1:dfsF (Go.Proofs.dfs g k) (p.map π) (⟨a.Feat,π a.To⟩:GArc)=p.map π:=by simp only [dfsF,hm.2 hin,if_true]
     have e2:dfsF (Go.Proofs.dfs f k) p a=p:=by simp only [dfsF,hin,if_true]
     rw [e1,e2]
     exact ih p (fun b hb=>hl b (List.mem_cons_of_mem _ hb)) hp
    ·have e1:dfsF (Go.Proofs.dfs g k) (p.map π) (⟨a.Feat,π a.To⟩:GArc)=Go.Proofs.dfs g k (p.map π) (π a.To):=by simp only [dfsF,mt hm.1 hin,if_false]
     have e2:dfsF (Go.Proofs.dfs f k) p a=Go.Proofs.dfs f k p a.To:=by simp only [dfsF,hin,if_false]
     obtain ⟨g1,g2⟩:=Sim.dfs h k p a.To hla hp
     rw [e1,e2,g1]
     exact ih _ (fun b hb=>hl b (List.mem_cons_of_mem _ hb)) g2
  have ho1:∀ u∈o++[v],S u:=fun u hu=>by
   rcases List.mem_append.1 hu with hu | hu
   ·exact ho u hu
   ·simp at hu; subst hu; exact hv
  have:=key (sar f v) (o++[v]) (h.clo v hv) ho1
  refine ⟨?_,this.2⟩
  show (sar g (π v)).foldl _ (o.map π++[π v])=_
  have e:=this.1
  simp only [List.map_append,List.map_cons,List.map_nil] at e
  rw [h.arc v hv]
  exact e
theorem idxOf_map {π:Int→Int}:∀ {o:List Int} {x:Int},(∀ u∈o,π u=π x→u=x)→(o.map π).idxOf (π x)=o.idxOf x
 | [],x,_=>rfl
 | u::o,x,h=>by
  simp only [List.map_cons,List.idxOf_cons]
  have ih:=idxOf_map (o:=o) (x:=x) fun w hw=>h w (List.mem_cons_of_mem _ hw)
  by_cases e:u=x
  ·subst e; simp
  ·have e2:¬ π u=π x:=fun h2=>e (h u (by simp) h2)
   have e3:(u == x)=false:=by simpa using e
   have e4:(π u == π x)=false:=by simpa using e2
   simp only [e3,e4,cond_false,ih]
theorem Sim.canon {f g:GFS} {π:Int→Int} {S:Int→Prop} (h:Sim f g π S) (hf:GOK f) (hg:GOK g) {r:Int} (hr:InG f r) (hS:S r) (hr':InG g (π r)):ordG g (π r)=(ordG f r).map π∧canonG g (π r)=canonG f r:=by
 obtain ⟨o1,s1⟩:=q6e hf hr
 obtain ⟨o2,s2⟩:=q6e hg hr'
 have h1:=h.dfs (f.Nodes.length+g.Nodes.length) [] r hS (by simp)
 rw [List.map_nil,s1 _ (by omega),s2 _ (by omega)] at h1
 refine ⟨h1.1,?_⟩
 unfold canonG
 rw [h1.1,List.map_map]
 congr 1
 refine List.map_congr_left fun v hv=>?_
 have hSv:=h1.2 v hv
 simp only [Function.comp,nodeC,h.ty v hSv,h.arc v hSv,List.map_map]
 congr 1
 refine List.map_congr_left fun a ha=>?_
 have hSa:=h.clo v hSv a ha
 simp only [Function.comp,arcC]
 rw [idxOf_map fun u hu e=>h.inj u a.To (h1.2 u hu) hSa e]
theorem srtA_id {l:List GArc} (h:UpA l):srtA l=l:=srtA_of h.dis (List.Perm.refl _) h
theorem q7y {o:List Int} {v:Int} (h:v∈o):o[o.idxOf v]? = some v:=by
 have h1:=List.idxOf_lt_length_of_mem h
 rw [List.getElem?_eq_getElem h1,List.getElem_idxOf]
structure CanOk (f:GFS) (r:Int) (c:GFS):Prop where
 len:c.Nodes.length=(ordG f r).length
 le:c.Nodes.length≤f.Nodes.length
 pos:0<c.Nodes.length
 ok:GOK c
 at_:∀ v∈ordG f r,nd c ((ordG f r).idxOf v:Int)=nodeC f (ordG f r) v
 up:∀ x∈c.Nodes,UpA x.Arcs
 sim:Sim f c (fun v=>((ordG f r).idxOf v:Int)) (fun v=>v∈ordG f r)
theorem up_map {o:List Int} {l:List GArc} (h:UpA l):UpA (l.map (arcC o)):=by
 unfold UpA at *
 rw [List.pairwise_map]
 exact h
theorem q5v {f:GFS} (hf:GOK f) {r:Int} (hr:InG f r):CanOk f r (canonG f r):=by
 obtain ⟨o1,_⟩:=q6e hf hr
 have hat:∀ v∈ordG f r,nd (canonG f r) ((ordG f r).idxOf v:Int)=nodeC f (ordG f r) v:=fun v hv=>by
  simp only [nd,canonG,Int.toNat_natCast,List.getElem?_map,q7y hv,Option.map_some,Option.getD_some]
 have hin:∀ v∈ordG f r,InG f v:=o1.seen.ing
 have hup:∀ v∈ordG f r,UpA (nodeC f (ordG f r) v).Arcs:=fun v hv=>up_map (srtA_up (hf _ (qad (hin v hv)).2).dis)
 refine ⟨by simp [canonG],by simp only [canonG,List.length_map]; exact o1.seen.len,?_,?_,hat,?_,?_⟩
 ·obtain ⟨t,ht⟩:=o1.head
  simp [canonG,ht]
 ·intro x hx
  simp only [canonG,List.mem_map] at hx
  obtain ⟨v,hv,rfl⟩:=hx
  have hn:=hf _ (qad (hin v hv)).2
  refine ⟨hn.ty,(hup v hv).dis,fun a ha=>?_⟩
  simp only [nodeC,List.mem_map] at ha
  obtain ⟨b,hb,rfl⟩:=ha
  have hb':=q59.1 hb
  refine ⟨(hn.arc b hb').1,by simp only [arcC]; omega,?_⟩
  have:=List.idxOf_lt_length_of_mem (o1.clo v hv b hb')
  simp only [arcC,canonG,List.length_map]
  omega
 ·intro x hx
  simp only [canonG,List.mem_map] at hx
  obtain ⟨v,hv,rfl⟩:=hx
  exact hup v hv
 ·refine ⟨fun v hv a ha=>o1.clo v hv a (q59.1 ha),fun u v hu hv e=>?_,fun v hv=>?_,fun v hv=>?_⟩
  ·have h1:=q7y hu
   have h2:=q7y hv
   have e':(ordG f r).idxOf u=(ordG f r).idxOf v:=Int.ofNat.inj e
   rw [e',h2] at h1
   exact (Option.some.inj h1).symm
  ·simp only [hat v hv,nodeC]
  ·simp only [sar,hat v hv]
   rw [srtA_id (hup v hv)]
   rfl
theorem canon_idem {f:GFS} (hf:GOK f) {r:Int} (hr:InG f r):canonG (canonG f r) 0=canonG f r∧ordG (canonG f r) 0=(ordG f r).map fun v=>((ordG f r).idxOf v:Int):=by
 have hc:=q5v hf hr
 obtain ⟨o1,_⟩:=q6e hf hr
 obtain ⟨t,ht⟩:=o1.head
 have hrm:r∈ordG f r:=by rw [ht]; simp
 have h0:((ordG f r).idxOf r:Int)=0:=by rw [ht]; simp
 have:=hc.sim.canon hf hc.ok hr hrm ⟨by omega,by have:=hc.pos; simp only [h0]; omega⟩
 simp only [h0] at this
 exact ⟨this.2,this.1⟩
theorem Small.canon {f:GFS} {k:Nat} (hs:Small f k) (hf:GOK f) {r:Int} (hr:InG f r):Small (canonG f r) k:=by
 have hc:=q5v hf hr
 obtain ⟨o1,_⟩:=q6e hf hr
 refine ⟨Nat.le_trans hc.le hs.nodes,fun x hx=>?_⟩
 simp only [canonG,List.mem_map] at hx
 obtain ⟨v,hv,rfl⟩:=hx
 simp only [nodeC,List.length_map,sar]
 rw [(q62 _).length_eq]
 exact hs.arcs _ (qad (o1.seen.ing v hv)).2
end Go.Proofs
end
section
namespace Go.Proofs
open Go Go.Rx Go.Vx Go.Shelf Go.Sort
set_option linter.unusedVariables false
set_option linter.unusedSimpArgs false
set_option maxRecDepth 10000
def idN (N:Nat):List Int:=(List.range N).map fun (i:Nat)=>(i:Int)
theorem idN_get {N i:Nat} (h:i<N):(idN N)[i]? = some (i:Int):=by simp [idN,h]
end Go.Proofs
end
section
namespace Go.Proofs
open Go Go.Rx Go.Vx Go.Shelf Go.Sort
set_option linter.unusedVariables false
set_option linter.unusedSimpArgs false
set_option maxRecDepth 10000
inductive Rch (f:GFS):Int→Int→Prop
 | one {u:Int} {a:GArc}:a∈(nd f u).Arcs→Rch f u a.To
 | snoc {u v:Int} {a:GArc}:Rch f u v→a∈(nd f v).Arcs→Rch f u a.To
theorem Rch.trans {f:GFS} {u v w:Int} (h:Rch f u v) (h':Rch f v w):Rch f u w:=by
 induction h' with
 | one ha=>exact .snoc h ha
 | snoc _ ha ih=>exact .snoc ih ha
def Cyc (f:GFS):Prop:=∃ u,InG f u∧Rch f u u
def Par (f:GFS) (s t:List Int):Prop:=∀ t1 u t2,t=t1++u::t2→∃ w∈s++t1,∃ a∈(nd f w).Arcs,a.To=u
theorem Par.nil (f:GFS) (s:List Int):Par f s []:=fun t1 u t2 h=>by simp at h
theorem Par.cons {f:GFS} {s t:List Int} {x:Int} (hx:∃ w∈s,∃ a∈(nd f w).Arcs,a.To=x) (h:Par f (s++[x]) t):Par f s (x::t):=fun t1 u t2 e=>by
 cases t1 with
 | nil =>
  simp only [List.nil_append,List.cons.injEq] at e
  obtain ⟨rfl,rfl⟩:=e
  simpa using hx
 | cons y t1 =>
  simp only [List.cons_append,List.cons.injEq] at e
  obtain ⟨rfl,rfl⟩:=e
  obtain ⟨w,hw,g⟩:=h t1 u t2 rfl
  exact ⟨w,by simpa using hw,g⟩
theorem Par.app {f:GFS}:∀ {t s t':List Int},Par f s t→Par f (s++t) t'→Par f s (t++t')
 | [],s,t',_,h'=>by simpa using h'
 | x::t,s,t',h,h'=>by
  have h1:=h [] x t rfl
  rw [List.append_nil] at h1
  refine Par.cons h1 (Par.app (t:=t) (fun t1 u t2 e=>?_) (by simpa using h'))
  obtain ⟨w,hw,g⟩:=h (x::t1) u t2 (by rw [e]; rfl)
  exact ⟨w,by simpa using hw,g⟩
theorem dfs_par {f:GFS} (hg:GOK f):∀ (k:Nat) (o:List Int) (v:Int),Seen f o→InG f v→v ∉ o→f.Nodes.length - o.length≤k →
  ∃ t,dfs f k o v=o++v::t∧Par f (o++[v]) t∧∀ u∈t,Rch f v u
 | 0,o,v,hs,hv,hn,hk=>by
  have h1:=(hs.snoc hv hn).len
  simp only [List.length_append,List.length_cons,List.length_nil] at h1
  omega
 | k+1,o,v,hs,hv,hn,hk=>by
  have hs1:=hs.snoc hv hn
  have hl1:=hs1.len
  simp only [List.length_append,List.length_cons,List.length_nil] at hl1
  have key:∀ (l:List GArc),(∀ a∈l,a∈(nd f v).Arcs∧InG f a.To)→∀ (t0:List Int),Seen f (o++v::t0)→Par f (o++[v]) t0→(∀ u∈t0,Rch f v u) →
    ∃ t,l.foldl (dfsF (dfs f k)) (o++v::t0)=o++v::t∧Par f (o++[v]) t∧∀ u∈t,Rch f v u:=by
   intro l
   induction l with
   | nil=>intro _ t0 _ h1 h2; exact ⟨t0,rfl,h1,h2⟩
   | cons a l ih =>
    intro hl t0 hp h1 h2
    have hla:=hl a (by simp)
    have hll:=fun b hb=>hl b (List.mem_cons_of_mem a hb)
    simp only [List.foldl_cons]
    by_cases hm:a.To∈o++v::t0
    ·have e:dfsF (dfs f k) (o++v::t0) a=o++v::t0:=by simp only [dfsF,hm,if_true]
     rw [e]
     exact ih hll t0 hp h1 h2
    ·have e:dfsF (dfs f k) (o++v::t0) a=dfs f k (o++v::t0) a.To:=by simp only [dfsF,hm,if_false]
     have hlen:(o++v::t0).length=o.length+1+t0.length:=by simp; omega
     obtain ⟨t1,d1,d2,d3⟩:=dfs_par hg k (o++v::t0) a.To hp hla.2 hm (by omega)
     obtain ⟨q1,_⟩:=dfs_ok hg k (o++v::t0) a.To hp hla.2 hm (by omega)
     rw [e,d1]
     rw [d1] at q1
     have e2:o++v::t0++a.To::t1=o++v::(t0++a.To::t1):=by simp
     rw [e2] at q1 ⊢
     refine ih hll (t0++a.To::t1) q1 (h1.app (Par.cons ⟨v,by simp,a,hla.1,rfl⟩ (by simpa using d2))) fun u hu=>?_
     rcases List.mem_append.1 hu with hu | hu
     ·exact h2 u hu
     ·rcases List.mem_cons.1 hu with rfl | hu
      ·exact .one hla.1
      ·exact (Rch.one hla.1).trans (d3 u hu)
  obtain ⟨t,g1,g2,g3⟩:=key (sar f v) (fun a ha=>⟨q59.1 ha,by
   have h1:=(hg _ (qad hv).2).arc a (q59.1 ha)
   exact ⟨h1.2.1,h1.2.2⟩⟩) [] hs1 (Par.nil _ _) (by simp)
  exact ⟨t,g1,g2,g3⟩
theorem ordG_par {f:GFS} (hg:GOK f) {r:Int} (hr:InG f r):∃ t,ordG f r=r::t∧Par f [r] t∧∀ u∈t,Rch f r u:=by
 obtain ⟨t,h1,h2,h3⟩:=dfs_par hg f.Nodes.length [] r (Seen.nil f) hr (by simp) (by simp)
 exact ⟨t,h1,h2,h3⟩
inductive Topo (f:GFS):List Int→Prop
 | nil:Topo f []
 | snoc {l:List Int} {v:Int}:Topo f l→v ∉ l→(∀ a∈(nd f v).Arcs,a.To∈l)→Topo f (l++[v])
theorem Topo.clo {f:GFS} {l:List Int} (h:Topo f l):∀ u∈l,∀ a∈(nd f u).Arcs,a.To∈l:=by
 induction h with
 | nil=>intro u hu; cases hu
 | snoc h1 h2 h3 ih =>
  intro u hu a ha
  rcases List.mem_append.1 hu with hu | hu
  ·exact List.mem_append_left _ (ih u hu a ha)
  ·simp at hu; subst hu; exact List.mem_append_left _ (h3 a ha)
theorem rch_in {f:GFS} {l:List Int} {v w:Int} (h1:∀ a∈(nd f v).Arcs,a.To∈l) (h2:∀ u∈l,∀ a∈(nd f u).Arcs,a.To∈l) (h:Rch f v w):w∈l:=by
 induction h with
 | one ha=>exact h1 _ ha
 | snoc _ ha ih=>exact h2 _ ih _ ha
theorem Topo.acyc {f:GFS} {l:List Int} (h:Topo f l):∀ u∈l,¬ Rch f u u:=by
 induction h with
 | nil=>intro u hu; cases hu
 | snoc h1 h2 h3 ih =>
  intro u hu hr
  rcases List.mem_append.1 hu with hu | hu
  ·exact ih u hu hr
  ·simp at hu; subst hu; exact h2 (rch_in h3 h1.clo hr)
def bat (l:List Bool) (v:Int):Bool:=(l[v.toNat]?).getD false
theorem q8u {N:Nat} {l:List Bool} (h:l.length=N) {v:Int} (hv:0≤v∧v<N):idxV l 0 N v=some (bat l v):=by
 have h1:v.toNat<l.length:=by omega
 rw [idxV,if_pos hv,Nat.zero_add]
 simp [bat,h1]
theorem q9u {N:Nat} {l:List Bool} (h:l.length=N) {u v:Int} (hu:0≤u∧u<N) (hv:0≤v∧v<N) (b:Bool):bat (l.set v.toNat b) u=if u=v then b else bat l u:=by
 have h1:u.toNat<l.length:=by omega
 by_cases e:u=v
 ·subst e; simp [bat,h1]
 ·rw [if_neg e]
  simp only [bat]
  rw [List.getElem?_set_ne (by omega)]
structure CSt (f:GFS) (op dn:List Bool) (pth fin:List Int):Prop where
 lo:op.length=f.Nodes.length
 ld:dn.length=f.Nodes.length
 op:∀ u,InG f u→(bat op u=true↔u∈pth)
 dn:∀ u,InG f u→(bat dn u=true↔u∈fin)
 topo:Topo f fin
 nd:(pth++fin).Nodup
 ing:∀ u∈pth++fin,InG f u
theorem CSt.bound {f:GFS} {op dn:List Bool} {pth fin:List Int} (h:CSt f op dn pth fin) {v:Int} (hv:InG f v) (h1:v ∉ pth) (h2:v ∉ fin):pth.length+fin.length+1≤f.Nodes.length:=by
 have:=q6c f.Nodes.length (o:=v::(pth++fin)) (List.nodup_cons.2 ⟨by simp [h1,h2],h.nd⟩) (fun u hu=>by
  rcases List.mem_cons.1 hu with rfl | hu
  ·exact hv
  ·exact h.ing u hu)
 simp only [List.length_cons,List.length_append] at this
 omega
theorem cyc_visit {f:GFS} {k:Nat} (hg:GOK f) (hf:Small f k) (hk:k≤1000000):∀ (n:Nat) (v:Int) (op dn:List Bool) (pth fin:List Int),CSt f op dn pth fin→InG f v→v ∉ pth→v ∉ fin→(∀ u∈pth,Rch f u v)→f.Nodes.length - (pth.length+fin.length)+k+2≤n →
  ∃ b op' dn',q1y n v f.Nodes.length f.Nodes f.Nodes.length op dn=some (b,op',dn')∧(b=true→Cyc f)∧(b=false→∃ fin',CSt f op' dn' pth fin'∧v∈fin'∧(∀ u∈fin,u∈fin')∧fin.length≤fin'.length)
 | 0,v,op,dn,pth,fin,hs,hv,h1,h2,hr,hfu=>by omega
 | n+1,v,op,dn,pth,fin,hs,hv,h1,h2,hr,hfu=>by
  have hbd:=hs.bound hv h1 h2
  obtain ⟨hx,hxm⟩:=qad hv
  have hno:=hg _ hxm
  have hal:=hf.arcs _ hxm
  have hnl:=hf.nodes
  have hin:∀ a∈(Go.Proofs.nd f v).Arcs,InG f a.To:=fun a ha=>⟨(hno.arc a ha).2.1,(hno.arc a ha).2.2⟩
  have key:∀ (m i:Nat) (op dn:List Bool) (fin':List Int),(Go.Proofs.nd f v).Arcs.length - i<m→i≤(Go.Proofs.nd f v).Arcs.length→CSt f op dn (v::pth) fin'→(∀ u∈fin,u∈fin')→fin.length≤fin'.length→(∀ a∈(Go.Proofs.nd f v).Arcs.take i,a.To∈fin') →
    ∃ b op' dn',q23 v f.Nodes.length f.Nodes f.Nodes.length (Go.Proofs.nd f v) (q1y n) m i op dn=some (b,op',dn')∧(b=true→Cyc f)∧(b=false→∃ fin',CSt f op' dn' pth fin'∧v∈fin'∧(∀ u∈fin,u∈fin')∧fin.length≤fin'.length):=by
   intro m
   induction m with
   | zero=>intro i op dn fin' hm; omega
   | succ m ih =>
    intro i op dn fin' hm hi hc hsub hle hdone
    unfold q23
    by_cases hlt:i<(Go.Proofs.nd f v).Arcs.length
    ·obtain ⟨a,ha,ham⟩:=q5r hlt
     have hia:=hin a ham
     have hw1:IntKind.i64.wrap ((i:Int)+1)=((i+1:Nat):Int):=wr1 hlt (by omega)
     have hd':∀ fin'':List Int,(∀ u∈fin',u∈fin'')→a.To∈fin''→∀ b∈(Go.Proofs.nd f v).Arcs.take (i+1),b.To∈fin'':=fun fin'' hs' hat b hb=>by
      rw [q6v ha] at hb
      rcases List.mem_append.1 hb with hb | hb
      ·exact hs' _ (hdone b hb)
      ·simp at hb; subst hb; exact hat
     simp only [dlt hlt,cond_true,q3k,ha,q0o,q8u hc.lo hia]
     by_cases hop:bat op a.To=true
     ·simp only [hop,cond_true,q0o]
      refine ⟨true,op,dn,rfl,fun _=>?_,fun h=>by cases h⟩
      rcases List.mem_cons.1 ((hc.op _ hia).1 hop) with e | hm2
      ·exact ⟨v,hv,by have:=Rch.one (f:=f) ham; rwa [e] at this⟩
      ·exact ⟨a.To,hia,.snoc (hr _ hm2) ham⟩
     ·have hop':bat op a.To=false:=by simpa using hop
      simp only [hop',cond_false,q8u hc.ld hia,q0o]
      by_cases hdn:bat dn a.To=true
      ·simp only [hdn,Bool.not_true,cond_false,q0o,hw1]
       exact ih (i+1) op dn fin' (by omega) (by omega) hc hsub hle (hd' fin' (fun u hu=>hu) ((hc.dn _ hia).1 hdn))
      ·have hdn':bat dn a.To=false:=by simpa using hdn
       have n1:a.To ∉ v::pth:=fun h=>hop ((hc.op _ hia).2 h)
       have n2:a.To ∉ fin':=fun h=>hdn ((hc.dn _ hia).2 h)
       have hb2:=hc.bound hia n1 n2
       simp only [List.length_cons] at hb2
       obtain ⟨b,op',dn',g1,g2,g3⟩:=cyc_visit hg hf hk n a.To op dn (v::pth) fin' hc hia n1 n2 (fun u hu=>by
        rcases List.mem_cons.1 hu with rfl | hu
        ·exact .one ham
        ·exact .snoc (hr u hu) ham) (by simp only [List.length_cons]; omega)
       simp only [hdn',Bool.not_false,cond_true,g1,q0o]
       cases b with
       | true=>exact ⟨true,op',dn',rfl,fun _=>g2 rfl,fun h=>by cases h⟩
       | false =>
        obtain ⟨fin'',q1,q2,q3,q4⟩:=g3 rfl
        simp only [cond_false,hw1]
        exact ih (i+1) op' dn' fin'' (by omega) (by omega) q1 (fun u hu=>q3 u (hsub u hu)) (by omega) (hd' fin'' q3 q2)
    ·have hall:∀ a∈(Go.Proofs.nd f v).Arcs,a.To∈fin':=fun a ha=>hdone a (by rw [List.take_of_length_le (by omega)]; exact ha)
     simp only [dnlt hlt,cond_false,q31,q8u hc.lo hv,q8u hc.ld hv,q0o]
     have hnd:=hc.nd
     rw [List.cons_append,List.nodup_cons,List.mem_append] at hnd
     have nv:v ∉ fin':=fun h=>hnd.1 (.inr h)
     refine ⟨false,_,_,rfl,(fun h=>by cases h),fun _=>⟨fin'++[v],⟨by simp [hc.lo],by simp [hc.ld],fun u hu=>?_,fun u hu=>?_,.snoc hc.topo nv hall,?_,fun u hu=>?_⟩,by simp,fun u hu=>List.mem_append_left _ (hsub u hu),by simp; omega⟩⟩
     ·rw [q9u hc.lo hu hv]
      by_cases e:u=v
      ·subst e; simp [h1]
      ·rw [if_neg e,hc.op u hu,List.mem_cons]; simp [e]
     ·rw [q9u hc.ld hu hv]
      by_cases e:u=v
      ·subst e; simp
      ·rw [if_neg e,hc.dn u hu,List.mem_append]; simp [e]
     ·rw [← List.append_assoc,List.nodup_append]
      refine ⟨hnd.2,by simp,fun x1 hx1 y hy e=>?_⟩
      simp at hy
      rw [e,hy] at hx1
      exact hnd.1 (List.mem_append.1 hx1)
     ·refine hc.ing u ?_
      rw [← List.append_assoc] at hu
      rcases List.mem_append.1 hu with hu | hu
      ·exact List.mem_cons_of_mem _ hu
      ·simp at hu; subst hu; simp
  have hst:CSt f (op.set v.toNat true) dn (v::pth) fin:=⟨by simp [hs.lo],hs.ld,fun u hu=>by
   rw [q9u hs.lo hu hv]
   by_cases e:u=v
   ·simp [e]
   ·rw [if_neg e,hs.op u hu,List.mem_cons]; simp [e],hs.dn,hs.topo,by
   rw [List.cons_append,List.nodup_cons,List.mem_append]
   exact ⟨fun h=>h.elim h1 h2,hs.nd⟩,fun u hu=>by
   rcases List.mem_cons.1 hu with rfl | hu
   ·exact hv
   ·exact hs.ing u hu⟩
  obtain ⟨b,op',dn',g1,g2,g3⟩:=key n 0 _ dn fin (by omega) (by omega) hst (fun u hu=>hu) (Nat.le_refl _) (by simp)
  rw [Int.ofNat_zero] at g1
  refine ⟨b,op',dn',?_,g2,g3⟩
  show q38 n (q1y n) v f.Nodes.length f.Nodes f.Nodes.length op dn=_
  simp only [q38,q8u hs.lo hv,q0o,hx]
  exact g1
theorem cyc_L1 {f:GFS} {k:Nat} (hg:GOK f) (hf:Small f k) (hk:k≤1000000) {n:Nat} (hn:2*k+4≤n):∀ (m i:Nat) (op dn:List Bool) (fin:List Int),f.Nodes.length - i<m→i≤f.Nodes.length→CSt f op dn [] fin→(∀ j:Nat,j<i→(j:Int)∈fin) →
  ∃ b,q33 f n m i dn op=some b∧(b=true→Cyc f)∧(b=false→∃ fin,Topo f fin∧∀ v,InG f v→v∈fin)
 | 0,i,op,dn,fin,hm,_,_,_=>by omega
 | m+1,i,op,dn,fin,hm,hi,hs,hd=>by
  have hnl:=hf.nodes
  unfold q33
  by_cases hlt:i<f.Nodes.length
  ·have hv:InG f (i:Int):=⟨by omega,by omega⟩
   have hw1:IntKind.i64.wrap ((i:Int)+1)=((i+1:Nat):Int):=wr1 hlt (by omega)
   have hd':∀ fin':List Int,(∀ u∈fin,u∈fin')→(i:Int)∈fin'→∀ j:Nat,j<i+1→(j:Int)∈fin':=fun fin' h1 h2 j hj=>by
    by_cases e:j=i
    ·subst e; exact h2
    ·exact h1 _ (hd j (by omega))
   simp only [dlt hlt,cond_true,Int.toNat_natCast,q8u hs.ld hv,q0o]
   by_cases hdn:bat dn (i:Int)=true
   ·simp only [hdn,Bool.not_true,cond_false,q0o,hw1]
    exact cyc_L1 hg hf hk hn m (i+1) op dn fin (by omega) (by omega) hs (hd' fin (fun u hu=>hu) ((hs.dn _ hv).1 hdn))
   ·have hdn':bat dn (i:Int)=false:=by simpa using hdn
    have n2:(i:Int) ∉ fin:=fun h=>hdn ((hs.dn _ hv).2 h)
    obtain ⟨b,op',dn',g1,g2,g3⟩:=cyc_visit hg hf hk n (i:Int) op dn [] fin hs hv (by simp) n2 (by simp) (by simp; omega)
    simp only [hdn',Bool.not_false,cond_true,g1,q0o]
    cases b with
    | true=>exact ⟨true,rfl,fun _=>g2 rfl,fun h=>by cases h⟩
    | false =>
     obtain ⟨fin',q1,q2,q3,q4⟩:=g3 rfl
     simp only [cond_false,hw1]
     exact cyc_L1 hg hf hk hn m (i+1) op' dn' fin' (by omega) (by omega) q1 (hd' fin' q3 q2)
  ·simp only [dnlt hlt,cond_false,q4g]
   exact ⟨false,rfl,(fun h=>by cases h),fun _=>⟨fin,hs.topo,fun v hv=>by
    have:=hd v.toNat (by have:=hv.1; have:=hv.2; omega)
    have e:(v.toNat:Int)=v:=by have:=hv.1; omega
    rwa [e] at this⟩⟩
theorem bat_rep (N:Nat) (v:Int):bat (List.replicate N false) v=false:=by
 simp only [bat,List.getElem?_replicate]
 split<;>rfl
theorem Cyclic_ok {f:GFS} {k:Nat} (hg:GOK f) (hf:Small f k) (hk:k≤1000000) {n:Nat} (hn:2*k+4≤n):∃ b,q2e n f=some b∧(b=true→Cyc f)∧(b=false→∃ fin,Topo f fin∧∀ v,InG f v→v∈fin):=by
 have hnl:=hf.nodes
 have hneed:0≤(f.Nodes.length:Int)∧1*(f.Nodes.length:Int).toNat≤281474976710656∧(f.Nodes.length:Int)≤281474976710656:=by rw [Int.toNat_natCast]; omega
 obtain ⟨b,h1,h2,h3⟩:=cyc_L1 hg hf hk hn n 0 (List.replicate f.Nodes.length false) (List.replicate f.Nodes.length false) [] (by omega) (by omega) ⟨by simp,by simp,fun u _=>by simp [bat_rep],fun u _=>by simp [bat_rep],.nil,by simp,by simp⟩ (by simp)
 refine ⟨b,?_,h2,h3⟩
 simp only [q2e,needO]
 rw [if_pos hneed,if_pos hneed,Int.toNat_natCast]
 exact h1
theorem acyc_of {f:GFS} (h:∃ fin,Topo f fin∧∀ v,InG f v→v∈fin):¬ Cyc f:=fun ⟨u,hu,hr⟩=>by
 obtain ⟨fin,h1,h2⟩:=h
 exact h1.acyc u (h2 u hu) hr
end Go.Proofs
end
section
namespace Go.Proofs
open Go Go.Rx Go.Vx Go.Shelf Go.Sort
set_option linter.unusedVariables false
set_option linter.unusedSimpArgs false
set_option maxRecDepth 10000
theorem idxOf_at {o:List Int} (hn:o.Nodup) {i:Nat} (hi:i<o.length):o.idxOf o[i]=i:=by
 have h1:o[i]∈o:=List.getElem_mem hi
 have h2:=q7y h1
 obtain ⟨h3,h4⟩:=List.getElem?_eq_some_iff.1 h2
 exact (List.getElem_inj hn).1 h4
theorem ord_canon {f:GFS} (hf:GOK f) {r:Int} (hr:InG f r):ordG (canonG f r) 0=idN (canonG f r).Nodes.length:=by
 obtain ⟨o1,_⟩:=q6e hf hr
 rw [(canon_idem hf hr).2,(q5v hf hr).len]
 apply List.ext_getElem?
 intro i
 by_cases hi:i<(ordG f r).length
 ·rw [idN_get hi,List.getElem?_map,List.getElem?_eq_getElem hi,Option.map_some,idxOf_at o1.seen.nd hi]
 ·rw [List.getElem?_eq_none (by simp; omega),List.getElem?_eq_none (by simp [idN]; omega)]
theorem parent {f:GFS} (hf:GOK f) {r:Int} (hr:InG f r) {i:Nat} (h0:0<i) (hi:i<(canonG f r).Nodes.length):∃ j:Nat,j<i∧∃ a∈(nd (canonG f r) j).Arcs,a.To=i:=by
 have hc:=q5v hf hr
 obtain ⟨t,h1,h2,_⟩:=ordG_par hc.ok (r:=0) ⟨by omega,by have:=hc.pos; omega⟩
 rw [ord_canon hf hr] at h1
 have hsplit:t=(t.take (i - 1))++(i:Int)::t.drop i:=by
  have hti:t[i - 1]? = some (i:Int):=by
   have:=idN_get hi
   rw [h1] at this
   rw [show i=(i - 1)+1 by omega,List.getElem?_cons_succ] at this
   rw [this]
   congr 1
   omega
  have e:=List.take_append_drop (i - 1) t
  rw [drop_cons' hti,show i - 1+1=i by omega] at e
  exact e.symm
 obtain ⟨w,hw,a,ha,e⟩:=h2 _ _ _ hsplit
 have hw':w∈(idN (canonG f r).Nodes.length).take i:=by
  rw [h1,show i=(i - 1)+1 by omega,List.take_succ_cons]
  simpa using hw
 obtain ⟨j,hj,rfl⟩:=List.mem_iff_getElem.1 hw'
 simp only [List.length_take] at hj
 have hjw:((idN (canonG f r).Nodes.length).take i)[j]=(j:Int):=by
  have h3:((idN (canonG f r).Nodes.length).take i)[j]? = some (j:Int):=by
   rw [List.getElem?_take_of_lt (by omega),idN_get (by simp [idN] at hj; omega)]
  obtain ⟨_,h4⟩:=List.getElem?_eq_some_iff.1 h3
  exact h4
 rw [hjw] at ha
 exact ⟨j,by omega,a,ha,e⟩
theorem cyc_back {f:GFS} (hf:GOK f) {r:Int} (hr:InG f r) (h:Cyc (canonG f r)):Cyc f:=by
 obtain ⟨x,hx,hxx⟩:=h
 have hc:=q5v hf hr
 obtain ⟨o1,_⟩:=q6e hf hr
 have step:∀ {x w:Int},Rch (canonG f r) x w→∀ u∈ordG f r,x=((ordG f r).idxOf u:Int)→∃ w'∈ordG f r,w=((ordG f r).idxOf w':Int)∧Rch f u w':=by
  intro x w h
  induction h with
  | one ha =>
   intro u hu e
   rw [e,hc.at_ u hu] at ha
   simp only [nodeC,List.mem_map] at ha
   obtain ⟨b,hb,rfl⟩:=ha
   exact ⟨b.To,o1.clo u hu b (q59.1 hb),rfl,.one (q59.1 hb)⟩
  | snoc _ ha ih =>
   intro u hu e
   obtain ⟨w',hw',e',hr'⟩:=ih u hu e
   rw [e',hc.at_ w' hw'] at ha
   simp only [nodeC,List.mem_map] at ha
   obtain ⟨b,hb,rfl⟩:=ha
   exact ⟨b.To,o1.clo w' hw' b (q59.1 hb),rfl,.snoc hr' (q59.1 hb)⟩
 have hxl:x.toNat<(ordG f r).length:=by rw [← hc.len]; have:=hx.1; have:=hx.2; omega
 have hu:(ordG f r)[x.toNat]∈ordG f r:=List.getElem_mem hxl
 have hxu:x=((ordG f r).idxOf (ordG f r)[x.toNat]:Int):=by rw [idxOf_at o1.seen.nd hxl]; have:=hx.1; omega
 obtain ⟨w',hw',e,hrch⟩:=step hxx _ hu hxu
 have:(ordG f r)[x.toNat]=w':=hc.sim.inj _ _ hu hw' (by show ((ordG f r).idxOf _:Int)=((ordG f r).idxOf w':Int); rw [← e,← hxu])
 rw [← this] at hrch
 exact ⟨_,o1.seen.ing _ hu,hrch⟩
theorem sub_less {f:GFS} (hf:GOK f) {r:Int} (hr:InG f r) (hac:¬ Cyc (canonG f r)) {i:Nat} (h0:0<i) (hi:i<(canonG f r).Nodes.length):(canonG (canonG f r) i).Nodes.length<(canonG f r).Nodes.length:=by
 have hc:=q5v hf hr
 have hii:InG (canonG f r) (i:Int):=⟨by omega,by omega⟩
 have h00:InG (canonG f r) 0:=⟨by omega,by omega⟩
 have hs:=q5v hc.ok hii
 obtain ⟨o1,_⟩:=q6e hc.ok hii
 rw [hs.len]
 apply Classical.byContradiction
 intro hge
 have hle:=o1.seen.len
 have hm:(0:Int)∈ordG (canonG f r) i:=by
  apply Classical.byContradiction
  intro hn
  have:=q6c (canonG f r).Nodes.length (o:=0::ordG (canonG f r) i) (List.nodup_cons.2 ⟨hn,o1.seen.nd⟩) (fun u hu=>by
   rcases List.mem_cons.1 hu with rfl | hu
   ·exact h00
   ·exact o1.seen.ing u hu)
  simp only [List.length_cons] at this
  omega
 obtain ⟨t,e1,_,e2⟩:=ordG_par hc.ok hii
 rw [e1] at hm
 have hback:Rch (canonG f r) i 0:=by
  rcases List.mem_cons.1 hm with h | h
  ·omega
  ·exact e2 0 h
 obtain ⟨t',e3,_,e4⟩:=ordG_par hc.ok h00
 have hfor:Rch (canonG f r) 0 i:=by
  have:(i:Int)∈ordG (canonG f r) 0:=by
   rw [ord_canon hf hr]
   exact List.mem_of_getElem? (idN_get hi)
  rw [e3] at this
  rcases List.mem_cons.1 this with h | h
  ·omega
  ·exact e4 _ h
 exact hac ⟨0,h00,hfor.trans hback⟩
theorem parents_L3 {g:GFS} {k:Nat} (hg:GOK g) (hs:Small g k) (hk:k≤1000000) {i:Nat} (hi:i<g.Nodes.length) (hup:UpA (nd g i).Arcs) {e:Int} {rc:Int→List Bool→Option Bool}:∀ (m j:Nat) (rl:List Bool),(nd g i).Arcs.length - j<m→j≤(nd g i).Arcs.length→rl.length=g.Nodes.length →
  ∃ rl',rl'.length=g.Nodes.length∧(∀ v,InG g v→bat rl v=true→bat rl' v=true)∧(∀ a∈(nd g i).Arcs.drop j,bat rl' a.To=true)∧q1z (g,e) i rc (nd g i) m j rl=rc (IntKind.i64.wrap ((i:Int)+1)) rl'
 | 0,j,rl,hm,_,_=>by omega
 | m+1,j,rl,hm,hj,hl=>by
  have hnl:=hs.nodes
  have hx:=qad (f:=g) (v:=(i:Int)) ⟨by omega,by omega⟩
  have hal:=hs.arcs _ hx.2
  unfold q1z
  by_cases hlt:j<(nd g i).Arcs.length
  ·obtain ⟨a,ha,ham⟩:=q5r hlt
   have hto:=(hg _ hx.2).arc a ham
   have hia:InG g a.To:=⟨hto.2.1,hto.2.2⟩
   have h1:¬ a.To<0:=by omega
   have h2:¬ a.To ≥ (g.Nodes.length:Int):=by omega
   have hcheck:(cond (decide ((j:Int) > 0))
      (bindO (g.Nodes[i]?) fun x81 =>
      bindO (idxO x81.Arcs (IntKind.i64.wrap ((j:Int) - 1))) fun x83 =>
      some (decide (a.Feat≤x83.Feat)))
      (some false))=some false:=by
    by_cases hj0:(j:Int) > 0
    ·have hw:IntKind.i64.wrap ((j:Int) - 1)=((j - 1:Nat):Int):=wrn (by omega) (by omega)
     obtain ⟨b,hb,_⟩:=q5r (l:=(nd g i).Arcs) (i:=j - 1) (by omega)
     have hlt2:b.Feat<a.Feat:=by
      have:=List.pairwise_iff_getElem.1 hup (j - 1) j (by omega) hlt (by omega)
      obtain ⟨_,e1⟩:=List.getElem?_eq_some_iff.1 hb
      obtain ⟨_,e2⟩:=List.getElem?_eq_some_iff.1 ha
      rw [e1,e2] at this
      exact this
     have h3:¬ a.Feat≤b.Feat:=by omega
     have hx1:g.Nodes[i]? = some (nd g (i:Int)):=by rw [← q3k]; exact hx.1
     simp only [hj0,decide_true,cond_true,hx1,q0o,hw,q3k,hb,h3,decide_false]
    ·simp only [hj0,decide_false,cond_false]
   obtain ⟨rl',g1,g2,g3,g4⟩:=parents_L3 hg hs hk hi hup (e:=e) (rc:=rc) m (j+1) (rl.set a.To.toNat true) (by omega) (by omega) (by simp [hl])
   refine ⟨rl',g1,fun v hv hb=>g2 v hv ?_,fun b hb=>?_,?_⟩
   ·rw [q9u hl hv hia]
    by_cases e:v=a.To
    ·simp [e]
    ·rw [if_neg e]; exact hb
   ·rw [drop_cons' ha] at hb
    rcases List.mem_cons.1 hb with rfl | hb
    ·exact g2 _ hia (by rw [q9u hl hia hia]; simp)
    ·exact g3 b hb
   ·simp only [dlt hlt,cond_true,q3k,ha,q0o,h1,h2,decide_false,cond_false,Int.toNat_natCast,q8u hl hia,wr1 hlt (show (nd g i).Arcs.length≤9223372036854775807 by omega)]
    rw [hcheck]
    simp only [q0o,cond_false]
    exact g4
  ·simp only [dnlt hlt,cond_false,q2x,drop_nil' hlt]
   exact ⟨rl,hl,fun _ _ h=>h,⟨fun a ha=>(List.not_mem_nil ha).elim,rfl⟩⟩
theorem parents_L1 {f:GFS} {k:Nat} (hf:GOK f) (hr:InG f 0) (hs:Small (canonG f 0) k) (hk:k≤1000000) {n:Nat} (hn:k+100≤n) {e:Int}:∀ (m i:Nat) (rl:List Bool),(canonG f 0).Nodes.length - i<m→i≤(canonG f 0).Nodes.length→rl.length=(canonG f 0).Nodes.length→(∀ j:Nat,j<i→∀ a∈(nd (canonG f 0) j).Arcs,bat rl a.To=true) →
  q13 n (canonG f 0,e) m i rl=q1l n (canonG f 0,e) n 0
 | 0,i,rl,hm,_,_,_=>by omega
 | m+1,i,rl,hm,hi,hl,hd=>by
  have hc:=q5v hf hr
  have hnl:=hs.nodes
  unfold q13
  by_cases hlt:i<(canonG f 0).Nodes.length
  ·have hii:InG (canonG f 0) (i:Int):=⟨by omega,by omega⟩
   have hx:=qad hii
   have hal:=hs.arcs _ hx.2
   have hcheck:(cond (decide ((i:Int) > 0)) (bindO (idxV rl 0 (canonG f 0).Nodes.length (i:Int)) fun x56=>some (!x56)) (some false))=some false:=by
    by_cases h0:(i:Int) > 0
    ·obtain ⟨j,hj,a,ha,ea⟩:=parent hf hr (show 0<i by omega) hlt
     have:=hd j hj a ha
     rw [ea] at this
     simp only [h0,decide_true,cond_true,q8u hl hii,q0o,this,Bool.not_true]
    ·simp only [h0,decide_false,cond_false]
   obtain ⟨rl',g1,g2,g3,g4⟩:=parents_L3 hc.ok hs hk hlt (hc.up _ hx.2) (e:=e) (rc:=q13 n (canonG f 0,e) m) n 0 rl (by omega) (by omega) hl
   rw [Int.ofNat_zero] at g4
   rw [List.drop_zero] at g3
   simp only [dlt hlt,cond_true,Int.toNat_natCast]
   rw [hcheck]
   simp only [q0o,cond_false,hx.1,g4,wr1 hlt (show (canonG f 0).Nodes.length≤9223372036854775807 by omega)]
   refine parents_L1 hf hr hs hk hn m (i+1) rl' (by omega) (by omega) g1 fun j hj a ha=>?_
   by_cases ej:j=i
   ·subst ej; exact g3 a ha
   ·have hjj:InG (canonG f 0) (j:Int):=⟨by omega,by omega⟩
    have hto:=(hc.ok _ (qad hjj).2).arc a ha
    exact g2 _ ⟨hto.2.1,hto.2.2⟩ (hd j (by omega) a ha)
  ·simp only [dnlt hlt,cond_false,q2v]
theorem parents_L2 {f:GFS} {k:Nat} (hf:GOK f) (hr:InG f 0) (hs:Small (canonG f 0) k) (hk:k≤1000) {n:Nat} (hn:3000000≤n) {e:Int}:∀ (m i:Nat),(canonG f 0).Nodes.length - i<m→i≤(canonG f 0).Nodes.length→q1l n (canonG f 0,e) m i=some true
 | 0,i,hm,_=>by omega
 | m+1,i,hm,hi=>by
  have hc:=q5v hf hr
  have hnl:=hs.nodes
  unfold q1l
  by_cases hlt:i<(canonG f 0).Nodes.length
  ·have hii:InG (canonG f 0) (i:Int):=⟨by omega,by omega⟩
   have hsub:q5k n (canonG f 0) (i:Int)=some (canonG (canonG f 0) i):=by
    simp only [q5k,q8v hc.ok hs (show k≤1000000 by omega) hii (show 2*k+4≤n by omega),q0o]
   have hcs:=q5v hc.ok hii
   have hss:=hs.canon hc.ok hii
   obtain ⟨b1,k1,k2,k3⟩:=Cyclic_ok hc.ok hs (show k≤1000000 by omega) (show 2*k+4≤n by omega)
   obtain ⟨b2,k4,k5,k6⟩:=Cyclic_ok hcs.ok hss (show k≤1000000 by omega) (show 2*k+4≤n by omega)
   have hq:=refEq_ok (hss.up (show k≤1000 by omega)) (hs.up (show k≤1000 by omega)) hn
   have hgt:¬ ((canonG (canonG f 0) i).Nodes.length:Int) > ((canonG f 0).Nodes.length:Int):=by have:=hcs.le; omega
   have hb2:b1=false→b2=false:=fun h=>by
    cases hb:b2 with
    | false=>rfl
    | true=>exact absurd (cyc_back hc.ok hii (k5 hb)) (acyc_of (k3 h))
   have hih:=parents_L2 hf hr hs hk hn (e:=e) m (i+1) (by omega) (by omega)
   have hw:=wr1 hlt (show (canonG f 0).Nodes.length≤9223372036854775807 by omega)
   have heta:(GFS.mk (canonG f 0).Nodes)=canonG f 0:=rfl
   simp only [dlt hlt,cond_true,heta,hsub,q0o,hgt,decide_false,cond_false,k1,k4,hq,hw]
   by_cases h0:i=0
   ·subst h0
    have hid:canonG (canonG f 0) ((0:Nat):Int)=canonG f 0:=(canon_idem hf hr).1
    have h00:(((0:Nat):Int) == 0)=true:=rfl
    have h01:¬ ((0:Nat):Int) > 0:=by omega
    simp only [h00,cond_true,hid,ccG_ok.self,beq_self_eq_true,q0o,Bool.not_true,cond_false]
    cases hb1:b1 with
    | true=>simp only [Bool.not_true,cond_false,q0o]; exact hih
    | false=>simp only [Bool.not_false,cond_true,hb2 hb1,cond_false,h01,decide_false,q0o]; exact hih
   ·have h00:((i:Int) == 0)=false:=by simp; omega
    have h01:(i:Int) > 0:=by omega
    simp only [h00,cond_false,q0o]
    cases hb1:b1 with
    | true=>simp only [Bool.not_true,cond_false,q0o]; exact hih
    | false =>
     have hl:=sub_less hf hr (acyc_of (k3 hb1)) (show 0<i by omega) hlt
     have h02:¬ ((canonG (canonG f 0) (i:Int)).Nodes.length:Int) ≥ ((canonG f 0).Nodes.length:Int):=by omega
     simp only [Bool.not_false,cond_true,hb2 hb1,cond_false,h01,decide_true,h02,decide_false,q0o]; exact hih
  ·simp only [dnlt hlt,cond_false,q2w,ex_n (show 60≤n by omega),q0o]
theorem parents_law (f:GFS) {n:Nat} (hn:3000000≤n):q3l n f=some true:=by
 obtain ⟨b,h1,h2⟩:=light_ok f (show 20≤n by omega)
 simp only [q3l,h1,q0o,ex_n (show 60≤n by omega)]
 cases b with
 | false=>simp
 | true =>
  have hf:=h2 rfl
  have hC:=Canon_ok hf (by omega) (show 2*12+4≤n by omega)
  simp only [Bool.not_true,cond_false]
  by_cases he:errG f=0
  ·simp only [he,if_true] at hC
   obtain ⟨e1,e2,e3⟩:=errG_zero.1 he
   have hr:InG f 0:=⟨by omega,by omega⟩
   have hs:=hf.canon e3 hr
   have hnl:=hs.nodes
   have hneed:0≤((canonG f 0).Nodes.length:Int)∧1*((canonG f 0).Nodes.length:Int).toNat≤281474976710656∧((canonG f 0).Nodes.length:Int)≤281474976710656:=by rw [Int.toNat_natCast]; omega
   simp only [hC,q0o,bne_self_eq_false,cond_false,needO]
   rw [if_pos hneed,Int.toNat_natCast]
   have h3:=parents_L1 e3 hr hs (by omega) (show 12+100≤n by omega) (e:=0) n 0 (List.replicate (canonG f 0).Nodes.length false) (by omega) (by omega) (by simp) (fun j hj=>by omega)
   have h4:=parents_L2 e3 hr hs (by omega) hn (e:=0) n 0 (by omega) (by omega)
   rw [Int.ofNat_zero] at h3 h4
   exact h3.trans h4
  ·have hb:(errG f != 0)=true:=by simpa using he
   simp only [he,if_false] at hC
   simp [hC,hb,q0o]
end Go.Proofs
end
