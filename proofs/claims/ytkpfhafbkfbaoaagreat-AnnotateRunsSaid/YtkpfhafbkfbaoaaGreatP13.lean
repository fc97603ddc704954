/-
  Texts of the walk: VxS.
-/
import Derived.Shelf.GgSortFunc.RowK
import Derived.Test.YtkpfhafbkfbaoaaGreatP12
section
namespace Go.Vx
open Go Go.Rx Go.Proofs Go.Sort
set_option linter.unusedVariables false
theorem adv_grow {m:Nm} {s:S} {w:World} (h:FitsS m s w) (os:Array Obj):Adv m s w m s (grow w os):=by
 have hold:∀ b,b<w.heap.size→(grow w os).heap[b]? = w.heap[b]?:=fun b hb=>by
  simp only [Sort.grow]; rw [Array.getElem?_append_left hb]
 refine ⟨Agree.refl _ _,Nat.le_refl _,fun m' ha=>?_,fun _ h=>.inl h,fun b hb _=>hold b hb,by simp [Sort.grow],rfl,rfl,rfl,Nat.le_refl _⟩
 have hf:=h m' ha
 exact ⟨fun i b hb=>(hf.ok i b hb).world (hold _ (hf.size hb)),hf.inj,hf.bd⟩
theorem below_grow {w w':World} (h:RowKit.Below w.heap.size w w') (hd:w.drawn≤w'.drawn):∃ q os,w'=grow (w.drewN q) os:=by
 refine ⟨w'.drawn - w.drawn,w'.heap.extract w.heap.size w'.heap.size,?_⟩
 obtain ⟨h1,h2,h3,h4,h5⟩:=h
 cases w' with
 | mk heap tape drawn os output =>
  simp only at h1 h2 h3 h4 h5 hd
  subst h1; subst h2; subst h3
  have e1:w.drawn+(drawn - w.drawn)=drawn:=by omega
  simp only [Sort.grow,World.drewN,e1]
  congr 1
  ·apply Array.ext_getElem?
   intro k
   by_cases hk:k<w.heap.size
   ·rw [Array.getElem?_append_left hk,h5 k hk]
   ·rw [Array.getElem?_append_right (by omega),Array.getElem?_extract]
    simp only [Nat.min_self]
    rw [show w.heap.size+(k - w.heap.size)=k by omega]
    by_cases hk2:k<heap.size
    ·rw [if_pos (by omega)]
    ·rw [if_neg (by omega),Array.getElem?_eq_none (by omega)]
theorem EvU.grows {P:Program} {g:FuncId} {args:List U} {vs:List Value} {u:U} {cv:Value} (h:EvU P g args ⟨[],0⟩ (fun u' _=>u'=u)) (hv:toVL args=some vs) (hu:toV u=some cv) (hr:∀ m,renL m vs=vs) (hru:∀ m,ren m cv=cv) (w:World) :
  Calls P g vs.toArray w fun e w'=>e = .returned cv∧∃ q os,w'=grow (w.drewN q) os:=by
 have h0:FitsS ⟨id,id,id⟩ ⟨[],0⟩ w:=fun m' _=>⟨fun i b hb=>by simp [lk] at hb,fun i j b c hb=>by simp [lk] at hb,fun i b hb=>by simp [lk] at hb⟩
 refine (h (fun _ _=>False) (cx ⟨[],0⟩) vs ⟨id,id,id⟩ w vs rfl ⟨fun k b hb=>by simp [cx,gt] at hb,fun k k' b b' i hb=>by simp [cx,gt] at hb,fun i b hb=>by simp [cx,lk] at hb⟩ (fun _ _ hF=>hF.elim) ((qab args vs hv _ vs).2 rfl) h0 (fun m' _=>hr m')).mono ?_
 rintro e w' ⟨y,m₁,u',v,cv',rfl,rfl,hadv,hrel,_,_,hru',_,_⟩
 have hvv:=(q6h _ cv hu y v).1 hru'
 subst hvv
 have:cv'=v:=by rw [← hrel.at,hru]
 subst this
 exact ⟨rfl,below_grow (hadv.below fun b ⟨i,c,hc,_⟩=>by simp [cx,lk] at hc) hadv.drawn⟩
section
variable {α:Type} [Inhabited α] {enc:α→List Value} {k:Nat} (hk:∀ x,(enc x).length=k) (hk0:0<k)
include hk hk0
theorem flat_get:∀ (ds:List α) (t:Nat),t<ds.length*k→((ds.map enc).flatten)[t]? = some ((enc ds.toArray[t / k]!)[t % k]!)
 | [],t,h=>by simp at h
 | x::ds,t,h=>by
  simp only [List.map_cons,List.flatten_cons]
  have hx:=hk x
  rcases Nat.lt_or_ge t k with hlt | hge
  ·rw [List.getElem?_append_left (by omega),Nat.div_eq_of_lt hlt,Nat.mod_eq_of_lt hlt]
   simp [hx,hlt]
  ·rw [List.getElem?_append_right (by omega),hx,flat_get ds (t - k) (by simp only [List.length_cons,Nat.succ_mul] at h; omega)]
   have e1:t / k=(t - k) / k+1:=by
    have:=Nat.sub_mul_div t k 1
    rw [Nat.mul_one] at this
    have h1:1≤t / k:=(Nat.one_le_div_iff hk0).2 hge
    omega
   have e2:t % k=(t - k) % k:=by rw [Nat.mod_eq_sub_mod hge]
   rw [e1,e2]
   simp
omit [Inhabited α] hk0 in
theorem qaj (ds:List α):((ds.map enc).flatten).length=ds.length*k:=by
 induction ds with
 | nil=>simp
 | cons x ds ih=>simp only [List.map_cons,List.flatten_cons,List.length_append,hk,ih,List.length_cons,Nat.succ_mul]; omega
theorem qgd (ds:List α):flatK enc k ds.toArray=((ds.map enc).flatten).toArray:=by
 apply Array.ext_getElem?
 intro t
 by_cases ht:t<ds.length*k
 ·have e0:(((ds.map enc).flatten).toArray)[t]? = some ((enc ds.toArray[t / k]!)[t % k]!):=by rw [List.getElem?_toArray]; exact flat_get hk hk0 ds t ht
  rw [e0]
  have hs:t<(flatK enc k ds.toArray).size:=by simpa using ht
  rw [Array.getElem?_eq_getElem hs]
  have:=get_flatK enc k ds.toArray t (by simpa using ht)
  rw [getElem!_pos _ t hs] at this
  rw [this]
 ·have e0:(((ds.map enc).flatten).toArray)[t]? = none:=by rw [List.getElem?_toArray]; exact List.getElem?_eq_none (by rw [qaj hk]; omega)
  rw [e0]; exact Array.getElem?_eq_none (by simpa using Nat.le_of_not_lt ht)
end
theorem qib:∀ {a b:List U} {va vb:List Value},toVL a=some va→toVL b=some vb→toVL (a++b)=some (va++vb)
 | [],b,va,vb,h,h'=>by simp only [toVL,Option.some.injEq] at h; subst h; simpa using h'
 | u::a,b,va,vb,h,h'=>by
  simp only [toVL] at h
  cases hu:toV u with
  | none=>simp [hu] at h
  | some v =>
   simp only [hu] at h
   cases hl:toVL a with
   | none=>simp [hl] at h
   | some vs =>
    simp only [hl,Option.some.injEq] at h
    subst h
    simp only [List.cons_append,toVL,hu,qib hl h']
theorem qet {α:Type} {encU:α→List U} {enc:α→List Value} (h:∀ x,toVL (encU x)=some (enc x)):∀ ds:List α,toVL ((ds.map encU).flatten)=some ((ds.map enc).flatten)
 | []=>rfl
 | x::ds=>by simp only [List.map_cons,List.flatten_cons]; exact qib (h x) (qet h ds)
theorem okL_flat {α:Type} {encU:α→List U} (h:∀ x,okL (encU x)=true):∀ ds:List α,okL ((ds.map encU).flatten)=true
 | []=>rfl
 | x::ds=>by simp only [List.map_cons,List.flatten_cons]; exact q79 (h x) (okL_flat h ds)
theorem qi5 {α:Type} {enc:α→List Value} (h:∀ m x,renL m (enc x)=enc x) (m:Nm):∀ ds:List α,renL m ((ds.map enc).flatten)=(ds.map enc).flatten
 | []=>by simp [renL]
 | x::ds=>by
  simp only [List.map_cons,List.flatten_cons]
  have h1:=qi5 h m ds
  have h2:=h m x
  rw [q2x] at h1 h2 ⊢
  rw [List.map_append,h1,h2]
theorem qfs (pre fl fl' rest:List Value) (hl:fl'.length=fl.length):putCells id pre.length fl'.toArray (pre++fl++rest).toArray=(pre++fl'++rest).toArray:=by
 apply Array.ext_getElem?
 intro t
 simp only [putCells,Array.getElem?_mapIdx,List.getElem?_toArray,List.size_toArray,id]
 rcases Nat.lt_or_ge t pre.length with h1 | h1
 ·rw [List.append_assoc,List.append_assoc,List.getElem?_append_left h1,List.getElem?_append_left h1]
  simp [h1,show ¬ pre.length≤t by omega]
 ·rcases Nat.lt_or_ge t (pre.length+fl.length) with h2 | h2
  ·have e1:(pre++fl++rest)[t]? = some (fl[t - pre.length]'(by omega)):=by
    rw [List.append_assoc,List.getElem?_append_right h1,List.getElem?_append_left (by omega)]
    exact List.getElem?_eq_getElem (by omega)
   have e2:(pre++fl'++rest)[t]? = some (fl'[t - pre.length]'(by omega)):=by
    rw [List.append_assoc,List.getElem?_append_right h1,List.getElem?_append_left (by omega)]
    exact List.getElem?_eq_getElem (by omega)
   rw [e1,e2]
   simp only [Option.map_some]
   rw [if_pos ⟨h1,by omega⟩]
   rw [getElem!_pos _ _ (by simp; omega)]
   simp
  ·have e1:(pre++fl++rest)[t]? = rest[t - pre.length - fl.length]?:=by
    rw [List.append_assoc,List.getElem?_append_right h1,List.getElem?_append_right (by omega)]
   have e2:(pre++fl'++rest)[t]? = rest[t - pre.length - fl.length]?:=by
    rw [List.append_assoc,List.getElem?_append_right h1,List.getElem?_append_right (by omega),hl]
   rw [e1,e2]
   cases rest[t - pre.length - fl.length]? with
   | none=>rfl
   | some v=>simp only [Option.map_some]; rw [if_neg (by omega)]
theorem EvU.sort {α:Type} [Inhabited α] {P:Program} {f g:FuncId} {enc:α→List Value} {encU:α→List U} {k:Nat} (hk:∀ x,(enc x).length=k) (hk0:0<k) (henc:∀ x,toVL (encU x)=some (enc x)) (hok:∀ x,okL (encU x)=true) (hren:∀ m x,renL m (enc x)=enc x)
  {R:Array α→Array α→Prop}
  (hs:∀ (blk off cap:Nat) (d:Array α) (w:World),HoldsK enc k w blk off d→blk<w.heap.size→d.size<4611686018427387904 →
   Calls P f #[.slice (some ⟨blk,off,none⟩) d.size cap,.func (.func g) #[] #[]] w fun e w'=>e = .returned (.tuple #[])∧∃ d' n os,R d d'∧d'.size=d.size∧w'=Sort.grow (putRowK enc k (Sort.ahead w n) blk off d') os)
  {σ:Sg} {K st:Nat} {e:TypeId} (ds:List α) (hne:ds≠[]) (hlen:ds.length<4611686018427387904) (hg:gt σ.h K=some (.vec ((ds.map encU).flatten) e k st)) :
  EvU P f [.vl K st 0 ds.length,.fn (.func g) [] []] σ (fun u σ'=>u = .tup []∧∃ ds':List α,R ds.toArray ds'.toArray∧ds'.length=ds.length∧σ'=⟨ug σ.h K (.vec ((ds'.map encU).flatten) e k st),σ.nx⟩):=fun F x vs m w cargs hx hh hfr he hfit hargs=>by
 subst hx
 obtain ⟨v0,vs0,rfl,h0,he⟩:=he.inv
 obtain ⟨v1,vs1,rfl,h1,he⟩:=he.inv
 have:=he.nil_inv
 subst this
 simp only [Rel] at h0 h1
 obtain ⟨va,vb,rfl,_,hva,_,hvb⟩:=h1
 have hva':va=[]:=by cases va with
  | nil=>rfl
  | cons=>simp at hva
 have hvb':vb=[]:=by cases vb with
  | nil=>rfl
  | cons=>simp at hvb
 subst hva'; subst hvb'
 obtain ⟨_,hK,h0⟩:=h0
 obtain ⟨l,e',sz,hb,hvl⟩:=(h0 _ hg).2 rfl
 cases hb
 obtain ⟨_,hBk⟩:=hh.ok K _ hg
 obtain ⟨_,_,hB⟩:=hBk
 have hflat:(ds.map encU).flatten≠[]:=fun hn=>by
  have h1:=qet henc ds
  rw [hn] at h1
  simp only [toVL,Option.some.injEq] at h1
  have h2:=qaj hk ds
  rw [← h1] at h2
  cases ds with
  | nil=>exact hne rfl
  | cons x ds =>
   simp only [List.length_nil,List.length_cons,Nat.succ_mul] at h2
   omega
 rcases hB with ⟨hn,_⟩ | ⟨i,l',hρ,hlk,hE⟩
 ·exact absurd hn hflat
 rw [hρ] at hvl
 simp only [VlOk] at hvl
 rcases hvl with ⟨hbad,_⟩ | rfl
 ·omega
 have hl':=(qab _ _ (qet henc ds) x l').1 hE
 subst hl'
 have hfit0:=hfit m (Agree.refl _ _)
 obtain ⟨pre,rest,hheap,hpre,hcap⟩:=(hfit0.ok i _ hlk:RowOk m i _ e w (k+2))
 rw [qi5 hren] at hheap
 have hcargs:=hargs.at
 simp only [renL,ren,renA] at hcargs
 subst hcargs
 have hblk:m.blk i<w.heap.size:=hfit0.size hlk
 have hholds:HoldsK enc k w (m.blk i) (m.sh i+0*k) ds.toArray:=by
  unfold HoldsK Holds
  rw [qgd hk hk0]
  intro j hj
  simp only [List.size_toArray] at hj
  refine ⟨?_,?_⟩
  ·simp only [World.cell?,hheap]
   simp only [Option.isSome_none,Bool.false_eq_true,if_false,List.getElem?_toArray,id]
   rw [List.append_assoc,List.getElem?_append_right (by omega),List.getElem?_append_left (by omega)]
   rw [show m.sh i+0*k+j - pre.length=j by omega,List.getElem?_eq_getElem hj,getElem!_pos _ _ (by simpa using hj)]
   simp
  ·simp [World.frozen?,hheap]
 have hc:=hs (m.blk i) (m.sh i+0*k) (capOf m i (capBase+0)) ds.toArray w hholds hblk (by simpa using hlen)
 simp only [List.size_toArray] at hc
 refine (show Calls P f _ w _ from hc).mono ?_
 rintro e1 w' ⟨rfl,d',n,os,hR,hsz,rfl⟩
 obtain ⟨ds',rfl⟩:∃ ds':List α,d'=ds'.toArray:=⟨d'.toList,by simp⟩
 have hsz':ds'.length=ds.length:=by simpa using hsz
 have hll:((ds'.map enc).flatten).length=((ds.map enc).flatten).length:=by rw [qaj hk,qaj hk,hsz']
 have hrow:(putRowK enc k (Sort.ahead w n) (m.blk i) (m.sh i+0*k) ds'.toArray).heap[m.blk i]? = some (.cells (pre++(ds'.map enc).flatten++rest).toArray e (0,0)):=by
  unfold putRowK putRow mapBlock
  rw [qgd hk hk0]
  simp only [Array.getElem?_modify,if_true,Sort.ahead,hheap,Option.map_some,onCells]
  rw [show m.sh i+0*k=pre.length by omega,qfs _ _ _ _ hll]
 have hadv1:Adv m x.s w m ⟨up x.s.h i (.inl ((ds'.map enc).flatten,e,k+2)),x.s.nx⟩ (putRowK enc k (Sort.ahead w n) (m.blk i) (m.sh i+0*k) ds'.toArray):=by
  refine Adv.write hfit hlk rfl (fun j hj=>?_) (by simp [putRowK,putRow,mapBlock,Sort.ahead]) rfl rfl rfl (Nat.le_add_right _ _) fun m' ha=>?_
  ·unfold putRowK putRow mapBlock
   simp only [Array.getElem?_modify,Sort.ahead]
   rw [if_neg (Ne.symm hj)]
  ·obtain ⟨a1,a2,a3⟩:=ha i (hh.bd i _ hlk)
   refine ⟨pre,rest,?_,by rw [a2]; exact hpre,?_⟩
   ·rw [a1,qi5 hren]; exact hrow
   ·rw [hll,a3]; exact hcap
 have hout:=qay (c:=.inl ((ds'.map enc).flatten,e,k+2)) (bK:=.vec ((ds'.map encU).flatten) e k st) hh hg hρ hlk rfl (by rintro l e sz st h; cases h; exact ⟨_,rfl⟩) fun y h1 h2 hm=>⟨okL_flat hok ds',hk0,.inr ⟨i,_,h1,h2,(qab _ _ (qet henc ds') y _).2 rfl⟩⟩
 refine ⟨_,m,.tup [],.tuple #[],.tuple #[],rfl,⟨rfl,ds',hR,hsz',rfl⟩,hadv1.trans (adv_grow hadv1.fits os),fun m' _=>by simp [ren,renA,renL],hout.h,hout.fr F hfr,by simp [Rel,RelP],hout.mo.ke,Nat.le_refl _⟩
end Go.Vx
end
