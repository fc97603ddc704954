/-
  Texts of the walk: VxS.
-/
import Derived.Shelf.GgSortFunc.RowK
import Derived.Test.YtkgbipeaeamohaaGreatDoorP12
set_option linter.unusedSimpArgs false
set_option linter.unusedVariables false
section
namespace Go.Vx
open Go Go.Rx Go.Proofs Go.Sort
theorem z1p {m:Nm} {s:S} {w:World} (h:q25 m s w) (os:Array Obj):Adv m s w m s (grow w os):=by
 have hold:∀ b,b<w.heap.size→(grow w os).heap[b]? = w.heap[b]?:=fun b hb=>by
  simp only [Sort.grow]; rw [Array.getElem?_append_left hb]
 refine ⟨Agree.refl _ _,zF _,fun m' ha=>?_,fun _ h=>.inl h,fun b hb _=>hold b hb,by simp [Sort.grow],rfl,rfl,rfl⟩
 have hf:=h m' ha
 exact ⟨fun i b hb=>(hf.ok i b hb).world (hold _ (hf.size hb)),hf.inj,hf.bd⟩
section
variable {α:Type} [Inhabited α] {enc:α→List Value} {k:Nat} (hk:∀ x,(enc x).length=k) (hk0:0<k)
include hk hk0
theorem quq:∀ (ds:List α) (t:Nat),t<ds.length*k→((ds.map enc).flatten)[t]? = some ((enc ds.toArray[t / k]!)[t % k]!)
 | [],t,h=>by simp at h
 | x::ds,t,h=>by
  simp only [zQ,List.flatten_cons]
  have hx:=hk x
  rcases Nat.lt_or_ge t k with hlt | hge
  ·rw [List.getElem?_append_left (by omega),Nat.div_eq_of_lt hlt,Nat.mod_eq_of_lt hlt]
   simp [hx,hlt]
  ·rw [List.getElem?_append_right (by omega),hx,quq ds (t - k) (by simp only [zO,Nat.succ_mul] at h; omega)]
   have e1:t / k=(t - k) / k+1:=by
    have:=Nat.sub_mul_div t k 1
    rw [Nat.mul_one] at this
    have h1:1≤t / k:=(Nat.one_le_div_iff hk0).2 hge
    omega
   have e2:t % k=(t - k) % k:=by rw [Nat.mod_eq_sub_mod hge]
   rw [e1,e2]
   simp
omit [Inhabited α] hk0 in
theorem qid (ds:List α):((ds.map enc).flatten).length=ds.length*k:=by
 induction ds with
 | nil=>simp
 | cons x ds ih=>simp only [zQ,List.flatten_cons,List.length_append,hk,ih,zO,Nat.succ_mul]; omega
theorem qup (ds:List α):flatK enc k ds.toArray=((ds.map enc).flatten).toArray:=by
 apply Array.ext_getElem?
 intro t
 by_cases ht:t<ds.length*k
 ·have e0:(((ds.map enc).flatten).toArray)[t]? = some ((enc ds.toArray[t / k]!)[t % k]!):=by rw [List.getElem?_toArray]; exact quq hk hk0 ds t ht
  rw [e0]
  have hs:t<(flatK enc k ds.toArray).size:=by simpa using ht
  rw [Array.getElem?_eq_getElem hs]
  have:=get_flatK enc k ds.toArray t (by simpa using ht)
  rw [getElem!_pos _ t hs] at this
  rw [this]
 ·have e0:(((ds.map enc).flatten).toArray)[t]? = none:=by rw [List.getElem?_toArray]; exact List.getElem?_eq_none (by rw [qid hk]; omega)
  rw [e0]; exact Array.getElem?_eq_none (by simpa using Nat.le_of_not_lt ht)
end
theorem qv9 {α:Type} {encU:α→List U} (h:∀ x,okL (encU x)=true):∀ ds:List α,okL ((ds.map encU).flatten)=true
 | []=>rfl
 | x::ds=>by simp only [zQ,List.flatten_cons]; exact q5d (h x) (qv9 h ds)
theorem qs1 (pre fl fl' rest:List Value) (hl:fl'.length=fl.length):putCells id pre.length fl'.toArray (pre++fl++rest).toArray=(pre++fl'++rest).toArray:=by
 apply Array.ext_getElem?
 intro t
 simp only [putCells,Array.getElem?_mapIdx,List.getElem?_toArray,List.size_toArray,id]
 rcases Nat.lt_or_ge t pre.length with h1 | h1
 ·rw [zT,zT,List.getElem?_append_left h1,List.getElem?_append_left h1]
  simp [h1,show ¬ pre.length≤t by omega]
 ·rcases Nat.lt_or_ge t (pre.length+fl.length) with h2 | h2
  ·have e1:(pre++fl++rest)[t]? = some (fl[t - pre.length]'(by omega)):=by
    rw [zT,List.getElem?_append_right h1,List.getElem?_append_left (by omega)]
    exact List.getElem?_eq_getElem (by omega)
   have e2:(pre++fl'++rest)[t]? = some (fl'[t - pre.length]'(by omega)):=by
    rw [zT,List.getElem?_append_right h1,List.getElem?_append_left (by omega)]
    exact List.getElem?_eq_getElem (by omega)
   rw [e1,e2]
   simp only [zM]
   rw [if_pos ⟨h1,by omega⟩]
   rw [getElem!_pos _ _ (by simp; omega)]
   simp
  ·have e1:(pre++fl++rest)[t]? = rest[t - pre.length - fl.length]?:=by
    rw [zT,List.getElem?_append_right h1,List.getElem?_append_right (by omega)]
   have e2:(pre++fl'++rest)[t]? = rest[t - pre.length - fl.length]?:=by
    rw [zT,List.getElem?_append_right h1,List.getElem?_append_right (by omega),hl]
   rw [e1,e2]
   cases rest[t - pre.length - fl.length]? with
   | none=>rfl
   | some v=>simp only [zM]; rw [if_neg (by omega)]
end Go.Vx
end
