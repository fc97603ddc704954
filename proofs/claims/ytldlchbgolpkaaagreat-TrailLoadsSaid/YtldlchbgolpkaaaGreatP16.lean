import Derived.Shelf.GgSortFunc.RowK
import Derived.Test.YtldlchbgolpkaaaGreatP15
set_option linter.all false
namespace Go.Vx
open Go Go.Rx Go.Proofs Go.Sort
def z8p{m:Nm}{s:S}{w:PL}(h:fY m s w)(os:H2 Obj):bG m s w m s (grow w os):=by
 have lK:∀b,b<w.heap.size->(grow w os).heap[b]? = w.heap[b]?:=fun b hb=>by simp[Sort.grow];rw[Array.getElem?_append_left hb]
 refine⟨aI.refl _ _,zF _,fun m' ha=>?_,fun _ h=>.inl h,fun b hb _=>lK b hb,by simp[Sort.grow],rfl,rfl,rfl⟩;have hf:=h m' ha;exact⟨fun i b hb=>(hf.ok i b hb).world (lK _ (hf.size hb)),hf.inj,hf.bd⟩
section
variable{v11:Type}[Inhabited v11]{enc:v11->V O}{k:Nat}(hk:∀x,(enc x).length=k)(vE:0<k)
include hk vE
def qzy:∀(ds:V v11)(t:Nat),t<ds.length*k->((ds.map enc).flatten)[t]? = some ((enc ds.toArray[t/k]!)[t%k]!)
 |[],t,h=>by simp at h
 |x::ds,t,h=>by
  simp[zQ,List.flatten_cons];have hx:=hk x;rcases Nat.lt_or_ge t k with aF |EB;rw[List.getElem?_append_left (by omega),Nat.div_eq_of_lt aF,Nat.mod_eq_of_lt aF];simp[hx,aF];rw[List.getElem?_append_right (by omega),hx,qzy ds (t-k) (by simp[zO,Nat.succ_mul]at h;omega)];have e1:t/k=(t-k)/k+1:=by have:=Nat.sub_mul_div t k 1;rw[Nat.mul_one]at this;have h1:1<=t/k:=(Nat.one_le_div_iff vE).2 EB;omega
  have e2:t%k=(t-k)%k:=by rw[Nat.mod_eq_sub_mod EB]
  rw[e1,e2];simp
omit [Inhabited v11] vE in
def Gm(ds:V v11):((ds.map enc).flatten).length=ds.length*k:=by induction ds with|nil=>simp|cons x ds ih=>simp[zQ,List.flatten_cons,zU,hk,ih,zO,Nat.succ_mul];omega
def qzx(ds:V v11):flatK enc k ds.toArray=((ds.map enc).flatten).toArray:=by
 apply Array.ext_getElem?;intro t;by_cases ht:t<ds.length*k;have e0:(((ds.map enc).flatten).toArray)[t]? = some ((enc ds.toArray[t/k]!)[t%k]!):=by rw[List.getElem?_toArray];exact qzy hk vE ds t ht
 rw[e0];have hs:t<(flatK enc k ds.toArray).size:=by simpa using ht
 rw[Array.getElem?_eq_getElem hs];have:=get_flatK enc k ds.toArray t (by simpa using ht);rw[getElem!_pos _ t hs]at this;rw[this];have e0:(((ds.map enc).flatten).toArray)[t]? = none:=by rw[List.getElem?_toArray];exact List.getElem?_eq_none (by rw[Gm hk];omega)
 rw[e0];exact Array.getElem?_eq_none (by simpa using Nat.le_of_not_lt ht)
end
def Ou:∀{a b:V U}{va vb:V O},eG a=some va->eG b=some vb->eG (a++b)=some (va++vb)
 |[],b,va,vb,h,h'=>by simp[eG,zA]at h;subst h;simpa using h'
 |u::a,b,va,vb,h,h'=>by simp[eG]at h;rcases hu:toV u with _|v;simp[hu]at h;simp[hu]at h;rcases hl:eG a with _|vs;simp[hl]at h;simp[hl,zA]at h;subst h;simp[List.cons_append,eG,hu,Ou hl h']
def fi{v11:Type}{encU:v11->V U}{enc:v11->V O}(h:∀x,eG (encU x)=some (enc x)):∀ds:V v11,eG ((ds.map encU).flatten)=some ((ds.map enc).flatten)
 |[]=>rfl|x::ds=>by simp[zQ,List.flatten_cons];exact Ou (h x) (fi h ds)
def xl{v11:Type}{encU:v11->V U}(h:∀x,okL (encU x)=true):∀ds:V v11,okL ((ds.map encU).flatten)=true
 |[]=>rfl|x::ds=>by simp[zQ,List.flatten_cons];exact JB (h x) (xl h ds)
def qxe{v11:Type}{enc:v11->V O}(h:∀m x,aE m (enc x)=enc x)(m:Nm):∀ds:V v11,aE m ((ds.map enc).flatten)=(ds.map enc).flatten
 |[]=>by simp[aE]
 |x::ds=>by simp[zQ,List.flatten_cons];have h1:=qxe h m ds;have h2:=h m x;rw[kE]at h1 h2 ⊢;rw[List.map_append,h1,h2]
def qwr(pre fl fl' rest:V O)(hl:fl'.length=fl.length):putCells id pre.length fl'.toArray (pre++fl++rest).toArray=(pre++fl'++rest).toArray:=by
 apply Array.ext_getElem?;intro t;simp only[putCells,Array.getElem?_mapIdx,List.getElem?_toArray,List.size_toArray,id];rcases Nat.lt_or_ge t pre.length with h1 |h1;rw[zT,zT,List.getElem?_append_left h1,List.getElem?_append_left h1];simp[h1,show ¬ pre.length<=t by omega];rcases Nat.lt_or_ge t (pre.length+fl.length)with h2 |h2;have e1:(pre++fl++rest)[t]? = some (fl[t-pre.length]'(by omega)):=by rw[zT,List.getElem?_append_right h1,List.getElem?_append_left (by omega)];exact List.getElem?_eq_getElem (by omega)
 have e2:(pre++fl'++rest)[t]? = some (fl'[t-pre.length]'(by omega)):=by rw[zT,List.getElem?_append_right h1,List.getElem?_append_left (by omega)];exact List.getElem?_eq_getElem (by omega)
 rw[e1,e2];simp only[zM];rw[if_pos ⟨h1,by omega⟩];rw[getElem!_pos _ _ (by simp;omega)];simp;have e1:(pre++fl++rest)[t]? = rest[t-pre.length-fl.length]?:=by rw[zT,List.getElem?_append_right h1,List.getElem?_append_right (by omega)]
 have e2:(pre++fl'++rest)[t]? = rest[t-pre.length-fl.length]?:=by rw[zT,List.getElem?_append_right h1,List.getElem?_append_right (by omega),hl]
 rw[e1,e2];rcases rest[t-pre.length-fl.length]? with _|v;rfl;simp only[zM];rw[if_neg (by omega)]
end Go.Vx
