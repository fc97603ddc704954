import Derived.Shelf.GgSortFunc.RowK
import Derived.Test.YtldlchbgolpkaaaGreatP14
set_option linter.all false
namespace Go.Vx
open Go Go.Rx Go.Proofs Go.Sort
section
variable{X:Type}[Inhabited X]{enc:X->List Value}{k:Nat}(hk:∀x,(enc x).length=k)(MZ:0<k)
include hk MZ
omit [Inhabited X] MZ in
theorem qs5(ds:List X):((ds.map enc).flatten).length=ds.length*k:=by
 induction ds with|nil=>simp|cons x ds ih=>simp only[zQ,List.flatten_cons,zU,hk,ih,zO,Nat.succ_mul];omega
end
theorem Lc:∀{a b:List U}{va vb:List Value},eL a=some va->eL b=some vb->eL (a++b)=some (va++vb)
 |[],b,va,vb,h,h'=>by simp only[eL,zA]at h;subst h;simpa using h'
 |u::a,b,va,vb,h,h'=>by simp only[eL]at h;rcases hu:toV u with _|v;simp[hu]at h;simp only[hu]at h;rcases hl:eL a with _|vs;simp[hl]at h;simp only[hl,zA]at h;subst h;simp only[List.cons_append,eL,hu,Lc hl h']
theorem ss{X:Type}{encU:X->List U}{enc:X->List Value}(h:∀x,eL (encU x)=some (enc x)):∀ds:List X,eL ((ds.map encU).flatten)=some ((ds.map enc).flatten)
 |[]=>rfl|x::ds=>by simp only[zQ,List.flatten_cons];exact Lc (h x) (ss h ds)
theorem ut{X:Type}{encU:X->List U}(h:∀x,okL (encU x)=true):∀ds:List X,okL ((ds.map encU).flatten)=true
 |[]=>rfl|x::ds=>by simp only[zQ,List.flatten_cons];exact G8 (h x) (ut h ds)
theorem qta{X:Type}{enc:X->List Value}(h:∀m x,aI m (enc x)=enc x)(m:Nm):∀ds:List X,aI m ((ds.map enc).flatten)=(ds.map enc).flatten
 |[]=>by simp[aI]
 |x::ds=>by simp only[zQ,List.flatten_cons];have h1:=qta h m ds;have h2:=h m x;rw[m4]at h1 h2 ⊢;rw[List.map_append,h1,h2]
end Go.Vx
