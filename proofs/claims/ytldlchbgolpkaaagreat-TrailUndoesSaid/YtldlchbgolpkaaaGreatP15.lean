import Derived.Shelf.GgSortFunc.RowK
import Derived.Test.YtldlchbgolpkaaaGreatP14
set_option linter.all false
namespace Go.Vx
open Go Go.Rx Go.Proofs Go.Sort
section
variable{O:Type}[Inhabited O]{enc:O->List Value}{k:Nat}(hk:∀x,(enc x).length=k)(Q1:0<k)
include hk Q1
omit [Inhabited O] Q1 in
theorem qul(ds:List O):((ds.map enc).flatten).length=ds.length*k:=by
 induction ds with|nil=>simp|cons x ds ih=>simp only[zQ,List.flatten_cons,zU,hk,ih,zO,Nat.succ_mul];omega
end
theorem Qg:∀{a b:List U}{va vb:List Value},eP a=some va->eP b=some vb->eP (a++b)=some (va++vb)
 |[],b,va,vb,h,h'=>by simp only[eP,zA]at h;subst h;simpa using h'
 |u::a,b,va,vb,h,h'=>by simp only[eP]at h;rcases hu:toV u with _|v;simp[hu]at h;simp only[hu]at h;rcases hl:eP a with _|vs;simp[hl]at h;simp only[hl,zA]at h;subst h;simp only[List.cons_append,eP,hu,Qg hl h']
theorem ii{O:Type}{encU:O->List U}{enc:O->List Value}(h:∀x,eP (encU x)=some (enc x)):∀ds:List O,eP ((ds.map encU).flatten)=some ((ds.map enc).flatten)
 |[]=>rfl|x::ds=>by simp only[zQ,List.flatten_cons];exact Qg (h x) (ii h ds)
theorem fb{O:Type}{encU:O->List U}(h:∀x,okL (encU x)=true):∀ds:List O,okL ((ds.map encU).flatten)=true
 |[]=>rfl|x::ds=>by simp only[zQ,List.flatten_cons];exact JB (h x) (fb h ds)
theorem qvu{O:Type}{enc:O->List Value}(h:∀m x,aJ m (enc x)=enc x)(m:Nm):∀ds:List O,aJ m ((ds.map enc).flatten)=(ds.map enc).flatten
 |[]=>by simp[aJ]
 |x::ds=>by simp only[zQ,List.flatten_cons];have h1:=qvu h m ds;have h2:=h m x;rw[mR]at h1 h2 ⊢;rw[List.map_append,h1,h2]
end Go.Vx
