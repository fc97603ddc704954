import Derived.Shelf.GgSortFunc.RowK
import Derived.Test.YtldlchbgolpkaaaGreatP14
set_option linter.all false
namespace Go.Vx
open Go Go.Rx Go.Proofs Go.Sort
section
variable{α:Type}[Inhabited α]{enc:α->List Value}{k:Nat}(hk:∀x,(enc x).length=k)(I6:0<k)
include hk I6
omit [Inhabited α] I6 in
theorem tn(ds:List α):((ds.map enc).flatten).length=ds.length*k:=by
 induction ds with|nil=>simp|cons x ds ih=>simp only[zQ,List.flatten_cons,zU,hk,ih,zO,Nat.succ_mul];omega
end
theorem Br:∀{a b:List U}{va vb:List Value},dK a=some va->dK b=some vb->dK (a++b)=some (va++vb)
 |[],b,va,vb,h,h'=>by simp only[dK,zA]at h;subst h;simpa using h'
 |u::a,b,va,vb,h,h'=>by simp only[dK]at h;rcases hu:toV u with _|v;simp[hu]at h;simp only[hu]at h;rcases hl:dK a with _|vs;simp[hl]at h;simp only[hl,zA]at h;subst h;simp only[List.cons_append,dK,hu,Br hl h']
theorem Xp{α:Type}{encU:α->List U}{enc:α->List Value}(h:∀x,dK (encU x)=some (enc x)):∀ds:List α,dK ((ds.map encU).flatten)=some ((ds.map enc).flatten)
 |[]=>rfl|x::ds=>by simp only[zQ,List.flatten_cons];exact Br (h x) (Xp h ds)
theorem Ww{α:Type}{encU:α->List U}(h:∀x,okL (encU x)=true):∀ds:List α,okL ((ds.map encU).flatten)=true
 |[]=>rfl|x::ds=>by simp only[zQ,List.flatten_cons];exact BZ (h x) (Ww h ds)
theorem ee{α:Type}{enc:α->List Value}(h:∀m x,aE m (enc x)=enc x)(m:Nm):∀ds:List α,aE m ((ds.map enc).flatten)=(ds.map enc).flatten
 |[]=>by simp[aE]
 |x::ds=>by simp only[zQ,List.flatten_cons];have h1:=ee h m ds;have h2:=h m x;rw[jX]at h1 h2 ⊢;rw[List.map_append,h1,h2]
end Go.Vx
