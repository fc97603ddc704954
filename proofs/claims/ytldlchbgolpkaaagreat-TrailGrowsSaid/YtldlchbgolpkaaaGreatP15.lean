import Derived.Shelf.GgSortFunc.RowK
import Derived.Test.YtldlchbgolpkaaaGreatP14
set_option linter.all false
namespace Go.Vx
open Go Go.Rx Go.Proofs Go.Sort
section
variable{v11:Type}[Inhabited v11]{enc:v11->I M}{k:Nat}(hk:∀x,(enc x).length=k)(Q5:0<k)
include hk Q5
omit [Inhabited v11] Q5 in
def qva(ds:I v11):((ds.map enc).flatten).length=ds.length*k:=by induction ds with|nil=>simp|cons x ds ih=>simp only[zQ,List.flatten_cons,zU,hk,ih,zO,Nat.succ_mul];omega
end
def Qz:∀{a b:I U}{va vb:I M},eY a=some va->eY b=some vb->eY (a++b)=some (va++vb)
 |[],b,va,vb,h,h'=>by simp only[eY,zA]at h;subst h;simpa using h'
 |u::a,b,va,vb,h,h'=>by simp only[eY]at h;rcases hu:toV u with _|v;simp[hu]at h;simp only[hu]at h;rcases hl:eY a with _|vs;simp[hl]at h;simp only[hl,zA]at h;subst h;simp only[List.cons_append,eY,hu,Qz hl h']
def ot{v11:Type}{encU:v11->I U}{enc:v11->I M}(h:∀x,eY (encU x)=some (enc x)):∀ds:I v11,eY ((ds.map encU).flatten)=some ((ds.map enc).flatten)
 |[]=>rfl|x::ds=>by simp only[zQ,List.flatten_cons];exact Qz (h x) (ot h ds)
def nn{v11:Type}{encU:v11->I U}(h:∀x,okL (encU x)=true):∀ds:I v11,okL ((ds.map encU).flatten)=true
 |[]=>rfl|x::ds=>by simp only[zQ,List.flatten_cons];exact JE (h x) (nn h ds)
def qwn{v11:Type}{enc:v11->I M}(h:∀m x,aJ m (enc x)=enc x)(m:Nm):∀ds:I v11,aJ m ((ds.map enc).flatten)=(ds.map enc).flatten
 |[]=>by simp[aJ]
 |x::ds=>by simp only[zQ,List.flatten_cons];have h1:=qwn h m ds;have h2:=h m x;rw[mY]at h1 h2 ⊢;rw[List.map_append,h1,h2]
end Go.Vx
