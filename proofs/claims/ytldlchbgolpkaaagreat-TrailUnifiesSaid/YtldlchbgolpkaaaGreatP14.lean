/-
  Texts of the walk: VxS.
-/
import Derived.Shelf.GgSortFunc.RowK
import Derived.Test.YtldlchbgolpkaaaGreatP13
set_option linter.unusedSimpArgs false
set_option linter.unusedVariables false
section
namespace Go.Vx
open Go Go.Rx Go.Proofs Go.Sort
section
variable {α:Type} [Inhabited α] {enc:α→List Value} {k:Nat} (hk:∀ x,(enc x).length=k) (hk0:0<k)
include hk hk0
omit [Inhabited α] hk0 in
theorem qri (ds:List α):((ds.map enc).flatten).length=ds.length*k:=by
 induction ds with
 | nil=>simp
 | cons x ds ih=>simp only [zQ,List.flatten_cons,zU,hk,ih,zO,Nat.succ_mul]; omega
end
theorem qdd:∀ {a b:List U} {va vb:List Value},toVL a=some va→toVL b=some vb→toVL (a++b)=some (va++vb)
 | [],b,va,vb,h,h'=>by simp only [toVL,zA] at h; subst h; simpa using h'
 | u::a,b,va,vb,h,h'=>by
  simp only [toVL] at h
  cases hu:toV u with
  | none=>simp [hu] at h
  | some v =>
   simp only [hu] at h
   cases hl:toVL a with
   | none=>simp [hl] at h
   | some vs =>
    simp only [hl,zA] at h
    subst h
    simp only [List.cons_append,toVL,hu,qdd hl h']
theorem qnm {α:Type} {encU:α→List U} {enc:α→List Value} (h:∀ x,toVL (encU x)=some (enc x)):∀ ds:List α,toVL ((ds.map encU).flatten)=some ((ds.map enc).flatten)
 | []=>rfl
 | x::ds=>by simp only [zQ,List.flatten_cons]; exact qdd (h x) (qnm h ds)
theorem qpp {α:Type} {encU:α→List U} (h:∀ x,okL (encU x)=true):∀ ds:List α,okL ((ds.map encU).flatten)=true
 | []=>rfl
 | x::ds=>by simp only [zQ,List.flatten_cons]; exact q66 (h x) (qpp h ds)
theorem qsk {α:Type} {enc:α→List Value} (h:∀ m x,renL m (enc x)=enc x) (m:Nm):∀ ds:List α,renL m ((ds.map enc).flatten)=(ds.map enc).flatten
 | []=>by simp [renL]
 | x::ds=>by
  simp only [zQ,List.flatten_cons]
  have h1:=qsk h m ds
  have h2:=h m x
  rw [q2s] at h1 h2 ⊢
  rw [List.map_append,h1,h2]
end Go.Vx
end
