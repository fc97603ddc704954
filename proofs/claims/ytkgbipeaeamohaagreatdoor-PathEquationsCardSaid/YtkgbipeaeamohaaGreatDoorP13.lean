/-
  Texts of the walk: VxV MpK.
-/
import Derived.Shelf.SlSortCmp.WholeK
import Derived.Test.YtkgbipeaeamohaaGreatDoorP12
set_option linter.unusedSimpArgs false
set_option linter.unusedVariables false
section
namespace Go.Vx
open Go Go.Rx Go.Proofs Go.Sort
def z2h {α:Type} (lt:α→α→Bool) (x:α):List α→List α
 | []=>[x]
 | y::l=>cond (lt y x) (y::z2h lt x l) (x::y::l)
def srt {α:Type} (lt:α→α→Bool):List α→List α
 | []=>[]
 | x::l=>z2h lt x (srt lt l)
theorem qlh {α:Type} (lt:α→α→Bool) (x:α):∀ l,(z2h lt x l).Perm (x::l)
 | []=>.refl _
 | y::l=>by
  simp only [z2h]
  cases lt y x with
  | true=>exact ((qlh lt x l).cons y).trans (.swap _ _ _)
  | false=>exact .refl _
theorem qtw {α:Type} (lt:α→α→Bool):∀ l,(srt lt l).Perm l
 | []=>.refl _
 | x::l=>(qlh lt x _).trans ((qtw lt l).cons x)
def Asc {α:Type} (lt:α→α→Bool) (l:List α):Prop:=l.Pairwise (fun x y=>lt y x=false)
theorem qsu {α:Type} {lt:α→α→Bool} (h:SWO lt) (x:α):∀ {l},Asc lt l→Asc lt (z2h lt x l)
 | [],_=>by simp [z2h,Asc]
 | y::l,ha=>by
  simp only [z2h]
  unfold Asc at ha ⊢
  rw [List.pairwise_cons] at ha
  cases hy:lt y x with
  | true =>
   simp only [cond_true]
   rw [List.pairwise_cons]
   refine ⟨fun z hz=>?_,qsu h x ha.2⟩
   have:=(qlh lt x l).mem_iff.1 hz
   rcases List.mem_cons.1 this with rfl | hz
   ·cases hzy:lt z y with
    | false=>rfl
    | true=>have:=h.trans y z y hy hzy; rw [h.irrefl] at this; cases this
   ·exact ha.1 z hz
  | false =>
   simp only [cond_false]
   rw [List.pairwise_cons]
   refine ⟨fun z hz=>?_,List.pairwise_cons.2 ha⟩
   rcases List.mem_cons.1 hz with rfl | hz
   ·exact hy
   ·exact h.ntrans z y x (ha.1 z hz) hy
theorem qxy {α:Type} {lt:α→α→Bool} (h:SWO lt):∀ l,Asc lt (srt lt l)
 | []=>by simp [srt,Asc]
 | x::l=>qsu h x (qxy h l)
end Go.Vx
end
section
namespace Go.Vx
open Go Go.Rx Go.Proofs Go.Sort Go.Shelf
def fLt {A:Type} (f:A→A→Option Int) (x y:A):Bool:=decide ((f x y).getD 0<0)
def okSort {A:Type} (eq:A→A→Bool) (f:A→A→Option Int) (ds:List A):Bool :=
 ds.all fun x=>!(fLt f x x)&&ds.all fun y=>(f x y).isSome&&((fLt f x y || (fLt f y x || eq x y))&&ds.all fun z=>(!(fLt f x y&&fLt f y z) || fLt f x z)&&(fLt f x y || (fLt f y z || !(fLt f x z))))
def sortO {A:Type} (eq:A→A→Bool) (f:A→A→Option Int) (ds:List A):Option (List A):=cond (Nat.ble ds.length 1000000&&okSort eq f ds) (some (srt (fLt f) ds)) none
end Go.Vx
end
