/-
  Texts of the walk: VxV MpK.
-/
import Derived.Shelf.SlSortCmp.WholeK
import Derived.Test.YtkgbipeaeamohaaGreatDoorP12
set_option linter.unusedSimpArgs false
set_option linter.unusedVariables false
section
namespace Go.Vx
open Go Go.Rx Go.Proofs Go.Sort
def insB {α:Type} (lt:α→α→Bool) (x:α):List α→List α
 | []=>[x]
 | y::l=>cond (lt y x) (y::insB lt x l) (x::y::l)
def srt {α:Type} (lt:α→α→Bool):List α→List α
 | []=>[]
 | x::l=>insB lt x (srt lt l)
end Go.Vx
end
section
namespace Go.Vx
open Go Go.Rx Go.Proofs Go.Sort Go.Shelf
def fLt {A:Type} (f:A→A→Option Int) (x y:A):Bool:=decide ((f x y).getD 0<0)
def okSort {A:Type} (eq:A→A→Bool) (f:A→A→Option Int) (ds:List A):Bool :=
 ds.all fun x=>!(fLt f x x)&&ds.all fun y=>(f x y).isSome&&((fLt f x y || (fLt f y x || eq x y))&&ds.all fun z=>(!(fLt f x y&&fLt f y z) || fLt f x z)&&(fLt f x y || (fLt f y z || !(fLt f x z))))
def sortO {A:Type} (eq:A→A→Bool) (f:A→A→Option Int) (ds:List A):Option (List A):=cond (Nat.ble ds.length 1000000&&okSort eq f ds) (some (srt (fLt f) ds)) none
end Go.Vx
end
