/-
  VxB: the operations over trees: functions alone.
-/
import Derived.Test.YtcanbnholmlapaaVxA
namespace Go.Vx
open Go Go.Rx

mutual
def toV : U → Option Value
  | .bool b => some (.bool b)
  | .int k n => some (.int k n)
  | .str s => some (.string ⟨⟨s⟩⟩)
  | .nilp => some (.pointer none)
  | .nils => some (.slice none 0 0)
  | .nilm => some (.map none)
  | .nilf => some .nilFunc
  | .nili => some .nilIface
  | .agg l => cond (okL l) (match toVL l with
    | some vs => some (.agg ⟨vs⟩)
    | none => none) none
  | _ => none
def toVL : List U → Option (List Value)
  | [] => some []
  | u :: l => match toV u with
    | some v => (match toVL l with
      | some vs => some (v :: vs)
      | none => none)
    | none => none
end
mutual
def ofV : Value → Option U
  | .bool b => some (.bool b)
  | .int k n => some (.int k n)
  | .string s => some (.str s.data.toList)
  | .pointer none => some .nilp
  | .slice none n c => match n, c with
    | 0, 0 => some .nils
    | _, _ => none
  | .map none => some .nilm
  | .nilFunc => some .nilf
  | .nilIface => some .nili
  | .agg ⟨l⟩ => match ofVL l with
    | some us => cond (okL us) (some (.agg us)) none
    | none => none
  | _ => none
def ofVL : List Value → Option (List U)
  | [] => some []
  | v :: l => match ofV v with
    | some u => (match ofVL l with
      | some us => some (u :: us)
      | none => none)
    | none => none
end

/-- what lies in cells -/
def cellsO : U → Option (List U)
  | .junk => none
  | .tup _ => none
  | .agg l => some l
  | u => some [u]

def evalU (tm : List U) : Operand → Option U
  | .tmp t => nth tm t
  | .const v => ofV v
  | .func f => some (.fn (.func f) [] [])
  | .global _ => none
def evalUL (tm : List U) : List Operand → Option (List U)
  | [] => some []
  | x :: l => match evalU tm x with
    | some v => (match evalUL tm l with
      | some r => some (v :: r)
      | none => none)
    | none => none
def evalUP (tm : List U) : List (Nat × Operand) → Option (List (Nat × U))
  | [] => some []
  | (i, x) :: l => match evalU tm x with
    | some v => (match evalUP tm l with
      | some r => some ((i, v) :: r)
      | none => none)
    | none => none
/-- bounds of a slice expression: numbers -/
def evalUM (tm : List U) : Option Operand → Option (Option Value)
  | none => some none
  | some x => match evalU tm x with
    | some (.int k n) => some (some (.int k n))
    | _ => none

def live (σ : Sg) (k st : Nat) : Bool := match gt σ.h k with
  | some b => Nat.beq b.st st
  | none => false
/-- the cells of a row under its stamp -/
def cellsOf (σ : Sg) (k st : Nat) : Option (List U) := match gt σ.h k with
  | some (.row l _) => cond (Nat.beq 0 st) (some l) none
  | some (.vec l _ _ st') => cond (Nat.beq st' st) (some l) none
  | _ => none
def rowOf (σ : Sg) (k : Nat) : Option (List U) := match gt σ.h k with
  | some (.row l _) => some l
  | _ => none
def vecOf (σ : Sg) (k st : Nat) : Option (List U × TypeId × Nat) := match gt σ.h k with
  | some (.vec l e sz st') => cond (Nat.beq st' st) (some (l, e, sz)) none
  | _ => none
/-- the cells of a row, written anew -/
def putOf (σ : Sg) (k : Nat) (l : List U) : Option Sg := match gt σ.h k with
  | some (.row _ e) => some ⟨ug σ.h k (.row l e), σ.nx⟩
  | some (.vec _ e sz st) => some ⟨ug σ.h k (.vec l e sz st), σ.nx⟩
  | _ => none
def segU (l : List U) (off n : Nat) : Option (List U) := if off + n ≤ l.length then some ((l.drop off).take n) else none
def putU (l : List U) (off : Nat) (vs : List U) : Option (List U) := if off + vs.length ≤ l.length then some (l.take off ++ (vs ++ l.drop (off + vs.length))) else none

def partU (T : Tb) (t : TypeId) (cs : List U) (off : Nat) : Option U :=
  match T.und t with
  | none => none
  | some d => cond (isAggD d) (match sizeX T t with
      | some n => some (.agg ((cs.drop off).take n))
      | none => none) (nth cs off)
def fillU (place : Nat → Option (Nat × Nat)) (cells : List U) : List (Nat × U) → Option (List U)
  | [] => some cells
  | (i, v) :: rest => match place i with
    | none => none
    | some (off, size) => match cellsO v with
      | none => none
      | some cs => cond (Nat.beq cs.length size) (match putU cells off cs with
        | some c => fillU place c rest
        | none => none) none
def buildU (T : Tb) (t : TypeId) (ps : List (Nat × U)) : Option U :=
  match T.inf t with
  | none => none
  | some (_, _, z) => match ofVL z.cells.toList with
    | none => none
    | some zu => match T.und t with
      | some (.struct fs) => cond (sizesX T fs.toList) (match fillU (fieldPl T fs.toList) zu ps with
        | some cs => cond (okL cs) (some (.agg cs)) none
        | none => none) none
      | some (.array _ e) => (match sizeX T e with
        | none => none
        | some n => match fillU (fun i => some (i * n, n)) zu ps with
          | some cs => cond (okL cs) (some (.agg cs)) none
          | none => none)
      | _ => none

def g1 (f : Value → Option Value) (u : U) : Option U := match toV u with
  | some v => (match f v with
    | some r => ofV r
    | none => none)
  | none => none
def g2 (f : Value → Value → Option Value) (a b : U) : Option U := match toV a with
  | some x => (match toV b with
    | some y => (match f x y with
      | some r => ofV r
      | none => none)
    | none => none)
  | none => none
/-- is surely not nil: 1 a pointer, 2 a slice, 3 a map -/
def there (σ : Sg) : U → Nat
  | .ptr k st _ => cond (live σ k st) 1 0
  | .iptr _ => 1
  | .sl k _ _ _ => cond (live σ k 0) 2 0
  | .vl k st _ (_ + 1) => cond (live σ k st) 2 0
  | .isl _ (_ :: _) => 2
  | .map k => cond (live σ k 0) 3 0
  | _ => 0
def nilKind : U → Nat
  | .nilp => 1
  | .nils => 2
  | .nilm => 3
  | _ => 0
def kindT (T : Tb) (t : TypeId) : Nat := match T.und t with
  | some (.pointer _) => 1
  | some (.slice _) => 2
  | some (.map _ _) => 3
  | _ => 0
def cmpB : BinOp → Option U
  | .eql => some (.bool false)
  | .neq => some (.bool true)
  | _ => none
def nilCmp (T : Tb) (σ : Sg) (op : BinOp) (t : TypeId) (x y : U) : Option U :=
  cond (Nat.beq (kindT T t) 0) none (cond (cond (Nat.beq (there σ x) (kindT T t)) (Nat.beq (nilKind y) (kindT T t)) (cond (Nat.beq (nilKind x) (kindT T t)) (Nat.beq (there σ y) (kindT T t)) false))
    (cmpB op) none)
def binU (T : Tb) (σ : Sg) (op : BinOp) (t : TypeId) (x y : U) : Option U := match g2 (binX T op t) x y with
  | some r => some r
  | none => nilCmp T σ op t x y

def fieldAtU (T : Tb) (σ : Sg) (st : TypeId) (x : U) (f : Nat) : Option U :=
  match T.und st with
  | some (.struct fs) => match nth fs.toList f with
    | some fd => (match sizeX T fd.type with
      | some (_ + 1) => match x with
        | .ptr k s off => cond (live σ k s) (some (.ptr k s (off + fd.offset))) none
        | .iptr l => some (.iptr (l.drop fd.offset))
        | _ => none
      | _ => none)
    | none => none
  | _ => none
def fieldU (T : Tb) (st : TypeId) (x : U) (f : Nat) : Option U :=
  match T.und st with
  | some (.struct fs) => match nth fs.toList f with
    | some fd => (match x with
      | .agg cs => partU T fd.type cs fd.offset
      | _ => none)
    | none => none
  | _ => none
def indexAtU (T : Tb) (σ : Sg) (t : TypeId) (x ix : U) : Option U :=
  match ix with
  | .int _ i => match T.und t with
    | some (.slice e) => (match sizeX T e with
      | some sz => match x with
        | .sl k off n _ => cond (live σ k 0) (if 0 ≤ i ∧ i < n then some (.ptr k 0 (off + i.toNat * sz)) else none) none
        | .vl k st off n => (match vecOf σ k st with
          | some (l, _, sz') => cond (Nat.beq sz' sz) (if 0 ≤ i ∧ i < n ∧ l ≠ [] then some (.ptr k st (off * sz + i.toNat * sz)) else none) none
          | none => none)
        | .isl _ l => if 0 ≤ i ∧ i < l.length then (match l[i.toNat]? with
          | some c => cond (Nat.beq c.length sz) (some (.iptr c)) none
          | none => none) else none
        | _ => none
      | none => none)
    | some (.array n e) => (match sizeX T e with
      | some sz => match x with
        | .ptr k st off => cond (live σ k st) (if 0 ≤ i ∧ i < n then some (.ptr k st (off + i.toNat * sz)) else none) none
        | .iptr l => if 0 ≤ i ∧ i < n then some (.iptr (l.drop (i.toNat * sz))) else none
        | _ => none
      | none => none)
    | _ => none
  | _ => none
def indexU (T : Tb) (t : TypeId) (x ix : U) : Option U :=
  match x with
  | .agg cs => (match ix with
    | .int _ i => match T.und t with
      | some (.array n e) => (if 0 ≤ i ∧ i < n then (match sizeX T e with
        | some sz => partU T e cs (i.toNat * sz)
        | none => none) else none)
      | _ => none
    | _ => none)
  | _ => g2 (indexX T t) x ix
def extractU (x : U) (i : Nat) : Option U := match x with
  | .tup vs => nth vs i
  | _ => none
def lenU (T : Tb) (σ : Sg) (t : TypeId) (x : U) : Option U := match T.und t with
  | some (.slice _) => (match x with
    | .nils => some (.int .i64 0)
    | .sl k _ n _ => cond (live σ k 0) (some (.int .i64 n)) none
    | .vl k st _ n => cond (live σ k st) (some (.int .i64 n)) none
    | .isl _ l => some (.int .i64 l.length)
    | _ => none)
  | some .string => (match x with
    | .str s => some (.int .i64 s.length)
    | _ => none)
  | some (.array n _) => (match x with
    | .junk => none
    | _ => some (.int .i64 n))
  | some (.map _ _) => (match x with
    | .nilm => some (.int .i64 0)
    | .map k => (match gt σ.h k with
      | some (.map es _) => some (.int .i64 es.length)
      | _ => none)
    | _ => none)
  | _ => none

/-- the slice of a list -/
def cutL {α : Type} (l : List α) (lo hi : Nat) : List α := (l.take hi).drop lo
def sliceU (T : Tb) (σ : Sg) (t : TypeId) (x : U) (lo hi mx : Option Value) : Option U :=
  match T.und t with
  | some .string => (match x with
    | .str s => (match mx with
      | some _ => none
      | none => match boundsX s.length s.length lo hi none with
        | some (l, h, _) => some (.str (cutL s l h))
        | none => none)
    | _ => none)
  | some (.slice e) => (match sizeX T e with
    | some sz => match x with
      | .nils => (match boundsX 0 0 lo hi mx with
        | some _ => some .nils
        | none => none)
      | .sl k off n c => cond (live σ k 0) (match boundsX n c lo hi mx with
        | some (l, h, m) => some (.sl k (cond (Nat.beq m l) off (off + l * sz)) (h - l) (m - l))
        | none => none) none
      | .vl k st off n => (match vecOf σ k st with
        | some (r, _, sz') => cond (Nat.beq sz' sz) (match mx with
          | some _ => none
          | none => match boundsX n n lo hi none with
            | some (l, h, _) => if (off + n) * sz ≤ r.length then some (.vl k st (off + l) (h - l)) else none
            | none => none) none
        | none => none)
      | .isl t l => if (l.all fun c => Nat.beq c.length sz) = true then (match boundsX l.length l.length lo hi mx with
        | some (a, h, m) => (match mx with
            | some _ => if m < capBase then some (.isl (Nat.beq m h) (cutL l a h)) else none
            | none => some (.isl (cond t (Nat.beq h l.length) false) (cutL l a h)))
        | none => none) else none
      | _ => none
    | none => none)
  | _ => none

/-- the operations that leave the heap as it is, but for those that look into a row or a map -/
def pureU (T : Tb) (σ : Sg) (tm : List U) (op : Op) : Option U :=
  match op with
  | .move x => evalU tm x
  | .assign x => evalU tm x
  | .pick c a b => (match evalU tm c with
    | some (.bool true) => evalU tm a
    | some (.bool false) => evalU tm b
    | _ => none)
  | .build t ps => (match evalUP tm ps.toList with
    | some qs => buildU T t qs
    | none => none)
  | .nilCheck x => (match evalU tm x with
    | some (.ptr k st off) => cond (live σ k st) (some (.ptr k st off)) none
    | some (.iptr l) => some (.iptr l)
    | some (.fn (.func f) a b) => some (.fn (.func f) a b)
    | _ => none)
  | .binOp op t x y _ => (match evalU tm x, evalU tm y with
    | some a, some b => binU T σ op t a b
    | _, _ => none)
  | .unOp op _ x => (match evalU tm x with
    | some a => g1 (unX op) a
    | none => none)
  | .convert s d x => (match evalU tm x with
    | some a => g1 (convX T s d) a
    | none => none)
  | .makeFunc fn first cap => (match evalUL tm first.toList, evalUL tm cap.toList with
    | some a, some b => some (.fn fn a b)
    | _, _ => none)
  | .slice t x lo hi mx => (match evalU tm x, evalUM tm lo, evalUM tm hi, evalUM tm mx with
    | some a, some l, some h, some m => sliceU T σ t a l h m
    | _, _, _, _ => none)
  | .fieldAddr t x f => (match evalU tm x with
    | some a => fieldAtU T σ t a f
    | none => none)
  | .field t x f => (match evalU tm x with
    | some a => fieldU T t a f
    | none => none)
  | .indexAddr t x i => (match evalU tm x, evalU tm i with
    | some a, some b => indexAtU T σ t a b
    | _, _ => none)
  | .index t x i => (match evalU tm x, evalU tm i with
    | some a, some b => indexU T t a b
    | _, _ => none)
  | .extract x i => (match evalU tm x with
    | some a => extractU a i
    | none => none)
  | .call c => (match c.callee with
    | .builtin .len => (match evalUL tm c.args.toList, c.argTypes.toList with
      | some [x], t :: _ => lenU T σ t x
      | _, _ => none)
    | .builtin .max => (match evalUL tm c.args.toList with
      | some (x :: l) => (match toV x, toVL l with
        | some a, some b => (match foldX max2X a b with
          | some r => ofV r
          | none => none)
        | _, _ => none)
      | _ => none)
    | .builtin .min => (match evalUL tm c.args.toList with
      | some (x :: l) => (match toV x, toVL l with
        | some a, some b => (match foldX min2X a b with
          | some r => ofV r
          | none => none)
        | _, _ => none)
      | _ => none)
    | _ => none)
  | _ => none

def findU (T : Tb) (kt : TypeId) (k : Value) : List ME → Nat → Option (Option (Nat × U))
  | [], _ => some none
  | e :: es, i => match toV e.key with
    | none => none
    | some k' => match eqv T 50 kt k k' with
      | some true => some (some (i, e.val))
      | some false => findU T kt k es (i + 1)
      | none => none
def loadU (T : Tb) (t : TypeId) (l : List U) (off : Nat) : Option U := match T.und t with
  | none => none
  | some d => cond (isAggD d) (match sizeX T t with
      | some n => (match segU l off n with
        | some cs => some (.agg cs)
        | none => none)
      | none => none) (nth l off)
def readU (T : Tb) (σ : Sg) (tm : List U) (op : Op) : Option U :=
  match op with
  | .load t x => (match evalU tm x with
    | some (.ptr k st off) => (match cellsOf σ k st with
      | some l => loadU T t l off
      | none => none)
    | some (.iptr l) => loadU T t l 0
    | _ => none)
  | .lookup t x k ok => (match T.und t, evalU tm x, evalU tm k with
    | some (.map kt et), some m, some ku => (match toV ku with
      | none => none
      | some kv => cond (keyX T 50 kt kv)
        (match (match m with
            | .nilm => some []
            | .map r => (match gt σ.h r with
              | some (.map es _) => some es
              | _ => none)
            | _ => none) with
          | none => none
          | some es => match findU T kt kv es 0 with
            | none => none
            | some (some (_, v)) => some (cond ok (.tup [v, .bool true]) v)
            | some none => match T.inf et with
              | some (_, _, z) => (match ofV z with
                | some zu => some (cond ok (.tup [zu, .bool false]) zu)
                | none => none)
              | none => none) none)
    | _, _, _ => none)
  | _ => none

def newU (σ : Sg) (b : B) : Sg := ⟨(σ.nx, b) :: σ.h, σ.nx + 1⟩
/-- the elements of a slice: how many, their cells -/
def srcU (σ : Sg) (sz : Nat) (x : U) : Option (Nat × List U) := match x with
  | .nils => some (0, [])
  | .isl _ l => if (l.all fun c => Nat.beq c.length sz) = true then some (l.length, l.flatten) else none
  | .sl k off n _ => (match rowOf σ k with
    | some l => (match segU l off (n * sz) with
      | some cs => some (n, cs)
      | none => none)
    | none => none)
  | .vl k st off n => (match vecOf σ k st with
    | some (l, _, sz') => cond (Nat.beq sz' sz) (match segU l (off * sz) (n * sz) with
      | some cs => some (n, cs)
      | none => none) none
    | none => none)
  | _ => none
def appendU (T : Tb) (σ : Sg) (t xt : TypeId) (s x : U) : Option (U × Sg) :=
  match T.und t, T.und xt with
  | some (.slice e), some (.slice _) => (match T.inf e with
    | some (sz + 1, by_, z) => cond (Nat.beq z.cells.toList.length (sz + 1)) (match srcU σ (sz + 1) x with
      | none => none
      | some (k, new) => match s with
        | .nils => if k * by_ ≤ 140737488355328 ∧ k ≤ 140737488355328 then some (.vl σ.nx 0 0 k, newU σ (.vec new e (sz + 1) 0)) else none
        | .isl true l => if (l.length + k) * by_ ≤ 140737488355328 ∧ l.length + k ≤ 140737488355328 ∧ 0 < k ∧ (l.all fun c => Nat.beq c.length (sz + 1)) = true then some (.vl σ.nx 0 0 (l.length + k), newU σ (.vec (l.flatten ++ new) e (sz + 1) 0)) else none
        | .sl a off n c => (match rowOf σ a with
          | none => none
          | some l => match segU l off (n * (sz + 1)) with
            | none => none
            | some old => if n = 0 ∧ c = 0 then (if k * by_ ≤ 140737488355328 ∧ k ≤ 140737488355328 then some (.vl σ.nx 0 0 k, newU σ (.vec new e (sz + 1) 0)) else none)
              else if c < n + k then (if (n + k) * by_ ≤ 140737488355328 ∧ n + k ≤ 140737488355328 ∧ 0 < k then some (.vl σ.nx 0 0 (n + k), newU σ (.vec (old ++ new) e (sz + 1) 0)) else none) else none)
        | .vl a st off n => (match gt σ.h a with
          | some (.vec l e' sz' st') => cond (Nat.beq st' st) (cond (Nat.beq e' e) (cond (Nat.beq sz' (sz + 1)) (match segU l (off * (sz + 1)) (n * (sz + 1)) with
            | none => none
            | some p => if (n + k) * by_ ≤ 140737488355328 ∧ n + k ≤ 140737488355328 ∧ (0 < k ∧ (off = 0 ∨ 0 < n) ∨ off = 0 ∧ n * (sz + 1) = l.length) then some (.vl a (st + 1) 0 (n + k), ⟨ug σ.h a (.vec (p ++ new) e (sz + 1) (st + 1)), σ.nx⟩) else none) none) none) none
          | _ => none)
        | _ => none) none
    | _ => none)
  | _, _ => none
def copyU (T : Tb) (σ : Sg) (t : TypeId) (d x : U) : Option (U × Sg) :=
  match T.und t with
  | some (.slice e) => (match sizeX T e with
    | none => none
    | some sz => match srcU σ sz x with
      | none => none
      | some (k, cs) => match d with
        | .sl a off n _ => (match rowOf σ a with
          | some l => if n = 0 ∨ k = 0 ∨ sz = 0 then none else (match putU l off (cs.take (Nat.min k n * sz)) with
            | some l' => (match putOf σ a l' with
              | some σ' => some (.int .i64 (Nat.min k n), σ')
              | none => none)
            | none => none)
          | none => none)
        | _ => none)
  | _ => none
def storeU (T : Tb) (σ : Sg) (t : TypeId) (p u : U) : Option (U × Sg) :=
  match p with
  | .ptr k st off => (match sizeX T t with
    | none => none
    | some n => match cellsO u with
      | none => none
      | some cs => cond (Nat.beq cs.length n) (cond (okL cs) (match cellsOf σ k st with
        | some l => (match putU l off cs with
          | some l' => (match putOf σ k l' with
            | some σ' => some (.junk, σ')
            | none => none)
          | none => none)
        | none => none) none) none)
  | _ => none
def zerosU (z : List U) (n : Nat) : List U := (List.replicate n z).flatten
def makeU (T : Tb) (σ : Sg) (t : TypeId) (l c : U) : Option (U × Sg) :=
  match T.und t, l, c with
  | some (.slice e), .int _ a, .int _ b => (match T.inf e with
    | some (sz, by_, z) => (match ofVL z.cells.toList with
      | some zu => cond (okL zu) (cond (Nat.beq z.cells.toList.length sz) (if 0 ≤ a ∧ a ≤ b ∧ by_ * b.toNat ≤ 281474976710656 ∧ b ≤ 281474976710656 then
          some (.sl σ.nx 0 a.toNat b.toNat, newU σ (.row (zerosU zu b.toNat) e)) else none) none) none
      | none => none)
    | none => none)
  | _, _, _ => none
def makeListU (T : Tb) (σ : Sg) (t : TypeId) (n : Nat) (ps : List (Nat × U)) : Option (U × Sg) :=
  match T.und t with
  | some (.slice e) => (match T.inf e with
    | some (sz, _, z) => cond (Nat.ble (n * sz) 16777216) (cond (Nat.ble n 16777216) (cond (Nat.beq z.cells.toList.length sz) (match ofVL z.cells.toList with
      | none => none
      | some zu => match fillU (fun i => some (i * sz, sz)) (zerosU zu n) ps with
        | some cs => cond (okL cs) (some (.sl σ.nx 0 n n, newU σ (.row cs e))) none
        | none => none) none) none) none
    | none => none)
  | _ => none

def modU (es : List ME) (i : Nat) (f : ME → ME) : List ME := match es, i with
  | [], _ => []
  | e :: es, 0 => f e :: es
  | e :: es, i + 1 => e :: modU es i f
def bornU (b : Int) : List ME → Nat → Option Nat
  | [], _ => none
  | e :: es, i => cond (decide ((e.born : Int) = b)) (some i) (bornU b es (i + 1))
def eraseU (es : List ME) (i : Nat) : List ME := match es, i with
  | [], _ => []
  | _ :: es, 0 => es
  | e :: es, i + 1 => e :: eraseU es i
def mapSetU (σ : Sg) (r : Nat) (es : List ME) (cl : Nat) : Sg := ⟨ug σ.h r (.map es cl), σ.nx⟩
def mapUpU (T : Tb) (σ : Sg) (t : TypeId) (m k v : U) : Option (U × Sg) :=
  match T.und t, m with
  | some (.map kt _), .map r => (match toV k with
    | none => none
    | some kv => cond (keyX T 50 kt kv) (cond (plain kv) (match gt σ.h r with
      | some (.map es cl) => (match findU T kt kv es 0 with
        | none => none
        | some none => some (.junk, mapSetU σ r (es ++ [{ key := k, val := v, born := cl }]) (cl + 1))
        | some (some (i, _)) => match nth es i with
          | none => none
          | some e => match toV e.key with
            | none => none
            | some kv' => cond (veq 50 kv' kv) (some (.junk, mapSetU σ r (modU es i fun e => { e with val := v }) cl)) none)
      | _ => none) none) none)
  | _, _ => none
def mapEntU (T : Tb) (σ : Sg) (t : TypeId) (m k : U) : Option (U × Sg) :=
  match T.und t, m with
  | some (.map kt et), .map r => (match toV k with
    | none => none
    | some kv => cond (keyX T 50 kt kv) (cond (plain kv) (match gt σ.h r with
      | some (.map es cl) => (match findU T kt kv es 0 with
        | none => none
        | some none => (match T.inf et with
          | none => none
          | some (_, _, z) => match ofV z with
            | none => none
            | some zu => some (.tup [zu, .int .i64 cl], mapSetU σ r (es ++ [{ key := k, val := zu, born := cl }]) (cl + 1)))
        | some (some (i, v)) => match nth es i with
          | none => none
          | some e => match toV e.key with
            | none => none
            | some kv' => cond (veq 50 kv' kv) (some (.tup [v, .int .i64 e.born], mapSetU σ r es cl)) none)
      | _ => none) none) none)
  | _, _ => none
def entStU (σ : Sg) (m st v : U) : Option (U × Sg) :=
  match m, st with
  | .map r, .int _ b => (match gt σ.h r with
    | some (.map es cl) => (match bornU b es 0 with
      | none => none
      | some i => some (.junk, mapSetU σ r (modU es i fun e => { e with val := v }) cl))
    | _ => none)
  | _, _ => none
def delU (T : Tb) (σ : Sg) (t : TypeId) (m k : U) : Option (U × Sg) :=
  match T.und t, m with
  | some (.map kt _), .map r => (match toV k with
    | none => none
    | some kv => cond (keyX T 50 kt kv) (match gt σ.h r with
      | some (.map es cl) => (match findU T kt kv es 0 with
        | none => none
        | some none => some (.junk, mapSetU σ r es cl)
        | some (some (i, _)) => some (.junk, mapSetU σ r (eraseU es i) cl))
      | _ => none) none)
  | _, _ => none

def effU (T : Tb) (σ : Sg) (tm : List U) (op : Op) : Option (U × Sg) :=
  match op with
  | .alloc e => (match T.inf e with
    | some (_, _, z) => (match ofVL z.cells.toList with
      | some zu => cond (okL zu) (some (.ptr σ.nx 0 0, newU σ (.row zu e))) none
      | none => none)
    | none => none)
  | .box e x => (match evalU tm x with
    | some u => (match cellsO u with
      | some cs => cond (okL cs) (some (.ptr σ.nx 0 0, newU σ (.row cs e))) none
      | none => none)
    | none => none)
  | .store t a x => (match evalU tm a, evalU tm x with
    | some p, some v => storeU T σ t p v
    | _, _ => none)
  | .buildSlice t n ps => (match evalUP tm ps.toList with
    | some qs => makeListU T σ t n qs
    | none => none)
  | .makeSlice t l c => (match evalU tm l, evalU tm c with
    | some a, some b => makeU T σ t a b
    | _, _ => none)
  | .makeMap _ none => some (.map σ.nx, newU σ (.map [] 0))
  | .mapUpdate t m k x => (match evalU tm m, evalU tm k, evalU tm x with
    | some a, some b, some v => mapUpU T σ t a b v
    | _, _, _ => none)
  | .insert t m k x => (match evalU tm m, evalU tm k, evalU tm x with
    | some a, some b, some v => mapUpU T σ t a b v
    | _, _, _ => none)
  | .mapEntry t m k => (match evalU tm m, evalU tm k with
    | some a, some b => mapEntU T σ t a b
    | _, _ => none)
  | .entryStore _ m st x => (match evalU tm m, evalU tm st, evalU tm x with
    | some a, some b, some v => entStU σ a b v
    | _, _, _ => none)
  | .call c => (match c.callee with
    | .builtin .append => (match evalUL tm c.args.toList, c.argTypes.toList with
      | some [a, b], [t, xt] => appendU T σ t xt a b
      | _, _ => none)
    | .builtin .copy => (match evalUL tm c.args.toList, c.argTypes.toList with
      | some [a, b], t :: _ => copyU T σ t a b
      | _, _ => none)
    | .builtin .delete => (match evalUL tm c.args.toList, c.argTypes.toList with
      | some [a, b], t :: _ => delU T σ t a b
      | _, _ => none)
    | _ => none)
  | _ => none

def opU (T : Tb) (σ : Sg) (tm : List U) (op : Op) : Option (U × Sg) :=
  match pureU T σ tm op with
  | some v => some (v, σ)
  | none => match readU T σ tm op with
    | some v => some (v, σ)
    | none => effU T σ tm op
/-- a call of a function of the program -/
def callU (T : Tb) (tm : List U) (op : Op) : Option (FuncId × List U) :=
  match op with
  | .call c => (match c.callee with
    | .value f => (match evalU tm f with
      | some (.fn (.func g) first cap) => (match T.fn g with
        | some fn => cond fn.body.isSome (match evalUL tm c.args.toList with
          | some args => some (g, first ++ args ++ cap)
          | none => none) none
        | none => none)
      | _ => none)
    | _ => none)
  | _ => none
end Go.Vx
