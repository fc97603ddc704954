/-
  Texts of the walk: H4.
-/
import Derived.Test.YtkgbipeaeamohaaGreatDoorP15
set_option linter.unusedSimpArgs false
set_option linter.unusedVariables false
section
namespace Go.Proofs
open Go Go.Rx Go.Vx Tryz
set_option maxRecDepth 20000
set_option maxHeartbeats 4000000
set_option synthInstance.maxSize 4000
set_option synthInstance.maxHeartbeats 200000
instance {a b:Int}:DeC q1t [.int .i64 a,.int .i64 b] (q3x.mk a b):=⟨rfl⟩
structure q0z where
 Typex:Int
 Arcs:List q3x
def q07 (x:q0z):List U:=[.int .i64 x.Typex,.isl false (List.map q1t x.Arcs)]
instance {a0:Int} {a1:List q3x}:DeC q07 [.int .i64 a0,.isl false (List.map q1t a1)] (q0z.mk a0 a1):=⟨rfl⟩
theorem qla (n:Nat) (x:q0z):q1l n (q07 x):=by
 simp only [q07,q1l,Bel,true_and,and_true]
 exact q4h _ (fun q=>qiv _ q) _
theorem qs8 (x:q0z):(q07 x).length=2:=rfl
instance:ql6 q07 2:=⟨qs8⟩
instance:BF q07:=⟨qla⟩
instance (n:Nat) (x:q0z):BUL n (q07 x):=⟨qla n x⟩
structure GFS where
 Nodes:List q0z
structure q0i where
 A:List Int
 B:List Int
def q18 (x:q0i):List U:=[.isl false (List.map (cI .i64) x.A),.isl false (List.map (cI .i64) x.B)]
instance {a0:List Int} {a1:List Int}:DeC q18 [.isl false (List.map (cI .i64) a0),.isl false (List.map (cI .i64) a1)] (q0i.mk a0 a1):=⟨rfl⟩
theorem qlz (n:Nat) (x:q0i):q1l n (q18 x):=by
 simp only [q18,q1l,Bel,true_and,and_true]
 exact ⟨q4h _ (fun q=>qej _ .i64 q) _,q4h _ (fun q=>qej _ .i64 q) _⟩
theorem qmb (x:q0i):(q18 x).length=2:=rfl
instance:ql6 q18 2:=⟨qmb⟩
instance:BF q18:=⟨qlz⟩
structure q0v where
 Feat:Int
 Value:Int
def q1e (x:q0v):List U:=[.int .i64 x.Feat,.int .i64 x.Value]
instance {a0:Int} {a1:Int}:DeC q1e [.int .i64 a0,.int .i64 a1] (q0v.mk a0 a1):=⟨rfl⟩
theorem qhk (n:Nat) (x:q0v):q1l n (q1e x):=by
 simp only [q1e,q1l,Bel,true_and,and_true]
theorem qo0 (x:q0v):(q1e x).length=2:=rfl
instance:ql6 q1e 2:=⟨qo0⟩
instance:BF q1e:=⟨qhk⟩
structure qcx where
 Name:List UInt8
 Code:List Int
 Supers:List Int
 Feats:List q0v
def qd3 (x:qcx):List U:=[.str x.Name,.isl false (List.map (cI .u64) x.Code),.isl false (List.map (cI .i64) x.Supers),.isl false (List.map q1e x.Feats)]
instance {a0:List UInt8} {a1:List Int} {a2:List Int} {a3:List q0v}:DeC qd3 [.str a0,.isl false (List.map (cI .u64) a1),.isl false (List.map (cI .i64) a2),.isl false (List.map q1e a3)] (qcx.mk a0 a1 a2 a3):=⟨rfl⟩
theorem qlb (n:Nat) (x:qcx):q1l n (qd3 x):=by
 simp only [qd3,q1l,Bel,true_and,and_true]
 exact ⟨q4h _ (fun q=>qej _ .u64 q) _,q4h _ (fun q=>qej _ .i64 q) _,q4h _ (fun q=>qhk _ q) _⟩
theorem qs9 (x:qcx):(qd3 x).length=4:=rfl
instance:ql6 qd3 4:=⟨qs9⟩
instance:BF qd3:=⟨qlb⟩
structure q0o where
 Name:List UInt8
 Intro:Int
def q2y (x:q0o):List U:=[.str x.Name,.int .i64 x.Intro]
instance {a0:List UInt8} {a1:Int}:DeC q2y [.str a0,.int .i64 a1] (q0o.mk a0 a1):=⟨rfl⟩
theorem qf8 (n:Nat) (x:q0o):q1l n (q2y x):=by
 simp only [q2y,q1l,Bel,true_and,and_true]
theorem qma (x:q0o):(q2y x).length=2:=rfl
instance:ql6 q2y 2:=⟨qma⟩
instance:BF q2y:=⟨qf8⟩
def q52 (x y:q0o):Bool:=(q0j x.Name y.Name&&(x.Intro == y.Intro))
structure q09 where
 Types:List qcx
 Feats:List q0o
def q0b (x:q09):List U:=[.isl false (List.map qd3 x.Types),.isl false (List.map q2y x.Feats)]
theorem qix (n:Nat) (x:q09):q1l n (q0b x):=by
 simp only [q0b,q1l,Bel,true_and,and_true]
 exact ⟨q4h _ (fun q=>qlb _ q) _,q4h _ (fun q=>qf8 _ q) _⟩
theorem qjm (x:q09):(q0b x).length=2:=rfl
instance:ql6 q0b 2:=⟨qjm⟩
instance (n:Nat) (x:q09):BUL n (q0b x):=⟨qix n x⟩
structure q0u where
 Feat:List UInt8
 Value:List UInt8
def q0e (x:q0u):List U:=[.str x.Feat,.str x.Value]
instance {a0:List UInt8} {a1:List UInt8}:DeC q0e [.str a0,.str a1] (q0u.mk a0 a1):=⟨rfl⟩
theorem qeh (n:Nat) (x:q0u):q1l n (q0e x):=by
 simp only [q0e,q1l,Bel,true_and,and_true]
theorem qkt (x:q0u):(q0e x).length=2:=rfl
instance:ql6 q0e 2:=⟨qkt⟩
instance:BF q0e:=⟨qeh⟩
structure q01 where
 Name:List UInt8
 Supers:List (List UInt8)
 Feats:List q0u
def q02 (x:q01):List U:=[.str x.Name,.isl false (List.map cS x.Supers),.isl false (List.map q0e x.Feats)]
theorem qei (n:Nat) (x:q01):q1l n (q02 x):=by
 simp only [q02,q1l,Bel,true_and,and_true]
 exact ⟨q4h _ (fun q=>qxr _ q) _,q4h _ (fun q=>qeh _ q) _⟩
theorem qku (x:q01):(q02 x).length=3:=rfl
instance:ql6 q02 3:=⟨qku⟩
instance:BF q02:=⟨qei⟩
instance (n:Nat) (x:q01):BUL n (q02 x):=⟨qei n x⟩
structure q0c where
 Name:List UInt8
 Code:List Int
instance:Inhabited q0c:=⟨.mk default default⟩
def q0d (x:q0c):List U:=[.str x.Name,.isl false (List.map (cI .u64) x.Code)]
instance {a0:List UInt8} {a1:List Int}:DeC q0d [.str a0,.isl false (List.map (cI .u64) a1)] (q0c.mk a0 a1):=⟨rfl⟩
theorem qiw (n:Nat) (x:q0c):q1l n (q0d x):=by
 simp only [q0d,q1l,Bel,true_and,and_true]
 exact q4h _ (fun q=>qej _ .u64 q) _
theorem q4q (x:q0c):(q0d x).length=2:=rfl
instance:ql6 q0d 2:=⟨q4q⟩
instance:BF q0d:=⟨qiw⟩
instance (n:Nat) (x:q0c):BUL n (q0d x):=⟨qiw n x⟩
theorem Tryz.eqs82:Tryz.tb.eqs 82=true:=by kernel_rfl
theorem eqv82 (x y:q0o):eqv Tryz.tb 50 82 (.agg ⟨[.string ⟨⟨x.Name⟩⟩,.int .i64 x.Intro]⟩) (.agg ⟨[.string ⟨⟨y.Name⟩⟩,.int .i64 y.Intro]⟩)=some (q52 x y):=by
 simp only [eqv,cond_true,cond_false,qz7,qh6,q4j,nth,q0m,List.drop,List.take,List.toList_toArray,q52,ne_eq,String.reduceEq,not_false_eq_true,if_true,un3.h,un9.h,un82.h,eqs82,if82.h]
 cases q0j x.Name y.Name<;>cases (x.Intro == y.Intro)<;>rfl
theorem qti (x y:q0o):g2 (qko Tryz.tb .eql 82) (.agg [.str x.Name,.int .i64 x.Intro]) (.agg [.str y.Name,.int .i64 y.Intro])=some (.bool (q52 x y)):=by
 simp only [g2,toV,qn7,okL,okC,cond_true,qko,q9y,eqs82,eqv82,ofV]
instance Tryz.bd24:BdC Tryz.tb 24 [.nils] [(0,1)]:=⟨bdT un24.h if24.h rfl (by kernel_rfl)⟩
instance Tryz.bd43:BdC Tryz.tb 43 [.nils,.nils] [(0,1),(1,1)]:=⟨bdT un43.h if43.h rfl (by kernel_rfl)⟩
instance Tryz.bd54:BdC Tryz.tb 54 [.int .i64 0,.nils] [(0,1),(1,1)]:=⟨bdT un54.h if54.h rfl (by kernel_rfl)⟩
instance Tryz.bd56:BdC Tryz.tb 56 [.nils,.nils] [(0,1),(1,1)]:=⟨bdT un56.h if56.h rfl (by kernel_rfl)⟩
instance Tryz.bd66:BdC Tryz.tb 66 [.int .i64 0,.int .i64 0] [(0,1),(1,1)]:=⟨bdT un66.h if66.h rfl (by kernel_rfl)⟩
instance Tryz.bd82:BdC Tryz.tb 82 [.str [],.int .i64 0] [(0,1),(1,1)]:=⟨bdT un82.h if82.h rfl (by kernel_rfl)⟩
instance Tryz.bd105:BdC Tryz.tb 105 [.str [],.nils] [(0,1),(1,1)]:=⟨bdT un105.h if105.h rfl (by kernel_rfl)⟩
instance Tryz.bd109:BdC Tryz.tb 109 [.str [],.nils,.nils,.nils] [(0,1),(1,1),(2,1),(3,1)]:=⟨bdT un109.h if109.h rfl (by kernel_rfl)⟩
instance Tryz.bd127:BdC Tryz.tb 127 [.str [],.nils,.nils] [(0,1),(1,1),(2,1)]:=⟨bdT un127.h if127.h rfl (by kernel_rfl)⟩
instance Tryz.bd147:BdC Tryz.tb 147 [.int .i64 0,.int .i64 0] [(0,1),(1,1)]:=⟨bdT un147.h if147.h rfl (by kernel_rfl)⟩
instance Tryz.bd162:BdC Tryz.tb 162 [.str [],.str []] [(0,1),(1,1)]:=⟨bdT un162.h if162.h rfl (by kernel_rfl)⟩
def qfp  (w13:qeg Int Bool):Option (Int) :=
 some 0
def qaq (p1:q0z) (p2:Int):Nat→Int→(qeg Int Bool)→Option (Int)
 | 0,_,_=>none
 | m1+1,z11,w12 =>
  cond (decide (z11<(p1.Arcs.length:Int)))
   (q03 (q0r p1.Arcs z11) fun x15 =>
   q03 (cond (decide (x15.Feat<0))
    (some true)
    (cond (decide (x15.To<0))
     (some true)
     (some (decide (x15.To ≥ p2))))) fun b19 =>
   cond b19
    (some 2)
    (cond ((mGet (fun a b=>a == b) w12 x15.Feat).getD false)
     (some 4)
     ((qaq p1 p2 m1) (IntKind.i64.wrap (z11+1)) (mUpd (fun a b=>a == b) w12 x15.Feat true))))
   (qfp w12)
def qjh (n:Nat) (p1:q0z) (p2:Int):Option (Int) :=
 cond (decide (p1.Typex<0))
  (some 2)
  (qaq p1 p2 n 0 (mNew:qeg Int Bool))
def qai (z7:Int) (l8:List q3x) (rc2:Int→(List q3x)→Option ((List q3x))) (x13:q3x)  : Option ((List q3x)) :=
 rc2 (IntKind.i64.wrap (z7+1)) (l8++[x13])
def qah  (l10:List q3x):Option ((List q3x)) :=
 some l10
def q5h (p1:List q3x):Nat→Int→(List q3x)→Option ((List q3x))
 | 0,_,_=>none
 | m2+1,z7,l8 =>
  cond (decide (z7<(p1.length:Int)))
   (q03 (q0r p1 z7) fun x13 =>
   q0y ((l8.length+1)*16≤140737488355328∧l8.length+1≤140737488355328) (
   qai z7 l8 (q5h p1 m2) x13))
   (qah l8)
def qcq (n:Nat) (p1:List q3x):Option ((List q3x)) :=
 q5h p1 n 0 ([]:List q3x)
def qdp (n:Nat) (p1:List q3x):Option ((List q3x)) :=
 q03 (qcq n p1) fun r2 =>
 some r2
def q6o (n:Nat) (p1:List q3x):Option ((List q3x)) :=
 q03 (qdp n p1) fun r2 =>
 q03 (sortO eqA (fun a b=>qjf n a b ) r2) fun r6 =>
 some r6
def q95 (n:Nat) (p1:List q3x):Option ((List q3x)) :=
 some p1
def q6u (z24:Int) (rc1:Int→(List Int)→(qeg Int Int)→Option ((List Int)×(qeg Int Int))) (l35:List Int) (w37:qeg Int Int):Option ((List Int)×(qeg Int Int)) :=
 rc1 (IntKind.i64.wrap (z24+1)) l35 w37
def qbu  (l28:List Int) (w30:qeg Int Int):Option ((List Int)×(qeg Int Int)) :=
 some (l28,w30)
def q3y (p2:List q0z) (r12:(List q3x)) (self:Int→(List q0z)→(List Int)→(qeg Int Int)→Option ((List Int)×(qeg Int Int))):Nat→Int→(List Int)→(qeg Int Int)→Option ((List Int)×(qeg Int Int))
 | 0,_,_,_=>none
 | m1+1,z24,l25,w27 =>
  cond (decide (z24<(r12.length:Int)))
   (q03 (q0r r12 z24) fun x32 =>
   cond (!((mGet (fun a b=>a == b) w27 x32.To).isSome))
    (q03 (self x32.To p2 l25 w27) fun r38 =>
    q6u z24 (q3y p2 r12 self m1) r38.1 r38.2)
    (q6u z24 (q3y p2 r12 self m1) l25 w27))
   (qbu l25 w27)
def qcz (n:Nat) (self:Int→(List q0z)→(List Int)→(qeg Int Int)→Option ((List Int)×(qeg Int Int))) (p1:Int) (p2:List q0z) (p3:List Int) (p5:qeg Int Int):Option ((List Int)×(qeg Int Int)) :=
 q0y ((p3.length+1)*8≤140737488355328∧p3.length+1≤140737488355328) (
 q03 (q0r p2 p1) fun x7 =>
 q03 (q95 n x7.Arcs) fun r9 =>
 q03 (q6o n r9) fun r12 =>
 q3y p2 r12 self n 0 (p3++[p1]) (mUpd (fun a b=>a == b) p5 p1 (p3.length:Int)))
def q92:Nat→Int→(List q0z)→(List Int)→(qeg Int Int)→Option ((List Int)×(qeg Int Int))
 | 0,_,_,_,_=>none
 | n+1,p1,p2,p3,p5=>qcz n (q92 n) p1 p2 p3 p5
def qfo (p1:GFS) (r3:(List Int)×(qeg Int Int)) (z14:Int) (l15:List q0z) (rc1:Int→(List q0z)→Option (GFS)) (x19:Int) (l44:List q3x):Option (GFS) :=
 q03 (q0r p1.Nodes x19) fun x45 =>
 q03 (qs5 l15 0 ((r3.1.length:Int).toNat) z14) fun x47 =>
 rc1 (IntKind.i64.wrap (z14+1)) (l15.set z14.toNat (q0z.mk x45.Typex l44))
def qap (p1:GFS) (r3:(List Int)×(qeg Int Int)) (z14:Int) (l15:List q0z) (rc1:Int→(List q0z)→Option (GFS)) (x19:Int) (r26:(List q3x)):Nat→Int→(List q3x)→Option (GFS)
 | 0,_,_=>none
 | m2+1,z42,l43 =>
  cond (decide (z42<(r26.length:Int)))
   (q03 (q0r l43 z42) fun x50 =>
   q03 (q0r l43 z42) fun x52 =>
   (qap p1 r3 z14 l15 rc1 x19 r26 m2) (IntKind.i64.wrap (z42+1)) (l43.set (0+z42.toNat) (q3x.mk x52.Feat ((mGet (fun a b=>a == b) r3.2 x50.To).getD 0))))
   (qfo p1 r3 z14 l15 rc1 x19 l43)
def qfn (r3:(List Int)×(qeg Int Int)) (l16:List q0z):Option (GFS) :=
 q0y ((r3.1.length:Int).toNat=l16.length) (
 some (GFS.mk l16))
def qao (p1:GFS) (n:Nat) (r3:(List Int)×(qeg Int Int)):Nat→Int→(List q0z)→Option (GFS)
 | 0,_,_=>none
 | m1+1,z14,l15 =>
  cond (decide (z14<(r3.1.length:Int)))
   (q03 (q0r r3.1 z14) fun x19 =>
   q03 (q0r p1.Nodes x19) fun x21 =>
   q03 (q95 n x21.Arcs) fun r23 =>
   q03 (q6o n r23) fun r26 =>
   qap p1 r3 z14 l15 (qao p1 n r3 m1) x19 r26 n 0 r26)
   (qfn r3 l15)
def qjg (n:Nat) (p1:GFS) (p2:Int):Option (GFS) :=
 q03 (q92 n p2 p1.Nodes ([]:List Int) (mNew:qeg Int Int)) fun r3 =>
 q0y (0≤(r3.1.length:Int)∧32*(r3.1.length:Int).toNat≤281474976710656∧(r3.1.length:Int)≤281474976710656) (
 qao p1 n r3 n 0 (List.replicate (r3.1.length:Int).toNat (q0z.mk 0 [])))
def qkq (p1:GFS) (n:Nat)  : Option (GFS×Int) :=
 q03 (qjg n p1 0) fun r9 =>
 some (r9,0)
def qkr (p1:GFS) (n:Nat):Nat→Int→Option (GFS×Int)
 | 0,_=>none
 | m1+1,z8 =>
  cond (decide (z8<(p1.Nodes.length:Int)))
   (q03 (q0r p1.Nodes z8) fun x12 =>
   q03 (qjh n x12 (p1.Nodes.length:Int)) fun r14 =>
   cond (r14 != 0)
    (some ((GFS.mk []),r14))
    ((qkr p1 n m1) (IntKind.i64.wrap (z8+1))))
   (qkq p1 n)
def qk5 (p1:List q3x) (z6:Int) (l7:List q3x) (rc1:Int→(List q3x)→Option ((List q3x))) (z18:Int):Option ((List q3x)) :=
 q0y ((0:Int)≤z18∧z18≤((l7.length:Nat):Int)) (
 q0y (0+z18.toNat≤l7.length) (
 q0y (((l7.drop 0).take z18.toNat).length*16≤140737488355328∧((l7.drop 0).take z18.toNat).length≤140737488355328) (
 q03 (q0r p1 z6) fun x22 =>
 q0y ((((l7.drop 0).take z18.toNat).length+1)*16≤140737488355328∧((l7.drop 0).take z18.toNat).length+1≤140737488355328) (
 q0y ((0:Int)≤z18∧z18≤((l7.length:Nat):Int)) (
 q0y ((0+z18.toNat)+(l7.length - z18.toNat)≤l7.length) (
 q0y (((((l7.drop 0).take z18.toNat)++[x22]).length+((l7.drop (0+z18.toNat)).take (l7.length - z18.toNat)).length)*16≤140737488355328∧(((l7.drop 0).take z18.toNat)++[x22]).length+((l7.drop (0+z18.toNat)).take (l7.length - z18.toNat)).length≤140737488355328) (
 rc1 (IntKind.i64.wrap (z6+1)) ((((l7.drop 0).take z18.toNat)++[x22])++((l7.drop (0+z18.toNat)).take (l7.length - z18.toNat))))))))))
def qdk (p1:List q3x) (z6:Int) (l7:List q3x) (rc1:Int→(List q3x)→Option ((List q3x))):Nat→Int→Option ((List q3x))
 | 0,_=>none
 | m2+1,z17 =>
  q03 (cond (decide (z17 > 0))
   (q03 (q0r l7 (IntKind.i64.wrap (z17 - 1))) fun x29 =>
   q03 (q0r p1 z6) fun x31 =>
   some (decide (x29.Feat > x31.Feat)))
   (some false)) fun b33 =>
  cond b33
   ((qdk p1 z6 l7 rc1 m2) (IntKind.i64.wrap (z17 - 1)))
   (qk5 p1 z6 l7 rc1 z17)
def qk4  (l9:List q3x):Option ((List q3x)) :=
 some l9
def qdj (p1:List q3x) (n:Nat):Nat→Int→(List q3x)→Option ((List q3x))
 | 0,_,_=>none
 | m1+1,z6,l7 =>
  cond (decide (z6<(p1.length:Int)))
   (qdk p1 z6 l7 (qdj p1 n m1) n (l7.length:Int))
   (qk4 l7)
def qhx (n:Nat) (p1:List q3x):Option ((List q3x)) :=
 qdj p1 n n 0 ([]:List q3x)
def q7f (z23:Int) (rc1:Int→(List Int)→(List Int)→Option ((List Int)×(List Int))) (l36:List Int) (l37:List Int):Option ((List Int)×(List Int)) :=
 rc1 (IntKind.i64.wrap (z23+1)) l36 l37
def qd0  (l27:List Int) (l28:List Int):Option ((List Int)×(List Int)) :=
 some (l27,l28)
def q4g (p2:List q0z) (r12:List q3x) (self:Int→(List q0z)→(List Int)→(List Int)→Option ((List Int)×(List Int))):Nat→Int→(List Int)→(List Int)→Option ((List Int)×(List Int))
 | 0,_,_,_=>none
 | m1+1,z23,l24,l25 =>
  cond (decide (z23<(r12.length:Int)))
   (q03 (q0r r12 z23) fun x31 =>
   q03 (q0r l24 x31.To) fun x33 =>
   cond (decide (x33<0))
    (q03 (q0r r12 z23) fun x39 =>
    q03 (self x39.To p2 l24 l25) fun r41 =>
    q7f z23 (q4g p2 r12 self m1) r41.1 r41.2)
    (q7f z23 (q4g p2 r12 self m1) l24 l25))
   (qd0 l24 l25)
def qdl (n:Nat) (self:Int→(List q0z)→(List Int)→(List Int)→Option ((List Int)×(List Int))) (p1:Int) (p2:List q0z) (p3:List Int) (p5:List Int):Option ((List Int)×(List Int)) :=
 q03 (q0r p3 p1) fun x7 =>
 q0y ((p5.length+1)*8≤140737488355328∧p5.length+1≤140737488355328) (
 q03 (q0r p2 p1) fun x10 =>
 q03 (qhx n x10.Arcs) fun r12 =>
 q4g p2 r12 self n 0 (p3.set (0+p1.toNat) (p5.length:Int)) (p5++[p1]))
def qaf:Nat→Int→(List q0z)→(List Int)→(List Int)→Option ((List Int)×(List Int))
 | 0,_,_,_,_=>none
 | n+1,p1,p2,p3,p5=>qdl n (qaf n) p1 p2 p3 p5
def qmu (z26:Int) (l27:List q0z) (rc2:Int→(List q0z)→Option (GFS)) (x34:q0z) (l54:List q3x):Option (GFS) :=
 q0y ((l27.length+1)*32≤140737488355328∧l27.length+1≤140737488355328) (
 rc2 (IntKind.i64.wrap (z26+1)) (l27++[(q0z.mk x34.Typex l54)]))
def qgd (r14:(List Int)×(List Int)) (z26:Int) (l27:List q0z) (rc2:Int→(List q0z)→Option (GFS)) (x34:q0z):Nat→Int→(List q3x)→Option (GFS)
 | 0,_,_=>none
 | m3+1,z52,l53 =>
  cond (decide (z52<(l53.length:Int)))
   (q03 (q0r l53 z52) fun x57 =>
   q03 (q0r r14.1 x57.To) fun x59 =>
   q03 (q0r l53 z52) fun x61 =>
   (qgd r14 z26 l27 rc2 x34 m3) (IntKind.i64.wrap (z52+1)) (l53.set (0+z52.toNat) (q3x.mk x61.Feat x59)))
   (qmu z26 l27 rc2 x34 l53)
def qmt  (l29:List q0z):Option (GFS) :=
 some (GFS.mk l29)
def qgc (p1:GFS) (n:Nat) (r14:(List Int)×(List Int)):Nat→Int→(List q0z)→Option (GFS)
 | 0,_,_=>none
 | m2+1,z26,l27 =>
  cond (decide (z26<(r14.2.length:Int)))
   (q03 (q0r r14.2 z26) fun x32 =>
   q03 (q0r p1.Nodes x32) fun x34 =>
   q03 (qhx n x34.Arcs) fun r36 =>
   qgd r14 z26 l27 (qgc p1 n r14 m2) x34 n 0 r36)
   (qmt l27)
def qms (p1:GFS) (p2:Int) (n:Nat) (l12:List Int):Option (GFS) :=
 q03 (qaf n p2 p1.Nodes l12 ([]:List Int)) fun r14 =>
 qgc p1 n r14 n 0 ([]:List q0z)
def qmv (p1:GFS) (p2:Int) (n:Nat):Nat→Int→(List Int)→Option (GFS)
 | 0,_,_=>none
 | m1+1,z9,l10 =>
  cond (decide (z9<(p1.Nodes.length:Int)))
   (q0y ((l10.length+1)*8≤140737488355328∧l10.length+1≤140737488355328) (
   (qmv p1 p2 n m1) (IntKind.i64.wrap (z9+1)) (l10++[(-1)])))
   (qms p1 p2 n l10)
def q8x (z6:Int) (rc1:Int→(List Int)→Option ((List Int))) (l28:List Int):Option ((List Int)) :=
 rc1 (IntKind.i64.wrap (z6+1)) l28
def q61 (z6:Int) (rc1:Int→(List Int)→Option ((List Int))) (x12:q0z):Nat→Int→(List Int)→Option ((List Int))
 | 0,_,_=>none
 | m2+1,z25,l26 =>
  cond (decide (z25<(x12.Arcs.length:Int)))
   (q03 (q0r x12.Arcs z25) fun x31 =>
   q03 (q0r x12.Arcs z25) fun x33 =>
   q0y ((l26.length+2)*8≤140737488355328∧l26.length+2≤140737488355328) (
   (q61 z6 rc1 x12 m2) (IntKind.i64.wrap (z25+1)) (l26++[x31.Feat,x33.To])))
   (q8x z6 rc1 l26)
def q8w  (l9:List Int):Option ((List Int)) :=
 some l9
def q37 (p1:GFS) (n:Nat):Nat→Int→(List Int)→Option ((List Int))
 | 0,_,_=>none
 | m1+1,z6,l7 =>
  cond (decide (z6<(p1.Nodes.length:Int)))
   (q03 (q0r p1.Nodes z6) fun x12 =>
   q03 (q0r p1.Nodes z6) fun x14 =>
   q0y ((l7.length+2)*8≤140737488355328∧l7.length+2≤140737488355328) (
   q61 z6 (q37 p1 n m1) x12 n 0 (l7++[x14.Typex,(x12.Arcs.length:Int)])))
   (q8w l7)
def q9q (n:Nat) (p1:GFS):Option ((List Int)) :=
 q37 p1 n n 0 ([(p1.Nodes.length:Int)])
theorem qdi (n:Nat) (p1:GFS) (r:(List Int)) (hF:q9q n p1=some r):EvU Tryz.prog 70 [.agg [.isl false (List.map q07 p1.Nodes)]] ⟨[],0⟩ (fun u _=>u = .isl false (List.map (cI .i64) r)∧Bel 0 u):=by
 unfold q9q at hF
 refine bg1 55 fn70 ?_
 refine go ?_
 refine RS.step (u:=.vl 1 0 0 ([(p1.Nodes.length:Int)].length)) (σ':=⟨[(1,.vec (List.map (cI .i64) ([(p1.Nodes.length:Int)])).flatten 3 1 0),(0,.row [.iM q07 p1.Nodes] 24)],2⟩) rfl (qcy.bslv (cs:=(List.map (cI .i64) [(p1.Nodes.length:Int)]).flatten) Tryz.tb_ok rfl un33.h if3.h rfl rfl rfl rfl rfl rfl rfl rfl) rfl rfl ?_
 refine go ?_
 refine gS (l':=[(1,_),(3,_),(4,_)]) ?_
 refine z07 (fun m tm σ=>∃ z6:Int,∃ l7:List Int,∃ t8:Nat,q37 p1 n m z6 l7=some r∧tm=fr 55 [(1,.ptr 0 0 0),(3,.vl 1 t8 0 l7.length),(4,.i6 z6)]∧σ=⟨[(1,.vec (List.map (cI .i64) l7).flatten 3 1 t8),(0,.row [.iM q07 p1.Nodes] 24)],2⟩) (fun tm σ=>∃ l9:List Int,∃ t10:Nat,q8w l9=some r∧tm=fr 55 [(3,.vl 1 t10 0 l9.length)]∧σ=⟨[(1,.vec (List.map (cI .i64) l9).flatten 3 1 t10),(0,.row [.iM q07 p1.Nodes] 24)],2⟩) n ⟨0,[(p1.Nodes.length:Int)],0,hF,rfl,rfl⟩ ?_ ?_
 rintro _ _ ⟨l9,t10,hF,rfl,rfl⟩
 unfold q8w at hF
 refine go ?_
 obtain rfl:=sI hF
 exact rT (us:=[.vl 1 t10 0 l9.length]) (u:=.iM (cI .i64) l9) (q32 rfl (q3p)) (fR 1 1)
 rintro (_|m1) _ _ ⟨z6,l7,t8,hF,rfl,rfl⟩
 cases hF
 unfold q37 at hF
 refine go ?_
 refine cF hF (fun h11 hF=>?_) (fun h11 hF=>?_)
 refine go ?_
 refine WPU.block ?_
 obtain ⟨x12,h13,hF⟩:=q00 hF
 refine go ?_
 refine RS.ix h13 ?_
 obtain ⟨x14,h15,hF⟩:=q00 hF
 obtain ⟨h16,hF⟩:=q08 hF
 refine go ?_
 refine RS.ix h15 ?_
 refine go ?_
 refine RS.g ?_
 refine RS.q (u:=.vl 1 (t8+1) 0 ((l7++[x14.Typex,(x12.Arcs.length:Int)]).length)) (σ':=⟨[(2,.row [.i6 x14.Typex,.i6 (x12.Arcs.length:Int)] 3),(1,.vec (List.map (cI .i64) (l7++[x14.Typex,(x12.Arcs.length:Int)])).flatten 3 1 (t8+1)),(0,.row [.iM q07 p1.Nodes] 24)],3⟩) rfl (qde rfl rfl rfl rfl (ql8 (cI .i64) ([x14.Typex,(x12.Arcs.length:Int)]) un33.h un33.h if3.h rfl (qbi .i64) rfl (qq4 (cI .i64) [x14.Typex,(x12.Arcs.length:Int)] rfl rfl rfl rfl) h16)) ?_
 refine go ?_
 refine gS (l':=[(1,_),(3,_),(4,_),(5,_),(6,_)]) ?_
 refine z07 (fun m tm σ=>∃ z25:Int,∃ l26:List Int,∃ t27:Nat,q61 z6 (q37 p1 n m1) x12 m z25 l26=some r∧tm=fr 55 [(1,.ptr 0 0 0),(3,.vl 1 t27 0 l26.length),(4,.i6 z6),(5,.iM q1t x12.Arcs),(6,.i6 z25)]∧σ=⟨[(2,.row [.i6 x14.Typex,.i6 (x12.Arcs.length:Int)] 3),(1,.vec (List.map (cI .i64) l26).flatten 3 1 t27),(0,.row [.iM q07 p1.Nodes] 24)],3⟩) (fun tm σ=>∃ l28:List Int,∃ t29:Nat,q8x z6 (q37 p1 n m1) l28=some r∧tm=fr 55 [(1,.ptr 0 0 0),(3,.vl 1 t29 0 l28.length),(4,.i6 z6)]∧σ=⟨[(2,.row [.i6 x14.Typex,.i6 (x12.Arcs.length:Int)] 3),(1,.vec (List.map (cI .i64) l28).flatten 3 1 t29),(0,.row [.iM q07 p1.Nodes] 24)],3⟩) n ⟨0,(l7++[x14.Typex,(x12.Arcs.length:Int)]),(t8+1),hF,rfl,rfl⟩ ?_ ?_
 rintro _ _ ⟨l28,t29,hF,rfl,rfl⟩
 unfold q8x at hF
 refine go ?_
 exact lC ⟨_,l28,t29,hF,rfl,rfl⟩
 rintro (_|m2) _ _ ⟨z25,l26,t27,hF,rfl,rfl⟩
 cases hF
 unfold q61 at hF
 refine go ?_
 refine cF hF (fun h30 hF=>?_) (fun h30 hF=>?_)
 refine go ?_
 refine WPU.block ?_
 obtain ⟨x31,h32,hF⟩:=q00 hF
 obtain ⟨x33,h34,hF⟩:=q00 hF
 obtain ⟨h35,hF⟩:=q08 hF
 refine go ?_
 refine z0a Tryz.tb_ok [(0,11)] (by kernel_rfl) ?_
 refine gd ?_
 refine RD.ix h32 ?_
 refine gd ?_
 refine RD.ix h34 ?_
 refine gd ?_
 refine RD.g ?_
 refine RD.act (u:=.vl 1 (t27+1) 0 ((l26++[x31.Feat,x33.To]).length)) (σ':=⟨[(3,.row [.i6 x31.Feat,.i6 x33.To] 3),(2,.row [.i6 x14.Typex,.i6 (x12.Arcs.length:Int)] 3),(1,.vec (List.map (cI .i64) (l26++[x31.Feat,x33.To])).flatten 3 1 (t27+1)),(0,.row [.iM q07 p1.Nodes] 24)],4⟩) rfl (qde rfl rfl rfl rfl (ql8 (cI .i64) ([x31.Feat,x33.To]) un33.h un33.h if3.h rfl (qbi .i64) rfl (qq4 (cI .i64) [x31.Feat,x33.To] rfl rfl rfl rfl) h35)) rfl rfl ?_
 refine gd ?_
 refine RD.done ⟨by kernel_rfl,⟨q4f rfl,trivial⟩,?_⟩
 refine go ?_
 exact lC ⟨_,(l26++[x31.Feat,x33.To]),(t27+1),hF,rfl,rfl⟩
 refine go ?_
 exact xC ⟨l26,t27,hF,rfl,rfl⟩
 refine go ?_
 exact xC ⟨l7,t8,hF,rfl,rfl⟩
def q8v   : Option (Int) :=
 some 0
def q60 (r3:(List Int)) (r5:(List Int)):Nat→Int→Option (Int)
 | 0,_=>none
 | m1+1,z12 =>
  q03 (cond (decide (z12<(r3.length:Int)))
   (some (decide (z12<(r5.length:Int))))
   (some false)) fun b14 =>
  cond b14
   (q03 (q0r r3 z12) fun x17 =>
   q03 (q0r r5 z12) fun x19 =>
   cond (decide (x17<x19))
    (some (-1))
    (q03 (q0r r3 z12) fun x22 =>
    q03 (q0r r5 z12) fun x24 =>
    cond (decide (x22 > x24))
     (some 1)
     ((q60 r3 r5 m1) (IntKind.i64.wrap (z12+1)))))
   (q8v)
def qcn (n:Nat) (p1:GFS) (p2:GFS):Option (Int) :=
 q03 (q9q n p1) fun r3 =>
 q03 (q9q n p2) fun r5 =>
 q60 r3 r5 n 0
theorem qk3 (n:Nat) (p1:GFS) (p2:GFS) (r:Int) (hF:qcn n p1 p2=some r):EvU Tryz.prog 50 [.agg [.isl false (List.map q07 p1.Nodes)],.agg [.isl false (List.map q07 p2.Nodes)]] ⟨[],0⟩ (fun u _=>u = .int .i64 r∧Bel 0 u):=by
 unfold qcn at hF
 refine bg2 42 fn50 ?_
 obtain ⟨r3,h4,hF⟩:=q00 hF
 refine go ?_
 refine RS.cl rfl (pC (qdi n p1 r3 h4) _) fn70 ?_
 obtain ⟨r5,h6,hF⟩:=q00 hF
 refine go ?_
 refine RS.cl rfl (pC (qdi n p2 r5 h6) _) fn70 ?_
 refine go ?_
 refine gS (l':=[(5,_),(6,_),(7,_)]) ?_
 refine z07 (fun m tm σ=>∃ z12:Int,q60 r3 r5 m z12=some r∧tm=fr 42 [(5,.iM (cI .i64) r3),(6,.iM (cI .i64) r5),(7,.i6 z12)]∧σ=⟨[(1,.row [.iM q07 p2.Nodes] 24),(0,.row [.iM q07 p1.Nodes] 24)],2⟩) (fun tm σ=>q8v=some r∧tm=fr 42 []∧σ=⟨[(1,.row [.iM q07 p2.Nodes] 24),(0,.row [.iM q07 p1.Nodes] 24)],2⟩) n ⟨0,hF,rfl,rfl⟩ ?_ ?_
 rintro _ _ ⟨hF,rfl,rfl⟩
 unfold q8v at hF
 exact gx hF
 rintro (_|m1) _ _ ⟨z12,hF,rfl,rfl⟩
 cases hF
 unfold q60 at hF
 obtain ⟨b14,h15,hF⟩:=q00 hF
 refine gn ?_
 refine z08 (fun tm σ=>tm=fr 42 [(5,.iM (cI .i64) r3),(6,.iM (cI .i64) r5),(7,.i6 z12),(21,.bool b14)]∧σ=⟨[(1,.row [.iM q07 p2.Nodes] 24),(0,.row [.iM q07 p1.Nodes] 24)],2⟩) ?_ ?_
 rintro _ _ ⟨rfl,rfl⟩
 refine go ?_
 refine cF hF (fun h16 hF=>?_) (fun h16 hF=>?_)
 refine go ?_
 refine WPU.block ?_
 obtain ⟨x17,h18,hF⟩:=q00 hF
 obtain ⟨x19,h20,hF⟩:=q00 hF
 refine go ?_
 refine z0a Tryz.tb_ok [] (by kernel_rfl) ?_
 refine gd ?_
 refine RD.ix h18 ?_
 refine gd ?_
 refine RD.ix h20 ?_
 refine gd ?_
 refine RD.done ⟨by kernel_rfl,trivial,?_⟩
 refine go ?_
 refine cF hF (fun h21 hF=>?_) (fun h21 hF=>?_)
 exact gx hF
 obtain ⟨x22,h23,hF⟩:=q00 hF
 obtain ⟨x24,h25,hF⟩:=q00 hF
 refine go ?_
 refine z0a Tryz.tb_ok [] (by kernel_rfl) ?_
 refine gd ?_
 refine RD.ix h23 ?_
 refine gd ?_
 refine RD.ix h25 ?_
 refine gd ?_
 refine RD.done ⟨by kernel_rfl,trivial,?_⟩
 refine go ?_
 refine cF hF (fun h26 hF=>?_) (fun h26 hF=>?_)
 exact gx hF
 refine go ?_
 exact lC ⟨_,hF,rfl,rfl⟩
 refine go ?_
 exact xC ⟨hF,rfl,rfl⟩
 rcases gB h15 with ⟨h13,h15⟩ | ⟨h13,h15⟩
 exact gy h15
 exact gy h15
def qf2 (n:Nat) (p1:GFS) (p2:GFS):Option (Bool) :=
 q03 (qcn n p1 p2) fun r3 =>
 some (r3 == 0)
theorem q5d (n:Nat) (p1:GFS) (p2:GFS) (r:Bool) (hF:qf2 n p1 p2=some r):EvU Tryz.prog 21 [.agg [.isl false (List.map q07 p1.Nodes)],.agg [.isl false (List.map q07 p2.Nodes)]] ⟨[],0⟩ (fun u _=>u = .bool r∧Bel 0 u):=by
 unfold qf2 at hF
 refine bg2 9 fn21 ?_
 obtain ⟨r3,h4,hF⟩:=q00 hF
 refine go ?_
 refine RS.cl rfl (pC (qk3 n p1 p2 r3 h4) _) fn50 ?_
 exact gx hF
def qdf   : Option (Int×Bool) :=
 some (0,false)
def qay (p3:Int) (x4:q0z):Nat→Int→Option (Int×Bool)
 | 0,_=>none
 | m1+1,z11 =>
  cond (decide (z11<(x4.Arcs.length:Int)))
   (q03 (q0r x4.Arcs z11) fun x13 =>
   cond (x13.Feat == p3)
    (some (x13.To,true))
    ((qay p3 x4 m1) (IntKind.i64.wrap (z11+1))))
   (qdf)
def qjx (n:Nat) (p1:GFS) (p2:Int) (p3:Int):Option (Int×Bool) :=
 q03 (q0r p1.Nodes p2) fun x4 =>
 qay p3 x4 n 0
theorem qpr (n:Nat) (p1:GFS) (p2:Int) (p3:Int) (r:Int×Bool) (hF:qjx n p1 p2 p3=some r):EvU Tryz.prog 59 [.agg [.isl false (List.map q07 p1.Nodes)],.int .i64 p2,.int .i64 p3] ⟨[],0⟩ (fun u _=>u = .tup [.int .i64 r.1,.bool r.2]∧Bel 0 u):=by
 unfold qjx at hF
 refine bg3 28 fn59 ?_
 obtain ⟨x4,h5,hF⟩:=q00 hF
 refine go ?_
 refine RS.ix h5 ?_
 refine go ?_
 refine gS (l':=[(2,_),(15,_),(16,_),(17,_)]) ?_
 refine z07 (fun m tm σ=>∃ z11:Int,qay p3 x4 m z11=some r∧tm=fr 28 [(2,.i6 p3),(15,.iM q1t x4.Arcs),(16,.i6 (x4.Arcs.length:Int)),(17,.i6 z11)]∧σ=⟨[(0,.row [.iM q07 p1.Nodes] 24)],1⟩) (fun tm σ=>qdf=some r∧tm=fr 28 []∧σ=⟨[(0,.row [.iM q07 p1.Nodes] 24)],1⟩) n ⟨0,hF,rfl,rfl⟩ ?_ ?_
 rintro _ _ ⟨hF,rfl,rfl⟩
 unfold qdf at hF
 refine go ?_
 obtain rfl:=sI hF
 exact rt2 rfl rfl rfl rfl rfl
 rintro (_|m1) _ _ ⟨z11,hF,rfl,rfl⟩
 cases hF
 unfold qay at hF
 refine go ?_
 refine cF hF (fun h12 hF=>?_) (fun h12 hF=>?_)
 refine go ?_
 refine WPU.block ?_
 obtain ⟨x13,h14,hF⟩:=q00 hF
 refine go ?_
 refine RS.ix h14 ?_
 refine go ?_
 refine cF hF (fun h15 hF=>?_) (fun h15 hF=>?_)
 refine go ?_
 obtain rfl:=sI hF
 exact rt2 rfl rfl rfl rfl rfl
 refine go ?_
 exact lC ⟨_,hF,rfl,rfl⟩
 refine go ?_
 exact xC ⟨hF,rfl,rfl⟩
def qh7  (z10:Int):Option (Int×Bool) :=
 some (z10,true)
def qe1 (p1:GFS) (p2:List Int) (n:Nat):Nat→Int→Int→Option (Int×Bool)
 | 0,_,_=>none
 | m1+1,z8,z9 =>
  cond (decide (z9<(p2.length:Int)))
   (q03 (q0r p2 z9) fun x12 =>
   q03 (qjx n p1 z8 x12) fun r14 =>
   cond (!r14.2)
    (some (0,false))
    ((qe1 p1 p2 n m1) r14.1 (IntKind.i64.wrap (z9+1))))
   (qh7 z8)
def qmh (n:Nat) (p1:GFS) (p2:List Int):Option (Int×Bool) :=
 qe1 p1 p2 n n 0 0
theorem qo8 (n:Nat) (p1:GFS) (p2:List Int) (r:Int×Bool) (hF:qmh n p1 p2=some r):EvU Tryz.prog 30 [.agg [.isl false (List.map q07 p1.Nodes)],.isl false (List.map (cI .i64) p2)] ⟨[],0⟩ (fun u _=>u = .tup [.int .i64 r.1,.bool r.2]∧Bel 0 u):=by
 unfold qmh at hF
 refine bg2 29 fn30 ?_
 refine go ?_
 refine gS (l':=[(2,_),(6,_),(11,_),(12,_),(13,_)]) ?_
 refine z07 (fun m tm σ=>∃ z8:Int,∃ z9:Int,qe1 p1 p2 n m z8 z9=some r∧tm=fr 29 [(2,.ptr 0 0 0),(6,.i6 z8),(11,.iM (cI .i64) p2),(12,.i6 (p2.length:Int)),(13,.i6 z9)]∧σ=⟨[(0,.row [.iM q07 p1.Nodes] 24)],1⟩) (fun tm σ=>∃ z10:Int,qh7 z10=some r∧tm=fr 29 [(6,.i6 z10)]∧σ=⟨[(0,.row [.iM q07 p1.Nodes] 24)],1⟩) n ⟨0,0,hF,rfl,rfl⟩ ?_ ?_
 rintro _ _ ⟨z10,hF,rfl,rfl⟩
 unfold qh7 at hF
 refine go ?_
 obtain rfl:=sI hF
 exact rt2 rfl rfl rfl rfl rfl
 rintro (_|m1) _ _ ⟨z8,z9,hF,rfl,rfl⟩
 cases hF
 unfold qe1 at hF
 refine go ?_
 refine cF hF (fun h11 hF=>?_) (fun h11 hF=>?_)
 refine go ?_
 refine WPU.block ?_
 obtain ⟨x12,h13,hF⟩:=q00 hF
 refine go ?_
 refine RS.ix h13 ?_
 obtain ⟨r14,h15,hF⟩:=q00 hF
 refine go ?_
 refine RS.cl rfl (pC (qpr n p1 z8 x12 r14 h15) _) fn59 ?_
 refine go ?_
 refine cF hF (fun h16 hF=>?_) (fun h16 hF=>?_)
 refine go ?_
 obtain rfl:=sI hF
 exact rt2 rfl rfl rfl rfl rfl
 refine go ?_
 exact lC ⟨r14.1,(IntKind.i64.wrap (z9+1)),hF,rfl,rfl⟩
 refine go ?_
 exact xC ⟨z8,hF,rfl,rfl⟩
def qjw (n:Nat) (p1:GFS) (p2:List Int):Option (Int×Bool) :=
 q03 (qmh n p1 p2) fun r3 =>
 cond (!r3.2)
  (some (0,false))
  (q03 (q0r p1.Nodes r3.1) fun x6 =>
  some (x6.Typex,true))
theorem qpq (n:Nat) (p1:GFS) (p2:List Int) (r:Int×Bool) (hF:qjw n p1 p2=some r):EvU Tryz.prog 36 [.agg [.isl false (List.map q07 p1.Nodes)],.isl false (List.map (cI .i64) p2)] ⟨[],0⟩ (fun u _=>u = .tup [.int .i64 r.1,.bool r.2]∧Bel 0 u):=by
 unfold qjw at hF
 refine bg2 22 fn36 ?_
 obtain ⟨r3,h4,hF⟩:=q00 hF
 refine go ?_
 refine RS.cl rfl (pC (qo8 n p1 p2 r3 h4) _) fn30 ?_
 refine go ?_
 refine cF hF (fun h5 hF=>?_) (fun h5 hF=>?_)
 refine go ?_
 obtain rfl:=sI hF
 exact rt2 rfl rfl rfl rfl rfl
 obtain ⟨x6,h7,hF⟩:=q00 hF
 refine go ?_
 refine RS.ix h7 ?_
 refine go ?_
 obtain rfl:=sI hF
 exact rt2 rfl rfl rfl rfl rfl
def qbc (n:Nat) (p1:GFS):Option ((List q0z)) :=
 some p1.Nodes
theorem qi4 (n:Nat) (p1:GFS) (r:(List q0z)) (hF:qbc n p1=some r):EvU Tryz.prog 46 [.agg [.isl false (List.map q07 p1.Nodes)]] ⟨[],0⟩ (fun u σ'=>∃ t:Nat→Nat,u = .fn (.func 69) [] [.iptr [.isl false (List.map q07 r)]]∧σ'=⟨[],0⟩):=by
 unfold qbc at hF
 refine bg1 4 fn46 ?_
 refine go ?_
 refine RS.q rfl (op_fun rfl rfl) ?_
 refine go ?_
 obtain rfl:=sI hF
 exact ⟨.inr rfl,[.fn (.func 69) [] [.ptr 0 0 0]],q32 rfl (q3p),.fn (.func 69) [] [.iptr [.iM q07 p1.Nodes]],⟨[],0⟩,NL,Gh.trans (z09 0 1) (Gh.to (n1:=0) [] rfl rfl NL NL BUL.h BH.h),stF [],rfl,rfl⟩
def q63 (n:Nat) (p1:List Int):Option ((List Int)) :=
 qyx p1 fun b2 =>
 cond b2
  (some ([]:List Int))
  (q0y (p1.length*8≤140737488355328∧p1.length≤140737488355328) (
  some p1))
theorem qb2 (n:Nat) (p1:List Int) (r:(List Int)) (hF:q63 n p1=some r):EvU Tryz.prog 48 [.isl false (List.map (cI .i64) p1)] ⟨[],0⟩ (fun u σ'=>∃ t,u = .vl 1 t 0 r.length∧σ'=⟨[(1,.vec (List.map (cI .i64) r).flatten 3 1 t)],1+1⟩):=by
 unfold q63 at hF
 refine bg1 8 fn48 ?_
 refine go ?_
 refine RS.nilq rfl rfl un33.h rfl rfl rfl rfl ?_
 intro b2 h3
 replace hF:=qrv hF b2 fun h=>List.map_eq_nil_iff.1 (h3 h)
 refine go ?_
 refine cF hF (fun h4 hF=>?_) (fun h4 hF=>?_)
 refine go ?_
 obtain rfl:=sI hF
 exact ⟨.inr rfl,[.nils],q32 rfl q3p,.vl 1 0 0 0,⟨[(1,.vec (List.map (cI .i64) ([]:List Int)).flatten 3 1 0)],2⟩,NZ,Gh.trans (Gh.fresh (tm:=[.nils]) 3 1 (by decide) NZ) (Gh.trans (Gh.nilvec (tm:=[.nils]) 0 3 1 (by decide) NZ rfl) (Gh.trans (Gh.only (fun k=>Nat.beq k 1)) (Gh.to (n1:=2) [] rfl rfl NZ NL BUL.h BH.h))),0,rfl,rfl⟩
 obtain ⟨h5,hF⟩:=q08 hF
 refine go ?_
 refine RS.q (u:=.sl 0 0 0 0) (σ':=⟨[(0,.row [] 3)],1⟩) rfl (q94 un33.h if3.h rfl rfl rfl rfl rfl rfl rfl) ?_
 refine go ?_
 refine RS.q (u:=.vl 1 0 0 p1.length) (σ':=⟨[(1,.vec (List.map (cI .i64) p1).flatten 3 1 0),(0,.row [] 3)],2⟩) rfl (qde rfl rfl rfl rfl (qp3 (cI .i64) p1 un33.h un33.h if3.h rfl rfl rfl (qhi (cI .i64) (qbi .i64)) h5)) ?_
 refine go ?_
 obtain rfl:=sI hF
 exact ⟨.inr rfl,[.vl 1 0 0 p1.length],q32 rfl q3p,.vl 1 0 0 p1.length,⟨[(1,.vec (List.map (cI .i64) p1).flatten 3 1 0)],2⟩,NZ,Gh.trans (Gh.only (fun k=>Nat.beq k 1)) (Gh.to (n1:=2) [] rfl rfl NZ NL BUL.h BH.h),0,rfl,rfl⟩
def q9a (z51:Int) (rc4:Int→(List (List Int))→(List Int)→(List Bool)→Option ((List (List Int)))) (l68:List (List Int)) (l70:List Int) (l72:List Bool):Option ((List (List Int))) :=
 rc4 (IntKind.i64.wrap (z51+1)) l68 l70 l72
def qc5 (z17:Int) (l23:List (List Int)) (rc2:Int→(List (List Int))→(List Int)→(List Bool)→(List (List Int))→Option ((List (List Int)))) (x32:Int) (x34:List Int) (l57:List (List Int)) (l59:List Int) (l61:List Bool):Option ((List (List Int))) :=
 rc2 (IntKind.i64.wrap (z17+1)) l57 l59 l61 (l23.set x32.toNat x34)
def q54 (n:Nat) (r3:(List q0z)) (z17:Int) (l23:List (List Int)) (rc2:Int→(List (List Int))→(List Int)→(List Bool)→(List (List Int))→Option ((List (List Int)))) (x32:Int) (x34:List Int) (x38:q0z):Nat→Int→(List (List Int))→(List Int)→(List Bool)→Option ((List (List Int)))
 | 0,_,_,_,_=>none
 | m4+1,z51,l52,l54,l56 =>
  cond (decide (z51<(x38.Arcs.length:Int)))
   (q03 (q0r x38.Arcs z51) fun x63 =>
   q03 (qs5 l56 0 ((r3.length:Int).toNat) x63.To) fun x65 =>
   cond (!x65)
    (q03 (qs5 l56 0 ((r3.length:Int).toNat) x63.To) fun x73 =>
    q0y ((l54.length+1)*8≤140737488355328∧l54.length+1≤140737488355328) (
    q03 (q0r l52 z17) fun x76 =>
    q03 (q63 n x76) fun r78 =>
    q0y ((r78.length+([x63.Feat]).length)*8≤140737488355328∧r78.length+([x63.Feat]).length≤140737488355328) (
    q0y ((l52.length+1)*24≤140737488355328∧l52.length+1≤140737488355328) (
    q9a z51 (q54 n r3 z17 l23 rc2 x32 x34 x38 m4) (l52++[(r78++[x63.Feat])]) (l54++[x63.To]) (l56.set x63.To.toNat true)))))
    (q9a z51 (q54 n r3 z17 l23 rc2 x32 x34 x38 m4) l52 l54 l56))
   (qc5 z17 l23 rc2 x32 x34 l52 l54 l56)
def qc6 (n:Nat) (r3:(List q0z)) (z17:Int) (l18:List (List Int)) (l20:List Int) (l22:List Bool) (l23:List (List Int)) (rc2:Int→(List (List Int))→(List Int)→(List Bool)→(List (List Int))→Option ((List (List Int)))) (x32:Int) (x34:List Int)  : Option ((List (List Int))) :=
 q03 (q0r l20 z17) fun x36 =>
 q03 (q0r r3 x36) fun x38 =>
 q54 n r3 z17 l23 rc2 x32 x34 x38 n 0 l18 l20 l22
def qc4 (p1:GFS) (l24:List (List Int)) (l26:List Int) (l28:List Bool) (l29:List (List Int)):Option ((List (List Int))) :=
 q0y ((p1.Nodes.length:Int).toNat=l29.length) (
 some l29)
def q39 (p1:GFS) (n:Nat) (r3:(List q0z)):Nat→Int→(List (List Int))→(List Int)→(List Bool)→(List (List Int))→Option ((List (List Int)))
 | 0,_,_,_,_,_=>none
 | m2+1,z17,l18,l20,l22,l23 =>
  cond (decide (z17<(l20.length:Int)))
   (q03 (q0r l20 z17) fun x32 =>
   q03 (q0r l18 z17) fun x34 =>
   q03 (qs5 l23 0 ((p1.Nodes.length:Int).toNat) x32) fun x82 =>
   qc6 n r3 z17 l18 l20 l22 l23 (q39 p1 n r3 m2) x32 x34)
   (qc4 p1 l18 l20 l22 l23)
def qe2 (n:Nat) (p1:GFS):Option ((List (List Int))) :=
 q0y (0≤(p1.Nodes.length:Int)∧24*(p1.Nodes.length:Int).toNat≤281474976710656∧(p1.Nodes.length:Int)≤281474976710656) (
 q03 (qbc n p1) fun r3 =>
 q0y (0≤(r3.length:Int)∧1*(r3.length:Int).toNat≤281474976710656∧(r3.length:Int)≤281474976710656) (
 q03 (qs5 (List.replicate (r3.length:Int).toNat false) 0 ((r3.length:Int).toNat) 0) fun x7 =>
 q39 p1 n r3 n 0 ([[]]:List (List Int)) ([0]) ((List.replicate (r3.length:Int).toNat false).set (0:Int).toNat true) (List.replicate (p1.Nodes.length:Int).toNat [])))
theorem qav (n:Nat) (p1:GFS) (r:(List (List Int))) (hF:qe2 n p1=some r):EvU Tryz.prog 15 [.agg [.isl false (List.map q07 p1.Nodes)]] ⟨[],0⟩ (fun u _=>u = .isl false (List.map (cL (cI .i64)) r)∧Bel 0 u):=by
 unfold qe2 at hF
 refine EvU.of_bodyM Tryz.tb_ok fn15 rfl ?_
 refine WPU.ghost (tm':=fr 19 [(0,.agg [.iM q07 p1.Nodes])]) (z0h NL) NL ?_
 obtain ⟨h2,hF⟩:=q08 hF
 refine go ?_
 refine RS.q (u:=.sl 1 0 ((p1.Nodes.length:Int).toNat) ((p1.Nodes.length:Int).toNat)) (σ':=⟨[(1,.row (List.map (cL (cI .i64)) (List.replicate (p1.Nodes.length:Int).toNat [])).flatten 33),(0,.row [.iM q07 p1.Nodes] 24)],2⟩) rfl (qun (cL (cI .i64)) [] rfl rfl un28.h if33.h rfl rfl rfl rfl h2) ?_
 obtain ⟨r3,h4,hF⟩:=q00 hF
 refine go ?_
 refine RS.callx (R:=fun u σ'=>∃ t5:Nat→Nat,u = .fn (.func 69) [] [.iptr [.iM q07 r3]]∧σ'=⟨[(2,.row [.sl 1 0 ((p1.Nodes.length:Int).toNat) ((p1.Nodes.length:Int).toNat)] 28),(1,.row (List.map (cL (cI .i64)) (List.replicate (p1.Nodes.length:Int).toNat [])).flatten 33),(0,.row [.iM q07 p1.Nodes] 24)],3⟩) (args:=[.agg [.iM q07 p1.Nodes]]) rfl (qjt rfl rfl fn46 hb46 rfl rfl) (EvU.st [] (qi4 n p1 r3 h4 )) rfl rfl ?_
 rintro _ _ ⟨t5,rfl,rfl⟩
 refine go ?_
 refine WPU.block ?_
 refine gn ?_
 refine gS (l':=[(3,_),(11,_)]) ?_
 refine WPU.range Tryz.tb_ok rfl (fun _ h=>h) (q2l rfl) fn69 rfl rfl ?_
 intro ly1 fn1 tp1 D1
 refine WPU.ghost (tm':=fr 76 [(0,.fn (.yield ly1) [] []),(1,.iptr [.iM q07 r3])]) (z0h NL) (Nat.le_refl _) ?_
 obtain ⟨h6,hF⟩:=q08 hF
 refine go ?_
 refine RS.q (u:=.sl 3 0 ((r3.length:Int).toNat) ((r3.length:Int).toNat)) (σ':=⟨[(3,.row (List.map cB (List.replicate (r3.length:Int).toNat false)).flatten 4),(2,.row [.sl 1 0 ((p1.Nodes.length:Int).toNat) ((p1.Nodes.length:Int).toNat)] 28),(1,.row (List.map (cL (cI .i64)) (List.replicate (p1.Nodes.length:Int).toNat [])).flatten 33),(0,.row [.iM q07 p1.Nodes] 24)],4⟩) rfl (qun cB false rfl rfl un75.h if4.h rfl rfl rfl rfl h6) ?_
 obtain ⟨x7,h8,hF⟩:=q00 hF
 refine go ?_
 refine RS.q rfl (qb9 rfl rfl (qs4 un75.h (q2k if4.h) rfl h8)) (RS.opn (u:=.junk) (σ':=⟨[(3,.row (List.map cB ((List.replicate (r3.length:Int).toNat false).set (0:Int).toNat true)).flatten 4),(2,.row [.sl 1 0 ((p1.Nodes.length:Int).toNat) ((p1.Nodes.length:Int).toNat)] 28),(1,.row (List.map (cL (cI .i64)) (List.replicate (p1.Nodes.length:Int).toNat [])).flatten 33),(0,.row [.iM q07 p1.Nodes] 24)],4⟩) rfl (qxg cB (q2k if4.h) qy7 rfl rfl rfl rfl rfl rfl h8 rfl) rfl ?_)
 refine go ?_
 refine RS.step (u:=.vl 4 0 0 ([0].length)) (σ':=⟨[(4,.vec (List.map (cI .i64) ([0])).flatten 3 1 0),(3,.row (List.map cB ((List.replicate (r3.length:Int).toNat false).set (0:Int).toNat true)).flatten 4),(2,.row [.sl 1 0 ((p1.Nodes.length:Int).toNat) ((p1.Nodes.length:Int).toNat)] 28),(1,.row (List.map (cL (cI .i64)) (List.replicate (p1.Nodes.length:Int).toNat [])).flatten 33),(0,.row [.iM q07 p1.Nodes] 24)],5⟩) rfl (qcy.bslv (cs:=(List.map (cI .i64) [0]).flatten) Tryz.tb_ok rfl un33.h if3.h rfl rfl rfl rfl rfl rfl rfl rfl) rfl rfl (RS.step (u:=.vl 5 0 0 (([[]]:List (List Int)).length)) (σ':=⟨[(5,.vec (List.map (cL (cI .i64)) ([[]]:List (List Int))).flatten 33 1 0),(4,.vec (List.map (cI .i64) ([0])).flatten 3 1 0),(3,.row (List.map cB ((List.replicate (r3.length:Int).toNat false).set (0:Int).toNat true)).flatten 4),(2,.row [.sl 1 0 ((p1.Nodes.length:Int).toNat) ((p1.Nodes.length:Int).toNat)] 28),(1,.row (List.map (cL (cI .i64)) (List.replicate (p1.Nodes.length:Int).toNat [])).flatten 33),(0,.row [.iM q07 p1.Nodes] 24)],6⟩) rfl (qcy.bslw (cs0:=[.nils]) (cs:=(List.map (cL (cI .i64)) ([[]]:List (List Int))).flatten) Tryz.tb_ok rfl un28.h if33.h rfl rfl rfl rfl rfl (.cons (.nil false) .nil) rfl rfl rfl) rfl rfl ?_)
 refine go ?_
 refine gS (l':=[(0,_),(1,_),(3,_),(4,_),(5,_),(6,_)]) ?_
 refine z07 (fun m tm σ=>∃ z17:Int,∃ l18:List (List Int),∃ t19:Nat,∃ l20:List Int,∃ t21:Nat,∃ l22:List Bool,∃ l23:List (List Int),q39 p1 n r3 m z17 l18 l20 l22 l23=some r∧tm=fr 76 [(0,.fn (.yield ly1) [] []),(1,.iptr [.iM q07 r3]),(3,.sl 3 0 ((r3.length:Int).toNat) ((r3.length:Int).toNat)),(4,.vl 4 t21 0 l20.length),(5,.vl 5 t19 0 l18.length),(6,.i6 z17)]∧σ=⟨[(5,.vec (List.map (cL (cI .i64)) l18).flatten 33 1 t19),(4,.vec (List.map (cI .i64) l20).flatten 3 1 t21),(3,.row (List.map cB l22).flatten 4),(2,.row [.sl 1 0 ((p1.Nodes.length:Int).toNat) ((p1.Nodes.length:Int).toNat)] 28),(1,.row (List.map (cL (cI .i64)) l23).flatten 33),(0,.row [.iM q07 p1.Nodes] 24)],6⟩) (fun tm σ=>∃ l24:List (List Int),∃ t25:Nat,∃ l26:List Int,∃ t27:Nat,∃ l28:List Bool,∃ l29:List (List Int),qc4 p1 l24 l26 l28 l29=some r∧tm=fr 76 []∧σ=⟨[(5,.vec (List.map (cL (cI .i64)) l24).flatten 33 1 t25),(4,.vec (List.map (cI .i64) l26).flatten 3 1 t27),(3,.row (List.map cB l28).flatten 4),(2,.row [.sl 1 0 ((p1.Nodes.length:Int).toNat) ((p1.Nodes.length:Int).toNat)] 28),(1,.row (List.map (cL (cI .i64)) l29).flatten 33),(0,.row [.iM q07 p1.Nodes] 24)],6⟩) n ⟨0,([[]]:List (List Int)),0,[0],0,((List.replicate (r3.length:Int).toNat false).set (0:Int).toNat true),(List.replicate (p1.Nodes.length:Int).toNat []),hF,rfl,rfl⟩ ?_ ?_
 rintro _ _ ⟨l24,t25,l26,t27,l28,l29,hF,rfl,rfl⟩
 unfold qc4 at hF
 refine gn ?_
 refine ⟨.inl rfl,?_⟩
 obtain ⟨h30,hF⟩:=q08 hF
 refine go ?_
 obtain rfl:=sI hF
 exact ⟨.inr rfl,[.sl 1 0 ((p1.Nodes.length:Int).toNat) ((p1.Nodes.length:Int).toNat)],q32 rfl (q3p),.iM (cL (cI .i64)) l29,⟨[],0⟩,Nat.le_refl _,Gh.trans (Gh.fz (tm':=[.iM (cL (cI .i64)) l29]) (h':=[(5,.vec (List.map (cL (cI .i64)) l24).flatten 33 1 t25),(4,.vec (List.map (cI .i64) l26).flatten 3 1 t27),(3,.row (List.map cB l28).flatten 4),(2,.row [.iM (cL (cI .i64)) l29] 28),(0,.row [.iM q07 p1.Nodes] 24)]) 1 (.row (List.map (cL (cI .i64)) l29).flatten 33) 1 rfl (by simp) (by simp only [qkm,qgy,qan,qlj,qjb,qll,qh1,qje,qjd,qjc,qh0,qlk,qnu,qli,qlm,qs3,qm8,qwp (qd7 (cI .i64)) h30,q5i _ _ _ (q7q 1 (fun q=>qt2 _ (fun q=>qej _ .i64 q) q) l24),q5i _ _ _ (q7q 1 (fun q=>qej _ .i64 q) l26),q5i _ _ _ (q7q 1 (fun q=>qt1 _ q) l28)]) (by simp only [fzH,fzB,ug,Nat.beq,cond_true,cond_false,qkm,qgy,qan,qlj,qjb,qll,qh1,qje,qjd,qjc,qh0,qlk,qnu,qli,qlm,qs3,qm8,qwp (qd7 (cI .i64)) h30,q5i _ _ _ (q7q 1 (fun q=>qt2 _ (fun q=>qej _ .i64 q) q) l24),q5i _ _ _ (q7q 1 (fun q=>qej _ .i64 q) l26),q5i _ _ _ (q7q 1 (fun q=>qt1 _ q) l28)])) (z0g (.iM (cL (cI .i64)) l29) rfl),rfl,BU.h⟩
 rintro (_|m2) _ _ ⟨z17,l18,t19,l20,t21,l22,l23,hF,rfl,rfl⟩
 cases hF
 unfold q39 at hF
 refine go ?_
 refine cF hF (fun h31 hF=>?_) (fun h31 hF=>?_)
 refine go ?_
 refine WPU.block ?_
 obtain ⟨x32,h33,hF⟩:=q00 hF
 obtain ⟨x34,h35,hF⟩:=q00 hF
 refine go ?_
 refine WPU.drawS Tryz.tb_ok 9 (by kernel_rfl) rfl (by kernel_rfl) ?_
 refine gd ?_
 refine RD.q rfl (qb9 rfl rfl (qi3 (cI .i64) un33.h (q2k if3.h) (by decide) (qbi .i64) (vo rfl) h33)) ?_
 refine RD.q rfl (qa1 (cI .i64) (fun x=>.i6 x) un3.h rfl (fun _=>rfl) rfl rfl h33) ?_
 refine gd ?_
 refine RD.q rfl (qb9 rfl rfl (qi3 (cL (cI .i64)) un28.h (q2k if33.h) (by decide) (qd7 (cI .i64)) (vo rfl) h35)) ?_
 refine RD.q rfl (qa1 (cL (cI .i64)) (fun x=>.iM (cI .i64) x) un33.h rfl (fun _=>rfl) rfl rfl h35) ?_
 refine RD.done ⟨by kernel_rfl,?_⟩
 refine RS.yield (tmx:=fr 19 [(3,.ptr 2 0 0),(11,.fn (.func 69) [] [.iptr [.iM q07 r3]]),(12,.i6 x32),(13,.iM (cI .i64) x34)]) rfl rfl rfl rfl rfl rfl rfl rfl (setP2 rfl rfl) rfl rfl ?_
 refine gr ?_
 refine gr ?_
 refine z08 (fun tm σ=>qc6 n r3 z17 l18 l20 l22 l23 (q39 p1 n r3 m2) x32 x34=some r∧tm=fr 19 []∧σ=⟨[(5,.vec (List.map (cL (cI .i64)) l18).flatten 33 1 t19),(4,.vec (List.map (cI .i64) l20).flatten 3 1 t21),(3,.row (List.map cB l22).flatten 4),(2,.row [.sl 1 0 ((p1.Nodes.length:Int).toNat) ((p1.Nodes.length:Int).toNat)] 28),(1,.row (List.map (cL (cI .i64)) (l23.set x32.toNat x34)).flatten 33),(0,.row [.iM q07 p1.Nodes] 24)],6⟩) ?_ ?_
 rintro _ _ ⟨hF,rfl,rfl⟩
 unfold qc6 at hF
 refine ⟨rfl,?_⟩
 refine go ?_
 refine WPU.condS (t:=false) rfl (fun hc=>by cases hc) (fun _=>?_)
 obtain ⟨x36,h37,hF⟩:=q00 hF
 obtain ⟨x38,h39,hF⟩:=q00 hF
 refine go ?_
 refine z0a Tryz.tb_ok [] (by kernel_rfl) ?_
 refine gd ?_
 refine RD.q rfl (qb9 rfl rfl (qi3 (cI .i64) un33.h (q2k if3.h) (by decide) (qbi .i64) (vo rfl) h37)) ?_
 refine RD.q rfl (qa1 (cI .i64) (fun x=>.i6 x) un3.h rfl (fun _=>rfl) rfl rfl h37) ?_
 refine RD.ix h39 ?_
 refine gd ?_
 refine RD.done ⟨by kernel_rfl,trivial,?_⟩
 refine go ?_
 refine gS (l':=[(0,_),(1,_),(3,_),(4,_),(5,_),(6,_),(42,_),(43,_),(44,_)]) ?_
 refine z07 (fun m tm σ=>∃ z51:Int,∃ l52:List (List Int),∃ t53:Nat,∃ l54:List Int,∃ t55:Nat,∃ l56:List Bool,q54 n r3 z17 l23 (q39 p1 n r3 m2) x32 x34 x38 m z51 l52 l54 l56=some r∧tm=fr 76 [(0,.fn (.yield ly1) [] []),(1,.iptr [.iM q07 r3]),(3,.sl 3 0 ((r3.length:Int).toNat) ((r3.length:Int).toNat)),(4,.vl 4 t55 0 l54.length),(5,.vl 5 t53 0 l52.length),(6,.i6 z17),(42,.iM q1t x38.Arcs),(43,.i6 (x38.Arcs.length:Int)),(44,.i6 z51)]∧σ=⟨[(5,.vec (List.map (cL (cI .i64)) l52).flatten 33 1 t53),(4,.vec (List.map (cI .i64) l54).flatten 3 1 t55),(3,.row (List.map cB l56).flatten 4),(2,.row [.sl 1 0 ((p1.Nodes.length:Int).toNat) ((p1.Nodes.length:Int).toNat)] 28),(1,.row (List.map (cL (cI .i64)) (l23.set x32.toNat x34)).flatten 33),(0,.row [.iM q07 p1.Nodes] 24)],6⟩) (fun tm σ=>∃ l57:List (List Int),∃ t58:Nat,∃ l59:List Int,∃ t60:Nat,∃ l61:List Bool,qc5 z17 l23 (q39 p1 n r3 m2) x32 x34 l57 l59 l61=some r∧tm=fr 76 [(0,.fn (.yield ly1) [] []),(1,.iptr [.iM q07 r3]),(3,.sl 3 0 ((r3.length:Int).toNat) ((r3.length:Int).toNat)),(4,.vl 4 t60 0 l59.length),(5,.vl 5 t58 0 l57.length),(6,.i6 z17)]∧σ=⟨[(5,.vec (List.map (cL (cI .i64)) l57).flatten 33 1 t58),(4,.vec (List.map (cI .i64) l59).flatten 3 1 t60),(3,.row (List.map cB l61).flatten 4),(2,.row [.sl 1 0 ((p1.Nodes.length:Int).toNat) ((p1.Nodes.length:Int).toNat)] 28),(1,.row (List.map (cL (cI .i64)) (l23.set x32.toNat x34)).flatten 33),(0,.row [.iM q07 p1.Nodes] 24)],6⟩) n ⟨0,l18,t19,l20,t21,l22,hF,rfl,rfl⟩ ?_ ?_
 rintro _ _ ⟨l57,t58,l59,t60,l61,hF,rfl,rfl⟩
 unfold qc5 at hF
 refine go ?_
 exact lC ⟨_,l57,t58,l59,t60,l61,(l23.set x32.toNat x34),hF,rfl,rfl⟩
 rintro (_|m4) _ _ ⟨z51,l52,t53,l54,t55,l56,hF,rfl,rfl⟩
 cases hF
 unfold q54 at hF
 refine go ?_
 refine cF hF (fun h62 hF=>?_) (fun h62 hF=>?_)
 refine go ?_
 refine WPU.block ?_
 obtain ⟨x63,h64,hF⟩:=q00 hF
 refine go ?_
 refine RS.ix h64 ?_
 obtain ⟨x65,h66,hF⟩:=q00 hF
 refine go ?_
 refine RS.q rfl (qb9 rfl rfl (qs4 un75.h (q2k if4.h) rfl h66)) (RS.q (u:=.bool x65) rfl (qy6 cB (fun x=>.bool x) un4.h rfl (fun _=>rfl) rfl rfl h66) ?_)
 refine gn ?_
 refine z08 (fun tm σ=>∃ l68:List (List Int),∃ t69:Nat,∃ l70:List Int,∃ t71:Nat,∃ l72:List Bool,q9a z51 (q54 n r3 z17 l23 (q39 p1 n r3 m2) x32 x34 x38 m4) l68 l70 l72=some r∧tm=fr 76 [(0,.fn (.yield ly1) [] []),(1,.iptr [.iM q07 r3]),(3,.sl 3 0 ((r3.length:Int).toNat) ((r3.length:Int).toNat)),(4,.vl 4 t71 0 l70.length),(5,.vl 5 t69 0 l68.length),(6,.i6 z17),(42,.iM q1t x38.Arcs),(43,.i6 (x38.Arcs.length:Int)),(44,.i6 z51)]∧σ=⟨[(6,.row (q1t x63) 66),(5,.vec (List.map (cL (cI .i64)) l68).flatten 33 1 t69),(4,.vec (List.map (cI .i64) l70).flatten 3 1 t71),(3,.row (List.map cB l72).flatten 4),(2,.row [.sl 1 0 ((p1.Nodes.length:Int).toNat) ((p1.Nodes.length:Int).toNat)] 28),(1,.row (List.map (cL (cI .i64)) (l23.set x32.toNat x34)).flatten 33),(0,.row [.iM q07 p1.Nodes] 24)],7⟩) ?_ ?_
 rintro _ _ ⟨l68,t69,l70,t71,l72,hF,rfl,rfl⟩
 unfold q9a at hF
 refine go ?_
 exact lC ⟨_,l68,t69,l70,t71,l72,hF,rfl,rfl⟩
 refine cF hF (fun h67 hF=>?_) (fun h67 hF=>?_)
 obtain ⟨x73,h74,hF⟩:=q00 hF
 refine go ?_
 refine RS.q rfl (qb9 rfl rfl (qs4 un75.h (q2k if4.h) rfl h74)) (RS.opn (u:=.junk) (σ':=⟨[(6,.row (q1t x63) 66),(5,.vec (List.map (cL (cI .i64)) l52).flatten 33 1 t53),(4,.vec (List.map (cI .i64) l54).flatten 3 1 t55),(3,.row (List.map cB (l56.set x63.To.toNat true)).flatten 4),(2,.row [.sl 1 0 ((p1.Nodes.length:Int).toNat) ((p1.Nodes.length:Int).toNat)] 28),(1,.row (List.map (cL (cI .i64)) (l23.set x32.toNat x34)).flatten 33),(0,.row [.iM q07 p1.Nodes] 24)],7⟩) rfl (qxg cB (q2k if4.h) qy7 rfl rfl rfl rfl rfl rfl h74 rfl) rfl ?_)
 obtain ⟨h75,hF⟩:=q08 hF
 refine go ?_
 refine RS.g ?_
 refine RS.g ?_
 obtain ⟨x76,h77,hF⟩:=q00 hF
 obtain ⟨r78,h79,hF⟩:=q00 hF
 obtain ⟨h80,hF⟩:=q08 hF
 obtain ⟨h81,hF⟩:=q08 hF
 refine go ?_
 refine z0a Tryz.tb_ok [(0,5),(0,9),(0,10),(6,5),(7,5)] (by kernel_rfl) ?_
 refine gd ?_
 refine RD.q rfl (qb9 rfl rfl (qi3 (cL (cI .i64)) un28.h (q2k if33.h) (by decide) (qd7 (cI .i64)) (vo rfl) h77)) ?_
 refine RD.q rfl (qa1 (cL (cI .i64)) (fun x=>.iM (cI .i64) x) un33.h rfl (fun _=>rfl) rfl rfl h77) (RD.callm (u:=.vl 9 0 0 r78.length) (σ1:=⟨[(9,.vec (List.map (cI .i64) r78).flatten 3 1 0),(7,.row [.i6 x63.To] 3),(6,.row (q1t x63) 66),(5,.vec (List.map (cL (cI .i64)) l52).flatten 33 1 t53),(4,.vec (List.map (cI .i64) (l54++[x63.To])).flatten 3 1 (t55+1)),(3,.row (List.map cB (l56.set x63.To.toNat true)).flatten 4),(2,.row [.sl 1 0 ((p1.Nodes.length:Int).toNat) ((p1.Nodes.length:Int).toNat)] 28),(1,.row (List.map (cL (cI .i64)) (l23.set x32.toNat x34)).flatten 33),(0,.row [.iM q07 p1.Nodes] 24)],10⟩) (args:=[.iM (cI .i64) x76]) rfl (qjt rfl rfl fn48 hb48 rfl rfl) (EvU.own0 (cI .i64) (qb2 n x76 r78 h79) _ 9 rfl) rfl rfl ?_)
 refine gd ?_
 refine RD.freeO (u:=.iM (cI .i64) ([x63.Feat])) rfl (qd1.bs (cs:=[.i6 x63.Feat]) un33.h if3.h rfl rfl rfl rfl rfl rfl rfl rfl rfl) rfl rfl (RD.fz (u:=.iM (cI .i64) (r78++[x63.Feat])) (u1:=.vl 9 1 0 ((r78++[x63.Feat]).length)) (s1:=⟨[(9,.vec (List.map (cI .i64) (r78++[x63.Feat])).flatten 3 1 1),(7,.row [.i6 x63.To] 3),(6,.row (q1t x63) 66),(5,.vec (List.map (cL (cI .i64)) l52).flatten 33 1 t53),(4,.vec (List.map (cI .i64) (l54++[x63.To])).flatten 3 1 (t55+1)),(3,.row (List.map cB (l56.set x63.To.toNat true)).flatten 4),(2,.row [.sl 1 0 ((p1.Nodes.length:Int).toNat) ((p1.Nodes.length:Int).toNat)] 28),(1,.row (List.map (cL (cI .i64)) (l23.set x32.toNat x34)).flatten 33),(0,.row [.iM q07 p1.Nodes] 24)],10⟩) (σ':=⟨[(7,.row [.i6 x63.To] 3),(6,.row (q1t x63) 66),(5,.vec (List.map (cL (cI .i64)) l52).flatten 33 1 t53),(4,.vec (List.map (cI .i64) (l54++[x63.To])).flatten 3 1 (t55+1)),(3,.row (List.map cB (l56.set x63.To.toNat true)).flatten 4),(2,.row [.sl 1 0 ((p1.Nodes.length:Int).toNat) ((p1.Nodes.length:Int).toNat)] 28),(1,.row (List.map (cL (cI .i64)) (l23.set x32.toNat x34)).flatten 33),(0,.row [.iM q07 p1.Nodes] 24)],10⟩) rfl (qde rfl rfl rfl rfl (ql8 (cI .i64) ([x63.Feat]) un33.h un33.h if3.h rfl (qbi .i64) rfl (qhi (cI .i64) (qbi .i64)) h80)) (z09 9 1) (Nat.le_refl _) rfl rfl ?_)
 refine RD.g ?_
 refine RD.g ?_
 refine gd ?_
 refine RD.done ⟨by kernel_rfl,⟨q4f rfl,⟨q4f rfl,⟨q4f rfl,⟨qpo un66.h rfl (q2k if3.h) rfl rfl rfl,⟨qjl un3.h rfl rfl rfl rfl,trivial⟩⟩⟩⟩⟩,?_⟩
 refine go ?_
 exact xC ⟨(l52++[(r78++[x63.Feat])]),(t53+1),(l54++[x63.To]),(t55+1),(l56.set x63.To.toNat true),hF,rfl,rfl⟩
 refine go ?_
 exact xC ⟨l52,t53,l54,t55,l56,hF,rfl,rfl⟩
 refine go ?_
 exact xC ⟨l52,t53,l54,t55,l56,hF,rfl,rfl⟩
 refine go ?_
 refine WPU.block ?_
 obtain ⟨x82,h83,hF⟩:=q00 hF
 refine go ?_
 refine RS.q rfl (qb9 rfl rfl (qs4 un28.h (q2k if33.h) rfl h83)) (RS.opn (u:=.junk) (σ':=⟨[(5,.vec (List.map (cL (cI .i64)) l18).flatten 33 1 t19),(4,.vec (List.map (cI .i64) l20).flatten 3 1 t21),(3,.row (List.map cB l22).flatten 4),(2,.row [.sl 1 0 ((p1.Nodes.length:Int).toNat) ((p1.Nodes.length:Int).toNat)] 28),(1,.row (List.map (cL (cI .i64)) (l23.set x32.toNat x34)).flatten 33),(0,.row [.iM q07 p1.Nodes] 24)],6⟩) rfl (qxg (cL (cI .i64)) (q2k if33.h) (qd7 (cI .i64)) rfl rfl rfl rfl rfl rfl h83 rfl) rfl ?_)
 refine go ?_
 exact xC ⟨hF,rfl,rfl⟩
 refine go ?_
 exact xC ⟨l18,t19,l20,t21,l22,l23,hF,rfl,rfl⟩
def q6a   : Option (Bool) :=
 some true
def q44 (p1:List Int) (p2:List Int):Nat→Int→Option (Bool)
 | 0,_=>none
 | m1+1,z8 =>
  cond (decide (z8<(p1.length:Int)))
   (q03 (q0r p1 z8) fun x10 =>
   q03 (q0r p2 z8) fun x12 =>
   cond (x10 != x12)
    (some false)
    ((q44 p1 p2 m1) (IntKind.i64.wrap (z8+1))))
   (q6a)
def q8y (n:Nat) (p1:List Int) (p2:List Int):Option (Bool) :=
 cond ((p1.length:Int) != (p2.length:Int))
  (some false)
  (q44 p1 p2 n 0)
theorem qgj (n:Nat) (p1:List Int) (p2:List Int) (r:Bool) (hF:q8y n p1 p2=some r):EvU Tryz.prog 49 [.isl false (List.map (cI .i64) p1),.isl false (List.map (cI .i64) p2)] ⟨[],0⟩ (fun u _=>u = .bool r∧Bel 0 u):=by
 unfold q8y at hF
 refine bg2 26 fn49 ?_
 refine go ?_
 refine cF hF (fun h3 hF=>?_) (fun h3 hF=>?_)
 exact gx hF
 refine go ?_
 refine gS (l':=[(0,_),(1,_),(12,_),(13,_)]) ?_
 refine z07 (fun m tm σ=>∃ z8:Int,q44 p1 p2 m z8=some r∧tm=fr 26 [(0,.iM (cI .i64) p1),(1,.iM (cI .i64) p2),(12,.i6 (p1.length:Int)),(13,.i6 z8)]∧σ=⟨[],0⟩) (fun tm σ=>q6a=some r∧tm=fr 26 []∧σ=⟨[],0⟩) n ⟨0,hF,rfl,rfl⟩ ?_ ?_
 rintro _ _ ⟨hF,rfl,rfl⟩
 unfold q6a at hF
 exact gx hF
 rintro (_|m1) _ _ ⟨z8,hF,rfl,rfl⟩
 cases hF
 unfold q44 at hF
 refine go ?_
 refine cF hF (fun h9 hF=>?_) (fun h9 hF=>?_)
 refine go ?_
 refine WPU.block ?_
 obtain ⟨x10,h11,hF⟩:=q00 hF
 obtain ⟨x12,h13,hF⟩:=q00 hF
 refine go ?_
 refine z0a Tryz.tb_ok [] (by kernel_rfl) ?_
 refine gd ?_
 refine RD.ix h11 ?_
 refine gd ?_
 refine RD.ix h13 ?_
 refine gd ?_
 refine RD.done ⟨by kernel_rfl,trivial,?_⟩
 refine go ?_
 refine cF hF (fun h14 hF=>?_) (fun h14 hF=>?_)
 exact gx hF
 refine go ?_
 exact lC ⟨_,hF,rfl,rfl⟩
 refine go ?_
 exact xC ⟨hF,rfl,rfl⟩
def q7t (z32:Int) (rc2:Int→(List q0i)→Option ((List q0i))) (l50:List q0i):Option ((List q0i)) :=
 rc2 (IntKind.i64.wrap (z32+1)) l50
def qbb (z11:Int) (rc1:Int→(List q0i)→Option ((List q0i))) (l35:List q0i):Option ((List q0i)) :=
 rc1 (IntKind.i64.wrap (z11+1)) l35
def q49 (n:Nat) (r2:(List (List Int))) (z11:Int) (rc1:Int→(List q0i)→Option ((List q0i))) (x17:q0z):Nat→Int→(List q0i)→Option ((List q0i))
 | 0,_,_=>none
 | m2+1,z32,l33 =>
  cond (decide (z32<(x17.Arcs.length:Int)))
   (q03 (q0r x17.Arcs z32) fun x38 =>
   q03 (q0r r2 z11) fun x40 =>
   q03 (q63 n x40) fun r42 =>
   q0y ((r42.length+([x38.Feat]).length)*8≤140737488355328∧r42.length+([x38.Feat]).length≤140737488355328) (
   q03 (q0r r2 x38.To) fun x45 =>
   q03 (q8y n (r42++[x38.Feat]) x45) fun r47 =>
   cond (!r47)
    (q03 (q0r r2 x38.To) fun x52 =>
    q0y ((l33.length+1)*48≤140737488355328∧l33.length+1≤140737488355328) (
    q7t z32 (q49 n r2 z11 rc1 x17 m2) (l33++[(q0i.mk x52 (r42++[x38.Feat]))])))
    (q7t z32 (q49 n r2 z11 rc1 x17 m2) l33)))
   (qbb z11 rc1 l33)
def qba  (l14:List q0i):Option ((List q0i)) :=
 some l14
def q3e (p1:GFS) (n:Nat) (r2:(List (List Int))):Nat→Int→(List q0i)→Option ((List q0i))
 | 0,_,_=>none
 | m1+1,z11,l12 =>
  cond (decide (z11<(p1.Nodes.length:Int)))
   (q03 (q0r p1.Nodes z11) fun x17 =>
   q49 n r2 z11 (q3e p1 n r2 m1) x17 n 0 l12)
   (qba l12)
def qc7 (n:Nat) (p1:GFS):Option ((List q0i)) :=
 q03 (qe2 n p1) fun r2 =>
 q3e p1 n r2 n 0 ([]:List q0i)
theorem qc8 (n:Nat) (p1:GFS) (r:(List q0i)) (hF:qc7 n p1=some r):EvU Tryz.prog 18 [.agg [.isl false (List.map q07 p1.Nodes)]] ⟨[],0⟩ (fun u _=>u = .isl false (List.map q18 r)∧Bel 0 u):=by
 unfold qc7 at hF
 refine bg1 57 fn18 ?_
 obtain ⟨r2,h3,hF⟩:=q00 hF
 refine go ?_
 refine RS.cl rfl (pC (qav n p1 r2 h3) _) fn15 ?_
 refine gr ?_
 refine gr ?_
 refine WPU.ghost (tm':=fr 57 [(3,.iM (cL (cI .i64)) r2),(4,.vl 1 0 0 (([]:List q0i).length)),(13,.iM q07 p1.Nodes),(14,.i6 (p1.Nodes.length:Int)),(15,.i6 0)]) (σ':=⟨[(1,.vec (List.map q18 ([]:List q0i)).flatten 56 2 0),(0,.row [.iM q07 p1.Nodes] 24)],2⟩) (Gh.trans (z0c 4 56 2 (by decide) NZ rfl rfl) (z0b ⟨rfl,rfl,rfl,rfl,rfl,trivial⟩ rfl)) NZ ?_
 refine gS (l':=[(3,_),(4,_),(13,_),(14,_),(15,_)]) ?_
 refine z07 (fun m tm σ=>∃ z11:Int,∃ l12:List q0i,∃ t13:Nat,q3e p1 n r2 m z11 l12=some r∧tm=fr 57 [(3,.iM (cL (cI .i64)) r2),(4,.vl 1 t13 0 l12.length),(13,.iM q07 p1.Nodes),(14,.i6 (p1.Nodes.length:Int)),(15,.i6 z11)]∧σ=⟨[(1,.vec (List.map q18 l12).flatten 56 2 t13),(0,.row [.iM q07 p1.Nodes] 24)],2⟩) (fun tm σ=>∃ l14:List q0i,∃ t15:Nat,qba l14=some r∧tm=fr 57 [(4,.vl 1 t15 0 l14.length)]∧σ=⟨[(1,.vec (List.map q18 l14).flatten 56 2 t15),(0,.row [.iM q07 p1.Nodes] 24)],2⟩) n ⟨0,([]:List q0i),0,hF,rfl,rfl⟩ ?_ ?_
 rintro _ _ ⟨l14,t15,hF,rfl,rfl⟩
 unfold qba at hF
 refine go ?_
 obtain rfl:=sI hF
 exact rT (us:=[.vl 1 t15 0 l14.length]) (u:=.iM q18 l14) (q32 rfl (q3p)) (fR 1 2)
 rintro (_|m1) _ _ ⟨z11,l12,t13,hF,rfl,rfl⟩
 cases hF
 unfold q3e at hF
 refine go ?_
 refine cF hF (fun h16 hF=>?_) (fun h16 hF=>?_)
 refine go ?_
 refine WPU.block ?_
 obtain ⟨x17,h18,hF⟩:=q00 hF
 refine go ?_
 refine RS.ix h18 ?_
 refine go ?_
 refine gS (l':=[(3,_),(4,_),(5,_),(13,_),(14,_),(15,_),(21,_),(22,_),(23,_)]) ?_
 refine z07 (fun m tm σ=>∃ z32:Int,∃ l33:List q0i,∃ t34:Nat,q49 n r2 z11 (q3e p1 n r2 m1) x17 m z32 l33=some r∧tm=fr 57 [(3,.iM (cL (cI .i64)) r2),(4,.vl 1 t34 0 l33.length),(5,.i6 z11),(13,.iM q07 p1.Nodes),(14,.i6 (p1.Nodes.length:Int)),(15,.i6 z11),(21,.iM q1t x17.Arcs),(22,.i6 (x17.Arcs.length:Int)),(23,.i6 z32)]∧σ=⟨[(2,.row (q07 x17) 54),(1,.vec (List.map q18 l33).flatten 56 2 t34),(0,.row [.iM q07 p1.Nodes] 24)],3⟩) (fun tm σ=>∃ l35:List q0i,∃ t36:Nat,qbb z11 (q3e p1 n r2 m1) l35=some r∧tm=fr 57 [(3,.iM (cL (cI .i64)) r2),(4,.vl 1 t36 0 l35.length),(13,.iM q07 p1.Nodes),(14,.i6 (p1.Nodes.length:Int)),(15,.i6 z11)]∧σ=⟨[(2,.row (q07 x17) 54),(1,.vec (List.map q18 l35).flatten 56 2 t36),(0,.row [.iM q07 p1.Nodes] 24)],3⟩) n ⟨0,l12,t13,hF,rfl,rfl⟩ ?_ ?_
 rintro _ _ ⟨l35,t36,hF,rfl,rfl⟩
 unfold qbb at hF
 refine go ?_
 exact lC ⟨_,l35,t36,hF,rfl,rfl⟩
 rintro (_|m2) _ _ ⟨z32,l33,t34,hF,rfl,rfl⟩
 cases hF
 unfold q49 at hF
 refine go ?_
 refine cF hF (fun h37 hF=>?_) (fun h37 hF=>?_)
 refine go ?_
 refine WPU.block ?_
 obtain ⟨x38,h39,hF⟩:=q00 hF
 refine go ?_
 refine RS.ix h39 ?_
 obtain ⟨x40,h41,hF⟩:=q00 hF
 obtain ⟨r42,h43,hF⟩:=q00 hF
 obtain ⟨h44,hF⟩:=q08 hF
 refine go ?_
 refine z0a Tryz.tb_ok [(5,4),(6,4)] (by kernel_rfl) ?_
 refine gd ?_
 refine RD.ix h41 ?_
 refine gd ?_
 refine RD.callm (u:=.vl 5 0 0 r42.length) (σ1:=⟨[(5,.vec (List.map (cI .i64) r42).flatten 3 1 0),(3,.row (q1t x38) 66),(2,.row (q07 x17) 54),(1,.vec (List.map q18 l33).flatten 56 2 t34),(0,.row [.iM q07 p1.Nodes] 24)],6⟩) (args:=[.iM (cI .i64) x40]) rfl (qjt rfl rfl fn48 hb48 rfl rfl) (EvU.own0 (cI .i64) (qb2 n x40 r42 h43) _ 5 rfl) rfl rfl ?_
 refine gd ?_
 refine RD.freeO (u:=.iM (cI .i64) ([x38.Feat])) rfl (qd1.bs (cs:=[.i6 x38.Feat]) un33.h if3.h rfl rfl rfl rfl rfl rfl rfl rfl rfl) rfl rfl ?_
 refine RD.g ?_
 refine gd ?_
 refine RD.done ⟨by kernel_rfl,⟨qpo un66.h rfl (q2k if3.h) rfl rfl rfl,⟨qjl un3.h rfl rfl rfl rfl,trivial⟩⟩,?_⟩
 obtain ⟨x45,h46,hF⟩:=q00 hF
 obtain ⟨r47,h48,hF⟩:=q00 hF
 refine go ?_
 refine RS.ix h46 ?_
 refine go ?_
 refine RS.cl rfl (vw (qgj n (r42++[x38.Feat]) x45 r47 h48) (z09 5 1)) fn49 ?_
 refine gn ?_
 refine z08 (fun tm σ=>∃ l50:List q0i,∃ t51:Nat,q7t z32 (q49 n r2 z11 (q3e p1 n r2 m1) x17 m2) l50=some r∧tm=fr 57 [(3,.iM (cL (cI .i64)) r2),(4,.vl 1 t51 0 l50.length),(5,.i6 z11),(13,.iM q07 p1.Nodes),(14,.i6 (p1.Nodes.length:Int)),(15,.i6 z11),(21,.iM q1t x17.Arcs),(22,.i6 (x17.Arcs.length:Int)),(23,.i6 z32)]∧σ=⟨[(3,.row (q1t x38) 66),(2,.row (q07 x17) 54),(1,.vec (List.map q18 l50).flatten 56 2 t51),(0,.row [.iM q07 p1.Nodes] 24)],6⟩) ?_ ?_
 rintro _ _ ⟨l50,t51,hF,rfl,rfl⟩
 unfold q7t at hF
 refine go ?_
 exact lC ⟨_,l50,t51,hF,rfl,rfl⟩
 refine cF hF (fun h49 hF=>?_) (fun h49 hF=>?_)
 refine gn ?_
 refine WPU.ghost (tm':=fr 57 [(3,.iM (cL (cI .i64)) r2),(4,.vl 1 t34 0 l33.length),(5,.i6 z11),(8,.ptr 3 0 0),(9,.iM (cI .i64) (r42++[x38.Feat])),(13,.iM q07 p1.Nodes),(14,.i6 (p1.Nodes.length:Int)),(15,.i6 z11),(21,.iM q1t x17.Arcs),(22,.i6 (x17.Arcs.length:Int)),(23,.i6 z32)]) (σ':=⟨[(3,.row (q1t x38) 66),(2,.row (q07 x17) 54),(1,.vec (List.map q18 l33).flatten 56 2 t34),(0,.row [.iM q07 p1.Nodes] 24)],6⟩) (Gh.trans (Gh.sub (l':=[(3,.iM (cL (cI .i64)) r2),(4,.vl 1 t34 0 l33.length),(5,.i6 z11),(8,.ptr 3 0 0),(9,.vl 5 1 0 ((r42++[x38.Feat]).length)),(13,.iM q07 p1.Nodes),(14,.i6 (p1.Nodes.length:Int)),(15,.i6 z11),(21,.iM q1t x17.Arcs),(22,.i6 (x17.Arcs.length:Int)),(23,.i6 z32)]) ⟨rfl,rfl,rfl,rfl,rfl,rfl,rfl,rfl,rfl,rfl,rfl,trivial⟩) (z0j 5 1)) NZ ?_
 obtain ⟨x52,h53,hF⟩:=q00 hF
 obtain ⟨h54,hF⟩:=q08 hF
 refine go ?_
 refine RS.ix h53 ?_
 refine go ?_
 refine RS.g ?_
 refine RS.g ?_
 refine go ?_
 exact xC ⟨(l33++[(q0i.mk x52 (r42++[x38.Feat]))]),(t34+1),hF,rfl,rfl⟩
 refine go ?_
 exact ⟨_,_,⟨l33,t34,hF,rfl,rfl⟩,NZ,Gh.trans (Gh.only (fun k=>!(Nat.beq k 5))) (Gh.toC (n1:=6) ⟨rfl,rfl,rfl,rfl,rfl,rfl,rfl,rfl,rfl,trivial⟩ rfl NZ (by simp))⟩
 refine go ?_
 exact xC ⟨l33,t34,hF,rfl,rfl⟩
 refine go ?_
 exact xC ⟨l12,t13,hF,rfl,rfl⟩
def qcb (z22:Int) (l23:List q0z) (rc2:Int→(List q0z)→Option (GFS)) (x28:q0z) (l48:List q3x):Option (GFS) :=
 q0y ((l23.length+1)*32≤140737488355328∧l23.length+1≤140737488355328) (
 rc2 (IntKind.i64.wrap (z22+1)) (l23++[(q0z.mk x28.Typex l48)]))
def q9f (p1:List Int) (z22:Int) (l23:List q0z) (rc2:Int→(List q0z)→Option (GFS)) (x28:q0z):Nat→Int→(List q3x)→Option (GFS)
 | 0,_,_=>none
 | m3+1,z45,l46 =>
  cond (decide (z45<(x28.Arcs.length:Int)))
   (q03 (q0r x28.Arcs z45) fun x52 =>
   q0y ((l46.length+1)*16≤140737488355328∧l46.length+1≤140737488355328) (
   (q9f p1 z22 l23 rc2 x28 m3) (IntKind.i64.wrap (z45+1)) (l46++[(q3x.mk x52.Feat (IntKind.i64.wrap (x52.To+(p1.length:Int))))])))
   (qcb z22 l23 rc2 x28 l46)
def qca  (l25:List q0z):Option (GFS) :=
 some (GFS.mk l25)
def q58 (p1:List Int) (p2:GFS) (n:Nat):Nat→Int→(List q0z)→Option (GFS)
 | 0,_,_=>none
 | m2+1,z22,l23 =>
  cond (decide (z22<(p2.Nodes.length:Int)))
   (q03 (q0r p2.Nodes z22) fun x28 =>
   q9f p1 z22 l23 (q58 p1 p2 n m2) x28 n 0 ([]:List q3x))
   (qca l23)
def qc9 (p1:List Int) (p2:GFS) (n:Nat) (l13:List q0z):Option (GFS) :=
 q58 p1 p2 n n 0 l13
def q9e (p1:List Int) (p2:GFS) (n:Nat):Nat→Int→(List q0z)→Option (GFS)
 | 0,_,_=>none
 | m1+1,z10,l11 =>
  cond (decide (z10<(p1.length:Int)))
   (q03 (q0r p1 z10) fun x56 =>
   q0y ((l11.length+1)*32≤140737488355328∧l11.length+1≤140737488355328) (
   (q9e p1 p2 n m1) (IntKind.i64.wrap (z10+1)) (l11++[(q0z.mk 0 ([(q3x.mk x56 (IntKind.i64.wrap (z10+1)))]))])))
   (qc9 p1 p2 n l11)
def qh8 (n:Nat) (p1:List Int) (p2:GFS):Option (GFS) :=
 q9e p1 p2 n n 0 ([]:List q0z)
theorem q6e (n:Nat) (p1:List Int) (p2:GFS) (r:GFS) (hF:qh8 n p1 p2=some r):EvU Tryz.prog 22 [.isl false (List.map (cI .i64) p1),.agg [.isl false (List.map q07 p2.Nodes)]] ⟨[],0⟩ (fun u _=>u = .agg [.isl false (List.map q07 r.Nodes)]∧Bel 0 u):=by
 unfold qh8 at hF
 refine bg2 71 fn22 ?_
 refine gr ?_
 refine gr ?_
 refine gr ?_
 refine WPU.ghost (tm':=fr 71 [(0,.iM (cI .i64) p1),(3,.ptr 0 0 0),(4,.ptr 1 0 0),(5,.ptr 2 0 0),(13,.iM (cI .i64) p1),(14,.i6 (p1.length:Int)),(15,.i6 0)]) (σ':=⟨[(3,.vec (List.map q07 ([]:List q0z)).flatten 54 2 0),(2,.row [.vl 3 0 0 (([]:List q0z).length)] 24),(1,.row [.nils] 24),(0,.row [.iM q07 p2.Nodes] 24)],4⟩) (Gh.trans (z0i 2 0 54 2 (by decide) NZ rfl rfl) (z0b ⟨rfl,rfl,rfl,rfl,rfl,rfl,rfl,trivial⟩ rfl)) NZ ?_
 refine gS (l':=[(0,_),(3,_),(4,_),(5,_),(13,_),(14,_),(15,_)]) ?_
 refine z07 (fun m tm σ=>∃ z10:Int,∃ l11:List q0z,∃ t12:Nat,q9e p1 p2 n m z10 l11=some r∧tm=fr 71 [(0,.iM (cI .i64) p1),(3,.ptr 0 0 0),(4,.ptr 1 0 0),(5,.ptr 2 0 0),(13,.iM (cI .i64) p1),(14,.i6 (p1.length:Int)),(15,.i6 z10)]∧σ=⟨[(3,.vec (List.map q07 l11).flatten 54 2 t12),(2,.row [.vl 3 t12 0 l11.length] 24),(1,.row [.nils] 24),(0,.row [.iM q07 p2.Nodes] 24)],4⟩) (fun tm σ=>∃ l13:List q0z,∃ t14:Nat,qc9 p1 p2 n l13=some r∧tm=fr 71 [(0,.iM (cI .i64) p1),(3,.ptr 0 0 0),(4,.ptr 1 0 0),(5,.ptr 2 0 0)]∧σ=⟨[(3,.vec (List.map q07 l13).flatten 54 2 t14),(2,.row [.vl 3 t14 0 l13.length] 24),(1,.row [.nils] 24),(0,.row [.iM q07 p2.Nodes] 24)],4⟩) n ⟨0,([]:List q0z),0,hF,rfl,rfl⟩ ?_ ?_
 rintro _ _ ⟨l13,t14,hF,rfl,rfl⟩
 unfold qc9 at hF
 refine go ?_
 refine gS (l':=[(0,_),(4,_),(5,_),(33,_),(34,_),(35,_)]) ?_
 refine z07 (fun m tm σ=>∃ z22:Int,∃ l23:List q0z,∃ t24:Nat,q58 p1 p2 n m z22 l23=some r∧tm=fr 71 [(0,.iM (cI .i64) p1),(4,.ptr 1 0 0),(5,.ptr 2 0 0),(33,.iM q07 p2.Nodes),(34,.i6 (p2.Nodes.length:Int)),(35,.i6 z22)]∧σ=⟨[(3,.vec (List.map q07 l23).flatten 54 2 t24),(2,.row [.vl 3 t24 0 l23.length] 24),(1,.row [.nils] 24),(0,.row [.iM q07 p2.Nodes] 24)],4⟩) (fun tm σ=>∃ l25:List q0z,∃ t26:Nat,qca l25=some r∧tm=fr 71 [(4,.ptr 1 0 0),(5,.ptr 2 0 0)]∧σ=⟨[(3,.vec (List.map q07 l25).flatten 54 2 t26),(2,.row [.vl 3 t26 0 l25.length] 24),(1,.row [.nils] 24),(0,.row [.iM q07 p2.Nodes] 24)],4⟩) n ⟨0,l13,t14,hF,rfl,rfl⟩ ?_ ?_
 rintro _ _ ⟨l25,t26,hF,rfl,rfl⟩
 unfold qca at hF
 refine go ?_
 obtain rfl:=sI hF
 exact rT (us:=[.agg [.vl 3 t26 0 l25.length]]) (u:=.agg [.iM q07 l25]) (qi7 (qbh un24.h rfl (q2k if24.h) rfl rfl rfl) (q3p)) (fR 3 2)
 rintro (_|m2) _ _ ⟨z22,l23,t24,hF,rfl,rfl⟩
 cases hF
 unfold q58 at hF
 refine go ?_
 refine cF hF (fun h27 hF=>?_) (fun h27 hF=>?_)
 refine go ?_
 refine WPU.block ?_
 obtain ⟨x28,h29,hF⟩:=q00 hF
 refine go ?_
 refine RS.ix h29 ?_
 refine gr ?_
 refine gr ?_
 refine WPU.ghost (tm':=fr 71 [(0,.iM (cI .i64) p1),(4,.ptr 1 0 0),(5,.ptr 2 0 0),(10,.ptr 5 0 0),(33,.iM q07 p2.Nodes),(34,.i6 (p2.Nodes.length:Int)),(35,.i6 z22),(43,.iM q1t x28.Arcs),(44,.i6 (x28.Arcs.length:Int)),(45,.i6 0)]) (σ':=⟨[(6,.vec (List.map q1t ([]:List q3x)).flatten 66 2 0),(5,.row [.i6 x28.Typex,.vl 6 0 0 (([]:List q3x).length)] 54),(4,.row (q07 x28) 54),(3,.vec (List.map q07 l23).flatten 54 2 t24),(2,.row [.vl 3 t24 0 l23.length] 24),(1,.row [.nils] 24),(0,.row [.iM q07 p2.Nodes] 24)],7⟩) (Gh.trans (z0i 5 1 66 2 (by decide) NZ rfl rfl) (z0b ⟨rfl,rfl,rfl,rfl,rfl,rfl,rfl,rfl,rfl,rfl,trivial⟩ rfl)) NZ ?_
 refine gS (l':=[(0,_),(4,_),(5,_),(10,_),(33,_),(34,_),(35,_),(43,_),(44,_),(45,_)]) ?_
 refine z07 (fun m tm σ=>∃ z45:Int,∃ l46:List q3x,∃ t47:Nat,q9f p1 z22 l23 (q58 p1 p2 n m2) x28 m z45 l46=some r∧tm=fr 71 [(0,.iM (cI .i64) p1),(4,.ptr 1 0 0),(5,.ptr 2 0 0),(10,.ptr 5 0 0),(33,.iM q07 p2.Nodes),(34,.i6 (p2.Nodes.length:Int)),(35,.i6 z22),(43,.iM q1t x28.Arcs),(44,.i6 (x28.Arcs.length:Int)),(45,.i6 z45)]∧σ=⟨[(6,.vec (List.map q1t l46).flatten 66 2 t47),(5,.row [.i6 x28.Typex,.vl 6 t47 0 l46.length] 54),(4,.row (q07 x28) 54),(3,.vec (List.map q07 l23).flatten 54 2 t24),(2,.row [.vl 3 t24 0 l23.length] 24),(1,.row [.nils] 24),(0,.row [.iM q07 p2.Nodes] 24)],7⟩) (fun tm σ=>∃ l48:List q3x,∃ t49:Nat,qcb z22 l23 (q58 p1 p2 n m2) x28 l48=some r∧tm=fr 71 [(0,.iM (cI .i64) p1),(4,.ptr 1 0 0),(5,.ptr 2 0 0),(10,.ptr 5 0 0),(33,.iM q07 p2.Nodes),(34,.i6 (p2.Nodes.length:Int)),(35,.i6 z22)]∧σ=⟨[(6,.vec (List.map q1t l48).flatten 66 2 t49),(5,.row [.i6 x28.Typex,.vl 6 t49 0 l48.length] 54),(4,.row (q07 x28) 54),(3,.vec (List.map q07 l23).flatten 54 2 t24),(2,.row [.vl 3 t24 0 l23.length] 24),(1,.row [.nils] 24),(0,.row [.iM q07 p2.Nodes] 24)],7⟩) n ⟨0,([]:List q3x),0,hF,rfl,rfl⟩ ?_ ?_
 rintro _ _ ⟨l48,t49,hF,rfl,rfl⟩
 unfold qcb at hF
 refine gn ?_
 refine WPU.ghost (tm':=fr 71 [(0,.iM (cI .i64) p1),(4,.ptr 1 0 0),(5,.ptr 2 0 0),(10,.ptr 5 0 0),(33,.iM q07 p2.Nodes),(34,.i6 (p2.Nodes.length:Int)),(35,.i6 z22)]) (σ':=⟨[(5,.row [.i6 x28.Typex,.iM q1t l48] 54),(4,.row (q07 x28) 54),(3,.vec (List.map q07 l23).flatten 54 2 t24),(2,.row [.vl 3 t24 0 l23.length] 24),(1,.row [.nils] 24),(0,.row [.iM q07 p2.Nodes] 24)],7⟩) (Gh.trans (Gh.sub (l':=[(0,.iM (cI .i64) p1),(4,.ptr 1 0 0),(5,.ptr 2 0 0),(10,.ptr 5 0 0),(33,.iM q07 p2.Nodes),(34,.i6 (p2.Nodes.length:Int)),(35,.i6 z22)]) ⟨rfl,rfl,rfl,rfl,rfl,rfl,rfl,trivial⟩) (z0j 6 2)) NZ ?_
 obtain ⟨h50,hF⟩:=q08 hF
 refine go ?_
 refine RS.g ?_
 refine RS.g ?_
 refine go ?_
 exact lC ⟨_,(l23++[(q0z.mk x28.Typex l48)]),(t24+1),hF,rfl,rfl⟩
 rintro (_|m3) _ _ ⟨z45,l46,t47,hF,rfl,rfl⟩
 cases hF
 unfold q9f at hF
 refine go ?_
 refine cF hF (fun h51 hF=>?_) (fun h51 hF=>?_)
 refine go ?_
 refine WPU.block ?_
 obtain ⟨x52,h53,hF⟩:=q00 hF
 refine go ?_
 refine RS.ix h53 ?_
 obtain ⟨h54,hF⟩:=q08 hF
 refine go ?_
 refine RS.g ?_
 refine RS.g ?_
 refine go ?_
 exact lC ⟨_,(l46++[(q3x.mk x52.Feat (IntKind.i64.wrap (x52.To+(p1.length:Int))))]),(t47+1),hF,rfl,rfl⟩
 refine go ?_
 exact xC ⟨l46,t47,hF,rfl,rfl⟩
 refine go ?_
 exact xC ⟨l23,t24,hF,rfl,rfl⟩
 rintro (_|m1) _ _ ⟨z10,l11,t12,hF,rfl,rfl⟩
 cases hF
 unfold q9e at hF
 refine go ?_
 refine cF hF (fun h55 hF=>?_) (fun h55 hF=>?_)
 refine go ?_
 refine WPU.block ?_
 obtain ⟨x56,h57,hF⟩:=q00 hF
 refine go ?_
 refine RS.ix h57 ?_
 obtain ⟨h58,hF⟩:=q08 hF
 refine go ?_
 refine RS.step (u:=.iM q1t ([(q3x.mk x56 (IntKind.i64.wrap (z10+1)))])) (σ':=⟨[(3,.vec (List.map q07 l11).flatten 54 2 t12),(2,.row [.vl 3 t12 0 l11.length] 24),(1,.row [.nils] 24),(0,.row [.iM q07 p2.Nodes] 24)],5⟩) rfl (qcy.fz Tryz.tb_ok (u1:=.sl 4 0 1 1) (s1:=⟨[(4,.row [.i6 x56,.i6 (IntKind.i64.wrap (z10+1))] 66),(3,.vec (List.map q07 l11).flatten 54 2 t12),(2,.row [.vl 3 t12 0 l11.length] 24),(1,.row [.nils] 24),(0,.row [.iM q07 p2.Nodes] 24)],5⟩) (q94 un52.h if66.h rfl rfl rfl rfl rfl rfl rfl) (z09 4 2) (Nat.le_refl _) rfl rfl) rfl rfl ?_
 refine go ?_
 refine RS.g ?_
 refine RS.g ?_
 refine go ?_
 exact lC ⟨_,(l11++[(q0z.mk 0 ([(q3x.mk x56 (IntKind.i64.wrap (z10+1)))]))]),(t12+1),hF,rfl,rfl⟩
 refine go ?_
 exact xC ⟨l11,t12,hF,rfl,rfl⟩
def q9d (n:Nat) (l13:List (List UInt8)):Option ((List UInt8)) :=
 q03 (strings_Join n l13 ([46])) fun r15 =>
 some r15
def q57 (p1:q09) (p2:List Int) (n:Nat):Nat→Int→(List (List UInt8))→Option ((List UInt8))
 | 0,_,_=>none
 | m1+1,z10,l11 =>
  cond (decide (z10<(p2.length:Int)))
   (q03 (q0r p2 z10) fun x18 =>
   q03 (q0r p1.Feats x18) fun x20 =>
   q0y ((l11.length+1)*16≤140737488355328∧l11.length+1≤140737488355328) (
   (q57 p1 p2 n m1) (IntKind.i64.wrap (z10+1)) (l11++[x20.Name])))
   (q9d n l11)
def qbj (n:Nat) (p1:q09) (p2:List Int):Option ((List UInt8)) :=
 q57 p1 p2 n n 0 ([]:List (List UInt8))
theorem qax (n:Nat) (p1:q09) (p2:List Int) (r:(List UInt8)) (hF:qbj n p1 p2=some r):EvU Tryz.prog 25 [.agg (q0b p1),.isl false (List.map (cI .i64) p2)] ⟨[],0⟩ (fun u _=>u = .str r∧Bel 0 u):=by
 unfold qbj at hF
 refine bg2 26 fn25 ?_
 refine gr ?_
 refine gr ?_
 refine gr ?_
 refine WPU.ghost (tm':=fr 26 [(2,.ptr 0 0 0),(5,.vl 1 0 0 (([]:List (List UInt8)).length)),(8,.iM (cI .i64) p2),(9,.i6 (p2.length:Int)),(10,.i6 0)]) (σ':=⟨[(1,.vec (List.map cS ([]:List (List UInt8))).flatten 9 1 0),(0,.row (q0b p1) 43)],2⟩) (Gh.trans (z0c 5 9 1 (by decide) NZ rfl rfl) (z0b ⟨rfl,rfl,rfl,rfl,rfl,trivial⟩ rfl)) NZ ?_
 refine gS (l':=[(2,_),(5,_),(8,_),(9,_),(10,_)]) ?_
 refine z07 (fun m tm σ=>∃ z10:Int,∃ l11:List (List UInt8),∃ t12:Nat,q57 p1 p2 n m z10 l11=some r∧tm=fr 26 [(2,.ptr 0 0 0),(5,.vl 1 t12 0 l11.length),(8,.iM (cI .i64) p2),(9,.i6 (p2.length:Int)),(10,.i6 z10)]∧σ=⟨[(1,.vec (List.map cS l11).flatten 9 1 t12),(0,.row (q0b p1) 43)],2⟩) (fun tm σ=>∃ l13:List (List UInt8),∃ t14:Nat,q9d n l13=some r∧tm=fr 26 [(5,.vl 1 t14 0 l13.length)]∧σ=⟨[(1,.vec (List.map cS l13).flatten 9 1 t14),(0,.row (q0b p1) 43)],2⟩) n ⟨0,([]:List (List UInt8)),0,hF,rfl,rfl⟩ ?_ ?_
 rintro _ _ ⟨l13,t14,hF,rfl,rfl⟩
 unfold q9d at hF
 obtain ⟨r15,h16,hF⟩:=q00 hF
 refine go ?_
 refine RS.cl rfl (vw (ql3 n l13 ([46]) r15 h16) (z09 1 1)) fn52 ?_
 exact gx hF
 rintro (_|m1) _ _ ⟨z10,l11,t12,hF,rfl,rfl⟩
 cases hF
 unfold q57 at hF
 refine go ?_
 refine cF hF (fun h17 hF=>?_) (fun h17 hF=>?_)
 refine go ?_
 refine WPU.block ?_
 obtain ⟨x18,h19,hF⟩:=q00 hF
 refine go ?_
 refine RS.ix h19 ?_
 obtain ⟨x20,h21,hF⟩:=q00 hF
 obtain ⟨h22,hF⟩:=q08 hF
 refine go ?_
 refine RS.ix h21 ?_
 refine go ?_
 refine RS.g ?_
 refine RS.g ?_
 refine go ?_
 exact lC ⟨_,(l11++[x20.Name]),(t12+1),hF,rfl,rfl⟩
 refine go ?_
 exact xC ⟨l11,t12,hF,rfl,rfl⟩
def q9z   : Option (Int) :=
 some (-1)
def q28 (p1:q09) (p2:List UInt8):Nat→Int→Option (Int)
 | 0,_=>none
 | m1+1,z9 =>
  cond (decide (z9<(p1.Feats.length:Int)))
   (q03 (q0r p1.Feats z9) fun x11 =>
   cond (q52 x11 (q0o.mk p2 x11.Intro))
    (some z9)
    ((q28 p1 p2 m1) (IntKind.i64.wrap (z9+1))))
   (q9z)
def qar (n:Nat) (p1:q09) (p2:List UInt8):Option (Int) :=
 q28 p1 p2 n 0
theorem qks (n:Nat) (p1:q09) (p2:List UInt8) (r:Int) (hF:qar n p1 p2=some r):EvU Tryz.prog 55 [.agg (q0b p1),.str p2] ⟨[],0⟩ (fun u _=>u = .int .i64 r∧Bel 0 u):=by
 unfold qar at hF
 refine bg2 23 fn55 ?_
 refine go ?_
 refine gS (l':=[(1,_),(8,_),(9,_),(10,_)]) ?_
 refine z07 (fun m tm σ=>∃ z9:Int,q28 p1 p2 m z9=some r∧tm=fr 23 [(1,.str p2),(8,.iM q2y p1.Feats),(9,.i6 (p1.Feats.length:Int)),(10,.i6 z9)]∧σ=⟨[(0,.row (q0b p1) 43)],1⟩) (fun tm σ=>q9z=some r∧tm=fr 23 []∧σ=⟨[(0,.row (q0b p1) 43)],1⟩) n ⟨0,hF,rfl,rfl⟩ ?_ ?_
 rintro _ _ ⟨hF,rfl,rfl⟩
 unfold q9z at hF
 exact gx hF
 rintro (_|m1) _ _ ⟨z9,hF,rfl,rfl⟩
 cases hF
 unfold q28 at hF
 refine go ?_
 refine cF hF (fun h10 hF=>?_) (fun h10 hF=>?_)
 refine go ?_
 refine WPU.block ?_
 obtain ⟨x11,h12,hF⟩:=q00 hF
 refine go ?_
 refine RS.ix h12 ?_
 refine go ?_
 refine RS.q (u:=.bool (q52 x11 (q0o.mk p2 x11.Intro))) rfl (qum rfl rfl (qti x11 (q0o.mk p2 x11.Intro))) ?_
 refine go ?_
 refine cF hF (fun h13 hF=>?_) (fun h13 hF=>?_)
 exact gx hF
 refine go ?_
 exact lC ⟨_,hF,rfl,rfl⟩
 refine go ?_
 exact xC ⟨hF,rfl,rfl⟩
def q9c  (l24:List Int):Option ((List Int)×Int) :=
 some (l24,0)
def q56 (p1:q09) (n:Nat) (r4:(List (List UInt8))):Nat→Int→(List Int)→Option ((List Int)×Int)
 | 0,_,_=>none
 | m2+1,z21,l22 =>
  cond (decide (z21<(r4.length:Int)))
   (q03 (q0r r4 z21) fun x27 =>
   q03 (qar n p1 x27) fun r29 =>
   cond (decide (r29<0))
    (some ([],5))
    (q0y ((l22.length+1)*8≤140737488355328∧l22.length+1≤140737488355328) (
    (q56 p1 n r4 m2) (IntKind.i64.wrap (z21+1)) (l22++[r29]))))
   (q9c l22)
def q9b (p1:q09) (n:Nat) (r4:(List (List UInt8)))  : Option ((List Int)×Int) :=
 q56 p1 n r4 n 0 ([]:List Int)
def q55 (p1:q09) (n:Nat) (r4:(List (List UInt8))):Nat→Int→Option ((List Int)×Int)
 | 0,_=>none
 | m1+1,z13 =>
  cond (decide (z13<(r4.length:Int)))
   (q03 (q0r r4 z13) fun x34 =>
   q03 (qdq n x34) fun r36 =>
   cond (!r36)
    (some ([],8))
    ((q55 p1 n r4 m1) (IntKind.i64.wrap (z13+1))))
   (q9b p1 n r4)
def q6d (n:Nat) (p1:q09) (p2:List UInt8):Option ((List Int)×Int) :=
 cond (q0j p2 [])
  (some ([],0))
  (q03 (q7d n p2 ([46])) fun r4 =>
  cond (decide ((r4.length:Int) > 64))
   (some ([],7))
   (q55 p1 n r4 n 0))
theorem qaw (n:Nat) (p1:q09) (p2:List UInt8) (r:(List Int)×Int) (hF:q6d n p1 p2=some r):EvU Tryz.prog 26 [.agg (q0b p1),.str p2] ⟨[],0⟩ (fun u _=>u = .tup [.isl false (List.map (cI .i64) r.1),.int .i64 r.2]∧Bel 0 u):=by
 unfold q6d at hF
 refine bg2 47 fn26 ?_
 refine go ?_
 refine RS.q (u:=.bool (q0j p2 [])) rfl (q5f rfl rfl rfl rfl) ?_
 refine go ?_
 refine cF hF (fun h3 hF=>?_) (fun h3 hF=>?_)
 refine go ?_
 obtain rfl:=sI hF
 exact rT (us:=[.nils,.i6 0]) (u:=.tup [.isl false [],.i6 0]) (q32 rfl (q32 rfl (q3p))) wR
 obtain ⟨r4,h5,hF⟩:=q00 hF
 refine go ?_
 refine RS.cl rfl (qi8 n p2 ([46]) r4 h5 _) fn53 ?_
 refine go ?_
 refine cF hF (fun h6 hF=>?_) (fun h6 hF=>?_)
 refine go ?_
 obtain rfl:=sI hF
 exact rT (us:=[.nils,.i6 7]) (u:=.tup [.isl false [],.i6 7]) (q32 rfl (q32 rfl (q3p))) wR
 refine go ?_
 refine gS (l':=[(2,_),(6,_),(20,_),(21,_),(22,_)]) ?_
 refine z07 (fun m tm σ=>∃ z13:Int,q55 p1 n r4 m z13=some r∧tm=fr 47 [(2,.ptr 0 0 0),(6,.iM cS r4),(20,.iM cS r4),(21,.i6 (r4.length:Int)),(22,.i6 z13)]∧σ=⟨[(0,.row (q0b p1) 43)],1⟩) (fun tm σ=>q9b p1 n r4=some r∧tm=fr 47 [(2,.ptr 0 0 0),(6,.iM cS r4)]∧σ=⟨[(0,.row (q0b p1) 43)],1⟩) n ⟨0,hF,rfl,rfl⟩ ?_ ?_
 rintro _ _ ⟨hF,rfl,rfl⟩
 unfold q9b at hF
 refine gr ?_
 refine gr ?_
 refine WPU.ghost (tm':=fr 47 [(2,.ptr 0 0 0),(9,.vl 1 0 0 (([]:List Int).length)),(30,.iM cS r4),(31,.i6 (r4.length:Int)),(32,.i6 0)]) (σ':=⟨[(1,.vec (List.map (cI .i64) ([]:List Int)).flatten 3 1 0),(0,.row (q0b p1) 43)],2⟩) (Gh.trans (z0c 9 3 1 (by decide) NZ rfl rfl) (z0b ⟨rfl,rfl,rfl,rfl,rfl,trivial⟩ rfl)) NZ ?_
 refine gS (l':=[(2,_),(9,_),(30,_),(31,_),(32,_)]) ?_
 refine z07 (fun m tm σ=>∃ z21:Int,∃ l22:List Int,∃ t23:Nat,q56 p1 n r4 m z21 l22=some r∧tm=fr 47 [(2,.ptr 0 0 0),(9,.vl 1 t23 0 l22.length),(30,.iM cS r4),(31,.i6 (r4.length:Int)),(32,.i6 z21)]∧σ=⟨[(1,.vec (List.map (cI .i64) l22).flatten 3 1 t23),(0,.row (q0b p1) 43)],2⟩) (fun tm σ=>∃ l24:List Int,∃ t25:Nat,q9c l24=some r∧tm=fr 47 [(9,.vl 1 t25 0 l24.length)]∧σ=⟨[(1,.vec (List.map (cI .i64) l24).flatten 3 1 t25),(0,.row (q0b p1) 43)],2⟩) n ⟨0,([]:List Int),0,hF,rfl,rfl⟩ ?_ ?_
 rintro _ _ ⟨l24,t25,hF,rfl,rfl⟩
 unfold q9c at hF
 refine go ?_
 obtain rfl:=sI hF
 exact rT (us:=[.vl 1 t25 0 l24.length,.i6 0]) (u:=.tup [.iM (cI .i64) l24,.i6 0]) (q32 rfl (q32 rfl (q3p))) (fR 1 1)
 rintro (_|m2) _ _ ⟨z21,l22,t23,hF,rfl,rfl⟩
 cases hF
 unfold q56 at hF
 refine go ?_
 refine cF hF (fun h26 hF=>?_) (fun h26 hF=>?_)
 refine go ?_
 refine WPU.block ?_
 obtain ⟨x27,h28,hF⟩:=q00 hF
 refine go ?_
 refine RS.ix h28 ?_
 obtain ⟨r29,h30,hF⟩:=q00 hF
 refine go ?_
 refine RS.cl rfl (pC (qks n p1 x27 r29 h30) _) fn55 ?_
 refine go ?_
 refine cF hF (fun h31 hF=>?_) (fun h31 hF=>?_)
 refine go ?_
 obtain rfl:=sI hF
 exact rT (us:=[.nils,.i6 5]) (u:=.tup [.isl false [],.i6 5]) (q32 rfl (q32 rfl (q3p))) wR
 obtain ⟨h32,hF⟩:=q08 hF
 refine go ?_
 refine RS.g ?_
 refine RS.g ?_
 refine go ?_
 exact lC ⟨_,(l22++[r29]),(t23+1),hF,rfl,rfl⟩
 refine go ?_
 exact xC ⟨l22,t23,hF,rfl,rfl⟩
 rintro (_|m1) _ _ ⟨z13,hF,rfl,rfl⟩
 cases hF
 unfold q55 at hF
 refine go ?_
 refine cF hF (fun h33 hF=>?_) (fun h33 hF=>?_)
 refine go ?_
 refine WPU.block ?_
 obtain ⟨x34,h35,hF⟩:=q00 hF
 refine go ?_
 refine RS.ix h35 ?_
 obtain ⟨r36,h37,hF⟩:=q00 hF
 refine go ?_
 refine RS.cl rfl (qkf n x34 r36 h37 _) fn54 ?_
 refine go ?_
 refine cF hF (fun h38 hF=>?_) (fun h38 hF=>?_)
 refine go ?_
 obtain rfl:=sI hF
 exact rT (us:=[.nils,.i6 8]) (u:=.tup [.isl false [],.i6 8]) (q32 rfl (q32 rfl (q3p))) wR
 refine go ?_
 exact lC ⟨_,hF,rfl,rfl⟩
 refine go ?_
 exact xC ⟨hF,rfl,rfl⟩
def qcp   : Option (Bool) :=
 some true
def q9s (p1:List Int) (p2:List Int):Nat→Int→Option (Bool)
 | 0,_=>none
 | m1+1,z7 =>
  cond (decide (z7<(p1.length:Int)))
   (q03 (q0r p1 z7) fun x9 =>
   q03 (q0r p2 z7) fun x11 =>
   cond (x9 != x11)
    (some false)
    ((q9s p1 p2 m1) (IntKind.i64.wrap (z7+1))))
   (qcp)
def qe4 (n:Nat) (p1:List Int) (p2:List Int):Option (Bool) :=
 cond ((p1.length:Int) != (p2.length:Int))
  (some false)
  (q9s p1 p2 n 0)
theorem qdm (n:Nat) (p1:List Int) (p2:List Int) (r:Bool) (hF:qe4 n p1 p2=some r):EvU Tryz.prog 47 [.isl false (List.map (cI .i64) p1),.isl false (List.map (cI .i64) p2)] ⟨[],0⟩ (fun u _=>u = .bool r∧Bel 0 u):=by
 unfold qe4 at hF
 refine bg2 26 fn47 ?_
 refine go ?_
 refine cF hF (fun h3 hF=>?_) (fun h3 hF=>?_)
 exact gx hF
 refine go ?_
 refine gS (l':=[(0,_),(1,_),(5,_)]) ?_
 refine z07 (fun m tm σ=>∃ z7:Int,q9s p1 p2 m z7=some r∧tm=fr 26 [(0,.iM (cI .i64) p1),(1,.iM (cI .i64) p2),(5,.i6 z7)]∧σ=⟨[],0⟩) (fun tm σ=>qcp=some r∧tm=fr 26 []∧σ=⟨[],0⟩) n ⟨0,hF,rfl,rfl⟩ ?_ ?_
 rintro _ _ ⟨hF,rfl,rfl⟩
 unfold qcp at hF
 exact gx hF
 rintro (_|m1) _ _ ⟨z7,hF,rfl,rfl⟩
 cases hF
 unfold q9s at hF
 refine go ?_
 refine cF hF (fun h8 hF=>?_) (fun h8 hF=>?_)
 refine go ?_
 refine WPU.block ?_
 obtain ⟨x9,h10,hF⟩:=q00 hF
 obtain ⟨x11,h12,hF⟩:=q00 hF
 refine go ?_
 refine z0a Tryz.tb_ok [] (by kernel_rfl) ?_
 refine gd ?_
 refine RD.ix h10 ?_
 refine gd ?_
 refine RD.ix h12 ?_
 refine gd ?_
 refine RD.done ⟨by kernel_rfl,trivial,?_⟩
 refine go ?_
 refine cF hF (fun h13 hF=>?_) (fun h13 hF=>?_)
 exact gx hF
 refine go ?_
 exact lC ⟨_,hF,rfl,rfl⟩
 refine go ?_
 exact xC ⟨hF,rfl,rfl⟩
def q5t (p1:q09) (p2:List Int) (z9:Int) (rc1:(List UInt8)→Int→Option ((List UInt8))) (s13:List UInt8):Option ((List UInt8)) :=
 q03 (q0r p2 z9) fun x14 =>
 q03 (q0r p1.Feats x14) fun x16 =>
 q0y (s13.length+x16.Name.length≤9223372036854775807) (
 rc1 (s13++x16.Name) (IntKind.i64.wrap (z9+1)))
def q8j  (s10:List UInt8):Option ((List UInt8)) :=
 some s10
def q2w (p1:q09) (p2:List Int):Nat→(List UInt8)→Int→Option ((List UInt8))
 | 0,_,_=>none
 | m1+1,s8,z9 =>
  cond (decide (z9<(p2.length:Int)))
   (cond (decide (z9 > 0))
    (q0y (s8.length+([46]).length≤9223372036854775807) (
    q5t p1 p2 z9 (q2w p1 p2 m1) (s8++[46])))
    (q5t p1 p2 z9 (q2w p1 p2 m1) s8))
   (q8j s8)
def qco (n:Nat) (p1:q09) (p2:List Int):Option ((List UInt8)) :=
 q2w p1 p2 n [] 0
theorem q9r (n:Nat) (p1:q09) (p2:List Int) (r:(List UInt8)) (hF:qco n p1 p2=some r):EvU Tryz.prog 27 [.agg (q0b p1),.isl false (List.map (cI .i64) p2)] ⟨[],0⟩ (fun u _=>u = .str r∧Bel 0 u):=by
 unfold qco at hF
 refine bg2 29 fn27 ?_
 refine go ?_
 refine gS (l':=[(1,_),(2,_),(5,_),(6,_)]) ?_
 refine z07 (fun m tm σ=>∃ s8:List UInt8,∃ z9:Int,q2w p1 p2 m s8 z9=some r∧tm=fr 29 [(1,.iM (cI .i64) p2),(2,.ptr 0 0 0),(5,.str s8),(6,.i6 z9)]∧σ=⟨[(0,.row (q0b p1) 43)],1⟩) (fun tm σ=>∃ s10:List UInt8,q8j s10=some r∧tm=fr 29 [(5,.str s10)]∧σ=⟨[(0,.row (q0b p1) 43)],1⟩) n ⟨[],0,hF,rfl,rfl⟩ ?_ ?_
 rintro _ _ ⟨s10,hF,rfl,rfl⟩
 unfold q8j at hF
 exact gx hF
 rintro (_|m1) _ _ ⟨s8,z9,hF,rfl,rfl⟩
 cases hF
 unfold q2w at hF
 refine go ?_
 refine cF hF (fun h11 hF=>?_) (fun h11 hF=>?_)
 refine go ?_
 refine WPU.block ?_
 refine gr ?_
 refine z08 (fun tm σ=>∃ s13:List UInt8,q5t p1 p2 z9 (q2w p1 p2 m1) s13=some r∧tm=fr 29 [(1,.iM (cI .i64) p2),(2,.ptr 0 0 0),(5,.str s13),(6,.i6 z9)]∧σ=⟨[(0,.row (q0b p1) 43)],1⟩) ?_ ?_
 rintro _ _ ⟨s13,hF,rfl,rfl⟩
 unfold q5t at hF
 obtain ⟨x14,h15,hF⟩:=q00 hF
 obtain ⟨x16,h17,hF⟩:=q00 hF
 obtain ⟨h18,hF⟩:=q08 hF
 refine go ?_
 refine z0a Tryz.tb_ok [] (by kernel_rfl) ?_
 refine gd ?_
 refine RD.ix h15 ?_
 refine gd ?_
 refine RD.ix h17 ?_
 refine gd ?_
 refine RD.q (u:=.str (s13++x16.Name)) rfl (q5f rfl rfl (qrl h18) rfl) ?_
 refine gd ?_
 refine RD.done ⟨by kernel_rfl,trivial,?_⟩
 refine go ?_
 exact lC ⟨(s13++x16.Name),(IntKind.i64.wrap (z9+1)),hF,rfl,rfl⟩
 refine cF hF (fun h12 hF=>?_) (fun h12 hF=>?_)
 obtain ⟨h19,hF⟩:=q08 hF
 refine go ?_
 refine RS.q (u:=.str (s8++[46])) rfl (q5f rfl rfl (qrl h19) rfl) ?_
 refine go ?_
 exact xC ⟨(s8++[46]),hF,rfl,rfl⟩
 refine go ?_
 exact xC ⟨s8,hF,rfl,rfl⟩
 refine go ?_
 exact xC ⟨s8,hF,rfl,rfl⟩
def q3f (n:Nat) (p1:Int):Option (Bool) :=
 q03 (cond (decide (p1 ≥ 48))
  (some (decide (p1≤57)))
  (some false)) fun b3 =>
 some b3
theorem q2n (n:Nat) (p1:Int) (r:Bool) (hF:q3f n p1=some r):EvU Tryz.prog 109 [.int .u8 p1] ⟨[],0⟩ (fun u _=>u = .bool r∧Bel 0 u):=by
 unfold q3f at hF
 refine bg1 9 fn109 ?_
 obtain ⟨b3,h4,hF⟩:=q00 hF
 refine gr ?_
 refine z08 (fun tm σ=>tm=fr 9 [(2,.bool b3)]∧σ=⟨[],0⟩) ?_ ?_
 rintro _ _ ⟨rfl,rfl⟩
 exact gx hF
 rcases gB h4 with ⟨h2,h4⟩ | ⟨h2,h4⟩
 exact gy h4
 exact gy h4
def qa4 (n:Nat) (p1:Int):Option (Bool) :=
 q03 (cond (decide (p1 ≥ 65))
  (some (decide (p1≤90)))
  (some false)) fun b3 =>
 some b3
theorem qcd (n:Nat) (p1:Int) (r:Bool) (hF:qa4 n p1=some r):EvU Tryz.prog 140 [.int .u8 p1] ⟨[],0⟩ (fun u _=>u = .bool r∧Bel 0 u):=by
 unfold qa4 at hF
 refine bg1 9 fn140 ?_
 obtain ⟨b3,h4,hF⟩:=q00 hF
 refine gr ?_
 refine z08 (fun tm σ=>tm=fr 9 [(2,.bool b3)]∧σ=⟨[],0⟩) ?_ ?_
 rintro _ _ ⟨rfl,rfl⟩
 exact gx hF
 rcases gB h4 with ⟨h2,h4⟩ | ⟨h2,h4⟩
 exact gy h4
 exact gy h4
def qa3 (n:Nat) (p1:Int):Option (Bool) :=
 q03 (cond (decide (p1 ≥ 97))
  (some (decide (p1≤122)))
  (some false)) fun b3 =>
 some b3
theorem qg3 (n:Nat) (p1:Int) (r:Bool) (hF:qa3 n p1=some r):EvU Tryz.prog 141 [.int .u8 p1] ⟨[],0⟩ (fun u _=>u = .bool r∧Bel 0 u):=by
 unfold qa3 at hF
 refine bg1 9 fn141 ?_
 obtain ⟨b3,h4,hF⟩:=q00 hF
 refine gr ?_
 refine z08 (fun tm σ=>tm=fr 9 [(2,.bool b3)]∧σ=⟨[],0⟩) ?_ ?_
 rintro _ _ ⟨rfl,rfl⟩
 exact gx hF
 rcases gB h4 with ⟨h2,h4⟩ | ⟨h2,h4⟩
 exact gy h4
 exact gy h4
def q7j (n:Nat) (p1:Int) (p2:Bool):Option (Bool) :=
 q03 (q03 (q3f n p1) fun r3 =>
 cond r3
  (some true)
  (cond (p1 == 45)
   (some true)
   (cond p2
    (q03 (qa4 n p1) fun r8 =>
    cond r8
     (some true)
     (cond (!p2)
      (q03 (qa3 n p1) fun r12 =>
      some r12)
      (some false)))
    (cond (!p2)
     (q03 (qa3 n p1) fun r15 =>
     some r15)
     (some false))))) fun b17 =>
 some b17
theorem qoe (n:Nat) (p1:Int) (p2:Bool) (r:Bool) (hF:q7j n p1 p2=some r):EvU Tryz.prog 110 [.int .u8 p1,.bool p2] ⟨[],0⟩ (fun u _=>u = .bool r∧Bel 0 u):=by
 unfold q7j at hF
 refine bg2 26 fn110 ?_
 obtain ⟨b17,h18,hF⟩:=q00 hF
 refine gr ?_
 refine z08 (fun tm σ=>tm=fr 26 [(4,.bool b17)]∧σ=⟨[],0⟩) ?_ ?_
 rintro _ _ ⟨rfl,rfl⟩
 exact gx hF
 obtain ⟨r3,h4,h18⟩:=q00 h18
 rcases gB h18 with ⟨h5,h18⟩ | ⟨h5,h18⟩
 obtain rfl:=sI h18
 refine go ?_
 refine RS.cl rfl (pC (q2n n p1 r3 h4) _) fn109 ?_
 refine go ?_
 repeat refine RS.no (ql4 rfl rfl rfl) rfl rfl ?_
 refine go ?_
 repeat refine RS.no (ql4 rfl rfl rfl) rfl rfl ?_
 refine go ?_
 exact xC ⟨rfl,rfl⟩
 rcases gB h18 with ⟨h6,h18⟩ | ⟨h6,h18⟩
 obtain rfl:=sI h18
 refine go ?_
 refine RS.cl rfl (pC (q2n n p1 r3 h4) _) fn109 ?_
 refine go ?_
 repeat refine RS.no (ql4 rfl rfl rfl) rfl rfl ?_
 refine go ?_
 repeat refine RS.no (ql4 rfl rfl rfl) rfl rfl ?_
 refine go ?_
 exact xC ⟨rfl,rfl⟩
 rcases gB h18 with ⟨h7,h18⟩ | ⟨h7,h18⟩
 obtain ⟨r8,h9,h18⟩:=q00 h18
 rcases gB h18 with ⟨h10,h18⟩ | ⟨h10,h18⟩
 obtain rfl:=sI h18
 refine go ?_
 refine RS.cl rfl (pC (q2n n p1 r3 h4) _) fn109 ?_
 refine go ?_
 refine RS.cl rfl (pC (qcd n p1 r8 h9) _) fn140 ?_
 refine go ?_
 repeat refine RS.no (ql4 rfl rfl rfl) rfl rfl ?_
 refine go ?_
 exact xC ⟨rfl,rfl⟩
 rcases gB h18 with ⟨h11,h18⟩ | ⟨h11,h18⟩
 obtain ⟨r12,h13,h18⟩:=q00 h18
 obtain rfl:=sI h18
 refine go ?_
 refine RS.cl rfl (pC (q2n n p1 r3 h4) _) fn109 ?_
 refine go ?_
 refine RS.cl rfl (pC (qcd n p1 r8 h9) _) fn140 ?_
 refine go ?_
 refine RS.cl rfl (pC (qg3 n p1 r12 h13) _) fn141 ?_
 refine go ?_
 exact xC ⟨rfl,rfl⟩
 obtain rfl:=sI h18
 refine go ?_
 refine RS.cl rfl (pC (q2n n p1 r3 h4) _) fn109 ?_
 refine go ?_
 refine RS.cl rfl (pC (qcd n p1 r8 h9) _) fn140 ?_
 refine go ?_
 exact xC ⟨rfl,rfl⟩
 rcases gB h18 with ⟨h14,h18⟩ | ⟨h14,h18⟩
 obtain ⟨r15,h16,h18⟩:=q00 h18
 obtain rfl:=sI h18
 refine go ?_
 refine RS.cl rfl (pC (q2n n p1 r3 h4) _) fn109 ?_
 refine go ?_
 refine RS.cl rfl (pC (qg3 n p1 r15 h16) _) fn141 ?_
 refine go ?_
 exact xC ⟨rfl,rfl⟩
 obtain rfl:=sI h18
 refine go ?_
 refine RS.cl rfl (pC (q2n n p1 r3 h4) _) fn109 ?_
 refine go ?_
 exact xC ⟨rfl,rfl⟩
def q5l   : Option (Bool) :=
 some true
def q20 (p1:List UInt8) (p2:Bool) (n:Nat):Nat→Int→Option (Bool)
 | 0,_=>none
 | m1+1,z18 =>
  cond (decide (z18<(p1.length:Int)))
   (q03 (qos p1 z18) fun x20 =>
   q03 (q7j n x20 p2) fun r22 =>
   cond (!r22)
    (some false)
    ((q20 p1 p2 n m1) (IntKind.i64.wrap (z18+1))))
   (q5l)
def q65 (n:Nat) (p1:List UInt8) (p2:Bool):Option (Bool) :=
 q03 (cond (decide ((p1.length:Int)<1))
  (some true)
  (cond (decide ((p1.length:Int) > 32))
   (some true)
   (q03 (qos p1 0) fun x5 =>
   q03 (q3f n x5) fun r7 =>
   cond r7
    (some true)
    (q03 (qos p1 0) fun x10 =>
    some (x10 == 45))))) fun b12 =>
 cond b12
  (some false)
  (q20 p1 p2 n n 0)
theorem qg4 (n:Nat) (p1:List UInt8) (p2:Bool) (r:Bool) (hF:q65 n p1 p2=some r):EvU Tryz.prog 81 [.str p1,.bool p2] ⟨[],0⟩ (fun u _=>u = .bool r∧Bel 0 u):=by
 unfold q65 at hF
 refine bg2 36 fn81 ?_
 obtain ⟨b12,h13,hF⟩:=q00 hF
 refine gr ?_
 refine z08 (fun tm σ=>tm=fr 36 [(0,.str p1),(1,.bool p2),(23,.bool b12)]∧σ=⟨[],0⟩) ?_ ?_
 rintro _ _ ⟨rfl,rfl⟩
 refine go ?_
 refine cF hF (fun h14 hF=>?_) (fun h14 hF=>?_)
 exact gx hF
 refine go ?_
 refine gS (l':=[(0,_),(1,_),(5,_)]) ?_
 refine z07 (fun m tm σ=>∃ z18:Int,q20 p1 p2 n m z18=some r∧tm=fr 36 [(0,.str p1),(1,.bool p2),(5,.i6 z18)]∧σ=⟨[],0⟩) (fun tm σ=>q5l=some r∧tm=fr 36 []∧σ=⟨[],0⟩) n ⟨0,hF,rfl,rfl⟩ ?_ ?_
 rintro _ _ ⟨hF,rfl,rfl⟩
 unfold q5l at hF
 exact gx hF
 rintro (_|m1) _ _ ⟨z18,hF,rfl,rfl⟩
 cases hF
 unfold q20 at hF
 refine go ?_
 refine RS.q (u:=.i6 (p1.length:Int)) rfl (qen rfl rfl rfl (by simp only [qow,un9.h])) ?_
 refine go ?_
 refine cF hF (fun h19 hF=>?_) (fun h19 hF=>?_)
 refine go ?_
 refine WPU.block ?_
 obtain ⟨x20,h21,hF⟩:=q00 hF
 obtain ⟨r22,h23,hF⟩:=q00 hF
 refine go ?_
 refine RS.q (u:=.int .u8 x20) rfl (qmf un9.h rfl rfl h21) ?_
 refine go ?_
 refine RS.cl rfl (pC (qoe n x20 p2 r22 h23) _) fn110 ?_
 refine go ?_
 refine cF hF (fun h24 hF=>?_) (fun h24 hF=>?_)
 exact gx hF
 refine go ?_
 exact lC ⟨_,hF,rfl,rfl⟩
 refine go ?_
 exact xC ⟨hF,rfl,rfl⟩
 rcases gB h13 with ⟨h3,h13⟩ | ⟨h3,h13⟩
 obtain rfl:=sI h13
 refine go ?_
 refine RS.q (u:=.i6 (p1.length:Int)) rfl (qen rfl rfl rfl (by simp only [qow,un9.h])) ?_
 refine go ?_
 exact xC ⟨rfl,rfl⟩
 rcases gB h13 with ⟨h4,h13⟩ | ⟨h4,h13⟩
 obtain rfl:=sI h13
 refine go ?_
 refine RS.q (u:=.i6 (p1.length:Int)) rfl (qen rfl rfl rfl (by simp only [qow,un9.h])) ?_
 refine go ?_
 refine RS.w (u:=.i6 (p1.length:Int)) rfl (qen rfl rfl rfl (by simp only [qow,un9.h])) ?_
 refine go ?_
 exact xC ⟨rfl,rfl⟩
 obtain ⟨x5,h6,h13⟩:=q00 h13
 obtain ⟨r7,h8,h13⟩:=q00 h13
 rcases gB h13 with ⟨h9,h13⟩ | ⟨h9,h13⟩
 obtain rfl:=sI h13
 refine go ?_
 refine RS.q (u:=.i6 (p1.length:Int)) rfl (qen rfl rfl rfl (by simp only [qow,un9.h])) ?_
 refine go ?_
 refine RS.w (u:=.i6 (p1.length:Int)) rfl (qen rfl rfl rfl (by simp only [qow,un9.h])) ?_
 refine go ?_
 refine RS.w (u:=.int .u8 x5) rfl (qmf un9.h rfl rfl h6) (RS.cl rfl (pC (q2n n x5 r7 h8) _) fn109 ?_)
 refine go ?_
 exact xC ⟨rfl,rfl⟩
 obtain ⟨x10,h11,h13⟩:=q00 h13
 obtain rfl:=sI h13
 refine go ?_
 refine RS.q (u:=.i6 (p1.length:Int)) rfl (qen rfl rfl rfl (by simp only [qow,un9.h])) ?_
 refine go ?_
 refine RS.w (u:=.i6 (p1.length:Int)) rfl (qen rfl rfl rfl (by simp only [qow,un9.h])) ?_
 refine go ?_
 refine RS.w (u:=.int .u8 x5) rfl (qmf un9.h rfl rfl h6) (RS.cl rfl (pC (q2n n x5 r7 h8) _) fn109 ?_)
 refine go ?_
 refine RS.w (u:=.int .u8 x10) rfl (qmf un9.h rfl rfl h11) ?_
 refine go ?_
 exact xC ⟨rfl,rfl⟩
def q2m (n:Nat) (p1:List UInt8):Option (Bool) :=
 q03 (q65 n p1 true) fun r2 =>
 some r2
theorem qjz (n:Nat) (p1:List UInt8) (r:Bool) (hF:q2m n p1=some r):EvU Tryz.prog 57 [.str p1] ⟨[],0⟩ (fun u _=>u = .bool r∧Bel 0 u):=by
 unfold q2m at hF
 refine bg1 5 fn57 ?_
 obtain ⟨r2,h3,hF⟩:=q00 hF
 refine go ?_
 refine RS.cl rfl (pC (qg4 n p1 true r2 h3) _) fn81 ?_
 exact gx hF
def qcv   : Option (Int) :=
 some (-1)
def q1f (p1:q09) (p2:List UInt8):Nat→Int→Option (Int)
 | 0,_=>none
 | m1+1,z7 =>
  cond (decide (z7<(p1.Feats.length:Int)))
   (q03 (q0r p1.Feats z7) fun x9 =>
   cond (q0j x9.Name p2)
    (some z7)
    ((q1f p1 p2 m1) (IntKind.i64.wrap (z7+1))))
   (qcv)
def qgb (n:Nat) (p1:q09) (p2:List UInt8):Option (Int) :=
 q1f p1 p2 n 0
def q69   : Option (Bool) :=
 some true
def q43 (p1:List q0i) (p2:List q0i) (n:Nat):Nat→Int→Option (Bool)
 | 0,_=>none
 | m1+1,z7 =>
  cond (decide (z7<(p1.length:Int)))
   (q03 (q03 (q0r p1 z7) fun x9 =>
   q03 (q0r p2 z7) fun x11 =>
   q03 (qe4 n x9.A x11.A) fun r13 =>
   cond (!r13)
    (some true)
    (q03 (q0r p1 z7) fun x16 =>
    q03 (q0r p2 z7) fun x18 =>
    q03 (qe4 n x16.B x18.B) fun r20 =>
    some (!r20))) fun b22 =>
   cond b22
    (some false)
    ((q43 p1 p2 n m1) (IntKind.i64.wrap (z7+1))))
   (q69)
def q62 (n:Nat) (p1:List q0i) (p2:List q0i):Option (Bool) :=
 cond ((p1.length:Int) != (p2.length:Int))
  (some false)
  (q43 p1 p2 n n 0)
theorem q7a (n:Nat) (p1:List q0i) (p2:List q0i) (r:Bool) (hF:q62 n p1 p2=some r):EvU Tryz.prog 17 [.isl false (List.map q18 p1),.isl false (List.map q18 p2)] ⟨[],0⟩ (fun u _=>u = .bool r∧Bel 0 u):=by
 unfold q62 at hF
 refine bg2 43 fn17 ?_
 refine go ?_
 refine cF hF (fun h3 hF=>?_) (fun h3 hF=>?_)
 exact gx hF
 refine go ?_
 refine gS (l':=[(0,_),(1,_),(5,_)]) ?_
 refine z07 (fun m tm σ=>∃ z7:Int,q43 p1 p2 n m z7=some r∧tm=fr 43 [(0,.iM q18 p1),(1,.iM q18 p2),(5,.i6 z7)]∧σ=⟨[],0⟩) (fun tm σ=>q69=some r∧tm=fr 43 []∧σ=⟨[],0⟩) n ⟨0,hF,rfl,rfl⟩ ?_ ?_
 rintro _ _ ⟨hF,rfl,rfl⟩
 unfold q69 at hF
 exact gx hF
 rintro (_|m1) _ _ ⟨z7,hF,rfl,rfl⟩
 cases hF
 unfold q43 at hF
 refine go ?_
 refine cF hF (fun h8 hF=>?_) (fun h8 hF=>?_)
 refine go ?_
 refine WPU.block ?_
 obtain ⟨b22,h23,hF⟩:=q00 hF
 refine gn ?_
 refine z08 (fun tm σ=>tm=fr 43 [(0,.iM q18 p1),(1,.iM q18 p2),(5,.i6 z7),(42,.bool b22)]∧σ=⟨[],0⟩) ?_ ?_
 rintro _ _ ⟨rfl,rfl⟩
 refine go ?_
 refine cF hF (fun h24 hF=>?_) (fun h24 hF=>?_)
 exact gx hF
 refine go ?_
 exact lC ⟨_,hF,rfl,rfl⟩
 obtain ⟨x9,h10,h23⟩:=q00 h23
 obtain ⟨x11,h12,h23⟩:=q00 h23
 obtain ⟨r13,h14,h23⟩:=q00 h23
 rcases gB h23 with ⟨h15,h23⟩ | ⟨h15,h23⟩
 obtain rfl:=sI h23
 refine z0a Tryz.tb_ok [] (by kernel_rfl) ?_
 refine gd ?_
 refine RD.ix h10 ?_
 refine gd ?_
 refine RD.ix h12 ?_
 refine gd ?_
 refine RD.fl rfl (pC (qdm n x9.A x11.A r13 h14)) fn47 ?_
 refine gd ?_
 refine RD.done ⟨by kernel_rfl,trivial,?_⟩
 refine go ?_
 exact xC ⟨rfl,rfl⟩
 obtain ⟨x16,h17,h23⟩:=q00 h23
 obtain ⟨x18,h19,h23⟩:=q00 h23
 obtain ⟨r20,h21,h23⟩:=q00 h23
 obtain rfl:=sI h23
 refine z0a Tryz.tb_ok [] (by kernel_rfl) ?_
 refine gd ?_
 refine RD.ix h10 ?_
 refine gd ?_
 refine RD.ix h12 ?_
 refine gd ?_
 refine RD.fl rfl (pC (qdm n x9.A x11.A r13 h14)) fn47 ?_
 refine gd ?_
 refine RD.ix h17 ?_
 refine gd ?_
 refine RD.ix h19 ?_
 refine gd ?_
 refine RD.fl rfl (pC (qdm n x16.B x18.B r20 h21)) fn47 ?_
 refine gd ?_
 refine RD.done ⟨by kernel_rfl,trivial,?_⟩
 refine go ?_
 exact xC ⟨rfl,rfl⟩
 refine go ?_
 exact xC ⟨hF,rfl,rfl⟩
def q7m   : Option (Bool) :=
 some true
def q3t (p1:List Int) (p2:List Int):Nat→Int→Option (Bool)
 | 0,_=>none
 | m1+1,z7 =>
  cond (decide (z7<(p1.length:Int)))
   (q03 (q0r p1 z7) fun x9 =>
   q03 (q0r p2 z7) fun x11 =>
   cond (x9 != x11)
    (some false)
    ((q3t p1 p2 m1) (IntKind.i64.wrap (z7+1))))
   (q7m)
def q4b (n:Nat) (p1:List Int) (p2:List Int):Option (Bool) :=
 cond ((p1.length:Int) != (p2.length:Int))
  (some false)
  (q3t p1 p2 n 0)
theorem q2d (n:Nat) (p1:List Int) (p2:List Int) (r:Bool) (hF:q4b n p1 p2=some r):EvU Tryz.prog 28 [.isl false (List.map (cI .i64) p1),.isl false (List.map (cI .i64) p2)] ⟨[],0⟩ (fun u _=>u = .bool r∧Bel 0 u):=by
 unfold q4b at hF
 refine bg2 26 fn28 ?_
 refine go ?_
 refine cF hF (fun h3 hF=>?_) (fun h3 hF=>?_)
 exact gx hF
 refine go ?_
 refine gS (l':=[(0,_),(1,_),(5,_)]) ?_
 refine z07 (fun m tm σ=>∃ z7:Int,q3t p1 p2 m z7=some r∧tm=fr 26 [(0,.iM (cI .i64) p1),(1,.iM (cI .i64) p2),(5,.i6 z7)]∧σ=⟨[],0⟩) (fun tm σ=>q7m=some r∧tm=fr 26 []∧σ=⟨[],0⟩) n ⟨0,hF,rfl,rfl⟩ ?_ ?_
 rintro _ _ ⟨hF,rfl,rfl⟩
 unfold q7m at hF
 exact gx hF
 rintro (_|m1) _ _ ⟨z7,hF,rfl,rfl⟩
 cases hF
 unfold q3t at hF
 refine go ?_
 refine cF hF (fun h8 hF=>?_) (fun h8 hF=>?_)
 refine go ?_
 refine WPU.block ?_
 obtain ⟨x9,h10,hF⟩:=q00 hF
 obtain ⟨x11,h12,hF⟩:=q00 hF
 refine go ?_
 refine z0a Tryz.tb_ok [] (by kernel_rfl) ?_
 refine gd ?_
 refine RD.ix h10 ?_
 refine gd ?_
 refine RD.ix h12 ?_
 refine gd ?_
 refine RD.done ⟨by kernel_rfl,trivial,?_⟩
 refine go ?_
 refine cF hF (fun h13 hF=>?_) (fun h13 hF=>?_)
 exact gx hF
 refine go ?_
 exact lC ⟨_,hF,rfl,rfl⟩
 refine go ?_
 exact xC ⟨hF,rfl,rfl⟩
def q6w   : Option (Bool) :=
 some true
def q4k (p1:List (List Int)) (p2:List (List Int)) (n:Nat):Nat→Int→Option (Bool)
 | 0,_=>none
 | m1+1,z7 =>
  cond (decide (z7<(p1.length:Int)))
   (q03 (q0r p1 z7) fun x9 =>
   q03 (q0r p2 z7) fun x11 =>
   q03 (q4b n x9 x11) fun r13 =>
   cond (!r13)
    (some false)
    ((q4k p1 p2 n m1) (IntKind.i64.wrap (z7+1))))
   (q6w)
def qa7 (n:Nat) (p1:List (List Int)) (p2:List (List Int)):Option (Bool) :=
 cond ((p1.length:Int) != (p2.length:Int))
  (some false)
  (q4k p1 p2 n n 0)
theorem q7n (n:Nat) (p1:List (List Int)) (p2:List (List Int)) (r:Bool) (hF:qa7 n p1 p2=some r):EvU Tryz.prog 14 [.isl false (List.map (cL (cI .i64)) p1),.isl false (List.map (cL (cI .i64)) p2)] ⟨[],0⟩ (fun u _=>u = .bool r∧Bel 0 u):=by
 unfold qa7 at hF
 refine bg2 27 fn14 ?_
 refine go ?_
 refine cF hF (fun h3 hF=>?_) (fun h3 hF=>?_)
 exact gx hF
 refine go ?_
 refine gS (l':=[(0,_),(1,_),(5,_)]) ?_
 refine z07 (fun m tm σ=>∃ z7:Int,q4k p1 p2 n m z7=some r∧tm=fr 27 [(0,.iM (cL (cI .i64)) p1),(1,.iM (cL (cI .i64)) p2),(5,.i6 z7)]∧σ=⟨[],0⟩) (fun tm σ=>q6w=some r∧tm=fr 27 []∧σ=⟨[],0⟩) n ⟨0,hF,rfl,rfl⟩ ?_ ?_
 rintro _ _ ⟨hF,rfl,rfl⟩
 unfold q6w at hF
 exact gx hF
 rintro (_|m1) _ _ ⟨z7,hF,rfl,rfl⟩
 cases hF
 unfold q4k at hF
 refine go ?_
 refine cF hF (fun h8 hF=>?_) (fun h8 hF=>?_)
 refine go ?_
 refine WPU.block ?_
 obtain ⟨x9,h10,hF⟩:=q00 hF
 obtain ⟨x11,h12,hF⟩:=q00 hF
 obtain ⟨r13,h14,hF⟩:=q00 hF
 refine go ?_
 refine z0a Tryz.tb_ok [] (by kernel_rfl) ?_
 refine gd ?_
 refine RD.ix h10 ?_
 refine gd ?_
 refine RD.ix h12 ?_
 refine gd ?_
 refine RD.fl rfl (pC (q2d n x9 x11 r13 h14)) fn28 ?_
 refine gd ?_
 refine RD.done ⟨by kernel_rfl,trivial,?_⟩
 refine go ?_
 refine cF hF (fun h15 hF=>?_) (fun h15 hF=>?_)
 exact gx hF
 refine go ?_
 exact lC ⟨_,hF,rfl,rfl⟩
 refine go ?_
 exact xC ⟨hF,rfl,rfl⟩
def q89   : Option (Int) :=
 some 0
def q3j (p1:List q01):Nat→Int→Option (Int)
 | 0,_=>none
 | m1+1,z5 =>
  cond (decide (z5<(p1.length:Int)))
   (q03 (q03 (q0r p1 z5) fun x7 =>
   cond (decide ((x7.Supers.length:Int) > 256))
    (some true)
    (q03 (q0r p1 z5) fun x10 =>
    some (decide ((x10.Feats.length:Int) > 256)))) fun b12 =>
   cond b12
    (some 7)
    ((q3j p1 m1) (IntKind.i64.wrap (z5+1))))
   (q89)
def qac (n:Nat) (p1:List q01):Option (Int) :=
 cond (decide ((p1.length:Int) > 256))
  (some 7)
  (q3j p1 n 0)
theorem qmr (n:Nat) (p1:List q01) (r:Int) (hF:qac n p1=some r):EvU Tryz.prog 121 [.isl false (List.map q02 p1)] ⟨[],0⟩ (fun u _=>u = .int .i64 r∧Bel 0 u):=by
 unfold qac at hF
 refine bg1 29 fn121 ?_
 refine go ?_
 refine cF hF (fun h2 hF=>?_) (fun h2 hF=>?_)
 exact gx hF
 refine go ?_
 refine gS (l':=[(0,_),(3,_)]) ?_
 refine z07 (fun m tm σ=>∃ z5:Int,q3j p1 m z5=some r∧tm=fr 29 [(0,.iM q02 p1),(3,.i6 z5)]∧σ=⟨[],0⟩) (fun tm σ=>q89=some r∧tm=fr 29 []∧σ=⟨[],0⟩) n ⟨0,hF,rfl,rfl⟩ ?_ ?_
 rintro _ _ ⟨hF,rfl,rfl⟩
 unfold q89 at hF
 exact gx hF
 rintro (_|m1) _ _ ⟨z5,hF,rfl,rfl⟩
 cases hF
 unfold q3j at hF
 refine go ?_
 refine cF hF (fun h6 hF=>?_) (fun h6 hF=>?_)
 refine go ?_
 refine WPU.block ?_
 obtain ⟨b12,h13,hF⟩:=q00 hF
 refine gn ?_
 refine z08 (fun tm σ=>tm=fr 29 [(0,.iM q02 p1),(3,.i6 z5),(28,.bool b12)]∧σ=⟨[],0⟩) ?_ ?_
 rintro _ _ ⟨rfl,rfl⟩
 refine go ?_
 refine cF hF (fun h14 hF=>?_) (fun h14 hF=>?_)
 exact gx hF
 refine go ?_
 exact lC ⟨_,hF,rfl,rfl⟩
 obtain ⟨x7,h8,h13⟩:=q00 h13
 rcases gB h13 with ⟨h9,h13⟩ | ⟨h9,h13⟩
 obtain rfl:=sI h13
 refine go ?_
 refine RS.ix h8 ?_
 refine go ?_
 exact xC ⟨rfl,rfl⟩
 obtain ⟨x10,h11,h13⟩:=q00 h13
 obtain rfl:=sI h13
 refine go ?_
 refine RS.ix h8 ?_
 refine go ?_
 refine RS.ix h11 ?_
 refine go ?_
 exact xC ⟨rfl,rfl⟩
 refine go ?_
 exact xC ⟨hF,rfl,rfl⟩
def qbl (n:Nat) (p1:List UInt8):Option (Bool) :=
 q03 (q65 n p1 false) fun r2 =>
 some r2
theorem qod (n:Nat) (p1:List UInt8) (r:Bool) (hF:qbl n p1=some r):EvU Tryz.prog 147 [.str p1] ⟨[],0⟩ (fun u _=>u = .bool r∧Bel 0 u):=by
 unfold qbl at hF
 refine bg1 5 fn147 ?_
 obtain ⟨r2,h3,hF⟩:=q00 hF
 refine go ?_
 refine RS.cl rfl (pC (qg4 n p1 false r2 h3) _) fn81 ?_
 exact gx hF
def q9i   : Option (Int) :=
 some (-1)
def q40 (p1:List q01) (p2:List UInt8):Nat→Int→Option (Int)
 | 0,_=>none
 | m1+1,z6 =>
  cond (decide (z6<(p1.length:Int)))
   (q03 (q0r p1 z6) fun x8 =>
   cond (q0j x8.Name p2)
    (some z6)
    ((q40 p1 p2 m1) (IntKind.i64.wrap (z6+1))))
   (q9i)
def q3v (n:Nat) (p1:List q01) (p2:List UInt8):Option (Int) :=
 q40 p1 p2 n 0
theorem q6j (n:Nat) (p1:List q01) (p2:List UInt8) (r:Int) (hF:q3v n p1 p2=some r):EvU Tryz.prog 148 [.isl false (List.map q02 p1),.str p2] ⟨[],0⟩ (fun u _=>u = .int .i64 r∧Bel 0 u):=by
 unfold q3v at hF
 refine bg2 20 fn148 ?_
 refine go ?_
 refine gS (l':=[(0,_),(1,_),(5,_)]) ?_
 refine z07 (fun m tm σ=>∃ z6:Int,q40 p1 p2 m z6=some r∧tm=fr 20 [(0,.iM q02 p1),(1,.str p2),(5,.i6 z6)]∧σ=⟨[],0⟩) (fun tm σ=>q9i=some r∧tm=fr 20 []∧σ=⟨[],0⟩) n ⟨0,hF,rfl,rfl⟩ ?_ ?_
 rintro _ _ ⟨hF,rfl,rfl⟩
 unfold q9i at hF
 exact gx hF
 rintro (_|m1) _ _ ⟨z6,hF,rfl,rfl⟩
 cases hF
 unfold q40 at hF
 refine go ?_
 refine cF hF (fun h7 hF=>?_) (fun h7 hF=>?_)
 refine go ?_
 refine WPU.block ?_
 obtain ⟨x8,h9,hF⟩:=q00 hF
 refine go ?_
 refine RS.ix h9 ?_
 refine go ?_
 refine RS.q (u:=.bool (q0j x8.Name p2)) rfl (q5f rfl rfl rfl rfl) ?_
 refine go ?_
 refine cF hF (fun h10 hF=>?_) (fun h10 hF=>?_)
 exact gx hF
 refine go ?_
 exact lC ⟨_,hF,rfl,rfl⟩
 refine go ?_
 exact xC ⟨hF,rfl,rfl⟩
def q87   : Option (Int) :=
 some 0
def q3h (p1:List q01) (n:Nat):Nat→Int→Option (Int)
 | 0,_=>none
 | m1+1,z4 =>
  cond (decide (z4<(p1.length:Int)))
   (q03 (q0r p1 z4) fun x6 =>
   q03 (qbl n x6.Name) fun r8 =>
   cond (!r8)
    (some 1)
    (q03 (q0r p1 z4) fun x11 =>
    q03 (q3v n p1 x11.Name) fun r13 =>
    cond (decide (r13<z4))
     (some 4)
     ((q3h p1 n m1) (IntKind.i64.wrap (z4+1)))))
   (q87)
def qcg (n:Nat) (p1:List q01):Option (Int) :=
 q3h p1 n n 0
theorem qmp (n:Nat) (p1:List q01) (r:Int) (hF:qcg n p1=some r):EvU Tryz.prog 122 [.isl false (List.map q02 p1)] ⟨[],0⟩ (fun u _=>u = .int .i64 r∧Bel 0 u):=by
 unfold qcg at hF
 refine bg1 26 fn122 ?_
 refine go ?_
 refine gS (l':=[(0,_),(3,_)]) ?_
 refine z07 (fun m tm σ=>∃ z4:Int,q3h p1 n m z4=some r∧tm=fr 26 [(0,.iM q02 p1),(3,.i6 z4)]∧σ=⟨[],0⟩) (fun tm σ=>q87=some r∧tm=fr 26 []∧σ=⟨[],0⟩) n ⟨0,hF,rfl,rfl⟩ ?_ ?_
 rintro _ _ ⟨hF,rfl,rfl⟩
 unfold q87 at hF
 exact gx hF
 rintro (_|m1) _ _ ⟨z4,hF,rfl,rfl⟩
 cases hF
 unfold q3h at hF
 refine go ?_
 refine cF hF (fun h5 hF=>?_) (fun h5 hF=>?_)
 refine go ?_
 refine WPU.block ?_
 obtain ⟨x6,h7,hF⟩:=q00 hF
 obtain ⟨r8,h9,hF⟩:=q00 hF
 refine go ?_
 refine RS.ix h7 ?_
 refine go ?_
 refine RS.cl rfl (pC (qod n x6.Name r8 h9) _) fn147 ?_
 refine go ?_
 refine cF hF (fun h10 hF=>?_) (fun h10 hF=>?_)
 exact gx hF
 obtain ⟨x11,h12,hF⟩:=q00 hF
 obtain ⟨r13,h14,hF⟩:=q00 hF
 refine go ?_
 refine RS.ix h12 ?_
 refine go ?_
 refine RS.cl rfl (pC (q6j n p1 x11.Name r13 h14) _) fn148 ?_
 refine go ?_
 refine cF hF (fun h15 hF=>?_) (fun h15 hF=>?_)
 exact gx hF
 refine go ?_
 exact lC ⟨_,hF,rfl,rfl⟩
 refine go ?_
 exact xC ⟨hF,rfl,rfl⟩
def q80   : Option (Bool) :=
 some false
def q4c (p1:List (List UInt8)) (p2:List UInt8):Nat→Int→Option (Bool)
 | 0,_=>none
 | m1+1,z6 =>
  cond (decide (z6<(p1.length:Int)))
   (q03 (q0r p1 z6) fun x8 =>
   cond (q0j x8 p2)
    (some true)
    ((q4c p1 p2 m1) (IntKind.i64.wrap (z6+1))))
   (q80)
def q2e (n:Nat) (p1:List (List UInt8)) (p2:List UInt8):Option (Bool) :=
 q4c p1 p2 n 0
theorem q1r (n:Nat) (p1:List (List UInt8)) (p2:List UInt8) (r:Bool) (hF:q2e n p1 p2=some r):EvU Tryz.prog 126 [.isl false (List.map cS p1),.str p2] ⟨[],0⟩ (fun u _=>u = .bool r∧Bel 0 u):=by
 unfold q2e at hF
 refine bg2 18 fn126 ?_
 refine go ?_
 refine gS (l':=[(0,_),(1,_),(5,_)]) ?_
 refine z07 (fun m tm σ=>∃ z6:Int,q4c p1 p2 m z6=some r∧tm=fr 18 [(0,.iM cS p1),(1,.str p2),(5,.i6 z6)]∧σ=⟨[],0⟩) (fun tm σ=>q80=some r∧tm=fr 18 []∧σ=⟨[],0⟩) n ⟨0,hF,rfl,rfl⟩ ?_ ?_
 rintro _ _ ⟨hF,rfl,rfl⟩
 unfold q80 at hF
 exact gx hF
 rintro (_|m1) _ _ ⟨z6,hF,rfl,rfl⟩
 cases hF
 unfold q4c at hF
 refine go ?_
 refine cF hF (fun h7 hF=>?_) (fun h7 hF=>?_)
 refine go ?_
 refine WPU.block ?_
 obtain ⟨x8,h9,hF⟩:=q00 hF
 refine go ?_
 refine RS.ix h9 ?_
 refine go ?_
 refine RS.q (u:=.bool (q0j x8 p2)) rfl (q5f rfl rfl rfl rfl) ?_
 refine go ?_
 refine cF hF (fun h10 hF=>?_) (fun h10 hF=>?_)
 exact gx hF
 refine go ?_
 exact lC ⟨_,hF,rfl,rfl⟩
 refine go ?_
 exact xC ⟨hF,rfl,rfl⟩
def q71 (z4:Int) (rc1:Int→Option (Int))  : Option (Int) :=
 rc1 (IntKind.i64.wrap (z4+1))
def q2z (p1:List q01) (n:Nat) (z4:Int) (rc1:Int→Option (Int)) (x6:q01):Nat→Int→Option (Int)
 | 0,_=>none
 | m2+1,z12 =>
  cond (decide (z12<(x6.Supers.length:Int)))
   (q03 (q0r x6.Supers z12) fun x14 =>
   q03 (q3v n p1 x14) fun r16 =>
   cond (decide (r16<0))
    (some 5)
    (q03 (qqe x6.Supers 0 z12) fun l19 =>
    q03 (q0r x6.Supers z12) fun x23 =>
    q03 (q2e n l19 x23) fun r25 =>
    cond r25
     (some 4)
     ((q2z p1 n z4 rc1 x6 m2) (IntKind.i64.wrap (z12+1)))))
   (q71 z4 rc1)
def q70   : Option (Int) :=
 some 0
def q1c (p1:List q01) (n:Nat):Nat→Int→Option (Int)
 | 0,_=>none
 | m1+1,z4 =>
  cond (decide (z4<(p1.length:Int)))
   (q03 (q0r p1 z4) fun x6 =>
   q2z p1 n z4 (q1c p1 n m1) x6 n 0)
   (q70)
def qb0 (n:Nat) (p1:List q01):Option (Int) :=
 q1c p1 n n 0
theorem qkx (n:Nat) (p1:List q01) (r:Int) (hF:qb0 n p1=some r):EvU Tryz.prog 123 [.isl false (List.map q02 p1)] ⟨[],0⟩ (fun u _=>u = .int .i64 r∧Bel 0 u):=by
 unfold qb0 at hF
 refine bg1 38 fn123 ?_
 refine go ?_
 refine gS (l':=[(0,_),(3,_)]) ?_
 refine z07 (fun m tm σ=>∃ z4:Int,q1c p1 n m z4=some r∧tm=fr 38 [(0,.iM q02 p1),(3,.i6 z4)]∧σ=⟨[],0⟩) (fun tm σ=>q70=some r∧tm=fr 38 []∧σ=⟨[],0⟩) n ⟨0,hF,rfl,rfl⟩ ?_ ?_
 rintro _ _ ⟨hF,rfl,rfl⟩
 unfold q70 at hF
 exact gx hF
 rintro (_|m1) _ _ ⟨z4,hF,rfl,rfl⟩
 cases hF
 unfold q1c at hF
 refine go ?_
 refine cF hF (fun h5 hF=>?_) (fun h5 hF=>?_)
 refine go ?_
 refine WPU.block ?_
 obtain ⟨x6,h7,hF⟩:=q00 hF
 refine go ?_
 refine RS.ix h7 ?_
 refine go ?_
 refine gS (l':=[(0,_),(3,_),(4,_),(5,_)]) ?_
 refine z07 (fun m tm σ=>∃ z12:Int,q2z p1 n z4 (q1c p1 n m1) x6 m z12=some r∧tm=fr 38 [(0,.iM q02 p1),(3,.i6 z4),(4,.iM cS x6.Supers),(5,.i6 z12)]∧σ=⟨[],0⟩) (fun tm σ=>q71 z4 (q1c p1 n m1)=some r∧tm=fr 38 [(0,.iM q02 p1),(3,.i6 z4)]∧σ=⟨[],0⟩) n ⟨0,hF,rfl,rfl⟩ ?_ ?_
 rintro _ _ ⟨hF,rfl,rfl⟩
 unfold q71 at hF
 refine go ?_
 exact lC ⟨_,hF,rfl,rfl⟩
 rintro (_|m2) _ _ ⟨z12,hF,rfl,rfl⟩
 cases hF
 unfold q2z at hF
 refine go ?_
 refine cF hF (fun h13 hF=>?_) (fun h13 hF=>?_)
 refine go ?_
 refine WPU.block ?_
 obtain ⟨x14,h15,hF⟩:=q00 hF
 obtain ⟨r16,h17,hF⟩:=q00 hF
 refine go ?_
 refine RS.ix h15 ?_
 refine go ?_
 refine RS.cl rfl (pC (q6j n p1 x14 r16 h17) _) fn148 ?_
 refine go ?_
 refine cF hF (fun h18 hF=>?_) (fun h18 hF=>?_)
 exact gx hF
 obtain ⟨l19,h20,hF⟩:=q00 hF
 obtain ⟨h21,h22⟩:=qtd cS .i64 h20
 obtain ⟨x23,h24,hF⟩:=q00 hF
 obtain ⟨r25,h26,hF⟩:=q00 hF
 refine go ?_
 refine z0a Tryz.tb_ok [] (by kernel_rfl) ?_
 refine gd ?_
 refine RD.q (u:=.iM cS l19) rfl (qe0 rfl qsq (em_s rfl) qsq (qri cS un80.h (q2k if9.h) qem h21 h22)) ?_
 refine gd ?_
 refine RD.ix h24 ?_
 refine gd ?_
 refine RD.fl rfl (pC (q1r n l19 x23 r25 h26)) fn126 ?_
 refine RD.done ⟨by kernel_rfl,trivial,?_⟩
 refine go ?_
 refine cF hF (fun h27 hF=>?_) (fun h27 hF=>?_)
 exact gx hF
 refine go ?_
 exact lC ⟨_,hF,rfl,rfl⟩
 refine go ?_
 exact xC ⟨hF,rfl,rfl⟩
 refine go ?_
 exact xC ⟨hF,rfl,rfl⟩
def q88   : Option (Bool) :=
 some true
def q3i (p1:q01) (p2:List (List UInt8)) (n:Nat):Nat→Int→Option (Bool)
 | 0,_=>none
 | m1+1,z8 =>
  cond (decide (z8<(p1.Supers.length:Int)))
   (q03 (q0r p1.Supers z8) fun x10 =>
   q03 (q2e n p2 x10) fun r12 =>
   cond (!r12)
    (some false)
    ((q3i p1 p2 n m1) (IntKind.i64.wrap (z8+1))))
   (q88)
def qch (n:Nat) (p1:q01) (p2:List (List UInt8)):Option (Bool) :=
 q3i p1 p2 n n 0
theorem qmq (n:Nat) (p1:q01) (p2:List (List UInt8)) (r:Bool) (hF:qch n p1 p2=some r):EvU Tryz.prog 149 [.agg (q02 p1),.isl false (List.map cS p2)] ⟨[],0⟩ (fun u _=>u = .bool r∧Bel 0 u):=by
 unfold qch at hF
 refine bg2 21 fn149 ?_
 refine go ?_
 refine gS (l':=[(1,_),(2,_),(5,_)]) ?_
 refine z07 (fun m tm σ=>∃ z8:Int,q3i p1 p2 n m z8=some r∧tm=fr 21 [(1,.iM cS p2),(2,.ptr 0 0 0),(5,.i6 z8)]∧σ=⟨[(0,.row (q02 p1) 127)],1⟩) (fun tm σ=>q88=some r∧tm=fr 21 []∧σ=⟨[(0,.row (q02 p1) 127)],1⟩) n ⟨0,hF,rfl,rfl⟩ ?_ ?_
 rintro _ _ ⟨hF,rfl,rfl⟩
 unfold q88 at hF
 exact gx hF
 rintro (_|m1) _ _ ⟨z8,hF,rfl,rfl⟩
 cases hF
 unfold q3i at hF
 refine go ?_
 refine cF hF (fun h9 hF=>?_) (fun h9 hF=>?_)
 refine go ?_
 refine WPU.block ?_
 obtain ⟨x10,h11,hF⟩:=q00 hF
 obtain ⟨r12,h13,hF⟩:=q00 hF
 refine go ?_
 refine RS.ix h11 ?_
 refine go ?_
 refine RS.cl rfl (pC (q1r n p2 x10 r12 h13) _) fn126 ?_
 refine go ?_
 refine cF hF (fun h14 hF=>?_) (fun h14 hF=>?_)
 exact gx hF
 refine go ?_
 exact lC ⟨_,hF,rfl,rfl⟩
 refine go ?_
 exact xC ⟨hF,rfl,rfl⟩
def q4t (rc1:Bool→(List (List UInt8))→Option ((List (List UInt8)))) (b21:Bool) (l24:List (List UInt8)):Option ((List (List UInt8))) :=
 rc1 b21 l24
def q4u (z20:Int) (rc2:Bool→(List UInt8)→Int→Option ((List (List UInt8)))) (s46:List UInt8):Option ((List (List UInt8))) :=
 rc2 true s46 (IntKind.i64.wrap (z20+1))
def q6z (l7:List (List UInt8)) (rc1:Bool→(List (List UInt8))→Option ((List (List UInt8)))) (b21:Bool) (s22:List UInt8):Option ((List (List UInt8))) :=
 cond b21
  (q0y ((l7.length+1)*16≤140737488355328∧l7.length+1≤140737488355328) (
  q4t rc1 b21 (l7++[s22])))
  (q4t rc1 b21 l7)
def q1b (p1:List q01) (n:Nat) (l7:List (List UInt8)) (rc1:Bool→(List (List UInt8))→Option ((List (List UInt8)))):Nat→Bool→(List UInt8)→Int→Option ((List (List UInt8)))
 | 0,_,_,_=>none
 | m2+1,b18,s19,z20 =>
  cond (decide (z20<(p1.length:Int)))
   (q03 (q03 (q0r p1 z20) fun x28 =>
   q03 (q2e n l7 x28.Name) fun r30 =>
   cond r30
    (some true)
    (q03 (q0r p1 z20) fun x33 =>
    q03 (qch n x33 l7) fun r35 =>
    some (!r35))) fun b37 =>
   cond b37
    ((q1b p1 n l7 rc1 m2) b18 s19 (IntKind.i64.wrap (z20+1)))
    (q03 (cond (!b18)
     (some true)
     (q03 (q0r p1 z20) fun x41 =>
     some (q11 x41.Name s19))) fun b43 =>
    cond b43
     (q03 (q0r p1 z20) fun x47 =>
     q4u z20 (q1b p1 n l7 rc1 m2) x47.Name)
     (q4u z20 (q1b p1 n l7 rc1 m2) s19)))
   (q6z l7 rc1 b18 s19)
def q6y  (l9:List (List UInt8)):Option ((List (List UInt8))) :=
 some l9
def q14 (p1:List q01) (n:Nat):Nat→Bool→(List (List UInt8))→Option ((List (List UInt8)))
 | 0,_,_=>none
 | m1+1,b6,l7 =>
  cond b6
   (q1b p1 n l7 (q14 p1 n m1) n false [] 0)
   (q6y l7)
def qaz (n:Nat) (p1:List q01):Option ((List (List UInt8))) :=
 q14 p1 n n true ([]:List (List UInt8))
theorem qkw (n:Nat) (p1:List q01) (r:(List (List UInt8))) (hF:qaz n p1=some r):EvU Tryz.prog 124 [.isl false (List.map q02 p1)] ⟨[],0⟩ (fun u _=>u = .isl false (List.map cS r)∧Bel 0 u):=by
 unfold qaz at hF
 refine bg1 52 fn124 ?_
 refine gr ?_
 refine gr ?_
 refine gr ?_
 refine WPU.ghost (tm':=fr 52 [(0,.iM q02 p1),(3,.vl 0 0 0 (([]:List (List UInt8)).length)),(4,.bool true)]) (σ':=⟨[(0,.vec (List.map cS ([]:List (List UInt8))).flatten 9 1 0)],1⟩) (Gh.trans (z0c 3 9 1 (by decide) NZ rfl rfl) (z0b ⟨rfl,rfl,rfl,trivial⟩ rfl)) NZ ?_
 refine gS (l':=[(0,_),(3,_),(4,_)]) ?_
 refine z07 (fun m tm σ=>∃ b6:Bool,∃ l7:List (List UInt8),∃ t8:Nat,q14 p1 n m b6 l7=some r∧tm=fr 52 [(0,.iM q02 p1),(3,.vl 0 t8 0 l7.length),(4,.bool b6)]∧σ=⟨[(0,.vec (List.map cS l7).flatten 9 1 t8)],1⟩) (fun tm σ=>∃ l9:List (List UInt8),∃ t10:Nat,q6y l9=some r∧tm=fr 52 [(3,.vl 0 t10 0 l9.length)]∧σ=⟨[(0,.vec (List.map cS l9).flatten 9 1 t10)],1⟩) n ⟨true,([]:List (List UInt8)),0,hF,rfl,rfl⟩ ?_ ?_
 rintro _ _ ⟨l9,t10,hF,rfl,rfl⟩
 unfold q6y at hF
 refine go ?_
 obtain rfl:=sI hF
 exact rT (us:=[.vl 0 t10 0 l9.length]) (u:=.iM cS l9) (q32 rfl (q3p)) (fR 0 1)
 rintro (_|m1) _ _ ⟨b6,l7,t8,hF,rfl,rfl⟩
 cases hF
 unfold q14 at hF
 refine go ?_
 refine cF hF (fun h11 hF=>?_) (fun h11 hF=>?_)
 refine go ?_
 refine WPU.block ?_
 refine go ?_
 refine gS (l':=[(0,_),(3,_),(4,_),(5,_),(6,_)]) ?_
 refine z07 (fun m tm σ=>∃ b18:Bool,∃ s19:List UInt8,∃ z20:Int,q1b p1 n l7 (q14 p1 n m1) m b18 s19 z20=some r∧tm=fr 52 [(0,.iM q02 p1),(3,.vl 0 t8 0 l7.length),(4,.bool b18),(5,.str s19),(6,.i6 z20)]∧σ=⟨[(0,.vec (List.map cS l7).flatten 9 1 t8)],1⟩) (fun tm σ=>∃ b21:Bool,∃ s22:List UInt8,q6z l7 (q14 p1 n m1) b21 s22=some r∧tm=fr 52 [(0,.iM q02 p1),(3,.vl 0 t8 0 l7.length),(4,.bool b21),(5,.str s22)]∧σ=⟨[(0,.vec (List.map cS l7).flatten 9 1 t8)],1⟩) n ⟨false,[],0,hF,rfl,rfl⟩ ?_ ?_
 rintro _ _ ⟨b21,s22,hF,rfl,rfl⟩
 unfold q6z at hF
 refine gr ?_
 refine z08 (fun tm σ=>∃ l24:List (List UInt8),∃ t25:Nat,q4t (q14 p1 n m1) b21 l24=some r∧tm=fr 52 [(0,.iM q02 p1),(3,.vl 0 t25 0 l24.length),(4,.bool b21)]∧σ=⟨[(0,.vec (List.map cS l24).flatten 9 1 t25)],1⟩) ?_ ?_
 rintro _ _ ⟨l24,t25,hF,rfl,rfl⟩
 unfold q4t at hF
 refine go ?_
 exact lC ⟨b21,l24,t25,hF,rfl,rfl⟩
 refine cF hF (fun h23 hF=>?_) (fun h23 hF=>?_)
 obtain ⟨h26,hF⟩:=q08 hF
 refine go ?_
 refine RS.g ?_
 refine RS.g ?_
 refine go ?_
 exact xC ⟨(l7++[s22]),(t8+1),hF,rfl,rfl⟩
 refine go ?_
 exact xC ⟨l7,t8,hF,rfl,rfl⟩
 rintro (_|m2) _ _ ⟨b18,s19,z20,hF,rfl,rfl⟩
 cases hF
 unfold q1b at hF
 refine go ?_
 refine cF hF (fun h27 hF=>?_) (fun h27 hF=>?_)
 refine go ?_
 refine WPU.block ?_
 obtain ⟨b37,h38,hF⟩:=q00 hF
 refine gn ?_
 refine z08 (fun tm σ=>tm=fr 52 [(0,.iM q02 p1),(3,.vl 0 t8 0 l7.length),(4,.bool b18),(5,.str s19),(6,.i6 z20),(29,.bool b37)]∧σ=⟨[(0,.vec (List.map cS l7).flatten 9 1 t8)],1⟩) ?_ ?_
 rintro _ _ ⟨rfl,rfl⟩
 refine go ?_
 refine cF hF (fun h39 hF=>?_) (fun h39 hF=>?_)
 refine go ?_
 exact lC ⟨b18,s19,(IntKind.i64.wrap (z20+1)),hF,rfl,rfl⟩
 obtain ⟨b43,h44,hF⟩:=q00 hF
 refine gn ?_
 refine z08 (fun tm σ=>tm=fr 52 [(0,.iM q02 p1),(3,.vl 0 t8 0 l7.length),(5,.str s19),(6,.i6 z20),(40,.bool b43)]∧σ=⟨[(0,.vec (List.map cS l7).flatten 9 1 t8)],1⟩) ?_ ?_
 rintro _ _ ⟨rfl,rfl⟩
 refine gn ?_
 refine z08 (fun tm σ=>∃ s46:List UInt8,q4u z20 (q1b p1 n l7 (q14 p1 n m1) m2) s46=some r∧tm=fr 52 [(0,.iM q02 p1),(3,.vl 0 t8 0 l7.length),(5,.str s46),(6,.i6 z20)]∧σ=⟨[(0,.vec (List.map cS l7).flatten 9 1 t8)],1⟩) ?_ ?_
 rintro _ _ ⟨s46,hF,rfl,rfl⟩
 unfold q4u at hF
 refine go ?_
 exact lC ⟨true,s46,(IntKind.i64.wrap (z20+1)),hF,rfl,rfl⟩
 refine cF hF (fun h45 hF=>?_) (fun h45 hF=>?_)
 obtain ⟨x47,h48,hF⟩:=q00 hF
 refine go ?_
 refine RS.ix h48 ?_
 refine go ?_
 exact xC ⟨x47.Name,hF,rfl,rfl⟩
 refine go ?_
 exact xC ⟨s19,hF,rfl,rfl⟩
 rcases gB h44 with ⟨h40,h44⟩ | ⟨h40,h44⟩
 exact gy h44
 obtain ⟨x41,h42,h44⟩:=q00 h44
 obtain rfl:=sI h44
 refine go ?_
 refine RS.ix h42 ?_
 refine go ?_
 refine RS.w (u:=.bool (q11 x41.Name s19)) rfl (q5f rfl rfl rfl rfl) ?_
 refine go ?_
 exact xC ⟨rfl,rfl⟩
 obtain ⟨x28,h29,h38⟩:=q00 h38
 obtain ⟨r30,h31,h38⟩:=q00 h38
 rcases gB h38 with ⟨h32,h38⟩ | ⟨h32,h38⟩
 obtain rfl:=sI h38
 refine go ?_
 refine RS.ix h29 ?_
 refine go ?_
 refine RS.cl rfl (vw (q1r n l7 x28.Name r30 h31) (z09 0 1)) fn126 ?_
 refine go ?_
 exact xC ⟨rfl,rfl⟩
 obtain ⟨x33,h34,h38⟩:=q00 h38
 obtain ⟨r35,h36,h38⟩:=q00 h38
 obtain rfl:=sI h38
 refine go ?_
 refine RS.ix h29 ?_
 refine go ?_
 refine RS.cl rfl (vw (q1r n l7 x28.Name r30 h31) (z09 0 1)) fn126 ?_
 refine go ?_
 refine RS.ix h34 ?_
 refine go ?_
 refine RS.cl rfl (vw (qmq n x33 l7 r35 h36) (z09 0 1)) fn149 ?_
 refine go ?_
 exact xC ⟨rfl,rfl⟩
 refine go ?_
 exact xC ⟨b18,s19,hF,rfl,rfl⟩
 refine go ?_
 exact xC ⟨l7,t8,hF,rfl,rfl⟩
def q5p (z15:Int) (rc1:Int→Int→Option (Int)) (z25:Int):Option (Int) :=
 rc1 z25 (IntKind.i64.wrap (z15+1))
def q84 (p1:List q01) (n:Nat) (z16:Int):Option (Int) :=
 cond (z16 != 1)
  (some 1)
  (q03 (qaz n p1) fun r18 =>
  cond (decide ((r18.length:Int)<(p1.length:Int)))
   (some 6)
   (some 0))
def q23 (p1:List q01) (n:Nat):Nat→Int→Int→Option (Int)
 | 0,_,_=>none
 | m1+1,z14,z15 =>
  cond (decide (z15<(p1.length:Int)))
   (q03 (q0r p1 z15) fun x22 =>
   cond ((x22.Supers.length:Int) == 0)
    (q5p z15 (q23 p1 n m1) (IntKind.i64.wrap (z14+1)))
    (q5p z15 (q23 p1 n m1) z14))
   (q84 p1 n z14)
def qaa (n:Nat) (p1:List q01):Option (Int) :=
 q03 (qac n p1) fun r2 =>
 cond (r2 != 0)
  (some r2)
  (q03 (qcg n p1) fun r5 =>
  cond (r5 != 0)
   (some r5)
   (q03 (qb0 n p1) fun r8 =>
   cond (r8 != 0)
    (some r8)
    (q23 p1 n n 0 0)))
theorem qmo (n:Nat) (p1:List q01) (r:Int) (hF:qaa n p1=some r):EvU Tryz.prog 94 [.isl false (List.map q02 p1)] ⟨[],0⟩ (fun u _=>u = .int .i64 r∧Bel 0 u):=by
 unfold qaa at hF
 refine bg1 46 fn94 ?_
 obtain ⟨r2,h3,hF⟩:=q00 hF
 refine go ?_
 refine RS.cl rfl (pC (qmr n p1 r2 h3) _) fn121 ?_
 refine go ?_
 refine cF hF (fun h4 hF=>?_) (fun h4 hF=>?_)
 exact gx hF
 obtain ⟨r5,h6,hF⟩:=q00 hF
 refine go ?_
 refine RS.cl rfl (pC (qmp n p1 r5 h6) _) fn122 ?_
 refine go ?_
 refine cF hF (fun h7 hF=>?_) (fun h7 hF=>?_)
 exact gx hF
 obtain ⟨r8,h9,hF⟩:=q00 hF
 refine go ?_
 refine RS.cl rfl (pC (qkx n p1 r8 h9) _) fn123 ?_
 refine go ?_
 refine cF hF (fun h10 hF=>?_) (fun h10 hF=>?_)
 exact gx hF
 refine go ?_
 refine gS (l':=[(0,_),(6,_),(7,_)]) ?_
 refine z07 (fun m tm σ=>∃ z14:Int,∃ z15:Int,q23 p1 n m z14 z15=some r∧tm=fr 46 [(0,.iM q02 p1),(6,.i6 z14),(7,.i6 z15)]∧σ=⟨[],0⟩) (fun tm σ=>∃ z16:Int,q84 p1 n z16=some r∧tm=fr 46 [(0,.iM q02 p1),(6,.i6 z16)]∧σ=⟨[],0⟩) n ⟨0,0,hF,rfl,rfl⟩ ?_ ?_
 rintro _ _ ⟨z16,hF,rfl,rfl⟩
 unfold q84 at hF
 refine go ?_
 refine cF hF (fun h17 hF=>?_) (fun h17 hF=>?_)
 exact gx hF
 obtain ⟨r18,h19,hF⟩:=q00 hF
 refine go ?_
 refine RS.cl rfl (pC (qkw n p1 r18 h19) _) fn124 ?_
 refine go ?_
 refine cF hF (fun h20 hF=>?_) (fun h20 hF=>?_)
 exact gx hF
 exact gx hF
 rintro (_|m1) _ _ ⟨z14,z15,hF,rfl,rfl⟩
 cases hF
 unfold q23 at hF
 refine go ?_
 refine cF hF (fun h21 hF=>?_) (fun h21 hF=>?_)
 refine go ?_
 refine WPU.block ?_
 obtain ⟨x22,h23,hF⟩:=q00 hF
 refine go ?_
 refine RS.ix h23 ?_
 refine gn ?_
 refine z08 (fun tm σ=>∃ z25:Int,q5p z15 (q23 p1 n m1) z25=some r∧tm=fr 46 [(0,.iM q02 p1),(6,.i6 z25),(7,.i6 z15)]∧σ=⟨[],0⟩) ?_ ?_
 rintro _ _ ⟨z25,hF,rfl,rfl⟩
 unfold q5p at hF
 refine go ?_
 exact lC ⟨z25,(IntKind.i64.wrap (z15+1)),hF,rfl,rfl⟩
 refine cF hF (fun h24 hF=>?_) (fun h24 hF=>?_)
 refine go ?_
 exact xC ⟨(IntKind.i64.wrap (z14+1)),hF,rfl,rfl⟩
 refine go ?_
 exact xC ⟨z14,hF,rfl,rfl⟩
 refine go ?_
 exact xC ⟨z14,hF,rfl,rfl⟩
def q8p (p1:List (List UInt8)) (p2:List UInt8) (z7:Int):Option ((List (List UInt8))) :=
 q03 (cond (decide (z7<(p1.length:Int)))
  (q03 (q0r p1 z7) fun x9 =>
  some (q0j x9 p2))
  (some false)) fun b11 =>
 cond b11
  (some p1)
  (q03 (qqe p1 0 z7) fun l14 =>
  q0y (l14.length*16≤140737488355328∧l14.length≤140737488355328) (
  q0y ((l14.length+1)*16≤140737488355328∧l14.length+1≤140737488355328) (
  q03 (qqe p1 z7 (p1.length:Int)) fun l20 =>
  q0y (((l14++[p2]).length+l20.length)*16≤140737488355328∧(l14++[p2]).length+l20.length≤140737488355328) (
  some ((l14++[p2])++l20)))))
def q6i (p1:List (List UInt8)) (p2:List UInt8):Nat→Int→Option ((List (List UInt8)))
 | 0,_=>none
 | m1+1,z6 =>
  q03 (cond (decide (z6<(p1.length:Int)))
   (q03 (q0r p1 z6) fun x26 =>
   some (q11 x26 p2))
   (some false)) fun b28 =>
  cond b28
   ((q6i p1 p2 m1) (IntKind.i64.wrap (z6+1)))
   (q8p p1 p2 z6)
def q6x (n:Nat) (p1:List (List UInt8)) (p2:List UInt8):Option ((List (List UInt8))) :=
 q6i p1 p2 n 0
theorem q7p (n:Nat) (p1:List (List UInt8)) (p2:List UInt8) (r:(List (List UInt8))) (hF:q6x n p1 p2=some r):EvU Tryz.prog 116 [.isl false (List.map cS p1),.str p2] ⟨[],0⟩ (fun u _=>u = .isl false (List.map cS r)∧Bel 0 u):=by
 unfold q6x at hF
 refine bg2 48 fn116 ?_
 refine go ?_
 refine gS (l':=[(0,_),(1,_),(5,_),(6,_)]) ?_
 refine z07 (fun m tm σ=>∃ z6:Int,q6i p1 p2 m z6=some r∧tm=fr 48 [(0,.iM cS p1),(1,.str p2),(5,.nils),(6,.i6 z6)]∧σ=⟨[],0⟩) (fun tm σ=>∃ z7:Int,q8p p1 p2 z7=some r∧tm=fr 48 [(0,.iM cS p1),(1,.str p2),(5,.nils),(6,.i6 z7)]∧σ=⟨[],0⟩) n ⟨0,hF,rfl,rfl⟩ ?_ ?_
 rintro _ _ ⟨z7,hF,rfl,rfl⟩
 unfold q8p at hF
 obtain ⟨b11,h12,hF⟩:=q00 hF
 refine gn ?_
 refine z08 (fun tm σ=>tm=fr 48 [(0,.iM cS p1),(1,.str p2),(5,.nils),(6,.i6 z7),(32,.bool b11)]∧σ=⟨[],0⟩) ?_ ?_
 rintro _ _ ⟨rfl,rfl⟩
 refine go ?_
 refine cF hF (fun h13 hF=>?_) (fun h13 hF=>?_)
 exact gx hF
 obtain ⟨l14,h15,hF⟩:=q00 hF
 obtain ⟨h16,h17⟩:=qtd cS .i64 h15
 obtain ⟨h18,hF⟩:=q08 hF
 refine go ?_
 refine RS.q (u:=.iM cS l14) rfl (qe0 rfl qsq (em_s rfl) qsq (qri cS un80.h (q2k if9.h) qem h16 h17)) (RS.q (u:=.vl 0 0 0 l14.length) (σ':=⟨[(0,.vec (List.map cS l14).flatten 9 1 0)],1⟩) rfl (qde rfl rfl rfl rfl (qsw cS l14 un80.h un80.h if9.h rfl (qhi cS qem) h18)) ?_)
 obtain ⟨h19,hF⟩:=q08 hF
 refine go ?_
 refine RS.g ?_
 refine RS.g ?_
 obtain ⟨l20,h21,hF⟩:=q00 hF
 obtain ⟨h22,h23⟩:=cut_lo cS .i64 h21
 obtain ⟨h24,hF⟩:=q08 hF
 refine go ?_
 refine RS.q (u:=.iM cS l20) rfl (qe0 rfl (em_s rfl) qsq qsq (qri cS un80.h (q2k if9.h) qem h22 h23)) ?_
 refine RS.g ?_
 refine go ?_
 obtain rfl:=sI hF
 exact rT (us:=[.vl 0 2 0 (((l14++[p2])++l20).length)]) (u:=.iM cS ((l14++[p2])++l20)) (q32 rfl (q3p)) (fR 0 1)
 rcases gB h12 with ⟨h8,h12⟩ | ⟨h8,h12⟩
 obtain ⟨x9,h10,h12⟩:=q00 h12
 obtain rfl:=sI h12
 refine go ?_
 refine RS.ix h10 ?_
 refine go ?_
 refine RS.w (u:=.bool (q0j x9 p2)) rfl (q5f rfl rfl rfl rfl) ?_
 refine go ?_
 exact xC ⟨rfl,rfl⟩
 exact gy h12
 rintro (_|m1) _ _ ⟨z6,hF,rfl,rfl⟩
 cases hF
 unfold q6i at hF
 obtain ⟨b28,h29,hF⟩:=q00 hF
 refine gn ?_
 refine z08 (fun tm σ=>tm=fr 48 [(0,.iM cS p1),(1,.str p2),(5,.nils),(6,.i6 z6),(18,.bool b28)]∧σ=⟨[],0⟩) ?_ ?_
 rintro _ _ ⟨rfl,rfl⟩
 refine go ?_
 refine cF hF (fun h30 hF=>?_) (fun h30 hF=>?_)
 refine go ?_
 refine WPU.block ?_
 refine go ?_
 exact lC ⟨_,hF,rfl,rfl⟩
 refine go ?_
 exact xC ⟨z6,hF,rfl,rfl⟩
 rcases gB h29 with ⟨h25,h29⟩ | ⟨h25,h29⟩
 obtain ⟨x26,h27,h29⟩:=q00 h29
 obtain rfl:=sI h29
 refine go ?_
 refine RS.ix h27 ?_
 refine go ?_
 refine RS.w (u:=.bool (q11 x26 p2)) rfl (q5f rfl rfl rfl rfl) ?_
 refine go ?_
 exact xC ⟨rfl,rfl⟩
 exact gy h29
def q85  (l7:List (List UInt8)):Option ((List (List UInt8))) :=
 some l7
def q3g (p1:List q01) (n:Nat):Nat→(List (List UInt8))→Int→Option ((List (List UInt8)))
 | 0,_,_=>none
 | m1+1,l5,z6 =>
  cond (decide (z6<(p1.length:Int)))
   (q03 (q0r p1 z6) fun x9 =>
   q03 (q6x n l5 x9.Name) fun r11 =>
   (q3g p1 n m1) r11 (IntKind.i64.wrap (z6+1)))
   (q85 l5)
def qab (n:Nat) (p1:List q01):Option ((List (List UInt8))) :=
 q3g p1 n n [] 0
theorem qg7 (n:Nat) (p1:List q01) (r:(List (List UInt8))) (hF:qab n p1=some r):EvU Tryz.prog 95 [.isl false (List.map q02 p1)] ⟨[],0⟩ (fun u _=>u = .isl false (List.map cS r)∧Bel 0 u):=by
 unfold qab at hF
 refine bg1 19 fn95 ?_
 refine gr ?_
 refine gr ?_
 refine gr ?_
 refine WPU.ghost (tm':=fr 19 [(0,.iM q02 p1),(3,.iM cS []),(4,.i6 0)]) (Gh.trans (Gh.sub (l':=[(0,.iM q02 p1),(3,.nils),(4,.i6 0)]) ⟨rfl,rfl,rfl,trivial⟩) (Gh.wkS (l':=[(0,.iM q02 p1),(3,.iM cS []),(4,.i6 0)]) (.cons (.refl _) (.cons (.nil false) (.cons (.refl _) .nil))))) NZ ?_
 refine gS (l':=[(0,_),(3,_),(4,_)]) ?_
 refine z07 (fun m tm σ=>∃ l5:List (List UInt8),∃ z6:Int,q3g p1 n m l5 z6=some r∧tm=fr 19 [(0,.iM q02 p1),(3,.iM cS l5),(4,.i6 z6)]∧σ=⟨[],0⟩) (fun tm σ=>∃ l7:List (List UInt8),q85 l7=some r∧tm=fr 19 [(3,.iM cS l7)]∧σ=⟨[],0⟩) n ⟨[],0,hF,rfl,rfl⟩ ?_ ?_
 rintro _ _ ⟨l7,hF,rfl,rfl⟩
 unfold q85 at hF
 exact gx hF
 rintro (_|m1) _ _ ⟨l5,z6,hF,rfl,rfl⟩
 cases hF
 unfold q3g at hF
 refine go ?_
 refine cF hF (fun h8 hF=>?_) (fun h8 hF=>?_)
 refine go ?_
 refine WPU.block ?_
 obtain ⟨x9,h10,hF⟩:=q00 hF
 obtain ⟨r11,h12,hF⟩:=q00 hF
 refine go ?_
 refine RS.ix h10 ?_
 refine go ?_
 refine RS.cl rfl (pC (q7p n l5 x9.Name r11 h12) _) fn116 ?_
 refine go ?_
 exact lC ⟨r11,(IntKind.i64.wrap (z6+1)),hF,rfl,rfl⟩
 refine go ?_
 exact xC ⟨l5,hF,rfl,rfl⟩
def q82  (l21:List (List UInt8)):Option ((List (List UInt8))) :=
 some l21
def q2u (n:Nat) (l13:List (List UInt8)):Nat→(List (List UInt8))→Int→Option ((List (List UInt8)))
 | 0,_,_=>none
 | m2+1,l19,z20 =>
  cond (decide (z20<(l13.length:Int)))
   (q03 (q0r l13 z20) fun x23 =>
   q03 (q6x n l19 x23) fun r25 =>
   (q2u n l13 m2) r25 (IntKind.i64.wrap (z20+1)))
   (q82 l19)
def q5o (z33:Int) (rc3:Int→(List (List UInt8))→Option ((List (List UInt8)))) (l53:List (List UInt8)):Option ((List (List UInt8))) :=
 rc3 (IntKind.i64.wrap (z33+1)) l53
def q83 (z10:Int) (rc1:Int→(List (List UInt8))→Option ((List (List UInt8)))) (l36:List (List UInt8)):Option ((List (List UInt8))) :=
 rc1 (IntKind.i64.wrap (z10+1)) l36
def q22 (p1:List q01) (n:Nat) (z10:Int) (rc1:Int→(List (List UInt8))→Option ((List (List UInt8)))):Nat→Int→(List (List UInt8))→Option ((List (List UInt8)))
 | 0,_,_=>none
 | m3+1,z33,l34 =>
  cond (decide (z33<(p1.length:Int)))
   (q03 (q03 (q0r p1 z33) fun x39 =>
   q03 (q0r l34 z10) fun x41 =>
   q03 (q2e n x39.Supers x41) fun r43 =>
   cond r43
    (q03 (q0r p1 z33) fun x46 =>
    q03 (q2e n l34 x46.Name) fun r48 =>
    some (!r48))
    (some false)) fun b50 =>
   cond b50
    (q03 (q0r p1 z33) fun x55 =>
    q0y ((l34.length+1)*16≤140737488355328∧l34.length+1≤140737488355328) (
    q5o z33 (q22 p1 n z10 rc1 m3) (l34++[x55.Name])))
    (q5o z33 (q22 p1 n z10 rc1 m3) l34))
   (q83 z10 rc1 l34)
def q81 (n:Nat) (l13:List (List UInt8)):Option ((List (List UInt8))) :=
 q2u n l13 n [] 0
def q1n (p1:List q01) (n:Nat):Nat→Int→(List (List UInt8))→Option ((List (List UInt8)))
 | 0,_,_=>none
 | m1+1,z10,l11 =>
  cond (decide (z10<(l11.length:Int)))
   (q22 p1 n z10 (q1n p1 n m1) n 0 l11)
   (q81 n l11)
def qa9 (n:Nat) (p1:List q01) (p2:List UInt8):Option ((List (List UInt8))) :=
 q03 (q3v n p1 p2) fun r3 =>
 cond (decide (r3<0))
  (some [])
  (q1n p1 n n 0 ([p2]))
theorem qmn (n:Nat) (p1:List q01) (p2:List UInt8) (r:(List (List UInt8))) (hF:qa9 n p1 p2=some r):EvU Tryz.prog 125 [.isl false (List.map q02 p1),.str p2] ⟨[],0⟩ (fun u _=>u = .isl false (List.map cS r)∧Bel 0 u):=by
 unfold qa9 at hF
 refine bg2 69 fn125 ?_
 obtain ⟨r3,h4,hF⟩:=q00 hF
 refine go ?_
 refine RS.cl rfl (pC (q6j n p1 p2 r3 h4) _) fn148 ?_
 refine go ?_
 refine cF hF (fun h5 hF=>?_) (fun h5 hF=>?_)
 refine go ?_
 obtain rfl:=sI hF
 exact rT (us:=[.nils]) (u:=.isl false []) (q32 rfl (q3p)) wR
 refine go ?_
 refine RS.step (u:=.vl 0 0 0 ([p2].length)) (σ':=⟨[(0,.vec (List.map cS ([p2])).flatten 9 1 0)],1⟩) rfl (qcy.bslv (cs:=(List.map cS [p2]).flatten) Tryz.tb_ok rfl un80.h if9.h rfl rfl rfl rfl rfl rfl rfl rfl) rfl rfl ?_
 refine go ?_
 refine gS (l':=[(0,_),(5,_),(6,_)]) ?_
 refine z07 (fun m tm σ=>∃ z10:Int,∃ l11:List (List UInt8),∃ t12:Nat,q1n p1 n m z10 l11=some r∧tm=fr 69 [(0,.iM q02 p1),(5,.vl 0 t12 0 l11.length),(6,.i6 z10)]∧σ=⟨[(0,.vec (List.map cS l11).flatten 9 1 t12)],1⟩) (fun tm σ=>∃ l13:List (List UInt8),∃ t14:Nat,q81 n l13=some r∧tm=fr 69 [(5,.vl 0 t14 0 l13.length)]∧σ=⟨[(0,.vec (List.map cS l13).flatten 9 1 t14)],1⟩) n ⟨0,[p2],0,hF,rfl,rfl⟩ ?_ ?_
 rintro _ _ ⟨l13,t14,hF,rfl,rfl⟩
 unfold q81 at hF
 refine gr ?_
 refine gr ?_
 refine WPU.ghost (tm':=fr 69 [(5,.vl 0 t14 0 l13.length),(8,.iM cS []),(9,.i6 0)]) (Gh.trans (Gh.sub (l':=[(5,.vl 0 t14 0 l13.length),(8,.nils),(9,.i6 0)]) ⟨rfl,rfl,rfl,trivial⟩) (Gh.wkS (l':=[(5,.vl 0 t14 0 l13.length),(8,.iM cS []),(9,.i6 0)]) (.cons (.refl _) (.cons (.nil false) (.cons (.refl _) .nil))))) NZ ?_
 refine gS (l':=[(5,_),(8,_),(9,_)]) ?_
 refine z07 (fun m tm σ=>∃ l19:List (List UInt8),∃ z20:Int,q2u n l13 m l19 z20=some r∧tm=fr 69 [(5,.vl 0 t14 0 l13.length),(8,.iM cS l19),(9,.i6 z20)]∧σ=⟨[(0,.vec (List.map cS l13).flatten 9 1 t14)],1⟩) (fun tm σ=>∃ l21:List (List UInt8),q82 l21=some r∧tm=fr 69 [(8,.iM cS l21)]∧σ=⟨[(0,.vec (List.map cS l13).flatten 9 1 t14)],1⟩) n ⟨[],0,hF,rfl,rfl⟩ ?_ ?_
 rintro _ _ ⟨l21,hF,rfl,rfl⟩
 unfold q82 at hF
 exact gx hF
 rintro (_|m2) _ _ ⟨l19,z20,hF,rfl,rfl⟩
 cases hF
 unfold q2u at hF
 refine go ?_
 refine cF hF (fun h22 hF=>?_) (fun h22 hF=>?_)
 refine go ?_
 refine WPU.block ?_
 obtain ⟨x23,h24,hF⟩:=q00 hF
 obtain ⟨r25,h26,hF⟩:=q00 hF
 refine go ?_
 refine RS.q rfl (qb9 rfl rfl (qi3 cS un80.h (q2k if9.h) (by decide) qem (vo rfl) h24)) ?_
 refine RS.q rfl (qa1 cS (fun x=>.str x) un9.h rfl (fun _=>rfl) rfl rfl h24) (RS.cl rfl (pC (q7p n l19 x23 r25 h26) _) fn116 ?_)
 refine go ?_
 exact lC ⟨r25,(IntKind.i64.wrap (z20+1)),hF,rfl,rfl⟩
 refine go ?_
 exact xC ⟨l19,hF,rfl,rfl⟩
 rintro (_|m1) _ _ ⟨z10,l11,t12,hF,rfl,rfl⟩
 cases hF
 unfold q1n at hF
 refine go ?_
 refine cF hF (fun h27 hF=>?_) (fun h27 hF=>?_)
 refine go ?_
 refine WPU.block ?_
 refine go ?_
 refine gS (l':=[(0,_),(5,_),(6,_),(7,_)]) ?_
 refine z07 (fun m tm σ=>∃ z33:Int,∃ l34:List (List UInt8),∃ t35:Nat,q22 p1 n z10 (q1n p1 n m1) m z33 l34=some r∧tm=fr 69 [(0,.iM q02 p1),(5,.vl 0 t35 0 l34.length),(6,.i6 z10),(7,.i6 z33)]∧σ=⟨[(0,.vec (List.map cS l34).flatten 9 1 t35)],1⟩) (fun tm σ=>∃ l36:List (List UInt8),∃ t37:Nat,q83 z10 (q1n p1 n m1) l36=some r∧tm=fr 69 [(0,.iM q02 p1),(5,.vl 0 t37 0 l36.length),(6,.i6 z10)]∧σ=⟨[(0,.vec (List.map cS l36).flatten 9 1 t37)],1⟩) n ⟨0,l11,t12,hF,rfl,rfl⟩ ?_ ?_
 rintro _ _ ⟨l36,t37,hF,rfl,rfl⟩
 unfold q83 at hF
 refine go ?_
 exact lC ⟨_,l36,t37,hF,rfl,rfl⟩
 rintro (_|m3) _ _ ⟨z33,l34,t35,hF,rfl,rfl⟩
 cases hF
 unfold q22 at hF
 refine go ?_
 refine cF hF (fun h38 hF=>?_) (fun h38 hF=>?_)
 refine go ?_
 refine WPU.block ?_
 obtain ⟨b50,h51,hF⟩:=q00 hF
 refine gn ?_
 refine z08 (fun tm σ=>tm=fr 69 [(0,.iM q02 p1),(5,.vl 0 t35 0 l34.length),(6,.i6 z10),(7,.i6 z33),(47,.bool b50)]∧σ=⟨[(0,.vec (List.map cS l34).flatten 9 1 t35)],1⟩) ?_ ?_
 rintro _ _ ⟨rfl,rfl⟩
 refine gn ?_
 refine z08 (fun tm σ=>∃ l53:List (List UInt8),∃ t54:Nat,q5o z33 (q22 p1 n z10 (q1n p1 n m1) m3) l53=some r∧tm=fr 69 [(0,.iM q02 p1),(5,.vl 0 t54 0 l53.length),(6,.i6 z10),(7,.i6 z33)]∧σ=⟨[(0,.vec (List.map cS l53).flatten 9 1 t54)],1⟩) ?_ ?_
 rintro _ _ ⟨l53,t54,hF,rfl,rfl⟩
 unfold q5o at hF
 refine go ?_
 exact lC ⟨_,l53,t54,hF,rfl,rfl⟩
 refine cF hF (fun h52 hF=>?_) (fun h52 hF=>?_)
 obtain ⟨x55,h56,hF⟩:=q00 hF
 obtain ⟨h57,hF⟩:=q08 hF
 refine go ?_
 refine RS.ix h56 ?_
 refine go ?_
 refine RS.g ?_
 refine RS.g ?_
 refine go ?_
 exact xC ⟨(l34++[x55.Name]),(t35+1),hF,rfl,rfl⟩
 refine go ?_
 exact xC ⟨l34,t35,hF,rfl,rfl⟩
 obtain ⟨x39,h40,h51⟩:=q00 h51
 obtain ⟨x41,h42,h51⟩:=q00 h51
 obtain ⟨r43,h44,h51⟩:=q00 h51
 rcases gB h51 with ⟨h45,h51⟩ | ⟨h45,h51⟩
 obtain ⟨x46,h47,h51⟩:=q00 h51
 obtain ⟨r48,h49,h51⟩:=q00 h51
 obtain rfl:=sI h51
 refine z0a Tryz.tb_ok [] (by kernel_rfl) ?_
 refine gd ?_
 refine RD.ix h40 ?_
 refine gd ?_
 refine RD.q rfl (qb9 rfl rfl (qi3 cS un80.h (q2k if9.h) (by decide) qem (vo rfl) h42)) ?_
 refine RD.q rfl (qa1 cS (fun x=>.str x) un9.h rfl (fun _=>rfl) rfl rfl h42) (RD.fl rfl (pC (q1r n x39.Supers x41 r43 h44)) fn126 ?_)
 refine gd ?_
 refine RD.ix h47 ?_
 refine gd ?_
 refine RD.call (u:=.bool r48) (args:=[.vl 0 t35 0 l34.length,.str x46.Name]) (z04 rfl rfl rfl h45) (qjt rfl rfl fn126 hb126 rfl rfl) (vw (q1r n l34 x46.Name r48 h49) (z09 0 1)) rfl rfl ?_
 refine gd ?_
 refine RD.done ⟨by kernel_rfl,trivial,?_⟩
 refine go ?_
 exact xC ⟨rfl,rfl⟩
 obtain rfl:=sI h51
 refine z0a Tryz.tb_ok [] (by kernel_rfl) ?_
 refine gd ?_
 refine RD.ix h40 ?_
 refine gd ?_
 refine RD.q rfl (qb9 rfl rfl (qi3 cS un80.h (q2k if9.h) (by decide) qem (vo rfl) h42)) ?_
 refine RD.q rfl (qa1 cS (fun x=>.str x) un9.h rfl (fun _=>rfl) rfl rfl h42) (RD.fl rfl (pC (q1r n x39.Supers x41 r43 h44)) fn126 ?_)
 refine gd ?_
 refine RD.done ⟨by kernel_rfl,trivial,?_⟩
 refine go ?_
 exact xC ⟨rfl,rfl⟩
 refine go ?_
 exact xC ⟨l34,t35,hF,rfl,rfl⟩
 refine go ?_
 exact xC ⟨l11,t12,hF,rfl,rfl⟩
def q4r (p1:List Int) (z5:Int):Option ((List Int)) :=
 q03 (qqe p1 0 z5) fun l6 =>
 q0y (l6.length*8≤140737488355328∧l6.length≤140737488355328) (
 some l6)
def q29 (p1:List Int):Nat→Int→Option ((List Int))
 | 0,_=>none
 | m1+1,z4 =>
  q03 (cond (decide (z4 > 0))
   (q03 (q0r p1 (IntKind.i64.wrap (z4 - 1))) fun x12 =>
   some (x12 == 0))
   (some false)) fun b14 =>
  cond b14
   ((q29 p1 m1) (IntKind.i64.wrap (z4 - 1)))
   (q4r p1 z4)
def q2s (n:Nat) (p1:List Int):Option ((List Int)) :=
 q29 p1 n (p1.length:Int)
theorem q7v (n:Nat) (p1:List Int) (r:(List Int)) (hF:q2s n p1=some r):EvU Tryz.prog 119 [.isl false (List.map (cI .u64) p1)] ⟨[],0⟩ (fun u _=>u = .isl false (List.map (cI .u64) r)∧Bel 0 u):=by
 unfold q2s at hF
 refine bg1 23 fn119 ?_
 refine go ?_
 refine gS (l':=[(0,_),(3,_)]) ?_
 refine z07 (fun m tm σ=>∃ z4:Int,q29 p1 m z4=some r∧tm=fr 23 [(0,.iM (cI .u64) p1),(3,.i6 z4)]∧σ=⟨[],0⟩) (fun tm σ=>∃ z5:Int,q4r p1 z5=some r∧tm=fr 23 [(0,.iM (cI .u64) p1),(3,.i6 z5)]∧σ=⟨[],0⟩) n ⟨(p1.length:Int),hF,rfl,rfl⟩ ?_ ?_
 rintro _ _ ⟨z5,hF,rfl,rfl⟩
 unfold q4r at hF
 obtain ⟨l6,h7,hF⟩:=q00 hF
 obtain ⟨h8,h9⟩:=qtd (cI .u64) .i64 h7
 obtain ⟨h10,hF⟩:=q08 hF
 refine go ?_
 refine RS.q (u:=.sl 0 0 0 0) (σ':=⟨[(0,.row [] 191)],1⟩) rfl (q94 un103.h if191.h rfl rfl rfl rfl rfl rfl rfl) ?_
 refine go ?_
 refine RS.q (u:=.iM (cI .u64) l6) rfl (qe0 rfl qsq (em_s rfl) qsq (qri (cI .u64) un103.h (q2k if191.h) (qbi .u64) h8 h9)) (RS.q (u:=.vl 1 0 0 l6.length) (σ':=⟨[(1,.vec (List.map (cI .u64) l6).flatten 191 1 0),(0,.row [] 191)],2⟩) rfl (qde rfl rfl rfl rfl (qp3 (cI .u64) l6 un103.h un103.h if191.h rfl rfl rfl (qhi (cI .u64) (qbi .u64)) h10)) ?_)
 refine go ?_
 obtain rfl:=sI hF
 exact rT (us:=[.vl 1 0 0 l6.length]) (u:=.iM (cI .u64) l6) (q32 rfl (q3p)) (fR 1 1)
 rintro (_|m1) _ _ ⟨z4,hF,rfl,rfl⟩
 cases hF
 unfold q29 at hF
 obtain ⟨b14,h15,hF⟩:=q00 hF
 refine gn ?_
 refine z08 (fun tm σ=>tm=fr 23 [(0,.iM (cI .u64) p1),(3,.i6 z4),(15,.bool b14)]∧σ=⟨[],0⟩) ?_ ?_
 rintro _ _ ⟨rfl,rfl⟩
 refine go ?_
 refine cF hF (fun h16 hF=>?_) (fun h16 hF=>?_)
 refine go ?_
 refine WPU.block ?_
 refine go ?_
 exact lC ⟨_,hF,rfl,rfl⟩
 refine go ?_
 exact xC ⟨z4,hF,rfl,rfl⟩
 rcases gB h15 with ⟨h11,h15⟩ | ⟨h11,h15⟩
 obtain ⟨x12,h13,h15⟩:=q00 h15
 obtain rfl:=sI h15
 refine go ?_
 refine RS.ix h13 ?_
 refine go ?_
 exact xC ⟨rfl,rfl⟩
 exact gy h15
def qce (n:Nat) (l8:List Int):Option ((List Int)×Int) :=
 q0y ((64:Int).toNat=l8.length) (
 q03 (q2s n l8) fun r10 =>
 some (r10,0))
def q66 (p1:List Int) (n:Nat):Nat→Int→(List Int)→Option ((List Int)×Int)
 | 0,_,_=>none
 | m1+1,z6,l7 =>
  cond (decide (z6<(p1.length:Int)))
   (q03 (q03 (q0r p1 z6) fun x13 =>
   cond (decide (x13<0))
    (some true)
    (q03 (q0r p1 z6) fun x16 =>
    some (decide (x16 > 4095)))) fun b18 =>
   cond b18
    (some ([],2))
    (q03 (q0r p1 z6) fun x21 =>
    q03 (q0r p1 z6) fun x24 =>
    q03 (qs5 l7 0 ((64:Int).toNat) (IntKind.i64.wrap (x24.tdiv 64))) fun x27 =>
    q03 (q0r p1 z6) fun x29 =>
    q0y (¬ (IntKind.u64.wrap (x29.tmod 64))<0) (
    q03 (qs5 l7 0 ((64:Int).toNat) (IntKind.i64.wrap (x21.tdiv 64))) fun x33 =>
    (q66 p1 n m1) (IntKind.i64.wrap (z6+1)) (l7.set (IntKind.i64.wrap (x21.tdiv 64)).toNat (orI .u64 x27 (IntKind.u64.wrap (1*(2 ^ (min (IntKind.u64.wrap (x29.tmod 64)).toNat IntKind.u64.bits)))))))))
   (qce n l7)
def qg6 (n:Nat) (p1:List Int):Option ((List Int)×Int) :=
 q0y (0≤(64:Int)∧8*(64:Int).toNat≤281474976710656∧(64:Int)≤281474976710656) (
 q66 p1 n n 0 (List.replicate (64:Int).toNat 0))
theorem qsg (n:Nat) (p1:List Int) (r:(List Int)×Int) (hF:qg6 n p1=some r):EvU Tryz.prog 127 [.isl false (List.map (cI .i64) p1)] ⟨[],0⟩ (fun u _=>u = .tup [.isl false (List.map (cI .u64) r.1),.int .i64 r.2]∧Bel 0 u):=by
 unfold qg6 at hF
 refine bg1 50 fn127 ?_
 obtain ⟨h2,hF⟩:=q08 hF
 refine go ?_
 refine RS.q (u:=.sl 0 0 ((64:Int).toNat) ((64:Int).toNat)) (σ':=⟨[(0,.row (List.map (cI .u64) (List.replicate (64:Int).toNat 0)).flatten 191)],1⟩) rfl (qun (cI .u64) 0 rfl rfl un103.h if191.h rfl rfl rfl rfl h2) ?_
 refine go ?_
 refine gS (l':=[(0,_),(4,_),(5,_)]) ?_
 refine z07 (fun m tm σ=>∃ z6:Int,∃ l7:List Int,q66 p1 n m z6 l7=some r∧tm=fr 50 [(0,.iM (cI .i64) p1),(4,.sl 0 0 ((64:Int).toNat) ((64:Int).toNat)),(5,.i6 z6)]∧σ=⟨[(0,.row (List.map (cI .u64) l7).flatten 191)],1⟩) (fun tm σ=>∃ l8:List Int,qce n l8=some r∧tm=fr 50 [(4,.sl 0 0 ((64:Int).toNat) ((64:Int).toNat))]∧σ=⟨[(0,.row (List.map (cI .u64) l8).flatten 191)],1⟩) n ⟨0,(List.replicate (64:Int).toNat 0),hF,rfl,rfl⟩ ?_ ?_
 rintro _ _ ⟨l8,hF,rfl,rfl⟩
 unfold qce at hF
 obtain ⟨h9,hF⟩:=q08 hF
 refine gn ?_
 refine WPU.ghost (tm':=fr 50 [(4,.iM (cI .u64) l8)]) (σ':=⟨[],1⟩) (Gh.trans (Gh.sub (l':=[(4,.sl 0 0 ((64:Int).toNat) ((64:Int).toNat))]) ⟨rfl,trivial⟩) (Gh.fzS (l':=[(4,.iM (cI .u64) l8)]) (h':=[]) 0 (.row (List.map (cI .u64) l8).flatten 191) 1 rfl (by simp) (by simp only [fzS,qkm,qgy,qan,qlj,qjb,qll,qh1,qje,qjd,qjc,qh0,qlk,qnu,qli,qlm,qs3,qm8,qwp (qbi .u64) h9]) (by simp only [fzH,fzB,ug,Nat.beq,cond_true,cond_false,qkm,qgy,qan,qlj,qjb,qll,qh1,qje,qjd,qjc,qh0,qlk,qnu,qli,qlm,qs3,qm8,qwp (qbi .u64) h9]))) NZ ?_
 obtain ⟨r10,h11,hF⟩:=q00 hF
 refine go ?_
 refine RS.cl rfl (pC (q7v n l8 r10 h11) _) fn119 ?_
 refine go ?_
 obtain rfl:=sI hF
 exact rt2 rfl rfl rfl rfl rfl
 rintro (_|m1) _ _ ⟨z6,l7,hF,rfl,rfl⟩
 cases hF
 unfold q66 at hF
 refine go ?_
 refine cF hF (fun h12 hF=>?_) (fun h12 hF=>?_)
 refine go ?_
 refine WPU.block ?_
 obtain ⟨b18,h19,hF⟩:=q00 hF
 refine gn ?_
 refine z08 (fun tm σ=>tm=fr 50 [(0,.iM (cI .i64) p1),(4,.sl 0 0 ((64:Int).toNat) ((64:Int).toNat)),(5,.i6 z6),(24,.bool b18)]∧σ=⟨[(0,.row (List.map (cI .u64) l7).flatten 191)],1⟩) ?_ ?_
 rintro _ _ ⟨rfl,rfl⟩
 refine go ?_
 refine cF hF (fun h20 hF=>?_) (fun h20 hF=>?_)
 refine go ?_
 obtain rfl:=sI hF
 exact rT (us:=[.nils,.i6 2]) (u:=.tup [.isl false [],.i6 2]) (q32 rfl (q32 rfl (q3p))) wR
 obtain ⟨x21,h22,hF⟩:=q00 hF
 obtain ⟨x24,h25,hF⟩:=q00 hF
 obtain ⟨x27,h28,hF⟩:=q00 hF
 obtain ⟨x29,h30,hF⟩:=q00 hF
 obtain ⟨h32,hF⟩:=q08 hF
 obtain ⟨x33,h34,hF⟩:=q00 hF
 refine go ?_
 refine z0a Tryz.tb_ok [] (by kernel_rfl) ?_
 refine gd ?_
 refine RD.ix h22 ?_
 refine gd ?_
 refine RD.q rfl (qa2 rfl rfl (qqm _ (by decide)) rfl) ?_
 refine gd ?_
 refine RD.ix h25 ?_
 refine gd ?_
 refine RD.q rfl (qa2 rfl rfl (qqm _ (by decide)) rfl) ?_
 refine RD.q rfl (qb9 rfl rfl (qs4 un103.h (q2k if191.h) rfl h28)) (RD.q (u:=.int .u64 x27) rfl (qy6 (cI .u64) (fun x=>.int .u64 x) un191.h rfl (fun _=>rfl) rfl rfl h28) ?_)
 refine gd ?_
 refine RD.ix h30 ?_
 refine gd ?_
 refine RD.q rfl (qa2 rfl rfl (qu3 _ (by decide)) rfl) ?_
 refine RD.q (u:=.int .u64 (IntKind.u64.wrap (x29.tmod 64))) rfl (qpn rfl rfl (by simp only [qni,un3.h,un190.h]<;>rfl) rfl) ?_
 refine RD.q rfl (qa2 rfl rfl (ix_shl _ h32) rfl) (RD.q rfl (qa2 rfl rfl (ix_or _ _ _) rfl) (RD.q rfl (qb9 rfl rfl (qs4 un103.h (q2k if191.h) rfl h34)) (RD.actn (u:=.junk) (σ':=⟨[(0,.row (List.map (cI .u64) (l7.set (IntKind.i64.wrap (x21.tdiv 64)).toNat (orI .u64 x27 (IntKind.u64.wrap (1*(2 ^ (min (IntKind.u64.wrap (x29.tmod 64)).toNat IntKind.u64.bits))))))).flatten 191)],1⟩) rfl (qxg (cI .u64) (q2k if191.h) (qbi .u64) rfl rfl rfl rfl rfl rfl h34 rfl) rfl ?_)))
 refine RD.done ⟨by kernel_rfl,trivial,?_⟩
 refine go ?_
 exact lC ⟨_,(l7.set (IntKind.i64.wrap (x21.tdiv 64)).toNat (orI .u64 x27 (IntKind.u64.wrap (1*(2 ^ (min (IntKind.u64.wrap (x29.tmod 64)).toNat IntKind.u64.bits)))))),hF,rfl,rfl⟩
 obtain ⟨x13,h14,h19⟩:=q00 h19
 rcases gB h19 with ⟨h15,h19⟩ | ⟨h15,h19⟩
 obtain rfl:=sI h19
 refine go ?_
 refine RS.ix h14 ?_
 refine go ?_
 exact xC ⟨rfl,rfl⟩
 obtain ⟨x16,h17,h19⟩:=q00 h19
 obtain rfl:=sI h19
 refine go ?_
 refine RS.ix h14 ?_
 refine go ?_
 refine RS.ix h17 ?_
 refine go ?_
 exact xC ⟨rfl,rfl⟩
 refine go ?_
 exact xC ⟨l7,hF,rfl,rfl⟩
def q74 (z11:Int) (rc1:Int→(List Int)→Option ((List Int))) (l24:List Int):Option ((List Int)) :=
 rc1 (IntKind.i64.wrap (z11+1)) l24
def q9l (n:Nat) (l14:List Int):Option ((List Int)) :=
 q03 (qg6 n l14) fun r16 =>
 some r16.1
def q2p (p2:List (List UInt8)) (n:Nat) (r4:(List (List UInt8))):Nat→Int→(List Int)→Option ((List Int))
 | 0,_,_=>none
 | m1+1,z11,l12 =>
  cond (decide (z11<(p2.length:Int)))
   (q03 (q0r p2 z11) fun x19 =>
   q03 (q2e n r4 x19) fun r21 =>
   cond r21
    (q0y ((l12.length+1)*8≤140737488355328∧l12.length+1≤140737488355328) (
    q74 z11 (q2p p2 n r4 m1) (l12++[z11])))
    (q74 z11 (q2p p2 n r4 m1) l12))
   (q9l n l12)
def qbo (n:Nat) (p1:List q01) (p2:List (List UInt8)) (p3:List UInt8):Option ((List Int)) :=
 q03 (qa9 n p1 p3) fun r4 =>
 q2p p2 n r4 n 0 ([]:List Int)
theorem qoh (n:Nat) (p1:List q01) (p2:List (List UInt8)) (p3:List UInt8) (r:(List Int)) (hF:qbo n p1 p2 p3=some r):EvU Tryz.prog 96 [.isl false (List.map q02 p1),.isl false (List.map cS p2),.str p3] ⟨[],0⟩ (fun u _=>u = .isl false (List.map (cI .u64) r)∧Bel 0 u):=by
 unfold qbo at hF
 refine bg3 37 fn96 ?_
 obtain ⟨r4,h5,hF⟩:=q00 hF
 refine go ?_
 refine RS.cl rfl (pC (qmn n p1 p3 r4 h5) _) fn125 ?_
 refine gr ?_
 refine gr ?_
 refine WPU.ghost (tm':=fr 37 [(1,.iM cS p2),(7,.iM cS r4),(8,.vl 0 0 0 (([]:List Int).length)),(9,.i6 0)]) (σ':=⟨[(0,.vec (List.map (cI .i64) ([]:List Int)).flatten 3 1 0)],1⟩) (Gh.trans (z0c 8 3 1 (by decide) NZ rfl rfl) (z0b ⟨rfl,rfl,rfl,rfl,trivial⟩ rfl)) NZ ?_
 refine gS (l':=[(1,_),(7,_),(8,_),(9,_)]) ?_
 refine z07 (fun m tm σ=>∃ z11:Int,∃ l12:List Int,∃ t13:Nat,q2p p2 n r4 m z11 l12=some r∧tm=fr 37 [(1,.iM cS p2),(7,.iM cS r4),(8,.vl 0 t13 0 l12.length),(9,.i6 z11)]∧σ=⟨[(0,.vec (List.map (cI .i64) l12).flatten 3 1 t13)],1⟩) (fun tm σ=>∃ l14:List Int,∃ t15:Nat,q9l n l14=some r∧tm=fr 37 [(8,.vl 0 t15 0 l14.length)]∧σ=⟨[(0,.vec (List.map (cI .i64) l14).flatten 3 1 t15)],1⟩) n ⟨0,([]:List Int),0,hF,rfl,rfl⟩ ?_ ?_
 rintro _ _ ⟨l14,t15,hF,rfl,rfl⟩
 unfold q9l at hF
 refine gn ?_
 refine WPU.ghost (tm':=fr 37 [(8,.iM (cI .i64) l14)]) (σ':=⟨[],1⟩) (Gh.trans (Gh.sub (l':=[(8,.vl 0 t15 0 l14.length)]) ⟨rfl,trivial⟩) (z0j 0 1)) NZ ?_
 obtain ⟨r16,h17,hF⟩:=q00 hF
 refine go ?_
 refine RS.cl rfl (pC (qsg n l14 r16 h17) _) fn127 ?_
 exact gx hF
 rintro (_|m1) _ _ ⟨z11,l12,t13,hF,rfl,rfl⟩
 cases hF
 unfold q2p at hF
 refine go ?_
 refine cF hF (fun h18 hF=>?_) (fun h18 hF=>?_)
 refine go ?_
 refine WPU.block ?_
 obtain ⟨x19,h20,hF⟩:=q00 hF
 obtain ⟨r21,h22,hF⟩:=q00 hF
 refine go ?_
 refine RS.ix h20 ?_
 refine go ?_
 refine RS.cl rfl (pC (q1r n r4 x19 r21 h22) _) fn126 ?_
 refine gn ?_
 refine z08 (fun tm σ=>∃ l24:List Int,∃ t25:Nat,q74 z11 (q2p p2 n r4 m1) l24=some r∧tm=fr 37 [(1,.iM cS p2),(7,.iM cS r4),(8,.vl 0 t25 0 l24.length),(9,.i6 z11)]∧σ=⟨[(0,.vec (List.map (cI .i64) l24).flatten 3 1 t25)],1⟩) ?_ ?_
 rintro _ _ ⟨l24,t25,hF,rfl,rfl⟩
 unfold q74 at hF
 refine go ?_
 exact lC ⟨_,l24,t25,hF,rfl,rfl⟩
 refine cF hF (fun h23 hF=>?_) (fun h23 hF=>?_)
 obtain ⟨h26,hF⟩:=q08 hF
 refine go ?_
 refine RS.g ?_
 refine RS.g ?_
 refine go ?_
 exact xC ⟨(l12++[z11]),(t13+1),hF,rfl,rfl⟩
 refine go ?_
 exact xC ⟨l12,t13,hF,rfl,rfl⟩
 refine go ?_
 exact xC ⟨l12,t13,hF,rfl,rfl⟩
def q7o (n:Nat) (p1:List Int) (p2:Int):Option (Int) :=
 cond (decide (p2<(p1.length:Int)))
  (q03 (q0r p1 p2) fun x4 =>
  some x4)
  (some 0)
theorem qhw (n:Nat) (p1:List Int) (p2:Int) (r:Int) (hF:q7o n p1 p2=some r):EvU Tryz.prog 146 [.isl false (List.map (cI .u64) p1),.int .i64 p2] ⟨[],0⟩ (fun u _=>u = .int .u64 r∧Bel 0 u):=by
 unfold q7o at hF
 refine bg2 13 fn146 ?_
 refine go ?_
 refine cF hF (fun h3 hF=>?_) (fun h3 hF=>?_)
 obtain ⟨x4,h5,hF⟩:=q00 hF
 refine go ?_
 refine RS.ix h5 ?_
 exact gx hF
 exact gx hF
def q6g (n:Nat) (l11:List Int):Option ((List Int)) :=
 q03 (q2s n l11) fun r13 =>
 some r13
def q8o (p1:List Int) (p2:List Int) (n:Nat):Nat→Int→(List Int)→Option ((List Int))
 | 0,_,_=>none
 | m1+1,z8,l9 =>
  cond (decide (z8<(p1.length:Int)))
   (q03 (q0r p1 z8) fun x16 =>
   q03 (q7o n p2 z8) fun r18 =>
   q0y ((l9.length+1)*8≤140737488355328∧l9.length+1≤140737488355328) (
   (q8o p1 p2 n m1) (IntKind.i64.wrap (z8+1)) (l9++[(qyq .u64 x16 r18)])))
   (q6g n l9)
def qa5 (n:Nat) (p1:List Int) (p2:List Int):Option ((List Int)) :=
 q8o p1 p2 n n 0 ([]:List Int)
theorem qk0 (n:Nat) (p1:List Int) (p2:List Int) (r:(List Int)) (hF:qa5 n p1 p2=some r):EvU Tryz.prog 118 [.isl false (List.map (cI .u64) p1),.isl false (List.map (cI .u64) p2)] ⟨[],0⟩ (fun u _=>u = .isl false (List.map (cI .u64) r)∧Bel 0 u):=by
 unfold qa5 at hF
 refine bg2 26 fn118 ?_
 refine gr ?_
 refine gr ?_
 refine gr ?_
 refine WPU.ghost (tm':=fr 26 [(0,.iM (cI .u64) p1),(1,.iM (cI .u64) p2),(5,.vl 0 0 0 (([]:List Int).length)),(6,.i6 0)]) (σ':=⟨[(0,.vec (List.map (cI .u64) ([]:List Int)).flatten 191 1 0)],1⟩) (Gh.trans (z0c 5 191 1 (by decide) NZ rfl rfl) (z0b ⟨rfl,rfl,rfl,rfl,trivial⟩ rfl)) NZ ?_
 refine gS (l':=[(0,_),(1,_),(5,_),(6,_)]) ?_
 refine z07 (fun m tm σ=>∃ z8:Int,∃ l9:List Int,∃ t10:Nat,q8o p1 p2 n m z8 l9=some r∧tm=fr 26 [(0,.iM (cI .u64) p1),(1,.iM (cI .u64) p2),(5,.vl 0 t10 0 l9.length),(6,.i6 z8)]∧σ=⟨[(0,.vec (List.map (cI .u64) l9).flatten 191 1 t10)],1⟩) (fun tm σ=>∃ l11:List Int,∃ t12:Nat,q6g n l11=some r∧tm=fr 26 [(5,.vl 0 t12 0 l11.length)]∧σ=⟨[(0,.vec (List.map (cI .u64) l11).flatten 191 1 t12)],1⟩) n ⟨0,([]:List Int),0,hF,rfl,rfl⟩ ?_ ?_
 rintro _ _ ⟨l11,t12,hF,rfl,rfl⟩
 unfold q6g at hF
 refine gn ?_
 refine WPU.ghost (tm':=fr 26 [(5,.iM (cI .u64) l11)]) (σ':=⟨[],1⟩) (Gh.trans (Gh.sub (l':=[(5,.vl 0 t12 0 l11.length)]) ⟨rfl,trivial⟩) (z0j 0 1)) NZ ?_
 obtain ⟨r13,h14,hF⟩:=q00 hF
 refine go ?_
 refine RS.cl rfl (pC (q7v n l11 r13 h14) _) fn119 ?_
 exact gx hF
 rintro (_|m1) _ _ ⟨z8,l9,t10,hF,rfl,rfl⟩
 cases hF
 unfold q8o at hF
 refine go ?_
 refine cF hF (fun h15 hF=>?_) (fun h15 hF=>?_)
 refine go ?_
 refine WPU.block ?_
 obtain ⟨x16,h17,hF⟩:=q00 hF
 obtain ⟨r18,h19,hF⟩:=q00 hF
 obtain ⟨h20,hF⟩:=q08 hF
 refine go ?_
 refine z0a Tryz.tb_ok [(0,9)] (by kernel_rfl) ?_
 refine gd ?_
 refine RD.ix h17 ?_
 refine gd ?_
 refine RD.fl rfl (pC (qhw n p2 z8 r18 h19)) fn146 (RD.q rfl (qa2 rfl rfl (qy5 _ _ _) rfl) ?_)
 refine RD.g ?_
 refine RD.g ?_
 refine gd ?_
 refine RD.done ⟨by kernel_rfl,⟨q4f rfl,trivial⟩,?_⟩
 refine go ?_
 exact lC ⟨_,(l9++[(qyq .u64 x16 r18)]),(t10+1),hF,rfl,rfl⟩
 refine go ?_
 exact xC ⟨l9,t10,hF,rfl,rfl⟩
def qcf   : Option (Bool) :=
 some true
def q9h (p1:List Int) (p2:List Int):Nat→Int→Option (Bool)
 | 0,_=>none
 | m1+1,z7 =>
  cond (decide (z7<(p1.length:Int)))
   (q03 (q0r p1 z7) fun x9 =>
   q03 (q0r p2 z7) fun x11 =>
   cond (x9 != x11)
    (some false)
    ((q9h p1 p2 m1) (IntKind.i64.wrap (z7+1))))
   (qcf)
def q6h (n:Nat) (p1:List Int) (p2:List Int):Option (Bool) :=
 cond ((p1.length:Int) != (p2.length:Int))
  (some false)
  (q9h p1 p2 n 0)
theorem qhv (n:Nat) (p1:List Int) (p2:List Int) (r:Bool) (hF:q6h n p1 p2=some r):EvU Tryz.prog 120 [.isl false (List.map (cI .u64) p1),.isl false (List.map (cI .u64) p2)] ⟨[],0⟩ (fun u _=>u = .bool r∧Bel 0 u):=by
 unfold q6h at hF
 refine bg2 26 fn120 ?_
 refine go ?_
 refine cF hF (fun h3 hF=>?_) (fun h3 hF=>?_)
 exact gx hF
 refine go ?_
 refine gS (l':=[(0,_),(1,_),(5,_)]) ?_
 refine z07 (fun m tm σ=>∃ z7:Int,q9h p1 p2 m z7=some r∧tm=fr 26 [(0,.iM (cI .u64) p1),(1,.iM (cI .u64) p2),(5,.i6 z7)]∧σ=⟨[],0⟩) (fun tm σ=>qcf=some r∧tm=fr 26 []∧σ=⟨[],0⟩) n ⟨0,hF,rfl,rfl⟩ ?_ ?_
 rintro _ _ ⟨hF,rfl,rfl⟩
 unfold qcf at hF
 exact gx hF
 rintro (_|m1) _ _ ⟨z7,hF,rfl,rfl⟩
 cases hF
 unfold q9h at hF
 refine go ?_
 refine cF hF (fun h8 hF=>?_) (fun h8 hF=>?_)
 refine go ?_
 refine WPU.block ?_
 obtain ⟨x9,h10,hF⟩:=q00 hF
 obtain ⟨x11,h12,hF⟩:=q00 hF
 refine go ?_
 refine z0a Tryz.tb_ok [] (by kernel_rfl) ?_
 refine gd ?_
 refine RD.ix h10 ?_
 refine gd ?_
 refine RD.ix h12 ?_
 refine gd ?_
 refine RD.done ⟨by kernel_rfl,trivial,?_⟩
 refine go ?_
 refine cF hF (fun h13 hF=>?_) (fun h13 hF=>?_)
 exact gx hF
 refine go ?_
 exact lC ⟨_,hF,rfl,rfl⟩
 refine go ?_
 exact xC ⟨hF,rfl,rfl⟩
def qci   : Option (Bool) :=
 some false
def q67 (p1:List (List Int)) (p2:List Int) (n:Nat):Nat→Int→Option (Bool)
 | 0,_=>none
 | m1+1,z6 =>
  cond (decide (z6<(p1.length:Int)))
   (q03 (q0r p1 z6) fun x8 =>
   q03 (q6h n x8 p2) fun r10 =>
   cond r10
    (some true)
    ((q67 p1 p2 n m1) (IntKind.i64.wrap (z6+1))))
   (qci)
def qii (n:Nat) (p1:List (List Int)) (p2:List Int):Option (Bool) :=
 q67 p1 p2 n n 0
theorem qsh (n:Nat) (p1:List (List Int)) (p2:List Int) (r:Bool) (hF:qii n p1 p2=some r):EvU Tryz.prog 128 [.isl false (List.map (cL (cI .u64)) p1),.isl false (List.map (cI .u64) p2)] ⟨[],0⟩ (fun u _=>u = .bool r∧Bel 0 u):=by
 unfold qii at hF
 refine bg2 18 fn128 ?_
 refine go ?_
 refine gS (l':=[(0,_),(1,_),(5,_)]) ?_
 refine z07 (fun m tm σ=>∃ z6:Int,q67 p1 p2 n m z6=some r∧tm=fr 18 [(0,.iM (cL (cI .u64)) p1),(1,.iM (cI .u64) p2),(5,.i6 z6)]∧σ=⟨[],0⟩) (fun tm σ=>qci=some r∧tm=fr 18 []∧σ=⟨[],0⟩) n ⟨0,hF,rfl,rfl⟩ ?_ ?_
 rintro _ _ ⟨hF,rfl,rfl⟩
 unfold qci at hF
 exact gx hF
 rintro (_|m1) _ _ ⟨z6,hF,rfl,rfl⟩
 cases hF
 unfold q67 at hF
 refine go ?_
 refine cF hF (fun h7 hF=>?_) (fun h7 hF=>?_)
 refine go ?_
 refine WPU.block ?_
 obtain ⟨x8,h9,hF⟩:=q00 hF
 obtain ⟨r10,h11,hF⟩:=q00 hF
 refine go ?_
 refine RS.ix h9 ?_
 refine go ?_
 refine RS.cl rfl (pC (qhv n x8 p2 r10 h11) _) fn120 ?_
 refine go ?_
 refine cF hF (fun h12 hF=>?_) (fun h12 hF=>?_)
 exact gx hF
 refine go ?_
 exact lC ⟨_,hF,rfl,rfl⟩
 refine go ?_
 exact xC ⟨hF,rfl,rfl⟩
def q4w (z19:Int) (rc2:Int→(List (List Int))→Option ((List (List Int)))) (l40:List (List Int)):Option ((List (List Int))) :=
 rc2 (IntKind.i64.wrap (z19+1)) l40
def q4y (z6:Int) (rc1:Int→(List (List Int))→Option ((List (List Int)))) (l22:List (List Int)):Option ((List (List Int))) :=
 rc1 (IntKind.i64.wrap (z6+1)) l22
def q2b (n:Nat) (z6:Int) (rc1:Int→(List (List Int))→Option ((List (List Int)))):Nat→Int→(List (List Int))→Option ((List (List Int)))
 | 0,_,_=>none
 | m2+1,z19,l20 =>
  q03 (cond (decide (z19<z6))
   (some (decide ((l20.length:Int)≤256)))
   (some false)) fun b25 =>
  cond b25
   (q03 (q0r l20 z6) fun x28 =>
   q03 (q0r l20 z19) fun x30 =>
   q03 (qa5 n x28 x30) fun r32 =>
   q03 (cond (decide ((r32.length:Int) > 0))
    (q03 (qii n l20 r32) fun r35 =>
    some (!r35))
    (some false)) fun b37 =>
   cond b37
    (q0y ((l20.length+1)*24≤140737488355328∧l20.length+1≤140737488355328) (
    q4w z19 (q2b n z6 rc1 m2) (l20++[r32])))
    (q4w z19 (q2b n z6 rc1 m2) l20))
   (q4y z6 rc1 l20)
def q4x  (l9:List (List Int)):Option ((List (List Int))) :=
 some l9
def q1d (n:Nat):Nat→Int→(List (List Int))→Option ((List (List Int)))
 | 0,_,_=>none
 | m1+1,z6,l7 =>
  q03 (cond (decide (z6<(l7.length:Int)))
   (some (decide ((l7.length:Int)≤256)))
   (some false)) fun b12 =>
  cond b12
   (q2b n z6 (q1d n m1) n 0 l7)
   (q4x l7)
def q8r (n:Nat) (p1:List (List Int)):Option ((List (List Int))) :=
 q0y (p1.length*24≤140737488355328∧p1.length≤140737488355328) (
 q1d n n 0 p1)
theorem ql0 (n:Nat) (p1:List (List Int)) (r:(List (List Int))) (hF:q8r n p1=some r):EvU Tryz.prog 97 [.isl false (List.map (cL (cI .u64)) p1)] ⟨[],0⟩ (fun u _=>u = .isl false (List.map (cL (cI .u64)) r)∧Bel 0 u):=by
 unfold q8r at hF
 refine bg1 54 fn97 ?_
 obtain ⟨h2,hF⟩:=q08 hF
 refine go ?_
 refine RS.q (u:=.sl 0 0 0 0) (σ':=⟨[(0,.row [] 103)],1⟩) rfl (q94 un148.h if103.h rfl rfl rfl rfl rfl rfl rfl) ?_
 refine go ?_
 refine RS.q (u:=.vl 1 0 0 p1.length) (σ':=⟨[(1,.vec (List.map (cL (cI .u64)) p1).flatten 103 1 0),(0,.row [] 103)],2⟩) rfl (qde rfl rfl rfl rfl (qp3 (cL (cI .u64)) p1 un148.h un148.h if103.h rfl rfl rfl (qhi (cL (cI .u64)) (qd7 (cI .u64))) h2)) ?_
 refine go ?_
 refine gS (l':=[(3,_),(4,_)]) ?_
 refine z07 (fun m tm σ=>∃ z6:Int,∃ l7:List (List Int),∃ t8:Nat,q1d n m z6 l7=some r∧tm=fr 54 [(3,.vl 1 t8 0 l7.length),(4,.i6 z6)]∧σ=⟨[(1,.vec (List.map (cL (cI .u64)) l7).flatten 103 1 t8),(0,.row [] 103)],2⟩) (fun tm σ=>∃ l9:List (List Int),∃ t10:Nat,q4x l9=some r∧tm=fr 54 [(3,.vl 1 t10 0 l9.length)]∧σ=⟨[(1,.vec (List.map (cL (cI .u64)) l9).flatten 103 1 t10),(0,.row [] 103)],2⟩) n ⟨0,p1,0,hF,rfl,rfl⟩ ?_ ?_
 rintro _ _ ⟨l9,t10,hF,rfl,rfl⟩
 unfold q4x at hF
 refine go ?_
 obtain rfl:=sI hF
 exact rT (us:=[.vl 1 t10 0 l9.length]) (u:=.iM (cL (cI .u64)) l9) (q32 rfl (q3p)) (fR 1 1)
 rintro (_|m1) _ _ ⟨z6,l7,t8,hF,rfl,rfl⟩
 cases hF
 unfold q1d at hF
 obtain ⟨b12,h13,hF⟩:=q00 hF
 refine gn ?_
 refine z08 (fun tm σ=>tm=fr 54 [(3,.vl 1 t8 0 l7.length),(4,.i6 z6),(18,.bool b12)]∧σ=⟨[(1,.vec (List.map (cL (cI .u64)) l7).flatten 103 1 t8),(0,.row [] 103)],2⟩) ?_ ?_
 rintro _ _ ⟨rfl,rfl⟩
 refine go ?_
 refine cF hF (fun h14 hF=>?_) (fun h14 hF=>?_)
 refine go ?_
 refine WPU.block ?_
 refine go ?_
 refine gS (l':=[(3,_),(4,_),(5,_)]) ?_
 refine z07 (fun m tm σ=>∃ z19:Int,∃ l20:List (List Int),∃ t21:Nat,q2b n z6 (q1d n m1) m z19 l20=some r∧tm=fr 54 [(3,.vl 1 t21 0 l20.length),(4,.i6 z6),(5,.i6 z19)]∧σ=⟨[(1,.vec (List.map (cL (cI .u64)) l20).flatten 103 1 t21),(0,.row [] 103)],2⟩) (fun tm σ=>∃ l22:List (List Int),∃ t23:Nat,q4y z6 (q1d n m1) l22=some r∧tm=fr 54 [(3,.vl 1 t23 0 l22.length),(4,.i6 z6)]∧σ=⟨[(1,.vec (List.map (cL (cI .u64)) l22).flatten 103 1 t23),(0,.row [] 103)],2⟩) n ⟨0,l7,t8,hF,rfl,rfl⟩ ?_ ?_
 rintro _ _ ⟨l22,t23,hF,rfl,rfl⟩
 unfold q4y at hF
 refine go ?_
 exact lC ⟨_,l22,t23,hF,rfl,rfl⟩
 rintro (_|m2) _ _ ⟨z19,l20,t21,hF,rfl,rfl⟩
 cases hF
 unfold q2b at hF
 obtain ⟨b25,h26,hF⟩:=q00 hF
 refine gn ?_
 refine z08 (fun tm σ=>tm=fr 54 [(3,.vl 1 t21 0 l20.length),(4,.i6 z6),(5,.i6 z19),(28,.bool b25)]∧σ=⟨[(1,.vec (List.map (cL (cI .u64)) l20).flatten 103 1 t21),(0,.row [] 103)],2⟩) ?_ ?_
 rintro _ _ ⟨rfl,rfl⟩
 refine go ?_
 refine cF hF (fun h27 hF=>?_) (fun h27 hF=>?_)
 refine go ?_
 refine WPU.block ?_
 obtain ⟨x28,h29,hF⟩:=q00 hF
 obtain ⟨x30,h31,hF⟩:=q00 hF
 obtain ⟨r32,h33,hF⟩:=q00 hF
 refine go ?_
 refine z0a Tryz.tb_ok [] (by kernel_rfl) ?_
 refine gd ?_
 refine RD.q rfl (qb9 rfl rfl (qi3 (cL (cI .u64)) un148.h (q2k if103.h) (by decide) (qd7 (cI .u64)) (vo rfl) h29)) ?_
 refine RD.q rfl (qa1 (cL (cI .u64)) (fun x=>.iM (cI .u64) x) un103.h rfl (fun _=>rfl) rfl rfl h29) ?_
 refine gd ?_
 refine RD.q rfl (qb9 rfl rfl (qi3 (cL (cI .u64)) un148.h (q2k if103.h) (by decide) (qd7 (cI .u64)) (vo rfl) h31)) ?_
 refine RD.q rfl (qa1 (cL (cI .u64)) (fun x=>.iM (cI .u64) x) un103.h rfl (fun _=>rfl) rfl rfl h31) (RD.fl rfl (pC (qk0 n x28 x30 r32 h33)) fn118 ?_)
 refine gd ?_
 refine RD.done ⟨by kernel_rfl,trivial,?_⟩
 obtain ⟨b37,h38,hF⟩:=q00 hF
 refine gn ?_
 refine z08 (fun tm σ=>tm=fr 54 [(3,.vl 1 t21 0 l20.length),(4,.i6 z6),(5,.i6 z19),(6,.iM (cI .u64) r32),(48,.bool b37)]∧σ=⟨[(1,.vec (List.map (cL (cI .u64)) l20).flatten 103 1 t21),(0,.row [] 103)],2⟩) ?_ ?_
 rintro _ _ ⟨rfl,rfl⟩
 refine gn ?_
 refine z08 (fun tm σ=>∃ l40:List (List Int),∃ t41:Nat,q4w z19 (q2b n z6 (q1d n m1) m2) l40=some r∧tm=fr 54 [(3,.vl 1 t41 0 l40.length),(4,.i6 z6),(5,.i6 z19)]∧σ=⟨[(1,.vec (List.map (cL (cI .u64)) l40).flatten 103 1 t41),(0,.row [] 103)],2⟩) ?_ ?_
 rintro _ _ ⟨l40,t41,hF,rfl,rfl⟩
 unfold q4w at hF
 refine go ?_
 exact lC ⟨_,l40,t41,hF,rfl,rfl⟩
 refine cF hF (fun h39 hF=>?_) (fun h39 hF=>?_)
 obtain ⟨h42,hF⟩:=q08 hF
 refine go ?_
 refine RS.g ?_
 refine RS.g ?_
 refine go ?_
 exact xC ⟨(l20++[r32]),(t21+1),hF,rfl,rfl⟩
 refine go ?_
 exact xC ⟨l20,t21,hF,rfl,rfl⟩
 rcases gB h38 with ⟨h34,h38⟩ | ⟨h34,h38⟩
 obtain ⟨r35,h36,h38⟩:=q00 h38
 obtain rfl:=sI h38
 refine go ?_
 refine RS.cl rfl (vw (qsh n l20 r32 r35 h36) (z09 1 1)) fn128 ?_
 refine go ?_
 exact xC ⟨rfl,rfl⟩
 exact gy h38
 refine go ?_
 exact xC ⟨l20,t21,hF,rfl,rfl⟩
 rcases gB h26 with ⟨h24,h26⟩ | ⟨h24,h26⟩
 exact gy h26
 exact gy h26
 refine go ?_
 exact xC ⟨l7,t8,hF,rfl,rfl⟩
 rcases gB h13 with ⟨h11,h13⟩ | ⟨h11,h13⟩
 exact gy h13
 exact gy h13
def q4a (n:Nat) (l11:List Int):Option ((List Int)) :=
 q03 (q2s n l11) fun r13 =>
 some r13
def q5m (p1:List Int) (p2:List Int) (n:Nat):Nat→Int→(List Int)→Option ((List Int))
 | 0,_,_=>none
 | m1+1,z8,l9 =>
  cond (decide (z8<(p1.length:Int)))
   (q03 (q0r p1 z8) fun x16 =>
   q03 (q7o n p2 z8) fun r18 =>
   q0y ((l9.length+1)*8≤140737488355328∧l9.length+1≤140737488355328) (
   (q5m p1 p2 n m1) (IntKind.i64.wrap (z8+1)) (l9++[(qgr .u64 x16 r18)])))
   (q4a n l9)
def q7l (n:Nat) (p1:List Int) (p2:List Int):Option ((List Int)) :=
 q5m p1 p2 n n 0 ([]:List Int)
theorem qml (n:Nat) (p1:List Int) (p2:List Int) (r:(List Int)) (hF:q7l n p1 p2=some r):EvU Tryz.prog 153 [.isl false (List.map (cI .u64) p1),.isl false (List.map (cI .u64) p2)] ⟨[],0⟩ (fun u _=>u = .isl false (List.map (cI .u64) r)∧Bel 0 u):=by
 unfold q7l at hF
 refine bg2 26 fn153 ?_
 refine gr ?_
 refine gr ?_
 refine gr ?_
 refine WPU.ghost (tm':=fr 26 [(0,.iM (cI .u64) p1),(1,.iM (cI .u64) p2),(5,.vl 0 0 0 (([]:List Int).length)),(6,.i6 0)]) (σ':=⟨[(0,.vec (List.map (cI .u64) ([]:List Int)).flatten 191 1 0)],1⟩) (Gh.trans (z0c 5 191 1 (by decide) NZ rfl rfl) (z0b ⟨rfl,rfl,rfl,rfl,trivial⟩ rfl)) NZ ?_
 refine gS (l':=[(0,_),(1,_),(5,_),(6,_)]) ?_
 refine z07 (fun m tm σ=>∃ z8:Int,∃ l9:List Int,∃ t10:Nat,q5m p1 p2 n m z8 l9=some r∧tm=fr 26 [(0,.iM (cI .u64) p1),(1,.iM (cI .u64) p2),(5,.vl 0 t10 0 l9.length),(6,.i6 z8)]∧σ=⟨[(0,.vec (List.map (cI .u64) l9).flatten 191 1 t10)],1⟩) (fun tm σ=>∃ l11:List Int,∃ t12:Nat,q4a n l11=some r∧tm=fr 26 [(5,.vl 0 t12 0 l11.length)]∧σ=⟨[(0,.vec (List.map (cI .u64) l11).flatten 191 1 t12)],1⟩) n ⟨0,([]:List Int),0,hF,rfl,rfl⟩ ?_ ?_
 rintro _ _ ⟨l11,t12,hF,rfl,rfl⟩
 unfold q4a at hF
 refine gn ?_
 refine WPU.ghost (tm':=fr 26 [(5,.iM (cI .u64) l11)]) (σ':=⟨[],1⟩) (Gh.trans (Gh.sub (l':=[(5,.vl 0 t12 0 l11.length)]) ⟨rfl,trivial⟩) (z0j 0 1)) NZ ?_
 obtain ⟨r13,h14,hF⟩:=q00 hF
 refine go ?_
 refine RS.cl rfl (pC (q7v n l11 r13 h14) _) fn119 ?_
 exact gx hF
 rintro (_|m1) _ _ ⟨z8,l9,t10,hF,rfl,rfl⟩
 cases hF
 unfold q5m at hF
 refine go ?_
 refine cF hF (fun h15 hF=>?_) (fun h15 hF=>?_)
 refine go ?_
 refine WPU.block ?_
 obtain ⟨x16,h17,hF⟩:=q00 hF
 obtain ⟨r18,h19,hF⟩:=q00 hF
 obtain ⟨h20,hF⟩:=q08 hF
 refine go ?_
 refine z0a Tryz.tb_ok [(0,9)] (by kernel_rfl) ?_
 refine gd ?_
 refine RD.ix h17 ?_
 refine gd ?_
 refine RD.fl rfl (pC (qhw n p2 z8 r18 h19)) fn146 (RD.q rfl (qa2 rfl rfl (qu2 _ _ _) rfl) ?_)
 refine RD.g ?_
 refine RD.g ?_
 refine gd ?_
 refine RD.done ⟨by kernel_rfl,⟨q4f rfl,trivial⟩,?_⟩
 refine go ?_
 exact lC ⟨_,(l9++[(qgr .u64 x16 r18)]),(t10+1),hF,rfl,rfl⟩
 refine go ?_
 exact xC ⟨l9,t10,hF,rfl,rfl⟩
def q4s (n:Nat) (p1:List Int) (p2:List Int):Option (Bool) :=
 q03 (q7l n p1 p2) fun r3 =>
 some ((r3.length:Int) == 0)
theorem q7w (n:Nat) (p1:List Int) (p2:List Int) (r:Bool) (hF:q4s n p1 p2=some r):EvU Tryz.prog 133 [.isl false (List.map (cI .u64) p1),.isl false (List.map (cI .u64) p2)] ⟨[],0⟩ (fun u _=>u = .bool r∧Bel 0 u):=by
 unfold q4s at hF
 refine bg2 10 fn133 ?_
 obtain ⟨r3,h4,hF⟩:=q00 hF
 refine go ?_
 refine RS.cl rfl (pC (qml n p1 p2 r3 h4) _) fn153 ?_
 exact gx hF
def qa6 (n:Nat) (p1:List Int) (p2:List Int):Option (Bool) :=
 q03 (q03 (q4s n p1 p2) fun r3 =>
 cond r3
  (q03 (q4s n p2 p1) fun r6 =>
  some r6)
  (some false)) fun b8 =>
 some b8
theorem qmk (n:Nat) (p1:List Int) (p2:List Int) (r:Bool) (hF:qa6 n p1 p2=some r):EvU Tryz.prog 129 [.isl false (List.map (cI .u64) p1),.isl false (List.map (cI .u64) p2)] ⟨[],0⟩ (fun u _=>u = .bool r∧Bel 0 u):=by
 unfold qa6 at hF
 refine bg2 13 fn129 ?_
 obtain ⟨b8,h9,hF⟩:=q00 hF
 refine gr ?_
 refine z08 (fun tm σ=>tm=fr 13 [(4,.bool b8)]∧σ=⟨[],0⟩) ?_ ?_
 rintro _ _ ⟨rfl,rfl⟩
 exact gx hF
 obtain ⟨r3,h4,h9⟩:=q00 h9
 rcases gB h9 with ⟨h5,h9⟩ | ⟨h5,h9⟩
 obtain ⟨r6,h7,h9⟩:=q00 h9
 obtain rfl:=sI h9
 refine go ?_
 refine RS.cl rfl (pC (q7w n p1 p2 r3 h4) _) fn133 ?_
 refine go ?_
 refine RS.cl rfl (pC (q7w n p2 p1 r6 h7) _) fn133 ?_
 refine go ?_
 exact xC ⟨rfl,rfl⟩
 obtain rfl:=sI h9
 refine go ?_
 refine RS.cl rfl (pC (q7w n p1 p2 r3 h4) _) fn133 ?_
 refine go ?_
 exact xC ⟨rfl,rfl⟩
def qbm (n:Nat) (p1:List Int) (p2:Int):Option (Bool) :=
 q03 (cond (decide (p2<0))
  (some true)
  (some (decide ((IntKind.i64.wrap (p2.tdiv 64)) ≥ (p1.length:Int))))) fun b5 =>
 cond b5
  (some false)
  (q03 (q0r p1 (IntKind.i64.wrap (p2.tdiv 64))) fun x9 =>
  q0y (¬ (IntKind.u64.wrap (p2.tmod 64))<0) (
  some ((qyq .u64 (x9.fdiv (2 ^ (min (IntKind.u64.wrap (p2.tmod 64)).toNat IntKind.u64.bits))) 1) == 1)))
theorem qk1 (n:Nat) (p1:List Int) (p2:Int) (r:Bool) (hF:qbm n p1 p2=some r):EvU Tryz.prog 130 [.isl false (List.map (cI .u64) p1),.int .i64 p2] ⟨[],0⟩ (fun u _=>u = .bool r∧Bel 0 u):=by
 unfold qbm at hF
 refine bg2 25 fn130 ?_
 obtain ⟨b5,h6,hF⟩:=q00 hF
 refine gr ?_
 refine z08 (fun tm σ=>tm=fr 25 [(0,.iM (cI .u64) p1),(1,.i6 p2),(13,.bool b5)]∧σ=⟨[],0⟩) ?_ ?_
 rintro _ _ ⟨rfl,rfl⟩
 refine go ?_
 refine cF hF (fun h7 hF=>?_) (fun h7 hF=>?_)
 exact gx hF
 obtain ⟨x9,h10,hF⟩:=q00 hF
 obtain ⟨h12,hF⟩:=q08 hF
 refine go ?_
 refine RS.q rfl (qa2 rfl rfl (qqm _ (by decide)) rfl) ?_
 refine RS.ix h10 ?_
 refine go ?_
 refine RS.q rfl (qa2 rfl rfl (qu3 _ (by decide)) rfl) ?_
 refine RS.q (u:=.int .u64 (IntKind.u64.wrap (p2.tmod 64))) rfl (qpn rfl rfl (by simp only [qni,un3.h,un190.h]<;>rfl) rfl) ?_
 refine RS.q rfl (qa2 rfl rfl (ix_shr _ h12) rfl) (RS.q rfl (qa2 rfl rfl (qy5 _ _ _) rfl) ?_)
 exact gx hF
 rcases gB h6 with ⟨h3,h6⟩ | ⟨h3,h6⟩
 exact gy h6
 obtain rfl:=sI h6
 refine go ?_
 refine RS.w rfl (qa2 rfl rfl (qqm _ (by decide)) rfl) ?_
 refine go ?_
 exact xC ⟨rfl,rfl⟩
def q3u (z8:Int) (rc1:(List (List UInt8))→Int→Option ((List (List UInt8)))) (l16:List (List UInt8)):Option ((List (List UInt8))) :=
 rc1 l16 (IntKind.i64.wrap (z8+1))
def q5a  (l9:List (List UInt8)):Option ((List (List UInt8))) :=
 some l9
def q17 (p1:List q01) (p2:List (List UInt8)) (n:Nat):Nat→(List (List UInt8))→Int→Option ((List (List UInt8)))
 | 0,_,_=>none
 | m1+1,l7,z8 =>
  cond (decide (z8<(p2.length:Int)))
   (q03 (q0r p2 z8) fun x11 =>
   q03 (q3v n p1 x11) fun r13 =>
   cond (decide (r13 ≥ 0))
    (q03 (q0r p2 z8) fun x17 =>
    q03 (q6x n l7 x17) fun r19 =>
    q3u z8 (q17 p1 p2 n m1) r19)
    (q3u z8 (q17 p1 p2 n m1) l7))
   (q5a l7)
def q86 (n:Nat) (p1:List q01) (p2:List (List UInt8)):Option ((List (List UInt8))) :=
 q17 p1 p2 n n [] 0
theorem qi5 (n:Nat) (p1:List q01) (p2:List (List UInt8)) (r:(List (List UInt8))) (hF:q86 n p1 p2=some r):EvU Tryz.prog 150 [.isl false (List.map q02 p1),.isl false (List.map cS p2)] ⟨[],0⟩ (fun u _=>u = .isl false (List.map cS r)∧Bel 0 u):=by
 unfold q86 at hF
 refine bg2 27 fn150 ?_
 refine gr ?_
 refine gr ?_
 refine gr ?_
 refine WPU.ghost (tm':=fr 27 [(0,.iM q02 p1),(1,.iM cS p2),(5,.iM cS []),(6,.i6 0)]) (Gh.trans (Gh.sub (l':=[(0,.iM q02 p1),(1,.iM cS p2),(5,.nils),(6,.i6 0)]) ⟨rfl,rfl,rfl,rfl,trivial⟩) (Gh.wkS (l':=[(0,.iM q02 p1),(1,.iM cS p2),(5,.iM cS []),(6,.i6 0)]) (.cons (.refl _) (.cons (.refl _) (.cons (.nil false) (.cons (.refl _) .nil)))))) NZ ?_
 refine gS (l':=[(0,_),(1,_),(5,_),(6,_)]) ?_
 refine z07 (fun m tm σ=>∃ l7:List (List UInt8),∃ z8:Int,q17 p1 p2 n m l7 z8=some r∧tm=fr 27 [(0,.iM q02 p1),(1,.iM cS p2),(5,.iM cS l7),(6,.i6 z8)]∧σ=⟨[],0⟩) (fun tm σ=>∃ l9:List (List UInt8),q5a l9=some r∧tm=fr 27 [(5,.iM cS l9)]∧σ=⟨[],0⟩) n ⟨[],0,hF,rfl,rfl⟩ ?_ ?_
 rintro _ _ ⟨l9,hF,rfl,rfl⟩
 unfold q5a at hF
 exact gx hF
 rintro (_|m1) _ _ ⟨l7,z8,hF,rfl,rfl⟩
 cases hF
 unfold q17 at hF
 refine go ?_
 refine cF hF (fun h10 hF=>?_) (fun h10 hF=>?_)
 refine go ?_
 refine WPU.block ?_
 obtain ⟨x11,h12,hF⟩:=q00 hF
 obtain ⟨r13,h14,hF⟩:=q00 hF
 refine go ?_
 refine RS.ix h12 ?_
 refine go ?_
 refine RS.cl rfl (pC (q6j n p1 x11 r13 h14) _) fn148 ?_
 refine gn ?_
 refine z08 (fun tm σ=>∃ l16:List (List UInt8),q3u z8 (q17 p1 p2 n m1) l16=some r∧tm=fr 27 [(0,.iM q02 p1),(1,.iM cS p2),(5,.iM cS l16),(6,.i6 z8)]∧σ=⟨[],0⟩) ?_ ?_
 rintro _ _ ⟨l16,hF,rfl,rfl⟩
 unfold q3u at hF
 refine go ?_
 exact lC ⟨l16,(IntKind.i64.wrap (z8+1)),hF,rfl,rfl⟩
 refine cF hF (fun h15 hF=>?_) (fun h15 hF=>?_)
 obtain ⟨x17,h18,hF⟩:=q00 hF
 obtain ⟨r19,h20,hF⟩:=q00 hF
 refine go ?_
 refine RS.ix h18 ?_
 refine go ?_
 refine RS.cl rfl (pC (q7p n l7 x17 r19 h20) _) fn116 ?_
 refine go ?_
 exact xC ⟨r19,hF,rfl,rfl⟩
 refine go ?_
 exact xC ⟨l7,hF,rfl,rfl⟩
 refine go ?_
 exact xC ⟨l7,hF,rfl,rfl⟩
def q7y  (l21:List (List UInt8)):Option ((List (List UInt8))) :=
 some l21
def q2t (n:Nat) (l13:List (List UInt8)):Nat→(List (List UInt8))→Int→Option ((List (List UInt8)))
 | 0,_,_=>none
 | m2+1,l19,z20 =>
  cond (decide (z20<(l13.length:Int)))
   (q03 (q0r l13 z20) fun x23 =>
   q03 (q6x n l19 x23) fun r25 =>
   (q2t n l13 m2) r25 (IntKind.i64.wrap (z20+1)))
   (q7y l19)
def q5n (z40:Int) (rc3:Int→(List (List UInt8))→Option ((List (List UInt8)))) (l51:List (List UInt8)):Option ((List (List UInt8))) :=
 rc3 (IntKind.i64.wrap (z40+1)) l51
def q7z (z10:Int) (rc1:Int→(List (List UInt8))→Option ((List (List UInt8)))) (l43:List (List UInt8)):Option ((List (List UInt8))) :=
 rc1 (IntKind.i64.wrap (z10+1)) l43
def q21 (n:Nat) (z10:Int) (rc1:Int→(List (List UInt8))→Option ((List (List UInt8)))) (x32:q01):Nat→Int→(List (List UInt8))→Option ((List (List UInt8)))
 | 0,_,_=>none
 | m3+1,z40,l41 =>
  cond (decide (z40<(x32.Supers.length:Int)))
   (q03 (q0r x32.Supers z40) fun x46 =>
   q03 (q2e n l41 x46) fun r48 =>
   cond (!r48)
    (q03 (q0r x32.Supers z40) fun x53 =>
    q0y ((l41.length+1)*16≤140737488355328∧l41.length+1≤140737488355328) (
    q5n z40 (q21 n z10 rc1 x32 m3) (l41++[x53])))
    (q5n z40 (q21 n z10 rc1 x32 m3) l41))
   (q7z z10 rc1 l41)
def q7x (n:Nat) (l13:List (List UInt8)):Option ((List (List UInt8))) :=
 q2t n l13 n [] 0
def q1m (p1:List q01) (n:Nat):Nat→Int→(List (List UInt8))→Option ((List (List UInt8)))
 | 0,_,_=>none
 | m1+1,z10,l11 =>
  cond (decide (z10<(l11.length:Int)))
   (q03 (q0r l11 z10) fun x28 =>
   q03 (q3v n p1 x28) fun r30 =>
   q03 (q0r p1 r30) fun x32 =>
   q21 n z10 (q1m p1 n m1) x32 n 0 l11)
   (q7x n l11)
def qa8 (n:Nat) (p1:List q01) (p2:List UInt8):Option ((List (List UInt8))) :=
 q03 (q3v n p1 p2) fun r3 =>
 cond (decide (r3<0))
  (some [])
  (q1m p1 n n 0 ([p2]))
theorem qmm (n:Nat) (p1:List q01) (p2:List UInt8) (r:(List (List UInt8))) (hF:qa8 n p1 p2=some r):EvU Tryz.prog 151 [.isl false (List.map q02 p1),.str p2] ⟨[],0⟩ (fun u _=>u = .isl false (List.map cS r)∧Bel 0 u):=by
 unfold qa8 at hF
 refine bg2 66 fn151 ?_
 obtain ⟨r3,h4,hF⟩:=q00 hF
 refine go ?_
 refine RS.cl rfl (pC (q6j n p1 p2 r3 h4) _) fn148 ?_
 refine go ?_
 refine cF hF (fun h5 hF=>?_) (fun h5 hF=>?_)
 refine go ?_
 obtain rfl:=sI hF
 exact rT (us:=[.nils]) (u:=.isl false []) (q32 rfl (q3p)) wR
 refine go ?_
 refine RS.step (u:=.vl 0 0 0 ([p2].length)) (σ':=⟨[(0,.vec (List.map cS ([p2])).flatten 9 1 0)],1⟩) rfl (qcy.bslv (cs:=(List.map cS [p2]).flatten) Tryz.tb_ok rfl un80.h if9.h rfl rfl rfl rfl rfl rfl rfl rfl) rfl rfl ?_
 refine go ?_
 refine gS (l':=[(0,_),(5,_),(6,_)]) ?_
 refine z07 (fun m tm σ=>∃ z10:Int,∃ l11:List (List UInt8),∃ t12:Nat,q1m p1 n m z10 l11=some r∧tm=fr 66 [(0,.iM q02 p1),(5,.vl 0 t12 0 l11.length),(6,.i6 z10)]∧σ=⟨[(0,.vec (List.map cS l11).flatten 9 1 t12)],1⟩) (fun tm σ=>∃ l13:List (List UInt8),∃ t14:Nat,q7x n l13=some r∧tm=fr 66 [(5,.vl 0 t14 0 l13.length)]∧σ=⟨[(0,.vec (List.map cS l13).flatten 9 1 t14)],1⟩) n ⟨0,[p2],0,hF,rfl,rfl⟩ ?_ ?_
 rintro _ _ ⟨l13,t14,hF,rfl,rfl⟩
 unfold q7x at hF
 refine gr ?_
 refine gr ?_
 refine WPU.ghost (tm':=fr 66 [(5,.vl 0 t14 0 l13.length),(9,.iM cS []),(10,.i6 0)]) (Gh.trans (Gh.sub (l':=[(5,.vl 0 t14 0 l13.length),(9,.nils),(10,.i6 0)]) ⟨rfl,rfl,rfl,trivial⟩) (Gh.wkS (l':=[(5,.vl 0 t14 0 l13.length),(9,.iM cS []),(10,.i6 0)]) (.cons (.refl _) (.cons (.nil false) (.cons (.refl _) .nil))))) NZ ?_
 refine gS (l':=[(5,_),(9,_),(10,_)]) ?_
 refine z07 (fun m tm σ=>∃ l19:List (List UInt8),∃ z20:Int,q2t n l13 m l19 z20=some r∧tm=fr 66 [(5,.vl 0 t14 0 l13.length),(9,.iM cS l19),(10,.i6 z20)]∧σ=⟨[(0,.vec (List.map cS l13).flatten 9 1 t14)],1⟩) (fun tm σ=>∃ l21:List (List UInt8),q7y l21=some r∧tm=fr 66 [(9,.iM cS l21)]∧σ=⟨[(0,.vec (List.map cS l13).flatten 9 1 t14)],1⟩) n ⟨[],0,hF,rfl,rfl⟩ ?_ ?_
 rintro _ _ ⟨l21,hF,rfl,rfl⟩
 unfold q7y at hF
 exact gx hF
 rintro (_|m2) _ _ ⟨l19,z20,hF,rfl,rfl⟩
 cases hF
 unfold q2t at hF
 refine go ?_
 refine cF hF (fun h22 hF=>?_) (fun h22 hF=>?_)
 refine go ?_
 refine WPU.block ?_
 obtain ⟨x23,h24,hF⟩:=q00 hF
 obtain ⟨r25,h26,hF⟩:=q00 hF
 refine go ?_
 refine RS.q rfl (qb9 rfl rfl (qi3 cS un80.h (q2k if9.h) (by decide) qem (vo rfl) h24)) ?_
 refine RS.q rfl (qa1 cS (fun x=>.str x) un9.h rfl (fun _=>rfl) rfl rfl h24) (RS.cl rfl (pC (q7p n l19 x23 r25 h26) _) fn116 ?_)
 refine go ?_
 exact lC ⟨r25,(IntKind.i64.wrap (z20+1)),hF,rfl,rfl⟩
 refine go ?_
 exact xC ⟨l19,hF,rfl,rfl⟩
 rintro (_|m1) _ _ ⟨z10,l11,t12,hF,rfl,rfl⟩
 cases hF
 unfold q1m at hF
 refine go ?_
 refine cF hF (fun h27 hF=>?_) (fun h27 hF=>?_)
 refine go ?_
 refine WPU.block ?_
 obtain ⟨x28,h29,hF⟩:=q00 hF
 obtain ⟨r30,h31,hF⟩:=q00 hF
 obtain ⟨x32,h33,hF⟩:=q00 hF
 refine go ?_
 refine RS.q rfl (qb9 rfl rfl (qi3 cS un80.h (q2k if9.h) (by decide) qem (vo rfl) h29)) ?_
 refine RS.q rfl (qa1 cS (fun x=>.str x) un9.h rfl (fun _=>rfl) rfl rfl h29) (RS.cl rfl (pC (q6j n p1 x28 r30 h31) _) fn148 ?_)
 refine RS.ix h33 ?_
 refine go ?_
 refine gS (l':=[(0,_),(5,_),(6,_),(7,_),(8,_)]) ?_
 refine z07 (fun m tm σ=>∃ z40:Int,∃ l41:List (List UInt8),∃ t42:Nat,q21 n z10 (q1m p1 n m1) x32 m z40 l41=some r∧tm=fr 66 [(0,.iM q02 p1),(5,.vl 0 t42 0 l41.length),(6,.i6 z10),(7,.iM cS x32.Supers),(8,.i6 z40)]∧σ=⟨[(0,.vec (List.map cS l41).flatten 9 1 t42)],1⟩) (fun tm σ=>∃ l43:List (List UInt8),∃ t44:Nat,q7z z10 (q1m p1 n m1) l43=some r∧tm=fr 66 [(0,.iM q02 p1),(5,.vl 0 t44 0 l43.length),(6,.i6 z10)]∧σ=⟨[(0,.vec (List.map cS l43).flatten 9 1 t44)],1⟩) n ⟨0,l11,t12,hF,rfl,rfl⟩ ?_ ?_
 rintro _ _ ⟨l43,t44,hF,rfl,rfl⟩
 unfold q7z at hF
 refine go ?_
 exact lC ⟨_,l43,t44,hF,rfl,rfl⟩
 rintro (_|m3) _ _ ⟨z40,l41,t42,hF,rfl,rfl⟩
 cases hF
 unfold q21 at hF
 refine go ?_
 refine cF hF (fun h45 hF=>?_) (fun h45 hF=>?_)
 refine go ?_
 refine WPU.block ?_
 obtain ⟨x46,h47,hF⟩:=q00 hF
 obtain ⟨r48,h49,hF⟩:=q00 hF
 refine go ?_
 refine RS.ix h47 ?_
 refine go ?_
 refine RS.cl rfl (vw (q1r n l41 x46 r48 h49) (z09 0 1)) fn126 ?_
 refine gn ?_
 refine z08 (fun tm σ=>∃ l51:List (List UInt8),∃ t52:Nat,q5n z40 (q21 n z10 (q1m p1 n m1) x32 m3) l51=some r∧tm=fr 66 [(0,.iM q02 p1),(5,.vl 0 t52 0 l51.length),(6,.i6 z10),(7,.iM cS x32.Supers),(8,.i6 z40)]∧σ=⟨[(0,.vec (List.map cS l51).flatten 9 1 t52)],1⟩) ?_ ?_
 rintro _ _ ⟨l51,t52,hF,rfl,rfl⟩
 unfold q5n at hF
 refine go ?_
 exact lC ⟨_,l51,t52,hF,rfl,rfl⟩
 refine cF hF (fun h50 hF=>?_) (fun h50 hF=>?_)
 obtain ⟨x53,h54,hF⟩:=q00 hF
 obtain ⟨h55,hF⟩:=q08 hF
 refine go ?_
 refine RS.ix h54 ?_
 refine go ?_
 refine RS.g ?_
 refine RS.g ?_
 refine go ?_
 exact xC ⟨(l41++[x53]),(t42+1),hF,rfl,rfl⟩
 refine go ?_
 exact xC ⟨l41,t42,hF,rfl,rfl⟩
 refine go ?_
 exact xC ⟨l41,t42,hF,rfl,rfl⟩
 refine go ?_
 exact xC ⟨l11,t12,hF,rfl,rfl⟩
def q46 (z10:Int) (rc1:Int→(List (List UInt8))→Option ((List (List UInt8)))) (l32:List (List UInt8)):Option ((List (List UInt8))) :=
 rc1 (IntKind.i64.wrap (z10+1)) l32
def q5y (r3:(List (List UInt8))) (z10:Int) (l11:List (List UInt8)) (rc1:Int→(List (List UInt8))→Option ((List (List UInt8)))) (b30:Bool):Option ((List (List UInt8))) :=
 cond b30
  (q03 (q0r r3 z10) fun x34 =>
  q0y ((l11.length+1)*16≤140737488355328∧l11.length+1≤140737488355328) (
  q46 z10 rc1 (l11++[x34])))
  (q46 z10 rc1 l11)
def q2f (n:Nat) (r3:(List (List UInt8))) (z10:Int) (l11:List (List UInt8)) (rc1:Int→(List (List UInt8))→Option ((List (List UInt8)))) (r18:(List (List UInt8))):Nat→Bool→Int→Option ((List (List UInt8)))
 | 0,_,_=>none
 | m2+1,b28,z29 =>
  cond (decide (z29<(r3.length:Int)))
   (q03 (cond b28
    (cond (z29 == z10)
     (some true)
     (q03 (q0r r3 z29) fun x40 =>
     q03 (q2e n r18 x40) fun r42 =>
     some (!r42)))
    (some false)) fun b44 =>
   (q2f n r3 z10 l11 rc1 r18 m2) b44 (IntKind.i64.wrap (z29+1)))
   (q5y r3 z10 l11 rc1 b28)
def q5x  (l13:List (List UInt8)):Option ((List (List UInt8))) :=
 some l13
def q12 (p1:List q01) (n:Nat) (r3:(List (List UInt8))):Nat→Int→(List (List UInt8))→Option ((List (List UInt8)))
 | 0,_,_=>none
 | m1+1,z10,l11 =>
  cond (decide (z10<(r3.length:Int)))
   (q03 (q0r r3 z10) fun x16 =>
   q03 (qa8 n p1 x16) fun r18 =>
   q2f n r3 z10 l11 (q12 p1 n r3 m1) r18 n true 0)
   (q5x l11)
def q59 (n:Nat) (p1:List q01) (p2:List (List UInt8)):Option ((List (List UInt8))) :=
 q03 (q86 n p1 p2) fun r3 =>
 q12 p1 n r3 n 0 ([]:List (List UInt8))
theorem qdg (n:Nat) (p1:List q01) (p2:List (List UInt8)) (r:(List (List UInt8))) (hF:q59 n p1 p2=some r):EvU Tryz.prog 131 [.isl false (List.map q02 p1),.isl false (List.map cS p2)] ⟨[],0⟩ (fun u _=>u = .isl false (List.map cS r)∧Bel 0 u):=by
 unfold q59 at hF
 refine bg2 56 fn131 ?_
 obtain ⟨r3,h4,hF⟩:=q00 hF
 refine go ?_
 refine RS.cl rfl (pC (qi5 n p1 p2 r3 h4) _) fn150 ?_
 refine gr ?_
 refine WPU.ghost (tm':=fr 56 [(0,.iM q02 p1),(5,.vl 0 0 0 (([]:List (List UInt8)).length)),(6,.iM cS r3),(7,.i6 0)]) (σ':=⟨[(0,.vec (List.map cS ([]:List (List UInt8))).flatten 9 1 0)],1⟩) (Gh.trans (z0c 5 9 1 (by decide) NZ rfl rfl) (z0b ⟨rfl,rfl,rfl,rfl,trivial⟩ rfl)) NZ ?_
 refine gS (l':=[(0,_),(5,_),(6,_),(7,_)]) ?_
 refine z07 (fun m tm σ=>∃ z10:Int,∃ l11:List (List UInt8),∃ t12:Nat,q12 p1 n r3 m z10 l11=some r∧tm=fr 56 [(0,.iM q02 p1),(5,.vl 0 t12 0 l11.length),(6,.iM cS r3),(7,.i6 z10)]∧σ=⟨[(0,.vec (List.map cS l11).flatten 9 1 t12)],1⟩) (fun tm σ=>∃ l13:List (List UInt8),∃ t14:Nat,q5x l13=some r∧tm=fr 56 [(5,.vl 0 t14 0 l13.length)]∧σ=⟨[(0,.vec (List.map cS l13).flatten 9 1 t14)],1⟩) n ⟨0,([]:List (List UInt8)),0,hF,rfl,rfl⟩ ?_ ?_
 rintro _ _ ⟨l13,t14,hF,rfl,rfl⟩
 unfold q5x at hF
 refine go ?_
 obtain rfl:=sI hF
 exact rT (us:=[.vl 0 t14 0 l13.length]) (u:=.iM cS l13) (q32 rfl (q3p)) (fR 0 1)
 rintro (_|m1) _ _ ⟨z10,l11,t12,hF,rfl,rfl⟩
 cases hF
 unfold q12 at hF
 refine go ?_
 refine cF hF (fun h15 hF=>?_) (fun h15 hF=>?_)
 refine go ?_
 refine WPU.block ?_
 obtain ⟨x16,h17,hF⟩:=q00 hF
 obtain ⟨r18,h19,hF⟩:=q00 hF
 refine go ?_
 refine RS.ix h17 ?_
 refine go ?_
 refine RS.cl rfl (pC (qmm n p1 x16 r18 h19) _) fn151 ?_
 refine go ?_
 refine gS (l':=[(0,_),(5,_),(6,_),(7,_),(8,_),(9,_),(10,_)]) ?_
 refine z07 (fun m tm σ=>∃ b28:Bool,∃ z29:Int,q2f n r3 z10 l11 (q12 p1 n r3 m1) r18 m b28 z29=some r∧tm=fr 56 [(0,.iM q02 p1),(5,.vl 0 t12 0 l11.length),(6,.iM cS r3),(7,.i6 z10),(8,.iM cS r18),(9,.bool b28),(10,.i6 z29)]∧σ=⟨[(0,.vec (List.map cS l11).flatten 9 1 t12)],1⟩) (fun tm σ=>∃ b30:Bool,q5y r3 z10 l11 (q12 p1 n r3 m1) b30=some r∧tm=fr 56 [(0,.iM q02 p1),(5,.vl 0 t12 0 l11.length),(6,.iM cS r3),(7,.i6 z10),(9,.bool b30)]∧σ=⟨[(0,.vec (List.map cS l11).flatten 9 1 t12)],1⟩) n ⟨true,0,hF,rfl,rfl⟩ ?_ ?_
 rintro _ _ ⟨b30,hF,rfl,rfl⟩
 unfold q5y at hF
 refine gr ?_
 refine z08 (fun tm σ=>∃ l32:List (List UInt8),∃ t33:Nat,q46 z10 (q12 p1 n r3 m1) l32=some r∧tm=fr 56 [(0,.iM q02 p1),(5,.vl 0 t33 0 l32.length),(6,.iM cS r3),(7,.i6 z10)]∧σ=⟨[(0,.vec (List.map cS l32).flatten 9 1 t33)],1⟩) ?_ ?_
 rintro _ _ ⟨l32,t33,hF,rfl,rfl⟩
 unfold q46 at hF
 refine go ?_
 exact lC ⟨_,l32,t33,hF,rfl,rfl⟩
 refine cF hF (fun h31 hF=>?_) (fun h31 hF=>?_)
 obtain ⟨x34,h35,hF⟩:=q00 hF
 obtain ⟨h36,hF⟩:=q08 hF
 refine go ?_
 refine RS.ix h35 ?_
 refine go ?_
 refine RS.g ?_
 refine RS.g ?_
 refine go ?_
 exact xC ⟨(l11++[x34]),(t12+1),hF,rfl,rfl⟩
 refine go ?_
 exact xC ⟨l11,t12,hF,rfl,rfl⟩
 rintro (_|m2) _ _ ⟨b28,z29,hF,rfl,rfl⟩
 cases hF
 unfold q2f at hF
 refine go ?_
 refine cF hF (fun h37 hF=>?_) (fun h37 hF=>?_)
 refine go ?_
 refine WPU.block ?_
 obtain ⟨b44,h45,hF⟩:=q00 hF
 refine gn ?_
 refine z08 (fun tm σ=>tm=fr 56 [(0,.iM q02 p1),(5,.vl 0 t12 0 l11.length),(6,.iM cS r3),(7,.i6 z10),(8,.iM cS r18),(9,.bool b44),(10,.i6 z29)]∧σ=⟨[(0,.vec (List.map cS l11).flatten 9 1 t12)],1⟩) ?_ ?_
 rintro _ _ ⟨rfl,rfl⟩
 refine go ?_
 exact lC ⟨b44,(IntKind.i64.wrap (z29+1)),hF,rfl,rfl⟩
 rcases gB h45 with ⟨h38,h45⟩ | ⟨h38,h45⟩
 rcases gB h45 with ⟨h39,h45⟩ | ⟨h39,h45⟩
 exact gy h45
 obtain ⟨x40,h41,h45⟩:=q00 h45
 obtain ⟨r42,h43,h45⟩:=q00 h45
 obtain rfl:=sI h45
 refine go ?_
 refine RS.ix h41 ?_
 refine go ?_
 refine RS.cl rfl (pC (q1r n r18 x40 r42 h43) _) fn126 ?_
 refine go ?_
 exact xC ⟨rfl,rfl⟩
 obtain rfl:=sI h45
 refine go ?_
 repeat refine RS.no (ql4 rfl rfl rfl) rfl rfl ?_
 refine go ?_
 exact xC ⟨rfl,rfl⟩
 refine go ?_
 exact xC ⟨b28,hF,rfl,rfl⟩
 refine go ?_
 exact xC ⟨l11,t12,hF,rfl,rfl⟩
def q75 (r17:(List (List UInt8))) (z23:Int) (rc2:(List UInt8)→Int→Option ((List UInt8))) (s27:List UInt8):Option ((List UInt8)) :=
 q03 (q0r r17 z23) fun x28 =>
 q0y (s27.length+x28.length≤9223372036854775807) (
 rc2 (s27++x28) (IntKind.i64.wrap (z23+1)))
def q9n  (s24:List UInt8):Option ((List UInt8)) :=
 some s24
def q25 (r17:(List (List UInt8))):Nat→(List UInt8)→Int→Option ((List UInt8))
 | 0,_,_=>none
 | m2+1,s22,z23 =>
  cond (decide (z23<(r17.length:Int)))
   (cond (decide (z23 > 0))
    (q0y (s22.length+([38]).length≤9223372036854775807) (
    q75 r17 z23 (q25 r17 m2) (s22++[38])))
    (q75 r17 z23 (q25 r17 m2) s22))
   (q9n s22)
def q76 (z12:Int) (rc1:Int→(List (List UInt8))→Option ((List UInt8))) (l43:List (List UInt8)):Option ((List UInt8)) :=
 rc1 (IntKind.i64.wrap (z12+1)) l43
def q9m (p1:List q01) (n:Nat) (l15:List (List UInt8)):Option ((List UInt8)) :=
 q03 (q59 n p1 l15) fun r17 =>
 q25 r17 n [] 0
def q2q (p1:List q01) (p2:List (List UInt8)) (p3:List (List Int)) (p4:List Int) (n:Nat):Nat→Int→(List (List UInt8))→Option ((List UInt8))
 | 0,_,_=>none
 | m1+1,z12,l13 =>
  cond (decide (z12<(p2.length:Int)))
   (q03 (q0r p3 z12) fun x33 =>
   q03 (qa6 n x33 p4) fun r35 =>
   cond r35
    (q03 (q0r p2 z12) fun x38 =>
    some x38)
    (q03 (qbm n p4 z12) fun r40 =>
    cond r40
     (q03 (q0r p2 z12) fun x45 =>
     q0y ((l13.length+1)*16≤140737488355328∧l13.length+1≤140737488355328) (
     q76 z12 (q2q p1 p2 p3 p4 n m1) (l13++[x45])))
     (q76 z12 (q2q p1 p2 p3 p4 n m1) l13)))
   (q9m p1 n l13)
def qbp (n:Nat) (p1:List q01) (p2:List (List UInt8)) (p3:List (List Int)) (p4:List Int):Option ((List UInt8)) :=
 q2q p1 p2 p3 p4 n n 0 ([]:List (List UInt8))
end Go.Proofs
end
