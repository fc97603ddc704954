/-
  Texts of the walk: H4.
-/
import Derived.Test.YtkgbipeaeamohaaGreatDoorP16
set_option linter.unusedSimpArgs false
set_option linter.unusedVariables false
section
namespace Go.Proofs
open Go Go.Rx Go.Vx Tryz
set_option maxRecDepth 20000
set_option maxHeartbeats 4000000
set_option synthInstance.maxSize 4000
set_option synthInstance.maxHeartbeats 200000
instance {a b:Int}:DeC q1w [.int .i64 a,.int .i64 b] (q3w.mk a b):=⟨rfl⟩
structure q0z where
 Typex:Int
 Arcs:List q3w
def q07 (x:q0z):List U:=[.int .i64 x.Typex,.isl false (List.map q1w x.Arcs)]
instance {a0:Int} {a1:List q3w}:DeC q07 [.int .i64 a0,.isl false (List.map q1w a1)] (q0z.mk a0 a1):=⟨rfl⟩
theorem qlh (n:Nat) (x:q0z):q1m n (q07 x):=by
 simp only [q07,q1m,Bel,true_and,and_true]
 exact q4h _ (fun q=>qj0 _ q) _
theorem qsc (x:q0z):(q07 x).length=2:=rfl
instance:qld q07 2:=⟨qsc⟩
instance:BF q07:=⟨qlh⟩
instance (n:Nat) (x:q0z):BUL n (q07 x):=⟨qlh n x⟩
structure GFS where
 Nodes:List q0z
structure q0j where
 A:List Int
 B:List Int
def q19 (x:q0j):List U:=[.isl false (List.map (cI .i64) x.A),.isl false (List.map (cI .i64) x.B)]
instance {a0:List Int} {a1:List Int}:DeC q19 [.isl false (List.map (cI .i64) a0),.isl false (List.map (cI .i64) a1)] (q0j.mk a0 a1):=⟨rfl⟩
theorem qm7 (n:Nat) (x:q0j):q1m n (q19 x):=by
 simp only [q19,q1m,Bel,true_and,and_true]
 exact ⟨q4h _ (fun q=>qep _ .i64 q) _,q4h _ (fun q=>qep _ .i64 q) _⟩
theorem qmk (x:q0j):(q19 x).length=2:=rfl
instance:qld q19 2:=⟨qmk⟩
instance:BF q19:=⟨qm7⟩
structure q0v where
 Feat:Int
 Value:Int
def q1g (x:q0v):List U:=[.int .i64 x.Feat,.int .i64 x.Value]
instance {a0:Int} {a1:Int}:DeC q1g [.int .i64 a0,.int .i64 a1] (q0v.mk a0 a1):=⟨rfl⟩
theorem qhs (n:Nat) (x:q0v):q1m n (q1g x):=by
 simp only [q1g,q1m,Bel,true_and,and_true]
theorem qob (x:q0v):(q1g x).length=2:=rfl
instance:qld q1g 2:=⟨qob⟩
instance:BF q1g:=⟨qhs⟩
structure qd2 where
 Name:List UInt8
 Code:List Int
 Supers:List Int
 Feats:List q0v
def qd8 (x:qd2):List U:=[.str x.Name,.isl false (List.map (cI .u64) x.Code),.isl false (List.map (cI .i64) x.Supers),.isl false (List.map q1g x.Feats)]
instance {a0:List UInt8} {a1:List Int} {a2:List Int} {a3:List q0v}:DeC qd8 [.str a0,.isl false (List.map (cI .u64) a1),.isl false (List.map (cI .i64) a2),.isl false (List.map q1g a3)] (qd2.mk a0 a1 a2 a3):=⟨rfl⟩
theorem qli (n:Nat) (x:qd2):q1m n (qd8 x):=by
 simp only [qd8,q1m,Bel,true_and,and_true]
 exact ⟨q4h _ (fun q=>qep _ .u64 q) _,q4h _ (fun q=>qep _ .i64 q) _,q4h _ (fun q=>qhs _ q) _⟩
theorem qsd (x:qd2):(qd8 x).length=4:=rfl
instance:qld qd8 4:=⟨qsd⟩
instance:BF qd8:=⟨qli⟩
structure q0s where
 Name:List UInt8
 Intro:Int
def q2y (x:q0s):List U:=[.str x.Name,.int .i64 x.Intro]
instance {a0:List UInt8} {a1:Int}:DeC q2y [.str a0,.int .i64 a1] (q0s.mk a0 a1):=⟨rfl⟩
theorem qff (n:Nat) (x:q0s):q1m n (q2y x):=by
 simp only [q2y,q1m,Bel,true_and,and_true]
theorem qmj (x:q0s):(q2y x).length=2:=rfl
instance:qld q2y 2:=⟨qmj⟩
instance:BF q2y:=⟨qff⟩
def q52 (x y:q0s):Bool:=(q0k x.Name y.Name&&(x.Intro == y.Intro))
structure q09 where
 Types:List qd2
 Feats:List q0s
def q0a (x:q09):List U:=[.isl false (List.map qd8 x.Types),.isl false (List.map q2y x.Feats)]
theorem qj2 (n:Nat) (x:q09):q1m n (q0a x):=by
 simp only [q0a,q1m,Bel,true_and,and_true]
 exact ⟨q4h _ (fun q=>qli _ q) _,q4h _ (fun q=>qff _ q) _⟩
theorem qjs (x:q09):(q0a x).length=2:=rfl
instance:qld q0a 2:=⟨qjs⟩
instance (n:Nat) (x:q09):BUL n (q0a x):=⟨qj2 n x⟩
structure q0u where
 Feat:List UInt8
 Value:List UInt8
def q0e (x:q0u):List U:=[.str x.Feat,.str x.Value]
instance {a0:List UInt8} {a1:List UInt8}:DeC q0e [.str a0,.str a1] (q0u.mk a0 a1):=⟨rfl⟩
theorem qen (n:Nat) (x:q0u):q1m n (q0e x):=by
 simp only [q0e,q1m,Bel,true_and,and_true]
theorem ql0 (x:q0u):(q0e x).length=2:=rfl
instance:qld q0e 2:=⟨ql0⟩
instance:BF q0e:=⟨qen⟩
structure q01 where
 Name:List UInt8
 Supers:List (List UInt8)
 Feats:List q0u
def q02 (x:q01):List U:=[.str x.Name,.isl false (List.map cS x.Supers),.isl false (List.map q0e x.Feats)]
theorem qeo (n:Nat) (x:q01):q1m n (q02 x):=by
 simp only [q02,q1m,Bel,true_and,and_true]
 exact ⟨q4h _ (fun q=>qy0 _ q) _,q4h _ (fun q=>qen _ q) _⟩
theorem ql1 (x:q01):(q02 x).length=3:=rfl
instance:qld q02 3:=⟨ql1⟩
instance:BF q02:=⟨qeo⟩
instance (n:Nat) (x:q01):BUL n (q02 x):=⟨qeo n x⟩
structure q0c where
 Name:List UInt8
 Code:List Int
instance:Inhabited q0c:=⟨.mk default default⟩
def q0d (x:q0c):List U:=[.str x.Name,.isl false (List.map (cI .u64) x.Code)]
instance {a0:List UInt8} {a1:List Int}:DeC q0d [.str a0,.isl false (List.map (cI .u64) a1)] (q0c.mk a0 a1):=⟨rfl⟩
theorem qj1 (n:Nat) (x:q0c):q1m n (q0d x):=by
 simp only [q0d,q1m,Bel,true_and,and_true]
 exact q4h _ (fun q=>qep _ .u64 q) _
theorem q4q (x:q0c):(q0d x).length=2:=rfl
instance:qld q0d 2:=⟨q4q⟩
instance:BF q0d:=⟨qj1⟩
instance (n:Nat) (x:q0c):BUL n (q0d x):=⟨qj1 n x⟩
theorem Tryz.eqs82:Tryz.tb.eqs 82=true:=by kernel_rfl
theorem eqv82 (x y:q0s):eqv Tryz.tb 50 82 (.agg ⟨[.string ⟨⟨x.Name⟩⟩,.int .i64 x.Intro]⟩) (.agg ⟨[.string ⟨⟨y.Name⟩⟩,.int .i64 y.Intro]⟩)=some (q52 x y):=by
 simp only [eqv,cond_true,cond_false,qzj,qhe,q4j,nth,q0l,List.drop,List.take,List.toList_toArray,q52,ne_eq,String.reduceEq,not_false_eq_true,if_true,un3.h,un9.h,un82.h,eqs82,if82.h]
 cases q0k x.Name y.Name<;>cases (x.Intro == y.Intro)<;>rfl
theorem qto (x y:q0s):g2 (qkv Tryz.tb .eql 82) (.agg [.str x.Name,.int .i64 x.Intro]) (.agg [.str y.Name,.int .i64 y.Intro])=some (.bool (q52 x y)):=by
 simp only [g2,toV,qnj,okL,okC,cond_true,qkv,qa2,eqs82,eqv82,ofV]
instance Tryz.bd24:BdC Tryz.tb 24 [.nils] [(0,1)]:=⟨bdT un24.h if24.h rfl (by kernel_rfl)⟩
instance Tryz.bd43:BdC Tryz.tb 43 [.nils,.nils] [(0,1),(1,1)]:=⟨bdT un43.h if43.h rfl (by kernel_rfl)⟩
instance Tryz.bd54:BdC Tryz.tb 54 [.int .i64 0,.nils] [(0,1),(1,1)]:=⟨bdT un54.h if54.h rfl (by kernel_rfl)⟩
instance Tryz.bd56:BdC Tryz.tb 56 [.nils,.nils] [(0,1),(1,1)]:=⟨bdT un56.h if56.h rfl (by kernel_rfl)⟩
instance Tryz.bd66:BdC Tryz.tb 66 [.int .i64 0,.int .i64 0] [(0,1),(1,1)]:=⟨bdT un66.h if66.h rfl (by kernel_rfl)⟩
instance Tryz.bd82:BdC Tryz.tb 82 [.str [],.int .i64 0] [(0,1),(1,1)]:=⟨bdT un82.h if82.h rfl (by kernel_rfl)⟩
instance Tryz.bd105:BdC Tryz.tb 105 [.str [],.nils] [(0,1),(1,1)]:=⟨bdT un105.h if105.h rfl (by kernel_rfl)⟩
instance Tryz.bd109:BdC Tryz.tb 109 [.str [],.nils,.nils,.nils] [(0,1),(1,1),(2,1),(3,1)]:=⟨bdT un109.h if109.h rfl (by kernel_rfl)⟩
instance Tryz.bd127:BdC Tryz.tb 127 [.str [],.nils,.nils] [(0,1),(1,1),(2,1)]:=⟨bdT un127.h if127.h rfl (by kernel_rfl)⟩
instance Tryz.bd147:BdC Tryz.tb 147 [.int .i64 0,.int .i64 0] [(0,1),(1,1)]:=⟨bdT un147.h if147.h rfl (by kernel_rfl)⟩
instance Tryz.bd162:BdC Tryz.tb 162 [.str [],.str []] [(0,1),(1,1)]:=⟨bdT un162.h if162.h rfl (by kernel_rfl)⟩
def qfy  (w13:qem Int Bool):Option (Int) :=
 some 0
def qat (p1:q0z) (p2:Int):Nat→Int→(qem Int Bool)→Option (Int)
 | 0,_,_=>none
 | m1+1,z11,w12 =>
  cond (decide (z11<(p1.Arcs.length:Int)))
   (q03 (q0o p1.Arcs z11) fun x15 =>
   q03 (cond (decide (x15.Feat<0))
    (some true)
    (cond (decide (x15.To<0))
     (some true)
     (some (decide (x15.To ≥ p2))))) fun b19 =>
   cond b19
    (some 2)
    (cond ((mGet (fun a b=>a == b) w12 x15.Feat).getD false)
     (some 4)
     ((qat p1 p2 m1) (IntKind.i64.wrap (z11+1)) (mUpd (fun a b=>a == b) w12 x15.Feat true))))
   (qfy w12)
def qjn (n:Nat) (p1:q0z) (p2:Int):Option (Int) :=
 cond (decide (p1.Typex<0))
  (some 2)
  (qat p1 p2 n 0 (mNew:qem Int Bool))
def qal (z7:Int) (l8:List q3w) (rc2:Int→(List q3w)→Option ((List q3w))) (x13:q3w)  : Option ((List q3w)) :=
 rc2 (IntKind.i64.wrap (z7+1)) (l8++[x13])
def qak  (l10:List q3w):Option ((List q3w)) :=
 some l10
def q5g (p1:List q3w):Nat→Int→(List q3w)→Option ((List q3w))
 | 0,_,_=>none
 | m2+1,z7,l8 =>
  cond (decide (z7<(p1.length:Int)))
   (q03 (q0o p1 z7) fun x13 =>
   q0y ((l8.length+1)*16≤140737488355328∧l8.length+1≤140737488355328) (
   qal z7 l8 (q5g p1 m2) x13))
   (qak l8)
def qcw (n:Nat) (p1:List q3w):Option ((List q3w)) :=
 q5g p1 n 0 ([]:List q3w)
def qdw (n:Nat) (p1:List q3w):Option ((List q3w)) :=
 q03 (qcw n p1) fun r2 =>
 some r2
def q6q (n:Nat) (p1:List q3w):Option ((List q3w)) :=
 q03 (qdw n p1) fun r2 =>
 q03 (sortO eqA (fun a b=>qjl n a b ) r2) fun r6 =>
 some r6
def q9a (n:Nat) (p1:List q3w):Option ((List q3w)) :=
 some p1
def q6w (z24:Int) (rc1:Int→(List Int)→(qem Int Int)→Option ((List Int)×(qem Int Int))) (l35:List Int) (w37:qem Int Int):Option ((List Int)×(qem Int Int)) :=
 rc1 (IntKind.i64.wrap (z24+1)) l35 w37
def qbz  (l28:List Int) (w30:qem Int Int):Option ((List Int)×(qem Int Int)) :=
 some (l28,w30)
def q3x (p2:List q0z) (r12:(List q3w)) (self:Int→(List q0z)→(List Int)→(qem Int Int)→Option ((List Int)×(qem Int Int))):Nat→Int→(List Int)→(qem Int Int)→Option ((List Int)×(qem Int Int))
 | 0,_,_,_=>none
 | m1+1,z24,l25,w27 =>
  cond (decide (z24<(r12.length:Int)))
   (q03 (q0o r12 z24) fun x32 =>
   cond (!((mGet (fun a b=>a == b) w27 x32.To).isSome))
    (q03 (self x32.To p2 l25 w27) fun r38 =>
    q6w z24 (q3x p2 r12 self m1) r38.1 r38.2)
    (q6w z24 (q3x p2 r12 self m1) l25 w27))
   (qbz l25 w27)
def qd4 (n:Nat) (self:Int→(List q0z)→(List Int)→(qem Int Int)→Option ((List Int)×(qem Int Int))) (p1:Int) (p2:List q0z) (p3:List Int) (p5:qem Int Int):Option ((List Int)×(qem Int Int)) :=
 q0y ((p3.length+1)*8≤140737488355328∧p3.length+1≤140737488355328) (
 q03 (q0o p2 p1) fun x7 =>
 q03 (q9a n x7.Arcs) fun r9 =>
 q03 (q6q n r9) fun r12 =>
 q3x p2 r12 self n 0 (p3++[p1]) (mUpd (fun a b=>a == b) p5 p1 (p3.length:Int)))
def q98:Nat→Int→(List q0z)→(List Int)→(qem Int Int)→Option ((List Int)×(qem Int Int))
 | 0,_,_,_,_=>none
 | n+1,p1,p2,p3,p5=>qd4 n (q98 n) p1 p2 p3 p5
def qfx (p1:GFS) (r3:(List Int)×(qem Int Int)) (z14:Int) (l15:List q0z) (rc1:Int→(List q0z)→Option (GFS)) (x19:Int) (l44:List q3w):Option (GFS) :=
 q03 (q0o p1.Nodes x19) fun x45 =>
 q03 (qsa l15 0 ((r3.1.length:Int).toNat) z14) fun x47 =>
 rc1 (IntKind.i64.wrap (z14+1)) (l15.set z14.toNat (q0z.mk x45.Typex l44))
def qas (p1:GFS) (r3:(List Int)×(qem Int Int)) (z14:Int) (l15:List q0z) (rc1:Int→(List q0z)→Option (GFS)) (x19:Int) (r26:(List q3w)):Nat→Int→(List q3w)→Option (GFS)
 | 0,_,_=>none
 | m2+1,z42,l43 =>
  cond (decide (z42<(r26.length:Int)))
   (q03 (q0o l43 z42) fun x50 =>
   q03 (q0o l43 z42) fun x52 =>
   (qas p1 r3 z14 l15 rc1 x19 r26 m2) (IntKind.i64.wrap (z42+1)) (l43.set (0+z42.toNat) (q3w.mk x52.Feat ((mGet (fun a b=>a == b) r3.2 x50.To).getD 0))))
   (qfx p1 r3 z14 l15 rc1 x19 l43)
def qfw (r3:(List Int)×(qem Int Int)) (l16:List q0z):Option (GFS) :=
 q0y ((r3.1.length:Int).toNat=l16.length) (
 some (GFS.mk l16))
def qar (p1:GFS) (n:Nat) (r3:(List Int)×(qem Int Int)):Nat→Int→(List q0z)→Option (GFS)
 | 0,_,_=>none
 | m1+1,z14,l15 =>
  cond (decide (z14<(r3.1.length:Int)))
   (q03 (q0o r3.1 z14) fun x19 =>
   q03 (q0o p1.Nodes x19) fun x21 =>
   q03 (q9a n x21.Arcs) fun r23 =>
   q03 (q6q n r23) fun r26 =>
   qas p1 r3 z14 l15 (qar p1 n r3 m1) x19 r26 n 0 r26)
   (qfw r3 l15)
def qjm (n:Nat) (p1:GFS) (p2:Int):Option (GFS) :=
 q03 (q98 n p2 p1.Nodes ([]:List Int) (mNew:qem Int Int)) fun r3 =>
 q0y (0≤(r3.1.length:Int)∧32*(r3.1.length:Int).toNat≤281474976710656∧(r3.1.length:Int)≤281474976710656) (
 qar p1 n r3 n 0 (List.replicate (r3.1.length:Int).toNat (q0z.mk 0 [])))
def qkx (p1:GFS) (n:Nat)  : Option (GFS×Int) :=
 q03 (qjm n p1 0) fun r9 =>
 some (r9,0)
def qky (p1:GFS) (n:Nat):Nat→Int→Option (GFS×Int)
 | 0,_=>none
 | m1+1,z8 =>
  cond (decide (z8<(p1.Nodes.length:Int)))
   (q03 (q0o p1.Nodes z8) fun x12 =>
   q03 (qjn n x12 (p1.Nodes.length:Int)) fun r14 =>
   cond (r14 != 0)
    (some ((GFS.mk []),r14))
    ((qky p1 n m1) (IntKind.i64.wrap (z8+1))))
   (qkx p1 n)
def qkc (p1:List q3w) (z6:Int) (l7:List q3w) (rc1:Int→(List q3w)→Option ((List q3w))) (z18:Int):Option ((List q3w)) :=
 q0y ((0:Int)≤z18∧z18≤((l7.length:Nat):Int)) (
 q0y (0+z18.toNat≤l7.length) (
 q0y (((l7.drop 0).take z18.toNat).length*16≤140737488355328∧((l7.drop 0).take z18.toNat).length≤140737488355328) (
 q03 (q0o p1 z6) fun x22 =>
 q0y ((((l7.drop 0).take z18.toNat).length+1)*16≤140737488355328∧((l7.drop 0).take z18.toNat).length+1≤140737488355328) (
 q0y ((0:Int)≤z18∧z18≤((l7.length:Nat):Int)) (
 q0y ((0+z18.toNat)+(l7.length - z18.toNat)≤l7.length) (
 q0y (((((l7.drop 0).take z18.toNat)++[x22]).length+((l7.drop (0+z18.toNat)).take (l7.length - z18.toNat)).length)*16≤140737488355328∧(((l7.drop 0).take z18.toNat)++[x22]).length+((l7.drop (0+z18.toNat)).take (l7.length - z18.toNat)).length≤140737488355328) (
 rc1 (IntKind.i64.wrap (z6+1)) ((((l7.drop 0).take z18.toNat)++[x22])++((l7.drop (0+z18.toNat)).take (l7.length - z18.toNat))))))))))
def qdr (p1:List q3w) (z6:Int) (l7:List q3w) (rc1:Int→(List q3w)→Option ((List q3w))):Nat→Int→Option ((List q3w))
 | 0,_=>none
 | m2+1,z17 =>
  q03 (cond (decide (z17 > 0))
   (q03 (q0o l7 (IntKind.i64.wrap (z17 - 1))) fun x29 =>
   q03 (q0o p1 z6) fun x31 =>
   some (decide (x29.Feat > x31.Feat)))
   (some false)) fun b33 =>
  cond b33
   ((qdr p1 z6 l7 rc1 m2) (IntKind.i64.wrap (z17 - 1)))
   (qkc p1 z6 l7 rc1 z17)
def qkb  (l9:List q3w):Option ((List q3w)) :=
 some l9
def qdq (p1:List q3w) (n:Nat):Nat→Int→(List q3w)→Option ((List q3w))
 | 0,_,_=>none
 | m1+1,z6,l7 =>
  cond (decide (z6<(p1.length:Int)))
   (qdr p1 z6 l7 (qdq p1 n m1) n (l7.length:Int))
   (qkb l7)
def qi4 (n:Nat) (p1:List q3w):Option ((List q3w)) :=
 qdq p1 n n 0 ([]:List q3w)
def q7i (z23:Int) (rc1:Int→(List Int)→(List Int)→Option ((List Int)×(List Int))) (l36:List Int) (l37:List Int):Option ((List Int)×(List Int)) :=
 rc1 (IntKind.i64.wrap (z23+1)) l36 l37
def qd5  (l27:List Int) (l28:List Int):Option ((List Int)×(List Int)) :=
 some (l27,l28)
def q4g (p2:List q0z) (r12:List q3w) (self:Int→(List q0z)→(List Int)→(List Int)→Option ((List Int)×(List Int))):Nat→Int→(List Int)→(List Int)→Option ((List Int)×(List Int))
 | 0,_,_,_=>none
 | m1+1,z23,l24,l25 =>
  cond (decide (z23<(r12.length:Int)))
   (q03 (q0o r12 z23) fun x31 =>
   q03 (q0o l24 x31.To) fun x33 =>
   cond (decide (x33<0))
    (q03 (q0o r12 z23) fun x39 =>
    q03 (self x39.To p2 l24 l25) fun r41 =>
    q7i z23 (q4g p2 r12 self m1) r41.1 r41.2)
    (q7i z23 (q4g p2 r12 self m1) l24 l25))
   (qd5 l24 l25)
def qds (n:Nat) (self:Int→(List q0z)→(List Int)→(List Int)→Option ((List Int)×(List Int))) (p1:Int) (p2:List q0z) (p3:List Int) (p5:List Int):Option ((List Int)×(List Int)) :=
 q03 (q0o p3 p1) fun x7 =>
 q0y ((p5.length+1)*8≤140737488355328∧p5.length+1≤140737488355328) (
 q03 (q0o p2 p1) fun x10 =>
 q03 (qi4 n x10.Arcs) fun r12 =>
 q4g p2 r12 self n 0 (p3.set (0+p1.toNat) (p5.length:Int)) (p5++[p1]))
def qai:Nat→Int→(List q0z)→(List Int)→(List Int)→Option ((List Int)×(List Int))
 | 0,_,_,_,_=>none
 | n+1,p1,p2,p3,p5=>qds n (qai n) p1 p2 p3 p5
def qn2 (z26:Int) (l27:List q0z) (rc2:Int→(List q0z)→Option (GFS)) (x34:q0z) (l54:List q3w):Option (GFS) :=
 q0y ((l27.length+1)*32≤140737488355328∧l27.length+1≤140737488355328) (
 rc2 (IntKind.i64.wrap (z26+1)) (l27++[(q0z.mk x34.Typex l54)]))
def qgj (r14:(List Int)×(List Int)) (z26:Int) (l27:List q0z) (rc2:Int→(List q0z)→Option (GFS)) (x34:q0z):Nat→Int→(List q3w)→Option (GFS)
 | 0,_,_=>none
 | m3+1,z52,l53 =>
  cond (decide (z52<(l53.length:Int)))
   (q03 (q0o l53 z52) fun x57 =>
   q03 (q0o r14.1 x57.To) fun x59 =>
   q03 (q0o l53 z52) fun x61 =>
   (qgj r14 z26 l27 rc2 x34 m3) (IntKind.i64.wrap (z52+1)) (l53.set (0+z52.toNat) (q3w.mk x61.Feat x59)))
   (qn2 z26 l27 rc2 x34 l53)
def qn1  (l29:List q0z):Option (GFS) :=
 some (GFS.mk l29)
def qgi (p1:GFS) (n:Nat) (r14:(List Int)×(List Int)):Nat→Int→(List q0z)→Option (GFS)
 | 0,_,_=>none
 | m2+1,z26,l27 =>
  cond (decide (z26<(r14.2.length:Int)))
   (q03 (q0o r14.2 z26) fun x32 =>
   q03 (q0o p1.Nodes x32) fun x34 =>
   q03 (qi4 n x34.Arcs) fun r36 =>
   qgj r14 z26 l27 (qgi p1 n r14 m2) x34 n 0 r36)
   (qn1 l27)
def qn0 (p1:GFS) (p2:Int) (n:Nat) (l12:List Int):Option (GFS) :=
 q03 (qai n p2 p1.Nodes l12 ([]:List Int)) fun r14 =>
 qgi p1 n r14 n 0 ([]:List q0z)
def qn3 (p1:GFS) (p2:Int) (n:Nat):Nat→Int→(List Int)→Option (GFS)
 | 0,_,_=>none
 | m1+1,z9,l10 =>
  cond (decide (z9<(p1.Nodes.length:Int)))
   (q0y ((l10.length+1)*8≤140737488355328∧l10.length+1≤140737488355328) (
   (qn3 p1 p2 n m1) (IntKind.i64.wrap (z9+1)) (l10++[(-1)])))
   (qn0 p1 p2 n l10)
def q93 (z6:Int) (rc1:Int→(List Int)→Option ((List Int))) (l28:List Int):Option ((List Int)) :=
 rc1 (IntKind.i64.wrap (z6+1)) l28
def q62 (z6:Int) (rc1:Int→(List Int)→Option ((List Int))) (x12:q0z):Nat→Int→(List Int)→Option ((List Int))
 | 0,_,_=>none
 | m2+1,z25,l26 =>
  cond (decide (z25<(x12.Arcs.length:Int)))
   (q03 (q0o x12.Arcs z25) fun x31 =>
   q03 (q0o x12.Arcs z25) fun x33 =>
   q0y ((l26.length+2)*8≤140737488355328∧l26.length+2≤140737488355328) (
   (q62 z6 rc1 x12 m2) (IntKind.i64.wrap (z25+1)) (l26++[x31.Feat,x33.To])))
   (q93 z6 rc1 l26)
def q92  (l9:List Int):Option ((List Int)) :=
 some l9
def q37 (p1:GFS) (n:Nat):Nat→Int→(List Int)→Option ((List Int))
 | 0,_,_=>none
 | m1+1,z6,l7 =>
  cond (decide (z6<(p1.Nodes.length:Int)))
   (q03 (q0o p1.Nodes z6) fun x12 =>
   q03 (q0o p1.Nodes z6) fun x14 =>
   q0y ((l7.length+2)*8≤140737488355328∧l7.length+2≤140737488355328) (
   q62 z6 (q37 p1 n m1) x12 n 0 (l7++[x14.Typex,(x12.Arcs.length:Int)])))
   (q92 l7)
def q9v (n:Nat) (p1:GFS):Option ((List Int)) :=
 q37 p1 n n 0 ([(p1.Nodes.length:Int)])
theorem qdp (n:Nat) (p1:GFS) (r:(List Int)) (hF:q9v n p1=some r):EvU Tryz.prog 70 [.agg [.isl false (List.map q07 p1.Nodes)]] ⟨[],0⟩ (fun u _=>u = .isl false (List.map (cI .i64) r)∧Bel 0 u):=by
 unfold q9v at hF
 refine bg1 55 fn70 ?_
 refine go ?_
 refine RS.step (u:=.vl 1 0 0 ([(p1.Nodes.length:Int)].length)) (σ':=⟨[(1,.vec (List.map (cI .i64) ([(p1.Nodes.length:Int)])).flatten 3 1 0),(0,.row [.iM q07 p1.Nodes] 24)],2⟩) rfl (qd3.bslv (cs:=(List.map (cI .i64) [(p1.Nodes.length:Int)]).flatten) Tryz.tb_ok rfl un33.h if3.h rfl rfl rfl rfl rfl rfl rfl rfl) rfl rfl ?_
 refine go ?_
 refine gS (l':=[(1,_),(3,_),(4,_)]) ?_
 refine z0j (fun m tm σ=>∃ z6:Int,∃ l7:List Int,∃ t8:Nat,q37 p1 n m z6 l7=some r∧tm=fr 55 [(1,.ptr 0 0 0),(3,.vl 1 t8 0 l7.length),(4,.i6 z6)]∧σ=⟨[(1,.vec (List.map (cI .i64) l7).flatten 3 1 t8),(0,.row [.iM q07 p1.Nodes] 24)],2⟩) (fun tm σ=>∃ l9:List Int,∃ t10:Nat,q92 l9=some r∧tm=fr 55 [(3,.vl 1 t10 0 l9.length)]∧σ=⟨[(1,.vec (List.map (cI .i64) l9).flatten 3 1 t10),(0,.row [.iM q07 p1.Nodes] 24)],2⟩) n ⟨0,[(p1.Nodes.length:Int)],0,hF,rfl,rfl⟩ ?_ ?_
 rintro _ _ ⟨l9,t10,hF,rfl,rfl⟩
 unfold q92 at hF
 refine go ?_
 obtain rfl:=sI hF
 exact rT (us:=[.vl 1 t10 0 l9.length]) (u:=.iM (cI .i64) l9) (q1v rfl (q2r)) (fR 1 1)
 rintro (_|m1) _ _ ⟨z6,l7,t8,hF,rfl,rfl⟩
 cases hF
 unfold q37 at hF
 refine go ?_
 refine cF hF (fun h11 hF=>?_) (fun h11 hF=>?_)
 refine go ?_
 refine WPU.block ?_
 obtain ⟨x12,h13,hF⟩:=q00 hF
 refine go ?_
 refine RS.ix h13 ?_
 obtain ⟨x14,h15,hF⟩:=q00 hF
 obtain ⟨h16,hF⟩:=q08 hF
 refine go ?_
 refine RS.ix h15 ?_
 refine go ?_
 refine RS.g ?_
 refine RS.q (u:=.vl 1 (t8+1) 0 ((l7++[x14.Typex,(x12.Arcs.length:Int)]).length)) (σ':=⟨[(2,.row [.i6 x14.Typex,.i6 (x12.Arcs.length:Int)] 3),(1,.vec (List.map (cI .i64) (l7++[x14.Typex,(x12.Arcs.length:Int)])).flatten 3 1 (t8+1)),(0,.row [.iM q07 p1.Nodes] 24)],3⟩) rfl (qdk rfl rfl rfl rfl (qlf (cI .i64) ([x14.Typex,(x12.Arcs.length:Int)]) un33.h un33.h if3.h rfl (qbn .i64) rfl (qqc (cI .i64) [x14.Typex,(x12.Arcs.length:Int)] rfl rfl rfl rfl) h16)) ?_
 refine go ?_
 refine gS (l':=[(1,_),(3,_),(4,_),(5,_),(6,_)]) ?_
 refine z0j (fun m tm σ=>∃ z25:Int,∃ l26:List Int,∃ t27:Nat,q62 z6 (q37 p1 n m1) x12 m z25 l26=some r∧tm=fr 55 [(1,.ptr 0 0 0),(3,.vl 1 t27 0 l26.length),(4,.i6 z6),(5,.iM q1w x12.Arcs),(6,.i6 z25)]∧σ=⟨[(2,.row [.i6 x14.Typex,.i6 (x12.Arcs.length:Int)] 3),(1,.vec (List.map (cI .i64) l26).flatten 3 1 t27),(0,.row [.iM q07 p1.Nodes] 24)],3⟩) (fun tm σ=>∃ l28:List Int,∃ t29:Nat,q93 z6 (q37 p1 n m1) l28=some r∧tm=fr 55 [(1,.ptr 0 0 0),(3,.vl 1 t29 0 l28.length),(4,.i6 z6)]∧σ=⟨[(2,.row [.i6 x14.Typex,.i6 (x12.Arcs.length:Int)] 3),(1,.vec (List.map (cI .i64) l28).flatten 3 1 t29),(0,.row [.iM q07 p1.Nodes] 24)],3⟩) n ⟨0,(l7++[x14.Typex,(x12.Arcs.length:Int)]),(t8+1),hF,rfl,rfl⟩ ?_ ?_
 rintro _ _ ⟨l28,t29,hF,rfl,rfl⟩
 unfold q93 at hF
 refine go ?_
 exact lC ⟨_,l28,t29,hF,rfl,rfl⟩
 rintro (_|m2) _ _ ⟨z25,l26,t27,hF,rfl,rfl⟩
 cases hF
 unfold q62 at hF
 refine go ?_
 refine cF hF (fun h30 hF=>?_) (fun h30 hF=>?_)
 refine go ?_
 refine WPU.block ?_
 obtain ⟨x31,h32,hF⟩:=q00 hF
 obtain ⟨x33,h34,hF⟩:=q00 hF
 obtain ⟨h35,hF⟩:=q08 hF
 refine go ?_
 refine z0m Tryz.tb_ok [(0,11)] (by kernel_rfl) ?_
 refine gd ?_
 refine RD.ix h32 ?_
 refine gd ?_
 refine RD.ix h34 ?_
 refine gd ?_
 refine RD.g ?_
 refine RD.act (u:=.vl 1 (t27+1) 0 ((l26++[x31.Feat,x33.To]).length)) (σ':=⟨[(3,.row [.i6 x31.Feat,.i6 x33.To] 3),(2,.row [.i6 x14.Typex,.i6 (x12.Arcs.length:Int)] 3),(1,.vec (List.map (cI .i64) (l26++[x31.Feat,x33.To])).flatten 3 1 (t27+1)),(0,.row [.iM q07 p1.Nodes] 24)],4⟩) rfl (qdk rfl rfl rfl rfl (qlf (cI .i64) ([x31.Feat,x33.To]) un33.h un33.h if3.h rfl (qbn .i64) rfl (qqc (cI .i64) [x31.Feat,x33.To] rfl rfl rfl rfl) h35)) rfl rfl ?_
 refine gd ?_
 refine RD.done ⟨by kernel_rfl,⟨q4f rfl,trivial⟩,?_⟩
 refine go ?_
 exact lC ⟨_,(l26++[x31.Feat,x33.To]),(t27+1),hF,rfl,rfl⟩
 refine go ?_
 exact xC ⟨l26,t27,hF,rfl,rfl⟩
 refine go ?_
 exact xC ⟨l7,t8,hF,rfl,rfl⟩
def q91   : Option (Int) :=
 some 0
def q61 (r3:(List Int)) (r5:(List Int)):Nat→Int→Option (Int)
 | 0,_=>none
 | m1+1,z12 =>
  q03 (cond (decide (z12<(r3.length:Int)))
   (some (decide (z12<(r5.length:Int))))
   (some false)) fun b14 =>
  cond b14
   (q03 (q0o r3 z12) fun x17 =>
   q03 (q0o r5 z12) fun x19 =>
   cond (decide (x17<x19))
    (some (-1))
    (q03 (q0o r3 z12) fun x22 =>
    q03 (q0o r5 z12) fun x24 =>
    cond (decide (x22 > x24))
     (some 1)
     ((q61 r3 r5 m1) (IntKind.i64.wrap (z12+1)))))
   (q91)
def qct (n:Nat) (p1:GFS) (p2:GFS):Option (Int) :=
 q03 (q9v n p1) fun r3 =>
 q03 (q9v n p2) fun r5 =>
 q61 r3 r5 n 0
theorem qka (n:Nat) (p1:GFS) (p2:GFS) (r:Int) (hF:qct n p1 p2=some r):EvU Tryz.prog 50 [.agg [.isl false (List.map q07 p1.Nodes)],.agg [.isl false (List.map q07 p2.Nodes)]] ⟨[],0⟩ (fun u _=>u = .int .i64 r∧Bel 0 u):=by
 unfold qct at hF
 refine bg2 42 fn50 ?_
 obtain ⟨r3,h4,hF⟩:=q00 hF
 refine go ?_
 refine RS.cl rfl (pC (qdp n p1 r3 h4) _) fn70 ?_
 obtain ⟨r5,h6,hF⟩:=q00 hF
 refine go ?_
 refine RS.cl rfl (pC (qdp n p2 r5 h6) _) fn70 ?_
 refine go ?_
 refine gS (l':=[(5,_),(6,_),(7,_)]) ?_
 refine z0j (fun m tm σ=>∃ z12:Int,q61 r3 r5 m z12=some r∧tm=fr 42 [(5,.iM (cI .i64) r3),(6,.iM (cI .i64) r5),(7,.i6 z12)]∧σ=⟨[(1,.row [.iM q07 p2.Nodes] 24),(0,.row [.iM q07 p1.Nodes] 24)],2⟩) (fun tm σ=>q91=some r∧tm=fr 42 []∧σ=⟨[(1,.row [.iM q07 p2.Nodes] 24),(0,.row [.iM q07 p1.Nodes] 24)],2⟩) n ⟨0,hF,rfl,rfl⟩ ?_ ?_
 rintro _ _ ⟨hF,rfl,rfl⟩
 unfold q91 at hF
 exact gx hF
 rintro (_|m1) _ _ ⟨z12,hF,rfl,rfl⟩
 cases hF
 unfold q61 at hF
 obtain ⟨b14,h15,hF⟩:=q00 hF
 refine gn ?_
 refine z0k (fun tm σ=>tm=fr 42 [(5,.iM (cI .i64) r3),(6,.iM (cI .i64) r5),(7,.i6 z12),(21,.bool b14)]∧σ=⟨[(1,.row [.iM q07 p2.Nodes] 24),(0,.row [.iM q07 p1.Nodes] 24)],2⟩) ?_ ?_
 rintro _ _ ⟨rfl,rfl⟩
 refine go ?_
 refine cF hF (fun h16 hF=>?_) (fun h16 hF=>?_)
 refine go ?_
 refine WPU.block ?_
 obtain ⟨x17,h18,hF⟩:=q00 hF
 obtain ⟨x19,h20,hF⟩:=q00 hF
 refine go ?_
 refine z0m Tryz.tb_ok [] (by kernel_rfl) ?_
 refine gd ?_
 refine RD.ix h18 ?_
 refine gd ?_
 refine RD.ix h20 ?_
 refine gd ?_
 refine RD.done ⟨by kernel_rfl,trivial,?_⟩
 refine go ?_
 refine cF hF (fun h21 hF=>?_) (fun h21 hF=>?_)
 exact gx hF
 obtain ⟨x22,h23,hF⟩:=q00 hF
 obtain ⟨x24,h25,hF⟩:=q00 hF
 refine go ?_
 refine z0m Tryz.tb_ok [] (by kernel_rfl) ?_
 refine gd ?_
 refine RD.ix h23 ?_
 refine gd ?_
 refine RD.ix h25 ?_
 refine gd ?_
 refine RD.done ⟨by kernel_rfl,trivial,?_⟩
 refine go ?_
 refine cF hF (fun h26 hF=>?_) (fun h26 hF=>?_)
 exact gx hF
 refine go ?_
 exact lC ⟨_,hF,rfl,rfl⟩
 refine go ?_
 exact xC ⟨hF,rfl,rfl⟩
 rcases gB h15 with ⟨h13,h15⟩ | ⟨h13,h15⟩
 exact gy h15
 exact gy h15
def qf9 (n:Nat) (p1:GFS) (p2:GFS):Option (Bool) :=
 q03 (qct n p1 p2) fun r3 =>
 some (r3 == 0)
theorem q5d (n:Nat) (p1:GFS) (p2:GFS) (r:Bool) (hF:qf9 n p1 p2=some r):EvU Tryz.prog 21 [.agg [.isl false (List.map q07 p1.Nodes)],.agg [.isl false (List.map q07 p2.Nodes)]] ⟨[],0⟩ (fun u _=>u = .bool r∧Bel 0 u):=by
 unfold qf9 at hF
 refine bg2 9 fn21 ?_
 obtain ⟨r3,h4,hF⟩:=q00 hF
 refine go ?_
 refine RS.cl rfl (pC (qka n p1 p2 r3 h4) _) fn50 ?_
 exact gx hF
def qdl   : Option (Int×Bool) :=
 some (0,false)
def qb2 (p3:Int) (x4:q0z):Nat→Int→Option (Int×Bool)
 | 0,_=>none
 | m1+1,z11 =>
  cond (decide (z11<(x4.Arcs.length:Int)))
   (q03 (q0o x4.Arcs z11) fun x13 =>
   cond (x13.Feat == p3)
    (some (x13.To,true))
    ((qb2 p3 x4 m1) (IntKind.i64.wrap (z11+1))))
   (qdl)
def qk4 (n:Nat) (p1:GFS) (p2:Int) (p3:Int):Option (Int×Bool) :=
 q03 (q0o p1.Nodes p2) fun x4 =>
 qb2 p3 x4 n 0
theorem qq0 (n:Nat) (p1:GFS) (p2:Int) (p3:Int) (r:Int×Bool) (hF:qk4 n p1 p2 p3=some r):EvU Tryz.prog 59 [.agg [.isl false (List.map q07 p1.Nodes)],.int .i64 p2,.int .i64 p3] ⟨[],0⟩ (fun u _=>u = .tup [.int .i64 r.1,.bool r.2]∧Bel 0 u):=by
 unfold qk4 at hF
 refine bg3 28 fn59 ?_
 obtain ⟨x4,h5,hF⟩:=q00 hF
 refine go ?_
 refine RS.ix h5 ?_
 refine go ?_
 refine gS (l':=[(2,_),(15,_),(16,_),(17,_)]) ?_
 refine z0j (fun m tm σ=>∃ z11:Int,qb2 p3 x4 m z11=some r∧tm=fr 28 [(2,.i6 p3),(15,.iM q1w x4.Arcs),(16,.i6 (x4.Arcs.length:Int)),(17,.i6 z11)]∧σ=⟨[(0,.row [.iM q07 p1.Nodes] 24)],1⟩) (fun tm σ=>qdl=some r∧tm=fr 28 []∧σ=⟨[(0,.row [.iM q07 p1.Nodes] 24)],1⟩) n ⟨0,hF,rfl,rfl⟩ ?_ ?_
 rintro _ _ ⟨hF,rfl,rfl⟩
 unfold qdl at hF
 refine go ?_
 obtain rfl:=sI hF
 exact rt2 rfl rfl rfl rfl rfl
 rintro (_|m1) _ _ ⟨z11,hF,rfl,rfl⟩
 cases hF
 unfold qb2 at hF
 refine go ?_
 refine cF hF (fun h12 hF=>?_) (fun h12 hF=>?_)
 refine go ?_
 refine WPU.block ?_
 obtain ⟨x13,h14,hF⟩:=q00 hF
 refine go ?_
 refine RS.ix h14 ?_
 refine go ?_
 refine cF hF (fun h15 hF=>?_) (fun h15 hF=>?_)
 refine go ?_
 obtain rfl:=sI hF
 exact rt2 rfl rfl rfl rfl rfl
 refine go ?_
 exact lC ⟨_,hF,rfl,rfl⟩
 refine go ?_
 exact xC ⟨hF,rfl,rfl⟩
def qhf  (z10:Int):Option (Int×Bool) :=
 some (z10,true)
def qe7 (p1:GFS) (p2:List Int) (n:Nat):Nat→Int→Int→Option (Int×Bool)
 | 0,_,_=>none
 | m1+1,z8,z9 =>
  cond (decide (z9<(p2.length:Int)))
   (q03 (q0o p2 z9) fun x12 =>
   q03 (qk4 n p1 z8 x12) fun r14 =>
   cond (!r14.2)
    (some (0,false))
    ((qe7 p1 p2 n m1) r14.1 (IntKind.i64.wrap (z9+1))))
   (qhf z8)
def qmp (n:Nat) (p1:GFS) (p2:List Int):Option (Int×Bool) :=
 qe7 p1 p2 n n 0 0
theorem qoj (n:Nat) (p1:GFS) (p2:List Int) (r:Int×Bool) (hF:qmp n p1 p2=some r):EvU Tryz.prog 30 [.agg [.isl false (List.map q07 p1.Nodes)],.isl false (List.map (cI .i64) p2)] ⟨[],0⟩ (fun u _=>u = .tup [.int .i64 r.1,.bool r.2]∧Bel 0 u):=by
 unfold qmp at hF
 refine bg2 29 fn30 ?_
 refine go ?_
 refine gS (l':=[(2,_),(6,_),(11,_),(12,_),(13,_)]) ?_
 refine z0j (fun m tm σ=>∃ z8:Int,∃ z9:Int,qe7 p1 p2 n m z8 z9=some r∧tm=fr 29 [(2,.ptr 0 0 0),(6,.i6 z8),(11,.iM (cI .i64) p2),(12,.i6 (p2.length:Int)),(13,.i6 z9)]∧σ=⟨[(0,.row [.iM q07 p1.Nodes] 24)],1⟩) (fun tm σ=>∃ z10:Int,qhf z10=some r∧tm=fr 29 [(6,.i6 z10)]∧σ=⟨[(0,.row [.iM q07 p1.Nodes] 24)],1⟩) n ⟨0,0,hF,rfl,rfl⟩ ?_ ?_
 rintro _ _ ⟨z10,hF,rfl,rfl⟩
 unfold qhf at hF
 refine go ?_
 obtain rfl:=sI hF
 exact rt2 rfl rfl rfl rfl rfl
 rintro (_|m1) _ _ ⟨z8,z9,hF,rfl,rfl⟩
 cases hF
 unfold qe7 at hF
 refine go ?_
 refine cF hF (fun h11 hF=>?_) (fun h11 hF=>?_)
 refine go ?_
 refine WPU.block ?_
 obtain ⟨x12,h13,hF⟩:=q00 hF
 refine go ?_
 refine RS.ix h13 ?_
 obtain ⟨r14,h15,hF⟩:=q00 hF
 refine go ?_
 refine RS.cl rfl (pC (qq0 n p1 z8 x12 r14 h15) _) fn59 ?_
 refine go ?_
 refine cF hF (fun h16 hF=>?_) (fun h16 hF=>?_)
 refine go ?_
 obtain rfl:=sI hF
 exact rt2 rfl rfl rfl rfl rfl
 refine go ?_
 exact lC ⟨r14.1,(IntKind.i64.wrap (z9+1)),hF,rfl,rfl⟩
 refine go ?_
 exact xC ⟨z8,hF,rfl,rfl⟩
def qk3 (n:Nat) (p1:GFS) (p2:List Int):Option (Int×Bool) :=
 q03 (qmp n p1 p2) fun r3 =>
 cond (!r3.2)
  (some (0,false))
  (q03 (q0o p1.Nodes r3.1) fun x6 =>
  some (x6.Typex,true))
theorem qpz (n:Nat) (p1:GFS) (p2:List Int) (r:Int×Bool) (hF:qk3 n p1 p2=some r):EvU Tryz.prog 36 [.agg [.isl false (List.map q07 p1.Nodes)],.isl false (List.map (cI .i64) p2)] ⟨[],0⟩ (fun u _=>u = .tup [.int .i64 r.1,.bool r.2]∧Bel 0 u):=by
 unfold qk3 at hF
 refine bg2 22 fn36 ?_
 obtain ⟨r3,h4,hF⟩:=q00 hF
 refine go ?_
 refine RS.cl rfl (pC (qoj n p1 p2 r3 h4) _) fn30 ?_
 refine go ?_
 refine cF hF (fun h5 hF=>?_) (fun h5 hF=>?_)
 refine go ?_
 obtain rfl:=sI hF
 exact rt2 rfl rfl rfl rfl rfl
 obtain ⟨x6,h7,hF⟩:=q00 hF
 refine go ?_
 refine RS.ix h7 ?_
 refine go ?_
 obtain rfl:=sI hF
 exact rt2 rfl rfl rfl rfl rfl
def qbg (n:Nat) (p1:GFS):Option ((List q0z)) :=
 some p1.Nodes
theorem qia (n:Nat) (p1:GFS) (r:(List q0z)) (hF:qbg n p1=some r):EvU Tryz.prog 46 [.agg [.isl false (List.map q07 p1.Nodes)]] ⟨[],0⟩ (fun u σ'=>∃ t:Nat→Nat,u = .fn (.func 69) [] [.iptr [.isl false (List.map q07 r)]]∧σ'=⟨[],0⟩):=by
 unfold qbg at hF
 refine bg1 4 fn46 ?_
 refine go ?_
 refine RS.q rfl (op_fun rfl rfl) ?_
 refine go ?_
 obtain rfl:=sI hF
 exact ⟨.inr rfl,[.fn (.func 69) [] [.ptr 0 0 0]],q1v rfl (q2r),.fn (.func 69) [] [.iptr [.iM q07 p1.Nodes]],⟨[],0⟩,NL,Gh.trans (z0l 0 1) (Gh.to (n1:=0) [] rfl rfl NL NL BUL.h BH.h),stF [],rfl,rfl⟩
def q64 (n:Nat) (p1:List Int):Option ((List Int)) :=
 qz9 p1 fun b2 =>
 cond b2
  (some ([]:List Int))
  (q0y (p1.length*8≤140737488355328∧p1.length≤140737488355328) (
  some p1))
theorem qb6 (n:Nat) (p1:List Int) (r:(List Int)) (hF:q64 n p1=some r):EvU Tryz.prog 48 [.isl false (List.map (cI .i64) p1)] ⟨[],0⟩ (fun u σ'=>∃ t,u = .vl 1 t 0 r.length∧σ'=⟨[(1,.vec (List.map (cI .i64) r).flatten 3 1 t)],1+1⟩):=by
 unfold q64 at hF
 refine bg1 8 fn48 ?_
 refine go ?_
 refine RS.nilq rfl rfl un33.h rfl rfl rfl rfl ?_
 intro b2 h3
 replace hF:=qry hF b2 fun h=>List.map_eq_nil_iff.1 (h3 h)
 refine go ?_
 refine cF hF (fun h4 hF=>?_) (fun h4 hF=>?_)
 refine go ?_
 obtain rfl:=sI hF
 exact ⟨.inr rfl,[.nils],q1v rfl q2r,.vl 1 0 0 0,⟨[(1,.vec (List.map (cI .i64) ([]:List Int)).flatten 3 1 0)],2⟩,NZ,Gh.trans (Gh.fresh (tm:=[.nils]) 3 1 (by decide) NZ) (Gh.trans (Gh.nilvec (tm:=[.nils]) 0 3 1 (by decide) NZ rfl) (Gh.trans (Gh.only (fun k=>Nat.beq k 1)) (Gh.to (n1:=2) [] rfl rfl NZ NL BUL.h BH.h))),0,rfl,rfl⟩
 obtain ⟨h5,hF⟩:=q08 hF
 refine go ?_
 refine RS.q (u:=.sl 0 0 0 0) (σ':=⟨[(0,.row [] 3)],1⟩) rfl (q99 un33.h if3.h rfl rfl rfl rfl rfl rfl rfl) ?_
 refine go ?_
 refine RS.q (u:=.vl 1 0 0 p1.length) (σ':=⟨[(1,.vec (List.map (cI .i64) p1).flatten 3 1 0),(0,.row [] 3)],2⟩) rfl (qdk rfl rfl rfl rfl (qpc (cI .i64) p1 un33.h un33.h if3.h rfl rfl rfl (qhq (cI .i64) (qbn .i64)) h5)) ?_
 refine go ?_
 obtain rfl:=sI hF
 exact ⟨.inr rfl,[.vl 1 0 0 p1.length],q1v rfl q2r,.vl 1 0 0 p1.length,⟨[(1,.vec (List.map (cI .i64) p1).flatten 3 1 0)],2⟩,NZ,Gh.trans (Gh.only (fun k=>Nat.beq k 1)) (Gh.to (n1:=2) [] rfl rfl NZ NL BUL.h BH.h),0,rfl,rfl⟩
def q9f (z51:Int) (rc4:Int→(List (List Int))→(List Int)→(List Bool)→Option ((List (List Int)))) (l68:List (List Int)) (l70:List Int) (l72:List Bool):Option ((List (List Int))) :=
 rc4 (IntKind.i64.wrap (z51+1)) l68 l70 l72
def qcb (z17:Int) (l23:List (List Int)) (rc2:Int→(List (List Int))→(List Int)→(List Bool)→(List (List Int))→Option ((List (List Int)))) (x32:Int) (x34:List Int) (l57:List (List Int)) (l59:List Int) (l61:List Bool):Option ((List (List Int))) :=
 rc2 (IntKind.i64.wrap (z17+1)) l57 l59 l61 (l23.set x32.toNat x34)
def q54 (n:Nat) (r3:(List q0z)) (z17:Int) (l23:List (List Int)) (rc2:Int→(List (List Int))→(List Int)→(List Bool)→(List (List Int))→Option ((List (List Int)))) (x32:Int) (x34:List Int) (x38:q0z):Nat→Int→(List (List Int))→(List Int)→(List Bool)→Option ((List (List Int)))
 | 0,_,_,_,_=>none
 | m4+1,z51,l52,l54,l56 =>
  cond (decide (z51<(x38.Arcs.length:Int)))
   (q03 (q0o x38.Arcs z51) fun x63 =>
   q03 (qsa l56 0 ((r3.length:Int).toNat) x63.To) fun x65 =>
   cond (!x65)
    (q03 (qsa l56 0 ((r3.length:Int).toNat) x63.To) fun x73 =>
    q0y ((l54.length+1)*8≤140737488355328∧l54.length+1≤140737488355328) (
    q03 (q0o l52 z17) fun x76 =>
    q03 (q64 n x76) fun r78 =>
    q0y ((r78.length+([x63.Feat]).length)*8≤140737488355328∧r78.length+([x63.Feat]).length≤140737488355328) (
    q0y ((l52.length+1)*24≤140737488355328∧l52.length+1≤140737488355328) (
    q9f z51 (q54 n r3 z17 l23 rc2 x32 x34 x38 m4) (l52++[(r78++[x63.Feat])]) (l54++[x63.To]) (l56.set x63.To.toNat true)))))
    (q9f z51 (q54 n r3 z17 l23 rc2 x32 x34 x38 m4) l52 l54 l56))
   (qcb z17 l23 rc2 x32 x34 l52 l54 l56)
def qcc (n:Nat) (r3:(List q0z)) (z17:Int) (l18:List (List Int)) (l20:List Int) (l22:List Bool) (l23:List (List Int)) (rc2:Int→(List (List Int))→(List Int)→(List Bool)→(List (List Int))→Option ((List (List Int)))) (x32:Int) (x34:List Int)  : Option ((List (List Int))) :=
 q03 (q0o l20 z17) fun x36 =>
 q03 (q0o r3 x36) fun x38 =>
 q54 n r3 z17 l23 rc2 x32 x34 x38 n 0 l18 l20 l22
def qca (p1:GFS) (l24:List (List Int)) (l26:List Int) (l28:List Bool) (l29:List (List Int)):Option ((List (List Int))) :=
 q0y ((p1.Nodes.length:Int).toNat=l29.length) (
 some l29)
def q39 (p1:GFS) (n:Nat) (r3:(List q0z)):Nat→Int→(List (List Int))→(List Int)→(List Bool)→(List (List Int))→Option ((List (List Int)))
 | 0,_,_,_,_,_=>none
 | m2+1,z17,l18,l20,l22,l23 =>
  cond (decide (z17<(l20.length:Int)))
   (q03 (q0o l20 z17) fun x32 =>
   q03 (q0o l18 z17) fun x34 =>
   q03 (qsa l23 0 ((p1.Nodes.length:Int).toNat) x32) fun x82 =>
   qcc n r3 z17 l18 l20 l22 l23 (q39 p1 n r3 m2) x32 x34)
   (qca p1 l18 l20 l22 l23)
def qe8 (n:Nat) (p1:GFS):Option ((List (List Int))) :=
 q0y (0≤(p1.Nodes.length:Int)∧24*(p1.Nodes.length:Int).toNat≤281474976710656∧(p1.Nodes.length:Int)≤281474976710656) (
 q03 (qbg n p1) fun r3 =>
 q0y (0≤(r3.length:Int)∧1*(r3.length:Int).toNat≤281474976710656∧(r3.length:Int)≤281474976710656) (
 q03 (qsa (List.replicate (r3.length:Int).toNat false) 0 ((r3.length:Int).toNat) 0) fun x7 =>
 q39 p1 n r3 n 0 ([[]]:List (List Int)) ([0]) ((List.replicate (r3.length:Int).toNat false).set (0:Int).toNat true) (List.replicate (p1.Nodes.length:Int).toNat [])))
theorem qb0 (n:Nat) (p1:GFS) (r:(List (List Int))) (hF:qe8 n p1=some r):EvU Tryz.prog 15 [.agg [.isl false (List.map q07 p1.Nodes)]] ⟨[],0⟩ (fun u _=>u = .isl false (List.map (cL (cI .i64)) r)∧Bel 0 u):=by
 unfold qe8 at hF
 refine EvU.of_bodyM Tryz.tb_ok fn15 rfl ?_
 refine WPU.ghost (tm':=fr 19 [(0,.agg [.iM q07 p1.Nodes])]) (z0t NL) NL ?_
 obtain ⟨h2,hF⟩:=q08 hF
 refine go ?_
 refine RS.q (u:=.sl 1 0 ((p1.Nodes.length:Int).toNat) ((p1.Nodes.length:Int).toNat)) (σ':=⟨[(1,.row (List.map (cL (cI .i64)) (List.replicate (p1.Nodes.length:Int).toNat [])).flatten 33),(0,.row [.iM q07 p1.Nodes] 24)],2⟩) rfl (quu (cL (cI .i64)) [] rfl rfl un28.h if33.h rfl rfl rfl rfl h2) ?_
 obtain ⟨r3,h4,hF⟩:=q00 hF
 refine go ?_
 refine RS.callx (R:=fun u σ'=>∃ t5:Nat→Nat,u = .fn (.func 69) [] [.iptr [.iM q07 r3]]∧σ'=⟨[(2,.row [.sl 1 0 ((p1.Nodes.length:Int).toNat) ((p1.Nodes.length:Int).toNat)] 28),(1,.row (List.map (cL (cI .i64)) (List.replicate (p1.Nodes.length:Int).toNat [])).flatten 33),(0,.row [.iM q07 p1.Nodes] 24)],3⟩) (args:=[.agg [.iM q07 p1.Nodes]]) rfl (qjz rfl rfl fn46 hb46 rfl rfl) (EvU.st [] (qia n p1 r3 h4 )) rfl rfl ?_
 rintro _ _ ⟨t5,rfl,rfl⟩
 refine go ?_
 refine WPU.block ?_
 refine gn ?_
 refine gS (l':=[(3,_),(11,_)]) ?_
 refine WPU.range Tryz.tb_ok rfl (fun _ h=>h) (q2m rfl) fn69 rfl rfl ?_
 intro ly1 fn1 tp1 D1
 refine WPU.ghost (tm':=fr 76 [(0,.fn (.yield ly1) [] []),(1,.iptr [.iM q07 r3])]) (z0t NL) (Nat.le_refl _) ?_
 obtain ⟨h6,hF⟩:=q08 hF
 refine go ?_
 refine RS.q (u:=.sl 3 0 ((r3.length:Int).toNat) ((r3.length:Int).toNat)) (σ':=⟨[(3,.row (List.map cB (List.replicate (r3.length:Int).toNat false)).flatten 4),(2,.row [.sl 1 0 ((p1.Nodes.length:Int).toNat) ((p1.Nodes.length:Int).toNat)] 28),(1,.row (List.map (cL (cI .i64)) (List.replicate (p1.Nodes.length:Int).toNat [])).flatten 33),(0,.row [.iM q07 p1.Nodes] 24)],4⟩) rfl (quu cB false rfl rfl un75.h if4.h rfl rfl rfl rfl h6) ?_
 obtain ⟨x7,h8,hF⟩:=q00 hF
 refine go ?_
 refine RS.q rfl (qbd rfl rfl (qs9 un75.h (q2l if4.h) rfl h8)) (RS.opn (u:=.junk) (σ':=⟨[(3,.row (List.map cB ((List.replicate (r3.length:Int).toNat false).set (0:Int).toNat true)).flatten 4),(2,.row [.sl 1 0 ((p1.Nodes.length:Int).toNat) ((p1.Nodes.length:Int).toNat)] 28),(1,.row (List.map (cL (cI .i64)) (List.replicate (p1.Nodes.length:Int).toNat [])).flatten 33),(0,.row [.iM q07 p1.Nodes] 24)],4⟩) rfl (qxp cB (q2l if4.h) qyi rfl rfl rfl rfl rfl rfl h8 rfl) rfl ?_)
 refine go ?_
 refine RS.step (u:=.vl 4 0 0 ([0].length)) (σ':=⟨[(4,.vec (List.map (cI .i64) ([0])).flatten 3 1 0),(3,.row (List.map cB ((List.replicate (r3.length:Int).toNat false).set (0:Int).toNat true)).flatten 4),(2,.row [.sl 1 0 ((p1.Nodes.length:Int).toNat) ((p1.Nodes.length:Int).toNat)] 28),(1,.row (List.map (cL (cI .i64)) (List.replicate (p1.Nodes.length:Int).toNat [])).flatten 33),(0,.row [.iM q07 p1.Nodes] 24)],5⟩) rfl (qd3.bslv (cs:=(List.map (cI .i64) [0]).flatten) Tryz.tb_ok rfl un33.h if3.h rfl rfl rfl rfl rfl rfl rfl rfl) rfl rfl (RS.step (u:=.vl 5 0 0 (([[]]:List (List Int)).length)) (σ':=⟨[(5,.vec (List.map (cL (cI .i64)) ([[]]:List (List Int))).flatten 33 1 0),(4,.vec (List.map (cI .i64) ([0])).flatten 3 1 0),(3,.row (List.map cB ((List.replicate (r3.length:Int).toNat false).set (0:Int).toNat true)).flatten 4),(2,.row [.sl 1 0 ((p1.Nodes.length:Int).toNat) ((p1.Nodes.length:Int).toNat)] 28),(1,.row (List.map (cL (cI .i64)) (List.replicate (p1.Nodes.length:Int).toNat [])).flatten 33),(0,.row [.iM q07 p1.Nodes] 24)],6⟩) rfl (qd3.bslw (cs0:=[.nils]) (cs:=(List.map (cL (cI .i64)) ([[]]:List (List Int))).flatten) Tryz.tb_ok rfl un28.h if33.h rfl rfl rfl rfl rfl (.cons (.nil false) .nil) rfl rfl rfl) rfl rfl ?_)
 refine go ?_
 refine gS (l':=[(0,_),(1,_),(3,_),(4,_),(5,_),(6,_)]) ?_
 refine z0j (fun m tm σ=>∃ z17:Int,∃ l18:List (List Int),∃ t19:Nat,∃ l20:List Int,∃ t21:Nat,∃ l22:List Bool,∃ l23:List (List Int),q39 p1 n r3 m z17 l18 l20 l22 l23=some r∧tm=fr 76 [(0,.fn (.yield ly1) [] []),(1,.iptr [.iM q07 r3]),(3,.sl 3 0 ((r3.length:Int).toNat) ((r3.length:Int).toNat)),(4,.vl 4 t21 0 l20.length),(5,.vl 5 t19 0 l18.length),(6,.i6 z17)]∧σ=⟨[(5,.vec (List.map (cL (cI .i64)) l18).flatten 33 1 t19),(4,.vec (List.map (cI .i64) l20).flatten 3 1 t21),(3,.row (List.map cB l22).flatten 4),(2,.row [.sl 1 0 ((p1.Nodes.length:Int).toNat) ((p1.Nodes.length:Int).toNat)] 28),(1,.row (List.map (cL (cI .i64)) l23).flatten 33),(0,.row [.iM q07 p1.Nodes] 24)],6⟩) (fun tm σ=>∃ l24:List (List Int),∃ t25:Nat,∃ l26:List Int,∃ t27:Nat,∃ l28:List Bool,∃ l29:List (List Int),qca p1 l24 l26 l28 l29=some r∧tm=fr 76 []∧σ=⟨[(5,.vec (List.map (cL (cI .i64)) l24).flatten 33 1 t25),(4,.vec (List.map (cI .i64) l26).flatten 3 1 t27),(3,.row (List.map cB l28).flatten 4),(2,.row [.sl 1 0 ((p1.Nodes.length:Int).toNat) ((p1.Nodes.length:Int).toNat)] 28),(1,.row (List.map (cL (cI .i64)) l29).flatten 33),(0,.row [.iM q07 p1.Nodes] 24)],6⟩) n ⟨0,([[]]:List (List Int)),0,[0],0,((List.replicate (r3.length:Int).toNat false).set (0:Int).toNat true),(List.replicate (p1.Nodes.length:Int).toNat []),hF,rfl,rfl⟩ ?_ ?_
 rintro _ _ ⟨l24,t25,l26,t27,l28,l29,hF,rfl,rfl⟩
 unfold qca at hF
 refine gn ?_
 refine ⟨.inl rfl,?_⟩
 obtain ⟨h30,hF⟩:=q08 hF
 refine go ?_
 obtain rfl:=sI hF
 exact ⟨.inr rfl,[.sl 1 0 ((p1.Nodes.length:Int).toNat) ((p1.Nodes.length:Int).toNat)],q1v rfl (q2r),.iM (cL (cI .i64)) l29,⟨[],0⟩,Nat.le_refl _,Gh.trans (Gh.fz (tm':=[.iM (cL (cI .i64)) l29]) (h':=[(5,.vec (List.map (cL (cI .i64)) l24).flatten 33 1 t25),(4,.vec (List.map (cI .i64) l26).flatten 3 1 t27),(3,.row (List.map cB l28).flatten 4),(2,.row [.iM (cL (cI .i64)) l29] 28),(0,.row [.iM q07 p1.Nodes] 24)]) 1 (.row (List.map (cL (cI .i64)) l29).flatten 33) 1 rfl (by simp) (by simp only [qkt,qh6,qaq,qlq,qjh,qls,qh9,qjk,qjj,qji,qh8,qlr,qo5,qlp,qlt,qs8,qmh,qwx (qdd (cI .i64)) h30,q5h _ _ _ (q7t 1 (fun q=>qt6 _ (fun q=>qep _ .i64 q) q) l24),q5h _ _ _ (q7t 1 (fun q=>qep _ .i64 q) l26),q5h _ _ _ (q7t 1 (fun q=>qt5 _ q) l28)]) (by simp only [fzH,fzB,ug,Nat.beq,cond_true,cond_false,qkt,qh6,qaq,qlq,qjh,qls,qh9,qjk,qjj,qji,qh8,qlr,qo5,qlp,qlt,qs8,qmh,qwx (qdd (cI .i64)) h30,q5h _ _ _ (q7t 1 (fun q=>qt6 _ (fun q=>qep _ .i64 q) q) l24),q5h _ _ _ (q7t 1 (fun q=>qep _ .i64 q) l26),q5h _ _ _ (q7t 1 (fun q=>qt5 _ q) l28)])) (z0s (.iM (cL (cI .i64)) l29) rfl),rfl,BU.h⟩
 rintro (_|m2) _ _ ⟨z17,l18,t19,l20,t21,l22,l23,hF,rfl,rfl⟩
 cases hF
 unfold q39 at hF
 refine go ?_
 refine cF hF (fun h31 hF=>?_) (fun h31 hF=>?_)
 refine go ?_
 refine WPU.block ?_
 obtain ⟨x32,h33,hF⟩:=q00 hF
 obtain ⟨x34,h35,hF⟩:=q00 hF
 refine go ?_
 refine WPU.drawS Tryz.tb_ok 9 (by kernel_rfl) rfl (by kernel_rfl) ?_
 refine gd ?_
 refine RD.q rfl (qbd rfl rfl (qi9 (cI .i64) un33.h (q2l if3.h) (by decide) (qbn .i64) (vo rfl) h33)) ?_
 refine RD.q rfl (qa5 (cI .i64) (fun x=>.i6 x) un3.h rfl (fun _=>rfl) rfl rfl h33) ?_
 refine gd ?_
 refine RD.q rfl (qbd rfl rfl (qi9 (cL (cI .i64)) un28.h (q2l if33.h) (by decide) (qdd (cI .i64)) (vo rfl) h35)) ?_
 refine RD.q rfl (qa5 (cL (cI .i64)) (fun x=>.iM (cI .i64) x) un33.h rfl (fun _=>rfl) rfl rfl h35) ?_
 refine RD.done ⟨by kernel_rfl,?_⟩
 refine RS.yield (tmx:=fr 19 [(3,.ptr 2 0 0),(11,.fn (.func 69) [] [.iptr [.iM q07 r3]]),(12,.i6 x32),(13,.iM (cI .i64) x34)]) rfl rfl rfl rfl rfl rfl rfl rfl (setP2 rfl rfl) rfl rfl ?_
 refine gr ?_
 refine gr ?_
 refine z0k (fun tm σ=>qcc n r3 z17 l18 l20 l22 l23 (q39 p1 n r3 m2) x32 x34=some r∧tm=fr 19 []∧σ=⟨[(5,.vec (List.map (cL (cI .i64)) l18).flatten 33 1 t19),(4,.vec (List.map (cI .i64) l20).flatten 3 1 t21),(3,.row (List.map cB l22).flatten 4),(2,.row [.sl 1 0 ((p1.Nodes.length:Int).toNat) ((p1.Nodes.length:Int).toNat)] 28),(1,.row (List.map (cL (cI .i64)) (l23.set x32.toNat x34)).flatten 33),(0,.row [.iM q07 p1.Nodes] 24)],6⟩) ?_ ?_
 rintro _ _ ⟨hF,rfl,rfl⟩
 unfold qcc at hF
 refine ⟨rfl,?_⟩
 refine go ?_
 refine WPU.condS (t:=false) rfl (fun hc=>by cases hc) (fun _=>?_)
 obtain ⟨x36,h37,hF⟩:=q00 hF
 obtain ⟨x38,h39,hF⟩:=q00 hF
 refine go ?_
 refine z0m Tryz.tb_ok [] (by kernel_rfl) ?_
 refine gd ?_
 refine RD.q rfl (qbd rfl rfl (qi9 (cI .i64) un33.h (q2l if3.h) (by decide) (qbn .i64) (vo rfl) h37)) ?_
 refine RD.q rfl (qa5 (cI .i64) (fun x=>.i6 x) un3.h rfl (fun _=>rfl) rfl rfl h37) ?_
 refine RD.ix h39 ?_
 refine gd ?_
 refine RD.done ⟨by kernel_rfl,trivial,?_⟩
 refine go ?_
 refine gS (l':=[(0,_),(1,_),(3,_),(4,_),(5,_),(6,_),(42,_),(43,_),(44,_)]) ?_
 refine z0j (fun m tm σ=>∃ z51:Int,∃ l52:List (List Int),∃ t53:Nat,∃ l54:List Int,∃ t55:Nat,∃ l56:List Bool,q54 n r3 z17 l23 (q39 p1 n r3 m2) x32 x34 x38 m z51 l52 l54 l56=some r∧tm=fr 76 [(0,.fn (.yield ly1) [] []),(1,.iptr [.iM q07 r3]),(3,.sl 3 0 ((r3.length:Int).toNat) ((r3.length:Int).toNat)),(4,.vl 4 t55 0 l54.length),(5,.vl 5 t53 0 l52.length),(6,.i6 z17),(42,.iM q1w x38.Arcs),(43,.i6 (x38.Arcs.length:Int)),(44,.i6 z51)]∧σ=⟨[(5,.vec (List.map (cL (cI .i64)) l52).flatten 33 1 t53),(4,.vec (List.map (cI .i64) l54).flatten 3 1 t55),(3,.row (List.map cB l56).flatten 4),(2,.row [.sl 1 0 ((p1.Nodes.length:Int).toNat) ((p1.Nodes.length:Int).toNat)] 28),(1,.row (List.map (cL (cI .i64)) (l23.set x32.toNat x34)).flatten 33),(0,.row [.iM q07 p1.Nodes] 24)],6⟩) (fun tm σ=>∃ l57:List (List Int),∃ t58:Nat,∃ l59:List Int,∃ t60:Nat,∃ l61:List Bool,qcb z17 l23 (q39 p1 n r3 m2) x32 x34 l57 l59 l61=some r∧tm=fr 76 [(0,.fn (.yield ly1) [] []),(1,.iptr [.iM q07 r3]),(3,.sl 3 0 ((r3.length:Int).toNat) ((r3.length:Int).toNat)),(4,.vl 4 t60 0 l59.length),(5,.vl 5 t58 0 l57.length),(6,.i6 z17)]∧σ=⟨[(5,.vec (List.map (cL (cI .i64)) l57).flatten 33 1 t58),(4,.vec (List.map (cI .i64) l59).flatten 3 1 t60),(3,.row (List.map cB l61).flatten 4),(2,.row [.sl 1 0 ((p1.Nodes.length:Int).toNat) ((p1.Nodes.length:Int).toNat)] 28),(1,.row (List.map (cL (cI .i64)) (l23.set x32.toNat x34)).flatten 33),(0,.row [.iM q07 p1.Nodes] 24)],6⟩) n ⟨0,l18,t19,l20,t21,l22,hF,rfl,rfl⟩ ?_ ?_
 rintro _ _ ⟨l57,t58,l59,t60,l61,hF,rfl,rfl⟩
 unfold qcb at hF
 refine go ?_
 exact lC ⟨_,l57,t58,l59,t60,l61,(l23.set x32.toNat x34),hF,rfl,rfl⟩
 rintro (_|m4) _ _ ⟨z51,l52,t53,l54,t55,l56,hF,rfl,rfl⟩
 cases hF
 unfold q54 at hF
 refine go ?_
 refine cF hF (fun h62 hF=>?_) (fun h62 hF=>?_)
 refine go ?_
 refine WPU.block ?_
 obtain ⟨x63,h64,hF⟩:=q00 hF
 refine go ?_
 refine RS.ix h64 ?_
 obtain ⟨x65,h66,hF⟩:=q00 hF
 refine go ?_
 refine RS.q rfl (qbd rfl rfl (qs9 un75.h (q2l if4.h) rfl h66)) (RS.q (u:=.bool x65) rfl (qyh cB (fun x=>.bool x) un4.h rfl (fun _=>rfl) rfl rfl h66) ?_)
 refine gn ?_
 refine z0k (fun tm σ=>∃ l68:List (List Int),∃ t69:Nat,∃ l70:List Int,∃ t71:Nat,∃ l72:List Bool,q9f z51 (q54 n r3 z17 l23 (q39 p1 n r3 m2) x32 x34 x38 m4) l68 l70 l72=some r∧tm=fr 76 [(0,.fn (.yield ly1) [] []),(1,.iptr [.iM q07 r3]),(3,.sl 3 0 ((r3.length:Int).toNat) ((r3.length:Int).toNat)),(4,.vl 4 t71 0 l70.length),(5,.vl 5 t69 0 l68.length),(6,.i6 z17),(42,.iM q1w x38.Arcs),(43,.i6 (x38.Arcs.length:Int)),(44,.i6 z51)]∧σ=⟨[(6,.row (q1w x63) 66),(5,.vec (List.map (cL (cI .i64)) l68).flatten 33 1 t69),(4,.vec (List.map (cI .i64) l70).flatten 3 1 t71),(3,.row (List.map cB l72).flatten 4),(2,.row [.sl 1 0 ((p1.Nodes.length:Int).toNat) ((p1.Nodes.length:Int).toNat)] 28),(1,.row (List.map (cL (cI .i64)) (l23.set x32.toNat x34)).flatten 33),(0,.row [.iM q07 p1.Nodes] 24)],7⟩) ?_ ?_
 rintro _ _ ⟨l68,t69,l70,t71,l72,hF,rfl,rfl⟩
 unfold q9f at hF
 refine go ?_
 exact lC ⟨_,l68,t69,l70,t71,l72,hF,rfl,rfl⟩
 refine cF hF (fun h67 hF=>?_) (fun h67 hF=>?_)
 obtain ⟨x73,h74,hF⟩:=q00 hF
 refine go ?_
 refine RS.q rfl (qbd rfl rfl (qs9 un75.h (q2l if4.h) rfl h74)) (RS.opn (u:=.junk) (σ':=⟨[(6,.row (q1w x63) 66),(5,.vec (List.map (cL (cI .i64)) l52).flatten 33 1 t53),(4,.vec (List.map (cI .i64) l54).flatten 3 1 t55),(3,.row (List.map cB (l56.set x63.To.toNat true)).flatten 4),(2,.row [.sl 1 0 ((p1.Nodes.length:Int).toNat) ((p1.Nodes.length:Int).toNat)] 28),(1,.row (List.map (cL (cI .i64)) (l23.set x32.toNat x34)).flatten 33),(0,.row [.iM q07 p1.Nodes] 24)],7⟩) rfl (qxp cB (q2l if4.h) qyi rfl rfl rfl rfl rfl rfl h74 rfl) rfl ?_)
 obtain ⟨h75,hF⟩:=q08 hF
 refine go ?_
 refine RS.g ?_
 refine RS.g ?_
 obtain ⟨x76,h77,hF⟩:=q00 hF
 obtain ⟨r78,h79,hF⟩:=q00 hF
 obtain ⟨h80,hF⟩:=q08 hF
 obtain ⟨h81,hF⟩:=q08 hF
 refine go ?_
 refine z0m Tryz.tb_ok [(0,5),(0,9),(0,10),(6,5),(7,5)] (by kernel_rfl) ?_
 refine gd ?_
 refine RD.q rfl (qbd rfl rfl (qi9 (cL (cI .i64)) un28.h (q2l if33.h) (by decide) (qdd (cI .i64)) (vo rfl) h77)) ?_
 refine RD.q rfl (qa5 (cL (cI .i64)) (fun x=>.iM (cI .i64) x) un33.h rfl (fun _=>rfl) rfl rfl h77) (RD.callm (u:=.vl 9 0 0 r78.length) (σ1:=⟨[(9,.vec (List.map (cI .i64) r78).flatten 3 1 0),(7,.row [.i6 x63.To] 3),(6,.row (q1w x63) 66),(5,.vec (List.map (cL (cI .i64)) l52).flatten 33 1 t53),(4,.vec (List.map (cI .i64) (l54++[x63.To])).flatten 3 1 (t55+1)),(3,.row (List.map cB (l56.set x63.To.toNat true)).flatten 4),(2,.row [.sl 1 0 ((p1.Nodes.length:Int).toNat) ((p1.Nodes.length:Int).toNat)] 28),(1,.row (List.map (cL (cI .i64)) (l23.set x32.toNat x34)).flatten 33),(0,.row [.iM q07 p1.Nodes] 24)],10⟩) (args:=[.iM (cI .i64) x76]) rfl (qjz rfl rfl fn48 hb48 rfl rfl) (EvU.own0 (cI .i64) (qb6 n x76 r78 h79) _ 9 rfl) rfl rfl ?_)
 refine gd ?_
 refine RD.freeO (u:=.iM (cI .i64) ([x63.Feat])) rfl (qd6.bs (cs:=[.i6 x63.Feat]) un33.h if3.h rfl rfl rfl rfl rfl rfl rfl rfl rfl) rfl rfl (RD.fz (u:=.iM (cI .i64) (r78++[x63.Feat])) (u1:=.vl 9 1 0 ((r78++[x63.Feat]).length)) (s1:=⟨[(9,.vec (List.map (cI .i64) (r78++[x63.Feat])).flatten 3 1 1),(7,.row [.i6 x63.To] 3),(6,.row (q1w x63) 66),(5,.vec (List.map (cL (cI .i64)) l52).flatten 33 1 t53),(4,.vec (List.map (cI .i64) (l54++[x63.To])).flatten 3 1 (t55+1)),(3,.row (List.map cB (l56.set x63.To.toNat true)).flatten 4),(2,.row [.sl 1 0 ((p1.Nodes.length:Int).toNat) ((p1.Nodes.length:Int).toNat)] 28),(1,.row (List.map (cL (cI .i64)) (l23.set x32.toNat x34)).flatten 33),(0,.row [.iM q07 p1.Nodes] 24)],10⟩) (σ':=⟨[(7,.row [.i6 x63.To] 3),(6,.row (q1w x63) 66),(5,.vec (List.map (cL (cI .i64)) l52).flatten 33 1 t53),(4,.vec (List.map (cI .i64) (l54++[x63.To])).flatten 3 1 (t55+1)),(3,.row (List.map cB (l56.set x63.To.toNat true)).flatten 4),(2,.row [.sl 1 0 ((p1.Nodes.length:Int).toNat) ((p1.Nodes.length:Int).toNat)] 28),(1,.row (List.map (cL (cI .i64)) (l23.set x32.toNat x34)).flatten 33),(0,.row [.iM q07 p1.Nodes] 24)],10⟩) rfl (qdk rfl rfl rfl rfl (qlf (cI .i64) ([x63.Feat]) un33.h un33.h if3.h rfl (qbn .i64) rfl (qhq (cI .i64) (qbn .i64)) h80)) (z0l 9 1) (Nat.le_refl _) rfl rfl ?_)
 refine RD.g ?_
 refine RD.g ?_
 refine gd ?_
 refine RD.done ⟨by kernel_rfl,⟨q4f rfl,⟨q4f rfl,⟨q4f rfl,⟨qpw un66.h rfl (q2l if3.h) rfl rfl rfl,⟨qjr un3.h rfl rfl rfl rfl,trivial⟩⟩⟩⟩⟩,?_⟩
 refine go ?_
 exact xC ⟨(l52++[(r78++[x63.Feat])]),(t53+1),(l54++[x63.To]),(t55+1),(l56.set x63.To.toNat true),hF,rfl,rfl⟩
 refine go ?_
 exact xC ⟨l52,t53,l54,t55,l56,hF,rfl,rfl⟩
 refine go ?_
 exact xC ⟨l52,t53,l54,t55,l56,hF,rfl,rfl⟩
 refine go ?_
 refine WPU.block ?_
 obtain ⟨x82,h83,hF⟩:=q00 hF
 refine go ?_
 refine RS.q rfl (qbd rfl rfl (qs9 un28.h (q2l if33.h) rfl h83)) (RS.opn (u:=.junk) (σ':=⟨[(5,.vec (List.map (cL (cI .i64)) l18).flatten 33 1 t19),(4,.vec (List.map (cI .i64) l20).flatten 3 1 t21),(3,.row (List.map cB l22).flatten 4),(2,.row [.sl 1 0 ((p1.Nodes.length:Int).toNat) ((p1.Nodes.length:Int).toNat)] 28),(1,.row (List.map (cL (cI .i64)) (l23.set x32.toNat x34)).flatten 33),(0,.row [.iM q07 p1.Nodes] 24)],6⟩) rfl (qxp (cL (cI .i64)) (q2l if33.h) (qdd (cI .i64)) rfl rfl rfl rfl rfl rfl h83 rfl) rfl ?_)
 refine go ?_
 exact xC ⟨hF,rfl,rfl⟩
 refine go ?_
 exact xC ⟨l18,t19,l20,t21,l22,l23,hF,rfl,rfl⟩
def q6b   : Option (Bool) :=
 some true
def q42 (p1:List Int) (p2:List Int):Nat→Int→Option (Bool)
 | 0,_=>none
 | m1+1,z8 =>
  cond (decide (z8<(p1.length:Int)))
   (q03 (q0o p1 z8) fun x10 =>
   q03 (q0o p2 z8) fun x12 =>
   cond (x10 != x12)
    (some false)
    ((q42 p1 p2 m1) (IntKind.i64.wrap (z8+1))))
   (q6b)
def q94 (n:Nat) (p1:List Int) (p2:List Int):Option (Bool) :=
 cond ((p1.length:Int) != (p2.length:Int))
  (some false)
  (q42 p1 p2 n 0)
theorem qgp (n:Nat) (p1:List Int) (p2:List Int) (r:Bool) (hF:q94 n p1 p2=some r):EvU Tryz.prog 49 [.isl false (List.map (cI .i64) p1),.isl false (List.map (cI .i64) p2)] ⟨[],0⟩ (fun u _=>u = .bool r∧Bel 0 u):=by
 unfold q94 at hF
 refine bg2 26 fn49 ?_
 refine go ?_
 refine cF hF (fun h3 hF=>?_) (fun h3 hF=>?_)
 exact gx hF
 refine go ?_
 refine gS (l':=[(0,_),(1,_),(12,_),(13,_)]) ?_
 refine z0j (fun m tm σ=>∃ z8:Int,q42 p1 p2 m z8=some r∧tm=fr 26 [(0,.iM (cI .i64) p1),(1,.iM (cI .i64) p2),(12,.i6 (p1.length:Int)),(13,.i6 z8)]∧σ=⟨[],0⟩) (fun tm σ=>q6b=some r∧tm=fr 26 []∧σ=⟨[],0⟩) n ⟨0,hF,rfl,rfl⟩ ?_ ?_
 rintro _ _ ⟨hF,rfl,rfl⟩
 unfold q6b at hF
 exact gx hF
 rintro (_|m1) _ _ ⟨z8,hF,rfl,rfl⟩
 cases hF
 unfold q42 at hF
 refine go ?_
 refine cF hF (fun h9 hF=>?_) (fun h9 hF=>?_)
 refine go ?_
 refine WPU.block ?_
 obtain ⟨x10,h11,hF⟩:=q00 hF
 obtain ⟨x12,h13,hF⟩:=q00 hF
 refine go ?_
 refine z0m Tryz.tb_ok [] (by kernel_rfl) ?_
 refine gd ?_
 refine RD.ix h11 ?_
 refine gd ?_
 refine RD.ix h13 ?_
 refine gd ?_
 refine RD.done ⟨by kernel_rfl,trivial,?_⟩
 refine go ?_
 refine cF hF (fun h14 hF=>?_) (fun h14 hF=>?_)
 exact gx hF
 refine go ?_
 exact lC ⟨_,hF,rfl,rfl⟩
 refine go ?_
 exact xC ⟨hF,rfl,rfl⟩
def q7w (z32:Int) (rc2:Int→(List q0j)→Option ((List q0j))) (l50:List q0j):Option ((List q0j)) :=
 rc2 (IntKind.i64.wrap (z32+1)) l50
def qbf (z11:Int) (rc1:Int→(List q0j)→Option ((List q0j))) (l35:List q0j):Option ((List q0j)) :=
 rc1 (IntKind.i64.wrap (z11+1)) l35
def q47 (n:Nat) (r2:(List (List Int))) (z11:Int) (rc1:Int→(List q0j)→Option ((List q0j))) (x17:q0z):Nat→Int→(List q0j)→Option ((List q0j))
 | 0,_,_=>none
 | m2+1,z32,l33 =>
  cond (decide (z32<(x17.Arcs.length:Int)))
   (q03 (q0o x17.Arcs z32) fun x38 =>
   q03 (q0o r2 z11) fun x40 =>
   q03 (q64 n x40) fun r42 =>
   q0y ((r42.length+([x38.Feat]).length)*8≤140737488355328∧r42.length+([x38.Feat]).length≤140737488355328) (
   q03 (q0o r2 x38.To) fun x45 =>
   q03 (q94 n (r42++[x38.Feat]) x45) fun r47 =>
   cond (!r47)
    (q03 (q0o r2 x38.To) fun x52 =>
    q0y ((l33.length+1)*48≤140737488355328∧l33.length+1≤140737488355328) (
    q7w z32 (q47 n r2 z11 rc1 x17 m2) (l33++[(q0j.mk x52 (r42++[x38.Feat]))])))
    (q7w z32 (q47 n r2 z11 rc1 x17 m2) l33)))
   (qbf z11 rc1 l33)
def qbe  (l14:List q0j):Option ((List q0j)) :=
 some l14
def q3e (p1:GFS) (n:Nat) (r2:(List (List Int))):Nat→Int→(List q0j)→Option ((List q0j))
 | 0,_,_=>none
 | m1+1,z11,l12 =>
  cond (decide (z11<(p1.Nodes.length:Int)))
   (q03 (q0o p1.Nodes z11) fun x17 =>
   q47 n r2 z11 (q3e p1 n r2 m1) x17 n 0 l12)
   (qbe l12)
def qcd (n:Nat) (p1:GFS):Option ((List q0j)) :=
 q03 (qe8 n p1) fun r2 =>
 q3e p1 n r2 n 0 ([]:List q0j)
theorem qce (n:Nat) (p1:GFS) (r:(List q0j)) (hF:qcd n p1=some r):EvU Tryz.prog 18 [.agg [.isl false (List.map q07 p1.Nodes)]] ⟨[],0⟩ (fun u _=>u = .isl false (List.map q19 r)∧Bel 0 u):=by
 unfold qcd at hF
 refine bg1 57 fn18 ?_
 obtain ⟨r2,h3,hF⟩:=q00 hF
 refine go ?_
 refine RS.cl rfl (pC (qb0 n p1 r2 h3) _) fn15 ?_
 refine gr ?_
 refine gr ?_
 refine WPU.ghost (tm':=fr 57 [(3,.iM (cL (cI .i64)) r2),(4,.vl 1 0 0 (([]:List q0j).length)),(13,.iM q07 p1.Nodes),(14,.i6 (p1.Nodes.length:Int)),(15,.i6 0)]) (σ':=⟨[(1,.vec (List.map q19 ([]:List q0j)).flatten 56 2 0),(0,.row [.iM q07 p1.Nodes] 24)],2⟩) (Gh.trans (z0n 4 56 2 (by decide) NZ rfl rfl) (z0o ⟨rfl,rfl,rfl,rfl,rfl,trivial⟩ rfl)) NZ ?_
 refine gS (l':=[(3,_),(4,_),(13,_),(14,_),(15,_)]) ?_
 refine z0j (fun m tm σ=>∃ z11:Int,∃ l12:List q0j,∃ t13:Nat,q3e p1 n r2 m z11 l12=some r∧tm=fr 57 [(3,.iM (cL (cI .i64)) r2),(4,.vl 1 t13 0 l12.length),(13,.iM q07 p1.Nodes),(14,.i6 (p1.Nodes.length:Int)),(15,.i6 z11)]∧σ=⟨[(1,.vec (List.map q19 l12).flatten 56 2 t13),(0,.row [.iM q07 p1.Nodes] 24)],2⟩) (fun tm σ=>∃ l14:List q0j,∃ t15:Nat,qbe l14=some r∧tm=fr 57 [(4,.vl 1 t15 0 l14.length)]∧σ=⟨[(1,.vec (List.map q19 l14).flatten 56 2 t15),(0,.row [.iM q07 p1.Nodes] 24)],2⟩) n ⟨0,([]:List q0j),0,hF,rfl,rfl⟩ ?_ ?_
 rintro _ _ ⟨l14,t15,hF,rfl,rfl⟩
 unfold qbe at hF
 refine go ?_
 obtain rfl:=sI hF
 exact rT (us:=[.vl 1 t15 0 l14.length]) (u:=.iM q19 l14) (q1v rfl (q2r)) (fR 1 2)
 rintro (_|m1) _ _ ⟨z11,l12,t13,hF,rfl,rfl⟩
 cases hF
 unfold q3e at hF
 refine go ?_
 refine cF hF (fun h16 hF=>?_) (fun h16 hF=>?_)
 refine go ?_
 refine WPU.block ?_
 obtain ⟨x17,h18,hF⟩:=q00 hF
 refine go ?_
 refine RS.ix h18 ?_
 refine go ?_
 refine gS (l':=[(3,_),(4,_),(5,_),(13,_),(14,_),(15,_),(21,_),(22,_),(23,_)]) ?_
 refine z0j (fun m tm σ=>∃ z32:Int,∃ l33:List q0j,∃ t34:Nat,q47 n r2 z11 (q3e p1 n r2 m1) x17 m z32 l33=some r∧tm=fr 57 [(3,.iM (cL (cI .i64)) r2),(4,.vl 1 t34 0 l33.length),(5,.i6 z11),(13,.iM q07 p1.Nodes),(14,.i6 (p1.Nodes.length:Int)),(15,.i6 z11),(21,.iM q1w x17.Arcs),(22,.i6 (x17.Arcs.length:Int)),(23,.i6 z32)]∧σ=⟨[(2,.row (q07 x17) 54),(1,.vec (List.map q19 l33).flatten 56 2 t34),(0,.row [.iM q07 p1.Nodes] 24)],3⟩) (fun tm σ=>∃ l35:List q0j,∃ t36:Nat,qbf z11 (q3e p1 n r2 m1) l35=some r∧tm=fr 57 [(3,.iM (cL (cI .i64)) r2),(4,.vl 1 t36 0 l35.length),(13,.iM q07 p1.Nodes),(14,.i6 (p1.Nodes.length:Int)),(15,.i6 z11)]∧σ=⟨[(2,.row (q07 x17) 54),(1,.vec (List.map q19 l35).flatten 56 2 t36),(0,.row [.iM q07 p1.Nodes] 24)],3⟩) n ⟨0,l12,t13,hF,rfl,rfl⟩ ?_ ?_
 rintro _ _ ⟨l35,t36,hF,rfl,rfl⟩
 unfold qbf at hF
 refine go ?_
 exact lC ⟨_,l35,t36,hF,rfl,rfl⟩
 rintro (_|m2) _ _ ⟨z32,l33,t34,hF,rfl,rfl⟩
 cases hF
 unfold q47 at hF
 refine go ?_
 refine cF hF (fun h37 hF=>?_) (fun h37 hF=>?_)
 refine go ?_
 refine WPU.block ?_
 obtain ⟨x38,h39,hF⟩:=q00 hF
 refine go ?_
 refine RS.ix h39 ?_
 obtain ⟨x40,h41,hF⟩:=q00 hF
 obtain ⟨r42,h43,hF⟩:=q00 hF
 obtain ⟨h44,hF⟩:=q08 hF
 refine go ?_
 refine z0m Tryz.tb_ok [(5,4),(6,4)] (by kernel_rfl) ?_
 refine gd ?_
 refine RD.ix h41 ?_
 refine gd ?_
 refine RD.callm (u:=.vl 5 0 0 r42.length) (σ1:=⟨[(5,.vec (List.map (cI .i64) r42).flatten 3 1 0),(3,.row (q1w x38) 66),(2,.row (q07 x17) 54),(1,.vec (List.map q19 l33).flatten 56 2 t34),(0,.row [.iM q07 p1.Nodes] 24)],6⟩) (args:=[.iM (cI .i64) x40]) rfl (qjz rfl rfl fn48 hb48 rfl rfl) (EvU.own0 (cI .i64) (qb6 n x40 r42 h43) _ 5 rfl) rfl rfl ?_
 refine gd ?_
 refine RD.freeO (u:=.iM (cI .i64) ([x38.Feat])) rfl (qd6.bs (cs:=[.i6 x38.Feat]) un33.h if3.h rfl rfl rfl rfl rfl rfl rfl rfl rfl) rfl rfl ?_
 refine RD.g ?_
 refine gd ?_
 refine RD.done ⟨by kernel_rfl,⟨qpw un66.h rfl (q2l if3.h) rfl rfl rfl,⟨qjr un3.h rfl rfl rfl rfl,trivial⟩⟩,?_⟩
 obtain ⟨x45,h46,hF⟩:=q00 hF
 obtain ⟨r47,h48,hF⟩:=q00 hF
 refine go ?_
 refine RS.ix h46 ?_
 refine go ?_
 refine RS.cl rfl (vw (qgp n (r42++[x38.Feat]) x45 r47 h48) (z0l 5 1)) fn49 ?_
 refine gn ?_
 refine z0k (fun tm σ=>∃ l50:List q0j,∃ t51:Nat,q7w z32 (q47 n r2 z11 (q3e p1 n r2 m1) x17 m2) l50=some r∧tm=fr 57 [(3,.iM (cL (cI .i64)) r2),(4,.vl 1 t51 0 l50.length),(5,.i6 z11),(13,.iM q07 p1.Nodes),(14,.i6 (p1.Nodes.length:Int)),(15,.i6 z11),(21,.iM q1w x17.Arcs),(22,.i6 (x17.Arcs.length:Int)),(23,.i6 z32)]∧σ=⟨[(3,.row (q1w x38) 66),(2,.row (q07 x17) 54),(1,.vec (List.map q19 l50).flatten 56 2 t51),(0,.row [.iM q07 p1.Nodes] 24)],6⟩) ?_ ?_
 rintro _ _ ⟨l50,t51,hF,rfl,rfl⟩
 unfold q7w at hF
 refine go ?_
 exact lC ⟨_,l50,t51,hF,rfl,rfl⟩
 refine cF hF (fun h49 hF=>?_) (fun h49 hF=>?_)
 refine gn ?_
 refine WPU.ghost (tm':=fr 57 [(3,.iM (cL (cI .i64)) r2),(4,.vl 1 t34 0 l33.length),(5,.i6 z11),(8,.ptr 3 0 0),(9,.iM (cI .i64) (r42++[x38.Feat])),(13,.iM q07 p1.Nodes),(14,.i6 (p1.Nodes.length:Int)),(15,.i6 z11),(21,.iM q1w x17.Arcs),(22,.i6 (x17.Arcs.length:Int)),(23,.i6 z32)]) (σ':=⟨[(3,.row (q1w x38) 66),(2,.row (q07 x17) 54),(1,.vec (List.map q19 l33).flatten 56 2 t34),(0,.row [.iM q07 p1.Nodes] 24)],6⟩) (Gh.trans (Gh.sub (l':=[(3,.iM (cL (cI .i64)) r2),(4,.vl 1 t34 0 l33.length),(5,.i6 z11),(8,.ptr 3 0 0),(9,.vl 5 1 0 ((r42++[x38.Feat]).length)),(13,.iM q07 p1.Nodes),(14,.i6 (p1.Nodes.length:Int)),(15,.i6 z11),(21,.iM q1w x17.Arcs),(22,.i6 (x17.Arcs.length:Int)),(23,.i6 z32)]) ⟨rfl,rfl,rfl,rfl,rfl,rfl,rfl,rfl,rfl,rfl,rfl,trivial⟩) (z0v 5 1)) NZ ?_
 obtain ⟨x52,h53,hF⟩:=q00 hF
 obtain ⟨h54,hF⟩:=q08 hF
 refine go ?_
 refine RS.ix h53 ?_
 refine go ?_
 refine RS.g ?_
 refine RS.g ?_
 refine go ?_
 exact xC ⟨(l33++[(q0j.mk x52 (r42++[x38.Feat]))]),(t34+1),hF,rfl,rfl⟩
 refine go ?_
 exact ⟨_,_,⟨l33,t34,hF,rfl,rfl⟩,NZ,Gh.trans (Gh.only (fun k=>!(Nat.beq k 5))) (Gh.toC (n1:=6) ⟨rfl,rfl,rfl,rfl,rfl,rfl,rfl,rfl,rfl,trivial⟩ rfl NZ (by simp))⟩
 refine go ?_
 exact xC ⟨l33,t34,hF,rfl,rfl⟩
 refine go ?_
 exact xC ⟨l12,t13,hF,rfl,rfl⟩
def qch (z22:Int) (l23:List q0z) (rc2:Int→(List q0z)→Option (GFS)) (x28:q0z) (l48:List q3w):Option (GFS) :=
 q0y ((l23.length+1)*32≤140737488355328∧l23.length+1≤140737488355328) (
 rc2 (IntKind.i64.wrap (z22+1)) (l23++[(q0z.mk x28.Typex l48)]))
def q9k (p1:List Int) (z22:Int) (l23:List q0z) (rc2:Int→(List q0z)→Option (GFS)) (x28:q0z):Nat→Int→(List q3w)→Option (GFS)
 | 0,_,_=>none
 | m3+1,z45,l46 =>
  cond (decide (z45<(x28.Arcs.length:Int)))
   (q03 (q0o x28.Arcs z45) fun x52 =>
   q0y ((l46.length+1)*16≤140737488355328∧l46.length+1≤140737488355328) (
   (q9k p1 z22 l23 rc2 x28 m3) (IntKind.i64.wrap (z45+1)) (l46++[(q3w.mk x52.Feat (IntKind.i64.wrap (x52.To+(p1.length:Int))))])))
   (qch z22 l23 rc2 x28 l46)
def qcg  (l25:List q0z):Option (GFS) :=
 some (GFS.mk l25)
def q58 (p1:List Int) (p2:GFS) (n:Nat):Nat→Int→(List q0z)→Option (GFS)
 | 0,_,_=>none
 | m2+1,z22,l23 =>
  cond (decide (z22<(p2.Nodes.length:Int)))
   (q03 (q0o p2.Nodes z22) fun x28 =>
   q9k p1 z22 l23 (q58 p1 p2 n m2) x28 n 0 ([]:List q3w))
   (qcg l23)
def qcf (p1:List Int) (p2:GFS) (n:Nat) (l13:List q0z):Option (GFS) :=
 q58 p1 p2 n n 0 l13
def q9j (p1:List Int) (p2:GFS) (n:Nat):Nat→Int→(List q0z)→Option (GFS)
 | 0,_,_=>none
 | m1+1,z10,l11 =>
  cond (decide (z10<(p1.length:Int)))
   (q03 (q0o p1 z10) fun x56 =>
   q0y ((l11.length+1)*32≤140737488355328∧l11.length+1≤140737488355328) (
   (q9j p1 p2 n m1) (IntKind.i64.wrap (z10+1)) (l11++[(q0z.mk 0 ([(q3w.mk x56 (IntKind.i64.wrap (z10+1)))]))])))
   (qcf p1 p2 n l11)
def qhg (n:Nat) (p1:List Int) (p2:GFS):Option (GFS) :=
 q9j p1 p2 n n 0 ([]:List q0z)
theorem q6g (n:Nat) (p1:List Int) (p2:GFS) (r:GFS) (hF:qhg n p1 p2=some r):EvU Tryz.prog 22 [.isl false (List.map (cI .i64) p1),.agg [.isl false (List.map q07 p2.Nodes)]] ⟨[],0⟩ (fun u _=>u = .agg [.isl false (List.map q07 r.Nodes)]∧Bel 0 u):=by
 unfold qhg at hF
 refine bg2 71 fn22 ?_
 refine gr ?_
 refine gr ?_
 refine gr ?_
 refine WPU.ghost (tm':=fr 71 [(0,.iM (cI .i64) p1),(3,.ptr 0 0 0),(4,.ptr 1 0 0),(5,.ptr 2 0 0),(13,.iM (cI .i64) p1),(14,.i6 (p1.length:Int)),(15,.i6 0)]) (σ':=⟨[(3,.vec (List.map q07 ([]:List q0z)).flatten 54 2 0),(2,.row [.vl 3 0 0 (([]:List q0z).length)] 24),(1,.row [.nils] 24),(0,.row [.iM q07 p2.Nodes] 24)],4⟩) (Gh.trans (z0u 2 0 54 2 (by decide) NZ rfl rfl) (z0o ⟨rfl,rfl,rfl,rfl,rfl,rfl,rfl,trivial⟩ rfl)) NZ ?_
 refine gS (l':=[(0,_),(3,_),(4,_),(5,_),(13,_),(14,_),(15,_)]) ?_
 refine z0j (fun m tm σ=>∃ z10:Int,∃ l11:List q0z,∃ t12:Nat,q9j p1 p2 n m z10 l11=some r∧tm=fr 71 [(0,.iM (cI .i64) p1),(3,.ptr 0 0 0),(4,.ptr 1 0 0),(5,.ptr 2 0 0),(13,.iM (cI .i64) p1),(14,.i6 (p1.length:Int)),(15,.i6 z10)]∧σ=⟨[(3,.vec (List.map q07 l11).flatten 54 2 t12),(2,.row [.vl 3 t12 0 l11.length] 24),(1,.row [.nils] 24),(0,.row [.iM q07 p2.Nodes] 24)],4⟩) (fun tm σ=>∃ l13:List q0z,∃ t14:Nat,qcf p1 p2 n l13=some r∧tm=fr 71 [(0,.iM (cI .i64) p1),(3,.ptr 0 0 0),(4,.ptr 1 0 0),(5,.ptr 2 0 0)]∧σ=⟨[(3,.vec (List.map q07 l13).flatten 54 2 t14),(2,.row [.vl 3 t14 0 l13.length] 24),(1,.row [.nils] 24),(0,.row [.iM q07 p2.Nodes] 24)],4⟩) n ⟨0,([]:List q0z),0,hF,rfl,rfl⟩ ?_ ?_
 rintro _ _ ⟨l13,t14,hF,rfl,rfl⟩
 unfold qcf at hF
 refine go ?_
 refine gS (l':=[(0,_),(4,_),(5,_),(33,_),(34,_),(35,_)]) ?_
 refine z0j (fun m tm σ=>∃ z22:Int,∃ l23:List q0z,∃ t24:Nat,q58 p1 p2 n m z22 l23=some r∧tm=fr 71 [(0,.iM (cI .i64) p1),(4,.ptr 1 0 0),(5,.ptr 2 0 0),(33,.iM q07 p2.Nodes),(34,.i6 (p2.Nodes.length:Int)),(35,.i6 z22)]∧σ=⟨[(3,.vec (List.map q07 l23).flatten 54 2 t24),(2,.row [.vl 3 t24 0 l23.length] 24),(1,.row [.nils] 24),(0,.row [.iM q07 p2.Nodes] 24)],4⟩) (fun tm σ=>∃ l25:List q0z,∃ t26:Nat,qcg l25=some r∧tm=fr 71 [(4,.ptr 1 0 0),(5,.ptr 2 0 0)]∧σ=⟨[(3,.vec (List.map q07 l25).flatten 54 2 t26),(2,.row [.vl 3 t26 0 l25.length] 24),(1,.row [.nils] 24),(0,.row [.iM q07 p2.Nodes] 24)],4⟩) n ⟨0,l13,t14,hF,rfl,rfl⟩ ?_ ?_
 rintro _ _ ⟨l25,t26,hF,rfl,rfl⟩
 unfold qcg at hF
 refine go ?_
 obtain rfl:=sI hF
 exact rT (us:=[.agg [.vl 3 t26 0 l25.length]]) (u:=.agg [.iM q07 l25]) (qid (qbm un24.h rfl (q2l if24.h) rfl rfl rfl) (q2r)) (fR 3 2)
 rintro (_|m2) _ _ ⟨z22,l23,t24,hF,rfl,rfl⟩
 cases hF
 unfold q58 at hF
 refine go ?_
 refine cF hF (fun h27 hF=>?_) (fun h27 hF=>?_)
 refine go ?_
 refine WPU.block ?_
 obtain ⟨x28,h29,hF⟩:=q00 hF
 refine go ?_
 refine RS.ix h29 ?_
 refine gr ?_
 refine gr ?_
 refine WPU.ghost (tm':=fr 71 [(0,.iM (cI .i64) p1),(4,.ptr 1 0 0),(5,.ptr 2 0 0),(10,.ptr 5 0 0),(33,.iM q07 p2.Nodes),(34,.i6 (p2.Nodes.length:Int)),(35,.i6 z22),(43,.iM q1w x28.Arcs),(44,.i6 (x28.Arcs.length:Int)),(45,.i6 0)]) (σ':=⟨[(6,.vec (List.map q1w ([]:List q3w)).flatten 66 2 0),(5,.row [.i6 x28.Typex,.vl 6 0 0 (([]:List q3w).length)] 54),(4,.row (q07 x28) 54),(3,.vec (List.map q07 l23).flatten 54 2 t24),(2,.row [.vl 3 t24 0 l23.length] 24),(1,.row [.nils] 24),(0,.row [.iM q07 p2.Nodes] 24)],7⟩) (Gh.trans (z0u 5 1 66 2 (by decide) NZ rfl rfl) (z0o ⟨rfl,rfl,rfl,rfl,rfl,rfl,rfl,rfl,rfl,rfl,trivial⟩ rfl)) NZ ?_
 refine gS (l':=[(0,_),(4,_),(5,_),(10,_),(33,_),(34,_),(35,_),(43,_),(44,_),(45,_)]) ?_
 refine z0j (fun m tm σ=>∃ z45:Int,∃ l46:List q3w,∃ t47:Nat,q9k p1 z22 l23 (q58 p1 p2 n m2) x28 m z45 l46=some r∧tm=fr 71 [(0,.iM (cI .i64) p1),(4,.ptr 1 0 0),(5,.ptr 2 0 0),(10,.ptr 5 0 0),(33,.iM q07 p2.Nodes),(34,.i6 (p2.Nodes.length:Int)),(35,.i6 z22),(43,.iM q1w x28.Arcs),(44,.i6 (x28.Arcs.length:Int)),(45,.i6 z45)]∧σ=⟨[(6,.vec (List.map q1w l46).flatten 66 2 t47),(5,.row [.i6 x28.Typex,.vl 6 t47 0 l46.length] 54),(4,.row (q07 x28) 54),(3,.vec (List.map q07 l23).flatten 54 2 t24),(2,.row [.vl 3 t24 0 l23.length] 24),(1,.row [.nils] 24),(0,.row [.iM q07 p2.Nodes] 24)],7⟩) (fun tm σ=>∃ l48:List q3w,∃ t49:Nat,qch z22 l23 (q58 p1 p2 n m2) x28 l48=some r∧tm=fr 71 [(0,.iM (cI .i64) p1),(4,.ptr 1 0 0),(5,.ptr 2 0 0),(10,.ptr 5 0 0),(33,.iM q07 p2.Nodes),(34,.i6 (p2.Nodes.length:Int)),(35,.i6 z22)]∧σ=⟨[(6,.vec (List.map q1w l48).flatten 66 2 t49),(5,.row [.i6 x28.Typex,.vl 6 t49 0 l48.length] 54),(4,.row (q07 x28) 54),(3,.vec (List.map q07 l23).flatten 54 2 t24),(2,.row [.vl 3 t24 0 l23.length] 24),(1,.row [.nils] 24),(0,.row [.iM q07 p2.Nodes] 24)],7⟩) n ⟨0,([]:List q3w),0,hF,rfl,rfl⟩ ?_ ?_
 rintro _ _ ⟨l48,t49,hF,rfl,rfl⟩
 unfold qch at hF
 refine gn ?_
 refine WPU.ghost (tm':=fr 71 [(0,.iM (cI .i64) p1),(4,.ptr 1 0 0),(5,.ptr 2 0 0),(10,.ptr 5 0 0),(33,.iM q07 p2.Nodes),(34,.i6 (p2.Nodes.length:Int)),(35,.i6 z22)]) (σ':=⟨[(5,.row [.i6 x28.Typex,.iM q1w l48] 54),(4,.row (q07 x28) 54),(3,.vec (List.map q07 l23).flatten 54 2 t24),(2,.row [.vl 3 t24 0 l23.length] 24),(1,.row [.nils] 24),(0,.row [.iM q07 p2.Nodes] 24)],7⟩) (Gh.trans (Gh.sub (l':=[(0,.iM (cI .i64) p1),(4,.ptr 1 0 0),(5,.ptr 2 0 0),(10,.ptr 5 0 0),(33,.iM q07 p2.Nodes),(34,.i6 (p2.Nodes.length:Int)),(35,.i6 z22)]) ⟨rfl,rfl,rfl,rfl,rfl,rfl,rfl,trivial⟩) (z0v 6 2)) NZ ?_
 obtain ⟨h50,hF⟩:=q08 hF
 refine go ?_
 refine RS.g ?_
 refine RS.g ?_
 refine go ?_
 exact lC ⟨_,(l23++[(q0z.mk x28.Typex l48)]),(t24+1),hF,rfl,rfl⟩
 rintro (_|m3) _ _ ⟨z45,l46,t47,hF,rfl,rfl⟩
 cases hF
 unfold q9k at hF
 refine go ?_
 refine cF hF (fun h51 hF=>?_) (fun h51 hF=>?_)
 refine go ?_
 refine WPU.block ?_
 obtain ⟨x52,h53,hF⟩:=q00 hF
 refine go ?_
 refine RS.ix h53 ?_
 obtain ⟨h54,hF⟩:=q08 hF
 refine go ?_
 refine RS.g ?_
 refine RS.g ?_
 refine go ?_
 exact lC ⟨_,(l46++[(q3w.mk x52.Feat (IntKind.i64.wrap (x52.To+(p1.length:Int))))]),(t47+1),hF,rfl,rfl⟩
 refine go ?_
 exact xC ⟨l46,t47,hF,rfl,rfl⟩
 refine go ?_
 exact xC ⟨l23,t24,hF,rfl,rfl⟩
 rintro (_|m1) _ _ ⟨z10,l11,t12,hF,rfl,rfl⟩
 cases hF
 unfold q9j at hF
 refine go ?_
 refine cF hF (fun h55 hF=>?_) (fun h55 hF=>?_)
 refine go ?_
 refine WPU.block ?_
 obtain ⟨x56,h57,hF⟩:=q00 hF
 refine go ?_
 refine RS.ix h57 ?_
 obtain ⟨h58,hF⟩:=q08 hF
 refine go ?_
 refine RS.step (u:=.iM q1w ([(q3w.mk x56 (IntKind.i64.wrap (z10+1)))])) (σ':=⟨[(3,.vec (List.map q07 l11).flatten 54 2 t12),(2,.row [.vl 3 t12 0 l11.length] 24),(1,.row [.nils] 24),(0,.row [.iM q07 p2.Nodes] 24)],5⟩) rfl (qd3.fz Tryz.tb_ok (u1:=.sl 4 0 1 1) (s1:=⟨[(4,.row [.i6 x56,.i6 (IntKind.i64.wrap (z10+1))] 66),(3,.vec (List.map q07 l11).flatten 54 2 t12),(2,.row [.vl 3 t12 0 l11.length] 24),(1,.row [.nils] 24),(0,.row [.iM q07 p2.Nodes] 24)],5⟩) (q99 un52.h if66.h rfl rfl rfl rfl rfl rfl rfl) (z0l 4 2) (Nat.le_refl _) rfl rfl) rfl rfl ?_
 refine go ?_
 refine RS.g ?_
 refine RS.g ?_
 refine go ?_
 exact lC ⟨_,(l11++[(q0z.mk 0 ([(q3w.mk x56 (IntKind.i64.wrap (z10+1)))]))]),(t12+1),hF,rfl,rfl⟩
 refine go ?_
 exact xC ⟨l11,t12,hF,rfl,rfl⟩
def q9i (n:Nat) (l13:List (List UInt8)):Option ((List UInt8)) :=
 q03 (strings_Join n l13 ([46])) fun r15 =>
 some r15
def q57 (p1:q09) (p2:List Int) (n:Nat):Nat→Int→(List (List UInt8))→Option ((List UInt8))
 | 0,_,_=>none
 | m1+1,z10,l11 =>
  cond (decide (z10<(p2.length:Int)))
   (q03 (q0o p2 z10) fun x18 =>
   q03 (q0o p1.Feats x18) fun x20 =>
   q0y ((l11.length+1)*16≤140737488355328∧l11.length+1≤140737488355328) (
   (q57 p1 p2 n m1) (IntKind.i64.wrap (z10+1)) (l11++[x20.Name])))
   (q9i n l11)
def qbo (n:Nat) (p1:q09) (p2:List Int):Option ((List UInt8)) :=
 q57 p1 p2 n n 0 ([]:List (List UInt8))
theorem q8t (n:Nat) (p1:q09) (p2:List Int) (r:(List UInt8)) (hF:qbo n p1 p2=some r):EvU Tryz.prog 25 [.agg (q0a p1),.isl false (List.map (cI .i64) p2)] ⟨[],0⟩ (fun u _=>u = .str r∧Bel 0 u):=by
 unfold qbo at hF
 refine bg2 26 fn25 ?_
 refine gr ?_
 refine gr ?_
 refine gr ?_
 refine WPU.ghost (tm':=fr 26 [(2,.ptr 0 0 0),(5,.vl 1 0 0 (([]:List (List UInt8)).length)),(8,.iM (cI .i64) p2),(9,.i6 (p2.length:Int)),(10,.i6 0)]) (σ':=⟨[(1,.vec (List.map cS ([]:List (List UInt8))).flatten 9 1 0),(0,.row (q0a p1) 43)],2⟩) (Gh.trans (z0n 5 9 1 (by decide) NZ rfl rfl) (z0o ⟨rfl,rfl,rfl,rfl,rfl,trivial⟩ rfl)) NZ ?_
 refine gS (l':=[(2,_),(5,_),(8,_),(9,_),(10,_)]) ?_
 refine z0j (fun m tm σ=>∃ z10:Int,∃ l11:List (List UInt8),∃ t12:Nat,q57 p1 p2 n m z10 l11=some r∧tm=fr 26 [(2,.ptr 0 0 0),(5,.vl 1 t12 0 l11.length),(8,.iM (cI .i64) p2),(9,.i6 (p2.length:Int)),(10,.i6 z10)]∧σ=⟨[(1,.vec (List.map cS l11).flatten 9 1 t12),(0,.row (q0a p1) 43)],2⟩) (fun tm σ=>∃ l13:List (List UInt8),∃ t14:Nat,q9i n l13=some r∧tm=fr 26 [(5,.vl 1 t14 0 l13.length)]∧σ=⟨[(1,.vec (List.map cS l13).flatten 9 1 t14),(0,.row (q0a p1) 43)],2⟩) n ⟨0,([]:List (List UInt8)),0,hF,rfl,rfl⟩ ?_ ?_
 rintro _ _ ⟨l13,t14,hF,rfl,rfl⟩
 unfold q9i at hF
 obtain ⟨r15,h16,hF⟩:=q00 hF
 refine go ?_
 refine RS.cl rfl (vw (qlb n l13 ([46]) r15 h16) (z0l 1 1)) fn52 ?_
 exact gx hF
 rintro (_|m1) _ _ ⟨z10,l11,t12,hF,rfl,rfl⟩
 cases hF
 unfold q57 at hF
 refine go ?_
 refine cF hF (fun h17 hF=>?_) (fun h17 hF=>?_)
 refine go ?_
 refine WPU.block ?_
 obtain ⟨x18,h19,hF⟩:=q00 hF
 refine go ?_
 refine RS.ix h19 ?_
 obtain ⟨x20,h21,hF⟩:=q00 hF
 obtain ⟨h22,hF⟩:=q08 hF
 refine go ?_
 refine RS.ix h21 ?_
 refine go ?_
 refine RS.g ?_
 refine RS.g ?_
 refine go ?_
 exact lC ⟨_,(l11++[x20.Name]),(t12+1),hF,rfl,rfl⟩
 refine go ?_
 exact xC ⟨l11,t12,hF,rfl,rfl⟩
def qa3   : Option (Int) :=
 some (-1)
def q2c (p1:q09) (p2:List UInt8):Nat→Int→Option (Int)
 | 0,_=>none
 | m1+1,z9 =>
  cond (decide (z9<(p1.Feats.length:Int)))
   (q03 (q0o p1.Feats z9) fun x11 =>
   cond (q52 x11 (q0s.mk p2 x11.Intro))
    (some z9)
    ((q2c p1 p2 m1) (IntKind.i64.wrap (z9+1))))
   (qa3)
def qau (n:Nat) (p1:q09) (p2:List UInt8):Option (Int) :=
 q2c p1 p2 n 0
theorem qkz (n:Nat) (p1:q09) (p2:List UInt8) (r:Int) (hF:qau n p1 p2=some r):EvU Tryz.prog 55 [.agg (q0a p1),.str p2] ⟨[],0⟩ (fun u _=>u = .int .i64 r∧Bel 0 u):=by
 unfold qau at hF
 refine bg2 23 fn55 ?_
 refine go ?_
 refine gS (l':=[(1,_),(8,_),(9,_),(10,_)]) ?_
 refine z0j (fun m tm σ=>∃ z9:Int,q2c p1 p2 m z9=some r∧tm=fr 23 [(1,.str p2),(8,.iM q2y p1.Feats),(9,.i6 (p1.Feats.length:Int)),(10,.i6 z9)]∧σ=⟨[(0,.row (q0a p1) 43)],1⟩) (fun tm σ=>qa3=some r∧tm=fr 23 []∧σ=⟨[(0,.row (q0a p1) 43)],1⟩) n ⟨0,hF,rfl,rfl⟩ ?_ ?_
 rintro _ _ ⟨hF,rfl,rfl⟩
 unfold qa3 at hF
 exact gx hF
 rintro (_|m1) _ _ ⟨z9,hF,rfl,rfl⟩
 cases hF
 unfold q2c at hF
 refine go ?_
 refine cF hF (fun h10 hF=>?_) (fun h10 hF=>?_)
 refine go ?_
 refine WPU.block ?_
 obtain ⟨x11,h12,hF⟩:=q00 hF
 refine go ?_
 refine RS.ix h12 ?_
 refine go ?_
 refine RS.q (u:=.bool (q52 x11 (q0s.mk p2 x11.Intro))) rfl (qus rfl rfl (qto x11 (q0s.mk p2 x11.Intro))) ?_
 refine go ?_
 refine cF hF (fun h13 hF=>?_) (fun h13 hF=>?_)
 exact gx hF
 refine go ?_
 exact lC ⟨_,hF,rfl,rfl⟩
 refine go ?_
 exact xC ⟨hF,rfl,rfl⟩
def q9h  (l24:List Int):Option ((List Int)×Int) :=
 some (l24,0)
def q56 (p1:q09) (n:Nat) (r4:(List (List UInt8))):Nat→Int→(List Int)→Option ((List Int)×Int)
 | 0,_,_=>none
 | m2+1,z21,l22 =>
  cond (decide (z21<(r4.length:Int)))
   (q03 (q0o r4 z21) fun x27 =>
   q03 (qau n p1 x27) fun r29 =>
   cond (decide (r29<0))
    (some ([],5))
    (q0y ((l22.length+1)*8≤140737488355328∧l22.length+1≤140737488355328) (
    (q56 p1 n r4 m2) (IntKind.i64.wrap (z21+1)) (l22++[r29]))))
   (q9h l22)
def q9g (p1:q09) (n:Nat) (r4:(List (List UInt8)))  : Option ((List Int)×Int) :=
 q56 p1 n r4 n 0 ([]:List Int)
def q55 (p1:q09) (n:Nat) (r4:(List (List UInt8))):Nat→Int→Option ((List Int)×Int)
 | 0,_=>none
 | m1+1,z13 =>
  cond (decide (z13<(r4.length:Int)))
   (q03 (q0o r4 z13) fun x34 =>
   q03 (qdx n x34) fun r36 =>
   cond (!r36)
    (some ([],8))
    ((q55 p1 n r4 m1) (IntKind.i64.wrap (z13+1))))
   (q9g p1 n r4)
def q6f (n:Nat) (p1:q09) (p2:List UInt8):Option ((List Int)×Int) :=
 cond (q0k p2 [])
  (some ([],0))
  (q03 (q7g n p2 ([46])) fun r4 =>
  cond (decide ((r4.length:Int) > 64))
   (some ([],7))
   (q55 p1 n r4 n 0))
theorem qb1 (n:Nat) (p1:q09) (p2:List UInt8) (r:(List Int)×Int) (hF:q6f n p1 p2=some r):EvU Tryz.prog 26 [.agg (q0a p1),.str p2] ⟨[],0⟩ (fun u _=>u = .tup [.isl false (List.map (cI .i64) r.1),.int .i64 r.2]∧Bel 0 u):=by
 unfold q6f at hF
 refine bg2 47 fn26 ?_
 refine go ?_
 refine RS.q (u:=.bool (q0k p2 [])) rfl (q6e rfl rfl rfl rfl) ?_
 refine go ?_
 refine cF hF (fun h3 hF=>?_) (fun h3 hF=>?_)
 refine go ?_
 obtain rfl:=sI hF
 exact rT (us:=[.nils,.i6 0]) (u:=.tup [.isl false [],.i6 0]) (q1v rfl (q1v rfl (q2r))) wR
 obtain ⟨r4,h5,hF⟩:=q00 hF
 refine go ?_
 refine RS.cl rfl (qie n p2 ([46]) r4 h5 _) fn53 ?_
 refine go ?_
 refine cF hF (fun h6 hF=>?_) (fun h6 hF=>?_)
 refine go ?_
 obtain rfl:=sI hF
 exact rT (us:=[.nils,.i6 7]) (u:=.tup [.isl false [],.i6 7]) (q1v rfl (q1v rfl (q2r))) wR
 refine go ?_
 refine gS (l':=[(2,_),(6,_),(20,_),(21,_),(22,_)]) ?_
 refine z0j (fun m tm σ=>∃ z13:Int,q55 p1 n r4 m z13=some r∧tm=fr 47 [(2,.ptr 0 0 0),(6,.iM cS r4),(20,.iM cS r4),(21,.i6 (r4.length:Int)),(22,.i6 z13)]∧σ=⟨[(0,.row (q0a p1) 43)],1⟩) (fun tm σ=>q9g p1 n r4=some r∧tm=fr 47 [(2,.ptr 0 0 0),(6,.iM cS r4)]∧σ=⟨[(0,.row (q0a p1) 43)],1⟩) n ⟨0,hF,rfl,rfl⟩ ?_ ?_
 rintro _ _ ⟨hF,rfl,rfl⟩
 unfold q9g at hF
 refine gr ?_
 refine gr ?_
 refine WPU.ghost (tm':=fr 47 [(2,.ptr 0 0 0),(9,.vl 1 0 0 (([]:List Int).length)),(30,.iM cS r4),(31,.i6 (r4.length:Int)),(32,.i6 0)]) (σ':=⟨[(1,.vec (List.map (cI .i64) ([]:List Int)).flatten 3 1 0),(0,.row (q0a p1) 43)],2⟩) (Gh.trans (z0n 9 3 1 (by decide) NZ rfl rfl) (z0o ⟨rfl,rfl,rfl,rfl,rfl,trivial⟩ rfl)) NZ ?_
 refine gS (l':=[(2,_),(9,_),(30,_),(31,_),(32,_)]) ?_
 refine z0j (fun m tm σ=>∃ z21:Int,∃ l22:List Int,∃ t23:Nat,q56 p1 n r4 m z21 l22=some r∧tm=fr 47 [(2,.ptr 0 0 0),(9,.vl 1 t23 0 l22.length),(30,.iM cS r4),(31,.i6 (r4.length:Int)),(32,.i6 z21)]∧σ=⟨[(1,.vec (List.map (cI .i64) l22).flatten 3 1 t23),(0,.row (q0a p1) 43)],2⟩) (fun tm σ=>∃ l24:List Int,∃ t25:Nat,q9h l24=some r∧tm=fr 47 [(9,.vl 1 t25 0 l24.length)]∧σ=⟨[(1,.vec (List.map (cI .i64) l24).flatten 3 1 t25),(0,.row (q0a p1) 43)],2⟩) n ⟨0,([]:List Int),0,hF,rfl,rfl⟩ ?_ ?_
 rintro _ _ ⟨l24,t25,hF,rfl,rfl⟩
 unfold q9h at hF
 refine go ?_
 obtain rfl:=sI hF
 exact rT (us:=[.vl 1 t25 0 l24.length,.i6 0]) (u:=.tup [.iM (cI .i64) l24,.i6 0]) (q1v rfl (q1v rfl (q2r))) (fR 1 1)
 rintro (_|m2) _ _ ⟨z21,l22,t23,hF,rfl,rfl⟩
 cases hF
 unfold q56 at hF
 refine go ?_
 refine cF hF (fun h26 hF=>?_) (fun h26 hF=>?_)
 refine go ?_
 refine WPU.block ?_
 obtain ⟨x27,h28,hF⟩:=q00 hF
 refine go ?_
 refine RS.ix h28 ?_
 obtain ⟨r29,h30,hF⟩:=q00 hF
 refine go ?_
 refine RS.cl rfl (pC (qkz n p1 x27 r29 h30) _) fn55 ?_
 refine go ?_
 refine cF hF (fun h31 hF=>?_) (fun h31 hF=>?_)
 refine go ?_
 obtain rfl:=sI hF
 exact rT (us:=[.nils,.i6 5]) (u:=.tup [.isl false [],.i6 5]) (q1v rfl (q1v rfl (q2r))) wR
 obtain ⟨h32,hF⟩:=q08 hF
 refine go ?_
 refine RS.g ?_
 refine RS.g ?_
 refine go ?_
 exact lC ⟨_,(l22++[r29]),(t23+1),hF,rfl,rfl⟩
 refine go ?_
 exact xC ⟨l22,t23,hF,rfl,rfl⟩
 rintro (_|m1) _ _ ⟨z13,hF,rfl,rfl⟩
 cases hF
 unfold q55 at hF
 refine go ?_
 refine cF hF (fun h33 hF=>?_) (fun h33 hF=>?_)
 refine go ?_
 refine WPU.block ?_
 obtain ⟨x34,h35,hF⟩:=q00 hF
 refine go ?_
 refine RS.ix h35 ?_
 obtain ⟨r36,h37,hF⟩:=q00 hF
 refine go ?_
 refine RS.cl rfl (qkm n x34 r36 h37 _) fn54 ?_
 refine go ?_
 refine cF hF (fun h38 hF=>?_) (fun h38 hF=>?_)
 refine go ?_
 obtain rfl:=sI hF
 exact rT (us:=[.nils,.i6 8]) (u:=.tup [.isl false [],.i6 8]) (q1v rfl (q1v rfl (q2r))) wR
 refine go ?_
 exact lC ⟨_,hF,rfl,rfl⟩
 refine go ?_
 exact xC ⟨hF,rfl,rfl⟩
def qcv   : Option (Bool) :=
 some true
def q9w (p1:List Int) (p2:List Int):Nat→Int→Option (Bool)
 | 0,_=>none
 | m1+1,z7 =>
  cond (decide (z7<(p1.length:Int)))
   (q03 (q0o p1 z7) fun x9 =>
   q03 (q0o p2 z7) fun x11 =>
   cond (x9 != x11)
    (some false)
    ((q9w p1 p2 m1) (IntKind.i64.wrap (z7+1))))
   (qcv)
def qea (n:Nat) (p1:List Int) (p2:List Int):Option (Bool) :=
 cond ((p1.length:Int) != (p2.length:Int))
  (some false)
  (q9w p1 p2 n 0)
theorem qdt (n:Nat) (p1:List Int) (p2:List Int) (r:Bool) (hF:qea n p1 p2=some r):EvU Tryz.prog 47 [.isl false (List.map (cI .i64) p1),.isl false (List.map (cI .i64) p2)] ⟨[],0⟩ (fun u _=>u = .bool r∧Bel 0 u):=by
 unfold qea at hF
 refine bg2 26 fn47 ?_
 refine go ?_
 refine cF hF (fun h3 hF=>?_) (fun h3 hF=>?_)
 exact gx hF
 refine go ?_
 refine gS (l':=[(0,_),(1,_),(5,_)]) ?_
 refine z0j (fun m tm σ=>∃ z7:Int,q9w p1 p2 m z7=some r∧tm=fr 26 [(0,.iM (cI .i64) p1),(1,.iM (cI .i64) p2),(5,.i6 z7)]∧σ=⟨[],0⟩) (fun tm σ=>qcv=some r∧tm=fr 26 []∧σ=⟨[],0⟩) n ⟨0,hF,rfl,rfl⟩ ?_ ?_
 rintro _ _ ⟨hF,rfl,rfl⟩
 unfold qcv at hF
 exact gx hF
 rintro (_|m1) _ _ ⟨z7,hF,rfl,rfl⟩
 cases hF
 unfold q9w at hF
 refine go ?_
 refine cF hF (fun h8 hF=>?_) (fun h8 hF=>?_)
 refine go ?_
 refine WPU.block ?_
 obtain ⟨x9,h10,hF⟩:=q00 hF
 obtain ⟨x11,h12,hF⟩:=q00 hF
 refine go ?_
 refine z0m Tryz.tb_ok [] (by kernel_rfl) ?_
 refine gd ?_
 refine RD.ix h10 ?_
 refine gd ?_
 refine RD.ix h12 ?_
 refine gd ?_
 refine RD.done ⟨by kernel_rfl,trivial,?_⟩
 refine go ?_
 refine cF hF (fun h13 hF=>?_) (fun h13 hF=>?_)
 exact gx hF
 refine go ?_
 exact lC ⟨_,hF,rfl,rfl⟩
 refine go ?_
 exact xC ⟨hF,rfl,rfl⟩
def qet (p1:q09) (p2:List Int) (z9:Int) (rc1:(List UInt8)→Int→Option ((List UInt8))) (s13:List UInt8):Option ((List UInt8)) :=
 q03 (q0o p2 z9) fun x14 =>
 q03 (q0o p1.Feats x14) fun x16 =>
 q0y (s13.length+x16.Name.length≤9223372036854775807) (
 rc1 (s13++x16.Name) (IntKind.i64.wrap (z9+1)))
def ql9  (s10:List UInt8):Option ((List UInt8)) :=
 some s10
def qeu (p1:q09) (p2:List Int):Nat→(List UInt8)→Int→Option ((List UInt8))
 | 0,_,_=>none
 | m1+1,s8,z9 =>
  cond (decide (z9<(p2.length:Int)))
   (cond (decide (z9 > 0))
    (q0y (s8.length+([46]).length≤9223372036854775807) (
    qet p1 p2 z9 (qeu p1 p2 m1) (s8++[46])))
    (qet p1 p2 z9 (qeu p1 p2 m1) s8))
   (ql9 s8)
def q5t (z8:Int) (rc1:Int→Int→(List (List UInt8))→Option ((List (List UInt8)))) (z20:Int) (l21:List (List UInt8)):Option ((List (List UInt8))) :=
 rc1 z20 (IntKind.i64.wrap (z8+1)) l21
def q8o  (l11:List (List UInt8)):Option ((List (List UInt8))) :=
 some l11
def q2a (p1:List UInt8):Nat→Int→Int→(List (List UInt8))→Option ((List (List UInt8)))
 | 0,_,_,_=>none
 | m1+1,z7,z8,l9 =>
  cond (decide (z8≤(p1.length:Int)))
   (q03 (cond (z8 == (p1.length:Int))
    (some true)
    (q03 (qne p1 z8) fun x15 =>
    some (x15 == 46))) fun b17 =>
   cond b17
    (q03 (qnu p1 z7 z8) fun l23 =>
    q0y ((l9.length+1)*16≤140737488355328∧l9.length+1≤140737488355328) (
    q5t z8 (q2a p1 m1) (IntKind.i64.wrap (z8+1)) (l9++[l23])))
    (q5t z8 (q2a p1 m1) z7 l9))
   (q8o l9)
def qcu (n:Nat) (p1:List UInt8):Option ((List (List UInt8))) :=
 q2a p1 n 0 0 ([]:List (List UInt8))
theorem qn5 (n:Nat) (p1:List UInt8) (r:(List (List UInt8))) (hF:qcu n p1=some r):EvU Tryz.prog 56 [.str p1] ⟨[],0⟩ (fun u _=>u = .isl false (List.map cS r)∧Bel 0 u):=by
 unfold qcu at hF
 refine bg1 32 fn56 ?_
 refine gr ?_
 refine gr ?_
 refine gr ?_
 refine gr ?_
 refine WPU.ghost (tm':=fr 32 [(0,.str p1),(3,.vl 0 0 0 (([]:List (List UInt8)).length)),(4,.i6 0),(5,.i6 0)]) (σ':=⟨[(0,.vec (List.map cS ([]:List (List UInt8))).flatten 9 1 0)],1⟩) (Gh.trans (z0n 3 9 1 (by decide) NZ rfl rfl) (z0o ⟨rfl,rfl,rfl,rfl,trivial⟩ rfl)) NZ ?_
 refine gS (l':=[(0,_),(3,_),(4,_),(5,_)]) ?_
 refine z0j (fun m tm σ=>∃ z7:Int,∃ z8:Int,∃ l9:List (List UInt8),∃ t10:Nat,q2a p1 m z7 z8 l9=some r∧tm=fr 32 [(0,.str p1),(3,.vl 0 t10 0 l9.length),(4,.i6 z7),(5,.i6 z8)]∧σ=⟨[(0,.vec (List.map cS l9).flatten 9 1 t10)],1⟩) (fun tm σ=>∃ l11:List (List UInt8),∃ t12:Nat,q8o l11=some r∧tm=fr 32 [(3,.vl 0 t12 0 l11.length)]∧σ=⟨[(0,.vec (List.map cS l11).flatten 9 1 t12)],1⟩) n ⟨0,0,([]:List (List UInt8)),0,hF,rfl,rfl⟩ ?_ ?_
 rintro _ _ ⟨l11,t12,hF,rfl,rfl⟩
 unfold q8o at hF
 refine go ?_
 obtain rfl:=sI hF
 exact rT (us:=[.vl 0 t12 0 l11.length]) (u:=.iM cS l11) (q1v rfl (q2r)) (fR 0 1)
 rintro (_|m1) _ _ ⟨z7,z8,l9,t10,hF,rfl,rfl⟩
 cases hF
 unfold q2a at hF
 refine go ?_
 refine RS.q (u:=.i6 (p1.length:Int)) rfl (qay rfl rfl rfl (by simp only [qlu,un9.h])) ?_
 refine go ?_
 refine cF hF (fun h13 hF=>?_) (fun h13 hF=>?_)
 refine go ?_
 refine WPU.block ?_
 obtain ⟨b17,h18,hF⟩:=q00 hF
 refine gn ?_
 refine z0k (fun tm σ=>tm=fr 32 [(0,.str p1),(3,.vl 0 t10 0 l9.length),(4,.i6 z7),(5,.i6 z8),(21,.bool b17)]∧σ=⟨[(0,.vec (List.map cS l9).flatten 9 1 t10)],1⟩) ?_ ?_
 rintro _ _ ⟨rfl,rfl⟩
 refine gn ?_
 refine z0k (fun tm σ=>∃ z20:Int,∃ l21:List (List UInt8),∃ t22:Nat,q5t z8 (q2a p1 m1) z20 l21=some r∧tm=fr 32 [(0,.str p1),(3,.vl 0 t22 0 l21.length),(4,.i6 z20),(5,.i6 z8)]∧σ=⟨[(0,.vec (List.map cS l21).flatten 9 1 t22)],1⟩) ?_ ?_
 rintro _ _ ⟨z20,l21,t22,hF,rfl,rfl⟩
 unfold q5t at hF
 refine go ?_
 exact lC ⟨z20,(IntKind.i64.wrap (z8+1)),l21,t22,hF,rfl,rfl⟩
 refine cF hF (fun h19 hF=>?_) (fun h19 hF=>?_)
 obtain ⟨l23,h24,hF⟩:=q00 hF
 obtain ⟨_,_,_,h25,h26⟩:=qth .i64 .i64 h24
 obtain ⟨h27,hF⟩:=q08 hF
 refine go ?_
 refine RS.q (u:=.str l23) rfl (qc8 rfl (qy5 rfl) (qy5 rfl) qs4 (sl_str un9.h h25 h26)) ?_
 refine RS.g ?_
 refine RS.g ?_
 refine go ?_
 exact xC ⟨(IntKind.i64.wrap (z8+1)),(l9++[l23]),(t10+1),hF,rfl,rfl⟩
 refine go ?_
 exact xC ⟨z7,l9,t10,hF,rfl,rfl⟩
 rcases gB h18 with ⟨h14,h18⟩ | ⟨h14,h18⟩
 obtain rfl:=sI h18
 refine go ?_
 refine RS.q (u:=.i6 (p1.length:Int)) rfl (qay rfl rfl rfl (by simp only [qlu,un9.h])) ?_
 refine go ?_
 exact xC ⟨rfl,rfl⟩
 obtain ⟨x15,h16,h18⟩:=q00 h18
 obtain rfl:=sI h18
 refine go ?_
 refine RS.q (u:=.i6 (p1.length:Int)) rfl (qay rfl rfl rfl (by simp only [qlu,un9.h])) ?_
 refine go ?_
 refine RS.w (u:=.int .u8 x15) rfl (qk0 un9.h rfl rfl h16) ?_
 refine go ?_
 exact xC ⟨rfl,rfl⟩
 refine go ?_
 exact xC ⟨l9,t10,hF,rfl,rfl⟩
def q3f (n:Nat) (p1:Int):Option (Bool) :=
 q03 (cond (decide (p1 ≥ 48))
  (some (decide (p1≤57)))
  (some false)) fun b3 =>
 some b3
theorem q2n (n:Nat) (p1:Int) (r:Bool) (hF:q3f n p1=some r):EvU Tryz.prog 109 [.int .u8 p1] ⟨[],0⟩ (fun u _=>u = .bool r∧Bel 0 u):=by
 unfold q3f at hF
 refine bg1 9 fn109 ?_
 obtain ⟨b3,h4,hF⟩:=q00 hF
 refine gr ?_
 refine z0k (fun tm σ=>tm=fr 9 [(2,.bool b3)]∧σ=⟨[],0⟩) ?_ ?_
 rintro _ _ ⟨rfl,rfl⟩
 exact gx hF
 rcases gB h4 with ⟨h2,h4⟩ | ⟨h2,h4⟩
 exact gy h4
 exact gy h4
def qa7 (n:Nat) (p1:Int):Option (Bool) :=
 q03 (cond (decide (p1 ≥ 65))
  (some (decide (p1≤90)))
  (some false)) fun b3 =>
 some b3
theorem qcj (n:Nat) (p1:Int) (r:Bool) (hF:qa7 n p1=some r):EvU Tryz.prog 140 [.int .u8 p1] ⟨[],0⟩ (fun u _=>u = .bool r∧Bel 0 u):=by
 unfold qa7 at hF
 refine bg1 9 fn140 ?_
 obtain ⟨b3,h4,hF⟩:=q00 hF
 refine gr ?_
 refine z0k (fun tm σ=>tm=fr 9 [(2,.bool b3)]∧σ=⟨[],0⟩) ?_ ?_
 rintro _ _ ⟨rfl,rfl⟩
 exact gx hF
 rcases gB h4 with ⟨h2,h4⟩ | ⟨h2,h4⟩
 exact gy h4
 exact gy h4
def qa6 (n:Nat) (p1:Int):Option (Bool) :=
 q03 (cond (decide (p1 ≥ 97))
  (some (decide (p1≤122)))
  (some false)) fun b3 =>
 some b3
theorem qga (n:Nat) (p1:Int) (r:Bool) (hF:qa6 n p1=some r):EvU Tryz.prog 141 [.int .u8 p1] ⟨[],0⟩ (fun u _=>u = .bool r∧Bel 0 u):=by
 unfold qa6 at hF
 refine bg1 9 fn141 ?_
 obtain ⟨b3,h4,hF⟩:=q00 hF
 refine gr ?_
 refine z0k (fun tm σ=>tm=fr 9 [(2,.bool b3)]∧σ=⟨[],0⟩) ?_ ?_
 rintro _ _ ⟨rfl,rfl⟩
 exact gx hF
 rcases gB h4 with ⟨h2,h4⟩ | ⟨h2,h4⟩
 exact gy h4
 exact gy h4
def q7m (n:Nat) (p1:Int) (p2:Bool):Option (Bool) :=
 q03 (q03 (q3f n p1) fun r3 =>
 cond r3
  (some true)
  (cond (p1 == 45)
   (some true)
   (cond p2
    (q03 (qa7 n p1) fun r8 =>
    cond r8
     (some true)
     (cond (!p2)
      (q03 (qa6 n p1) fun r12 =>
      some r12)
      (some false)))
    (cond (!p2)
     (q03 (qa6 n p1) fun r15 =>
     some r15)
     (some false))))) fun b17 =>
 some b17
theorem qop (n:Nat) (p1:Int) (p2:Bool) (r:Bool) (hF:q7m n p1 p2=some r):EvU Tryz.prog 110 [.int .u8 p1,.bool p2] ⟨[],0⟩ (fun u _=>u = .bool r∧Bel 0 u):=by
 unfold q7m at hF
 refine bg2 26 fn110 ?_
 obtain ⟨b17,h18,hF⟩:=q00 hF
 refine gr ?_
 refine z0k (fun tm σ=>tm=fr 26 [(4,.bool b17)]∧σ=⟨[],0⟩) ?_ ?_
 rintro _ _ ⟨rfl,rfl⟩
 exact gx hF
 obtain ⟨r3,h4,h18⟩:=q00 h18
 rcases gB h18 with ⟨h5,h18⟩ | ⟨h5,h18⟩
 obtain rfl:=sI h18
 refine go ?_
 refine RS.cl rfl (pC (q2n n p1 r3 h4) _) fn109 ?_
 refine go ?_
 repeat refine RS.no (qif rfl rfl rfl) rfl rfl ?_
 refine go ?_
 repeat refine RS.no (qif rfl rfl rfl) rfl rfl ?_
 refine go ?_
 exact xC ⟨rfl,rfl⟩
 rcases gB h18 with ⟨h6,h18⟩ | ⟨h6,h18⟩
 obtain rfl:=sI h18
 refine go ?_
 refine RS.cl rfl (pC (q2n n p1 r3 h4) _) fn109 ?_
 refine go ?_
 repeat refine RS.no (qif rfl rfl rfl) rfl rfl ?_
 refine go ?_
 repeat refine RS.no (qif rfl rfl rfl) rfl rfl ?_
 refine go ?_
 exact xC ⟨rfl,rfl⟩
 rcases gB h18 with ⟨h7,h18⟩ | ⟨h7,h18⟩
 obtain ⟨r8,h9,h18⟩:=q00 h18
 rcases gB h18 with ⟨h10,h18⟩ | ⟨h10,h18⟩
 obtain rfl:=sI h18
 refine go ?_
 refine RS.cl rfl (pC (q2n n p1 r3 h4) _) fn109 ?_
 refine go ?_
 refine RS.cl rfl (pC (qcj n p1 r8 h9) _) fn140 ?_
 refine go ?_
 repeat refine RS.no (qif rfl rfl rfl) rfl rfl ?_
 refine go ?_
 exact xC ⟨rfl,rfl⟩
 rcases gB h18 with ⟨h11,h18⟩ | ⟨h11,h18⟩
 obtain ⟨r12,h13,h18⟩:=q00 h18
 obtain rfl:=sI h18
 refine go ?_
 refine RS.cl rfl (pC (q2n n p1 r3 h4) _) fn109 ?_
 refine go ?_
 refine RS.cl rfl (pC (qcj n p1 r8 h9) _) fn140 ?_
 refine go ?_
 refine RS.cl rfl (pC (qga n p1 r12 h13) _) fn141 ?_
 refine go ?_
 exact xC ⟨rfl,rfl⟩
 obtain rfl:=sI h18
 refine go ?_
 refine RS.cl rfl (pC (q2n n p1 r3 h4) _) fn109 ?_
 refine go ?_
 refine RS.cl rfl (pC (qcj n p1 r8 h9) _) fn140 ?_
 refine go ?_
 exact xC ⟨rfl,rfl⟩
 rcases gB h18 with ⟨h14,h18⟩ | ⟨h14,h18⟩
 obtain ⟨r15,h16,h18⟩:=q00 h18
 obtain rfl:=sI h18
 refine go ?_
 refine RS.cl rfl (pC (q2n n p1 r3 h4) _) fn109 ?_
 refine go ?_
 refine RS.cl rfl (pC (qga n p1 r15 h16) _) fn141 ?_
 refine go ?_
 exact xC ⟨rfl,rfl⟩
 obtain rfl:=sI h18
 refine go ?_
 refine RS.cl rfl (pC (q2n n p1 r3 h4) _) fn109 ?_
 refine go ?_
 exact xC ⟨rfl,rfl⟩
def q5l   : Option (Bool) :=
 some true
def q23 (p1:List UInt8) (p2:Bool) (n:Nat):Nat→Int→Option (Bool)
 | 0,_=>none
 | m1+1,z18 =>
  cond (decide (z18<(p1.length:Int)))
   (q03 (qne p1 z18) fun x20 =>
   q03 (q7m n x20 p2) fun r22 =>
   cond (!r22)
    (some false)
    ((q23 p1 p2 n m1) (IntKind.i64.wrap (z18+1))))
   (q5l)
def q66 (n:Nat) (p1:List UInt8) (p2:Bool):Option (Bool) :=
 q03 (cond (decide ((p1.length:Int)<1))
  (some true)
  (cond (decide ((p1.length:Int) > 32))
   (some true)
   (q03 (qne p1 0) fun x5 =>
   q03 (q3f n x5) fun r7 =>
   cond r7
    (some true)
    (q03 (qne p1 0) fun x10 =>
    some (x10 == 45))))) fun b12 =>
 cond b12
  (some false)
  (q23 p1 p2 n n 0)
theorem qgb (n:Nat) (p1:List UInt8) (p2:Bool) (r:Bool) (hF:q66 n p1 p2=some r):EvU Tryz.prog 81 [.str p1,.bool p2] ⟨[],0⟩ (fun u _=>u = .bool r∧Bel 0 u):=by
 unfold q66 at hF
 refine bg2 36 fn81 ?_
 obtain ⟨b12,h13,hF⟩:=q00 hF
 refine gr ?_
 refine z0k (fun tm σ=>tm=fr 36 [(0,.str p1),(1,.bool p2),(23,.bool b12)]∧σ=⟨[],0⟩) ?_ ?_
 rintro _ _ ⟨rfl,rfl⟩
 refine go ?_
 refine cF hF (fun h14 hF=>?_) (fun h14 hF=>?_)
 exact gx hF
 refine go ?_
 refine gS (l':=[(0,_),(1,_),(5,_)]) ?_
 refine z0j (fun m tm σ=>∃ z18:Int,q23 p1 p2 n m z18=some r∧tm=fr 36 [(0,.str p1),(1,.bool p2),(5,.i6 z18)]∧σ=⟨[],0⟩) (fun tm σ=>q5l=some r∧tm=fr 36 []∧σ=⟨[],0⟩) n ⟨0,hF,rfl,rfl⟩ ?_ ?_
 rintro _ _ ⟨hF,rfl,rfl⟩
 unfold q5l at hF
 exact gx hF
 rintro (_|m1) _ _ ⟨z18,hF,rfl,rfl⟩
 cases hF
 unfold q23 at hF
 refine go ?_
 refine RS.q (u:=.i6 (p1.length:Int)) rfl (qay rfl rfl rfl (by simp only [qlu,un9.h])) ?_
 refine go ?_
 refine cF hF (fun h19 hF=>?_) (fun h19 hF=>?_)
 refine go ?_
 refine WPU.block ?_
 obtain ⟨x20,h21,hF⟩:=q00 hF
 obtain ⟨r22,h23,hF⟩:=q00 hF
 refine go ?_
 refine RS.q (u:=.int .u8 x20) rfl (qk0 un9.h rfl rfl h21) ?_
 refine go ?_
 refine RS.cl rfl (pC (qop n x20 p2 r22 h23) _) fn110 ?_
 refine go ?_
 refine cF hF (fun h24 hF=>?_) (fun h24 hF=>?_)
 exact gx hF
 refine go ?_
 exact lC ⟨_,hF,rfl,rfl⟩
 refine go ?_
 exact xC ⟨hF,rfl,rfl⟩
 rcases gB h13 with ⟨h3,h13⟩ | ⟨h3,h13⟩
 obtain rfl:=sI h13
 refine go ?_
 refine RS.q (u:=.i6 (p1.length:Int)) rfl (qay rfl rfl rfl (by simp only [qlu,un9.h])) ?_
 refine go ?_
 exact xC ⟨rfl,rfl⟩
 rcases gB h13 with ⟨h4,h13⟩ | ⟨h4,h13⟩
 obtain rfl:=sI h13
 refine go ?_
 refine RS.q (u:=.i6 (p1.length:Int)) rfl (qay rfl rfl rfl (by simp only [qlu,un9.h])) ?_
 refine go ?_
 refine RS.w (u:=.i6 (p1.length:Int)) rfl (qay rfl rfl rfl (by simp only [qlu,un9.h])) ?_
 refine go ?_
 exact xC ⟨rfl,rfl⟩
 obtain ⟨x5,h6,h13⟩:=q00 h13
 obtain ⟨r7,h8,h13⟩:=q00 h13
 rcases gB h13 with ⟨h9,h13⟩ | ⟨h9,h13⟩
 obtain rfl:=sI h13
 refine go ?_
 refine RS.q (u:=.i6 (p1.length:Int)) rfl (qay rfl rfl rfl (by simp only [qlu,un9.h])) ?_
 refine go ?_
 refine RS.w (u:=.i6 (p1.length:Int)) rfl (qay rfl rfl rfl (by simp only [qlu,un9.h])) ?_
 refine go ?_
 refine RS.w (u:=.int .u8 x5) rfl (qk0 un9.h rfl rfl h6) (RS.cl rfl (pC (q2n n x5 r7 h8) _) fn109 ?_)
 refine go ?_
 exact xC ⟨rfl,rfl⟩
 obtain ⟨x10,h11,h13⟩:=q00 h13
 obtain rfl:=sI h13
 refine go ?_
 refine RS.q (u:=.i6 (p1.length:Int)) rfl (qay rfl rfl rfl (by simp only [qlu,un9.h])) ?_
 refine go ?_
 refine RS.w (u:=.i6 (p1.length:Int)) rfl (qay rfl rfl rfl (by simp only [qlu,un9.h])) ?_
 refine go ?_
 refine RS.w (u:=.int .u8 x5) rfl (qk0 un9.h rfl rfl h6) (RS.cl rfl (pC (q2n n x5 r7 h8) _) fn109 ?_)
 refine go ?_
 refine RS.w (u:=.int .u8 x10) rfl (qk0 un9.h rfl rfl h11) ?_
 refine go ?_
 exact xC ⟨rfl,rfl⟩
def q22 (n:Nat) (p1:List UInt8):Option (Bool) :=
 q03 (q66 n p1 true) fun r2 =>
 some r2
theorem qdm (n:Nat) (p1:List UInt8) (r:Bool) (hF:q22 n p1=some r):EvU Tryz.prog 57 [.str p1] ⟨[],0⟩ (fun u _=>u = .bool r∧Bel 0 u):=by
 unfold q22 at hF
 refine bg1 5 fn57 ?_
 obtain ⟨r2,h3,hF⟩:=q00 hF
 refine go ?_
 refine RS.cl rfl (pC (qgb n p1 true r2 h3) _) fn81 ?_
 exact gx hF
def q60   : Option (Int) :=
 some (-1)
def q13 (p1:q09) (p2:List UInt8):Nat→Int→Option (Int)
 | 0,_=>none
 | m1+1,z7 =>
  cond (decide (z7<(p1.Feats.length:Int)))
   (q03 (q0o p1.Feats z7) fun x9 =>
   cond (q0k x9.Name p2)
    (some z7)
    ((q13 p1 p2 m1) (IntKind.i64.wrap (z7+1))))
   (q60)
def q7c (n:Nat) (p1:q09) (p2:List UInt8):Option (Int) :=
 q13 p1 p2 n 0
theorem qk8 (n:Nat) (p1:q09) (p2:List UInt8) (r:Int) (hF:q7c n p1 p2=some r):EvU Tryz.prog 58 [.agg (q0a p1),.str p2] ⟨[],0⟩ (fun u _=>u = .int .i64 r∧Bel 0 u):=by
 unfold q7c at hF
 refine bg2 22 fn58 ?_
 refine go ?_
 refine gS (l':=[(1,_),(2,_),(5,_)]) ?_
 refine z0j (fun m tm σ=>∃ z7:Int,q13 p1 p2 m z7=some r∧tm=fr 22 [(1,.str p2),(2,.ptr 0 0 0),(5,.i6 z7)]∧σ=⟨[(0,.row (q0a p1) 43)],1⟩) (fun tm σ=>q60=some r∧tm=fr 22 []∧σ=⟨[(0,.row (q0a p1) 43)],1⟩) n ⟨0,hF,rfl,rfl⟩ ?_ ?_
 rintro _ _ ⟨hF,rfl,rfl⟩
 unfold q60 at hF
 exact gx hF
 rintro (_|m1) _ _ ⟨z7,hF,rfl,rfl⟩
 cases hF
 unfold q13 at hF
 refine go ?_
 refine cF hF (fun h8 hF=>?_) (fun h8 hF=>?_)
 refine go ?_
 refine WPU.block ?_
 obtain ⟨x9,h10,hF⟩:=q00 hF
 refine go ?_
 refine RS.ix h10 ?_
 refine go ?_
 refine RS.q (u:=.bool (q0k x9.Name p2)) rfl (q6e rfl rfl rfl rfl) ?_
 refine go ?_
 refine cF hF (fun h11 hF=>?_) (fun h11 hF=>?_)
 exact gx hF
 refine go ?_
 exact lC ⟨_,hF,rfl,rfl⟩
 refine go ?_
 exact xC ⟨hF,rfl,rfl⟩
def q8n  (l21:List Int):Option ((List Int)×Int) :=
 some (l21,0)
def q4d (p1:q09) (n:Nat) (r4:(List (List UInt8))):Nat→Int→(List Int)→Option ((List Int)×Int)
 | 0,_,_=>none
 | m2+1,z18,l19 =>
  cond (decide (z18<(r4.length:Int)))
   (q03 (q0o r4 z18) fun x24 =>
   q03 (q7c n p1 x24) fun r26 =>
   cond (decide (r26<0))
    (some ([],5))
    (q0y ((l19.length+1)*8≤140737488355328∧l19.length+1≤140737488355328) (
    (q4d p1 n r4 m2) (IntKind.i64.wrap (z18+1)) (l19++[r26]))))
   (q8n l19)
def q8m (p1:q09) (n:Nat) (r4:(List (List UInt8)))  : Option ((List Int)×Int) :=
 q4d p1 n r4 n 0 ([]:List Int)
def q4c (p1:q09) (n:Nat) (r4:(List (List UInt8))):Nat→Int→Option ((List Int)×Int)
 | 0,_=>none
 | m1+1,z11 =>
  cond (decide (z11<(r4.length:Int)))
   (q03 (q0o r4 z11) fun x31 =>
   q03 (q22 n x31) fun r33 =>
   cond (!r33)
    (some ([],8))
    ((q4c p1 n r4 m1) (IntKind.i64.wrap (z11+1))))
   (q8m p1 n r4)
def qaj (n:Nat) (p1:q09) (p2:List UInt8):Option ((List Int)×Int) :=
 cond (q0k p2 [])
  (some ([],0))
  (q03 (qcu n p2) fun r4 =>
  cond (decide ((r4.length:Int) > 64))
   (some ([],7))
   (q4c p1 n r4 n 0))
theorem qn4 (n:Nat) (p1:q09) (p2:List UInt8) (r:(List Int)×Int) (hF:qaj n p1 p2=some r):EvU Tryz.prog 29 [.agg (q0a p1),.str p2] ⟨[],0⟩ (fun u _=>u = .tup [.isl false (List.map (cI .i64) r.1),.int .i64 r.2]∧Bel 0 u):=by
 unfold qaj at hF
 refine bg2 49 fn29 ?_
 refine go ?_
 refine RS.q (u:=.bool (q0k p2 [])) rfl (q6e rfl rfl rfl rfl) ?_
 refine go ?_
 refine cF hF (fun h3 hF=>?_) (fun h3 hF=>?_)
 refine go ?_
 obtain rfl:=sI hF
 exact rT (us:=[.nils,.i6 0]) (u:=.tup [.isl false [],.i6 0]) (q1v rfl (q1v rfl (q2r))) wR
 obtain ⟨r4,h5,hF⟩:=q00 hF
 refine go ?_
 refine RS.cl rfl (pC (qn5 n p2 r4 h5) _) fn56 ?_
 refine go ?_
 refine cF hF (fun h6 hF=>?_) (fun h6 hF=>?_)
 refine go ?_
 obtain rfl:=sI hF
 exact rT (us:=[.nils,.i6 7]) (u:=.tup [.isl false [],.i6 7]) (q1v rfl (q1v rfl (q2r))) wR
 refine go ?_
 refine gS (l':=[(2,_),(6,_),(7,_)]) ?_
 refine z0j (fun m tm σ=>∃ z11:Int,q4c p1 n r4 m z11=some r∧tm=fr 49 [(2,.ptr 0 0 0),(6,.iM cS r4),(7,.i6 z11)]∧σ=⟨[(0,.row (q0a p1) 43)],1⟩) (fun tm σ=>q8m p1 n r4=some r∧tm=fr 49 [(2,.ptr 0 0 0),(6,.iM cS r4)]∧σ=⟨[(0,.row (q0a p1) 43)],1⟩) n ⟨0,hF,rfl,rfl⟩ ?_ ?_
 rintro _ _ ⟨hF,rfl,rfl⟩
 unfold q8m at hF
 refine gr ?_
 refine gr ?_
 refine WPU.ghost (tm':=fr 49 [(2,.ptr 0 0 0),(6,.iM cS r4),(8,.vl 1 0 0 (([]:List Int).length)),(9,.i6 0)]) (σ':=⟨[(1,.vec (List.map (cI .i64) ([]:List Int)).flatten 3 1 0),(0,.row (q0a p1) 43)],2⟩) (Gh.trans (z0n 8 3 1 (by decide) NZ rfl rfl) (z0o ⟨rfl,rfl,rfl,rfl,trivial⟩ rfl)) NZ ?_
 refine gS (l':=[(2,_),(6,_),(8,_),(9,_)]) ?_
 refine z0j (fun m tm σ=>∃ z18:Int,∃ l19:List Int,∃ t20:Nat,q4d p1 n r4 m z18 l19=some r∧tm=fr 49 [(2,.ptr 0 0 0),(6,.iM cS r4),(8,.vl 1 t20 0 l19.length),(9,.i6 z18)]∧σ=⟨[(1,.vec (List.map (cI .i64) l19).flatten 3 1 t20),(0,.row (q0a p1) 43)],2⟩) (fun tm σ=>∃ l21:List Int,∃ t22:Nat,q8n l21=some r∧tm=fr 49 [(8,.vl 1 t22 0 l21.length)]∧σ=⟨[(1,.vec (List.map (cI .i64) l21).flatten 3 1 t22),(0,.row (q0a p1) 43)],2⟩) n ⟨0,([]:List Int),0,hF,rfl,rfl⟩ ?_ ?_
 rintro _ _ ⟨l21,t22,hF,rfl,rfl⟩
 unfold q8n at hF
 refine go ?_
 obtain rfl:=sI hF
 exact rT (us:=[.vl 1 t22 0 l21.length,.i6 0]) (u:=.tup [.iM (cI .i64) l21,.i6 0]) (q1v rfl (q1v rfl (q2r))) (fR 1 1)
 rintro (_|m2) _ _ ⟨z18,l19,t20,hF,rfl,rfl⟩
 cases hF
 unfold q4d at hF
 refine go ?_
 refine cF hF (fun h23 hF=>?_) (fun h23 hF=>?_)
 refine go ?_
 refine WPU.block ?_
 obtain ⟨x24,h25,hF⟩:=q00 hF
 obtain ⟨r26,h27,hF⟩:=q00 hF
 refine go ?_
 refine z0m Tryz.tb_ok [] (by kernel_rfl) ?_
 refine gd ?_
 refine RD.ix h25 ?_
 refine gd ?_
 refine RD.fl rfl (pC (qk8 n p1 x24 r26 h27)) fn58 ?_
 refine gd ?_
 refine RD.done ⟨by kernel_rfl,trivial,?_⟩
 refine go ?_
 refine cF hF (fun h28 hF=>?_) (fun h28 hF=>?_)
 refine go ?_
 obtain rfl:=sI hF
 exact rT (us:=[.nils,.i6 5]) (u:=.tup [.isl false [],.i6 5]) (q1v rfl (q1v rfl (q2r))) wR
 obtain ⟨h29,hF⟩:=q08 hF
 refine go ?_
 refine RS.g ?_
 refine RS.g ?_
 refine go ?_
 exact lC ⟨_,(l19++[r26]),(t20+1),hF,rfl,rfl⟩
 refine go ?_
 exact xC ⟨l19,t20,hF,rfl,rfl⟩
 rintro (_|m1) _ _ ⟨z11,hF,rfl,rfl⟩
 cases hF
 unfold q4c at hF
 refine go ?_
 refine cF hF (fun h30 hF=>?_) (fun h30 hF=>?_)
 refine go ?_
 refine WPU.block ?_
 obtain ⟨x31,h32,hF⟩:=q00 hF
 obtain ⟨r33,h34,hF⟩:=q00 hF
 refine go ?_
 refine RS.ix h32 ?_
 refine go ?_
 refine RS.cl rfl (pC (qdm n x31 r33 h34) _) fn57 ?_
 refine go ?_
 refine cF hF (fun h35 hF=>?_) (fun h35 hF=>?_)
 refine go ?_
 obtain rfl:=sI hF
 exact rT (us:=[.nils,.i6 8]) (u:=.tup [.isl false [],.i6 8]) (q1v rfl (q1v rfl (q2r))) wR
 refine go ?_
 exact lC ⟨_,hF,rfl,rfl⟩
 refine go ?_
 exact xC ⟨hF,rfl,rfl⟩
def q6a   : Option (Bool) :=
 some true
def q41 (p1:List q0j) (p2:List q0j) (n:Nat):Nat→Int→Option (Bool)
 | 0,_=>none
 | m1+1,z7 =>
  cond (decide (z7<(p1.length:Int)))
   (q03 (q03 (q0o p1 z7) fun x9 =>
   q03 (q0o p2 z7) fun x11 =>
   q03 (qea n x9.A x11.A) fun r13 =>
   cond (!r13)
    (some true)
    (q03 (q0o p1 z7) fun x16 =>
    q03 (q0o p2 z7) fun x18 =>
    q03 (qea n x16.B x18.B) fun r20 =>
    some (!r20))) fun b22 =>
   cond b22
    (some false)
    ((q41 p1 p2 n m1) (IntKind.i64.wrap (z7+1))))
   (q6a)
def q63 (n:Nat) (p1:List q0j) (p2:List q0j):Option (Bool) :=
 cond ((p1.length:Int) != (p2.length:Int))
  (some false)
  (q41 p1 p2 n n 0)
theorem q7d (n:Nat) (p1:List q0j) (p2:List q0j) (r:Bool) (hF:q63 n p1 p2=some r):EvU Tryz.prog 17 [.isl false (List.map q19 p1),.isl false (List.map q19 p2)] ⟨[],0⟩ (fun u _=>u = .bool r∧Bel 0 u):=by
 unfold q63 at hF
 refine bg2 43 fn17 ?_
 refine go ?_
 refine cF hF (fun h3 hF=>?_) (fun h3 hF=>?_)
 exact gx hF
 refine go ?_
 refine gS (l':=[(0,_),(1,_),(5,_)]) ?_
 refine z0j (fun m tm σ=>∃ z7:Int,q41 p1 p2 n m z7=some r∧tm=fr 43 [(0,.iM q19 p1),(1,.iM q19 p2),(5,.i6 z7)]∧σ=⟨[],0⟩) (fun tm σ=>q6a=some r∧tm=fr 43 []∧σ=⟨[],0⟩) n ⟨0,hF,rfl,rfl⟩ ?_ ?_
 rintro _ _ ⟨hF,rfl,rfl⟩
 unfold q6a at hF
 exact gx hF
 rintro (_|m1) _ _ ⟨z7,hF,rfl,rfl⟩
 cases hF
 unfold q41 at hF
 refine go ?_
 refine cF hF (fun h8 hF=>?_) (fun h8 hF=>?_)
 refine go ?_
 refine WPU.block ?_
 obtain ⟨b22,h23,hF⟩:=q00 hF
 refine gn ?_
 refine z0k (fun tm σ=>tm=fr 43 [(0,.iM q19 p1),(1,.iM q19 p2),(5,.i6 z7),(42,.bool b22)]∧σ=⟨[],0⟩) ?_ ?_
 rintro _ _ ⟨rfl,rfl⟩
 refine go ?_
 refine cF hF (fun h24 hF=>?_) (fun h24 hF=>?_)
 exact gx hF
 refine go ?_
 exact lC ⟨_,hF,rfl,rfl⟩
 obtain ⟨x9,h10,h23⟩:=q00 h23
 obtain ⟨x11,h12,h23⟩:=q00 h23
 obtain ⟨r13,h14,h23⟩:=q00 h23
 rcases gB h23 with ⟨h15,h23⟩ | ⟨h15,h23⟩
 obtain rfl:=sI h23
 refine z0m Tryz.tb_ok [] (by kernel_rfl) ?_
 refine gd ?_
 refine RD.ix h10 ?_
 refine gd ?_
 refine RD.ix h12 ?_
 refine gd ?_
 refine RD.fl rfl (pC (qdt n x9.A x11.A r13 h14)) fn47 ?_
 refine gd ?_
 refine RD.done ⟨by kernel_rfl,trivial,?_⟩
 refine go ?_
 exact xC ⟨rfl,rfl⟩
 obtain ⟨x16,h17,h23⟩:=q00 h23
 obtain ⟨x18,h19,h23⟩:=q00 h23
 obtain ⟨r20,h21,h23⟩:=q00 h23
 obtain rfl:=sI h23
 refine z0m Tryz.tb_ok [] (by kernel_rfl) ?_
 refine gd ?_
 refine RD.ix h10 ?_
 refine gd ?_
 refine RD.ix h12 ?_
 refine gd ?_
 refine RD.fl rfl (pC (qdt n x9.A x11.A r13 h14)) fn47 ?_
 refine gd ?_
 refine RD.ix h17 ?_
 refine gd ?_
 refine RD.ix h19 ?_
 refine gd ?_
 refine RD.fl rfl (pC (qdt n x16.B x18.B r20 h21)) fn47 ?_
 refine gd ?_
 refine RD.done ⟨by kernel_rfl,trivial,?_⟩
 refine go ?_
 exact xC ⟨rfl,rfl⟩
 refine go ?_
 exact xC ⟨hF,rfl,rfl⟩
def q7p   : Option (Bool) :=
 some true
def q3s (p1:List Int) (p2:List Int):Nat→Int→Option (Bool)
 | 0,_=>none
 | m1+1,z7 =>
  cond (decide (z7<(p1.length:Int)))
   (q03 (q0o p1 z7) fun x9 =>
   q03 (q0o p2 z7) fun x11 =>
   cond (x9 != x11)
    (some false)
    ((q3s p1 p2 m1) (IntKind.i64.wrap (z7+1))))
   (q7p)
def q49 (n:Nat) (p1:List Int) (p2:List Int):Option (Bool) :=
 cond ((p1.length:Int) != (p2.length:Int))
  (some false)
  (q3s p1 p2 n 0)
theorem q1h (n:Nat) (p1:List Int) (p2:List Int) (r:Bool) (hF:q49 n p1 p2=some r):EvU Tryz.prog 28 [.isl false (List.map (cI .i64) p1),.isl false (List.map (cI .i64) p2)] ⟨[],0⟩ (fun u _=>u = .bool r∧Bel 0 u):=by
 unfold q49 at hF
 refine bg2 26 fn28 ?_
 refine go ?_
 refine cF hF (fun h3 hF=>?_) (fun h3 hF=>?_)
 exact gx hF
 refine go ?_
 refine gS (l':=[(0,_),(1,_),(5,_)]) ?_
 refine z0j (fun m tm σ=>∃ z7:Int,q3s p1 p2 m z7=some r∧tm=fr 26 [(0,.iM (cI .i64) p1),(1,.iM (cI .i64) p2),(5,.i6 z7)]∧σ=⟨[],0⟩) (fun tm σ=>q7p=some r∧tm=fr 26 []∧σ=⟨[],0⟩) n ⟨0,hF,rfl,rfl⟩ ?_ ?_
 rintro _ _ ⟨hF,rfl,rfl⟩
 unfold q7p at hF
 exact gx hF
 rintro (_|m1) _ _ ⟨z7,hF,rfl,rfl⟩
 cases hF
 unfold q3s at hF
 refine go ?_
 refine cF hF (fun h8 hF=>?_) (fun h8 hF=>?_)
 refine go ?_
 refine WPU.block ?_
 obtain ⟨x9,h10,hF⟩:=q00 hF
 obtain ⟨x11,h12,hF⟩:=q00 hF
 refine go ?_
 refine z0m Tryz.tb_ok [] (by kernel_rfl) ?_
 refine gd ?_
 refine RD.ix h10 ?_
 refine gd ?_
 refine RD.ix h12 ?_
 refine gd ?_
 refine RD.done ⟨by kernel_rfl,trivial,?_⟩
 refine go ?_
 refine cF hF (fun h13 hF=>?_) (fun h13 hF=>?_)
 exact gx hF
 refine go ?_
 exact lC ⟨_,hF,rfl,rfl⟩
 refine go ?_
 exact xC ⟨hF,rfl,rfl⟩
def q6y   : Option (Bool) :=
 some true
def q4k (p1:List (List Int)) (p2:List (List Int)) (n:Nat):Nat→Int→Option (Bool)
 | 0,_=>none
 | m1+1,z7 =>
  cond (decide (z7<(p1.length:Int)))
   (q03 (q0o p1 z7) fun x9 =>
   q03 (q0o p2 z7) fun x11 =>
   q03 (q49 n x9 x11) fun r13 =>
   cond (!r13)
    (some false)
    ((q4k p1 p2 n m1) (IntKind.i64.wrap (z7+1))))
   (q6y)
def qaa (n:Nat) (p1:List (List Int)) (p2:List (List Int)):Option (Bool) :=
 cond ((p1.length:Int) != (p2.length:Int))
  (some false)
  (q4k p1 p2 n n 0)
theorem q7q (n:Nat) (p1:List (List Int)) (p2:List (List Int)) (r:Bool) (hF:qaa n p1 p2=some r):EvU Tryz.prog 14 [.isl false (List.map (cL (cI .i64)) p1),.isl false (List.map (cL (cI .i64)) p2)] ⟨[],0⟩ (fun u _=>u = .bool r∧Bel 0 u):=by
 unfold qaa at hF
 refine bg2 27 fn14 ?_
 refine go ?_
 refine cF hF (fun h3 hF=>?_) (fun h3 hF=>?_)
 exact gx hF
 refine go ?_
 refine gS (l':=[(0,_),(1,_),(5,_)]) ?_
 refine z0j (fun m tm σ=>∃ z7:Int,q4k p1 p2 n m z7=some r∧tm=fr 27 [(0,.iM (cL (cI .i64)) p1),(1,.iM (cL (cI .i64)) p2),(5,.i6 z7)]∧σ=⟨[],0⟩) (fun tm σ=>q6y=some r∧tm=fr 27 []∧σ=⟨[],0⟩) n ⟨0,hF,rfl,rfl⟩ ?_ ?_
 rintro _ _ ⟨hF,rfl,rfl⟩
 unfold q6y at hF
 exact gx hF
 rintro (_|m1) _ _ ⟨z7,hF,rfl,rfl⟩
 cases hF
 unfold q4k at hF
 refine go ?_
 refine cF hF (fun h8 hF=>?_) (fun h8 hF=>?_)
 refine go ?_
 refine WPU.block ?_
 obtain ⟨x9,h10,hF⟩:=q00 hF
 obtain ⟨x11,h12,hF⟩:=q00 hF
 obtain ⟨r13,h14,hF⟩:=q00 hF
 refine go ?_
 refine z0m Tryz.tb_ok [] (by kernel_rfl) ?_
 refine gd ?_
 refine RD.ix h10 ?_
 refine gd ?_
 refine RD.ix h12 ?_
 refine gd ?_
 refine RD.fl rfl (pC (q1h n x9 x11 r13 h14)) fn28 ?_
 refine gd ?_
 refine RD.done ⟨by kernel_rfl,trivial,?_⟩
 refine go ?_
 refine cF hF (fun h15 hF=>?_) (fun h15 hF=>?_)
 exact gx hF
 refine go ?_
 exact lC ⟨_,hF,rfl,rfl⟩
 refine go ?_
 exact xC ⟨hF,rfl,rfl⟩
def q8c   : Option (Int) :=
 some 0
def q3j (p1:List q01):Nat→Int→Option (Int)
 | 0,_=>none
 | m1+1,z5 =>
  cond (decide (z5<(p1.length:Int)))
   (q03 (q03 (q0o p1 z5) fun x7 =>
   cond (decide ((x7.Supers.length:Int) > 256))
    (some true)
    (q03 (q0o p1 z5) fun x10 =>
    some (decide ((x10.Feats.length:Int) > 256)))) fun b12 =>
   cond b12
    (some 7)
    ((q3j p1 m1) (IntKind.i64.wrap (z5+1))))
   (q8c)
def qaf (n:Nat) (p1:List q01):Option (Int) :=
 cond (decide ((p1.length:Int) > 256))
  (some 7)
  (q3j p1 n 0)
theorem qmz (n:Nat) (p1:List q01) (r:Int) (hF:qaf n p1=some r):EvU Tryz.prog 121 [.isl false (List.map q02 p1)] ⟨[],0⟩ (fun u _=>u = .int .i64 r∧Bel 0 u):=by
 unfold qaf at hF
 refine bg1 29 fn121 ?_
 refine go ?_
 refine cF hF (fun h2 hF=>?_) (fun h2 hF=>?_)
 exact gx hF
 refine go ?_
 refine gS (l':=[(0,_),(3,_)]) ?_
 refine z0j (fun m tm σ=>∃ z5:Int,q3j p1 m z5=some r∧tm=fr 29 [(0,.iM q02 p1),(3,.i6 z5)]∧σ=⟨[],0⟩) (fun tm σ=>q8c=some r∧tm=fr 29 []∧σ=⟨[],0⟩) n ⟨0,hF,rfl,rfl⟩ ?_ ?_
 rintro _ _ ⟨hF,rfl,rfl⟩
 unfold q8c at hF
 exact gx hF
 rintro (_|m1) _ _ ⟨z5,hF,rfl,rfl⟩
 cases hF
 unfold q3j at hF
 refine go ?_
 refine cF hF (fun h6 hF=>?_) (fun h6 hF=>?_)
 refine go ?_
 refine WPU.block ?_
 obtain ⟨b12,h13,hF⟩:=q00 hF
 refine gn ?_
 refine z0k (fun tm σ=>tm=fr 29 [(0,.iM q02 p1),(3,.i6 z5),(28,.bool b12)]∧σ=⟨[],0⟩) ?_ ?_
 rintro _ _ ⟨rfl,rfl⟩
 refine go ?_
 refine cF hF (fun h14 hF=>?_) (fun h14 hF=>?_)
 exact gx hF
 refine go ?_
 exact lC ⟨_,hF,rfl,rfl⟩
 obtain ⟨x7,h8,h13⟩:=q00 h13
 rcases gB h13 with ⟨h9,h13⟩ | ⟨h9,h13⟩
 obtain rfl:=sI h13
 refine go ?_
 refine RS.ix h8 ?_
 refine go ?_
 exact xC ⟨rfl,rfl⟩
 obtain ⟨x10,h11,h13⟩:=q00 h13
 obtain rfl:=sI h13
 refine go ?_
 refine RS.ix h8 ?_
 refine go ?_
 refine RS.ix h11 ?_
 refine go ?_
 exact xC ⟨rfl,rfl⟩
 refine go ?_
 exact xC ⟨hF,rfl,rfl⟩
def qbq (n:Nat) (p1:List UInt8):Option (Bool) :=
 q03 (q66 n p1 false) fun r2 =>
 some r2
theorem qoo (n:Nat) (p1:List UInt8) (r:Bool) (hF:qbq n p1=some r):EvU Tryz.prog 147 [.str p1] ⟨[],0⟩ (fun u _=>u = .bool r∧Bel 0 u):=by
 unfold qbq at hF
 refine bg1 5 fn147 ?_
 obtain ⟨r2,h3,hF⟩:=q00 hF
 refine go ?_
 refine RS.cl rfl (pC (qgb n p1 false r2 h3) _) fn81 ?_
 exact gx hF
def q9n   : Option (Int) :=
 some (-1)
def q3y (p1:List q01) (p2:List UInt8):Nat→Int→Option (Int)
 | 0,_=>none
 | m1+1,z6 =>
  cond (decide (z6<(p1.length:Int)))
   (q03 (q0o p1 z6) fun x8 =>
   cond (q0k x8.Name p2)
    (some z6)
    ((q3y p1 p2 m1) (IntKind.i64.wrap (z6+1))))
   (q9n)
def q3u (n:Nat) (p1:List q01) (p2:List UInt8):Option (Int) :=
 q3y p1 p2 n 0
theorem q6l (n:Nat) (p1:List q01) (p2:List UInt8) (r:Int) (hF:q3u n p1 p2=some r):EvU Tryz.prog 148 [.isl false (List.map q02 p1),.str p2] ⟨[],0⟩ (fun u _=>u = .int .i64 r∧Bel 0 u):=by
 unfold q3u at hF
 refine bg2 20 fn148 ?_
 refine go ?_
 refine gS (l':=[(0,_),(1,_),(5,_)]) ?_
 refine z0j (fun m tm σ=>∃ z6:Int,q3y p1 p2 m z6=some r∧tm=fr 20 [(0,.iM q02 p1),(1,.str p2),(5,.i6 z6)]∧σ=⟨[],0⟩) (fun tm σ=>q9n=some r∧tm=fr 20 []∧σ=⟨[],0⟩) n ⟨0,hF,rfl,rfl⟩ ?_ ?_
 rintro _ _ ⟨hF,rfl,rfl⟩
 unfold q9n at hF
 exact gx hF
 rintro (_|m1) _ _ ⟨z6,hF,rfl,rfl⟩
 cases hF
 unfold q3y at hF
 refine go ?_
 refine cF hF (fun h7 hF=>?_) (fun h7 hF=>?_)
 refine go ?_
 refine WPU.block ?_
 obtain ⟨x8,h9,hF⟩:=q00 hF
 refine go ?_
 refine RS.ix h9 ?_
 refine go ?_
 refine RS.q (u:=.bool (q0k x8.Name p2)) rfl (q6e rfl rfl rfl rfl) ?_
 refine go ?_
 refine cF hF (fun h10 hF=>?_) (fun h10 hF=>?_)
 exact gx hF
 refine go ?_
 exact lC ⟨_,hF,rfl,rfl⟩
 refine go ?_
 exact xC ⟨hF,rfl,rfl⟩
def q8a   : Option (Int) :=
 some 0
def q3h (p1:List q01) (n:Nat):Nat→Int→Option (Int)
 | 0,_=>none
 | m1+1,z4 =>
  cond (decide (z4<(p1.length:Int)))
   (q03 (q0o p1 z4) fun x6 =>
   q03 (qbq n x6.Name) fun r8 =>
   cond (!r8)
    (some 1)
    (q03 (q0o p1 z4) fun x11 =>
    q03 (q3u n p1 x11.Name) fun r13 =>
    cond (decide (r13<z4))
     (some 4)
     ((q3h p1 n m1) (IntKind.i64.wrap (z4+1)))))
   (q8a)
def qcm (n:Nat) (p1:List q01):Option (Int) :=
 q3h p1 n n 0
theorem qmx (n:Nat) (p1:List q01) (r:Int) (hF:qcm n p1=some r):EvU Tryz.prog 122 [.isl false (List.map q02 p1)] ⟨[],0⟩ (fun u _=>u = .int .i64 r∧Bel 0 u):=by
 unfold qcm at hF
 refine bg1 26 fn122 ?_
 refine go ?_
 refine gS (l':=[(0,_),(3,_)]) ?_
 refine z0j (fun m tm σ=>∃ z4:Int,q3h p1 n m z4=some r∧tm=fr 26 [(0,.iM q02 p1),(3,.i6 z4)]∧σ=⟨[],0⟩) (fun tm σ=>q8a=some r∧tm=fr 26 []∧σ=⟨[],0⟩) n ⟨0,hF,rfl,rfl⟩ ?_ ?_
 rintro _ _ ⟨hF,rfl,rfl⟩
 unfold q8a at hF
 exact gx hF
 rintro (_|m1) _ _ ⟨z4,hF,rfl,rfl⟩
 cases hF
 unfold q3h at hF
 refine go ?_
 refine cF hF (fun h5 hF=>?_) (fun h5 hF=>?_)
 refine go ?_
 refine WPU.block ?_
 obtain ⟨x6,h7,hF⟩:=q00 hF
 obtain ⟨r8,h9,hF⟩:=q00 hF
 refine go ?_
 refine RS.ix h7 ?_
 refine go ?_
 refine RS.cl rfl (pC (qoo n x6.Name r8 h9) _) fn147 ?_
 refine go ?_
 refine cF hF (fun h10 hF=>?_) (fun h10 hF=>?_)
 exact gx hF
 obtain ⟨x11,h12,hF⟩:=q00 hF
 obtain ⟨r13,h14,hF⟩:=q00 hF
 refine go ?_
 refine RS.ix h12 ?_
 refine go ?_
 refine RS.cl rfl (pC (q6l n p1 x11.Name r13 h14) _) fn148 ?_
 refine go ?_
 refine cF hF (fun h15 hF=>?_) (fun h15 hF=>?_)
 exact gx hF
 refine go ?_
 exact lC ⟨_,hF,rfl,rfl⟩
 refine go ?_
 exact xC ⟨hF,rfl,rfl⟩
def q83   : Option (Bool) :=
 some false
def q4a (p1:List (List UInt8)) (p2:List UInt8):Nat→Int→Option (Bool)
 | 0,_=>none
 | m1+1,z6 =>
  cond (decide (z6<(p1.length:Int)))
   (q03 (q0o p1 z6) fun x8 =>
   cond (q0k x8 p2)
    (some true)
    ((q4a p1 p2 m1) (IntKind.i64.wrap (z6+1))))
   (q83)
def q2g (n:Nat) (p1:List (List UInt8)) (p2:List UInt8):Option (Bool) :=
 q4a p1 p2 n 0
theorem q1t (n:Nat) (p1:List (List UInt8)) (p2:List UInt8) (r:Bool) (hF:q2g n p1 p2=some r):EvU Tryz.prog 126 [.isl false (List.map cS p1),.str p2] ⟨[],0⟩ (fun u _=>u = .bool r∧Bel 0 u):=by
 unfold q2g at hF
 refine bg2 18 fn126 ?_
 refine go ?_
 refine gS (l':=[(0,_),(1,_),(5,_)]) ?_
 refine z0j (fun m tm σ=>∃ z6:Int,q4a p1 p2 m z6=some r∧tm=fr 18 [(0,.iM cS p1),(1,.str p2),(5,.i6 z6)]∧σ=⟨[],0⟩) (fun tm σ=>q83=some r∧tm=fr 18 []∧σ=⟨[],0⟩) n ⟨0,hF,rfl,rfl⟩ ?_ ?_
 rintro _ _ ⟨hF,rfl,rfl⟩
 unfold q83 at hF
 exact gx hF
 rintro (_|m1) _ _ ⟨z6,hF,rfl,rfl⟩
 cases hF
 unfold q4a at hF
 refine go ?_
 refine cF hF (fun h7 hF=>?_) (fun h7 hF=>?_)
 refine go ?_
 refine WPU.block ?_
 obtain ⟨x8,h9,hF⟩:=q00 hF
 refine go ?_
 refine RS.ix h9 ?_
 refine go ?_
 refine RS.q (u:=.bool (q0k x8 p2)) rfl (q6e rfl rfl rfl rfl) ?_
 refine go ?_
 refine cF hF (fun h10 hF=>?_) (fun h10 hF=>?_)
 exact gx hF
 refine go ?_
 exact lC ⟨_,hF,rfl,rfl⟩
 refine go ?_
 exact xC ⟨hF,rfl,rfl⟩
def q73 (z4:Int) (rc1:Int→Option (Int))  : Option (Int) :=
 rc1 (IntKind.i64.wrap (z4+1))
def q2z (p1:List q01) (n:Nat) (z4:Int) (rc1:Int→Option (Int)) (x6:q01):Nat→Int→Option (Int)
 | 0,_=>none
 | m2+1,z12 =>
  cond (decide (z12<(x6.Supers.length:Int)))
   (q03 (q0o x6.Supers z12) fun x14 =>
   q03 (q3u n p1 x14) fun r16 =>
   cond (decide (r16<0))
    (some 5)
    (q03 (qnu x6.Supers 0 z12) fun l19 =>
    q03 (q0o x6.Supers z12) fun x23 =>
    q03 (q2g n l19 x23) fun r25 =>
    cond r25
     (some 4)
     ((q2z p1 n z4 rc1 x6 m2) (IntKind.i64.wrap (z12+1)))))
   (q73 z4 rc1)
def q72   : Option (Int) :=
 some 0
def q1e (p1:List q01) (n:Nat):Nat→Int→Option (Int)
 | 0,_=>none
 | m1+1,z4 =>
  cond (decide (z4<(p1.length:Int)))
   (q03 (q0o p1 z4) fun x6 =>
   q2z p1 n z4 (q1e p1 n m1) x6 n 0)
   (q72)
def qb4 (n:Nat) (p1:List q01):Option (Int) :=
 q1e p1 n n 0
theorem ql4 (n:Nat) (p1:List q01) (r:Int) (hF:qb4 n p1=some r):EvU Tryz.prog 123 [.isl false (List.map q02 p1)] ⟨[],0⟩ (fun u _=>u = .int .i64 r∧Bel 0 u):=by
 unfold qb4 at hF
 refine bg1 38 fn123 ?_
 refine go ?_
 refine gS (l':=[(0,_),(3,_)]) ?_
 refine z0j (fun m tm σ=>∃ z4:Int,q1e p1 n m z4=some r∧tm=fr 38 [(0,.iM q02 p1),(3,.i6 z4)]∧σ=⟨[],0⟩) (fun tm σ=>q72=some r∧tm=fr 38 []∧σ=⟨[],0⟩) n ⟨0,hF,rfl,rfl⟩ ?_ ?_
 rintro _ _ ⟨hF,rfl,rfl⟩
 unfold q72 at hF
 exact gx hF
 rintro (_|m1) _ _ ⟨z4,hF,rfl,rfl⟩
 cases hF
 unfold q1e at hF
 refine go ?_
 refine cF hF (fun h5 hF=>?_) (fun h5 hF=>?_)
 refine go ?_
 refine WPU.block ?_
 obtain ⟨x6,h7,hF⟩:=q00 hF
 refine go ?_
 refine RS.ix h7 ?_
 refine go ?_
 refine gS (l':=[(0,_),(3,_),(4,_),(5,_)]) ?_
 refine z0j (fun m tm σ=>∃ z12:Int,q2z p1 n z4 (q1e p1 n m1) x6 m z12=some r∧tm=fr 38 [(0,.iM q02 p1),(3,.i6 z4),(4,.iM cS x6.Supers),(5,.i6 z12)]∧σ=⟨[],0⟩) (fun tm σ=>q73 z4 (q1e p1 n m1)=some r∧tm=fr 38 [(0,.iM q02 p1),(3,.i6 z4)]∧σ=⟨[],0⟩) n ⟨0,hF,rfl,rfl⟩ ?_ ?_
 rintro _ _ ⟨hF,rfl,rfl⟩
 unfold q73 at hF
 refine go ?_
 exact lC ⟨_,hF,rfl,rfl⟩
 rintro (_|m2) _ _ ⟨z12,hF,rfl,rfl⟩
 cases hF
 unfold q2z at hF
 refine go ?_
 refine cF hF (fun h13 hF=>?_) (fun h13 hF=>?_)
 refine go ?_
 refine WPU.block ?_
 obtain ⟨x14,h15,hF⟩:=q00 hF
 obtain ⟨r16,h17,hF⟩:=q00 hF
 refine go ?_
 refine RS.ix h15 ?_
 refine go ?_
 refine RS.cl rfl (pC (q6l n p1 x14 r16 h17) _) fn148 ?_
 refine go ?_
 refine cF hF (fun h18 hF=>?_) (fun h18 hF=>?_)
 exact gx hF
 obtain ⟨l19,h20,hF⟩:=q00 hF
 obtain ⟨h21,h22⟩:=qti cS .i64 h20
 obtain ⟨x23,h24,hF⟩:=q00 hF
 obtain ⟨r25,h26,hF⟩:=q00 hF
 refine go ?_
 refine z0m Tryz.tb_ok [] (by kernel_rfl) ?_
 refine gd ?_
 refine RD.q (u:=.iM cS l19) rfl (qc8 rfl qs4 (qy5 rfl) qs4 (qrn cS un80.h (q2l if9.h) qes h21 h22)) ?_
 refine gd ?_
 refine RD.ix h24 ?_
 refine gd ?_
 refine RD.fl rfl (pC (q1t n l19 x23 r25 h26)) fn126 ?_
 refine RD.done ⟨by kernel_rfl,trivial,?_⟩
 refine go ?_
 refine cF hF (fun h27 hF=>?_) (fun h27 hF=>?_)
 exact gx hF
 refine go ?_
 exact lC ⟨_,hF,rfl,rfl⟩
 refine go ?_
 exact xC ⟨hF,rfl,rfl⟩
 refine go ?_
 exact xC ⟨hF,rfl,rfl⟩
def q8b   : Option (Bool) :=
 some true
def q3i (p1:q01) (p2:List (List UInt8)) (n:Nat):Nat→Int→Option (Bool)
 | 0,_=>none
 | m1+1,z8 =>
  cond (decide (z8<(p1.Supers.length:Int)))
   (q03 (q0o p1.Supers z8) fun x10 =>
   q03 (q2g n p2 x10) fun r12 =>
   cond (!r12)
    (some false)
    ((q3i p1 p2 n m1) (IntKind.i64.wrap (z8+1))))
   (q8b)
def qcn (n:Nat) (p1:q01) (p2:List (List UInt8)):Option (Bool) :=
 q3i p1 p2 n n 0
theorem qmy (n:Nat) (p1:q01) (p2:List (List UInt8)) (r:Bool) (hF:qcn n p1 p2=some r):EvU Tryz.prog 149 [.agg (q02 p1),.isl false (List.map cS p2)] ⟨[],0⟩ (fun u _=>u = .bool r∧Bel 0 u):=by
 unfold qcn at hF
 refine bg2 21 fn149 ?_
 refine go ?_
 refine gS (l':=[(1,_),(2,_),(5,_)]) ?_
 refine z0j (fun m tm σ=>∃ z8:Int,q3i p1 p2 n m z8=some r∧tm=fr 21 [(1,.iM cS p2),(2,.ptr 0 0 0),(5,.i6 z8)]∧σ=⟨[(0,.row (q02 p1) 127)],1⟩) (fun tm σ=>q8b=some r∧tm=fr 21 []∧σ=⟨[(0,.row (q02 p1) 127)],1⟩) n ⟨0,hF,rfl,rfl⟩ ?_ ?_
 rintro _ _ ⟨hF,rfl,rfl⟩
 unfold q8b at hF
 exact gx hF
 rintro (_|m1) _ _ ⟨z8,hF,rfl,rfl⟩
 cases hF
 unfold q3i at hF
 refine go ?_
 refine cF hF (fun h9 hF=>?_) (fun h9 hF=>?_)
 refine go ?_
 refine WPU.block ?_
 obtain ⟨x10,h11,hF⟩:=q00 hF
 obtain ⟨r12,h13,hF⟩:=q00 hF
 refine go ?_
 refine RS.ix h11 ?_
 refine go ?_
 refine RS.cl rfl (pC (q1t n p2 x10 r12 h13) _) fn126 ?_
 refine go ?_
 refine cF hF (fun h14 hF=>?_) (fun h14 hF=>?_)
 exact gx hF
 refine go ?_
 exact lC ⟨_,hF,rfl,rfl⟩
 refine go ?_
 exact xC ⟨hF,rfl,rfl⟩
def q4t (rc1:Bool→(List (List UInt8))→Option ((List (List UInt8)))) (b21:Bool) (l24:List (List UInt8)):Option ((List (List UInt8))) :=
 rc1 b21 l24
def q4u (z20:Int) (rc2:Bool→(List UInt8)→Int→Option ((List (List UInt8)))) (s46:List UInt8):Option ((List (List UInt8))) :=
 rc2 true s46 (IntKind.i64.wrap (z20+1))
def q71 (l7:List (List UInt8)) (rc1:Bool→(List (List UInt8))→Option ((List (List UInt8)))) (b21:Bool) (s22:List UInt8):Option ((List (List UInt8))) :=
 cond b21
  (q0y ((l7.length+1)*16≤140737488355328∧l7.length+1≤140737488355328) (
  q4t rc1 b21 (l7++[s22])))
  (q4t rc1 b21 l7)
def q1d (p1:List q01) (n:Nat) (l7:List (List UInt8)) (rc1:Bool→(List (List UInt8))→Option ((List (List UInt8)))):Nat→Bool→(List UInt8)→Int→Option ((List (List UInt8)))
 | 0,_,_,_=>none
 | m2+1,b18,s19,z20 =>
  cond (decide (z20<(p1.length:Int)))
   (q03 (q03 (q0o p1 z20) fun x28 =>
   q03 (q2g n l7 x28.Name) fun r30 =>
   cond r30
    (some true)
    (q03 (q0o p1 z20) fun x33 =>
    q03 (qcn n x33 l7) fun r35 =>
    some (!r35))) fun b37 =>
   cond b37
    ((q1d p1 n l7 rc1 m2) b18 s19 (IntKind.i64.wrap (z20+1)))
    (q03 (cond (!b18)
     (some true)
     (q03 (q0o p1 z20) fun x41 =>
     some (q11 x41.Name s19))) fun b43 =>
    cond b43
     (q03 (q0o p1 z20) fun x47 =>
     q4u z20 (q1d p1 n l7 rc1 m2) x47.Name)
     (q4u z20 (q1d p1 n l7 rc1 m2) s19)))
   (q71 l7 rc1 b18 s19)
def q70  (l9:List (List UInt8)):Option ((List (List UInt8))) :=
 some l9
def q15 (p1:List q01) (n:Nat):Nat→Bool→(List (List UInt8))→Option ((List (List UInt8)))
 | 0,_,_=>none
 | m1+1,b6,l7 =>
  cond b6
   (q1d p1 n l7 (q15 p1 n m1) n false [] 0)
   (q70 l7)
def qb3 (n:Nat) (p1:List q01):Option ((List (List UInt8))) :=
 q15 p1 n n true ([]:List (List UInt8))
theorem ql3 (n:Nat) (p1:List q01) (r:(List (List UInt8))) (hF:qb3 n p1=some r):EvU Tryz.prog 124 [.isl false (List.map q02 p1)] ⟨[],0⟩ (fun u _=>u = .isl false (List.map cS r)∧Bel 0 u):=by
 unfold qb3 at hF
 refine bg1 52 fn124 ?_
 refine gr ?_
 refine gr ?_
 refine gr ?_
 refine WPU.ghost (tm':=fr 52 [(0,.iM q02 p1),(3,.vl 0 0 0 (([]:List (List UInt8)).length)),(4,.bool true)]) (σ':=⟨[(0,.vec (List.map cS ([]:List (List UInt8))).flatten 9 1 0)],1⟩) (Gh.trans (z0n 3 9 1 (by decide) NZ rfl rfl) (z0o ⟨rfl,rfl,rfl,trivial⟩ rfl)) NZ ?_
 refine gS (l':=[(0,_),(3,_),(4,_)]) ?_
 refine z0j (fun m tm σ=>∃ b6:Bool,∃ l7:List (List UInt8),∃ t8:Nat,q15 p1 n m b6 l7=some r∧tm=fr 52 [(0,.iM q02 p1),(3,.vl 0 t8 0 l7.length),(4,.bool b6)]∧σ=⟨[(0,.vec (List.map cS l7).flatten 9 1 t8)],1⟩) (fun tm σ=>∃ l9:List (List UInt8),∃ t10:Nat,q70 l9=some r∧tm=fr 52 [(3,.vl 0 t10 0 l9.length)]∧σ=⟨[(0,.vec (List.map cS l9).flatten 9 1 t10)],1⟩) n ⟨true,([]:List (List UInt8)),0,hF,rfl,rfl⟩ ?_ ?_
 rintro _ _ ⟨l9,t10,hF,rfl,rfl⟩
 unfold q70 at hF
 refine go ?_
 obtain rfl:=sI hF
 exact rT (us:=[.vl 0 t10 0 l9.length]) (u:=.iM cS l9) (q1v rfl (q2r)) (fR 0 1)
 rintro (_|m1) _ _ ⟨b6,l7,t8,hF,rfl,rfl⟩
 cases hF
 unfold q15 at hF
 refine go ?_
 refine cF hF (fun h11 hF=>?_) (fun h11 hF=>?_)
 refine go ?_
 refine WPU.block ?_
 refine go ?_
 refine gS (l':=[(0,_),(3,_),(4,_),(5,_),(6,_)]) ?_
 refine z0j (fun m tm σ=>∃ b18:Bool,∃ s19:List UInt8,∃ z20:Int,q1d p1 n l7 (q15 p1 n m1) m b18 s19 z20=some r∧tm=fr 52 [(0,.iM q02 p1),(3,.vl 0 t8 0 l7.length),(4,.bool b18),(5,.str s19),(6,.i6 z20)]∧σ=⟨[(0,.vec (List.map cS l7).flatten 9 1 t8)],1⟩) (fun tm σ=>∃ b21:Bool,∃ s22:List UInt8,q71 l7 (q15 p1 n m1) b21 s22=some r∧tm=fr 52 [(0,.iM q02 p1),(3,.vl 0 t8 0 l7.length),(4,.bool b21),(5,.str s22)]∧σ=⟨[(0,.vec (List.map cS l7).flatten 9 1 t8)],1⟩) n ⟨false,[],0,hF,rfl,rfl⟩ ?_ ?_
 rintro _ _ ⟨b21,s22,hF,rfl,rfl⟩
 unfold q71 at hF
 refine gr ?_
 refine z0k (fun tm σ=>∃ l24:List (List UInt8),∃ t25:Nat,q4t (q15 p1 n m1) b21 l24=some r∧tm=fr 52 [(0,.iM q02 p1),(3,.vl 0 t25 0 l24.length),(4,.bool b21)]∧σ=⟨[(0,.vec (List.map cS l24).flatten 9 1 t25)],1⟩) ?_ ?_
 rintro _ _ ⟨l24,t25,hF,rfl,rfl⟩
 unfold q4t at hF
 refine go ?_
 exact lC ⟨b21,l24,t25,hF,rfl,rfl⟩
 refine cF hF (fun h23 hF=>?_) (fun h23 hF=>?_)
 obtain ⟨h26,hF⟩:=q08 hF
 refine go ?_
 refine RS.g ?_
 refine RS.g ?_
 refine go ?_
 exact xC ⟨(l7++[s22]),(t8+1),hF,rfl,rfl⟩
 refine go ?_
 exact xC ⟨l7,t8,hF,rfl,rfl⟩
 rintro (_|m2) _ _ ⟨b18,s19,z20,hF,rfl,rfl⟩
 cases hF
 unfold q1d at hF
 refine go ?_
 refine cF hF (fun h27 hF=>?_) (fun h27 hF=>?_)
 refine go ?_
 refine WPU.block ?_
 obtain ⟨b37,h38,hF⟩:=q00 hF
 refine gn ?_
 refine z0k (fun tm σ=>tm=fr 52 [(0,.iM q02 p1),(3,.vl 0 t8 0 l7.length),(4,.bool b18),(5,.str s19),(6,.i6 z20),(29,.bool b37)]∧σ=⟨[(0,.vec (List.map cS l7).flatten 9 1 t8)],1⟩) ?_ ?_
 rintro _ _ ⟨rfl,rfl⟩
 refine go ?_
 refine cF hF (fun h39 hF=>?_) (fun h39 hF=>?_)
 refine go ?_
 exact lC ⟨b18,s19,(IntKind.i64.wrap (z20+1)),hF,rfl,rfl⟩
 obtain ⟨b43,h44,hF⟩:=q00 hF
 refine gn ?_
 refine z0k (fun tm σ=>tm=fr 52 [(0,.iM q02 p1),(3,.vl 0 t8 0 l7.length),(5,.str s19),(6,.i6 z20),(40,.bool b43)]∧σ=⟨[(0,.vec (List.map cS l7).flatten 9 1 t8)],1⟩) ?_ ?_
 rintro _ _ ⟨rfl,rfl⟩
 refine gn ?_
 refine z0k (fun tm σ=>∃ s46:List UInt8,q4u z20 (q1d p1 n l7 (q15 p1 n m1) m2) s46=some r∧tm=fr 52 [(0,.iM q02 p1),(3,.vl 0 t8 0 l7.length),(5,.str s46),(6,.i6 z20)]∧σ=⟨[(0,.vec (List.map cS l7).flatten 9 1 t8)],1⟩) ?_ ?_
 rintro _ _ ⟨s46,hF,rfl,rfl⟩
 unfold q4u at hF
 refine go ?_
 exact lC ⟨true,s46,(IntKind.i64.wrap (z20+1)),hF,rfl,rfl⟩
 refine cF hF (fun h45 hF=>?_) (fun h45 hF=>?_)
 obtain ⟨x47,h48,hF⟩:=q00 hF
 refine go ?_
 refine RS.ix h48 ?_
 refine go ?_
 exact xC ⟨x47.Name,hF,rfl,rfl⟩
 refine go ?_
 exact xC ⟨s19,hF,rfl,rfl⟩
 rcases gB h44 with ⟨h40,h44⟩ | ⟨h40,h44⟩
 exact gy h44
 obtain ⟨x41,h42,h44⟩:=q00 h44
 obtain rfl:=sI h44
 refine go ?_
 refine RS.ix h42 ?_
 refine go ?_
 refine RS.w (u:=.bool (q11 x41.Name s19)) rfl (q6e rfl rfl rfl rfl) ?_
 refine go ?_
 exact xC ⟨rfl,rfl⟩
 obtain ⟨x28,h29,h38⟩:=q00 h38
 obtain ⟨r30,h31,h38⟩:=q00 h38
 rcases gB h38 with ⟨h32,h38⟩ | ⟨h32,h38⟩
 obtain rfl:=sI h38
 refine go ?_
 refine RS.ix h29 ?_
 refine go ?_
 refine RS.cl rfl (vw (q1t n l7 x28.Name r30 h31) (z0l 0 1)) fn126 ?_
 refine go ?_
 exact xC ⟨rfl,rfl⟩
 obtain ⟨x33,h34,h38⟩:=q00 h38
 obtain ⟨r35,h36,h38⟩:=q00 h38
 obtain rfl:=sI h38
 refine go ?_
 refine RS.ix h29 ?_
 refine go ?_
 refine RS.cl rfl (vw (q1t n l7 x28.Name r30 h31) (z0l 0 1)) fn126 ?_
 refine go ?_
 refine RS.ix h34 ?_
 refine go ?_
 refine RS.cl rfl (vw (qmy n x33 l7 r35 h36) (z0l 0 1)) fn149 ?_
 refine go ?_
 exact xC ⟨rfl,rfl⟩
 refine go ?_
 exact xC ⟨b18,s19,hF,rfl,rfl⟩
 refine go ?_
 exact xC ⟨l7,t8,hF,rfl,rfl⟩
def q5p (z15:Int) (rc1:Int→Int→Option (Int)) (z25:Int):Option (Int) :=
 rc1 z25 (IntKind.i64.wrap (z15+1))
def q87 (p1:List q01) (n:Nat) (z16:Int):Option (Int) :=
 cond (z16 != 1)
  (some 1)
  (q03 (qb3 n p1) fun r18 =>
  cond (decide ((r18.length:Int)<(p1.length:Int)))
   (some 6)
   (some 0))
def q26 (p1:List q01) (n:Nat):Nat→Int→Int→Option (Int)
 | 0,_,_=>none
 | m1+1,z14,z15 =>
  cond (decide (z15<(p1.length:Int)))
   (q03 (q0o p1 z15) fun x22 =>
   cond ((x22.Supers.length:Int) == 0)
    (q5p z15 (q26 p1 n m1) (IntKind.i64.wrap (z14+1)))
    (q5p z15 (q26 p1 n m1) z14))
   (q87 p1 n z14)
def qad (n:Nat) (p1:List q01):Option (Int) :=
 q03 (qaf n p1) fun r2 =>
 cond (r2 != 0)
  (some r2)
  (q03 (qcm n p1) fun r5 =>
  cond (r5 != 0)
   (some r5)
   (q03 (qb4 n p1) fun r8 =>
   cond (r8 != 0)
    (some r8)
    (q26 p1 n n 0 0)))
theorem qmw (n:Nat) (p1:List q01) (r:Int) (hF:qad n p1=some r):EvU Tryz.prog 94 [.isl false (List.map q02 p1)] ⟨[],0⟩ (fun u _=>u = .int .i64 r∧Bel 0 u):=by
 unfold qad at hF
 refine bg1 46 fn94 ?_
 obtain ⟨r2,h3,hF⟩:=q00 hF
 refine go ?_
 refine RS.cl rfl (pC (qmz n p1 r2 h3) _) fn121 ?_
 refine go ?_
 refine cF hF (fun h4 hF=>?_) (fun h4 hF=>?_)
 exact gx hF
 obtain ⟨r5,h6,hF⟩:=q00 hF
 refine go ?_
 refine RS.cl rfl (pC (qmx n p1 r5 h6) _) fn122 ?_
 refine go ?_
 refine cF hF (fun h7 hF=>?_) (fun h7 hF=>?_)
 exact gx hF
 obtain ⟨r8,h9,hF⟩:=q00 hF
 refine go ?_
 refine RS.cl rfl (pC (ql4 n p1 r8 h9) _) fn123 ?_
 refine go ?_
 refine cF hF (fun h10 hF=>?_) (fun h10 hF=>?_)
 exact gx hF
 refine go ?_
 refine gS (l':=[(0,_),(6,_),(7,_)]) ?_
 refine z0j (fun m tm σ=>∃ z14:Int,∃ z15:Int,q26 p1 n m z14 z15=some r∧tm=fr 46 [(0,.iM q02 p1),(6,.i6 z14),(7,.i6 z15)]∧σ=⟨[],0⟩) (fun tm σ=>∃ z16:Int,q87 p1 n z16=some r∧tm=fr 46 [(0,.iM q02 p1),(6,.i6 z16)]∧σ=⟨[],0⟩) n ⟨0,0,hF,rfl,rfl⟩ ?_ ?_
 rintro _ _ ⟨z16,hF,rfl,rfl⟩
 unfold q87 at hF
 refine go ?_
 refine cF hF (fun h17 hF=>?_) (fun h17 hF=>?_)
 exact gx hF
 obtain ⟨r18,h19,hF⟩:=q00 hF
 refine go ?_
 refine RS.cl rfl (pC (ql3 n p1 r18 h19) _) fn124 ?_
 refine go ?_
 refine cF hF (fun h20 hF=>?_) (fun h20 hF=>?_)
 exact gx hF
 exact gx hF
 rintro (_|m1) _ _ ⟨z14,z15,hF,rfl,rfl⟩
 cases hF
 unfold q26 at hF
 refine go ?_
 refine cF hF (fun h21 hF=>?_) (fun h21 hF=>?_)
 refine go ?_
 refine WPU.block ?_
 obtain ⟨x22,h23,hF⟩:=q00 hF
 refine go ?_
 refine RS.ix h23 ?_
 refine gn ?_
 refine z0k (fun tm σ=>∃ z25:Int,q5p z15 (q26 p1 n m1) z25=some r∧tm=fr 46 [(0,.iM q02 p1),(6,.i6 z25),(7,.i6 z15)]∧σ=⟨[],0⟩) ?_ ?_
 rintro _ _ ⟨z25,hF,rfl,rfl⟩
 unfold q5p at hF
 refine go ?_
 exact lC ⟨z25,(IntKind.i64.wrap (z15+1)),hF,rfl,rfl⟩
 refine cF hF (fun h24 hF=>?_) (fun h24 hF=>?_)
 refine go ?_
 exact xC ⟨(IntKind.i64.wrap (z14+1)),hF,rfl,rfl⟩
 refine go ?_
 exact xC ⟨z14,hF,rfl,rfl⟩
 refine go ?_
 exact xC ⟨z14,hF,rfl,rfl⟩
def q8v (p1:List (List UInt8)) (p2:List UInt8) (z7:Int):Option ((List (List UInt8))) :=
 q03 (cond (decide (z7<(p1.length:Int)))
  (q03 (q0o p1 z7) fun x9 =>
  some (q0k x9 p2))
  (some false)) fun b11 =>
 cond b11
  (some p1)
  (q03 (qnu p1 0 z7) fun l14 =>
  q0y (l14.length*16≤140737488355328∧l14.length≤140737488355328) (
  q0y ((l14.length+1)*16≤140737488355328∧l14.length+1≤140737488355328) (
  q03 (qnu p1 z7 (p1.length:Int)) fun l20 =>
  q0y (((l14++[p2]).length+l20.length)*16≤140737488355328∧(l14++[p2]).length+l20.length≤140737488355328) (
  some ((l14++[p2])++l20)))))
def q6k (p1:List (List UInt8)) (p2:List UInt8):Nat→Int→Option ((List (List UInt8)))
 | 0,_=>none
 | m1+1,z6 =>
  q03 (cond (decide (z6<(p1.length:Int)))
   (q03 (q0o p1 z6) fun x26 =>
   some (q11 x26 p2))
   (some false)) fun b28 =>
  cond b28
   ((q6k p1 p2 m1) (IntKind.i64.wrap (z6+1)))
   (q8v p1 p2 z6)
def q6z (n:Nat) (p1:List (List UInt8)) (p2:List UInt8):Option ((List (List UInt8))) :=
 q6k p1 p2 n 0
theorem q7s (n:Nat) (p1:List (List UInt8)) (p2:List UInt8) (r:(List (List UInt8))) (hF:q6z n p1 p2=some r):EvU Tryz.prog 116 [.isl false (List.map cS p1),.str p2] ⟨[],0⟩ (fun u _=>u = .isl false (List.map cS r)∧Bel 0 u):=by
 unfold q6z at hF
 refine bg2 48 fn116 ?_
 refine go ?_
 refine gS (l':=[(0,_),(1,_),(5,_),(6,_)]) ?_
 refine z0j (fun m tm σ=>∃ z6:Int,q6k p1 p2 m z6=some r∧tm=fr 48 [(0,.iM cS p1),(1,.str p2),(5,.nils),(6,.i6 z6)]∧σ=⟨[],0⟩) (fun tm σ=>∃ z7:Int,q8v p1 p2 z7=some r∧tm=fr 48 [(0,.iM cS p1),(1,.str p2),(5,.nils),(6,.i6 z7)]∧σ=⟨[],0⟩) n ⟨0,hF,rfl,rfl⟩ ?_ ?_
 rintro _ _ ⟨z7,hF,rfl,rfl⟩
 unfold q8v at hF
 obtain ⟨b11,h12,hF⟩:=q00 hF
 refine gn ?_
 refine z0k (fun tm σ=>tm=fr 48 [(0,.iM cS p1),(1,.str p2),(5,.nils),(6,.i6 z7),(32,.bool b11)]∧σ=⟨[],0⟩) ?_ ?_
 rintro _ _ ⟨rfl,rfl⟩
 refine go ?_
 refine cF hF (fun h13 hF=>?_) (fun h13 hF=>?_)
 exact gx hF
 obtain ⟨l14,h15,hF⟩:=q00 hF
 obtain ⟨h16,h17⟩:=qti cS .i64 h15
 obtain ⟨h18,hF⟩:=q08 hF
 refine go ?_
 refine RS.q (u:=.iM cS l14) rfl (qc8 rfl qs4 (qy5 rfl) qs4 (qrn cS un80.h (q2l if9.h) qes h16 h17)) (RS.q (u:=.vl 0 0 0 l14.length) (σ':=⟨[(0,.vec (List.map cS l14).flatten 9 1 0)],1⟩) rfl (qdk rfl rfl rfl rfl (qt0 cS l14 un80.h un80.h if9.h rfl (qhq cS qes) h18)) ?_)
 obtain ⟨h19,hF⟩:=q08 hF
 refine go ?_
 refine RS.g ?_
 refine RS.g ?_
 obtain ⟨l20,h21,hF⟩:=q00 hF
 obtain ⟨h22,h23⟩:=cut_lo cS .i64 h21
 obtain ⟨h24,hF⟩:=q08 hF
 refine go ?_
 refine RS.q (u:=.iM cS l20) rfl (qc8 rfl (qy5 rfl) qs4 qs4 (qrn cS un80.h (q2l if9.h) qes h22 h23)) ?_
 refine RS.g ?_
 refine go ?_
 obtain rfl:=sI hF
 exact rT (us:=[.vl 0 2 0 (((l14++[p2])++l20).length)]) (u:=.iM cS ((l14++[p2])++l20)) (q1v rfl (q2r)) (fR 0 1)
 rcases gB h12 with ⟨h8,h12⟩ | ⟨h8,h12⟩
 obtain ⟨x9,h10,h12⟩:=q00 h12
 obtain rfl:=sI h12
 refine go ?_
 refine RS.ix h10 ?_
 refine go ?_
 refine RS.w (u:=.bool (q0k x9 p2)) rfl (q6e rfl rfl rfl rfl) ?_
 refine go ?_
 exact xC ⟨rfl,rfl⟩
 exact gy h12
 rintro (_|m1) _ _ ⟨z6,hF,rfl,rfl⟩
 cases hF
 unfold q6k at hF
 obtain ⟨b28,h29,hF⟩:=q00 hF
 refine gn ?_
 refine z0k (fun tm σ=>tm=fr 48 [(0,.iM cS p1),(1,.str p2),(5,.nils),(6,.i6 z6),(18,.bool b28)]∧σ=⟨[],0⟩) ?_ ?_
 rintro _ _ ⟨rfl,rfl⟩
 refine go ?_
 refine cF hF (fun h30 hF=>?_) (fun h30 hF=>?_)
 refine go ?_
 refine WPU.block ?_
 refine go ?_
 exact lC ⟨_,hF,rfl,rfl⟩
 refine go ?_
 exact xC ⟨z6,hF,rfl,rfl⟩
 rcases gB h29 with ⟨h25,h29⟩ | ⟨h25,h29⟩
 obtain ⟨x26,h27,h29⟩:=q00 h29
 obtain rfl:=sI h29
 refine go ?_
 refine RS.ix h27 ?_
 refine go ?_
 refine RS.w (u:=.bool (q11 x26 p2)) rfl (q6e rfl rfl rfl rfl) ?_
 refine go ?_
 exact xC ⟨rfl,rfl⟩
 exact gy h29
def q88  (l7:List (List UInt8)):Option ((List (List UInt8))) :=
 some l7
def q3g (p1:List q01) (n:Nat):Nat→(List (List UInt8))→Int→Option ((List (List UInt8)))
 | 0,_,_=>none
 | m1+1,l5,z6 =>
  cond (decide (z6<(p1.length:Int)))
   (q03 (q0o p1 z6) fun x9 =>
   q03 (q6z n l5 x9.Name) fun r11 =>
   (q3g p1 n m1) r11 (IntKind.i64.wrap (z6+1)))
   (q88 l5)
def qae (n:Nat) (p1:List q01):Option ((List (List UInt8))) :=
 q3g p1 n n [] 0
theorem qge (n:Nat) (p1:List q01) (r:(List (List UInt8))) (hF:qae n p1=some r):EvU Tryz.prog 95 [.isl false (List.map q02 p1)] ⟨[],0⟩ (fun u _=>u = .isl false (List.map cS r)∧Bel 0 u):=by
 unfold qae at hF
 refine bg1 19 fn95 ?_
 refine gr ?_
 refine gr ?_
 refine gr ?_
 refine WPU.ghost (tm':=fr 19 [(0,.iM q02 p1),(3,.iM cS []),(4,.i6 0)]) (Gh.trans (Gh.sub (l':=[(0,.iM q02 p1),(3,.nils),(4,.i6 0)]) ⟨rfl,rfl,rfl,trivial⟩) (Gh.wkS (l':=[(0,.iM q02 p1),(3,.iM cS []),(4,.i6 0)]) (.cons (.refl _) (.cons (.nil false) (.cons (.refl _) .nil))))) NZ ?_
 refine gS (l':=[(0,_),(3,_),(4,_)]) ?_
 refine z0j (fun m tm σ=>∃ l5:List (List UInt8),∃ z6:Int,q3g p1 n m l5 z6=some r∧tm=fr 19 [(0,.iM q02 p1),(3,.iM cS l5),(4,.i6 z6)]∧σ=⟨[],0⟩) (fun tm σ=>∃ l7:List (List UInt8),q88 l7=some r∧tm=fr 19 [(3,.iM cS l7)]∧σ=⟨[],0⟩) n ⟨[],0,hF,rfl,rfl⟩ ?_ ?_
 rintro _ _ ⟨l7,hF,rfl,rfl⟩
 unfold q88 at hF
 exact gx hF
 rintro (_|m1) _ _ ⟨l5,z6,hF,rfl,rfl⟩
 cases hF
 unfold q3g at hF
 refine go ?_
 refine cF hF (fun h8 hF=>?_) (fun h8 hF=>?_)
 refine go ?_
 refine WPU.block ?_
 obtain ⟨x9,h10,hF⟩:=q00 hF
 obtain ⟨r11,h12,hF⟩:=q00 hF
 refine go ?_
 refine RS.ix h10 ?_
 refine go ?_
 refine RS.cl rfl (pC (q7s n l5 x9.Name r11 h12) _) fn116 ?_
 refine go ?_
 exact lC ⟨r11,(IntKind.i64.wrap (z6+1)),hF,rfl,rfl⟩
 refine go ?_
 exact xC ⟨l5,hF,rfl,rfl⟩
def q85  (l21:List (List UInt8)):Option ((List (List UInt8))) :=
 some l21
def q2v (n:Nat) (l13:List (List UInt8)):Nat→(List (List UInt8))→Int→Option ((List (List UInt8)))
 | 0,_,_=>none
 | m2+1,l19,z20 =>
  cond (decide (z20<(l13.length:Int)))
   (q03 (q0o l13 z20) fun x23 =>
   q03 (q6z n l19 x23) fun r25 =>
   (q2v n l13 m2) r25 (IntKind.i64.wrap (z20+1)))
   (q85 l19)
def q5o (z33:Int) (rc3:Int→(List (List UInt8))→Option ((List (List UInt8)))) (l53:List (List UInt8)):Option ((List (List UInt8))) :=
 rc3 (IntKind.i64.wrap (z33+1)) l53
def q86 (z10:Int) (rc1:Int→(List (List UInt8))→Option ((List (List UInt8)))) (l36:List (List UInt8)):Option ((List (List UInt8))) :=
 rc1 (IntKind.i64.wrap (z10+1)) l36
def q25 (p1:List q01) (n:Nat) (z10:Int) (rc1:Int→(List (List UInt8))→Option ((List (List UInt8)))):Nat→Int→(List (List UInt8))→Option ((List (List UInt8)))
 | 0,_,_=>none
 | m3+1,z33,l34 =>
  cond (decide (z33<(p1.length:Int)))
   (q03 (q03 (q0o p1 z33) fun x39 =>
   q03 (q0o l34 z10) fun x41 =>
   q03 (q2g n x39.Supers x41) fun r43 =>
   cond r43
    (q03 (q0o p1 z33) fun x46 =>
    q03 (q2g n l34 x46.Name) fun r48 =>
    some (!r48))
    (some false)) fun b50 =>
   cond b50
    (q03 (q0o p1 z33) fun x55 =>
    q0y ((l34.length+1)*16≤140737488355328∧l34.length+1≤140737488355328) (
    q5o z33 (q25 p1 n z10 rc1 m3) (l34++[x55.Name])))
    (q5o z33 (q25 p1 n z10 rc1 m3) l34))
   (q86 z10 rc1 l34)
def q84 (n:Nat) (l13:List (List UInt8)):Option ((List (List UInt8))) :=
 q2v n l13 n [] 0
def q1o (p1:List q01) (n:Nat):Nat→Int→(List (List UInt8))→Option ((List (List UInt8)))
 | 0,_,_=>none
 | m1+1,z10,l11 =>
  cond (decide (z10<(l11.length:Int)))
   (q25 p1 n z10 (q1o p1 n m1) n 0 l11)
   (q84 n l11)
def qac (n:Nat) (p1:List q01) (p2:List UInt8):Option ((List (List UInt8))) :=
 q03 (q3u n p1 p2) fun r3 =>
 cond (decide (r3<0))
  (some [])
  (q1o p1 n n 0 ([p2]))
theorem qmv (n:Nat) (p1:List q01) (p2:List UInt8) (r:(List (List UInt8))) (hF:qac n p1 p2=some r):EvU Tryz.prog 125 [.isl false (List.map q02 p1),.str p2] ⟨[],0⟩ (fun u _=>u = .isl false (List.map cS r)∧Bel 0 u):=by
 unfold qac at hF
 refine bg2 69 fn125 ?_
 obtain ⟨r3,h4,hF⟩:=q00 hF
 refine go ?_
 refine RS.cl rfl (pC (q6l n p1 p2 r3 h4) _) fn148 ?_
 refine go ?_
 refine cF hF (fun h5 hF=>?_) (fun h5 hF=>?_)
 refine go ?_
 obtain rfl:=sI hF
 exact rT (us:=[.nils]) (u:=.isl false []) (q1v rfl (q2r)) wR
 refine go ?_
 refine RS.step (u:=.vl 0 0 0 ([p2].length)) (σ':=⟨[(0,.vec (List.map cS ([p2])).flatten 9 1 0)],1⟩) rfl (qd3.bslv (cs:=(List.map cS [p2]).flatten) Tryz.tb_ok rfl un80.h if9.h rfl rfl rfl rfl rfl rfl rfl rfl) rfl rfl ?_
 refine go ?_
 refine gS (l':=[(0,_),(5,_),(6,_)]) ?_
 refine z0j (fun m tm σ=>∃ z10:Int,∃ l11:List (List UInt8),∃ t12:Nat,q1o p1 n m z10 l11=some r∧tm=fr 69 [(0,.iM q02 p1),(5,.vl 0 t12 0 l11.length),(6,.i6 z10)]∧σ=⟨[(0,.vec (List.map cS l11).flatten 9 1 t12)],1⟩) (fun tm σ=>∃ l13:List (List UInt8),∃ t14:Nat,q84 n l13=some r∧tm=fr 69 [(5,.vl 0 t14 0 l13.length)]∧σ=⟨[(0,.vec (List.map cS l13).flatten 9 1 t14)],1⟩) n ⟨0,[p2],0,hF,rfl,rfl⟩ ?_ ?_
 rintro _ _ ⟨l13,t14,hF,rfl,rfl⟩
 unfold q84 at hF
 refine gr ?_
 refine gr ?_
 refine WPU.ghost (tm':=fr 69 [(5,.vl 0 t14 0 l13.length),(8,.iM cS []),(9,.i6 0)]) (Gh.trans (Gh.sub (l':=[(5,.vl 0 t14 0 l13.length),(8,.nils),(9,.i6 0)]) ⟨rfl,rfl,rfl,trivial⟩) (Gh.wkS (l':=[(5,.vl 0 t14 0 l13.length),(8,.iM cS []),(9,.i6 0)]) (.cons (.refl _) (.cons (.nil false) (.cons (.refl _) .nil))))) NZ ?_
 refine gS (l':=[(5,_),(8,_),(9,_)]) ?_
 refine z0j (fun m tm σ=>∃ l19:List (List UInt8),∃ z20:Int,q2v n l13 m l19 z20=some r∧tm=fr 69 [(5,.vl 0 t14 0 l13.length),(8,.iM cS l19),(9,.i6 z20)]∧σ=⟨[(0,.vec (List.map cS l13).flatten 9 1 t14)],1⟩) (fun tm σ=>∃ l21:List (List UInt8),q85 l21=some r∧tm=fr 69 [(8,.iM cS l21)]∧σ=⟨[(0,.vec (List.map cS l13).flatten 9 1 t14)],1⟩) n ⟨[],0,hF,rfl,rfl⟩ ?_ ?_
 rintro _ _ ⟨l21,hF,rfl,rfl⟩
 unfold q85 at hF
 exact gx hF
 rintro (_|m2) _ _ ⟨l19,z20,hF,rfl,rfl⟩
 cases hF
 unfold q2v at hF
 refine go ?_
 refine cF hF (fun h22 hF=>?_) (fun h22 hF=>?_)
 refine go ?_
 refine WPU.block ?_
 obtain ⟨x23,h24,hF⟩:=q00 hF
 obtain ⟨r25,h26,hF⟩:=q00 hF
 refine go ?_
 refine RS.q rfl (qbd rfl rfl (qi9 cS un80.h (q2l if9.h) (by decide) qes (vo rfl) h24)) ?_
 refine RS.q rfl (qa5 cS (fun x=>.str x) un9.h rfl (fun _=>rfl) rfl rfl h24) (RS.cl rfl (pC (q7s n l19 x23 r25 h26) _) fn116 ?_)
 refine go ?_
 exact lC ⟨r25,(IntKind.i64.wrap (z20+1)),hF,rfl,rfl⟩
 refine go ?_
 exact xC ⟨l19,hF,rfl,rfl⟩
 rintro (_|m1) _ _ ⟨z10,l11,t12,hF,rfl,rfl⟩
 cases hF
 unfold q1o at hF
 refine go ?_
 refine cF hF (fun h27 hF=>?_) (fun h27 hF=>?_)
 refine go ?_
 refine WPU.block ?_
 refine go ?_
 refine gS (l':=[(0,_),(5,_),(6,_),(7,_)]) ?_
 refine z0j (fun m tm σ=>∃ z33:Int,∃ l34:List (List UInt8),∃ t35:Nat,q25 p1 n z10 (q1o p1 n m1) m z33 l34=some r∧tm=fr 69 [(0,.iM q02 p1),(5,.vl 0 t35 0 l34.length),(6,.i6 z10),(7,.i6 z33)]∧σ=⟨[(0,.vec (List.map cS l34).flatten 9 1 t35)],1⟩) (fun tm σ=>∃ l36:List (List UInt8),∃ t37:Nat,q86 z10 (q1o p1 n m1) l36=some r∧tm=fr 69 [(0,.iM q02 p1),(5,.vl 0 t37 0 l36.length),(6,.i6 z10)]∧σ=⟨[(0,.vec (List.map cS l36).flatten 9 1 t37)],1⟩) n ⟨0,l11,t12,hF,rfl,rfl⟩ ?_ ?_
 rintro _ _ ⟨l36,t37,hF,rfl,rfl⟩
 unfold q86 at hF
 refine go ?_
 exact lC ⟨_,l36,t37,hF,rfl,rfl⟩
 rintro (_|m3) _ _ ⟨z33,l34,t35,hF,rfl,rfl⟩
 cases hF
 unfold q25 at hF
 refine go ?_
 refine cF hF (fun h38 hF=>?_) (fun h38 hF=>?_)
 refine go ?_
 refine WPU.block ?_
 obtain ⟨b50,h51,hF⟩:=q00 hF
 refine gn ?_
 refine z0k (fun tm σ=>tm=fr 69 [(0,.iM q02 p1),(5,.vl 0 t35 0 l34.length),(6,.i6 z10),(7,.i6 z33),(47,.bool b50)]∧σ=⟨[(0,.vec (List.map cS l34).flatten 9 1 t35)],1⟩) ?_ ?_
 rintro _ _ ⟨rfl,rfl⟩
 refine gn ?_
 refine z0k (fun tm σ=>∃ l53:List (List UInt8),∃ t54:Nat,q5o z33 (q25 p1 n z10 (q1o p1 n m1) m3) l53=some r∧tm=fr 69 [(0,.iM q02 p1),(5,.vl 0 t54 0 l53.length),(6,.i6 z10),(7,.i6 z33)]∧σ=⟨[(0,.vec (List.map cS l53).flatten 9 1 t54)],1⟩) ?_ ?_
 rintro _ _ ⟨l53,t54,hF,rfl,rfl⟩
 unfold q5o at hF
 refine go ?_
 exact lC ⟨_,l53,t54,hF,rfl,rfl⟩
 refine cF hF (fun h52 hF=>?_) (fun h52 hF=>?_)
 obtain ⟨x55,h56,hF⟩:=q00 hF
 obtain ⟨h57,hF⟩:=q08 hF
 refine go ?_
 refine RS.ix h56 ?_
 refine go ?_
 refine RS.g ?_
 refine RS.g ?_
 refine go ?_
 exact xC ⟨(l34++[x55.Name]),(t35+1),hF,rfl,rfl⟩
 refine go ?_
 exact xC ⟨l34,t35,hF,rfl,rfl⟩
 obtain ⟨x39,h40,h51⟩:=q00 h51
 obtain ⟨x41,h42,h51⟩:=q00 h51
 obtain ⟨r43,h44,h51⟩:=q00 h51
 rcases gB h51 with ⟨h45,h51⟩ | ⟨h45,h51⟩
 obtain ⟨x46,h47,h51⟩:=q00 h51
 obtain ⟨r48,h49,h51⟩:=q00 h51
 obtain rfl:=sI h51
 refine z0m Tryz.tb_ok [] (by kernel_rfl) ?_
 refine gd ?_
 refine RD.ix h40 ?_
 refine gd ?_
 refine RD.q rfl (qbd rfl rfl (qi9 cS un80.h (q2l if9.h) (by decide) qes (vo rfl) h42)) ?_
 refine RD.q rfl (qa5 cS (fun x=>.str x) un9.h rfl (fun _=>rfl) rfl rfl h42) (RD.fl rfl (pC (q1t n x39.Supers x41 r43 h44)) fn126 ?_)
 refine gd ?_
 refine RD.ix h47 ?_
 refine gd ?_
 refine RD.call (u:=.bool r48) (args:=[.vl 0 t35 0 l34.length,.str x46.Name]) (z0g rfl rfl rfl h45) (qjz rfl rfl fn126 hb126 rfl rfl) (vw (q1t n l34 x46.Name r48 h49) (z0l 0 1)) rfl rfl ?_
 refine gd ?_
 refine RD.done ⟨by kernel_rfl,trivial,?_⟩
 refine go ?_
 exact xC ⟨rfl,rfl⟩
 obtain rfl:=sI h51
 refine z0m Tryz.tb_ok [] (by kernel_rfl) ?_
 refine gd ?_
 refine RD.ix h40 ?_
 refine gd ?_
 refine RD.q rfl (qbd rfl rfl (qi9 cS un80.h (q2l if9.h) (by decide) qes (vo rfl) h42)) ?_
 refine RD.q rfl (qa5 cS (fun x=>.str x) un9.h rfl (fun _=>rfl) rfl rfl h42) (RD.fl rfl (pC (q1t n x39.Supers x41 r43 h44)) fn126 ?_)
 refine gd ?_
 refine RD.done ⟨by kernel_rfl,trivial,?_⟩
 refine go ?_
 exact xC ⟨rfl,rfl⟩
 refine go ?_
 exact xC ⟨l34,t35,hF,rfl,rfl⟩
 refine go ?_
 exact xC ⟨l11,t12,hF,rfl,rfl⟩
def q4r (p1:List Int) (z5:Int):Option ((List Int)) :=
 q03 (qnu p1 0 z5) fun l6 =>
 q0y (l6.length*8≤140737488355328∧l6.length≤140737488355328) (
 some l6)
def q2d (p1:List Int):Nat→Int→Option ((List Int))
 | 0,_=>none
 | m1+1,z4 =>
  q03 (cond (decide (z4 > 0))
   (q03 (q0o p1 (IntKind.i64.wrap (z4 - 1))) fun x12 =>
   some (x12 == 0))
   (some false)) fun b14 =>
  cond b14
   ((q2d p1 m1) (IntKind.i64.wrap (z4 - 1)))
   (q4r p1 z4)
def q2t (n:Nat) (p1:List Int):Option ((List Int)) :=
 q2d p1 n (p1.length:Int)
theorem q7y (n:Nat) (p1:List Int) (r:(List Int)) (hF:q2t n p1=some r):EvU Tryz.prog 119 [.isl false (List.map (cI .u64) p1)] ⟨[],0⟩ (fun u _=>u = .isl false (List.map (cI .u64) r)∧Bel 0 u):=by
 unfold q2t at hF
 refine bg1 23 fn119 ?_
 refine go ?_
 refine gS (l':=[(0,_),(3,_)]) ?_
 refine z0j (fun m tm σ=>∃ z4:Int,q2d p1 m z4=some r∧tm=fr 23 [(0,.iM (cI .u64) p1),(3,.i6 z4)]∧σ=⟨[],0⟩) (fun tm σ=>∃ z5:Int,q4r p1 z5=some r∧tm=fr 23 [(0,.iM (cI .u64) p1),(3,.i6 z5)]∧σ=⟨[],0⟩) n ⟨(p1.length:Int),hF,rfl,rfl⟩ ?_ ?_
 rintro _ _ ⟨z5,hF,rfl,rfl⟩
 unfold q4r at hF
 obtain ⟨l6,h7,hF⟩:=q00 hF
 obtain ⟨h8,h9⟩:=qti (cI .u64) .i64 h7
 obtain ⟨h10,hF⟩:=q08 hF
 refine go ?_
 refine RS.q (u:=.sl 0 0 0 0) (σ':=⟨[(0,.row [] 191)],1⟩) rfl (q99 un103.h if191.h rfl rfl rfl rfl rfl rfl rfl) ?_
 refine go ?_
 refine RS.q (u:=.iM (cI .u64) l6) rfl (qc8 rfl qs4 (qy5 rfl) qs4 (qrn (cI .u64) un103.h (q2l if191.h) (qbn .u64) h8 h9)) (RS.q (u:=.vl 1 0 0 l6.length) (σ':=⟨[(1,.vec (List.map (cI .u64) l6).flatten 191 1 0),(0,.row [] 191)],2⟩) rfl (qdk rfl rfl rfl rfl (qpc (cI .u64) l6 un103.h un103.h if191.h rfl rfl rfl (qhq (cI .u64) (qbn .u64)) h10)) ?_)
 refine go ?_
 obtain rfl:=sI hF
 exact rT (us:=[.vl 1 0 0 l6.length]) (u:=.iM (cI .u64) l6) (q1v rfl (q2r)) (fR 1 1)
 rintro (_|m1) _ _ ⟨z4,hF,rfl,rfl⟩
 cases hF
 unfold q2d at hF
 obtain ⟨b14,h15,hF⟩:=q00 hF
 refine gn ?_
 refine z0k (fun tm σ=>tm=fr 23 [(0,.iM (cI .u64) p1),(3,.i6 z4),(15,.bool b14)]∧σ=⟨[],0⟩) ?_ ?_
 rintro _ _ ⟨rfl,rfl⟩
 refine go ?_
 refine cF hF (fun h16 hF=>?_) (fun h16 hF=>?_)
 refine go ?_
 refine WPU.block ?_
 refine go ?_
 exact lC ⟨_,hF,rfl,rfl⟩
 refine go ?_
 exact xC ⟨z4,hF,rfl,rfl⟩
 rcases gB h15 with ⟨h11,h15⟩ | ⟨h11,h15⟩
 obtain ⟨x12,h13,h15⟩:=q00 h15
 obtain rfl:=sI h15
 refine go ?_
 refine RS.ix h13 ?_
 refine go ?_
 exact xC ⟨rfl,rfl⟩
 exact gy h15
def qck (n:Nat) (l8:List Int):Option ((List Int)×Int) :=
 q0y ((64:Int).toNat=l8.length) (
 q03 (q2t n l8) fun r10 =>
 some (r10,0))
def q67 (p1:List Int) (n:Nat):Nat→Int→(List Int)→Option ((List Int)×Int)
 | 0,_,_=>none
 | m1+1,z6,l7 =>
  cond (decide (z6<(p1.length:Int)))
   (q03 (q03 (q0o p1 z6) fun x13 =>
   cond (decide (x13<0))
    (some true)
    (q03 (q0o p1 z6) fun x16 =>
    some (decide (x16 > 4095)))) fun b18 =>
   cond b18
    (some ([],2))
    (q03 (q0o p1 z6) fun x21 =>
    q03 (q0o p1 z6) fun x24 =>
    q03 (qsa l7 0 ((64:Int).toNat) (IntKind.i64.wrap (x24.tdiv 64))) fun x27 =>
    q03 (q0o p1 z6) fun x29 =>
    q0y (¬ (IntKind.u64.wrap (x29.tmod 64))<0) (
    q03 (qsa l7 0 ((64:Int).toNat) (IntKind.i64.wrap (x21.tdiv 64))) fun x33 =>
    (q67 p1 n m1) (IntKind.i64.wrap (z6+1)) (l7.set (IntKind.i64.wrap (x21.tdiv 64)).toNat (orI .u64 x27 (IntKind.u64.wrap (1*(2 ^ (min (IntKind.u64.wrap (x29.tmod 64)).toNat IntKind.u64.bits)))))))))
   (qck n l7)
def qgd (n:Nat) (p1:List Int):Option ((List Int)×Int) :=
 q0y (0≤(64:Int)∧8*(64:Int).toNat≤281474976710656∧(64:Int)≤281474976710656) (
 q67 p1 n n 0 (List.replicate (64:Int).toNat 0))
theorem qsk (n:Nat) (p1:List Int) (r:(List Int)×Int) (hF:qgd n p1=some r):EvU Tryz.prog 127 [.isl false (List.map (cI .i64) p1)] ⟨[],0⟩ (fun u _=>u = .tup [.isl false (List.map (cI .u64) r.1),.int .i64 r.2]∧Bel 0 u):=by
 unfold qgd at hF
 refine bg1 50 fn127 ?_
 obtain ⟨h2,hF⟩:=q08 hF
 refine go ?_
 refine RS.q (u:=.sl 0 0 ((64:Int).toNat) ((64:Int).toNat)) (σ':=⟨[(0,.row (List.map (cI .u64) (List.replicate (64:Int).toNat 0)).flatten 191)],1⟩) rfl (quu (cI .u64) 0 rfl rfl un103.h if191.h rfl rfl rfl rfl h2) ?_
 refine go ?_
 refine gS (l':=[(0,_),(4,_),(5,_)]) ?_
 refine z0j (fun m tm σ=>∃ z6:Int,∃ l7:List Int,q67 p1 n m z6 l7=some r∧tm=fr 50 [(0,.iM (cI .i64) p1),(4,.sl 0 0 ((64:Int).toNat) ((64:Int).toNat)),(5,.i6 z6)]∧σ=⟨[(0,.row (List.map (cI .u64) l7).flatten 191)],1⟩) (fun tm σ=>∃ l8:List Int,qck n l8=some r∧tm=fr 50 [(4,.sl 0 0 ((64:Int).toNat) ((64:Int).toNat))]∧σ=⟨[(0,.row (List.map (cI .u64) l8).flatten 191)],1⟩) n ⟨0,(List.replicate (64:Int).toNat 0),hF,rfl,rfl⟩ ?_ ?_
 rintro _ _ ⟨l8,hF,rfl,rfl⟩
 unfold qck at hF
 obtain ⟨h9,hF⟩:=q08 hF
 refine gn ?_
 refine WPU.ghost (tm':=fr 50 [(4,.iM (cI .u64) l8)]) (σ':=⟨[],1⟩) (Gh.trans (Gh.sub (l':=[(4,.sl 0 0 ((64:Int).toNat) ((64:Int).toNat))]) ⟨rfl,trivial⟩) (Gh.fzS (l':=[(4,.iM (cI .u64) l8)]) (h':=[]) 0 (.row (List.map (cI .u64) l8).flatten 191) 1 rfl (by simp) (by simp only [fzS,qkt,qh6,qaq,qlq,qjh,qls,qh9,qjk,qjj,qji,qh8,qlr,qo5,qlp,qlt,qs8,qmh,qwx (qbn .u64) h9]) (by simp only [fzH,fzB,ug,Nat.beq,cond_true,cond_false,qkt,qh6,qaq,qlq,qjh,qls,qh9,qjk,qjj,qji,qh8,qlr,qo5,qlp,qlt,qs8,qmh,qwx (qbn .u64) h9]))) NZ ?_
 obtain ⟨r10,h11,hF⟩:=q00 hF
 refine go ?_
 refine RS.cl rfl (pC (q7y n l8 r10 h11) _) fn119 ?_
 refine go ?_
 obtain rfl:=sI hF
 exact rt2 rfl rfl rfl rfl rfl
 rintro (_|m1) _ _ ⟨z6,l7,hF,rfl,rfl⟩
 cases hF
 unfold q67 at hF
 refine go ?_
 refine cF hF (fun h12 hF=>?_) (fun h12 hF=>?_)
 refine go ?_
 refine WPU.block ?_
 obtain ⟨b18,h19,hF⟩:=q00 hF
 refine gn ?_
 refine z0k (fun tm σ=>tm=fr 50 [(0,.iM (cI .i64) p1),(4,.sl 0 0 ((64:Int).toNat) ((64:Int).toNat)),(5,.i6 z6),(24,.bool b18)]∧σ=⟨[(0,.row (List.map (cI .u64) l7).flatten 191)],1⟩) ?_ ?_
 rintro _ _ ⟨rfl,rfl⟩
 refine go ?_
 refine cF hF (fun h20 hF=>?_) (fun h20 hF=>?_)
 refine go ?_
 obtain rfl:=sI hF
 exact rT (us:=[.nils,.i6 2]) (u:=.tup [.isl false [],.i6 2]) (q1v rfl (q1v rfl (q2r))) wR
 obtain ⟨x21,h22,hF⟩:=q00 hF
 obtain ⟨x24,h25,hF⟩:=q00 hF
 obtain ⟨x27,h28,hF⟩:=q00 hF
 obtain ⟨x29,h30,hF⟩:=q00 hF
 obtain ⟨h32,hF⟩:=q08 hF
 obtain ⟨x33,h34,hF⟩:=q00 hF
 refine go ?_
 refine z0m Tryz.tb_ok [] (by kernel_rfl) ?_
 refine gd ?_
 refine RD.ix h22 ?_
 refine gd ?_
 refine RD.q rfl (qax rfl rfl (qqs _ (by decide)) rfl) ?_
 refine gd ?_
 refine RD.ix h25 ?_
 refine gd ?_
 refine RD.q rfl (qax rfl rfl (qqs _ (by decide)) rfl) ?_
 refine RD.q rfl (qbd rfl rfl (qs9 un103.h (q2l if191.h) rfl h28)) (RD.q (u:=.int .u64 x27) rfl (qyh (cI .u64) (fun x=>.int .u64 x) un191.h rfl (fun _=>rfl) rfl rfl h28) ?_)
 refine gd ?_
 refine RD.ix h30 ?_
 refine gd ?_
 refine RD.q rfl (qax rfl rfl (qyf _ (by decide)) rfl) ?_
 refine RD.q (u:=.int .u64 (IntKind.u64.wrap (x29.tmod 64))) rfl (qut rfl rfl (by simp only [qph,un3.h,un190.h]<;>rfl) rfl) ?_
 refine RD.q rfl (qax rfl rfl (ix_shl _ h32) rfl) (RD.q rfl (qax rfl rfl (ix_or _ _ _) rfl) (RD.q rfl (qbd rfl rfl (qs9 un103.h (q2l if191.h) rfl h34)) (RD.actn (u:=.junk) (σ':=⟨[(0,.row (List.map (cI .u64) (l7.set (IntKind.i64.wrap (x21.tdiv 64)).toNat (orI .u64 x27 (IntKind.u64.wrap (1*(2 ^ (min (IntKind.u64.wrap (x29.tmod 64)).toNat IntKind.u64.bits))))))).flatten 191)],1⟩) rfl (qxp (cI .u64) (q2l if191.h) (qbn .u64) rfl rfl rfl rfl rfl rfl h34 rfl) rfl ?_)))
 refine RD.done ⟨by kernel_rfl,trivial,?_⟩
 refine go ?_
 exact lC ⟨_,(l7.set (IntKind.i64.wrap (x21.tdiv 64)).toNat (orI .u64 x27 (IntKind.u64.wrap (1*(2 ^ (min (IntKind.u64.wrap (x29.tmod 64)).toNat IntKind.u64.bits)))))),hF,rfl,rfl⟩
 obtain ⟨x13,h14,h19⟩:=q00 h19
 rcases gB h19 with ⟨h15,h19⟩ | ⟨h15,h19⟩
 obtain rfl:=sI h19
 refine go ?_
 refine RS.ix h14 ?_
 refine go ?_
 exact xC ⟨rfl,rfl⟩
 obtain ⟨x16,h17,h19⟩:=q00 h19
 obtain rfl:=sI h19
 refine go ?_
 refine RS.ix h14 ?_
 refine go ?_
 refine RS.ix h17 ?_
 refine go ?_
 exact xC ⟨rfl,rfl⟩
 refine go ?_
 exact xC ⟨l7,hF,rfl,rfl⟩
def q76 (z11:Int) (rc1:Int→(List Int)→Option ((List Int))) (l24:List Int):Option ((List Int)) :=
 rc1 (IntKind.i64.wrap (z11+1)) l24
def q9q (n:Nat) (l14:List Int):Option ((List Int)) :=
 q03 (qgd n l14) fun r16 =>
 some r16.1
def q2p (p2:List (List UInt8)) (n:Nat) (r4:(List (List UInt8))):Nat→Int→(List Int)→Option ((List Int))
 | 0,_,_=>none
 | m1+1,z11,l12 =>
  cond (decide (z11<(p2.length:Int)))
   (q03 (q0o p2 z11) fun x19 =>
   q03 (q2g n r4 x19) fun r21 =>
   cond r21
    (q0y ((l12.length+1)*8≤140737488355328∧l12.length+1≤140737488355328) (
    q76 z11 (q2p p2 n r4 m1) (l12++[z11])))
    (q76 z11 (q2p p2 n r4 m1) l12))
   (q9q n l12)
def qbt (n:Nat) (p1:List q01) (p2:List (List UInt8)) (p3:List UInt8):Option ((List Int)) :=
 q03 (qac n p1 p3) fun r4 =>
 q2p p2 n r4 n 0 ([]:List Int)
theorem qos (n:Nat) (p1:List q01) (p2:List (List UInt8)) (p3:List UInt8) (r:(List Int)) (hF:qbt n p1 p2 p3=some r):EvU Tryz.prog 96 [.isl false (List.map q02 p1),.isl false (List.map cS p2),.str p3] ⟨[],0⟩ (fun u _=>u = .isl false (List.map (cI .u64) r)∧Bel 0 u):=by
 unfold qbt at hF
 refine bg3 37 fn96 ?_
 obtain ⟨r4,h5,hF⟩:=q00 hF
 refine go ?_
 refine RS.cl rfl (pC (qmv n p1 p3 r4 h5) _) fn125 ?_
 refine gr ?_
 refine gr ?_
 refine WPU.ghost (tm':=fr 37 [(1,.iM cS p2),(7,.iM cS r4),(8,.vl 0 0 0 (([]:List Int).length)),(9,.i6 0)]) (σ':=⟨[(0,.vec (List.map (cI .i64) ([]:List Int)).flatten 3 1 0)],1⟩) (Gh.trans (z0n 8 3 1 (by decide) NZ rfl rfl) (z0o ⟨rfl,rfl,rfl,rfl,trivial⟩ rfl)) NZ ?_
 refine gS (l':=[(1,_),(7,_),(8,_),(9,_)]) ?_
 refine z0j (fun m tm σ=>∃ z11:Int,∃ l12:List Int,∃ t13:Nat,q2p p2 n r4 m z11 l12=some r∧tm=fr 37 [(1,.iM cS p2),(7,.iM cS r4),(8,.vl 0 t13 0 l12.length),(9,.i6 z11)]∧σ=⟨[(0,.vec (List.map (cI .i64) l12).flatten 3 1 t13)],1⟩) (fun tm σ=>∃ l14:List Int,∃ t15:Nat,q9q n l14=some r∧tm=fr 37 [(8,.vl 0 t15 0 l14.length)]∧σ=⟨[(0,.vec (List.map (cI .i64) l14).flatten 3 1 t15)],1⟩) n ⟨0,([]:List Int),0,hF,rfl,rfl⟩ ?_ ?_
 rintro _ _ ⟨l14,t15,hF,rfl,rfl⟩
 unfold q9q at hF
 refine gn ?_
 refine WPU.ghost (tm':=fr 37 [(8,.iM (cI .i64) l14)]) (σ':=⟨[],1⟩) (Gh.trans (Gh.sub (l':=[(8,.vl 0 t15 0 l14.length)]) ⟨rfl,trivial⟩) (z0v 0 1)) NZ ?_
 obtain ⟨r16,h17,hF⟩:=q00 hF
 refine go ?_
 refine RS.cl rfl (pC (qsk n l14 r16 h17) _) fn127 ?_
 exact gx hF
 rintro (_|m1) _ _ ⟨z11,l12,t13,hF,rfl,rfl⟩
 cases hF
 unfold q2p at hF
 refine go ?_
 refine cF hF (fun h18 hF=>?_) (fun h18 hF=>?_)
 refine go ?_
 refine WPU.block ?_
 obtain ⟨x19,h20,hF⟩:=q00 hF
 obtain ⟨r21,h22,hF⟩:=q00 hF
 refine go ?_
 refine RS.ix h20 ?_
 refine go ?_
 refine RS.cl rfl (pC (q1t n r4 x19 r21 h22) _) fn126 ?_
 refine gn ?_
 refine z0k (fun tm σ=>∃ l24:List Int,∃ t25:Nat,q76 z11 (q2p p2 n r4 m1) l24=some r∧tm=fr 37 [(1,.iM cS p2),(7,.iM cS r4),(8,.vl 0 t25 0 l24.length),(9,.i6 z11)]∧σ=⟨[(0,.vec (List.map (cI .i64) l24).flatten 3 1 t25)],1⟩) ?_ ?_
 rintro _ _ ⟨l24,t25,hF,rfl,rfl⟩
 unfold q76 at hF
 refine go ?_
 exact lC ⟨_,l24,t25,hF,rfl,rfl⟩
 refine cF hF (fun h23 hF=>?_) (fun h23 hF=>?_)
 obtain ⟨h26,hF⟩:=q08 hF
 refine go ?_
 refine RS.g ?_
 refine RS.g ?_
 refine go ?_
 exact xC ⟨(l12++[z11]),(t13+1),hF,rfl,rfl⟩
 refine go ?_
 exact xC ⟨l12,t13,hF,rfl,rfl⟩
 refine go ?_
 exact xC ⟨l12,t13,hF,rfl,rfl⟩
def q7r (n:Nat) (p1:List Int) (p2:Int):Option (Int) :=
 cond (decide (p2<(p1.length:Int)))
  (q03 (q0o p1 p2) fun x4 =>
  some x4)
  (some 0)
theorem qi3 (n:Nat) (p1:List Int) (p2:Int) (r:Int) (hF:q7r n p1 p2=some r):EvU Tryz.prog 146 [.isl false (List.map (cI .u64) p1),.int .i64 p2] ⟨[],0⟩ (fun u _=>u = .int .u64 r∧Bel 0 u):=by
 unfold q7r at hF
 refine bg2 13 fn146 ?_
 refine go ?_
 refine cF hF (fun h3 hF=>?_) (fun h3 hF=>?_)
 obtain ⟨x4,h5,hF⟩:=q00 hF
 refine go ?_
 refine RS.ix h5 ?_
 exact gx hF
 exact gx hF
def q6i (n:Nat) (l11:List Int):Option ((List Int)) :=
 q03 (q2t n l11) fun r13 =>
 some r13
def q8u (p1:List Int) (p2:List Int) (n:Nat):Nat→Int→(List Int)→Option ((List Int))
 | 0,_,_=>none
 | m1+1,z8,l9 =>
  cond (decide (z8<(p1.length:Int)))
   (q03 (q0o p1 z8) fun x16 =>
   q03 (q7r n p2 z8) fun r18 =>
   q0y ((l9.length+1)*8≤140737488355328∧l9.length+1≤140737488355328) (
   (q8u p1 p2 n m1) (IntKind.i64.wrap (z8+1)) (l9++[(qz2 .u64 x16 r18)])))
   (q6i n l9)
def qa8 (n:Nat) (p1:List Int) (p2:List Int):Option ((List Int)) :=
 q8u p1 p2 n n 0 ([]:List Int)
theorem qk6 (n:Nat) (p1:List Int) (p2:List Int) (r:(List Int)) (hF:qa8 n p1 p2=some r):EvU Tryz.prog 118 [.isl false (List.map (cI .u64) p1),.isl false (List.map (cI .u64) p2)] ⟨[],0⟩ (fun u _=>u = .isl false (List.map (cI .u64) r)∧Bel 0 u):=by
 unfold qa8 at hF
 refine bg2 26 fn118 ?_
 refine gr ?_
 refine gr ?_
 refine gr ?_
 refine WPU.ghost (tm':=fr 26 [(0,.iM (cI .u64) p1),(1,.iM (cI .u64) p2),(5,.vl 0 0 0 (([]:List Int).length)),(6,.i6 0)]) (σ':=⟨[(0,.vec (List.map (cI .u64) ([]:List Int)).flatten 191 1 0)],1⟩) (Gh.trans (z0n 5 191 1 (by decide) NZ rfl rfl) (z0o ⟨rfl,rfl,rfl,rfl,trivial⟩ rfl)) NZ ?_
 refine gS (l':=[(0,_),(1,_),(5,_),(6,_)]) ?_
 refine z0j (fun m tm σ=>∃ z8:Int,∃ l9:List Int,∃ t10:Nat,q8u p1 p2 n m z8 l9=some r∧tm=fr 26 [(0,.iM (cI .u64) p1),(1,.iM (cI .u64) p2),(5,.vl 0 t10 0 l9.length),(6,.i6 z8)]∧σ=⟨[(0,.vec (List.map (cI .u64) l9).flatten 191 1 t10)],1⟩) (fun tm σ=>∃ l11:List Int,∃ t12:Nat,q6i n l11=some r∧tm=fr 26 [(5,.vl 0 t12 0 l11.length)]∧σ=⟨[(0,.vec (List.map (cI .u64) l11).flatten 191 1 t12)],1⟩) n ⟨0,([]:List Int),0,hF,rfl,rfl⟩ ?_ ?_
 rintro _ _ ⟨l11,t12,hF,rfl,rfl⟩
 unfold q6i at hF
 refine gn ?_
 refine WPU.ghost (tm':=fr 26 [(5,.iM (cI .u64) l11)]) (σ':=⟨[],1⟩) (Gh.trans (Gh.sub (l':=[(5,.vl 0 t12 0 l11.length)]) ⟨rfl,trivial⟩) (z0v 0 1)) NZ ?_
 obtain ⟨r13,h14,hF⟩:=q00 hF
 refine go ?_
 refine RS.cl rfl (pC (q7y n l11 r13 h14) _) fn119 ?_
 exact gx hF
 rintro (_|m1) _ _ ⟨z8,l9,t10,hF,rfl,rfl⟩
 cases hF
 unfold q8u at hF
 refine go ?_
 refine cF hF (fun h15 hF=>?_) (fun h15 hF=>?_)
 refine go ?_
 refine WPU.block ?_
 obtain ⟨x16,h17,hF⟩:=q00 hF
 obtain ⟨r18,h19,hF⟩:=q00 hF
 obtain ⟨h20,hF⟩:=q08 hF
 refine go ?_
 refine z0m Tryz.tb_ok [(0,9)] (by kernel_rfl) ?_
 refine gd ?_
 refine RD.ix h17 ?_
 refine gd ?_
 refine RD.fl rfl (pC (qi3 n p2 z8 r18 h19)) fn146 (RD.q rfl (qax rfl rfl (qye _ _ _) rfl) ?_)
 refine RD.g ?_
 refine RD.g ?_
 refine gd ?_
 refine RD.done ⟨by kernel_rfl,⟨q4f rfl,trivial⟩,?_⟩
 refine go ?_
 exact lC ⟨_,(l9++[(qz2 .u64 x16 r18)]),(t10+1),hF,rfl,rfl⟩
 refine go ?_
 exact xC ⟨l9,t10,hF,rfl,rfl⟩
def qcl   : Option (Bool) :=
 some true
def q9m (p1:List Int) (p2:List Int):Nat→Int→Option (Bool)
 | 0,_=>none
 | m1+1,z7 =>
  cond (decide (z7<(p1.length:Int)))
   (q03 (q0o p1 z7) fun x9 =>
   q03 (q0o p2 z7) fun x11 =>
   cond (x9 != x11)
    (some false)
    ((q9m p1 p2 m1) (IntKind.i64.wrap (z7+1))))
   (qcl)
def q6j (n:Nat) (p1:List Int) (p2:List Int):Option (Bool) :=
 cond ((p1.length:Int) != (p2.length:Int))
  (some false)
  (q9m p1 p2 n 0)
theorem qi2 (n:Nat) (p1:List Int) (p2:List Int) (r:Bool) (hF:q6j n p1 p2=some r):EvU Tryz.prog 120 [.isl false (List.map (cI .u64) p1),.isl false (List.map (cI .u64) p2)] ⟨[],0⟩ (fun u _=>u = .bool r∧Bel 0 u):=by
 unfold q6j at hF
 refine bg2 26 fn120 ?_
 refine go ?_
 refine cF hF (fun h3 hF=>?_) (fun h3 hF=>?_)
 exact gx hF
 refine go ?_
 refine gS (l':=[(0,_),(1,_),(5,_)]) ?_
 refine z0j (fun m tm σ=>∃ z7:Int,q9m p1 p2 m z7=some r∧tm=fr 26 [(0,.iM (cI .u64) p1),(1,.iM (cI .u64) p2),(5,.i6 z7)]∧σ=⟨[],0⟩) (fun tm σ=>qcl=some r∧tm=fr 26 []∧σ=⟨[],0⟩) n ⟨0,hF,rfl,rfl⟩ ?_ ?_
 rintro _ _ ⟨hF,rfl,rfl⟩
 unfold qcl at hF
 exact gx hF
 rintro (_|m1) _ _ ⟨z7,hF,rfl,rfl⟩
 cases hF
 unfold q9m at hF
 refine go ?_
 refine cF hF (fun h8 hF=>?_) (fun h8 hF=>?_)
 refine go ?_
 refine WPU.block ?_
 obtain ⟨x9,h10,hF⟩:=q00 hF
 obtain ⟨x11,h12,hF⟩:=q00 hF
 refine go ?_
 refine z0m Tryz.tb_ok [] (by kernel_rfl) ?_
 refine gd ?_
 refine RD.ix h10 ?_
 refine gd ?_
 refine RD.ix h12 ?_
 refine gd ?_
 refine RD.done ⟨by kernel_rfl,trivial,?_⟩
 refine go ?_
 refine cF hF (fun h13 hF=>?_) (fun h13 hF=>?_)
 exact gx hF
 refine go ?_
 exact lC ⟨_,hF,rfl,rfl⟩
 refine go ?_
 exact xC ⟨hF,rfl,rfl⟩
def qco   : Option (Bool) :=
 some false
def q68 (p1:List (List Int)) (p2:List Int) (n:Nat):Nat→Int→Option (Bool)
 | 0,_=>none
 | m1+1,z6 =>
  cond (decide (z6<(p1.length:Int)))
   (q03 (q0o p1 z6) fun x8 =>
   q03 (q6j n x8 p2) fun r10 =>
   cond r10
    (some true)
    ((q68 p1 p2 n m1) (IntKind.i64.wrap (z6+1))))
   (qco)
def qio (n:Nat) (p1:List (List Int)) (p2:List Int):Option (Bool) :=
 q68 p1 p2 n n 0
theorem qsl (n:Nat) (p1:List (List Int)) (p2:List Int) (r:Bool) (hF:qio n p1 p2=some r):EvU Tryz.prog 128 [.isl false (List.map (cL (cI .u64)) p1),.isl false (List.map (cI .u64) p2)] ⟨[],0⟩ (fun u _=>u = .bool r∧Bel 0 u):=by
 unfold qio at hF
 refine bg2 18 fn128 ?_
 refine go ?_
 refine gS (l':=[(0,_),(1,_),(5,_)]) ?_
 refine z0j (fun m tm σ=>∃ z6:Int,q68 p1 p2 n m z6=some r∧tm=fr 18 [(0,.iM (cL (cI .u64)) p1),(1,.iM (cI .u64) p2),(5,.i6 z6)]∧σ=⟨[],0⟩) (fun tm σ=>qco=some r∧tm=fr 18 []∧σ=⟨[],0⟩) n ⟨0,hF,rfl,rfl⟩ ?_ ?_
 rintro _ _ ⟨hF,rfl,rfl⟩
 unfold qco at hF
 exact gx hF
 rintro (_|m1) _ _ ⟨z6,hF,rfl,rfl⟩
 cases hF
 unfold q68 at hF
 refine go ?_
 refine cF hF (fun h7 hF=>?_) (fun h7 hF=>?_)
 refine go ?_
 refine WPU.block ?_
 obtain ⟨x8,h9,hF⟩:=q00 hF
 obtain ⟨r10,h11,hF⟩:=q00 hF
 refine go ?_
 refine RS.ix h9 ?_
 refine go ?_
 refine RS.cl rfl (pC (qi2 n x8 p2 r10 h11) _) fn120 ?_
 refine go ?_
 refine cF hF (fun h12 hF=>?_) (fun h12 hF=>?_)
 exact gx hF
 refine go ?_
 exact lC ⟨_,hF,rfl,rfl⟩
 refine go ?_
 exact xC ⟨hF,rfl,rfl⟩
def q4w (z19:Int) (rc2:Int→(List (List Int))→Option ((List (List Int)))) (l40:List (List Int)):Option ((List (List Int))) :=
 rc2 (IntKind.i64.wrap (z19+1)) l40
def q4y (z6:Int) (rc1:Int→(List (List Int))→Option ((List (List Int)))) (l22:List (List Int)):Option ((List (List Int))) :=
 rc1 (IntKind.i64.wrap (z6+1)) l22
def q2f (n:Nat) (z6:Int) (rc1:Int→(List (List Int))→Option ((List (List Int)))):Nat→Int→(List (List Int))→Option ((List (List Int)))
 | 0,_,_=>none
 | m2+1,z19,l20 =>
  q03 (cond (decide (z19<z6))
   (some (decide ((l20.length:Int)≤256)))
   (some false)) fun b25 =>
  cond b25
   (q03 (q0o l20 z6) fun x28 =>
   q03 (q0o l20 z19) fun x30 =>
   q03 (qa8 n x28 x30) fun r32 =>
   q03 (cond (decide ((r32.length:Int) > 0))
    (q03 (qio n l20 r32) fun r35 =>
    some (!r35))
    (some false)) fun b37 =>
   cond b37
    (q0y ((l20.length+1)*24≤140737488355328∧l20.length+1≤140737488355328) (
    q4w z19 (q2f n z6 rc1 m2) (l20++[r32])))
    (q4w z19 (q2f n z6 rc1 m2) l20))
   (q4y z6 rc1 l20)
def q4x  (l9:List (List Int)):Option ((List (List Int))) :=
 some l9
def q1f (n:Nat):Nat→Int→(List (List Int))→Option ((List (List Int)))
 | 0,_,_=>none
 | m1+1,z6,l7 =>
  q03 (cond (decide (z6<(l7.length:Int)))
   (some (decide ((l7.length:Int)≤256)))
   (some false)) fun b12 =>
  cond b12
   (q2f n z6 (q1f n m1) n 0 l7)
   (q4x l7)
def q8x (n:Nat) (p1:List (List Int)):Option ((List (List Int))) :=
 q0y (p1.length*24≤140737488355328∧p1.length≤140737488355328) (
 q1f n n 0 p1)
theorem ql7 (n:Nat) (p1:List (List Int)) (r:(List (List Int))) (hF:q8x n p1=some r):EvU Tryz.prog 97 [.isl false (List.map (cL (cI .u64)) p1)] ⟨[],0⟩ (fun u _=>u = .isl false (List.map (cL (cI .u64)) r)∧Bel 0 u):=by
 unfold q8x at hF
 refine bg1 54 fn97 ?_
 obtain ⟨h2,hF⟩:=q08 hF
 refine go ?_
 refine RS.q (u:=.sl 0 0 0 0) (σ':=⟨[(0,.row [] 103)],1⟩) rfl (q99 un148.h if103.h rfl rfl rfl rfl rfl rfl rfl) ?_
 refine go ?_
 refine RS.q (u:=.vl 1 0 0 p1.length) (σ':=⟨[(1,.vec (List.map (cL (cI .u64)) p1).flatten 103 1 0),(0,.row [] 103)],2⟩) rfl (qdk rfl rfl rfl rfl (qpc (cL (cI .u64)) p1 un148.h un148.h if103.h rfl rfl rfl (qhq (cL (cI .u64)) (qdd (cI .u64))) h2)) ?_
 refine go ?_
 refine gS (l':=[(3,_),(4,_)]) ?_
 refine z0j (fun m tm σ=>∃ z6:Int,∃ l7:List (List Int),∃ t8:Nat,q1f n m z6 l7=some r∧tm=fr 54 [(3,.vl 1 t8 0 l7.length),(4,.i6 z6)]∧σ=⟨[(1,.vec (List.map (cL (cI .u64)) l7).flatten 103 1 t8),(0,.row [] 103)],2⟩) (fun tm σ=>∃ l9:List (List Int),∃ t10:Nat,q4x l9=some r∧tm=fr 54 [(3,.vl 1 t10 0 l9.length)]∧σ=⟨[(1,.vec (List.map (cL (cI .u64)) l9).flatten 103 1 t10),(0,.row [] 103)],2⟩) n ⟨0,p1,0,hF,rfl,rfl⟩ ?_ ?_
 rintro _ _ ⟨l9,t10,hF,rfl,rfl⟩
 unfold q4x at hF
 refine go ?_
 obtain rfl:=sI hF
 exact rT (us:=[.vl 1 t10 0 l9.length]) (u:=.iM (cL (cI .u64)) l9) (q1v rfl (q2r)) (fR 1 1)
 rintro (_|m1) _ _ ⟨z6,l7,t8,hF,rfl,rfl⟩
 cases hF
 unfold q1f at hF
 obtain ⟨b12,h13,hF⟩:=q00 hF
 refine gn ?_
 refine z0k (fun tm σ=>tm=fr 54 [(3,.vl 1 t8 0 l7.length),(4,.i6 z6),(18,.bool b12)]∧σ=⟨[(1,.vec (List.map (cL (cI .u64)) l7).flatten 103 1 t8),(0,.row [] 103)],2⟩) ?_ ?_
 rintro _ _ ⟨rfl,rfl⟩
 refine go ?_
 refine cF hF (fun h14 hF=>?_) (fun h14 hF=>?_)
 refine go ?_
 refine WPU.block ?_
 refine go ?_
 refine gS (l':=[(3,_),(4,_),(5,_)]) ?_
 refine z0j (fun m tm σ=>∃ z19:Int,∃ l20:List (List Int),∃ t21:Nat,q2f n z6 (q1f n m1) m z19 l20=some r∧tm=fr 54 [(3,.vl 1 t21 0 l20.length),(4,.i6 z6),(5,.i6 z19)]∧σ=⟨[(1,.vec (List.map (cL (cI .u64)) l20).flatten 103 1 t21),(0,.row [] 103)],2⟩) (fun tm σ=>∃ l22:List (List Int),∃ t23:Nat,q4y z6 (q1f n m1) l22=some r∧tm=fr 54 [(3,.vl 1 t23 0 l22.length),(4,.i6 z6)]∧σ=⟨[(1,.vec (List.map (cL (cI .u64)) l22).flatten 103 1 t23),(0,.row [] 103)],2⟩) n ⟨0,l7,t8,hF,rfl,rfl⟩ ?_ ?_
 rintro _ _ ⟨l22,t23,hF,rfl,rfl⟩
 unfold q4y at hF
 refine go ?_
 exact lC ⟨_,l22,t23,hF,rfl,rfl⟩
 rintro (_|m2) _ _ ⟨z19,l20,t21,hF,rfl,rfl⟩
 cases hF
 unfold q2f at hF
 obtain ⟨b25,h26,hF⟩:=q00 hF
 refine gn ?_
 refine z0k (fun tm σ=>tm=fr 54 [(3,.vl 1 t21 0 l20.length),(4,.i6 z6),(5,.i6 z19),(28,.bool b25)]∧σ=⟨[(1,.vec (List.map (cL (cI .u64)) l20).flatten 103 1 t21),(0,.row [] 103)],2⟩) ?_ ?_
 rintro _ _ ⟨rfl,rfl⟩
 refine go ?_
 refine cF hF (fun h27 hF=>?_) (fun h27 hF=>?_)
 refine go ?_
 refine WPU.block ?_
 obtain ⟨x28,h29,hF⟩:=q00 hF
 obtain ⟨x30,h31,hF⟩:=q00 hF
 obtain ⟨r32,h33,hF⟩:=q00 hF
 refine go ?_
 refine z0m Tryz.tb_ok [] (by kernel_rfl) ?_
 refine gd ?_
 refine RD.q rfl (qbd rfl rfl (qi9 (cL (cI .u64)) un148.h (q2l if103.h) (by decide) (qdd (cI .u64)) (vo rfl) h29)) ?_
 refine RD.q rfl (qa5 (cL (cI .u64)) (fun x=>.iM (cI .u64) x) un103.h rfl (fun _=>rfl) rfl rfl h29) ?_
 refine gd ?_
 refine RD.q rfl (qbd rfl rfl (qi9 (cL (cI .u64)) un148.h (q2l if103.h) (by decide) (qdd (cI .u64)) (vo rfl) h31)) ?_
 refine RD.q rfl (qa5 (cL (cI .u64)) (fun x=>.iM (cI .u64) x) un103.h rfl (fun _=>rfl) rfl rfl h31) (RD.fl rfl (pC (qk6 n x28 x30 r32 h33)) fn118 ?_)
 refine gd ?_
 refine RD.done ⟨by kernel_rfl,trivial,?_⟩
 obtain ⟨b37,h38,hF⟩:=q00 hF
 refine gn ?_
 refine z0k (fun tm σ=>tm=fr 54 [(3,.vl 1 t21 0 l20.length),(4,.i6 z6),(5,.i6 z19),(6,.iM (cI .u64) r32),(48,.bool b37)]∧σ=⟨[(1,.vec (List.map (cL (cI .u64)) l20).flatten 103 1 t21),(0,.row [] 103)],2⟩) ?_ ?_
 rintro _ _ ⟨rfl,rfl⟩
 refine gn ?_
 refine z0k (fun tm σ=>∃ l40:List (List Int),∃ t41:Nat,q4w z19 (q2f n z6 (q1f n m1) m2) l40=some r∧tm=fr 54 [(3,.vl 1 t41 0 l40.length),(4,.i6 z6),(5,.i6 z19)]∧σ=⟨[(1,.vec (List.map (cL (cI .u64)) l40).flatten 103 1 t41),(0,.row [] 103)],2⟩) ?_ ?_
 rintro _ _ ⟨l40,t41,hF,rfl,rfl⟩
 unfold q4w at hF
 refine go ?_
 exact lC ⟨_,l40,t41,hF,rfl,rfl⟩
 refine cF hF (fun h39 hF=>?_) (fun h39 hF=>?_)
 obtain ⟨h42,hF⟩:=q08 hF
 refine go ?_
 refine RS.g ?_
 refine RS.g ?_
 refine go ?_
 exact xC ⟨(l20++[r32]),(t21+1),hF,rfl,rfl⟩
 refine go ?_
 exact xC ⟨l20,t21,hF,rfl,rfl⟩
 rcases gB h38 with ⟨h34,h38⟩ | ⟨h34,h38⟩
 obtain ⟨r35,h36,h38⟩:=q00 h38
 obtain rfl:=sI h38
 refine go ?_
 refine RS.cl rfl (vw (qsl n l20 r32 r35 h36) (z0l 1 1)) fn128 ?_
 refine go ?_
 exact xC ⟨rfl,rfl⟩
 exact gy h38
 refine go ?_
 exact xC ⟨l20,t21,hF,rfl,rfl⟩
 rcases gB h26 with ⟨h24,h26⟩ | ⟨h24,h26⟩
 exact gy h26
 exact gy h26
 refine go ?_
 exact xC ⟨l7,t8,hF,rfl,rfl⟩
 rcases gB h13 with ⟨h11,h13⟩ | ⟨h11,h13⟩
 exact gy h13
 exact gy h13
def q48 (n:Nat) (l11:List Int):Option ((List Int)) :=
 q03 (q2t n l11) fun r13 =>
 some r13
def q5m (p1:List Int) (p2:List Int) (n:Nat):Nat→Int→(List Int)→Option ((List Int))
 | 0,_,_=>none
 | m1+1,z8,l9 =>
  cond (decide (z8<(p1.length:Int)))
   (q03 (q0o p1 z8) fun x16 =>
   q03 (q7r n p2 z8) fun r18 =>
   q0y ((l9.length+1)*8≤140737488355328∧l9.length+1≤140737488355328) (
   (q5m p1 p2 n m1) (IntKind.i64.wrap (z8+1)) (l9++[(qgz .u64 x16 r18)])))
   (q48 n l9)
def q7o (n:Nat) (p1:List Int) (p2:List Int):Option ((List Int)) :=
 q5m p1 p2 n n 0 ([]:List Int)
theorem qmt (n:Nat) (p1:List Int) (p2:List Int) (r:(List Int)) (hF:q7o n p1 p2=some r):EvU Tryz.prog 153 [.isl false (List.map (cI .u64) p1),.isl false (List.map (cI .u64) p2)] ⟨[],0⟩ (fun u _=>u = .isl false (List.map (cI .u64) r)∧Bel 0 u):=by
 unfold q7o at hF
 refine bg2 26 fn153 ?_
 refine gr ?_
 refine gr ?_
 refine gr ?_
 refine WPU.ghost (tm':=fr 26 [(0,.iM (cI .u64) p1),(1,.iM (cI .u64) p2),(5,.vl 0 0 0 (([]:List Int).length)),(6,.i6 0)]) (σ':=⟨[(0,.vec (List.map (cI .u64) ([]:List Int)).flatten 191 1 0)],1⟩) (Gh.trans (z0n 5 191 1 (by decide) NZ rfl rfl) (z0o ⟨rfl,rfl,rfl,rfl,trivial⟩ rfl)) NZ ?_
 refine gS (l':=[(0,_),(1,_),(5,_),(6,_)]) ?_
 refine z0j (fun m tm σ=>∃ z8:Int,∃ l9:List Int,∃ t10:Nat,q5m p1 p2 n m z8 l9=some r∧tm=fr 26 [(0,.iM (cI .u64) p1),(1,.iM (cI .u64) p2),(5,.vl 0 t10 0 l9.length),(6,.i6 z8)]∧σ=⟨[(0,.vec (List.map (cI .u64) l9).flatten 191 1 t10)],1⟩) (fun tm σ=>∃ l11:List Int,∃ t12:Nat,q48 n l11=some r∧tm=fr 26 [(5,.vl 0 t12 0 l11.length)]∧σ=⟨[(0,.vec (List.map (cI .u64) l11).flatten 191 1 t12)],1⟩) n ⟨0,([]:List Int),0,hF,rfl,rfl⟩ ?_ ?_
 rintro _ _ ⟨l11,t12,hF,rfl,rfl⟩
 unfold q48 at hF
 refine gn ?_
 refine WPU.ghost (tm':=fr 26 [(5,.iM (cI .u64) l11)]) (σ':=⟨[],1⟩) (Gh.trans (Gh.sub (l':=[(5,.vl 0 t12 0 l11.length)]) ⟨rfl,trivial⟩) (z0v 0 1)) NZ ?_
 obtain ⟨r13,h14,hF⟩:=q00 hF
 refine go ?_
 refine RS.cl rfl (pC (q7y n l11 r13 h14) _) fn119 ?_
 exact gx hF
 rintro (_|m1) _ _ ⟨z8,l9,t10,hF,rfl,rfl⟩
 cases hF
 unfold q5m at hF
 refine go ?_
 refine cF hF (fun h15 hF=>?_) (fun h15 hF=>?_)
 refine go ?_
 refine WPU.block ?_
 obtain ⟨x16,h17,hF⟩:=q00 hF
 obtain ⟨r18,h19,hF⟩:=q00 hF
 obtain ⟨h20,hF⟩:=q08 hF
 refine go ?_
 refine z0m Tryz.tb_ok [(0,9)] (by kernel_rfl) ?_
 refine gd ?_
 refine RD.ix h17 ?_
 refine gd ?_
 refine RD.fl rfl (pC (qi3 n p2 z8 r18 h19)) fn146 (RD.q rfl (qax rfl rfl (qu9 _ _ _) rfl) ?_)
 refine RD.g ?_
 refine RD.g ?_
 refine gd ?_
 refine RD.done ⟨by kernel_rfl,⟨q4f rfl,trivial⟩,?_⟩
 refine go ?_
 exact lC ⟨_,(l9++[(qgz .u64 x16 r18)]),(t10+1),hF,rfl,rfl⟩
 refine go ?_
 exact xC ⟨l9,t10,hF,rfl,rfl⟩
def q4s (n:Nat) (p1:List Int) (p2:List Int):Option (Bool) :=
 q03 (q7o n p1 p2) fun r3 =>
 some ((r3.length:Int) == 0)
theorem q7z (n:Nat) (p1:List Int) (p2:List Int) (r:Bool) (hF:q4s n p1 p2=some r):EvU Tryz.prog 133 [.isl false (List.map (cI .u64) p1),.isl false (List.map (cI .u64) p2)] ⟨[],0⟩ (fun u _=>u = .bool r∧Bel 0 u):=by
 unfold q4s at hF
 refine bg2 10 fn133 ?_
 obtain ⟨r3,h4,hF⟩:=q00 hF
 refine go ?_
 refine RS.cl rfl (pC (qmt n p1 p2 r3 h4) _) fn153 ?_
 exact gx hF
def qa9 (n:Nat) (p1:List Int) (p2:List Int):Option (Bool) :=
 q03 (q03 (q4s n p1 p2) fun r3 =>
 cond r3
  (q03 (q4s n p2 p1) fun r6 =>
  some r6)
  (some false)) fun b8 =>
 some b8
theorem qms (n:Nat) (p1:List Int) (p2:List Int) (r:Bool) (hF:qa9 n p1 p2=some r):EvU Tryz.prog 129 [.isl false (List.map (cI .u64) p1),.isl false (List.map (cI .u64) p2)] ⟨[],0⟩ (fun u _=>u = .bool r∧Bel 0 u):=by
 unfold qa9 at hF
 refine bg2 13 fn129 ?_
 obtain ⟨b8,h9,hF⟩:=q00 hF
 refine gr ?_
 refine z0k (fun tm σ=>tm=fr 13 [(4,.bool b8)]∧σ=⟨[],0⟩) ?_ ?_
 rintro _ _ ⟨rfl,rfl⟩
 exact gx hF
 obtain ⟨r3,h4,h9⟩:=q00 h9
 rcases gB h9 with ⟨h5,h9⟩ | ⟨h5,h9⟩
 obtain ⟨r6,h7,h9⟩:=q00 h9
 obtain rfl:=sI h9
 refine go ?_
 refine RS.cl rfl (pC (q7z n p1 p2 r3 h4) _) fn133 ?_
 refine go ?_
 refine RS.cl rfl (pC (q7z n p2 p1 r6 h7) _) fn133 ?_
 refine go ?_
 exact xC ⟨rfl,rfl⟩
 obtain rfl:=sI h9
 refine go ?_
 refine RS.cl rfl (pC (q7z n p1 p2 r3 h4) _) fn133 ?_
 refine go ?_
 exact xC ⟨rfl,rfl⟩
def qbr (n:Nat) (p1:List Int) (p2:Int):Option (Bool) :=
 q03 (cond (decide (p2<0))
  (some true)
  (some (decide ((IntKind.i64.wrap (p2.tdiv 64)) ≥ (p1.length:Int))))) fun b5 =>
 cond b5
  (some false)
  (q03 (q0o p1 (IntKind.i64.wrap (p2.tdiv 64))) fun x9 =>
  q0y (¬ (IntKind.u64.wrap (p2.tmod 64))<0) (
  some ((qz2 .u64 (x9.fdiv (2 ^ (min (IntKind.u64.wrap (p2.tmod 64)).toNat IntKind.u64.bits))) 1) == 1)))
theorem qk7 (n:Nat) (p1:List Int) (p2:Int) (r:Bool) (hF:qbr n p1 p2=some r):EvU Tryz.prog 130 [.isl false (List.map (cI .u64) p1),.int .i64 p2] ⟨[],0⟩ (fun u _=>u = .bool r∧Bel 0 u):=by
 unfold qbr at hF
 refine bg2 25 fn130 ?_
 obtain ⟨b5,h6,hF⟩:=q00 hF
 refine gr ?_
 refine z0k (fun tm σ=>tm=fr 25 [(0,.iM (cI .u64) p1),(1,.i6 p2),(13,.bool b5)]∧σ=⟨[],0⟩) ?_ ?_
 rintro _ _ ⟨rfl,rfl⟩
 refine go ?_
 refine cF hF (fun h7 hF=>?_) (fun h7 hF=>?_)
 exact gx hF
 obtain ⟨x9,h10,hF⟩:=q00 hF
 obtain ⟨h12,hF⟩:=q08 hF
 refine go ?_
 refine RS.q rfl (qax rfl rfl (qqs _ (by decide)) rfl) ?_
 refine RS.ix h10 ?_
 refine go ?_
 refine RS.q rfl (qax rfl rfl (qyf _ (by decide)) rfl) ?_
 refine RS.q (u:=.int .u64 (IntKind.u64.wrap (p2.tmod 64))) rfl (qut rfl rfl (by simp only [qph,un3.h,un190.h]<;>rfl) rfl) ?_
 refine RS.q rfl (qax rfl rfl (ix_shr _ h12) rfl) (RS.q rfl (qax rfl rfl (qye _ _ _) rfl) ?_)
 exact gx hF
 rcases gB h6 with ⟨h3,h6⟩ | ⟨h3,h6⟩
 exact gy h6
 obtain rfl:=sI h6
 refine go ?_
 refine RS.w rfl (qax rfl rfl (qqs _ (by decide)) rfl) ?_
 refine go ?_
 exact xC ⟨rfl,rfl⟩
def q3t (z8:Int) (rc1:(List (List UInt8))→Int→Option ((List (List UInt8)))) (l16:List (List UInt8)):Option ((List (List UInt8))) :=
 rc1 l16 (IntKind.i64.wrap (z8+1))
def q5a  (l9:List (List UInt8)):Option ((List (List UInt8))) :=
 some l9
def q18 (p1:List q01) (p2:List (List UInt8)) (n:Nat):Nat→(List (List UInt8))→Int→Option ((List (List UInt8)))
 | 0,_,_=>none
 | m1+1,l7,z8 =>
  cond (decide (z8<(p2.length:Int)))
   (q03 (q0o p2 z8) fun x11 =>
   q03 (q3u n p1 x11) fun r13 =>
   cond (decide (r13 ≥ 0))
    (q03 (q0o p2 z8) fun x17 =>
    q03 (q6z n l7 x17) fun r19 =>
    q3t z8 (q18 p1 p2 n m1) r19)
    (q3t z8 (q18 p1 p2 n m1) l7))
   (q5a l7)
def q89 (n:Nat) (p1:List q01) (p2:List (List UInt8)):Option ((List (List UInt8))) :=
 q18 p1 p2 n n [] 0
theorem qib (n:Nat) (p1:List q01) (p2:List (List UInt8)) (r:(List (List UInt8))) (hF:q89 n p1 p2=some r):EvU Tryz.prog 150 [.isl false (List.map q02 p1),.isl false (List.map cS p2)] ⟨[],0⟩ (fun u _=>u = .isl false (List.map cS r)∧Bel 0 u):=by
 unfold q89 at hF
 refine bg2 27 fn150 ?_
 refine gr ?_
 refine gr ?_
 refine gr ?_
 refine WPU.ghost (tm':=fr 27 [(0,.iM q02 p1),(1,.iM cS p2),(5,.iM cS []),(6,.i6 0)]) (Gh.trans (Gh.sub (l':=[(0,.iM q02 p1),(1,.iM cS p2),(5,.nils),(6,.i6 0)]) ⟨rfl,rfl,rfl,rfl,trivial⟩) (Gh.wkS (l':=[(0,.iM q02 p1),(1,.iM cS p2),(5,.iM cS []),(6,.i6 0)]) (.cons (.refl _) (.cons (.refl _) (.cons (.nil false) (.cons (.refl _) .nil)))))) NZ ?_
 refine gS (l':=[(0,_),(1,_),(5,_),(6,_)]) ?_
 refine z0j (fun m tm σ=>∃ l7:List (List UInt8),∃ z8:Int,q18 p1 p2 n m l7 z8=some r∧tm=fr 27 [(0,.iM q02 p1),(1,.iM cS p2),(5,.iM cS l7),(6,.i6 z8)]∧σ=⟨[],0⟩) (fun tm σ=>∃ l9:List (List UInt8),q5a l9=some r∧tm=fr 27 [(5,.iM cS l9)]∧σ=⟨[],0⟩) n ⟨[],0,hF,rfl,rfl⟩ ?_ ?_
 rintro _ _ ⟨l9,hF,rfl,rfl⟩
 unfold q5a at hF
 exact gx hF
 rintro (_|m1) _ _ ⟨l7,z8,hF,rfl,rfl⟩
 cases hF
 unfold q18 at hF
 refine go ?_
 refine cF hF (fun h10 hF=>?_) (fun h10 hF=>?_)
 refine go ?_
 refine WPU.block ?_
 obtain ⟨x11,h12,hF⟩:=q00 hF
 obtain ⟨r13,h14,hF⟩:=q00 hF
 refine go ?_
 refine RS.ix h12 ?_
 refine go ?_
 refine RS.cl rfl (pC (q6l n p1 x11 r13 h14) _) fn148 ?_
 refine gn ?_
 refine z0k (fun tm σ=>∃ l16:List (List UInt8),q3t z8 (q18 p1 p2 n m1) l16=some r∧tm=fr 27 [(0,.iM q02 p1),(1,.iM cS p2),(5,.iM cS l16),(6,.i6 z8)]∧σ=⟨[],0⟩) ?_ ?_
 rintro _ _ ⟨l16,hF,rfl,rfl⟩
 unfold q3t at hF
 refine go ?_
 exact lC ⟨l16,(IntKind.i64.wrap (z8+1)),hF,rfl,rfl⟩
 refine cF hF (fun h15 hF=>?_) (fun h15 hF=>?_)
 obtain ⟨x17,h18,hF⟩:=q00 hF
 obtain ⟨r19,h20,hF⟩:=q00 hF
 refine go ?_
 refine RS.ix h18 ?_
 refine go ?_
 refine RS.cl rfl (pC (q7s n l7 x17 r19 h20) _) fn116 ?_
 refine go ?_
 exact xC ⟨r19,hF,rfl,rfl⟩
 refine go ?_
 exact xC ⟨l7,hF,rfl,rfl⟩
 refine go ?_
 exact xC ⟨l7,hF,rfl,rfl⟩
def q81  (l21:List (List UInt8)):Option ((List (List UInt8))) :=
 some l21
def q2u (n:Nat) (l13:List (List UInt8)):Nat→(List (List UInt8))→Int→Option ((List (List UInt8)))
 | 0,_,_=>none
 | m2+1,l19,z20 =>
  cond (decide (z20<(l13.length:Int)))
   (q03 (q0o l13 z20) fun x23 =>
   q03 (q6z n l19 x23) fun r25 =>
   (q2u n l13 m2) r25 (IntKind.i64.wrap (z20+1)))
   (q81 l19)
def q5n (z40:Int) (rc3:Int→(List (List UInt8))→Option ((List (List UInt8)))) (l51:List (List UInt8)):Option ((List (List UInt8))) :=
 rc3 (IntKind.i64.wrap (z40+1)) l51
def q82 (z10:Int) (rc1:Int→(List (List UInt8))→Option ((List (List UInt8)))) (l43:List (List UInt8)):Option ((List (List UInt8))) :=
 rc1 (IntKind.i64.wrap (z10+1)) l43
def q24 (n:Nat) (z10:Int) (rc1:Int→(List (List UInt8))→Option ((List (List UInt8)))) (x32:q01):Nat→Int→(List (List UInt8))→Option ((List (List UInt8)))
 | 0,_,_=>none
 | m3+1,z40,l41 =>
  cond (decide (z40<(x32.Supers.length:Int)))
   (q03 (q0o x32.Supers z40) fun x46 =>
   q03 (q2g n l41 x46) fun r48 =>
   cond (!r48)
    (q03 (q0o x32.Supers z40) fun x53 =>
    q0y ((l41.length+1)*16≤140737488355328∧l41.length+1≤140737488355328) (
    q5n z40 (q24 n z10 rc1 x32 m3) (l41++[x53])))
    (q5n z40 (q24 n z10 rc1 x32 m3) l41))
   (q82 z10 rc1 l41)
def q80 (n:Nat) (l13:List (List UInt8)):Option ((List (List UInt8))) :=
 q2u n l13 n [] 0
def q1n (p1:List q01) (n:Nat):Nat→Int→(List (List UInt8))→Option ((List (List UInt8)))
 | 0,_,_=>none
 | m1+1,z10,l11 =>
  cond (decide (z10<(l11.length:Int)))
   (q03 (q0o l11 z10) fun x28 =>
   q03 (q3u n p1 x28) fun r30 =>
   q03 (q0o p1 r30) fun x32 =>
   q24 n z10 (q1n p1 n m1) x32 n 0 l11)
   (q80 n l11)
def qab (n:Nat) (p1:List q01) (p2:List UInt8):Option ((List (List UInt8))) :=
 q03 (q3u n p1 p2) fun r3 =>
 cond (decide (r3<0))
  (some [])
  (q1n p1 n n 0 ([p2]))
theorem qmu (n:Nat) (p1:List q01) (p2:List UInt8) (r:(List (List UInt8))) (hF:qab n p1 p2=some r):EvU Tryz.prog 151 [.isl false (List.map q02 p1),.str p2] ⟨[],0⟩ (fun u _=>u = .isl false (List.map cS r)∧Bel 0 u):=by
 unfold qab at hF
 refine bg2 66 fn151 ?_
 obtain ⟨r3,h4,hF⟩:=q00 hF
 refine go ?_
 refine RS.cl rfl (pC (q6l n p1 p2 r3 h4) _) fn148 ?_
 refine go ?_
 refine cF hF (fun h5 hF=>?_) (fun h5 hF=>?_)
 refine go ?_
 obtain rfl:=sI hF
 exact rT (us:=[.nils]) (u:=.isl false []) (q1v rfl (q2r)) wR
 refine go ?_
 refine RS.step (u:=.vl 0 0 0 ([p2].length)) (σ':=⟨[(0,.vec (List.map cS ([p2])).flatten 9 1 0)],1⟩) rfl (qd3.bslv (cs:=(List.map cS [p2]).flatten) Tryz.tb_ok rfl un80.h if9.h rfl rfl rfl rfl rfl rfl rfl rfl) rfl rfl ?_
 refine go ?_
 refine gS (l':=[(0,_),(5,_),(6,_)]) ?_
 refine z0j (fun m tm σ=>∃ z10:Int,∃ l11:List (List UInt8),∃ t12:Nat,q1n p1 n m z10 l11=some r∧tm=fr 66 [(0,.iM q02 p1),(5,.vl 0 t12 0 l11.length),(6,.i6 z10)]∧σ=⟨[(0,.vec (List.map cS l11).flatten 9 1 t12)],1⟩) (fun tm σ=>∃ l13:List (List UInt8),∃ t14:Nat,q80 n l13=some r∧tm=fr 66 [(5,.vl 0 t14 0 l13.length)]∧σ=⟨[(0,.vec (List.map cS l13).flatten 9 1 t14)],1⟩) n ⟨0,[p2],0,hF,rfl,rfl⟩ ?_ ?_
 rintro _ _ ⟨l13,t14,hF,rfl,rfl⟩
 unfold q80 at hF
 refine gr ?_
 refine gr ?_
 refine WPU.ghost (tm':=fr 66 [(5,.vl 0 t14 0 l13.length),(9,.iM cS []),(10,.i6 0)]) (Gh.trans (Gh.sub (l':=[(5,.vl 0 t14 0 l13.length),(9,.nils),(10,.i6 0)]) ⟨rfl,rfl,rfl,trivial⟩) (Gh.wkS (l':=[(5,.vl 0 t14 0 l13.length),(9,.iM cS []),(10,.i6 0)]) (.cons (.refl _) (.cons (.nil false) (.cons (.refl _) .nil))))) NZ ?_
 refine gS (l':=[(5,_),(9,_),(10,_)]) ?_
 refine z0j (fun m tm σ=>∃ l19:List (List UInt8),∃ z20:Int,q2u n l13 m l19 z20=some r∧tm=fr 66 [(5,.vl 0 t14 0 l13.length),(9,.iM cS l19),(10,.i6 z20)]∧σ=⟨[(0,.vec (List.map cS l13).flatten 9 1 t14)],1⟩) (fun tm σ=>∃ l21:List (List UInt8),q81 l21=some r∧tm=fr 66 [(9,.iM cS l21)]∧σ=⟨[(0,.vec (List.map cS l13).flatten 9 1 t14)],1⟩) n ⟨[],0,hF,rfl,rfl⟩ ?_ ?_
 rintro _ _ ⟨l21,hF,rfl,rfl⟩
 unfold q81 at hF
 exact gx hF
 rintro (_|m2) _ _ ⟨l19,z20,hF,rfl,rfl⟩
 cases hF
 unfold q2u at hF
 refine go ?_
 refine cF hF (fun h22 hF=>?_) (fun h22 hF=>?_)
 refine go ?_
 refine WPU.block ?_
 obtain ⟨x23,h24,hF⟩:=q00 hF
 obtain ⟨r25,h26,hF⟩:=q00 hF
 refine go ?_
 refine RS.q rfl (qbd rfl rfl (qi9 cS un80.h (q2l if9.h) (by decide) qes (vo rfl) h24)) ?_
 refine RS.q rfl (qa5 cS (fun x=>.str x) un9.h rfl (fun _=>rfl) rfl rfl h24) (RS.cl rfl (pC (q7s n l19 x23 r25 h26) _) fn116 ?_)
 refine go ?_
 exact lC ⟨r25,(IntKind.i64.wrap (z20+1)),hF,rfl,rfl⟩
 refine go ?_
 exact xC ⟨l19,hF,rfl,rfl⟩
 rintro (_|m1) _ _ ⟨z10,l11,t12,hF,rfl,rfl⟩
 cases hF
 unfold q1n at hF
 refine go ?_
 refine cF hF (fun h27 hF=>?_) (fun h27 hF=>?_)
 refine go ?_
 refine WPU.block ?_
 obtain ⟨x28,h29,hF⟩:=q00 hF
 obtain ⟨r30,h31,hF⟩:=q00 hF
 obtain ⟨x32,h33,hF⟩:=q00 hF
 refine go ?_
 refine RS.q rfl (qbd rfl rfl (qi9 cS un80.h (q2l if9.h) (by decide) qes (vo rfl) h29)) ?_
 refine RS.q rfl (qa5 cS (fun x=>.str x) un9.h rfl (fun _=>rfl) rfl rfl h29) (RS.cl rfl (pC (q6l n p1 x28 r30 h31) _) fn148 ?_)
 refine RS.ix h33 ?_
 refine go ?_
 refine gS (l':=[(0,_),(5,_),(6,_),(7,_),(8,_)]) ?_
 refine z0j (fun m tm σ=>∃ z40:Int,∃ l41:List (List UInt8),∃ t42:Nat,q24 n z10 (q1n p1 n m1) x32 m z40 l41=some r∧tm=fr 66 [(0,.iM q02 p1),(5,.vl 0 t42 0 l41.length),(6,.i6 z10),(7,.iM cS x32.Supers),(8,.i6 z40)]∧σ=⟨[(0,.vec (List.map cS l41).flatten 9 1 t42)],1⟩) (fun tm σ=>∃ l43:List (List UInt8),∃ t44:Nat,q82 z10 (q1n p1 n m1) l43=some r∧tm=fr 66 [(0,.iM q02 p1),(5,.vl 0 t44 0 l43.length),(6,.i6 z10)]∧σ=⟨[(0,.vec (List.map cS l43).flatten 9 1 t44)],1⟩) n ⟨0,l11,t12,hF,rfl,rfl⟩ ?_ ?_
 rintro _ _ ⟨l43,t44,hF,rfl,rfl⟩
 unfold q82 at hF
 refine go ?_
 exact lC ⟨_,l43,t44,hF,rfl,rfl⟩
 rintro (_|m3) _ _ ⟨z40,l41,t42,hF,rfl,rfl⟩
 cases hF
 unfold q24 at hF
 refine go ?_
 refine cF hF (fun h45 hF=>?_) (fun h45 hF=>?_)
 refine go ?_
 refine WPU.block ?_
 obtain ⟨x46,h47,hF⟩:=q00 hF
 obtain ⟨r48,h49,hF⟩:=q00 hF
 refine go ?_
 refine RS.ix h47 ?_
 refine go ?_
 refine RS.cl rfl (vw (q1t n l41 x46 r48 h49) (z0l 0 1)) fn126 ?_
 refine gn ?_
 refine z0k (fun tm σ=>∃ l51:List (List UInt8),∃ t52:Nat,q5n z40 (q24 n z10 (q1n p1 n m1) x32 m3) l51=some r∧tm=fr 66 [(0,.iM q02 p1),(5,.vl 0 t52 0 l51.length),(6,.i6 z10),(7,.iM cS x32.Supers),(8,.i6 z40)]∧σ=⟨[(0,.vec (List.map cS l51).flatten 9 1 t52)],1⟩) ?_ ?_
 rintro _ _ ⟨l51,t52,hF,rfl,rfl⟩
 unfold q5n at hF
 refine go ?_
 exact lC ⟨_,l51,t52,hF,rfl,rfl⟩
 refine cF hF (fun h50 hF=>?_) (fun h50 hF=>?_)
 obtain ⟨x53,h54,hF⟩:=q00 hF
 obtain ⟨h55,hF⟩:=q08 hF
 refine go ?_
 refine RS.ix h54 ?_
 refine go ?_
 refine RS.g ?_
 refine RS.g ?_
 refine go ?_
 exact xC ⟨(l41++[x53]),(t42+1),hF,rfl,rfl⟩
 refine go ?_
 exact xC ⟨l41,t42,hF,rfl,rfl⟩
 refine go ?_
 exact xC ⟨l41,t42,hF,rfl,rfl⟩
 refine go ?_
 exact xC ⟨l11,t12,hF,rfl,rfl⟩
end Go.Proofs
end
