/-
  Texts of the walk: H4.
-/
import Derived.Test.YtkgbipeaeamohaaGreatDoorP15
set_option linter.unusedSimpArgs false
set_option linter.unusedVariables false
section
namespace Go.Proofs
open Go Go.Rx Go.Vx Tryz
set_option maxRecDepth 20000
set_option maxHeartbeats 4000000
set_option synthInstance.maxSize 4000
set_option synthInstance.maxHeartbeats 200000
structure q0y where
 Typex:Int
 Arcs:List q28
def q02 (x:q0y):List U:=[.int .i64 x.Typex,.isl false (List.map q0o x.Arcs)]
theorem qky (n:Nat) (x:q0y):q1p n (q02 x):=by
 simp only [q02,q1p,Bel,true_and,and_true]
 exact q3s _ (fun q=>qip _ q) _
theorem q3g (x:q0y):(q02 x).length=2:=rfl
instance:qqo q02 2:=⟨q3g⟩
instance:BF q02:=⟨qky⟩
instance (n:Nat) (x:q0y):BUL n (q02 x):=⟨qky n x⟩
structure GFS where
 Nodes:List q0y
structure q0j where
 A:List Int
 B:List Int
def q0k (x:q0j):List U:=[.isl false (List.map (cI .i64) x.A),.isl false (List.map (cI .i64) x.B)]
theorem qlm (n:Nat) (x:q0j):q1p n (q0k x):=by
 simp only [q0k,q1p,Bel,true_and,and_true]
 exact ⟨q3s _ (fun q=>qe1 _ .i64 q) _,q3s _ (fun q=>qe1 _ .i64 q) _⟩
theorem q2p (x:q0j):(q0k x).length=2:=rfl
instance:qqo q0k 2:=⟨q2p⟩
instance:BF q0k:=⟨qlm⟩
structure q0x where
 Feat:Int
 Value:Int
def q0p (x:q0x):List U:=[.int .i64 x.Feat,.int .i64 x.Value]
theorem qhf (n:Nat) (x:q0x):q1p n (q0p x):=by
 simp only [q0p,q1p,Bel,true_and,and_true]
theorem qhm (x:q0x):(q0p x).length=2:=rfl
instance:qqo q0p 2:=⟨qhm⟩
instance:BF q0p:=⟨qhf⟩
structure q8g where
 Name:List UInt8
 Code:List Int
 Supers:List Int
 Feats:List q0x
def q75 (x:q8g):List U:=[.str x.Name,.isl false (List.map (cI .u64) x.Code),.isl false (List.map (cI .i64) x.Supers),.isl false (List.map q0p x.Feats)]
theorem qkz (n:Nat) (x:q8g):q1p n (q75 x):=by
 simp only [q75,q1p,Bel,true_and,and_true]
 exact ⟨q3s _ (fun q=>qe1 _ .u64 q) _,q3s _ (fun q=>qe1 _ .i64 q) _,q3s _ (fun q=>qhf _ q) _⟩
theorem qlb (x:q8g):(q75 x).length=4:=rfl
instance:qqo q75 4:=⟨qlb⟩
instance:BF q75:=⟨qkz⟩
structure q1a where
 Name:List UInt8
 Intro:Int
def q12 (x:q1a):List U:=[.str x.Name,.int .i64 x.Intro]
theorem qf1 (n:Nat) (x:q1a):q1p n (q12 x):=by
 simp only [q12,q1p,Bel,true_and,and_true]
theorem q7s (x:q1a):(q12 x).length=2:=rfl
instance:qqo q12 2:=⟨q7s⟩
instance:BF q12:=⟨qf1⟩
def qak (x y:q1a):Bool:=(q1c x.Name y.Name&&(x.Intro == y.Intro))
structure q0w where
 Types:List q8g
 Feats:List q1a
def q06 (x:q0w):List U:=[.isl false (List.map q75 x.Types),.isl false (List.map q12 x.Feats)]
theorem qir (n:Nat) (x:q0w):q1p n (q06 x):=by
 simp only [q06,q1p,Bel,true_and,and_true]
 exact ⟨q3s _ (fun q=>qkz _ q) _,q3s _ (fun q=>qf1 _ q) _⟩
instance (n:Nat) (x:q0w):BUL n (q06 x):=⟨qir n x⟩
structure q0n where
 Feat:List UInt8
 Value:List UInt8
def q0d (x:q0n):List U:=[.str x.Feat,.str x.Value]
theorem qdz (n:Nat) (x:q0n):q1p n (q0d x):=by
 simp only [q0d,q1p,Bel,true_and,and_true]
theorem q1q (x:q0n):(q0d x).length=2:=rfl
instance:qqo q0d 2:=⟨q1q⟩
instance:BF q0d:=⟨qdz⟩
structure q05 where
 Name:List UInt8
 Supers:List (List UInt8)
 Feats:List q0n
def q01 (x:q05):List U:=[.str x.Name,.isl false (List.map cS x.Supers),.isl false (List.map q0d x.Feats)]
theorem qe0 (n:Nat) (x:q05):q1p n (q01 x):=by
 simp only [q01,q1p,Bel,true_and,and_true]
 exact ⟨q3s _ (fun q=>qvl _ q) _,q3s _ (fun q=>qdz _ q) _⟩
theorem q0h (x:q05):(q01 x).length=3:=rfl
instance:BF q01:=⟨qe0⟩
instance (n:Nat) (x:q05):BUL n (q01 x):=⟨qe0 n x⟩
structure q0s where
 Name:List UInt8
 Code:List Int
def q0f (x:q0s):List U:=[.str x.Name,.isl false (List.map (cI .u64) x.Code)]
theorem qiq (n:Nat) (x:q0s):q1p n (q0f x):=by
 simp only [q0f,q1p,Bel,true_and,and_true]
 exact q3s _ (fun q=>qe1 _ .u64 q) _
theorem q1d (x:q0s):(q0f x).length=2:=rfl
instance:qqo q0f 2:=⟨q1d⟩
instance:BF q0f:=⟨qiq⟩
instance (n:Nat) (x:q0s):BUL n (q0f x):=⟨qiq n x⟩
theorem Tryz.eqs82:Tryz.tb.eqs 82=true:=by kernel_rfl
theorem eqv82 (x y:q1a):eqv Tryz.tb 50 82 (.agg ⟨[.string ⟨⟨x.Name⟩⟩,.int .i64 x.Intro]⟩) (.agg ⟨[.string ⟨⟨y.Name⟩⟩,.int .i64 y.Intro]⟩)=some (qak x y):=by
 simp only [eqv,cond_true,cond_false,qwm,qgv,q4x,nth,q0r,List.drop,List.take,List.toList_toArray,qak,ne_eq,String.reduceEq,not_false_eq_true,if_true,und3,und9,und82,eqs82,inf82]
 cases q1c x.Name y.Name<;>cases (x.Intro == y.Intro)<;>rfl
theorem qsa (x y:q1a):g2 (qkf Tryz.tb .eql 82) (.agg [.str x.Name,.int .i64 x.Intro]) (.agg [.str y.Name,.int .i64 y.Intro])=some (.bool (qak x y)):=by
 simp only [g2,toV,qmv,okL,okC,cond_true,qkf,q8i,eqs82,eqv82,ofV]
theorem Tryz.bd24:BdT Tryz.tb 24 [.nils] [(0,1)]:=bdT und24 inf24 rfl (by kernel_rfl)
theorem Tryz.bd43:BdT Tryz.tb 43 [.nils,.nils] [(0,1),(1,1)]:=bdT und43 inf43 rfl (by kernel_rfl)
theorem Tryz.bd54:BdT Tryz.tb 54 [.int .i64 0,.nils] [(0,1),(1,1)]:=bdT und54 inf54 rfl (by kernel_rfl)
theorem Tryz.bd56:BdT Tryz.tb 56 [.nils,.nils] [(0,1),(1,1)]:=bdT und56 inf56 rfl (by kernel_rfl)
theorem Tryz.bd66:BdT Tryz.tb 66 [.int .i64 0,.int .i64 0] [(0,1),(1,1)]:=bdT und66 inf66 rfl (by kernel_rfl)
theorem Tryz.bd82:BdT Tryz.tb 82 [.str [],.int .i64 0] [(0,1),(1,1)]:=bdT und82 inf82 rfl (by kernel_rfl)
theorem Tryz.bd105:BdT Tryz.tb 105 [.str [],.nils] [(0,1),(1,1)]:=bdT und105 inf105 rfl (by kernel_rfl)
theorem Tryz.bd109:BdT Tryz.tb 109 [.str [],.nils,.nils,.nils] [(0,1),(1,1),(2,1),(3,1)]:=bdT und109 inf109 rfl (by kernel_rfl)
theorem Tryz.bd127:BdT Tryz.tb 127 [.str [],.nils,.nils] [(0,1),(1,1),(2,1)]:=bdT und127 inf127 rfl (by kernel_rfl)
theorem Tryz.bd147:BdT Tryz.tb 147 [.int .i64 0,.int .i64 0] [(0,1),(1,1)]:=bdT und147 inf147 rfl (by kernel_rfl)
theorem Tryz.bd162:BdT Tryz.tb 162 [.str [],.str []] [(0,1),(1,1)]:=bdT und162 inf162 rfl (by kernel_rfl)
def qfg  (w13:qdy Int Bool):Option (Int) :=
 some 0
def q9a (p1:q0y) (p2:Int):Nat→Int→(qdy Int Bool)→Option (Int)
 | 0,_,_=>none
 | m1+1,z11,w12 =>
  cond (decide (z11<(p1.Arcs.length:Int)))
   (q03 (q13 p1.Arcs z11) fun x15 =>
   q03 (cond (decide (x15.Feat<0))
    (some true)
    (cond (decide (x15.To<0))
     (some true)
     (some (decide (x15.To ≥ p2))))) fun b19 =>
   cond b19
    (some 2)
    (cond ((mGet (fun a b=>a == b) w12 x15.Feat).getD false)
     (some 4)
     ((q9a p1 p2 m1) (IntKind.i64.wrap (z11+1)) (mUpd (fun a b=>a == b) w12 x15.Feat true))))
   (qfg w12)
def qjb (n:Nat) (p1:q0y) (p2:Int):Option (Int) :=
 cond (decide (p1.Typex<0))
  (some 2)
  (q9a p1 p2 n 0 (mNew:qdy Int Bool))
def q92 (z7:Int) (l8:List q28) (rc2:Int→(List q28)→Option ((List q28))) (x13:q28)  : Option ((List q28)) :=
 rc2 (IntKind.i64.wrap (z7+1)) (l8++[x13])
def q91  (l10:List q28):Option ((List q28)) :=
 some l10
def q4g (p1:List q28):Nat→Int→(List q28)→Option ((List q28))
 | 0,_,_=>none
 | m2+1,z7,l8 =>
  cond (decide (z7<(p1.length:Int)))
   (q03 (q13 p1 z7) fun x13 =>
   q16 ((l8.length+1)*16≤140737488355328∧l8.length+1≤140737488355328) (
   q92 z7 l8 (q4g p1 m2) x13))
   (q91 l8)
def qc3 (n:Nat) (p1:List q28):Option ((List q28)) :=
 q4g p1 n 0 ([]:List q28)
def qd7 (n:Nat) (p1:List q28):Option ((List q28)) :=
 q03 (qc3 n p1) fun r2 =>
 some r2
def q59 (n:Nat) (p1:List q28):Option ((List q28)) :=
 q03 (qd7 n p1) fun r2 =>
 q03 (sortO eqA (fun a b=>qj9 n a b ) r2) fun r6 =>
 some r6
def q7o (n:Nat) (p1:List q28):Option ((List q28)) :=
 some p1
def q5e (z24:Int) (rc1:Int→(List Int)→(qdy Int Int)→Option ((List Int)×(qdy Int Int))) (l35:List Int) (w37:qdy Int Int):Option ((List Int)×(qdy Int Int)) :=
 rc1 (IntKind.i64.wrap (z24+1)) l35 w37
def qar  (l28:List Int) (w30:qdy Int Int):Option ((List Int)×(qdy Int Int)) :=
 some (l28,w30)
def q36 (p2:List q0y) (r12:(List q28)) (self:Int→(List q0y)→(List Int)→(qdy Int Int)→Option ((List Int)×(qdy Int Int))):Nat→Int→(List Int)→(qdy Int Int)→Option ((List Int)×(qdy Int Int))
 | 0,_,_,_=>none
 | m1+1,z24,l25,w27 =>
  cond (decide (z24<(r12.length:Int)))
   (q03 (q13 r12 z24) fun x32 =>
   cond (!((mGet (fun a b=>a == b) w27 x32.To).isSome))
    (q03 (self x32.To p2 l25 w27) fun r38 =>
    q5e z24 (q36 p2 r12 self m1) r38.1 r38.2)
    (q5e z24 (q36 p2 r12 self m1) l25 w27))
   (qar l25 w27)
def qca (n:Nat) (self:Int→(List q0y)→(List Int)→(qdy Int Int)→Option ((List Int)×(qdy Int Int))) (p1:Int) (p2:List q0y) (p3:List Int) (p5:qdy Int Int):Option ((List Int)×(qdy Int Int)) :=
 q16 ((p3.length+1)*8≤140737488355328∧p3.length+1≤140737488355328) (
 q03 (q13 p2 p1) fun x7 =>
 q03 (q7o n x7.Arcs) fun r9 =>
 q03 (q59 n r9) fun r12 =>
 q36 p2 r12 self n 0 (p3++[p1]) (mUpd (fun a b=>a == b) p5 p1 (p3.length:Int)))
def q7m:Nat→Int→(List q0y)→(List Int)→(qdy Int Int)→Option ((List Int)×(qdy Int Int))
 | 0,_,_,_,_=>none
 | n+1,p1,p2,p3,p5=>qca n (q7m n) p1 p2 p3 p5
def qff (p1:GFS) (r3:(List Int)×(qdy Int Int)) (z14:Int) (l15:List q0y) (rc1:Int→(List q0y)→Option (GFS)) (x19:Int) (l44:List q28):Option (GFS) :=
 q03 (q13 p1.Nodes x19) fun x45 =>
 q03 (qrk l15 0 ((r3.1.length:Int).toNat) z14) fun x47 =>
 rc1 (IntKind.i64.wrap (z14+1)) (l15.set z14.toNat (q0y.mk x45.Typex l44))
def q99 (p1:GFS) (r3:(List Int)×(qdy Int Int)) (z14:Int) (l15:List q0y) (rc1:Int→(List q0y)→Option (GFS)) (x19:Int) (r26:(List q28)):Nat→Int→(List q28)→Option (GFS)
 | 0,_,_=>none
 | m2+1,z42,l43 =>
  cond (decide (z42<(r26.length:Int)))
   (q03 (q13 l43 z42) fun x50 =>
   q03 (q13 l43 z42) fun x52 =>
   (q99 p1 r3 z14 l15 rc1 x19 r26 m2) (IntKind.i64.wrap (z42+1)) (l43.set (0+z42.toNat) (q28.mk x52.Feat ((mGet (fun a b=>a == b) r3.2 x50.To).getD 0))))
   (qff p1 r3 z14 l15 rc1 x19 l43)
def qfe (r3:(List Int)×(qdy Int Int)) (l16:List q0y):Option (GFS) :=
 q16 ((r3.1.length:Int).toNat=l16.length) (
 some (GFS.mk l16))
def q98 (p1:GFS) (n:Nat) (r3:(List Int)×(qdy Int Int)):Nat→Int→(List q0y)→Option (GFS)
 | 0,_,_=>none
 | m1+1,z14,l15 =>
  cond (decide (z14<(r3.1.length:Int)))
   (q03 (q13 r3.1 z14) fun x19 =>
   q03 (q13 p1.Nodes x19) fun x21 =>
   q03 (q7o n x21.Arcs) fun r23 =>
   q03 (q59 n r23) fun r26 =>
   q99 p1 r3 z14 l15 (q98 p1 n r3 m1) x19 r26 n 0 r26)
   (qfe r3 l15)
def qja (n:Nat) (p1:GFS) (p2:Int):Option (GFS) :=
 q03 (q7m n p2 p1.Nodes ([]:List Int) (mNew:qdy Int Int)) fun r3 =>
 q16 (0≤(r3.1.length:Int)∧32*(r3.1.length:Int).toNat≤281474976710656∧(r3.1.length:Int)≤281474976710656) (
 q98 p1 n r3 n 0 (List.replicate (r3.1.length:Int).toNat (q0y.mk 0 [])))
def qkh (p1:GFS) (n:Nat)  : Option (GFS×Int) :=
 q03 (qja n p1 0) fun r9 =>
 some (r9,0)
def qki (p1:GFS) (n:Nat):Nat→Int→Option (GFS×Int)
 | 0,_=>none
 | m1+1,z8 =>
  cond (decide (z8<(p1.Nodes.length:Int)))
   (q03 (q13 p1.Nodes z8) fun x12 =>
   q03 (qjb n x12 (p1.Nodes.length:Int)) fun r14 =>
   cond (r14 != 0)
    (some ((GFS.mk []),r14))
    ((qki p1 n m1) (IntKind.i64.wrap (z8+1))))
   (qkh p1 n)
def qjx (p1:List q28) (z6:Int) (l7:List q28) (rc1:Int→(List q28)→Option ((List q28))) (z18:Int):Option ((List q28)) :=
 q16 ((0:Int)≤z18∧z18≤((l7.length:Nat):Int)) (
 q16 (0+z18.toNat≤l7.length) (
 q16 (((l7.drop 0).take z18.toNat).length*16≤140737488355328∧((l7.drop 0).take z18.toNat).length≤140737488355328) (
 q03 (q13 p1 z6) fun x22 =>
 q16 ((((l7.drop 0).take z18.toNat).length+1)*16≤140737488355328∧((l7.drop 0).take z18.toNat).length+1≤140737488355328) (
 q16 ((0:Int)≤z18∧z18≤((l7.length:Nat):Int)) (
 q16 ((0+z18.toNat)+(l7.length - z18.toNat)≤l7.length) (
 q16 (((((l7.drop 0).take z18.toNat)++[x22]).length+((l7.drop (0+z18.toNat)).take (l7.length - z18.toNat)).length)*16≤140737488355328∧(((l7.drop 0).take z18.toNat)++[x22]).length+((l7.drop (0+z18.toNat)).take (l7.length - z18.toNat)).length≤140737488355328) (
 rc1 (IntKind.i64.wrap (z6+1)) ((((l7.drop 0).take z18.toNat)++[x22])++((l7.drop (0+z18.toNat)).take (l7.length - z18.toNat))))))))))
def qd2 (p1:List q28) (z6:Int) (l7:List q28) (rc1:Int→(List q28)→Option ((List q28))):Nat→Int→Option ((List q28))
 | 0,_=>none
 | m2+1,z17 =>
  q03 (cond (decide (z17 > 0))
   (q03 (q13 l7 (IntKind.i64.wrap (z17 - 1))) fun x29 =>
   q03 (q13 p1 z6) fun x31 =>
   some (decide (x29.Feat > x31.Feat)))
   (some false)) fun b33 =>
  cond b33
   ((qd2 p1 z6 l7 rc1 m2) (IntKind.i64.wrap (z17 - 1)))
   (qjx p1 z6 l7 rc1 z17)
def qjw  (l9:List q28):Option ((List q28)) :=
 some l9
def qd1 (p1:List q28) (n:Nat):Nat→Int→(List q28)→Option ((List q28))
 | 0,_,_=>none
 | m1+1,z6,l7 =>
  cond (decide (z6<(p1.length:Int)))
   (qd2 p1 z6 l7 (qd1 p1 n m1) n (l7.length:Int))
   (qjw l7)
def qhq (n:Nat) (p1:List q28):Option ((List q28)) :=
 qd1 p1 n n 0 ([]:List q28)
def q60 (z23:Int) (rc1:Int→(List Int)→(List Int)→Option ((List Int)×(List Int))) (l36:List Int) (l37:List Int):Option ((List Int)×(List Int)) :=
 rc1 (IntKind.i64.wrap (z23+1)) l36 l37
def qcb  (l27:List Int) (l28:List Int):Option ((List Int)×(List Int)) :=
 some (l27,l28)
def q3r (p2:List q0y) (r12:List q28) (self:Int→(List q0y)→(List Int)→(List Int)→Option ((List Int)×(List Int))):Nat→Int→(List Int)→(List Int)→Option ((List Int)×(List Int))
 | 0,_,_,_=>none
 | m1+1,z23,l24,l25 =>
  cond (decide (z23<(r12.length:Int)))
   (q03 (q13 r12 z23) fun x31 =>
   q03 (q13 l24 x31.To) fun x33 =>
   cond (decide (x33<0))
    (q03 (q13 r12 z23) fun x39 =>
    q03 (self x39.To p2 l24 l25) fun r41 =>
    q60 z23 (q3r p2 r12 self m1) r41.1 r41.2)
    (q60 z23 (q3r p2 r12 self m1) l24 l25))
   (qcb l24 l25)
def qd3 (n:Nat) (self:Int→(List q0y)→(List Int)→(List Int)→Option ((List Int)×(List Int))) (p1:Int) (p2:List q0y) (p3:List Int) (p5:List Int):Option ((List Int)×(List Int)) :=
 q03 (q13 p3 p1) fun x7 =>
 q16 ((p5.length+1)*8≤140737488355328∧p5.length+1≤140737488355328) (
 q03 (q13 p2 p1) fun x10 =>
 q03 (qhq n x10.Arcs) fun r12 =>
 q3r p2 r12 self n 0 (p3.set (0+p1.toNat) (p5.length:Int)) (p5++[p1]))
def q90:Nat→Int→(List q0y)→(List Int)→(List Int)→Option ((List Int)×(List Int))
 | 0,_,_,_,_=>none
 | n+1,p1,p2,p3,p5=>qd3 n (q90 n) p1 p2 p3 p5
def qmh (z26:Int) (l27:List q0y) (rc2:Int→(List q0y)→Option (GFS)) (x34:q0y) (l54:List q28):Option (GFS) :=
 q16 ((l27.length+1)*32≤140737488355328∧l27.length+1≤140737488355328) (
 rc2 (IntKind.i64.wrap (z26+1)) (l27++[(q0y.mk x34.Typex l54)]))
def qg2 (r14:(List Int)×(List Int)) (z26:Int) (l27:List q0y) (rc2:Int→(List q0y)→Option (GFS)) (x34:q0y):Nat→Int→(List q28)→Option (GFS)
 | 0,_,_=>none
 | m3+1,z52,l53 =>
  cond (decide (z52<(l53.length:Int)))
   (q03 (q13 l53 z52) fun x57 =>
   q03 (q13 r14.1 x57.To) fun x59 =>
   q03 (q13 l53 z52) fun x61 =>
   (qg2 r14 z26 l27 rc2 x34 m3) (IntKind.i64.wrap (z52+1)) (l53.set (0+z52.toNat) (q28.mk x61.Feat x59)))
   (qmh z26 l27 rc2 x34 l53)
def qmg  (l29:List q0y):Option (GFS) :=
 some (GFS.mk l29)
def qg1 (p1:GFS) (n:Nat) (r14:(List Int)×(List Int)):Nat→Int→(List q0y)→Option (GFS)
 | 0,_,_=>none
 | m2+1,z26,l27 =>
  cond (decide (z26<(r14.2.length:Int)))
   (q03 (q13 r14.2 z26) fun x32 =>
   q03 (q13 p1.Nodes x32) fun x34 =>
   q03 (qhq n x34.Arcs) fun r36 =>
   qg2 r14 z26 l27 (qg1 p1 n r14 m2) x34 n 0 r36)
   (qmg l27)
def qmf (p1:GFS) (p2:Int) (n:Nat) (l12:List Int):Option (GFS) :=
 q03 (q90 n p2 p1.Nodes l12 ([]:List Int)) fun r14 =>
 qg1 p1 n r14 n 0 ([]:List q0y)
def qmi (p1:GFS) (p2:Int) (n:Nat):Nat→Int→(List Int)→Option (GFS)
 | 0,_,_=>none
 | m1+1,z9,l10 =>
  cond (decide (z9<(p1.Nodes.length:Int)))
   (q16 ((l10.length+1)*8≤140737488355328∧l10.length+1≤140737488355328) (
   (qmi p1 p2 n m1) (IntKind.i64.wrap (z9+1)) (l10++[(-1)])))
   (qmf p1 p2 n l10)
def q7i (z6:Int) (rc1:Int→(List Int)→Option ((List Int))) (l28:List Int):Option ((List Int)) :=
 rc1 (IntKind.i64.wrap (z6+1)) l28
def q4q (z6:Int) (rc1:Int→(List Int)→Option ((List Int))) (x12:q0y):Nat→Int→(List Int)→Option ((List Int))
 | 0,_,_=>none
 | m2+1,z25,l26 =>
  cond (decide (z25<(x12.Arcs.length:Int)))
   (q03 (q13 x12.Arcs z25) fun x31 =>
   q03 (q13 x12.Arcs z25) fun x33 =>
   q16 ((l26.length+2)*8≤140737488355328∧l26.length+2≤140737488355328) (
   (q4q z6 rc1 x12 m2) (IntKind.i64.wrap (z25+1)) (l26++[x31.Feat,x33.To])))
   (q7i z6 rc1 l26)
def q7h  (l9:List Int):Option ((List Int)) :=
 some l9
def q2o (p1:GFS) (n:Nat):Nat→Int→(List Int)→Option ((List Int))
 | 0,_,_=>none
 | m1+1,z6,l7 =>
  cond (decide (z6<(p1.Nodes.length:Int)))
   (q03 (q13 p1.Nodes z6) fun x12 =>
   q03 (q13 p1.Nodes z6) fun x14 =>
   q16 ((l7.length+2)*8≤140737488355328∧l7.length+2≤140737488355328) (
   q4q z6 (q2o p1 n m1) x12 n 0 (l7++[x14.Typex,(x12.Arcs.length:Int)])))
   (q7h l7)
def q8a (n:Nat) (p1:GFS):Option ((List Int)) :=
 q2o p1 n n 0 ([(p1.Nodes.length:Int)])
theorem qd0 (n:Nat) (p1:GFS) (r:(List Int)) (hF:q8a n p1=some r):EvU Tryz.prog 70 [.agg [.isl false (List.map q02 p1.Nodes)]] ⟨[],0⟩ (fun u _=>u = .isl false (List.map (cI .i64) r)∧Bel 0 u):=by
 unfold q8a at hF
 refine bg1 55 fn70 ?_
 refine go ?_
 refine RS.q (u:=.ptr 0 0 0) (σ':=⟨[(0,.row [.iM q02 p1.Nodes] 24)],1⟩) rfl (q5i rfl rfl rfl) ?_
 refine go ?_
 refine RS.q rfl (q1t und24 rfl (q04 inf22) rfl rfl rfl) (RS.q rfl (q18 und22 rfl rfl rfl rfl) (RS.q rfl (q0c rfl rfl rfl (q08 q02 und22)) ?_))
 refine qxq (u:=.vl 1 0 0 ([(p1.Nodes.length:Int)].length)) (σ':=⟨[(1,.vec (List.map (cI .i64) ([(p1.Nodes.length:Int)])).flatten 3 1 0),(0,.row [.iM q02 p1.Nodes] 24)],2⟩) rfl (qc9.bslv (cs:=(List.map (cI .i64) [(p1.Nodes.length:Int)]).flatten) Tryz.tb_ok rfl und33 inf3 rfl rfl rfl rfl rfl rfl rfl rfl) rfl rfl ?_
 refine go ?_
 refine gS (l':=[(1,_),(3,_),(4,_)]) ?_
 refine qxe (fun m tm σ=>∃ z6:Int,∃ l7:List Int,∃ t8:Nat,q2o p1 n m z6 l7=some r∧tm=fr 55 [(1,.ptr 0 0 0),(3,.vl 1 t8 0 l7.length),(4,.i6 z6)]∧σ=⟨[(1,.vec (List.map (cI .i64) l7).flatten 3 1 t8),(0,.row [.iM q02 p1.Nodes] 24)],2⟩) (fun tm σ=>∃ l9:List Int,∃ t10:Nat,q7h l9=some r∧tm=fr 55 [(3,.vl 1 t10 0 l9.length)]∧σ=⟨[(1,.vec (List.map (cI .i64) l9).flatten 3 1 t10),(0,.row [.iM q02 p1.Nodes] 24)],2⟩) n ⟨0,[(p1.Nodes.length:Int)],0,hF,rfl,rfl⟩ ?_ ?_
 rintro _ _ ⟨l9,t10,hF,rfl,rfl⟩
 unfold q7h at hF
 refine go ?_
 obtain rfl:=sI hF
 exact rT (us:=[.vl 1 t10 0 l9.length]) (u:=.iM (cI .i64) l9) (q2j rfl (q33)) (fR 1 1)
 rintro (_|m1) _ _ ⟨z6,l7,t8,hF,rfl,rfl⟩
 cases hF
 unfold q2o at hF
 refine go ?_
 refine RS.q rfl (q1t und24 rfl (q04 inf22) rfl rfl rfl) (RS.q rfl (q18 und22 rfl rfl rfl rfl) (RS.q rfl (q0c rfl rfl rfl (q08 q02 und22)) ?_))
 refine go ?_
 refine cF hF (fun h11 hF=>?_) (fun h11 hF=>?_)
 refine go ?_
 refine WPU.block ?_
 obtain ⟨x12,h13,hF⟩:=q00 hF
 refine go ?_
 refine RS.q rfl (q1t und24 rfl (q04 inf22) rfl rfl rfl) (RS.q rfl (q18 und22 rfl rfl rfl rfl) ?_)
 refine go ?_
 refine RS.q rfl (q0g rfl rfl (q0b q02 und22 (q04 inf54) q3g h13 rfl)) (RS.q rfl (q1y und54 rfl (q04 inf52) rfl rfl) (RS.q rfl (q0e und52 rfl rfl rfl) ?_))
 obtain ⟨x14,h15,hF⟩:=q00 hF
 obtain ⟨h16,hF⟩:=q0a hF
 refine go ?_
 refine RS.q rfl (q1t und24 rfl (q04 inf22) rfl rfl rfl) (RS.q rfl (q18 und22 rfl rfl rfl rfl) ?_)
 refine go ?_
 refine RS.q rfl (q0g rfl rfl (q0b q02 und22 (q04 inf54) q3g h15 rfl)) (RS.q rfl (q1y und54 rfl (q04 inf3) rfl rfl) (RS.q rfl (q0e und3 rfl rfl rfl) ?_))
 refine go ?_
 refine RS.q rfl (q0c rfl rfl rfl (q08 q0o und52)) (RS.q (u:=.sl 2 0 2 2) (σ':=⟨[(2,.row [.i6 x14.Typex,.i6 (x12.Arcs.length:Int)] 3),(1,.vec (List.map (cI .i64) l7).flatten 3 1 t8),(0,.row [.iM q02 p1.Nodes] 24)],3⟩) rfl (q0i und33 inf3 rfl rfl rfl rfl rfl rfl rfl) (RS.q (u:=.vl 1 (t8+1) 0 ((l7++[x14.Typex,(x12.Arcs.length:Int)]).length)) (σ':=⟨[(2,.row [.i6 x14.Typex,.i6 (x12.Arcs.length:Int)] 3),(1,.vec (List.map (cI .i64) (l7++[x14.Typex,(x12.Arcs.length:Int)])).flatten 3 1 (t8+1)),(0,.row [.iM q02 p1.Nodes] 24)],3⟩) rfl (q1o rfl rfl rfl rfl (q20 (cI .i64) ([x14.Typex,(x12.Arcs.length:Int)]) und33 und33 inf3 rfl (q19 .i64) rfl (q1k (cI .i64) [x14.Typex,(x12.Arcs.length:Int)] rfl rfl rfl rfl) h16)) ?_))
 refine go ?_
 refine gS (l':=[(1,_),(3,_),(4,_),(5,_),(6,_)]) ?_
 refine qxe (fun m tm σ=>∃ z25:Int,∃ l26:List Int,∃ t27:Nat,q4q z6 (q2o p1 n m1) x12 m z25 l26=some r∧tm=fr 55 [(1,.ptr 0 0 0),(3,.vl 1 t27 0 l26.length),(4,.i6 z6),(5,.iM q0o x12.Arcs),(6,.i6 z25)]∧σ=⟨[(2,.row [.i6 x14.Typex,.i6 (x12.Arcs.length:Int)] 3),(1,.vec (List.map (cI .i64) l26).flatten 3 1 t27),(0,.row [.iM q02 p1.Nodes] 24)],3⟩) (fun tm σ=>∃ l28:List Int,∃ t29:Nat,q7i z6 (q2o p1 n m1) l28=some r∧tm=fr 55 [(1,.ptr 0 0 0),(3,.vl 1 t29 0 l28.length),(4,.i6 z6)]∧σ=⟨[(2,.row [.i6 x14.Typex,.i6 (x12.Arcs.length:Int)] 3),(1,.vec (List.map (cI .i64) l28).flatten 3 1 t29),(0,.row [.iM q02 p1.Nodes] 24)],3⟩) n ⟨0,(l7++[x14.Typex,(x12.Arcs.length:Int)]),(t8+1),hF,rfl,rfl⟩ ?_ ?_
 rintro _ _ ⟨l28,t29,hF,rfl,rfl⟩
 unfold q7i at hF
 refine go ?_
 exact lC ⟨_,l28,t29,hF,rfl,rfl⟩
 rintro (_|m2) _ _ ⟨z25,l26,t27,hF,rfl,rfl⟩
 cases hF
 unfold q4q at hF
 refine go ?_
 refine RS.q rfl (q0c rfl rfl rfl (q08 q0o und52)) ?_
 refine go ?_
 refine cF hF (fun h30 hF=>?_) (fun h30 hF=>?_)
 refine go ?_
 refine WPU.block ?_
 obtain ⟨x31,h32,hF⟩:=q00 hF
 obtain ⟨x33,h34,hF⟩:=q00 hF
 obtain ⟨h35,hF⟩:=q0a hF
 refine go ?_
 refine qxh Tryz.tb_ok [(0,11)] (by kernel_rfl) ?_
 repeat refine RD.mv rfl rfl rfl rfl ?_
 refine RD.q rfl (q0g rfl rfl (q0b q0o und52 (q04 inf66) q5h h32 rfl)) (RD.q rfl (q1y und66 rfl (q04 inf3) rfl rfl) (RD.q rfl (q0e und3 rfl rfl rfl) ?_))
 repeat refine RD.mv rfl rfl rfl rfl ?_
 refine RD.q rfl (q0g rfl rfl (q0b q0o und52 (q04 inf66) q5h h34 rfl)) (RD.q rfl (q1y und66 rfl (q04 inf3) rfl rfl) (RD.q rfl (q0e und3 rfl rfl rfl) (RD.act (u:=.sl 3 0 2 2) (σ':=⟨[(3,.row [.i6 x31.Feat,.i6 x33.To] 3),(2,.row [.i6 x14.Typex,.i6 (x12.Arcs.length:Int)] 3),(1,.vec (List.map (cI .i64) l26).flatten 3 1 t27),(0,.row [.iM q02 p1.Nodes] 24)],4⟩) rfl (q0i und33 inf3 rfl rfl rfl rfl rfl rfl rfl) rfl rfl (RD.act (u:=.vl 1 (t27+1) 0 ((l26++[x31.Feat,x33.To]).length)) (σ':=⟨[(3,.row [.i6 x31.Feat,.i6 x33.To] 3),(2,.row [.i6 x14.Typex,.i6 (x12.Arcs.length:Int)] 3),(1,.vec (List.map (cI .i64) (l26++[x31.Feat,x33.To])).flatten 3 1 (t27+1)),(0,.row [.iM q02 p1.Nodes] 24)],4⟩) rfl (q1o rfl rfl rfl rfl (q20 (cI .i64) ([x31.Feat,x33.To]) und33 und33 inf3 rfl (q19 .i64) rfl (q1k (cI .i64) [x31.Feat,x33.To] rfl rfl rfl rfl) h35)) rfl rfl (RD.as rfl rfl rfl rfl ?_)))))
 refine RD.done ⟨by kernel_rfl,⟨q21 rfl,trivial⟩,?_⟩
 refine go ?_
 exact lC ⟨_,(l26++[x31.Feat,x33.To]),(t27+1),hF,rfl,rfl⟩
 refine go ?_
 exact xC ⟨l26,t27,hF,rfl,rfl⟩
 refine go ?_
 exact xC ⟨l7,t8,hF,rfl,rfl⟩
def q7g   : Option (Int) :=
 some 0
def q4p (r3:(List Int)) (r5:(List Int)):Nat→Int→Option (Int)
 | 0,_=>none
 | m1+1,z12 =>
  q03 (cond (decide (z12<(r3.length:Int)))
   (some (decide (z12<(r5.length:Int))))
   (some false)) fun b14 =>
  cond b14
   (q03 (q13 r3 z12) fun x17 =>
   q03 (q13 r5 z12) fun x19 =>
   cond (decide (x17<x19))
    (some (-1))
    (q03 (q13 r3 z12) fun x22 =>
    q03 (q13 r5 z12) fun x24 =>
    cond (decide (x22 > x24))
     (some 1)
     ((q4p r3 r5 m1) (IntKind.i64.wrap (z12+1)))))
   (q7g)
def qc1 (n:Nat) (p1:GFS) (p2:GFS):Option (Int) :=
 q03 (q8a n p1) fun r3 =>
 q03 (q8a n p2) fun r5 =>
 q4p r3 r5 n 0
theorem qjv (n:Nat) (p1:GFS) (p2:GFS) (r:Int) (hF:qc1 n p1 p2=some r):EvU Tryz.prog 50 [.agg [.isl false (List.map q02 p1.Nodes)],.agg [.isl false (List.map q02 p2.Nodes)]] ⟨[],0⟩ (fun u _=>u = .int .i64 r∧Bel 0 u):=by
 unfold qc1 at hF
 refine bg2 42 fn50 ?_
 refine go ?_
 refine RS.q (u:=.ptr 0 0 0) (σ':=⟨[(0,.row [.iM q02 p1.Nodes] 24)],1⟩) rfl (q5i rfl rfl rfl) (RS.q (u:=.ptr 1 0 0) (σ':=⟨[(1,.row [.iM q02 p2.Nodes] 24),(0,.row [.iM q02 p1.Nodes] 24)],2⟩) rfl (q5i rfl rfl rfl) ?_)
 obtain ⟨r3,h4,hF⟩:=q00 hF
 refine go ?_
 refine RS.q (u:=.agg [.iM q02 p1.Nodes]) rfl (q1f und24 rfl (q04 inf24) rfl rfl rfl) (RS.cl rfl (pC (qd0 n p1 r3 h4) _) fn70 ?_)
 obtain ⟨r5,h6,hF⟩:=q00 hF
 refine go ?_
 refine RS.q (u:=.agg [.iM q02 p2.Nodes]) rfl (q1f und24 rfl (q04 inf24) rfl rfl rfl) (RS.cl rfl (pC (qd0 n p2 r5 h6) _) fn70 ?_)
 refine go ?_
 refine gS (l':=[(5,_),(6,_),(7,_)]) ?_
 refine qxe (fun m tm σ=>∃ z12:Int,q4p r3 r5 m z12=some r∧tm=fr 42 [(5,.iM (cI .i64) r3),(6,.iM (cI .i64) r5),(7,.i6 z12)]∧σ=⟨[(1,.row [.iM q02 p2.Nodes] 24),(0,.row [.iM q02 p1.Nodes] 24)],2⟩) (fun tm σ=>q7g=some r∧tm=fr 42 []∧σ=⟨[(1,.row [.iM q02 p2.Nodes] 24),(0,.row [.iM q02 p1.Nodes] 24)],2⟩) n ⟨0,hF,rfl,rfl⟩ ?_ ?_
 rintro _ _ ⟨hF,rfl,rfl⟩
 unfold q7g at hF
 exact gx hF
 rintro (_|m1) _ _ ⟨z12,hF,rfl,rfl⟩
 cases hF
 unfold q4p at hF
 obtain ⟨b14,h15,hF⟩:=q00 hF
 refine gn ?_
 refine qxf (fun tm σ=>tm=fr 42 [(5,.iM (cI .i64) r3),(6,.iM (cI .i64) r5),(7,.i6 z12),(21,.bool b14)]∧σ=⟨[(1,.row [.iM q02 p2.Nodes] 24),(0,.row [.iM q02 p1.Nodes] 24)],2⟩) ?_ ?_
 rintro _ _ ⟨rfl,rfl⟩
 refine go ?_
 refine cF hF (fun h16 hF=>?_) (fun h16 hF=>?_)
 refine go ?_
 refine WPU.block ?_
 obtain ⟨x17,h18,hF⟩:=q00 hF
 obtain ⟨x19,h20,hF⟩:=q00 hF
 refine go ?_
 refine qxh Tryz.tb_ok [] (by kernel_rfl) ?_
 repeat refine RD.mv rfl rfl rfl rfl ?_
 refine RD.q rfl (q0g rfl rfl (q0b (cI .i64) und33 (q04 inf3) (q19 .i64) h18 rfl)) (RD.q rfl (q0e und3 rfl rfl rfl) ?_)
 repeat refine RD.mv rfl rfl rfl rfl ?_
 refine RD.q rfl (q0g rfl rfl (q0b (cI .i64) und33 (q04 inf3) (q19 .i64) h20 rfl)) (RD.q rfl (q0e und3 rfl rfl rfl) (RD.q rfl (q35 rfl rfl (qvw _ _ _) rfl) ?_))
 refine RD.done ⟨by kernel_rfl,trivial,?_⟩
 refine go ?_
 refine cF hF (fun h21 hF=>?_) (fun h21 hF=>?_)
 exact gx hF
 obtain ⟨x22,h23,hF⟩:=q00 hF
 obtain ⟨x24,h25,hF⟩:=q00 hF
 refine go ?_
 refine qxh Tryz.tb_ok [] (by kernel_rfl) ?_
 repeat refine RD.mv rfl rfl rfl rfl ?_
 refine RD.q rfl (q0g rfl rfl (q0b (cI .i64) und33 (q04 inf3) (q19 .i64) h23 rfl)) (RD.q rfl (q0e und3 rfl rfl rfl) ?_)
 repeat refine RD.mv rfl rfl rfl rfl ?_
 refine RD.q rfl (q0g rfl rfl (q0b (cI .i64) und33 (q04 inf3) (q19 .i64) h25 rfl)) (RD.q rfl (q0e und3 rfl rfl rfl) (RD.q rfl (q35 rfl rfl (qpt _ _ _) rfl) ?_))
 refine RD.done ⟨by kernel_rfl,trivial,?_⟩
 refine go ?_
 refine cF hF (fun h26 hF=>?_) (fun h26 hF=>?_)
 exact gx hF
 refine go ?_
 exact lC ⟨_,hF,rfl,rfl⟩
 refine go ?_
 exact xC ⟨hF,rfl,rfl⟩
 rcases gB h15 with ⟨h13,h15⟩ | ⟨h13,h15⟩
 obtain rfl:=sI h15
 refine go ?_
 refine RS.q rfl (q0c rfl rfl rfl (q08 (cI .i64) und33)) ?_
 refine go ?_
 refine RS.w rfl (q0c rfl rfl rfl (q08 (cI .i64) und33)) ?_
 refine go ?_
 exact xC ⟨rfl,rfl⟩
 obtain rfl:=sI h15
 refine go ?_
 refine RS.q rfl (q0c rfl rfl rfl (q08 (cI .i64) und33)) ?_
 refine go ?_
 exact xC ⟨rfl,rfl⟩
def qeu (n:Nat) (p1:GFS) (p2:GFS):Option (Bool) :=
 q03 (qc1 n p1 p2) fun r3 =>
 some (r3 == 0)
theorem q4d (n:Nat) (p1:GFS) (p2:GFS) (r:Bool) (hF:qeu n p1 p2=some r):EvU Tryz.prog 21 [.agg [.isl false (List.map q02 p1.Nodes)],.agg [.isl false (List.map q02 p2.Nodes)]] ⟨[],0⟩ (fun u _=>u = .bool r∧Bel 0 u):=by
 unfold qeu at hF
 refine bg2 9 fn21 ?_
 refine go ?_
 refine RS.q (u:=.ptr 0 0 0) (σ':=⟨[(0,.row [.iM q02 p1.Nodes] 24)],1⟩) rfl (q5i rfl rfl rfl) (RS.q (u:=.ptr 1 0 0) (σ':=⟨[(1,.row [.iM q02 p2.Nodes] 24),(0,.row [.iM q02 p1.Nodes] 24)],2⟩) rfl (q5i rfl rfl rfl) ?_)
 obtain ⟨r3,h4,hF⟩:=q00 hF
 refine go ?_
 refine RS.q (u:=.agg [.iM q02 p1.Nodes]) rfl (q1f und24 rfl (q04 inf24) rfl rfl rfl) (RS.q (u:=.agg [.iM q02 p2.Nodes]) rfl (q1f und24 rfl (q04 inf24) rfl rfl rfl) (RS.cl rfl (pC (qjv n p1 p2 r3 h4) _) fn50 ?_))
 exact gx hF
def qcq   : Option (Int×Bool) :=
 some (0,false)
def q9f (p3:Int) (x4:q0y):Nat→Int→Option (Int×Bool)
 | 0,_=>none
 | m1+1,z11 =>
  cond (decide (z11<(x4.Arcs.length:Int)))
   (q03 (q13 x4.Arcs z11) fun x13 =>
   cond (x13.Feat == p3)
    (some (x13.To,true))
    ((q9f p3 x4 m1) (IntKind.i64.wrap (z11+1))))
   (qcq)
def qjo (n:Nat) (p1:GFS) (p2:Int) (p3:Int):Option (Int×Bool) :=
 q03 (q13 p1.Nodes p2) fun x4 =>
 q9f p3 x4 n 0
theorem qp3 (n:Nat) (p1:GFS) (p2:Int) (p3:Int) (r:Int×Bool) (hF:qjo n p1 p2 p3=some r):EvU Tryz.prog 59 [.agg [.isl false (List.map q02 p1.Nodes)],.int .i64 p2,.int .i64 p3] ⟨[],0⟩ (fun u _=>u = .tup [.int .i64 r.1,.bool r.2]∧Bel 0 u):=by
 unfold qjo at hF
 refine bg3 28 fn59 ?_
 refine go ?_
 refine RS.q (u:=.ptr 0 0 0) (σ':=⟨[(0,.row [.iM q02 p1.Nodes] 24)],1⟩) rfl (q5i rfl rfl rfl) ?_
 obtain ⟨x4,h5,hF⟩:=q00 hF
 refine go ?_
 refine RS.q rfl (q1t und24 rfl (q04 inf22) rfl rfl rfl) (RS.q rfl (q18 und22 rfl rfl rfl rfl) ?_)
 refine go ?_
 refine RS.q rfl (q0g rfl rfl (q0b q02 und22 (q04 inf54) q3g h5 rfl)) (RS.q rfl (q1y und54 rfl (q04 inf52) rfl rfl) (RS.q rfl (q0e und52 rfl rfl rfl) (RS.q rfl (q0c rfl rfl rfl (q08 q0o und52)) ?_)))
 refine go ?_
 refine gS (l':=[(2,_),(15,_),(16,_),(17,_)]) ?_
 refine qxe (fun m tm σ=>∃ z11:Int,q9f p3 x4 m z11=some r∧tm=fr 28 [(2,.i6 p3),(15,.iM q0o x4.Arcs),(16,.i6 (x4.Arcs.length:Int)),(17,.i6 z11)]∧σ=⟨[(0,.row [.iM q02 p1.Nodes] 24)],1⟩) (fun tm σ=>qcq=some r∧tm=fr 28 []∧σ=⟨[(0,.row [.iM q02 p1.Nodes] 24)],1⟩) n ⟨0,hF,rfl,rfl⟩ ?_ ?_
 rintro _ _ ⟨hF,rfl,rfl⟩
 unfold qcq at hF
 refine go ?_
 obtain rfl:=sI hF
 exact rt2 rfl rfl rfl rfl rfl
 rintro (_|m1) _ _ ⟨z11,hF,rfl,rfl⟩
 cases hF
 unfold q9f at hF
 refine go ?_
 refine cF hF (fun h12 hF=>?_) (fun h12 hF=>?_)
 refine go ?_
 refine WPU.block ?_
 obtain ⟨x13,h14,hF⟩:=q00 hF
 refine go ?_
 refine RS.q rfl (q0g rfl rfl (q0b q0o und52 (q04 inf66) q5h h14 rfl)) (RS.q (u:=.agg (q0o x13)) rfl (qe4 und66 rfl (q04 inf66) rfl rfl) (RS.q (u:=.ptr 1 0 0) (σ':=⟨[(1,.row [.i6 0,.i6 0] 66),(0,.row [.iM q02 p1.Nodes] 24)],2⟩) rfl (q1h inf66 rfl rfl) ?_))
 refine qxi (u:=.junk) (σ':=⟨[(1,.row (q0o x13) 66),(0,.row [.iM q02 p1.Nodes] 24)],2⟩) rfl (q11 (q04 inf66) rfl rfl rfl rfl rfl rfl rfl rfl) rfl ?_
 refine go ?_
 refine RS.q rfl (q1t und66 rfl (q04 inf3) rfl rfl rfl) (RS.q rfl (q18 und3 rfl rfl rfl rfl) ?_)
 refine go ?_
 refine cF hF (fun h15 hF=>?_) (fun h15 hF=>?_)
 refine go ?_
 refine RS.q rfl (q1t und66 rfl (q04 inf3) rfl rfl rfl) (RS.q rfl (q18 und3 rfl rfl rfl rfl) ?_)
 refine go ?_
 obtain rfl:=sI hF
 exact rt2 rfl rfl rfl rfl rfl
 refine go ?_
 exact lC ⟨_,hF,rfl,rfl⟩
 refine go ?_
 exact xC ⟨hF,rfl,rfl⟩
def qgw  (z10:Int):Option (Int×Bool) :=
 some (z10,true)
def qdi (p1:GFS) (p2:List Int) (n:Nat):Nat→Int→Int→Option (Int×Bool)
 | 0,_,_=>none
 | m1+1,z8,z9 =>
  cond (decide (z9<(p2.length:Int)))
   (q03 (q13 p2 z9) fun x12 =>
   q03 (qjo n p1 z8 x12) fun r14 =>
   cond (!r14.2)
    (some (0,false))
    ((qdi p1 p2 n m1) r14.1 (IntKind.i64.wrap (z9+1))))
   (qgw z8)
def qm2 (n:Nat) (p1:GFS) (p2:List Int):Option (Int×Bool) :=
 qdi p1 p2 n n 0 0
theorem qnr (n:Nat) (p1:GFS) (p2:List Int) (r:Int×Bool) (hF:qm2 n p1 p2=some r):EvU Tryz.prog 30 [.agg [.isl false (List.map q02 p1.Nodes)],.isl false (List.map (cI .i64) p2)] ⟨[],0⟩ (fun u _=>u = .tup [.int .i64 r.1,.bool r.2]∧Bel 0 u):=by
 unfold qm2 at hF
 refine bg2 29 fn30 ?_
 refine go ?_
 refine RS.q (u:=.ptr 0 0 0) (σ':=⟨[(0,.row [.iM q02 p1.Nodes] 24)],1⟩) rfl (q5i rfl rfl rfl) ?_
 refine go ?_
 refine RS.q rfl (q0c rfl rfl rfl (q08 (cI .i64) und33)) ?_
 refine go ?_
 refine gS (l':=[(2,_),(6,_),(11,_),(12,_),(13,_)]) ?_
 refine qxe (fun m tm σ=>∃ z8:Int,∃ z9:Int,qdi p1 p2 n m z8 z9=some r∧tm=fr 29 [(2,.ptr 0 0 0),(6,.i6 z8),(11,.iM (cI .i64) p2),(12,.i6 (p2.length:Int)),(13,.i6 z9)]∧σ=⟨[(0,.row [.iM q02 p1.Nodes] 24)],1⟩) (fun tm σ=>∃ z10:Int,qgw z10=some r∧tm=fr 29 [(6,.i6 z10)]∧σ=⟨[(0,.row [.iM q02 p1.Nodes] 24)],1⟩) n ⟨0,0,hF,rfl,rfl⟩ ?_ ?_
 rintro _ _ ⟨z10,hF,rfl,rfl⟩
 unfold qgw at hF
 refine go ?_
 obtain rfl:=sI hF
 exact rt2 rfl rfl rfl rfl rfl
 rintro (_|m1) _ _ ⟨z8,z9,hF,rfl,rfl⟩
 cases hF
 unfold qdi at hF
 refine go ?_
 refine cF hF (fun h11 hF=>?_) (fun h11 hF=>?_)
 refine go ?_
 refine WPU.block ?_
 obtain ⟨x12,h13,hF⟩:=q00 hF
 refine go ?_
 refine RS.q rfl (q0g rfl rfl (q0b (cI .i64) und33 (q04 inf3) (q19 .i64) h13 rfl)) (RS.q rfl (q0e und3 rfl rfl rfl) ?_)
 obtain ⟨r14,h15,hF⟩:=q00 hF
 refine go ?_
 refine RS.q (u:=.agg [.iM q02 p1.Nodes]) rfl (q1f und24 rfl (q04 inf24) rfl rfl rfl) ?_
 refine go ?_
 refine RS.cl rfl (pC (qp3 n p1 z8 x12 r14 h15) _) fn59 ?_
 refine go ?_
 refine cF hF (fun h16 hF=>?_) (fun h16 hF=>?_)
 refine go ?_
 obtain rfl:=sI hF
 exact rt2 rfl rfl rfl rfl rfl
 refine go ?_
 exact lC ⟨r14.1,(IntKind.i64.wrap (z9+1)),hF,rfl,rfl⟩
 refine go ?_
 exact xC ⟨z8,hF,rfl,rfl⟩
def qjn (n:Nat) (p1:GFS) (p2:List Int):Option (Int×Bool) :=
 q03 (qm2 n p1 p2) fun r3 =>
 cond (!r3.2)
  (some (0,false))
  (q03 (q13 p1.Nodes r3.1) fun x6 =>
  some (x6.Typex,true))
theorem qp2 (n:Nat) (p1:GFS) (p2:List Int) (r:Int×Bool) (hF:qjn n p1 p2=some r):EvU Tryz.prog 36 [.agg [.isl false (List.map q02 p1.Nodes)],.isl false (List.map (cI .i64) p2)] ⟨[],0⟩ (fun u _=>u = .tup [.int .i64 r.1,.bool r.2]∧Bel 0 u):=by
 unfold qjn at hF
 refine bg2 22 fn36 ?_
 refine go ?_
 refine RS.q (u:=.ptr 0 0 0) (σ':=⟨[(0,.row [.iM q02 p1.Nodes] 24)],1⟩) rfl (q5i rfl rfl rfl) ?_
 obtain ⟨r3,h4,hF⟩:=q00 hF
 refine go ?_
 refine RS.q (u:=.agg [.iM q02 p1.Nodes]) rfl (q1f und24 rfl (q04 inf24) rfl rfl rfl) ?_
 refine go ?_
 refine RS.cl rfl (pC (qnr n p1 p2 r3 h4) _) fn30 ?_
 refine go ?_
 refine cF hF (fun h5 hF=>?_) (fun h5 hF=>?_)
 refine go ?_
 obtain rfl:=sI hF
 exact rt2 rfl rfl rfl rfl rfl
 obtain ⟨x6,h7,hF⟩:=q00 hF
 refine go ?_
 refine RS.q rfl (q1t und24 rfl (q04 inf22) rfl rfl rfl) (RS.q rfl (q18 und22 rfl rfl rfl rfl) ?_)
 refine go ?_
 refine RS.q rfl (q0g rfl rfl (q0b q02 und22 (q04 inf54) q3g h7 rfl)) (RS.q rfl (q1y und54 rfl (q04 inf3) rfl rfl) (RS.q rfl (q0e und3 rfl rfl rfl) ?_))
 refine go ?_
 obtain rfl:=sI hF
 exact rt2 rfl rfl rfl rfl rfl
def q9r (n:Nat) (p1:GFS):Option ((List q0y)) :=
 some p1.Nodes
theorem qi1 (n:Nat) (p1:GFS) (r:(List q0y)) (hF:q9r n p1=some r):EvU Tryz.prog 46 [.agg [.isl false (List.map q02 p1.Nodes)]] ⟨[],0⟩ (fun u σ'=>∃ t:Nat→Nat,u = .fn (.func 69) [] [.iptr [.isl false (List.map q02 r)]]∧σ'=⟨[],0⟩):=by
 unfold q9r at hF
 refine bg1 4 fn46 ?_
 refine go ?_
 refine RS.q (u:=.ptr 0 0 0) (σ':=⟨[(0,.row [.iM q02 p1.Nodes] 24)],1⟩) rfl (q5i rfl rfl rfl) ?_
 refine go ?_
 refine RS.q rfl (op_fun rfl rfl) ?_
 refine go ?_
 obtain rfl:=sI hF
 exact ⟨.inr rfl,[.fn (.func 69) [] [.ptr 0 0 0]],q2j rfl (q33),.fn (.func 69) [] [.iptr [.iM q02 p1.Nodes]],⟨[],0⟩,NL,Gh.trans (qxg 0 1) (Gh.to (n1:=0) [] rfl rfl NL NL BUL.h BH.h),stF [],rfl,rfl⟩
def q4s (n:Nat) (p1:List Int):Option ((List Int)) :=
 qwf p1 fun b2 =>
 cond b2
  (some ([]:List Int))
  (q16 (p1.length*8≤140737488355328∧p1.length≤140737488355328) (
  some p1))
theorem q9i (n:Nat) (p1:List Int) (r:(List Int)) (hF:q4s n p1=some r):EvU Tryz.prog 48 [.isl false (List.map (cI .i64) p1)] ⟨[],0⟩ (fun u σ'=>∃ t,u = .vl 1 t 0 r.length∧σ'=⟨[(1,.vec (List.map (cI .i64) r).flatten 3 1 t)],1+1⟩):=by
 unfold q4s at hF
 refine bg1 8 fn48 ?_
 refine go ?_
 refine RS.nilq rfl rfl und33 rfl rfl rfl rfl ?_
 intro b2 h3
 replace hF:=qqv hF b2 fun h=>List.map_eq_nil_iff.1 (h3 h)
 refine go ?_
 refine cF hF (fun h4 hF=>?_) (fun h4 hF=>?_)
 refine go ?_
 obtain rfl:=sI hF
 exact ⟨.inr rfl,[.nils],q2j rfl q33,.vl 1 0 0 0,⟨[(1,.vec (List.map (cI .i64) ([]:List Int)).flatten 3 1 0)],2⟩,NZ,Gh.trans (Gh.fresh (tm:=[.nils]) 3 1 (by decide) NZ) (Gh.trans (Gh.nilvec (tm:=[.nils]) 0 3 1 (by decide) NZ rfl) (Gh.trans (Gh.only (fun k=>Nat.beq k 1)) (Gh.to (n1:=2) [] rfl rfl NZ NL BUL.h BH.h))),0,rfl,rfl⟩
 obtain ⟨h5,hF⟩:=q0a hF
 refine go ?_
 refine RS.q (u:=.sl 0 0 0 0) (σ':=⟨[(0,.row [] 3)],1⟩) rfl (q0i und33 inf3 rfl rfl rfl rfl rfl rfl rfl) ?_
 refine go ?_
 refine RS.q (u:=.vl 1 0 0 p1.length) (σ':=⟨[(1,.vec (List.map (cI .i64) p1).flatten 3 1 0),(0,.row [] 3)],2⟩) rfl (q1o rfl rfl rfl rfl (qok (cI .i64) p1 und33 und33 inf3 rfl rfl rfl (qey (cI .i64) (q19 .i64)) h5)) ?_
 refine go ?_
 obtain rfl:=sI hF
 exact ⟨.inr rfl,[.vl 1 0 0 p1.length],q2j rfl q33,.vl 1 0 0 p1.length,⟨[(1,.vec (List.map (cI .i64) p1).flatten 3 1 0)],2⟩,NZ,Gh.trans (Gh.only (fun k=>Nat.beq k 1)) (Gh.to (n1:=2) [] rfl rfl NZ NL BUL.h BH.h),0,rfl,rfl⟩
def q7t (z51:Int) (rc4:Int→(List (List Int))→(List Int)→(List Bool)→Option ((List (List Int)))) (l68:List (List Int)) (l70:List Int) (l72:List Bool):Option ((List (List Int))) :=
 rc4 (IntKind.i64.wrap (z51+1)) l68 l70 l72
def qb2 (z17:Int) (l23:List (List Int)) (rc2:Int→(List (List Int))→(List Int)→(List Bool)→(List (List Int))→Option ((List (List Int)))) (x32:Int) (x34:List Int) (l57:List (List Int)) (l59:List Int) (l61:List Bool):Option ((List (List Int))) :=
 rc2 (IntKind.i64.wrap (z17+1)) l57 l59 l61 (l23.set x32.toNat x34)
def q44 (n:Nat) (r3:(List q0y)) (z17:Int) (l23:List (List Int)) (rc2:Int→(List (List Int))→(List Int)→(List Bool)→(List (List Int))→Option ((List (List Int)))) (x32:Int) (x34:List Int) (x38:q0y):Nat→Int→(List (List Int))→(List Int)→(List Bool)→Option ((List (List Int)))
 | 0,_,_,_,_=>none
 | m4+1,z51,l52,l54,l56 =>
  cond (decide (z51<(x38.Arcs.length:Int)))
   (q03 (q13 x38.Arcs z51) fun x63 =>
   q03 (qrk l56 0 ((r3.length:Int).toNat) x63.To) fun x65 =>
   cond (!x65)
    (q03 (qrk l56 0 ((r3.length:Int).toNat) x63.To) fun x73 =>
    q16 ((l54.length+1)*8≤140737488355328∧l54.length+1≤140737488355328) (
    q03 (q13 l52 z17) fun x76 =>
    q03 (q4s n x76) fun r78 =>
    q16 ((r78.length+([x63.Feat]).length)*8≤140737488355328∧r78.length+([x63.Feat]).length≤140737488355328) (
    q16 ((l52.length+1)*24≤140737488355328∧l52.length+1≤140737488355328) (
    q7t z51 (q44 n r3 z17 l23 rc2 x32 x34 x38 m4) (l52++[(r78++[x63.Feat])]) (l54++[x63.To]) (l56.set x63.To.toNat true)))))
    (q7t z51 (q44 n r3 z17 l23 rc2 x32 x34 x38 m4) l52 l54 l56))
   (qb2 z17 l23 rc2 x32 x34 l52 l54 l56)
def qb3 (n:Nat) (r3:(List q0y)) (z17:Int) (l18:List (List Int)) (l20:List Int) (l22:List Bool) (l23:List (List Int)) (rc2:Int→(List (List Int))→(List Int)→(List Bool)→(List (List Int))→Option ((List (List Int)))) (x32:Int) (x34:List Int)  : Option ((List (List Int))) :=
 q03 (q13 l20 z17) fun x36 =>
 q03 (q13 r3 x36) fun x38 =>
 q44 n r3 z17 l23 rc2 x32 x34 x38 n 0 l18 l20 l22
def qb1 (p1:GFS) (l24:List (List Int)) (l26:List Int) (l28:List Bool) (l29:List (List Int)):Option ((List (List Int))) :=
 q16 ((p1.Nodes.length:Int).toNat=l29.length) (
 some l29)
def q2q (p1:GFS) (n:Nat) (r3:(List q0y)):Nat→Int→(List (List Int))→(List Int)→(List Bool)→(List (List Int))→Option ((List (List Int)))
 | 0,_,_,_,_,_=>none
 | m2+1,z17,l18,l20,l22,l23 =>
  cond (decide (z17<(l20.length:Int)))
   (q03 (q13 l20 z17) fun x32 =>
   q03 (q13 l18 z17) fun x34 =>
   q03 (qrk l23 0 ((p1.Nodes.length:Int).toNat) x32) fun x82 =>
   qb3 n r3 z17 l18 l20 l22 l23 (q2q p1 n r3 m2) x32 x34)
   (qb1 p1 l18 l20 l22 l23)
def qdj (n:Nat) (p1:GFS):Option ((List (List Int))) :=
 q16 (0≤(p1.Nodes.length:Int)∧24*(p1.Nodes.length:Int).toNat≤281474976710656∧(p1.Nodes.length:Int)≤281474976710656) (
 q03 (q9r n p1) fun r3 =>
 q16 (0≤(r3.length:Int)∧1*(r3.length:Int).toNat≤281474976710656∧(r3.length:Int)≤281474976710656) (
 q03 (qrk (List.replicate (r3.length:Int).toNat false) 0 ((r3.length:Int).toNat) 0) fun x7 =>
 q2q p1 n r3 n 0 ([[]]:List (List Int)) ([0]) ((List.replicate (r3.length:Int).toNat false).set (0:Int).toNat true) (List.replicate (p1.Nodes.length:Int).toNat [])))
theorem q9e (n:Nat) (p1:GFS) (r:(List (List Int))) (hF:qdj n p1=some r):EvU Tryz.prog 15 [.agg [.isl false (List.map q02 p1.Nodes)]] ⟨[],0⟩ (fun u _=>u = .isl false (List.map (cL (cI .i64)) r)∧Bel 0 u):=by
 unfold qdj at hF
 refine EvU.of_bodyM Tryz.tb_ok fn15 rfl ?_
 refine WPU.ghost (tm':=fr 19 [(0,.agg [.iM q02 p1.Nodes])]) (qxo NL) NL ?_
 refine go ?_
 refine RS.q (u:=.ptr 0 0 0) (σ':=⟨[(0,.row [.iM q02 p1.Nodes] 24)],1⟩) rfl (q5i rfl rfl rfl) ?_
 obtain ⟨h2,hF⟩:=q0a hF
 refine go ?_
 refine RS.q rfl (q1t und24 rfl (q04 inf22) rfl rfl rfl) (RS.q rfl (q18 und22 rfl rfl rfl rfl) (RS.q rfl (q0c rfl rfl rfl (q08 q02 und22)) (RS.q (u:=.sl 1 0 ((p1.Nodes.length:Int).toNat) ((p1.Nodes.length:Int).toNat)) (σ':=⟨[(1,.row (List.map (cL (cI .i64)) (List.replicate (p1.Nodes.length:Int).toNat [])).flatten 33),(0,.row [.iM q02 p1.Nodes] 24)],2⟩) rfl (qt5 (cL (cI .i64)) [] rfl rfl und28 inf33 rfl rfl rfl rfl h2) (RS.q (u:=.ptr 2 0 0) (σ':=⟨[(2,.row [.nils] 28),(1,.row (List.map (cL (cI .i64)) (List.replicate (p1.Nodes.length:Int).toNat [])).flatten 33),(0,.row [.iM q02 p1.Nodes] 24)],3⟩) rfl (q1h inf28 rfl rfl) ?_))))
 refine qxi (u:=.junk) (σ':=⟨[(2,.row [.sl 1 0 ((p1.Nodes.length:Int).toNat) ((p1.Nodes.length:Int).toNat)] 28),(1,.row (List.map (cL (cI .i64)) (List.replicate (p1.Nodes.length:Int).toNat [])).flatten 33),(0,.row [.iM q02 p1.Nodes] 24)],3⟩) rfl (q11 (q04 inf28) rfl rfl rfl rfl rfl rfl rfl rfl) rfl ?_
 obtain ⟨r3,h4,hF⟩:=q00 hF
 refine go ?_
 refine RS.q (u:=.agg [.iM q02 p1.Nodes]) rfl (q1f und24 rfl (q04 inf24) rfl rfl rfl) ?_
 refine RS.callx (R:=fun u σ'=>∃ t5:Nat→Nat,u = .fn (.func 69) [] [.iptr [.iM q02 r3]]∧σ'=⟨[(2,.row [.sl 1 0 ((p1.Nodes.length:Int).toNat) ((p1.Nodes.length:Int).toNat)] 28),(1,.row (List.map (cL (cI .i64)) (List.replicate (p1.Nodes.length:Int).toNat [])).flatten 33),(0,.row [.iM q02 p1.Nodes] 24)],3⟩) (args:=[.agg [.iM q02 p1.Nodes]]) rfl (qjk rfl rfl fn46 hb46 rfl rfl) (EvU.st [] (qi1 n p1 r3 h4 )) rfl rfl ?_
 rintro _ _ ⟨t5,rfl,rfl⟩
 refine go ?_
 refine WPU.block ?_
 refine gn ?_
 refine gS (l':=[(3,_),(11,_)]) ?_
 refine WPU.range Tryz.tb_ok rfl (fun _ h=>h) (q29 rfl) fn69 rfl rfl ?_
 intro ly1 fn1 tp1 D1
 refine WPU.ghost (tm':=fr 76 [(0,.fn (.yield ly1) [] []),(1,.iptr [.iM q02 r3])]) (qxo NL) (Nat.le_refl _) ?_
 obtain ⟨h6,hF⟩:=q0a hF
 refine go ?_
 refine RS.q rfl (q1y und24 rfl (q04 inf22) rfl rfl) (RS.q rfl (q0e und22 rfl rfl rfl) (RS.q rfl (q0c rfl rfl rfl (q08 q02 und22)) (RS.q (u:=.sl 3 0 ((r3.length:Int).toNat) ((r3.length:Int).toNat)) (σ':=⟨[(3,.row (List.map cB (List.replicate (r3.length:Int).toNat false)).flatten 4),(2,.row [.sl 1 0 ((p1.Nodes.length:Int).toNat) ((p1.Nodes.length:Int).toNat)] 28),(1,.row (List.map (cL (cI .i64)) (List.replicate (p1.Nodes.length:Int).toNat [])).flatten 33),(0,.row [.iM q02 p1.Nodes] 24)],4⟩) rfl (qt5 cB false rfl rfl und75 inf4 rfl rfl rfl rfl h6) ?_)))
 obtain ⟨x7,h8,hF⟩:=q00 hF
 refine go ?_
 refine RS.q rfl (q0g rfl rfl (qr2 und75 (q04 inf4) rfl h8)) ?_
 refine qxi (u:=.junk) (σ':=⟨[(3,.row (List.map cB ((List.replicate (r3.length:Int).toNat false).set (0:Int).toNat true)).flatten 4),(2,.row [.sl 1 0 ((p1.Nodes.length:Int).toNat) ((p1.Nodes.length:Int).toNat)] 28),(1,.row (List.map (cL (cI .i64)) (List.replicate (p1.Nodes.length:Int).toNat [])).flatten 33),(0,.row [.iM q02 p1.Nodes] 24)],4⟩) rfl (qvc cB (q04 inf4) qvz rfl rfl rfl rfl rfl rfl h8 rfl) rfl ?_
 refine go ?_
 refine qxq (u:=.vl 4 0 0 ([0].length)) (σ':=⟨[(4,.vec (List.map (cI .i64) ([0])).flatten 3 1 0),(3,.row (List.map cB ((List.replicate (r3.length:Int).toNat false).set (0:Int).toNat true)).flatten 4),(2,.row [.sl 1 0 ((p1.Nodes.length:Int).toNat) ((p1.Nodes.length:Int).toNat)] 28),(1,.row (List.map (cL (cI .i64)) (List.replicate (p1.Nodes.length:Int).toNat [])).flatten 33),(0,.row [.iM q02 p1.Nodes] 24)],5⟩) rfl (qc9.bslv (cs:=(List.map (cI .i64) [0]).flatten) Tryz.tb_ok rfl und33 inf3 rfl rfl rfl rfl rfl rfl rfl rfl) rfl rfl ?_
 refine qxq (u:=.vl 5 0 0 (([[]]:List (List Int)).length)) (σ':=⟨[(5,.vec (List.map (cL (cI .i64)) ([[]]:List (List Int))).flatten 33 1 0),(4,.vec (List.map (cI .i64) ([0])).flatten 3 1 0),(3,.row (List.map cB ((List.replicate (r3.length:Int).toNat false).set (0:Int).toNat true)).flatten 4),(2,.row [.sl 1 0 ((p1.Nodes.length:Int).toNat) ((p1.Nodes.length:Int).toNat)] 28),(1,.row (List.map (cL (cI .i64)) (List.replicate (p1.Nodes.length:Int).toNat [])).flatten 33),(0,.row [.iM q02 p1.Nodes] 24)],6⟩) rfl (qc9.bslw (cs0:=[.nils]) (cs:=(List.map (cL (cI .i64)) ([[]]:List (List Int))).flatten) Tryz.tb_ok rfl und28 inf33 rfl rfl rfl rfl rfl (.cons (.nil false) .nil) rfl rfl rfl) rfl rfl ?_
 refine go ?_
 refine gS (l':=[(0,_),(1,_),(3,_),(4,_),(5,_),(6,_)]) ?_
 refine qxe (fun m tm σ=>∃ z17:Int,∃ l18:List (List Int),∃ t19:Nat,∃ l20:List Int,∃ t21:Nat,∃ l22:List Bool,∃ l23:List (List Int),q2q p1 n r3 m z17 l18 l20 l22 l23=some r∧tm=fr 76 [(0,.fn (.yield ly1) [] []),(1,.iptr [.iM q02 r3]),(3,.sl 3 0 ((r3.length:Int).toNat) ((r3.length:Int).toNat)),(4,.vl 4 t21 0 l20.length),(5,.vl 5 t19 0 l18.length),(6,.i6 z17)]∧σ=⟨[(5,.vec (List.map (cL (cI .i64)) l18).flatten 33 1 t19),(4,.vec (List.map (cI .i64) l20).flatten 3 1 t21),(3,.row (List.map cB l22).flatten 4),(2,.row [.sl 1 0 ((p1.Nodes.length:Int).toNat) ((p1.Nodes.length:Int).toNat)] 28),(1,.row (List.map (cL (cI .i64)) l23).flatten 33),(0,.row [.iM q02 p1.Nodes] 24)],6⟩) (fun tm σ=>∃ l24:List (List Int),∃ t25:Nat,∃ l26:List Int,∃ t27:Nat,∃ l28:List Bool,∃ l29:List (List Int),qb1 p1 l24 l26 l28 l29=some r∧tm=fr 76 []∧σ=⟨[(5,.vec (List.map (cL (cI .i64)) l24).flatten 33 1 t25),(4,.vec (List.map (cI .i64) l26).flatten 3 1 t27),(3,.row (List.map cB l28).flatten 4),(2,.row [.sl 1 0 ((p1.Nodes.length:Int).toNat) ((p1.Nodes.length:Int).toNat)] 28),(1,.row (List.map (cL (cI .i64)) l29).flatten 33),(0,.row [.iM q02 p1.Nodes] 24)],6⟩) n ⟨0,([[]]:List (List Int)),0,[0],0,((List.replicate (r3.length:Int).toNat false).set (0:Int).toNat true),(List.replicate (p1.Nodes.length:Int).toNat []),hF,rfl,rfl⟩ ?_ ?_
 rintro _ _ ⟨l24,t25,l26,t27,l28,l29,hF,rfl,rfl⟩
 unfold qb1 at hF
 refine gn ?_
 refine ⟨.inl rfl,?_⟩
 refine go ?_
 refine RS.q rfl (q18 und28 rfl rfl rfl rfl) ?_
 obtain ⟨h30,hF⟩:=q0a hF
 refine go ?_
 obtain rfl:=sI hF
 exact ⟨.inr rfl,[.sl 1 0 ((p1.Nodes.length:Int).toNat) ((p1.Nodes.length:Int).toNat)],q2j rfl (q33),.iM (cL (cI .i64)) l29,⟨[],0⟩,Nat.le_refl _,Gh.trans (Gh.fz (tm':=[.iM (cL (cI .i64)) l29]) (h':=[(5,.vec (List.map (cL (cI .i64)) l24).flatten 33 1 t25),(4,.vec (List.map (cI .i64) l26).flatten 3 1 t27),(3,.row (List.map cB l28).flatten 4),(2,.row [.iM (cL (cI .i64)) l29] 28),(0,.row [.iM q02 p1.Nodes] 24)]) 1 (.row (List.map (cL (cI .i64)) l29).flatten 33) 1 rfl (by simp) (by simp only [qkd,qgo,q97,ql7,qj5,ql9,qgr,qj8,qj7,qj6,qgq,ql8,qnd,ql6,qla,qr1,qlv,quw (q3c (cI .i64)) h30,q4h _ _ _ (q6b 1 (fun q=>qrv _ (fun q=>qe1 _ .i64 q) q) l24),q4h _ _ _ (q6b 1 (fun q=>qe1 _ .i64 q) l26),q4h _ _ _ (q6b 1 (fun q=>qru _ q) l28)]) (by simp only [fzH,fzB,ug,Nat.beq,cond_true,cond_false,qkd,qgo,q97,ql7,qj5,ql9,qgr,qj8,qj7,qj6,qgq,ql8,qnd,ql6,qla,qr1,qlv,quw (q3c (cI .i64)) h30,q4h _ _ _ (q6b 1 (fun q=>qrv _ (fun q=>qe1 _ .i64 q) q) l24),q4h _ _ _ (q6b 1 (fun q=>qe1 _ .i64 q) l26),q4h _ _ _ (q6b 1 (fun q=>qru _ q) l28)])) (qxp (.iM (cL (cI .i64)) l29) rfl),rfl,BU.h⟩
 rintro (_|m2) _ _ ⟨z17,l18,t19,l20,t21,l22,l23,hF,rfl,rfl⟩
 cases hF
 unfold q2q at hF
 refine go ?_
 refine RS.q rfl (q0c rfl rfl rfl (qe3 und33 rfl)) ?_
 refine go ?_
 refine cF hF (fun h31 hF=>?_) (fun h31 hF=>?_)
 refine go ?_
 refine WPU.block ?_
 obtain ⟨x32,h33,hF⟩:=q00 hF
 obtain ⟨x34,h35,hF⟩:=q00 hF
 refine go ?_
 refine WPU.drawS Tryz.tb_ok 9 (by kernel_rfl) rfl (by kernel_rfl) ?_
 repeat refine RD.mv rfl rfl rfl rfl ?_
 refine RD.q rfl (q0g rfl rfl (qhy (cI .i64) und33 (q04 inf3) (by decide) (q19 .i64) (vo rfl) h33)) ?_
 refine RD.q rfl (q8l (cI .i64) (fun x=>.i6 x) und3 rfl (fun _=>rfl) rfl rfl h33) ?_
 repeat refine RD.mv rfl rfl rfl rfl ?_
 refine RD.q rfl (q0g rfl rfl (qhy (cL (cI .i64)) und28 (q04 inf33) (by decide) (q3c (cI .i64)) (vo rfl) h35)) ?_
 refine RD.q rfl (q8l (cL (cI .i64)) (fun x=>.iM (cI .i64) x) und33 rfl (fun _=>rfl) rfl rfl h35) ?_
 refine RD.done ⟨by kernel_rfl,?_⟩
 refine RS.yield (tmx:=fr 19 [(3,.ptr 2 0 0),(11,.fn (.func 69) [] [.iptr [.iM q02 r3]]),(12,.i6 x32),(13,.iM (cI .i64) x34)]) rfl rfl rfl rfl rfl rfl rfl rfl (setP2 rfl rfl) rfl rfl ?_
 refine gr ?_
 refine gr ?_
 refine qxf (fun tm σ=>qb3 n r3 z17 l18 l20 l22 l23 (q2q p1 n r3 m2) x32 x34=some r∧tm=fr 19 []∧σ=⟨[(5,.vec (List.map (cL (cI .i64)) l18).flatten 33 1 t19),(4,.vec (List.map (cI .i64) l20).flatten 3 1 t21),(3,.row (List.map cB l22).flatten 4),(2,.row [.sl 1 0 ((p1.Nodes.length:Int).toNat) ((p1.Nodes.length:Int).toNat)] 28),(1,.row (List.map (cL (cI .i64)) (l23.set x32.toNat x34)).flatten 33),(0,.row [.iM q02 p1.Nodes] 24)],6⟩) ?_ ?_
 rintro _ _ ⟨hF,rfl,rfl⟩
 unfold qb3 at hF
 refine ⟨rfl,?_⟩
 refine go ?_
 refine WPU.condS (t:=false) rfl (fun hc=>by cases hc) (fun _=>?_)
 obtain ⟨x36,h37,hF⟩:=q00 hF
 obtain ⟨x38,h39,hF⟩:=q00 hF
 refine go ?_
 refine qxh Tryz.tb_ok [] (by kernel_rfl) ?_
 refine RD.q rfl (q1y und24 rfl (q04 inf22) rfl rfl) (RD.q rfl (q0e und22 rfl rfl rfl) ?_)
 repeat refine RD.mv rfl rfl rfl rfl ?_
 refine RD.q rfl (q0g rfl rfl (qhy (cI .i64) und33 (q04 inf3) (by decide) (q19 .i64) (vo rfl) h37)) ?_
 refine RD.q rfl (q8l (cI .i64) (fun x=>.i6 x) und3 rfl (fun _=>rfl) rfl rfl h37) (RD.q rfl (q0g rfl rfl (q0b q02 und22 (q04 inf54) q3g h39 rfl)) (RD.q rfl (q1y und54 rfl (q04 inf52) rfl rfl) (RD.q rfl (q0e und52 rfl rfl rfl) (RD.q rfl (q0c rfl rfl rfl (q08 q0o und52)) (RD.mv rfl rfl rfl rfl ?_)))))
 refine RD.done ⟨by kernel_rfl,trivial,?_⟩
 refine go ?_
 refine gS (l':=[(0,_),(1,_),(3,_),(4,_),(5,_),(6,_),(42,_),(43,_),(44,_)]) ?_
 refine qxe (fun m tm σ=>∃ z51:Int,∃ l52:List (List Int),∃ t53:Nat,∃ l54:List Int,∃ t55:Nat,∃ l56:List Bool,q44 n r3 z17 l23 (q2q p1 n r3 m2) x32 x34 x38 m z51 l52 l54 l56=some r∧tm=fr 76 [(0,.fn (.yield ly1) [] []),(1,.iptr [.iM q02 r3]),(3,.sl 3 0 ((r3.length:Int).toNat) ((r3.length:Int).toNat)),(4,.vl 4 t55 0 l54.length),(5,.vl 5 t53 0 l52.length),(6,.i6 z17),(42,.iM q0o x38.Arcs),(43,.i6 (x38.Arcs.length:Int)),(44,.i6 z51)]∧σ=⟨[(5,.vec (List.map (cL (cI .i64)) l52).flatten 33 1 t53),(4,.vec (List.map (cI .i64) l54).flatten 3 1 t55),(3,.row (List.map cB l56).flatten 4),(2,.row [.sl 1 0 ((p1.Nodes.length:Int).toNat) ((p1.Nodes.length:Int).toNat)] 28),(1,.row (List.map (cL (cI .i64)) (l23.set x32.toNat x34)).flatten 33),(0,.row [.iM q02 p1.Nodes] 24)],6⟩) (fun tm σ=>∃ l57:List (List Int),∃ t58:Nat,∃ l59:List Int,∃ t60:Nat,∃ l61:List Bool,qb2 z17 l23 (q2q p1 n r3 m2) x32 x34 l57 l59 l61=some r∧tm=fr 76 [(0,.fn (.yield ly1) [] []),(1,.iptr [.iM q02 r3]),(3,.sl 3 0 ((r3.length:Int).toNat) ((r3.length:Int).toNat)),(4,.vl 4 t60 0 l59.length),(5,.vl 5 t58 0 l57.length),(6,.i6 z17)]∧σ=⟨[(5,.vec (List.map (cL (cI .i64)) l57).flatten 33 1 t58),(4,.vec (List.map (cI .i64) l59).flatten 3 1 t60),(3,.row (List.map cB l61).flatten 4),(2,.row [.sl 1 0 ((p1.Nodes.length:Int).toNat) ((p1.Nodes.length:Int).toNat)] 28),(1,.row (List.map (cL (cI .i64)) (l23.set x32.toNat x34)).flatten 33),(0,.row [.iM q02 p1.Nodes] 24)],6⟩) n ⟨0,l18,t19,l20,t21,l22,hF,rfl,rfl⟩ ?_ ?_
 rintro _ _ ⟨l57,t58,l59,t60,l61,hF,rfl,rfl⟩
 unfold qb2 at hF
 refine go ?_
 exact lC ⟨_,l57,t58,l59,t60,l61,(l23.set x32.toNat x34),hF,rfl,rfl⟩
 rintro (_|m4) _ _ ⟨z51,l52,t53,l54,t55,l56,hF,rfl,rfl⟩
 cases hF
 unfold q44 at hF
 refine go ?_
 refine cF hF (fun h62 hF=>?_) (fun h62 hF=>?_)
 refine go ?_
 refine WPU.block ?_
 obtain ⟨x63,h64,hF⟩:=q00 hF
 refine go ?_
 refine RS.q rfl (q0g rfl rfl (q0b q0o und52 (q04 inf66) q5h h64 rfl)) (RS.q (u:=.agg (q0o x63)) rfl (qe4 und66 rfl (q04 inf66) rfl rfl) (RS.q (u:=.ptr 6 0 0) (σ':=⟨[(6,.row [.i6 0,.i6 0] 66),(5,.vec (List.map (cL (cI .i64)) l52).flatten 33 1 t53),(4,.vec (List.map (cI .i64) l54).flatten 3 1 t55),(3,.row (List.map cB l56).flatten 4),(2,.row [.sl 1 0 ((p1.Nodes.length:Int).toNat) ((p1.Nodes.length:Int).toNat)] 28),(1,.row (List.map (cL (cI .i64)) (l23.set x32.toNat x34)).flatten 33),(0,.row [.iM q02 p1.Nodes] 24)],7⟩) rfl (q1h inf66 rfl rfl) ?_))
 refine qxi (u:=.junk) (σ':=⟨[(6,.row (q0o x63) 66),(5,.vec (List.map (cL (cI .i64)) l52).flatten 33 1 t53),(4,.vec (List.map (cI .i64) l54).flatten 3 1 t55),(3,.row (List.map cB l56).flatten 4),(2,.row [.sl 1 0 ((p1.Nodes.length:Int).toNat) ((p1.Nodes.length:Int).toNat)] 28),(1,.row (List.map (cL (cI .i64)) (l23.set x32.toNat x34)).flatten 33),(0,.row [.iM q02 p1.Nodes] 24)],7⟩) rfl (q11 (q04 inf66) rfl rfl rfl rfl rfl rfl rfl rfl) rfl ?_
 obtain ⟨x65,h66,hF⟩:=q00 hF
 refine go ?_
 refine RS.q rfl (q1t und66 rfl (q04 inf3) rfl rfl rfl) (RS.q rfl (q18 und3 rfl rfl rfl rfl) (RS.q rfl (q0g rfl rfl (qr2 und75 (q04 inf4) rfl h66)) (RS.q (u:=.bool x65) rfl (qvy cB (fun x=>.bool x) und4 rfl (fun _=>rfl) rfl rfl h66) ?_)))
 refine gn ?_
 refine qxf (fun tm σ=>∃ l68:List (List Int),∃ t69:Nat,∃ l70:List Int,∃ t71:Nat,∃ l72:List Bool,q7t z51 (q44 n r3 z17 l23 (q2q p1 n r3 m2) x32 x34 x38 m4) l68 l70 l72=some r∧tm=fr 76 [(0,.fn (.yield ly1) [] []),(1,.iptr [.iM q02 r3]),(3,.sl 3 0 ((r3.length:Int).toNat) ((r3.length:Int).toNat)),(4,.vl 4 t71 0 l70.length),(5,.vl 5 t69 0 l68.length),(6,.i6 z17),(42,.iM q0o x38.Arcs),(43,.i6 (x38.Arcs.length:Int)),(44,.i6 z51)]∧σ=⟨[(6,.row (q0o x63) 66),(5,.vec (List.map (cL (cI .i64)) l68).flatten 33 1 t69),(4,.vec (List.map (cI .i64) l70).flatten 3 1 t71),(3,.row (List.map cB l72).flatten 4),(2,.row [.sl 1 0 ((p1.Nodes.length:Int).toNat) ((p1.Nodes.length:Int).toNat)] 28),(1,.row (List.map (cL (cI .i64)) (l23.set x32.toNat x34)).flatten 33),(0,.row [.iM q02 p1.Nodes] 24)],7⟩) ?_ ?_
 rintro _ _ ⟨l68,t69,l70,t71,l72,hF,rfl,rfl⟩
 unfold q7t at hF
 refine go ?_
 exact lC ⟨_,l68,t69,l70,t71,l72,hF,rfl,rfl⟩
 refine cF hF (fun h67 hF=>?_) (fun h67 hF=>?_)
 obtain ⟨x73,h74,hF⟩:=q00 hF
 refine go ?_
 refine RS.q rfl (q1t und66 rfl (q04 inf3) rfl rfl rfl) (RS.q rfl (q18 und3 rfl rfl rfl rfl) (RS.q rfl (q0g rfl rfl (qr2 und75 (q04 inf4) rfl h74)) ?_))
 refine qxi (u:=.junk) (σ':=⟨[(6,.row (q0o x63) 66),(5,.vec (List.map (cL (cI .i64)) l52).flatten 33 1 t53),(4,.vec (List.map (cI .i64) l54).flatten 3 1 t55),(3,.row (List.map cB (l56.set x63.To.toNat true)).flatten 4),(2,.row [.sl 1 0 ((p1.Nodes.length:Int).toNat) ((p1.Nodes.length:Int).toNat)] 28),(1,.row (List.map (cL (cI .i64)) (l23.set x32.toNat x34)).flatten 33),(0,.row [.iM q02 p1.Nodes] 24)],7⟩) rfl (qvc cB (q04 inf4) qvz rfl rfl rfl rfl rfl rfl h74 rfl) rfl ?_
 obtain ⟨h75,hF⟩:=q0a hF
 refine go ?_
 refine RS.q rfl (q1t und66 rfl (q04 inf3) rfl rfl rfl) (RS.q rfl (q18 und3 rfl rfl rfl rfl) (RS.q (u:=.sl 7 0 1 1) (σ':=⟨[(7,.row [.i6 x63.To] 3),(6,.row (q0o x63) 66),(5,.vec (List.map (cL (cI .i64)) l52).flatten 33 1 t53),(4,.vec (List.map (cI .i64) l54).flatten 3 1 t55),(3,.row (List.map cB (l56.set x63.To.toNat true)).flatten 4),(2,.row [.sl 1 0 ((p1.Nodes.length:Int).toNat) ((p1.Nodes.length:Int).toNat)] 28),(1,.row (List.map (cL (cI .i64)) (l23.set x32.toNat x34)).flatten 33),(0,.row [.iM q02 p1.Nodes] 24)],8⟩) rfl (q0i und33 inf3 rfl rfl rfl rfl rfl rfl rfl) (RS.q (u:=.vl 4 (t55+1) 0 ((l54++[x63.To]).length)) (σ':=⟨[(7,.row [.i6 x63.To] 3),(6,.row (q0o x63) 66),(5,.vec (List.map (cL (cI .i64)) l52).flatten 33 1 t53),(4,.vec (List.map (cI .i64) (l54++[x63.To])).flatten 3 1 (t55+1)),(3,.row (List.map cB (l56.set x63.To.toNat true)).flatten 4),(2,.row [.sl 1 0 ((p1.Nodes.length:Int).toNat) ((p1.Nodes.length:Int).toNat)] 28),(1,.row (List.map (cL (cI .i64)) (l23.set x32.toNat x34)).flatten 33),(0,.row [.iM q02 p1.Nodes] 24)],8⟩) rfl (q1o rfl rfl rfl rfl (q20 (cI .i64) ([x63.To]) und33 und33 inf3 rfl (q19 .i64) rfl (q1k (cI .i64) [x63.To] rfl rfl rfl rfl) h75)) ?_)))
 obtain ⟨x76,h77,hF⟩:=q00 hF
 obtain ⟨r78,h79,hF⟩:=q00 hF
 obtain ⟨h80,hF⟩:=q0a hF
 obtain ⟨h81,hF⟩:=q0a hF
 refine go ?_
 refine qxh Tryz.tb_ok [(0,5),(0,9),(0,10),(6,5),(7,5)] (by kernel_rfl) ?_
 repeat refine RD.mv rfl rfl rfl rfl ?_
 refine RD.q rfl (q0g rfl rfl (qhy (cL (cI .i64)) und28 (q04 inf33) (by decide) (q3c (cI .i64)) (vo rfl) h77)) ?_
 refine RD.q rfl (q8l (cL (cI .i64)) (fun x=>.iM (cI .i64) x) und33 rfl (fun _=>rfl) rfl rfl h77) (RD.callm (u:=.vl 9 0 0 r78.length) (σ1:=⟨[(9,.vec (List.map (cI .i64) r78).flatten 3 1 0),(7,.row [.i6 x63.To] 3),(6,.row (q0o x63) 66),(5,.vec (List.map (cL (cI .i64)) l52).flatten 33 1 t53),(4,.vec (List.map (cI .i64) (l54++[x63.To])).flatten 3 1 (t55+1)),(3,.row (List.map cB (l56.set x63.To.toNat true)).flatten 4),(2,.row [.sl 1 0 ((p1.Nodes.length:Int).toNat) ((p1.Nodes.length:Int).toNat)] 28),(1,.row (List.map (cL (cI .i64)) (l23.set x32.toNat x34)).flatten 33),(0,.row [.iM q02 p1.Nodes] 24)],10⟩) (args:=[.iM (cI .i64) x76]) rfl (qjk rfl rfl fn48 hb48 rfl rfl) (EvU.own0 (cI .i64) (q9i n x76 r78 h79) _ 9 rfl) rfl rfl (RD.q rfl (q1t und66 rfl (q04 inf3) rfl rfl rfl) (RD.q rfl (q18 und3 rfl rfl rfl rfl) (RD.freeO (u:=.iM (cI .i64) ([x63.Feat])) rfl (qcc.bs (cs:=[.i6 x63.Feat]) und33 inf3 rfl rfl rfl rfl rfl rfl rfl rfl rfl) rfl rfl (RD.fz (u:=.iM (cI .i64) (r78++[x63.Feat])) (u1:=.vl 9 1 0 ((r78++[x63.Feat]).length)) (s1:=⟨[(9,.vec (List.map (cI .i64) (r78++[x63.Feat])).flatten 3 1 1),(7,.row [.i6 x63.To] 3),(6,.row (q0o x63) 66),(5,.vec (List.map (cL (cI .i64)) l52).flatten 33 1 t53),(4,.vec (List.map (cI .i64) (l54++[x63.To])).flatten 3 1 (t55+1)),(3,.row (List.map cB (l56.set x63.To.toNat true)).flatten 4),(2,.row [.sl 1 0 ((p1.Nodes.length:Int).toNat) ((p1.Nodes.length:Int).toNat)] 28),(1,.row (List.map (cL (cI .i64)) (l23.set x32.toNat x34)).flatten 33),(0,.row [.iM q02 p1.Nodes] 24)],10⟩) (σ':=⟨[(7,.row [.i6 x63.To] 3),(6,.row (q0o x63) 66),(5,.vec (List.map (cL (cI .i64)) l52).flatten 33 1 t53),(4,.vec (List.map (cI .i64) (l54++[x63.To])).flatten 3 1 (t55+1)),(3,.row (List.map cB (l56.set x63.To.toNat true)).flatten 4),(2,.row [.sl 1 0 ((p1.Nodes.length:Int).toNat) ((p1.Nodes.length:Int).toNat)] 28),(1,.row (List.map (cL (cI .i64)) (l23.set x32.toNat x34)).flatten 33),(0,.row [.iM q02 p1.Nodes] 24)],10⟩) rfl (q1o rfl rfl rfl rfl (q20 (cI .i64) ([x63.Feat]) und33 und33 inf3 rfl (q19 .i64) rfl (qey (cI .i64) (q19 .i64)) h80)) (qxg 9 1) (Nat.le_refl _) rfl rfl (RD.act (u:=.sl 10 0 1 1) (σ':=⟨[(10,.row [.iM (cI .i64) (r78++[x63.Feat])] 33),(7,.row [.i6 x63.To] 3),(6,.row (q0o x63) 66),(5,.vec (List.map (cL (cI .i64)) l52).flatten 33 1 t53),(4,.vec (List.map (cI .i64) (l54++[x63.To])).flatten 3 1 (t55+1)),(3,.row (List.map cB (l56.set x63.To.toNat true)).flatten 4),(2,.row [.sl 1 0 ((p1.Nodes.length:Int).toNat) ((p1.Nodes.length:Int).toNat)] 28),(1,.row (List.map (cL (cI .i64)) (l23.set x32.toNat x34)).flatten 33),(0,.row [.iM q02 p1.Nodes] 24)],11⟩) rfl (q0i und28 inf33 rfl rfl rfl rfl rfl rfl rfl) rfl rfl (RD.act (u:=.vl 5 (t53+1) 0 ((l52++[(r78++[x63.Feat])]).length)) (σ':=⟨[(10,.row [.iM (cI .i64) (r78++[x63.Feat])] 33),(7,.row [.i6 x63.To] 3),(6,.row (q0o x63) 66),(5,.vec (List.map (cL (cI .i64)) (l52++[(r78++[x63.Feat])])).flatten 33 1 (t53+1)),(4,.vec (List.map (cI .i64) (l54++[x63.To])).flatten 3 1 (t55+1)),(3,.row (List.map cB (l56.set x63.To.toNat true)).flatten 4),(2,.row [.sl 1 0 ((p1.Nodes.length:Int).toNat) ((p1.Nodes.length:Int).toNat)] 28),(1,.row (List.map (cL (cI .i64)) (l23.set x32.toNat x34)).flatten 33),(0,.row [.iM q02 p1.Nodes] 24)],11⟩) rfl (q1o rfl rfl rfl rfl (q20 (cL (cI .i64)) ([(r78++[x63.Feat])]) und28 und28 inf33 rfl (q3c (cI .i64)) rfl (q1k (cL (cI .i64)) [(r78++[x63.Feat])] rfl rfl rfl rfl) h81)) rfl rfl ?_)))))))
 refine RD.as rfl rfl rfl rfl ?_
 refine RD.done ⟨by kernel_rfl,⟨q21 rfl,⟨q21 rfl,⟨q21 rfl,⟨q1t und66 rfl (q04 inf3) rfl rfl rfl,⟨q18 und3 rfl rfl rfl rfl,trivial⟩⟩⟩⟩⟩,?_⟩
 refine go ?_
 exact xC ⟨(l52++[(r78++[x63.Feat])]),(t53+1),(l54++[x63.To]),(t55+1),(l56.set x63.To.toNat true),hF,rfl,rfl⟩
 refine go ?_
 exact xC ⟨l52,t53,l54,t55,l56,hF,rfl,rfl⟩
 refine go ?_
 exact xC ⟨l52,t53,l54,t55,l56,hF,rfl,rfl⟩
 refine go ?_
 refine WPU.block ?_
 obtain ⟨x82,h83,hF⟩:=q00 hF
 refine go ?_
 refine RS.q rfl (q18 und28 rfl rfl rfl rfl) ?_
 refine go ?_
 refine RS.q rfl (q0g rfl rfl (qr2 und28 (q04 inf33) rfl h83)) ?_
 refine qxi (u:=.junk) (σ':=⟨[(5,.vec (List.map (cL (cI .i64)) l18).flatten 33 1 t19),(4,.vec (List.map (cI .i64) l20).flatten 3 1 t21),(3,.row (List.map cB l22).flatten 4),(2,.row [.sl 1 0 ((p1.Nodes.length:Int).toNat) ((p1.Nodes.length:Int).toNat)] 28),(1,.row (List.map (cL (cI .i64)) (l23.set x32.toNat x34)).flatten 33),(0,.row [.iM q02 p1.Nodes] 24)],6⟩) rfl (qvc (cL (cI .i64)) (q04 inf33) (q3c (cI .i64)) rfl rfl rfl rfl rfl rfl h83 rfl) rfl ?_
 refine go ?_
 exact xC ⟨hF,rfl,rfl⟩
 refine go ?_
 exact xC ⟨l18,t19,l20,t21,l22,l23,hF,rfl,rfl⟩
def q4w   : Option (Bool) :=
 some true
def q39 (p1:List Int) (p2:List Int):Nat→Int→Option (Bool)
 | 0,_=>none
 | m1+1,z8 =>
  cond (decide (z8<(p1.length:Int)))
   (q03 (q13 p1 z8) fun x10 =>
   q03 (q13 p2 z8) fun x12 =>
   cond (x10 != x12)
    (some false)
    ((q39 p1 p2 m1) (IntKind.i64.wrap (z8+1))))
   (q4w)
def q7j (n:Nat) (p1:List Int) (p2:List Int):Option (Bool) :=
 cond ((p1.length:Int) != (p2.length:Int))
  (some false)
  (q39 p1 p2 n 0)
theorem qg9 (n:Nat) (p1:List Int) (p2:List Int) (r:Bool) (hF:q7j n p1 p2=some r):EvU Tryz.prog 49 [.isl false (List.map (cI .i64) p1),.isl false (List.map (cI .i64) p2)] ⟨[],0⟩ (fun u _=>u = .bool r∧Bel 0 u):=by
 unfold q7j at hF
 refine bg2 26 fn49 ?_
 refine go ?_
 refine RS.q rfl (q0c rfl rfl rfl (q08 (cI .i64) und33)) ?_
 refine go ?_
 refine RS.q rfl (q0c rfl rfl rfl (q08 (cI .i64) und33)) ?_
 refine go ?_
 refine cF hF (fun h3 hF=>?_) (fun h3 hF=>?_)
 exact gx hF
 refine go ?_
 refine RS.q rfl (q0c rfl rfl rfl (q08 (cI .i64) und33)) ?_
 refine go ?_
 refine gS (l':=[(0,_),(1,_),(12,_),(13,_)]) ?_
 refine qxe (fun m tm σ=>∃ z8:Int,q39 p1 p2 m z8=some r∧tm=fr 26 [(0,.iM (cI .i64) p1),(1,.iM (cI .i64) p2),(12,.i6 (p1.length:Int)),(13,.i6 z8)]∧σ=⟨[],0⟩) (fun tm σ=>q4w=some r∧tm=fr 26 []∧σ=⟨[],0⟩) n ⟨0,hF,rfl,rfl⟩ ?_ ?_
 rintro _ _ ⟨hF,rfl,rfl⟩
 unfold q4w at hF
 exact gx hF
 rintro (_|m1) _ _ ⟨z8,hF,rfl,rfl⟩
 cases hF
 unfold q39 at hF
 refine go ?_
 refine cF hF (fun h9 hF=>?_) (fun h9 hF=>?_)
 refine go ?_
 refine WPU.block ?_
 obtain ⟨x10,h11,hF⟩:=q00 hF
 obtain ⟨x12,h13,hF⟩:=q00 hF
 refine go ?_
 refine qxh Tryz.tb_ok [] (by kernel_rfl) ?_
 repeat refine RD.mv rfl rfl rfl rfl ?_
 refine RD.q rfl (q0g rfl rfl (q0b (cI .i64) und33 (q04 inf3) (q19 .i64) h11 rfl)) (RD.q rfl (q0e und3 rfl rfl rfl) ?_)
 repeat refine RD.mv rfl rfl rfl rfl ?_
 refine RD.q rfl (q0g rfl rfl (q0b (cI .i64) und33 (q04 inf3) (q19 .i64) h13 rfl)) (RD.q rfl (q0e und3 rfl rfl rfl) (RD.q rfl (q35 rfl rfl (qng _ _ _) rfl) ?_))
 refine RD.done ⟨by kernel_rfl,trivial,?_⟩
 refine go ?_
 refine cF hF (fun h14 hF=>?_) (fun h14 hF=>?_)
 exact gx hF
 refine go ?_
 exact lC ⟨_,hF,rfl,rfl⟩
 refine go ?_
 exact xC ⟨hF,rfl,rfl⟩
def q6e (z32:Int) (rc2:Int→(List q0j)→Option ((List q0j))) (l50:List q0j):Option ((List q0j)) :=
 rc2 (IntKind.i64.wrap (z32+1)) l50
def q9q (z11:Int) (rc1:Int→(List q0j)→Option ((List q0j))) (l35:List q0j):Option ((List q0j)) :=
 rc1 (IntKind.i64.wrap (z11+1)) l35
def q3h (n:Nat) (r2:(List (List Int))) (z11:Int) (rc1:Int→(List q0j)→Option ((List q0j))) (x17:q0y):Nat→Int→(List q0j)→Option ((List q0j))
 | 0,_,_=>none
 | m2+1,z32,l33 =>
  cond (decide (z32<(x17.Arcs.length:Int)))
   (q03 (q13 x17.Arcs z32) fun x38 =>
   q03 (q13 r2 z11) fun x40 =>
   q03 (q4s n x40) fun r42 =>
   q16 ((r42.length+([x38.Feat]).length)*8≤140737488355328∧r42.length+([x38.Feat]).length≤140737488355328) (
   q03 (q13 r2 x38.To) fun x45 =>
   q03 (q7j n (r42++[x38.Feat]) x45) fun r47 =>
   cond (!r47)
    (q03 (q13 r2 x38.To) fun x52 =>
    q16 ((l33.length+1)*48≤140737488355328∧l33.length+1≤140737488355328) (
    q6e z32 (q3h n r2 z11 rc1 x17 m2) (l33++[(q0j.mk x52 (r42++[x38.Feat]))])))
    (q6e z32 (q3h n r2 z11 rc1 x17 m2) l33)))
   (q9q z11 rc1 l33)
def q9p  (l14:List q0j):Option ((List q0j)) :=
 some l14
def q2t (p1:GFS) (n:Nat) (r2:(List (List Int))):Nat→Int→(List q0j)→Option ((List q0j))
 | 0,_,_=>none
 | m1+1,z11,l12 =>
  cond (decide (z11<(p1.Nodes.length:Int)))
   (q03 (q13 p1.Nodes z11) fun x17 =>
   q3h n r2 z11 (q2t p1 n r2 m1) x17 n 0 l12)
   (q9p l12)
def qb7 (n:Nat) (p1:GFS):Option ((List q0j)) :=
 q03 (qdj n p1) fun r2 =>
 q2t p1 n r2 n 0 ([]:List q0j)
theorem qb8 (n:Nat) (p1:GFS) (r:(List q0j)) (hF:qb7 n p1=some r):EvU Tryz.prog 18 [.agg [.isl false (List.map q02 p1.Nodes)]] ⟨[],0⟩ (fun u _=>u = .isl false (List.map q0k r)∧Bel 0 u):=by
 unfold qb7 at hF
 refine bg1 57 fn18 ?_
 refine go ?_
 refine RS.q (u:=.ptr 0 0 0) (σ':=⟨[(0,.row [.iM q02 p1.Nodes] 24)],1⟩) rfl (q5i rfl rfl rfl) ?_
 obtain ⟨r2,h3,hF⟩:=q00 hF
 refine go ?_
 refine RS.q (u:=.agg [.iM q02 p1.Nodes]) rfl (q1f und24 rfl (q04 inf24) rfl rfl rfl) (RS.cl rfl (pC (q9e n p1 r2 h3) _) fn15 ?_)
 refine go ?_
 refine RS.q rfl (q1t und24 rfl (q04 inf22) rfl rfl rfl) (RS.q rfl (q18 und22 rfl rfl rfl rfl) (RS.q rfl (q0c rfl rfl rfl (q08 q02 und22)) ?_))
 refine gn ?_
 refine WPU.ghost (tm':=fr 57 [(3,.iM (cL (cI .i64)) r2),(4,.vl 1 0 0 (([]:List q0j).length)),(13,.iM q02 p1.Nodes),(14,.i6 (p1.Nodes.length:Int)),(15,.i6 0)]) (σ':=⟨[(1,.vec (List.map q0k ([]:List q0j)).flatten 56 2 0),(0,.row [.iM q02 p1.Nodes] 24)],2⟩) (Gh.trans (qxl 4 56 2 (by decide) NZ rfl rfl) (qxk ⟨rfl,rfl,rfl,rfl,rfl,trivial⟩ rfl)) NZ ?_
 refine gS (l':=[(3,_),(4,_),(13,_),(14,_),(15,_)]) ?_
 refine qxe (fun m tm σ=>∃ z11:Int,∃ l12:List q0j,∃ t13:Nat,q2t p1 n r2 m z11 l12=some r∧tm=fr 57 [(3,.iM (cL (cI .i64)) r2),(4,.vl 1 t13 0 l12.length),(13,.iM q02 p1.Nodes),(14,.i6 (p1.Nodes.length:Int)),(15,.i6 z11)]∧σ=⟨[(1,.vec (List.map q0k l12).flatten 56 2 t13),(0,.row [.iM q02 p1.Nodes] 24)],2⟩) (fun tm σ=>∃ l14:List q0j,∃ t15:Nat,q9p l14=some r∧tm=fr 57 [(4,.vl 1 t15 0 l14.length)]∧σ=⟨[(1,.vec (List.map q0k l14).flatten 56 2 t15),(0,.row [.iM q02 p1.Nodes] 24)],2⟩) n ⟨0,([]:List q0j),0,hF,rfl,rfl⟩ ?_ ?_
 rintro _ _ ⟨l14,t15,hF,rfl,rfl⟩
 unfold q9p at hF
 refine go ?_
 obtain rfl:=sI hF
 exact rT (us:=[.vl 1 t15 0 l14.length]) (u:=.iM q0k l14) (q2j rfl (q33)) (fR 1 2)
 rintro (_|m1) _ _ ⟨z11,l12,t13,hF,rfl,rfl⟩
 cases hF
 unfold q2t at hF
 refine go ?_
 refine cF hF (fun h16 hF=>?_) (fun h16 hF=>?_)
 refine go ?_
 refine WPU.block ?_
 obtain ⟨x17,h18,hF⟩:=q00 hF
 refine go ?_
 refine RS.q rfl (q0g rfl rfl (q0b q02 und22 (q04 inf54) q3g h18 rfl)) (RS.q (u:=.agg (q02 x17)) rfl (qe4 und54 rfl (q04 inf54) rfl rfl) (RS.q (u:=.ptr 2 0 0) (σ':=⟨[(2,.row [.i6 0,.nils] 54),(1,.vec (List.map q0k l12).flatten 56 2 t13),(0,.row [.iM q02 p1.Nodes] 24)],3⟩) rfl (q1h inf54 rfl rfl) ?_))
 refine go ?_
 refine qxi (u:=.junk) (σ':=⟨[(2,.row (q02 x17) 54),(1,.vec (List.map q0k l12).flatten 56 2 t13),(0,.row [.iM q02 p1.Nodes] 24)],3⟩) rfl (q11 (q04 inf54) rfl rfl rfl rfl rfl rfl rfl rfl) rfl ?_
 refine go ?_
 refine RS.q rfl (q1t und54 rfl (q04 inf52) rfl rfl rfl) (RS.q rfl (q18 und52 rfl rfl rfl rfl) (RS.q rfl (q0c rfl rfl rfl (q08 q0o und52)) ?_))
 refine go ?_
 refine gS (l':=[(3,_),(4,_),(5,_),(13,_),(14,_),(15,_),(21,_),(22,_),(23,_)]) ?_
 refine qxe (fun m tm σ=>∃ z32:Int,∃ l33:List q0j,∃ t34:Nat,q3h n r2 z11 (q2t p1 n r2 m1) x17 m z32 l33=some r∧tm=fr 57 [(3,.iM (cL (cI .i64)) r2),(4,.vl 1 t34 0 l33.length),(5,.i6 z11),(13,.iM q02 p1.Nodes),(14,.i6 (p1.Nodes.length:Int)),(15,.i6 z11),(21,.iM q0o x17.Arcs),(22,.i6 (x17.Arcs.length:Int)),(23,.i6 z32)]∧σ=⟨[(2,.row (q02 x17) 54),(1,.vec (List.map q0k l33).flatten 56 2 t34),(0,.row [.iM q02 p1.Nodes] 24)],3⟩) (fun tm σ=>∃ l35:List q0j,∃ t36:Nat,q9q z11 (q2t p1 n r2 m1) l35=some r∧tm=fr 57 [(3,.iM (cL (cI .i64)) r2),(4,.vl 1 t36 0 l35.length),(13,.iM q02 p1.Nodes),(14,.i6 (p1.Nodes.length:Int)),(15,.i6 z11)]∧σ=⟨[(2,.row (q02 x17) 54),(1,.vec (List.map q0k l35).flatten 56 2 t36),(0,.row [.iM q02 p1.Nodes] 24)],3⟩) n ⟨0,l12,t13,hF,rfl,rfl⟩ ?_ ?_
 rintro _ _ ⟨l35,t36,hF,rfl,rfl⟩
 unfold q9q at hF
 refine go ?_
 exact lC ⟨_,l35,t36,hF,rfl,rfl⟩
 rintro (_|m2) _ _ ⟨z32,l33,t34,hF,rfl,rfl⟩
 cases hF
 unfold q3h at hF
 refine go ?_
 refine cF hF (fun h37 hF=>?_) (fun h37 hF=>?_)
 refine go ?_
 refine WPU.block ?_
 obtain ⟨x38,h39,hF⟩:=q00 hF
 refine go ?_
 refine RS.q rfl (q0g rfl rfl (q0b q0o und52 (q04 inf66) q5h h39 rfl)) (RS.q (u:=.agg (q0o x38)) rfl (qe4 und66 rfl (q04 inf66) rfl rfl) (RS.q (u:=.ptr 3 0 0) (σ':=⟨[(3,.row [.i6 0,.i6 0] 66),(2,.row (q02 x17) 54),(1,.vec (List.map q0k l33).flatten 56 2 t34),(0,.row [.iM q02 p1.Nodes] 24)],4⟩) rfl (q1h inf66 rfl rfl) ?_))
 refine qxi (u:=.junk) (σ':=⟨[(3,.row (q0o x38) 66),(2,.row (q02 x17) 54),(1,.vec (List.map q0k l33).flatten 56 2 t34),(0,.row [.iM q02 p1.Nodes] 24)],4⟩) rfl (q11 (q04 inf66) rfl rfl rfl rfl rfl rfl rfl rfl) rfl ?_
 obtain ⟨x40,h41,hF⟩:=q00 hF
 obtain ⟨r42,h43,hF⟩:=q00 hF
 obtain ⟨h44,hF⟩:=q0a hF
 refine go ?_
 refine qxh Tryz.tb_ok [(5,4),(6,4)] (by kernel_rfl) ?_
 repeat refine RD.mv rfl rfl rfl rfl ?_
 refine RD.q rfl (q0g rfl rfl (q0b (cL (cI .i64)) und28 (q04 inf33) (q3c (cI .i64)) h41 rfl)) (RD.q rfl (q0e und33 rfl rfl rfl) (RD.callm (u:=.vl 5 0 0 r42.length) (σ1:=⟨[(5,.vec (List.map (cI .i64) r42).flatten 3 1 0),(3,.row (q0o x38) 66),(2,.row (q02 x17) 54),(1,.vec (List.map q0k l33).flatten 56 2 t34),(0,.row [.iM q02 p1.Nodes] 24)],6⟩) (args:=[.iM (cI .i64) x40]) rfl (qjk rfl rfl fn48 hb48 rfl rfl) (EvU.own0 (cI .i64) (q9i n x40 r42 h43) _ 5 rfl) rfl rfl (RD.q rfl (q1t und66 rfl (q04 inf3) rfl rfl rfl) (RD.q rfl (q18 und3 rfl rfl rfl rfl) (RD.freeO (u:=.iM (cI .i64) ([x38.Feat])) rfl (qcc.bs (cs:=[.i6 x38.Feat]) und33 inf3 rfl rfl rfl rfl rfl rfl rfl rfl rfl) rfl rfl (RD.act (u:=.vl 5 1 0 ((r42++[x38.Feat]).length)) (σ':=⟨[(5,.vec (List.map (cI .i64) (r42++[x38.Feat])).flatten 3 1 1),(3,.row (q0o x38) 66),(2,.row (q02 x17) 54),(1,.vec (List.map q0k l33).flatten 56 2 t34),(0,.row [.iM q02 p1.Nodes] 24)],6⟩) rfl (q1o rfl rfl rfl rfl (q20 (cI .i64) ([x38.Feat]) und33 und33 inf3 rfl (q19 .i64) rfl (qey (cI .i64) (q19 .i64)) h44)) rfl rfl (RD.as rfl rfl rfl rfl ?_)))))))
 refine RD.done ⟨by kernel_rfl,⟨q1t und66 rfl (q04 inf3) rfl rfl rfl,⟨q18 und3 rfl rfl rfl rfl,trivial⟩⟩,?_⟩
 obtain ⟨x45,h46,hF⟩:=q00 hF
 obtain ⟨r47,h48,hF⟩:=q00 hF
 refine go ?_
 refine RS.q rfl (q1t und66 rfl (q04 inf3) rfl rfl rfl) (RS.q rfl (q18 und3 rfl rfl rfl rfl) (RS.q rfl (q0g rfl rfl (q0b (cL (cI .i64)) und28 (q04 inf33) (q3c (cI .i64)) h46 rfl)) (RS.q rfl (q0e und33 rfl rfl rfl) (RS.cl rfl (vw (qg9 n (r42++[x38.Feat]) x45 r47 h48) (qxg 5 1)) fn49 ?_))))
 refine gn ?_
 refine qxf (fun tm σ=>∃ l50:List q0j,∃ t51:Nat,q6e z32 (q3h n r2 z11 (q2t p1 n r2 m1) x17 m2) l50=some r∧tm=fr 57 [(3,.iM (cL (cI .i64)) r2),(4,.vl 1 t51 0 l50.length),(5,.i6 z11),(13,.iM q02 p1.Nodes),(14,.i6 (p1.Nodes.length:Int)),(15,.i6 z11),(21,.iM q0o x17.Arcs),(22,.i6 (x17.Arcs.length:Int)),(23,.i6 z32)]∧σ=⟨[(3,.row (q0o x38) 66),(2,.row (q02 x17) 54),(1,.vec (List.map q0k l50).flatten 56 2 t51),(0,.row [.iM q02 p1.Nodes] 24)],6⟩) ?_ ?_
 rintro _ _ ⟨l50,t51,hF,rfl,rfl⟩
 unfold q6e at hF
 refine go ?_
 exact lC ⟨_,l50,t51,hF,rfl,rfl⟩
 refine cF hF (fun h49 hF=>?_) (fun h49 hF=>?_)
 refine gn ?_
 refine WPU.ghost (tm':=fr 57 [(3,.iM (cL (cI .i64)) r2),(4,.vl 1 t34 0 l33.length),(5,.i6 z11),(8,.ptr 3 0 0),(9,.iM (cI .i64) (r42++[x38.Feat])),(13,.iM q02 p1.Nodes),(14,.i6 (p1.Nodes.length:Int)),(15,.i6 z11),(21,.iM q0o x17.Arcs),(22,.i6 (x17.Arcs.length:Int)),(23,.i6 z32)]) (σ':=⟨[(3,.row (q0o x38) 66),(2,.row (q02 x17) 54),(1,.vec (List.map q0k l33).flatten 56 2 t34),(0,.row [.iM q02 p1.Nodes] 24)],6⟩) (Gh.trans (Gh.sub (l':=[(3,.iM (cL (cI .i64)) r2),(4,.vl 1 t34 0 l33.length),(5,.i6 z11),(8,.ptr 3 0 0),(9,.vl 5 1 0 ((r42++[x38.Feat]).length)),(13,.iM q02 p1.Nodes),(14,.i6 (p1.Nodes.length:Int)),(15,.i6 z11),(21,.iM q0o x17.Arcs),(22,.i6 (x17.Arcs.length:Int)),(23,.i6 z32)]) ⟨rfl,rfl,rfl,rfl,rfl,rfl,rfl,rfl,rfl,rfl,rfl,trivial⟩) (qxt 5 1)) NZ ?_
 obtain ⟨x52,h53,hF⟩:=q00 hF
 obtain ⟨h54,hF⟩:=q0a hF
 refine go ?_
 refine RS.q rfl (q1t und66 rfl (q04 inf3) rfl rfl rfl) (RS.q rfl (q18 und3 rfl rfl rfl rfl) (RS.q rfl (q0g rfl rfl (q0b (cL (cI .i64)) und28 (q04 inf33) (q3c (cI .i64)) h53 rfl)) (RS.q rfl (q0e und33 rfl rfl rfl) ?_)))
 refine go ?_
 refine RS.q (u:=.agg [.iM (cI .i64) x52,.iM (cI .i64) (r42++[x38.Feat])]) rfl (q3y bd56 rfl rfl rfl) (RS.q (u:=.sl 6 0 1 1) (σ':=⟨[(6,.row [.iM (cI .i64) x52,.iM (cI .i64) (r42++[x38.Feat])] 56),(3,.row (q0o x38) 66),(2,.row (q02 x17) 54),(1,.vec (List.map q0k l33).flatten 56 2 t34),(0,.row [.iM q02 p1.Nodes] 24)],7⟩) rfl (q0i und31 inf56 rfl rfl rfl rfl rfl rfl rfl) (RS.q (u:=.vl 1 (t34+1) 0 ((l33++[(q0j.mk x52 (r42++[x38.Feat]))]).length)) (σ':=⟨[(6,.row [.iM (cI .i64) x52,.iM (cI .i64) (r42++[x38.Feat])] 56),(3,.row (q0o x38) 66),(2,.row (q02 x17) 54),(1,.vec (List.map q0k (l33++[(q0j.mk x52 (r42++[x38.Feat]))])).flatten 56 2 (t34+1)),(0,.row [.iM q02 p1.Nodes] 24)],7⟩) rfl (q1o rfl rfl rfl rfl (q20 q0k ([(q0j.mk x52 (r42++[x38.Feat]))]) und31 und31 inf56 rfl q2p rfl (q1k q0k [(q0j.mk x52 (r42++[x38.Feat]))] rfl rfl rfl rfl) h54)) ?_))
 refine go ?_
 exact xC ⟨(l33++[(q0j.mk x52 (r42++[x38.Feat]))]),(t34+1),hF,rfl,rfl⟩
 refine go ?_
 exact ⟨_,_,⟨l33,t34,hF,rfl,rfl⟩,NZ,Gh.trans (Gh.only (fun k=>!(Nat.beq k 5))) (Gh.toC (n1:=6) ⟨rfl,rfl,rfl,rfl,rfl,rfl,rfl,rfl,rfl,trivial⟩ rfl NZ (by simp))⟩
 refine go ?_
 exact xC ⟨l33,t34,hF,rfl,rfl⟩
 refine go ?_
 exact xC ⟨l12,t13,hF,rfl,rfl⟩
def qbb (z22:Int) (l23:List q0y) (rc2:Int→(List q0y)→Option (GFS)) (x28:q0y) (l48:List q28):Option (GFS) :=
 q16 ((l23.length+1)*32≤140737488355328∧l23.length+1≤140737488355328) (
 rc2 (IntKind.i64.wrap (z22+1)) (l23++[(q0y.mk x28.Typex l48)]))
def q7y (p1:List Int) (z22:Int) (l23:List q0y) (rc2:Int→(List q0y)→Option (GFS)) (x28:q0y):Nat→Int→(List q28)→Option (GFS)
 | 0,_,_=>none
 | m3+1,z45,l46 =>
  cond (decide (z45<(x28.Arcs.length:Int)))
   (q03 (q13 x28.Arcs z45) fun x52 =>
   q16 ((l46.length+1)*16≤140737488355328∧l46.length+1≤140737488355328) (
   (q7y p1 z22 l23 rc2 x28 m3) (IntKind.i64.wrap (z45+1)) (l46++[(q28.mk x52.Feat (IntKind.i64.wrap (x52.To+(p1.length:Int))))])))
   (qbb z22 l23 rc2 x28 l46)
def qba  (l25:List q0y):Option (GFS) :=
 some (GFS.mk l25)
def q45 (p1:List Int) (p2:GFS) (n:Nat):Nat→Int→(List q0y)→Option (GFS)
 | 0,_,_=>none
 | m2+1,z22,l23 =>
  cond (decide (z22<(p2.Nodes.length:Int)))
   (q03 (q13 p2.Nodes z22) fun x28 =>
   q7y p1 z22 l23 (q45 p1 p2 n m2) x28 n 0 ([]:List q28))
   (qba l23)
def qb9 (p1:List Int) (p2:GFS) (n:Nat) (l13:List q0y):Option (GFS) :=
 q45 p1 p2 n n 0 l13
def q7x (p1:List Int) (p2:GFS) (n:Nat):Nat→Int→(List q0y)→Option (GFS)
 | 0,_,_=>none
 | m1+1,z10,l11 =>
  cond (decide (z10<(p1.length:Int)))
   (q03 (q13 p1 z10) fun x56 =>
   q16 ((l11.length+1)*32≤140737488355328∧l11.length+1≤140737488355328) (
   (q7x p1 p2 n m1) (IntKind.i64.wrap (z10+1)) (l11++[(q0y.mk 0 ([(q28.mk x56 (IntKind.i64.wrap (z10+1)))]))])))
   (qb9 p1 p2 n l11)
def qgy (n:Nat) (p1:List Int) (p2:GFS):Option (GFS) :=
 q7x p1 p2 n n 0 ([]:List q0y)
theorem q52 (n:Nat) (p1:List Int) (p2:GFS) (r:GFS) (hF:qgy n p1 p2=some r):EvU Tryz.prog 22 [.isl false (List.map (cI .i64) p1),.agg [.isl false (List.map q02 p2.Nodes)]] ⟨[],0⟩ (fun u _=>u = .agg [.isl false (List.map q02 r.Nodes)]∧Bel 0 u):=by
 unfold qgy at hF
 refine bg2 71 fn22 ?_
 refine go ?_
 refine RS.q (u:=.ptr 0 0 0) (σ':=⟨[(0,.row [.iM q02 p2.Nodes] 24)],1⟩) rfl (q5i rfl rfl rfl) (RS.q (u:=.ptr 1 0 0) (σ':=⟨[(1,.row [.nils] 24),(0,.row [.iM q02 p2.Nodes] 24)],2⟩) rfl (q1h inf24 rfl rfl) ?_)
 refine go ?_
 refine RS.q (u:=.ptr 2 0 0) (σ':=⟨[(2,.row [.nils] 24),(1,.row [.nils] 24),(0,.row [.iM q02 p2.Nodes] 24)],3⟩) rfl (q1h inf24 rfl rfl) ?_
 refine go ?_
 refine RS.q rfl (q0c rfl rfl rfl (q08 (cI .i64) und33)) ?_
 refine gn ?_
 refine WPU.ghost (tm':=fr 71 [(0,.iM (cI .i64) p1),(3,.ptr 0 0 0),(4,.ptr 1 0 0),(5,.ptr 2 0 0),(13,.iM (cI .i64) p1),(14,.i6 (p1.length:Int)),(15,.i6 0)]) (σ':=⟨[(3,.vec (List.map q02 ([]:List q0y)).flatten 54 2 0),(2,.row [.vl 3 0 0 (([]:List q0y).length)] 24),(1,.row [.nils] 24),(0,.row [.iM q02 p2.Nodes] 24)],4⟩) (Gh.trans (qxs 2 0 54 2 (by decide) NZ rfl rfl) (qxk ⟨rfl,rfl,rfl,rfl,rfl,rfl,rfl,trivial⟩ rfl)) NZ ?_
 refine gS (l':=[(0,_),(3,_),(4,_),(5,_),(13,_),(14,_),(15,_)]) ?_
 refine qxe (fun m tm σ=>∃ z10:Int,∃ l11:List q0y,∃ t12:Nat,q7x p1 p2 n m z10 l11=some r∧tm=fr 71 [(0,.iM (cI .i64) p1),(3,.ptr 0 0 0),(4,.ptr 1 0 0),(5,.ptr 2 0 0),(13,.iM (cI .i64) p1),(14,.i6 (p1.length:Int)),(15,.i6 z10)]∧σ=⟨[(3,.vec (List.map q02 l11).flatten 54 2 t12),(2,.row [.vl 3 t12 0 l11.length] 24),(1,.row [.nils] 24),(0,.row [.iM q02 p2.Nodes] 24)],4⟩) (fun tm σ=>∃ l13:List q0y,∃ t14:Nat,qb9 p1 p2 n l13=some r∧tm=fr 71 [(0,.iM (cI .i64) p1),(3,.ptr 0 0 0),(4,.ptr 1 0 0),(5,.ptr 2 0 0)]∧σ=⟨[(3,.vec (List.map q02 l13).flatten 54 2 t14),(2,.row [.vl 3 t14 0 l13.length] 24),(1,.row [.nils] 24),(0,.row [.iM q02 p2.Nodes] 24)],4⟩) n ⟨0,([]:List q0y),0,hF,rfl,rfl⟩ ?_ ?_
 rintro _ _ ⟨l13,t14,hF,rfl,rfl⟩
 unfold qb9 at hF
 refine go ?_
 refine RS.q rfl (q1t und24 rfl (q04 inf22) rfl rfl rfl) (RS.q rfl (q18 und22 rfl rfl rfl rfl) (RS.q rfl (q0c rfl rfl rfl (q08 q02 und22)) ?_))
 refine go ?_
 refine gS (l':=[(0,_),(4,_),(5,_),(33,_),(34,_),(35,_)]) ?_
 refine qxe (fun m tm σ=>∃ z22:Int,∃ l23:List q0y,∃ t24:Nat,q45 p1 p2 n m z22 l23=some r∧tm=fr 71 [(0,.iM (cI .i64) p1),(4,.ptr 1 0 0),(5,.ptr 2 0 0),(33,.iM q02 p2.Nodes),(34,.i6 (p2.Nodes.length:Int)),(35,.i6 z22)]∧σ=⟨[(3,.vec (List.map q02 l23).flatten 54 2 t24),(2,.row [.vl 3 t24 0 l23.length] 24),(1,.row [.nils] 24),(0,.row [.iM q02 p2.Nodes] 24)],4⟩) (fun tm σ=>∃ l25:List q0y,∃ t26:Nat,qba l25=some r∧tm=fr 71 [(4,.ptr 1 0 0),(5,.ptr 2 0 0)]∧σ=⟨[(3,.vec (List.map q02 l25).flatten 54 2 t26),(2,.row [.vl 3 t26 0 l25.length] 24),(1,.row [.nils] 24),(0,.row [.iM q02 p2.Nodes] 24)],4⟩) n ⟨0,l13,t14,hF,rfl,rfl⟩ ?_ ?_
 rintro _ _ ⟨l25,t26,hF,rfl,rfl⟩
 unfold qba at hF
 refine go ?_
 refine RS.q (u:=.agg [.vl 3 t26 0 l25.length]) rfl (q1f und24 rfl (q04 inf24) rfl rfl rfl) ?_
 refine qxi (u:=.junk) (σ':=⟨[(3,.vec (List.map q02 l25).flatten 54 2 t26),(2,.row [.vl 3 t26 0 l25.length] 24),(1,.row [.vl 3 t26 0 l25.length] 24),(0,.row [.iM q02 p2.Nodes] 24)],4⟩) rfl (q11 (q04 inf24) rfl rfl rfl rfl rfl rfl rfl rfl) rfl ?_
 refine go ?_
 obtain rfl:=sI hF
 exact rT (us:=[.agg [.vl 3 t26 0 l25.length]]) (u:=.agg [.iM q02 l25]) (qml (q1f und24 rfl (q04 inf24) rfl rfl rfl) (q33)) (fR 3 2)
 rintro (_|m2) _ _ ⟨z22,l23,t24,hF,rfl,rfl⟩
 cases hF
 unfold q45 at hF
 refine go ?_
 refine cF hF (fun h27 hF=>?_) (fun h27 hF=>?_)
 refine go ?_
 refine WPU.block ?_
 obtain ⟨x28,h29,hF⟩:=q00 hF
 refine go ?_
 refine RS.q rfl (q0g rfl rfl (q0b q02 und22 (q04 inf54) q3g h29 rfl)) (RS.q (u:=.agg (q02 x28)) rfl (qe4 und54 rfl (q04 inf54) rfl rfl) (RS.q (u:=.ptr 4 0 0) (σ':=⟨[(4,.row [.i6 0,.nils] 54),(3,.vec (List.map q02 l23).flatten 54 2 t24),(2,.row [.vl 3 t24 0 l23.length] 24),(1,.row [.nils] 24),(0,.row [.iM q02 p2.Nodes] 24)],5⟩) rfl (q1h inf54 rfl rfl) ?_))
 refine qxi (u:=.junk) (σ':=⟨[(4,.row (q02 x28) 54),(3,.vec (List.map q02 l23).flatten 54 2 t24),(2,.row [.vl 3 t24 0 l23.length] 24),(1,.row [.nils] 24),(0,.row [.iM q02 p2.Nodes] 24)],5⟩) rfl (q11 (q04 inf54) rfl rfl rfl rfl rfl rfl rfl rfl) rfl ?_
 refine go ?_
 refine RS.q rfl (q1t und54 rfl (q04 inf3) rfl rfl rfl) (RS.q rfl (q18 und3 rfl rfl rfl rfl) (RS.q (u:=.agg [.i6 x28.Typex,.nils]) rfl (q3y bd54 rfl rfl rfl) (RS.q (u:=.ptr 5 0 0) (σ':=⟨[(5,.row [.i6 0,.nils] 54),(4,.row (q02 x28) 54),(3,.vec (List.map q02 l23).flatten 54 2 t24),(2,.row [.vl 3 t24 0 l23.length] 24),(1,.row [.nils] 24),(0,.row [.iM q02 p2.Nodes] 24)],6⟩) rfl (q1h inf54 rfl rfl) ?_)))
 refine qxi (u:=.junk) (σ':=⟨[(5,.row [.i6 x28.Typex,.nils] 54),(4,.row (q02 x28) 54),(3,.vec (List.map q02 l23).flatten 54 2 t24),(2,.row [.vl 3 t24 0 l23.length] 24),(1,.row [.nils] 24),(0,.row [.iM q02 p2.Nodes] 24)],6⟩) rfl (q11 (q04 inf54) rfl rfl rfl rfl rfl rfl rfl rfl) rfl ?_
 refine go ?_
 refine RS.q rfl (q1t und54 rfl (q04 inf52) rfl rfl rfl) (RS.q rfl (q18 und52 rfl rfl rfl rfl) (RS.q rfl (q0c rfl rfl rfl (q08 q0o und52)) ?_))
 refine gn ?_
 refine WPU.ghost (tm':=fr 71 [(0,.iM (cI .i64) p1),(4,.ptr 1 0 0),(5,.ptr 2 0 0),(10,.ptr 5 0 0),(33,.iM q02 p2.Nodes),(34,.i6 (p2.Nodes.length:Int)),(35,.i6 z22),(43,.iM q0o x28.Arcs),(44,.i6 (x28.Arcs.length:Int)),(45,.i6 0)]) (σ':=⟨[(6,.vec (List.map q0o ([]:List q28)).flatten 66 2 0),(5,.row [.i6 x28.Typex,.vl 6 0 0 (([]:List q28).length)] 54),(4,.row (q02 x28) 54),(3,.vec (List.map q02 l23).flatten 54 2 t24),(2,.row [.vl 3 t24 0 l23.length] 24),(1,.row [.nils] 24),(0,.row [.iM q02 p2.Nodes] 24)],7⟩) (Gh.trans (qxs 5 1 66 2 (by decide) NZ rfl rfl) (qxk ⟨rfl,rfl,rfl,rfl,rfl,rfl,rfl,rfl,rfl,rfl,trivial⟩ rfl)) NZ ?_
 refine gS (l':=[(0,_),(4,_),(5,_),(10,_),(33,_),(34,_),(35,_),(43,_),(44,_),(45,_)]) ?_
 refine qxe (fun m tm σ=>∃ z45:Int,∃ l46:List q28,∃ t47:Nat,q7y p1 z22 l23 (q45 p1 p2 n m2) x28 m z45 l46=some r∧tm=fr 71 [(0,.iM (cI .i64) p1),(4,.ptr 1 0 0),(5,.ptr 2 0 0),(10,.ptr 5 0 0),(33,.iM q02 p2.Nodes),(34,.i6 (p2.Nodes.length:Int)),(35,.i6 z22),(43,.iM q0o x28.Arcs),(44,.i6 (x28.Arcs.length:Int)),(45,.i6 z45)]∧σ=⟨[(6,.vec (List.map q0o l46).flatten 66 2 t47),(5,.row [.i6 x28.Typex,.vl 6 t47 0 l46.length] 54),(4,.row (q02 x28) 54),(3,.vec (List.map q02 l23).flatten 54 2 t24),(2,.row [.vl 3 t24 0 l23.length] 24),(1,.row [.nils] 24),(0,.row [.iM q02 p2.Nodes] 24)],7⟩) (fun tm σ=>∃ l48:List q28,∃ t49:Nat,qbb z22 l23 (q45 p1 p2 n m2) x28 l48=some r∧tm=fr 71 [(0,.iM (cI .i64) p1),(4,.ptr 1 0 0),(5,.ptr 2 0 0),(10,.ptr 5 0 0),(33,.iM q02 p2.Nodes),(34,.i6 (p2.Nodes.length:Int)),(35,.i6 z22)]∧σ=⟨[(6,.vec (List.map q0o l48).flatten 66 2 t49),(5,.row [.i6 x28.Typex,.vl 6 t49 0 l48.length] 54),(4,.row (q02 x28) 54),(3,.vec (List.map q02 l23).flatten 54 2 t24),(2,.row [.vl 3 t24 0 l23.length] 24),(1,.row [.nils] 24),(0,.row [.iM q02 p2.Nodes] 24)],7⟩) n ⟨0,([]:List q28),0,hF,rfl,rfl⟩ ?_ ?_
 rintro _ _ ⟨l48,t49,hF,rfl,rfl⟩
 unfold qbb at hF
 refine gn ?_
 refine WPU.ghost (tm':=fr 71 [(0,.iM (cI .i64) p1),(4,.ptr 1 0 0),(5,.ptr 2 0 0),(10,.ptr 5 0 0),(33,.iM q02 p2.Nodes),(34,.i6 (p2.Nodes.length:Int)),(35,.i6 z22)]) (σ':=⟨[(5,.row [.i6 x28.Typex,.iM q0o l48] 54),(4,.row (q02 x28) 54),(3,.vec (List.map q02 l23).flatten 54 2 t24),(2,.row [.vl 3 t24 0 l23.length] 24),(1,.row [.nils] 24),(0,.row [.iM q02 p2.Nodes] 24)],7⟩) (Gh.trans (Gh.sub (l':=[(0,.iM (cI .i64) p1),(4,.ptr 1 0 0),(5,.ptr 2 0 0),(10,.ptr 5 0 0),(33,.iM q02 p2.Nodes),(34,.i6 (p2.Nodes.length:Int)),(35,.i6 z22)]) ⟨rfl,rfl,rfl,rfl,rfl,rfl,rfl,trivial⟩) (qxt 6 2)) NZ ?_
 obtain ⟨h50,hF⟩:=q0a hF
 refine go ?_
 refine RS.q rfl (q1t und24 rfl (q04 inf22) rfl rfl rfl) (RS.q rfl (q18 und22 rfl rfl rfl rfl) (RS.q (u:=.agg [.i6 x28.Typex,.iM q0o l48]) rfl (q1f und54 rfl (q04 inf54) rfl rfl rfl) (RS.q (u:=.sl 7 0 1 1) (σ':=⟨[(7,.row [.i6 x28.Typex,.iM q0o l48] 54),(5,.row [.i6 x28.Typex,.iM q0o l48] 54),(4,.row (q02 x28) 54),(3,.vec (List.map q02 l23).flatten 54 2 t24),(2,.row [.vl 3 t24 0 l23.length] 24),(1,.row [.nils] 24),(0,.row [.iM q02 p2.Nodes] 24)],8⟩) rfl (q0i und22 inf54 rfl rfl rfl rfl rfl rfl rfl) (RS.q (u:=.vl 3 (t24+1) 0 ((l23++[(q0y.mk x28.Typex l48)]).length)) (σ':=⟨[(7,.row [.i6 x28.Typex,.iM q0o l48] 54),(5,.row [.i6 x28.Typex,.iM q0o l48] 54),(4,.row (q02 x28) 54),(3,.vec (List.map q02 (l23++[(q0y.mk x28.Typex l48)])).flatten 54 2 (t24+1)),(2,.row [.vl 3 t24 0 l23.length] 24),(1,.row [.nils] 24),(0,.row [.iM q02 p2.Nodes] 24)],8⟩) rfl (q1o rfl rfl rfl rfl (q20 q02 ([(q0y.mk x28.Typex l48)]) und22 und22 inf54 rfl q3g rfl (q1k q02 [(q0y.mk x28.Typex l48)] rfl rfl rfl rfl) h50)) (RS.q rfl (q1t und24 rfl (q04 inf22) rfl rfl rfl) ?_)))))
 refine qxi (u:=.junk) (σ':=⟨[(7,.row [.i6 x28.Typex,.iM q0o l48] 54),(5,.row [.i6 x28.Typex,.iM q0o l48] 54),(4,.row (q02 x28) 54),(3,.vec (List.map q02 (l23++[(q0y.mk x28.Typex l48)])).flatten 54 2 (t24+1)),(2,.row [.vl 3 (t24+1) 0 ((l23++[(q0y.mk x28.Typex l48)]).length)] 24),(1,.row [.nils] 24),(0,.row [.iM q02 p2.Nodes] 24)],8⟩) rfl (q11 (q04 inf22) rfl rfl rfl rfl rfl rfl rfl rfl) rfl ?_
 refine go ?_
 exact lC ⟨_,(l23++[(q0y.mk x28.Typex l48)]),(t24+1),hF,rfl,rfl⟩
 rintro (_|m3) _ _ ⟨z45,l46,t47,hF,rfl,rfl⟩
 cases hF
 unfold q7y at hF
 refine go ?_
 refine cF hF (fun h51 hF=>?_) (fun h51 hF=>?_)
 refine go ?_
 refine WPU.block ?_
 obtain ⟨x52,h53,hF⟩:=q00 hF
 refine go ?_
 refine RS.q rfl (q0g rfl rfl (q0b q0o und52 (q04 inf66) q5h h53 rfl)) (RS.q (u:=.agg (q0o x52)) rfl (qe4 und66 rfl (q04 inf66) rfl rfl) (RS.q (u:=.ptr 7 0 0) (σ':=⟨[(7,.row [.i6 0,.i6 0] 66),(6,.vec (List.map q0o l46).flatten 66 2 t47),(5,.row [.i6 x28.Typex,.vl 6 t47 0 l46.length] 54),(4,.row (q02 x28) 54),(3,.vec (List.map q02 l23).flatten 54 2 t24),(2,.row [.vl 3 t24 0 l23.length] 24),(1,.row [.nils] 24),(0,.row [.iM q02 p2.Nodes] 24)],8⟩) rfl (q1h inf66 rfl rfl) ?_))
 refine qxi (u:=.junk) (σ':=⟨[(7,.row (q0o x52) 66),(6,.vec (List.map q0o l46).flatten 66 2 t47),(5,.row [.i6 x28.Typex,.vl 6 t47 0 l46.length] 54),(4,.row (q02 x28) 54),(3,.vec (List.map q02 l23).flatten 54 2 t24),(2,.row [.vl 3 t24 0 l23.length] 24),(1,.row [.nils] 24),(0,.row [.iM q02 p2.Nodes] 24)],8⟩) rfl (q11 (q04 inf66) rfl rfl rfl rfl rfl rfl rfl rfl) rfl ?_
 obtain ⟨h54,hF⟩:=q0a hF
 refine go ?_
 refine RS.q rfl (q1t und54 rfl (q04 inf52) rfl rfl rfl) (RS.q rfl (q18 und52 rfl rfl rfl rfl) (RS.q rfl (q1t und66 rfl (q04 inf3) rfl rfl rfl) (RS.q rfl (q18 und3 rfl rfl rfl rfl) (RS.q rfl (q1t und66 rfl (q04 inf3) rfl rfl rfl) (RS.q rfl (q18 und3 rfl rfl rfl rfl) ?_)))))
 refine go ?_
 refine RS.q rfl (q0c rfl rfl rfl (q08 (cI .i64) und33)) ?_
 refine go ?_
 refine RS.q (u:=.agg [.i6 x52.Feat,.i6 (IntKind.i64.wrap (x52.To+(p1.length:Int)))]) rfl (q3y bd66 rfl rfl rfl) (RS.q (u:=.sl 8 0 1 1) (σ':=⟨[(8,.row [.i6 x52.Feat,.i6 (IntKind.i64.wrap (x52.To+(p1.length:Int)))] 66),(7,.row (q0o x52) 66),(6,.vec (List.map q0o l46).flatten 66 2 t47),(5,.row [.i6 x28.Typex,.vl 6 t47 0 l46.length] 54),(4,.row (q02 x28) 54),(3,.vec (List.map q02 l23).flatten 54 2 t24),(2,.row [.vl 3 t24 0 l23.length] 24),(1,.row [.nils] 24),(0,.row [.iM q02 p2.Nodes] 24)],9⟩) rfl (q0i und52 inf66 rfl rfl rfl rfl rfl rfl rfl) (RS.q (u:=.vl 6 (t47+1) 0 ((l46++[(q28.mk x52.Feat (IntKind.i64.wrap (x52.To+(p1.length:Int))))]).length)) (σ':=⟨[(8,.row [.i6 x52.Feat,.i6 (IntKind.i64.wrap (x52.To+(p1.length:Int)))] 66),(7,.row (q0o x52) 66),(6,.vec (List.map q0o (l46++[(q28.mk x52.Feat (IntKind.i64.wrap (x52.To+(p1.length:Int))))])).flatten 66 2 (t47+1)),(5,.row [.i6 x28.Typex,.vl 6 t47 0 l46.length] 54),(4,.row (q02 x28) 54),(3,.vec (List.map q02 l23).flatten 54 2 t24),(2,.row [.vl 3 t24 0 l23.length] 24),(1,.row [.nils] 24),(0,.row [.iM q02 p2.Nodes] 24)],9⟩) rfl (q1o rfl rfl rfl rfl (q20 q0o ([(q28.mk x52.Feat (IntKind.i64.wrap (x52.To+(p1.length:Int))))]) und52 und52 inf66 rfl q5h rfl (q1k q0o [(q28.mk x52.Feat (IntKind.i64.wrap (x52.To+(p1.length:Int))))] rfl rfl rfl rfl) h54)) (RS.q rfl (q1t und54 rfl (q04 inf52) rfl rfl rfl) ?_)))
 refine qxi (u:=.junk) (σ':=⟨[(8,.row [.i6 x52.Feat,.i6 (IntKind.i64.wrap (x52.To+(p1.length:Int)))] 66),(7,.row (q0o x52) 66),(6,.vec (List.map q0o (l46++[(q28.mk x52.Feat (IntKind.i64.wrap (x52.To+(p1.length:Int))))])).flatten 66 2 (t47+1)),(5,.row [.i6 x28.Typex,.vl 6 (t47+1) 0 ((l46++[(q28.mk x52.Feat (IntKind.i64.wrap (x52.To+(p1.length:Int))))]).length)] 54),(4,.row (q02 x28) 54),(3,.vec (List.map q02 l23).flatten 54 2 t24),(2,.row [.vl 3 t24 0 l23.length] 24),(1,.row [.nils] 24),(0,.row [.iM q02 p2.Nodes] 24)],9⟩) rfl (q11 (q04 inf52) rfl rfl rfl rfl rfl rfl rfl rfl) rfl ?_
 refine go ?_
 exact lC ⟨_,(l46++[(q28.mk x52.Feat (IntKind.i64.wrap (x52.To+(p1.length:Int))))]),(t47+1),hF,rfl,rfl⟩
 refine go ?_
 exact xC ⟨l46,t47,hF,rfl,rfl⟩
 refine go ?_
 exact xC ⟨l23,t24,hF,rfl,rfl⟩
 rintro (_|m1) _ _ ⟨z10,l11,t12,hF,rfl,rfl⟩
 cases hF
 unfold q7x at hF
 refine go ?_
 refine cF hF (fun h55 hF=>?_) (fun h55 hF=>?_)
 refine go ?_
 refine WPU.block ?_
 obtain ⟨x56,h57,hF⟩:=q00 hF
 refine go ?_
 refine RS.q rfl (q0g rfl rfl (q0b (cI .i64) und33 (q04 inf3) (q19 .i64) h57 rfl)) (RS.q rfl (q0e und3 rfl rfl rfl) ?_)
 obtain ⟨h58,hF⟩:=q0a hF
 refine go ?_
 refine RS.q rfl (q1t und24 rfl (q04 inf22) rfl rfl rfl) (RS.q rfl (q18 und22 rfl rfl rfl rfl) ?_)
 refine go ?_
 refine RS.q (u:=.agg [.i6 x56,.i6 (IntKind.i64.wrap (z10+1))]) rfl (q3y bd66 rfl rfl rfl) ?_
 refine qxq (u:=.iM q0o ([(q28.mk x56 (IntKind.i64.wrap (z10+1)))])) (σ':=⟨[(3,.vec (List.map q02 l11).flatten 54 2 t12),(2,.row [.vl 3 t12 0 l11.length] 24),(1,.row [.nils] 24),(0,.row [.iM q02 p2.Nodes] 24)],5⟩) rfl (qc9.fz Tryz.tb_ok (u1:=.sl 4 0 1 1) (s1:=⟨[(4,.row [.i6 x56,.i6 (IntKind.i64.wrap (z10+1))] 66),(3,.vec (List.map q02 l11).flatten 54 2 t12),(2,.row [.vl 3 t12 0 l11.length] 24),(1,.row [.nils] 24),(0,.row [.iM q02 p2.Nodes] 24)],5⟩) (q0i und52 inf66 rfl rfl rfl rfl rfl rfl rfl) (qxg 4 2) (Nat.le_refl _) rfl rfl) rfl rfl ?_
 refine RS.q (u:=.agg [.i6 0,.iM q0o ([(q28.mk x56 (IntKind.i64.wrap (z10+1)))])]) rfl (q3y bd54 rfl rfl rfl) (RS.q (u:=.sl 5 0 1 1) (σ':=⟨[(5,.row [.i6 0,.iM q0o ([(q28.mk x56 (IntKind.i64.wrap (z10+1)))])] 54),(3,.vec (List.map q02 l11).flatten 54 2 t12),(2,.row [.vl 3 t12 0 l11.length] 24),(1,.row [.nils] 24),(0,.row [.iM q02 p2.Nodes] 24)],6⟩) rfl (q0i und22 inf54 rfl rfl rfl rfl rfl rfl rfl) (RS.q (u:=.vl 3 (t12+1) 0 ((l11++[(q0y.mk 0 ([(q28.mk x56 (IntKind.i64.wrap (z10+1)))]))]).length)) (σ':=⟨[(5,.row [.i6 0,.iM q0o ([(q28.mk x56 (IntKind.i64.wrap (z10+1)))])] 54),(3,.vec (List.map q02 (l11++[(q0y.mk 0 ([(q28.mk x56 (IntKind.i64.wrap (z10+1)))]))])).flatten 54 2 (t12+1)),(2,.row [.vl 3 t12 0 l11.length] 24),(1,.row [.nils] 24),(0,.row [.iM q02 p2.Nodes] 24)],6⟩) rfl (q1o rfl rfl rfl rfl (q20 q02 ([(q0y.mk 0 ([(q28.mk x56 (IntKind.i64.wrap (z10+1)))]))]) und22 und22 inf54 rfl q3g rfl (q1k q02 [(q0y.mk 0 ([(q28.mk x56 (IntKind.i64.wrap (z10+1)))]))] rfl rfl rfl rfl) h58)) (RS.q rfl (q1t und24 rfl (q04 inf22) rfl rfl rfl) ?_)))
 refine qxi (u:=.junk) (σ':=⟨[(5,.row [.i6 0,.iM q0o ([(q28.mk x56 (IntKind.i64.wrap (z10+1)))])] 54),(3,.vec (List.map q02 (l11++[(q0y.mk 0 ([(q28.mk x56 (IntKind.i64.wrap (z10+1)))]))])).flatten 54 2 (t12+1)),(2,.row [.vl 3 (t12+1) 0 ((l11++[(q0y.mk 0 ([(q28.mk x56 (IntKind.i64.wrap (z10+1)))]))]).length)] 24),(1,.row [.nils] 24),(0,.row [.iM q02 p2.Nodes] 24)],6⟩) rfl (q11 (q04 inf22) rfl rfl rfl rfl rfl rfl rfl rfl) rfl ?_
 refine go ?_
 exact lC ⟨_,(l11++[(q0y.mk 0 ([(q28.mk x56 (IntKind.i64.wrap (z10+1)))]))]),(t12+1),hF,rfl,rfl⟩
 refine go ?_
 exact xC ⟨l11,t12,hF,rfl,rfl⟩
def qb6 (n:Nat) (l13:List (List UInt8)):Option ((List UInt8)) :=
 q03 (strings_Join n l13 ([46])) fun r15 =>
 some r15
def q7w (p1:q0w) (p2:List Int) (n:Nat):Nat→Int→(List (List UInt8))→Option ((List UInt8))
 | 0,_,_=>none
 | m1+1,z10,l11 =>
  cond (decide (z10<(p2.length:Int)))
   (q03 (q13 p2 z10) fun x18 =>
   q03 (q13 p1.Feats x18) fun x20 =>
   q16 ((l11.length+1)*16≤140737488355328∧l11.length+1≤140737488355328) (
   (q7w p1 p2 n m1) (IntKind.i64.wrap (z10+1)) (l11++[x20.Name])))
   (qb6 n l11)
def qgx (n:Nat) (p1:q0w) (p2:List Int):Option ((List UInt8)) :=
 q7w p1 p2 n n 0 ([]:List (List UInt8))
theorem qcp (n:Nat) (p1:q0w) (p2:List Int) (r:(List UInt8)) (hF:qgx n p1 p2=some r):EvU Tryz.prog 25 [.agg (q06 p1),.isl false (List.map (cI .i64) p2)] ⟨[],0⟩ (fun u _=>u = .str r∧Bel 0 u):=by
 unfold qgx at hF
 refine bg2 26 fn25 ?_
 refine go ?_
 refine RS.q (u:=.ptr 0 0 0) (σ':=⟨[(0,.row (q06 p1) 43)],1⟩) rfl (q5i rfl rfl rfl) ?_
 refine go ?_
 refine RS.q rfl (q0c rfl rfl rfl (q08 (cI .i64) und33)) ?_
 refine gn ?_
 refine WPU.ghost (tm':=fr 26 [(2,.ptr 0 0 0),(5,.vl 1 0 0 (([]:List (List UInt8)).length)),(8,.iM (cI .i64) p2),(9,.i6 (p2.length:Int)),(10,.i6 0)]) (σ':=⟨[(1,.vec (List.map cS ([]:List (List UInt8))).flatten 9 1 0),(0,.row (q06 p1) 43)],2⟩) (Gh.trans (qxl 5 9 1 (by decide) NZ rfl rfl) (qxk ⟨rfl,rfl,rfl,rfl,rfl,trivial⟩ rfl)) NZ ?_
 refine gS (l':=[(2,_),(5,_),(8,_),(9,_),(10,_)]) ?_
 refine qxe (fun m tm σ=>∃ z10:Int,∃ l11:List (List UInt8),∃ t12:Nat,q7w p1 p2 n m z10 l11=some r∧tm=fr 26 [(2,.ptr 0 0 0),(5,.vl 1 t12 0 l11.length),(8,.iM (cI .i64) p2),(9,.i6 (p2.length:Int)),(10,.i6 z10)]∧σ=⟨[(1,.vec (List.map cS l11).flatten 9 1 t12),(0,.row (q06 p1) 43)],2⟩) (fun tm σ=>∃ l13:List (List UInt8),∃ t14:Nat,qb6 n l13=some r∧tm=fr 26 [(5,.vl 1 t14 0 l13.length)]∧σ=⟨[(1,.vec (List.map cS l13).flatten 9 1 t14),(0,.row (q06 p1) 43)],2⟩) n ⟨0,([]:List (List UInt8)),0,hF,rfl,rfl⟩ ?_ ?_
 rintro _ _ ⟨l13,t14,hF,rfl,rfl⟩
 unfold qb6 at hF
 obtain ⟨r15,h16,hF⟩:=q00 hF
 refine go ?_
 refine RS.cl rfl (vw (qkt n l13 ([46]) r15 h16) (qxg 1 1)) fn52 ?_
 exact gx hF
 rintro (_|m1) _ _ ⟨z10,l11,t12,hF,rfl,rfl⟩
 cases hF
 unfold q7w at hF
 refine go ?_
 refine cF hF (fun h17 hF=>?_) (fun h17 hF=>?_)
 refine go ?_
 refine WPU.block ?_
 obtain ⟨x18,h19,hF⟩:=q00 hF
 refine go ?_
 refine RS.q rfl (q0g rfl rfl (q0b (cI .i64) und33 (q04 inf3) (q19 .i64) h19 rfl)) (RS.q rfl (q0e und3 rfl rfl rfl) ?_)
 obtain ⟨x20,h21,hF⟩:=q00 hF
 obtain ⟨h22,hF⟩:=q0a hF
 refine go ?_
 refine RS.q rfl (q1t und43 rfl (q04 inf41) rfl rfl rfl) (RS.q rfl (q18 und41 rfl rfl rfl rfl) ?_)
 refine go ?_
 refine RS.q rfl (q0g rfl rfl (q0b q12 und41 (q04 inf82) q7s h21 rfl)) (RS.q rfl (q1y und82 rfl (q04 inf9) rfl rfl) (RS.q rfl (q0e und9 rfl rfl rfl) (RS.q (u:=.sl 2 0 1 1) (σ':=⟨[(2,.row [.str x20.Name] 9),(1,.vec (List.map cS l11).flatten 9 1 t12),(0,.row (q06 p1) 43)],3⟩) rfl (q0i und80 inf9 rfl rfl rfl rfl rfl rfl rfl) (RS.q (u:=.vl 1 (t12+1) 0 ((l11++[x20.Name]).length)) (σ':=⟨[(2,.row [.str x20.Name] 9),(1,.vec (List.map cS (l11++[x20.Name])).flatten 9 1 (t12+1)),(0,.row (q06 p1) 43)],3⟩) rfl (q1o rfl rfl rfl rfl (q20 cS ([x20.Name]) und80 und80 inf9 rfl q1b rfl (q1k cS [x20.Name] rfl rfl rfl rfl) h22)) ?_))))
 refine go ?_
 exact lC ⟨_,(l11++[x20.Name]),(t12+1),hF,rfl,rfl⟩
 refine go ?_
 exact xC ⟨l11,t12,hF,rfl,rfl⟩
def q8j   : Option (Int) :=
 some (-1)
def q5f (p1:q0w) (p2:List UInt8):Nat→Int→Option (Int)
 | 0,_=>none
 | m1+1,z9 =>
  cond (decide (z9<(p1.Feats.length:Int)))
   (q03 (q13 p1.Feats z9) fun x11 =>
   cond (qak x11 (q1a.mk p2 x11.Intro))
    (some z9)
    ((q5f p1 p2 m1) (IntKind.i64.wrap (z9+1))))
   (q8j)
def qcg (n:Nat) (p1:q0w) (p2:List UInt8):Option (Int) :=
 q5f p1 p2 n 0
theorem qkj (n:Nat) (p1:q0w) (p2:List UInt8) (r:Int) (hF:qcg n p1 p2=some r):EvU Tryz.prog 55 [.agg (q06 p1),.str p2] ⟨[],0⟩ (fun u _=>u = .int .i64 r∧Bel 0 u):=by
 unfold qcg at hF
 refine bg2 23 fn55 ?_
 refine go ?_
 refine RS.q (u:=.ptr 0 0 0) (σ':=⟨[(0,.row (q06 p1) 43)],1⟩) rfl (q5i rfl rfl rfl) ?_
 refine go ?_
 refine RS.q rfl (q1t und43 rfl (q04 inf41) rfl rfl rfl) (RS.q rfl (q18 und41 rfl rfl rfl rfl) (RS.q rfl (q0c rfl rfl rfl (q08 q12 und41)) ?_))
 refine go ?_
 refine gS (l':=[(1,_),(8,_),(9,_),(10,_)]) ?_
 refine qxe (fun m tm σ=>∃ z9:Int,q5f p1 p2 m z9=some r∧tm=fr 23 [(1,.str p2),(8,.iM q12 p1.Feats),(9,.i6 (p1.Feats.length:Int)),(10,.i6 z9)]∧σ=⟨[(0,.row (q06 p1) 43)],1⟩) (fun tm σ=>q8j=some r∧tm=fr 23 []∧σ=⟨[(0,.row (q06 p1) 43)],1⟩) n ⟨0,hF,rfl,rfl⟩ ?_ ?_
 rintro _ _ ⟨hF,rfl,rfl⟩
 unfold q8j at hF
 exact gx hF
 rintro (_|m1) _ _ ⟨z9,hF,rfl,rfl⟩
 cases hF
 unfold q5f at hF
 refine go ?_
 refine cF hF (fun h10 hF=>?_) (fun h10 hF=>?_)
 refine go ?_
 refine WPU.block ?_
 obtain ⟨x11,h12,hF⟩:=q00 hF
 refine go ?_
 refine RS.q rfl (q0g rfl rfl (q0b q12 und41 (q04 inf82) q7s h12 rfl)) (RS.q (u:=.agg (q12 x11)) rfl (qe4 und82 rfl (q04 inf82) rfl rfl) (RS.q (u:=.ptr 1 0 0) (σ':=⟨[(1,.row [.str [],.i6 0] 82),(0,.row (q06 p1) 43)],2⟩) rfl (q1h inf82 rfl rfl) ?_))
 refine go ?_
 refine qxi (u:=.junk) (σ':=⟨[(1,.row (q12 x11) 82),(0,.row (q06 p1) 43)],2⟩) rfl (q11 (q04 inf82) rfl rfl rfl rfl rfl rfl rfl rfl) rfl ?_
 refine go ?_
 refine RS.q (u:=.agg (q12 x11)) rfl (q1f und82 rfl (q04 inf82) rfl rfl rfl) ?_
 refine go ?_
 refine RS.q rfl (q1t und82 rfl (q04 inf3) rfl rfl rfl) (RS.q rfl (q18 und3 rfl rfl rfl rfl) (RS.q (u:=.agg [.str p2,.i6 x11.Intro]) rfl (q3y bd82 rfl rfl rfl) (RS.q (u:=.bool (qak x11 (q1a.mk p2 x11.Intro))) rfl (qt4 rfl rfl (qsa x11 (q1a.mk p2 x11.Intro))) ?_)))
 refine go ?_
 refine cF hF (fun h13 hF=>?_) (fun h13 hF=>?_)
 exact gx hF
 refine go ?_
 exact lC ⟨_,hF,rfl,rfl⟩
 refine go ?_
 exact xC ⟨hF,rfl,rfl⟩
def qb5  (l24:List Int):Option ((List Int)×Int) :=
 some (l24,0)
def q7v (p1:q0w) (n:Nat) (r4:(List (List UInt8))):Nat→Int→(List Int)→Option ((List Int)×Int)
 | 0,_,_=>none
 | m2+1,z21,l22 =>
  cond (decide (z21<(r4.length:Int)))
   (q03 (q13 r4 z21) fun x27 =>
   q03 (qcg n p1 x27) fun r29 =>
   cond (decide (r29<0))
    (some ([],5))
    (q16 ((l22.length+1)*8≤140737488355328∧l22.length+1≤140737488355328) (
    (q7v p1 n r4 m2) (IntKind.i64.wrap (z21+1)) (l22++[r29]))))
   (qb5 l22)
def qb4 (p1:q0w) (n:Nat) (r4:(List (List UInt8)))  : Option ((List Int)×Int) :=
 q7v p1 n r4 n 0 ([]:List Int)
def q7u (p1:q0w) (n:Nat) (r4:(List (List UInt8))):Nat→Int→Option ((List Int)×Int)
 | 0,_=>none
 | m1+1,z13 =>
  cond (decide (z13<(r4.length:Int)))
   (q03 (q13 r4 z13) fun x34 =>
   q03 (qhw n x34) fun r36 =>
   cond (!r36)
    (some ([],8))
    ((q7u p1 n r4 m1) (IntKind.i64.wrap (z13+1))))
   (qb4 p1 n r4)
def q2y (n:Nat) (p1:q0w) (p2:List UInt8):Option ((List Int)×Int) :=
 cond (q1c p2 [])
  (some ([],0))
  (q03 (qc4 n p2 ([46])) fun r4 =>
  cond (decide ((r4.length:Int) > 64))
   (some ([],7))
   (q7u p1 n r4 n 0))
theorem q51 (n:Nat) (p1:q0w) (p2:List UInt8) (r:(List Int)×Int) (hF:q2y n p1 p2=some r):EvU Tryz.prog 26 [.agg (q06 p1),.str p2] ⟨[],0⟩ (fun u _=>u = .tup [.isl false (List.map (cI .i64) r.1),.int .i64 r.2]∧Bel 0 u):=by
 unfold q2y at hF
 refine bg2 47 fn26 ?_
 refine go ?_
 refine RS.q (u:=.ptr 0 0 0) (σ':=⟨[(0,.row (q06 p1) 43)],1⟩) rfl (q5i rfl rfl rfl) ?_
 refine go ?_
 refine RS.q (u:=.bool (q1c p2 [])) rfl (q50 rfl rfl rfl rfl) ?_
 refine go ?_
 refine cF hF (fun h3 hF=>?_) (fun h3 hF=>?_)
 refine go ?_
 obtain rfl:=sI hF
 exact rT (us:=[.nils,.i6 0]) (u:=.tup [.isl false [],.i6 0]) (q2j rfl (q2j rfl (q33))) wR
 obtain ⟨r4,h5,hF⟩:=q00 hF
 refine go ?_
 refine RS.cl rfl (qi4 n p2 ([46]) r4 h5 _) fn53 ?_
 refine go ?_
 refine RS.q rfl (q0c rfl rfl rfl (q08 cS und80)) ?_
 refine go ?_
 refine cF hF (fun h6 hF=>?_) (fun h6 hF=>?_)
 refine go ?_
 obtain rfl:=sI hF
 exact rT (us:=[.nils,.i6 7]) (u:=.tup [.isl false [],.i6 7]) (q2j rfl (q2j rfl (q33))) wR
 refine go ?_
 refine RS.q rfl (q0c rfl rfl rfl (q08 cS und80)) ?_
 refine go ?_
 refine gS (l':=[(2,_),(6,_),(20,_),(21,_),(22,_)]) ?_
 refine qxe (fun m tm σ=>∃ z13:Int,q7u p1 n r4 m z13=some r∧tm=fr 47 [(2,.ptr 0 0 0),(6,.iM cS r4),(20,.iM cS r4),(21,.i6 (r4.length:Int)),(22,.i6 z13)]∧σ=⟨[(0,.row (q06 p1) 43)],1⟩) (fun tm σ=>qb4 p1 n r4=some r∧tm=fr 47 [(2,.ptr 0 0 0),(6,.iM cS r4)]∧σ=⟨[(0,.row (q06 p1) 43)],1⟩) n ⟨0,hF,rfl,rfl⟩ ?_ ?_
 rintro _ _ ⟨hF,rfl,rfl⟩
 unfold qb4 at hF
 refine go ?_
 refine RS.q rfl (q0c rfl rfl rfl (q08 cS und80)) ?_
 refine gn ?_
 refine WPU.ghost (tm':=fr 47 [(2,.ptr 0 0 0),(9,.vl 1 0 0 (([]:List Int).length)),(30,.iM cS r4),(31,.i6 (r4.length:Int)),(32,.i6 0)]) (σ':=⟨[(1,.vec (List.map (cI .i64) ([]:List Int)).flatten 3 1 0),(0,.row (q06 p1) 43)],2⟩) (Gh.trans (qxl 9 3 1 (by decide) NZ rfl rfl) (qxk ⟨rfl,rfl,rfl,rfl,rfl,trivial⟩ rfl)) NZ ?_
 refine gS (l':=[(2,_),(9,_),(30,_),(31,_),(32,_)]) ?_
 refine qxe (fun m tm σ=>∃ z21:Int,∃ l22:List Int,∃ t23:Nat,q7v p1 n r4 m z21 l22=some r∧tm=fr 47 [(2,.ptr 0 0 0),(9,.vl 1 t23 0 l22.length),(30,.iM cS r4),(31,.i6 (r4.length:Int)),(32,.i6 z21)]∧σ=⟨[(1,.vec (List.map (cI .i64) l22).flatten 3 1 t23),(0,.row (q06 p1) 43)],2⟩) (fun tm σ=>∃ l24:List Int,∃ t25:Nat,qb5 l24=some r∧tm=fr 47 [(9,.vl 1 t25 0 l24.length)]∧σ=⟨[(1,.vec (List.map (cI .i64) l24).flatten 3 1 t25),(0,.row (q06 p1) 43)],2⟩) n ⟨0,([]:List Int),0,hF,rfl,rfl⟩ ?_ ?_
 rintro _ _ ⟨l24,t25,hF,rfl,rfl⟩
 unfold qb5 at hF
 refine go ?_
 obtain rfl:=sI hF
 exact rT (us:=[.vl 1 t25 0 l24.length,.i6 0]) (u:=.tup [.iM (cI .i64) l24,.i6 0]) (q2j rfl (q2j rfl (q33))) (fR 1 1)
 rintro (_|m2) _ _ ⟨z21,l22,t23,hF,rfl,rfl⟩
 cases hF
 unfold q7v at hF
 refine go ?_
 refine cF hF (fun h26 hF=>?_) (fun h26 hF=>?_)
 refine go ?_
 refine WPU.block ?_
 obtain ⟨x27,h28,hF⟩:=q00 hF
 refine go ?_
 refine RS.q rfl (q0g rfl rfl (q0b cS und80 (q04 inf9) q1b h28 rfl)) (RS.q rfl (q0e und9 rfl rfl rfl) ?_)
 obtain ⟨r29,h30,hF⟩:=q00 hF
 refine go ?_
 refine RS.q (u:=.agg (q06 p1)) rfl (q1f und43 rfl (q04 inf43) rfl rfl rfl) ?_
 refine go ?_
 refine RS.cl rfl (pC (qkj n p1 x27 r29 h30) _) fn55 ?_
 refine go ?_
 refine cF hF (fun h31 hF=>?_) (fun h31 hF=>?_)
 refine go ?_
 obtain rfl:=sI hF
 exact rT (us:=[.nils,.i6 5]) (u:=.tup [.isl false [],.i6 5]) (q2j rfl (q2j rfl (q33))) wR
 obtain ⟨h32,hF⟩:=q0a hF
 refine go ?_
 refine RS.q (u:=.sl 2 0 1 1) (σ':=⟨[(2,.row [.i6 r29] 3),(1,.vec (List.map (cI .i64) l22).flatten 3 1 t23),(0,.row (q06 p1) 43)],3⟩) rfl (q0i und33 inf3 rfl rfl rfl rfl rfl rfl rfl) (RS.q (u:=.vl 1 (t23+1) 0 ((l22++[r29]).length)) (σ':=⟨[(2,.row [.i6 r29] 3),(1,.vec (List.map (cI .i64) (l22++[r29])).flatten 3 1 (t23+1)),(0,.row (q06 p1) 43)],3⟩) rfl (q1o rfl rfl rfl rfl (q20 (cI .i64) ([r29]) und33 und33 inf3 rfl (q19 .i64) rfl (q1k (cI .i64) [r29] rfl rfl rfl rfl) h32)) ?_)
 refine go ?_
 exact lC ⟨_,(l22++[r29]),(t23+1),hF,rfl,rfl⟩
 refine go ?_
 exact xC ⟨l22,t23,hF,rfl,rfl⟩
 rintro (_|m1) _ _ ⟨z13,hF,rfl,rfl⟩
 cases hF
 unfold q7u at hF
 refine go ?_
 refine cF hF (fun h33 hF=>?_) (fun h33 hF=>?_)
 refine go ?_
 refine WPU.block ?_
 obtain ⟨x34,h35,hF⟩:=q00 hF
 refine go ?_
 refine RS.q rfl (q0g rfl rfl (q0b cS und80 (q04 inf9) q1b h35 rfl)) (RS.q rfl (q0e und9 rfl rfl rfl) ?_)
 obtain ⟨r36,h37,hF⟩:=q00 hF
 refine go ?_
 refine RS.cl rfl (qk6 n x34 r36 h37 _) fn54 ?_
 refine go ?_
 refine cF hF (fun h38 hF=>?_) (fun h38 hF=>?_)
 refine go ?_
 obtain rfl:=sI hF
 exact rT (us:=[.nils,.i6 8]) (u:=.tup [.isl false [],.i6 8]) (q2j rfl (q2j rfl (q33))) wR
 refine go ?_
 exact lC ⟨_,hF,rfl,rfl⟩
 refine go ?_
 exact xC ⟨hF,rfl,rfl⟩
def qc2   : Option (Bool) :=
 some true
def q8b (p1:List Int) (p2:List Int):Nat→Int→Option (Bool)
 | 0,_=>none
 | m1+1,z7 =>
  cond (decide (z7<(p1.length:Int)))
   (q03 (q13 p1 z7) fun x9 =>
   q03 (q13 p2 z7) fun x11 =>
   cond (x9 != x11)
    (some false)
    ((q8b p1 p2 m1) (IntKind.i64.wrap (z7+1))))
   (qc2)
def qdm (n:Nat) (p1:List Int) (p2:List Int):Option (Bool) :=
 cond ((p1.length:Int) != (p2.length:Int))
  (some false)
  (q8b p1 p2 n 0)
theorem qd4 (n:Nat) (p1:List Int) (p2:List Int) (r:Bool) (hF:qdm n p1 p2=some r):EvU Tryz.prog 47 [.isl false (List.map (cI .i64) p1),.isl false (List.map (cI .i64) p2)] ⟨[],0⟩ (fun u _=>u = .bool r∧Bel 0 u):=by
 unfold qdm at hF
 refine bg2 26 fn47 ?_
 refine go ?_
 refine RS.q rfl (q0c rfl rfl rfl (q08 (cI .i64) und33)) ?_
 refine go ?_
 refine RS.q rfl (q0c rfl rfl rfl (q08 (cI .i64) und33)) ?_
 refine go ?_
 refine cF hF (fun h3 hF=>?_) (fun h3 hF=>?_)
 exact gx hF
 refine go ?_
 refine gS (l':=[(0,_),(1,_),(5,_)]) ?_
 refine qxe (fun m tm σ=>∃ z7:Int,q8b p1 p2 m z7=some r∧tm=fr 26 [(0,.iM (cI .i64) p1),(1,.iM (cI .i64) p2),(5,.i6 z7)]∧σ=⟨[],0⟩) (fun tm σ=>qc2=some r∧tm=fr 26 []∧σ=⟨[],0⟩) n ⟨0,hF,rfl,rfl⟩ ?_ ?_
 rintro _ _ ⟨hF,rfl,rfl⟩
 unfold qc2 at hF
 exact gx hF
 rintro (_|m1) _ _ ⟨z7,hF,rfl,rfl⟩
 cases hF
 unfold q8b at hF
 refine go ?_
 refine RS.q rfl (q0c rfl rfl rfl (q08 (cI .i64) und33)) ?_
 refine go ?_
 refine cF hF (fun h8 hF=>?_) (fun h8 hF=>?_)
 refine go ?_
 refine WPU.block ?_
 obtain ⟨x9,h10,hF⟩:=q00 hF
 obtain ⟨x11,h12,hF⟩:=q00 hF
 refine go ?_
 refine qxh Tryz.tb_ok [] (by kernel_rfl) ?_
 repeat refine RD.mv rfl rfl rfl rfl ?_
 refine RD.q rfl (q0g rfl rfl (q0b (cI .i64) und33 (q04 inf3) (q19 .i64) h10 rfl)) (RD.q rfl (q0e und3 rfl rfl rfl) ?_)
 repeat refine RD.mv rfl rfl rfl rfl ?_
 refine RD.q rfl (q0g rfl rfl (q0b (cI .i64) und33 (q04 inf3) (q19 .i64) h12 rfl)) (RD.q rfl (q0e und3 rfl rfl rfl) (RD.q rfl (q35 rfl rfl (qng _ _ _) rfl) ?_))
 refine RD.done ⟨by kernel_rfl,trivial,?_⟩
 refine go ?_
 refine cF hF (fun h13 hF=>?_) (fun h13 hF=>?_)
 exact gx hF
 refine go ?_
 exact lC ⟨_,hF,rfl,rfl⟩
 refine go ?_
 exact xC ⟨hF,rfl,rfl⟩
def qe5 (p1:q0w) (p2:List Int) (z9:Int) (rc1:(List UInt8)→Int→Option ((List UInt8))) (s13:List UInt8):Option ((List UInt8)) :=
 q03 (q13 p2 z9) fun x14 =>
 q03 (q13 p1.Feats x14) fun x16 =>
 q16 (s13.length+x16.Name.length≤9223372036854775807) (
 rc1 (s13++x16.Name) (IntKind.i64.wrap (z9+1)))
def qkr  (s10:List UInt8):Option ((List UInt8)) :=
 some s10
def qe6 (p1:q0w) (p2:List Int):Nat→(List UInt8)→Int→Option ((List UInt8))
 | 0,_,_=>none
 | m1+1,s8,z9 =>
  cond (decide (z9<(p2.length:Int)))
   (cond (decide (z9 > 0))
    (q16 (s8.length+([46]).length≤9223372036854775807) (
    qe5 p1 p2 z9 (qe6 p1 p2 m1) (s8++[46])))
    (qe5 p1 p2 z9 (qe6 p1 p2 m1) s8))
   (qkr s8)
def qbe (n:Nat) (p1:Int):Option (Bool) :=
 q03 (cond (decide (p1 ≥ 48))
  (some (decide (p1≤57)))
  (some false)) fun b3 =>
 some b3
theorem q2a (n:Nat) (p1:Int) (r:Bool) (hF:qbe n p1=some r):EvU Tryz.prog 109 [.int .u8 p1] ⟨[],0⟩ (fun u _=>u = .bool r∧Bel 0 u):=by
 unfold qbe at hF
 refine bg1 9 fn109 ?_
 obtain ⟨b3,h4,hF⟩:=q00 hF
 refine gr ?_
 refine qxf (fun tm σ=>tm=fr 9 [(2,.bool b3)]∧σ=⟨[],0⟩) ?_ ?_
 rintro _ _ ⟨rfl,rfl⟩
 exact gx hF
 rcases gB h4 with ⟨h2,h4⟩ | ⟨h2,h4⟩
 exact gy h4
 exact gy h4
def qej (n:Nat) (p1:Int):Option (Bool) :=
 q03 (cond (decide (p1 ≥ 65))
  (some (decide (p1≤90)))
  (some false)) fun b3 =>
 some b3
theorem qbh (n:Nat) (p1:Int) (r:Bool) (hF:qej n p1=some r):EvU Tryz.prog 140 [.int .u8 p1] ⟨[],0⟩ (fun u _=>u = .bool r∧Bel 0 u):=by
 unfold qej at hF
 refine bg1 9 fn140 ?_
 obtain ⟨b3,h4,hF⟩:=q00 hF
 refine gr ?_
 refine qxf (fun tm σ=>tm=fr 9 [(2,.bool b3)]∧σ=⟨[],0⟩) ?_ ?_
 rintro _ _ ⟨rfl,rfl⟩
 exact gx hF
 rcases gB h4 with ⟨h2,h4⟩ | ⟨h2,h4⟩
 exact gy h4
 exact gy h4
def qbf (n:Nat) (p1:Int):Option (Bool) :=
 q03 (cond (decide (p1 ≥ 97))
  (some (decide (p1≤122)))
  (some false)) fun b3 =>
 some b3
theorem qfs (n:Nat) (p1:Int) (r:Bool) (hF:qbf n p1=some r):EvU Tryz.prog 141 [.int .u8 p1] ⟨[],0⟩ (fun u _=>u = .bool r∧Bel 0 u):=by
 unfold qbf at hF
 refine bg1 9 fn141 ?_
 obtain ⟨b3,h4,hF⟩:=q00 hF
 refine gr ?_
 refine qxf (fun tm σ=>tm=fr 9 [(2,.bool b3)]∧σ=⟨[],0⟩) ?_ ?_
 rintro _ _ ⟨rfl,rfl⟩
 exact gx hF
 rcases gB h4 with ⟨h2,h4⟩ | ⟨h2,h4⟩
 exact gy h4
 exact gy h4
def qh3 (n:Nat) (p1:Int) (p2:Bool):Option (Bool) :=
 q03 (q03 (qbe n p1) fun r3 =>
 cond r3
  (some true)
  (cond (p1 == 45)
   (some true)
   (cond p2
    (q03 (qej n p1) fun r8 =>
    cond r8
     (some true)
     (cond (!p2)
      (q03 (qbf n p1) fun r12 =>
      some r12)
      (some false)))
    (cond (!p2)
     (q03 (qbf n p1) fun r15 =>
     some r15)
     (some false))))) fun b17 =>
 some b17
theorem qnw (n:Nat) (p1:Int) (p2:Bool) (r:Bool) (hF:qh3 n p1 p2=some r):EvU Tryz.prog 110 [.int .u8 p1,.bool p2] ⟨[],0⟩ (fun u _=>u = .bool r∧Bel 0 u):=by
 unfold qh3 at hF
 refine bg2 26 fn110 ?_
 obtain ⟨b17,h18,hF⟩:=q00 hF
 refine gr ?_
 refine qxf (fun tm σ=>tm=fr 26 [(4,.bool b17)]∧σ=⟨[],0⟩) ?_ ?_
 rintro _ _ ⟨rfl,rfl⟩
 exact gx hF
 obtain ⟨r3,h4,h18⟩:=q00 h18
 rcases gB h18 with ⟨h5,h18⟩ | ⟨h5,h18⟩
 obtain rfl:=sI h18
 refine go ?_
 refine RS.cl rfl (pC (q2a n p1 r3 h4) _) fn109 ?_
 refine go ?_
 repeat refine RS.no (qku rfl rfl rfl) rfl rfl ?_
 refine go ?_
 repeat refine RS.no (qku rfl rfl rfl) rfl rfl ?_
 refine go ?_
 exact xC ⟨rfl,rfl⟩
 rcases gB h18 with ⟨h6,h18⟩ | ⟨h6,h18⟩
 obtain rfl:=sI h18
 refine go ?_
 refine RS.cl rfl (pC (q2a n p1 r3 h4) _) fn109 ?_
 refine go ?_
 repeat refine RS.no (qku rfl rfl rfl) rfl rfl ?_
 refine go ?_
 repeat refine RS.no (qku rfl rfl rfl) rfl rfl ?_
 refine go ?_
 exact xC ⟨rfl,rfl⟩
 rcases gB h18 with ⟨h7,h18⟩ | ⟨h7,h18⟩
 obtain ⟨r8,h9,h18⟩:=q00 h18
 rcases gB h18 with ⟨h10,h18⟩ | ⟨h10,h18⟩
 obtain rfl:=sI h18
 refine go ?_
 refine RS.cl rfl (pC (q2a n p1 r3 h4) _) fn109 ?_
 refine go ?_
 refine RS.cl rfl (pC (qbh n p1 r8 h9) _) fn140 ?_
 refine go ?_
 repeat refine RS.no (qku rfl rfl rfl) rfl rfl ?_
 refine go ?_
 exact xC ⟨rfl,rfl⟩
 rcases gB h18 with ⟨h11,h18⟩ | ⟨h11,h18⟩
 obtain ⟨r12,h13,h18⟩:=q00 h18
 obtain rfl:=sI h18
 refine go ?_
 refine RS.cl rfl (pC (q2a n p1 r3 h4) _) fn109 ?_
 refine go ?_
 refine RS.cl rfl (pC (qbh n p1 r8 h9) _) fn140 ?_
 refine go ?_
 refine RS.cl rfl (pC (qfs n p1 r12 h13) _) fn141 ?_
 refine go ?_
 exact xC ⟨rfl,rfl⟩
 obtain rfl:=sI h18
 refine go ?_
 refine RS.cl rfl (pC (q2a n p1 r3 h4) _) fn109 ?_
 refine go ?_
 refine RS.cl rfl (pC (qbh n p1 r8 h9) _) fn140 ?_
 refine go ?_
 exact xC ⟨rfl,rfl⟩
 rcases gB h18 with ⟨h14,h18⟩ | ⟨h14,h18⟩
 obtain ⟨r15,h16,h18⟩:=q00 h18
 obtain rfl:=sI h18
 refine go ?_
 refine RS.cl rfl (pC (q2a n p1 r3 h4) _) fn109 ?_
 refine go ?_
 refine RS.cl rfl (pC (qfs n p1 r15 h16) _) fn141 ?_
 refine go ?_
 exact xC ⟨rfl,rfl⟩
 obtain rfl:=sI h18
 refine go ?_
 refine RS.cl rfl (pC (q2a n p1 r3 h4) _) fn109 ?_
 refine go ?_
 exact xC ⟨rfl,rfl⟩
def q9s   : Option (Bool) :=
 some true
def q6g (p1:List UInt8) (p2:Bool) (n:Nat):Nat→Int→Option (Bool)
 | 0,_=>none
 | m1+1,z18 =>
  cond (decide (z18<(p1.length:Int)))
   (q03 (qtu p1 z18) fun x20 =>
   q03 (qh3 n x20 p2) fun r22 =>
   cond (!r22)
    (some false)
    ((q6g p1 p2 n m1) (IntKind.i64.wrap (z18+1))))
   (q9s)
def qbg (n:Nat) (p1:List UInt8) (p2:Bool):Option (Bool) :=
 q03 (cond (decide ((p1.length:Int)<1))
  (some true)
  (cond (decide ((p1.length:Int) > 32))
   (some true)
   (q03 (qtu p1 0) fun x5 =>
   q03 (qbe n x5) fun r7 =>
   cond r7
    (some true)
    (q03 (qtu p1 0) fun x10 =>
    some (x10 == 45))))) fun b12 =>
 cond b12
  (some false)
  (q6g p1 p2 n n 0)
theorem qft (n:Nat) (p1:List UInt8) (p2:Bool) (r:Bool) (hF:qbg n p1 p2=some r):EvU Tryz.prog 81 [.str p1,.bool p2] ⟨[],0⟩ (fun u _=>u = .bool r∧Bel 0 u):=by
 unfold qbg at hF
 refine bg2 36 fn81 ?_
 obtain ⟨b12,h13,hF⟩:=q00 hF
 refine gr ?_
 refine qxf (fun tm σ=>tm=fr 36 [(0,.str p1),(1,.bool p2),(23,.bool b12)]∧σ=⟨[],0⟩) ?_ ?_
 rintro _ _ ⟨rfl,rfl⟩
 refine go ?_
 refine cF hF (fun h14 hF=>?_) (fun h14 hF=>?_)
 exact gx hF
 refine go ?_
 refine gS (l':=[(0,_),(1,_),(5,_)]) ?_
 refine qxe (fun m tm σ=>∃ z18:Int,q6g p1 p2 n m z18=some r∧tm=fr 36 [(0,.str p1),(1,.bool p2),(5,.i6 z18)]∧σ=⟨[],0⟩) (fun tm σ=>q9s=some r∧tm=fr 36 []∧σ=⟨[],0⟩) n ⟨0,hF,rfl,rfl⟩ ?_ ?_
 rintro _ _ ⟨hF,rfl,rfl⟩
 unfold q9s at hF
 exact gx hF
 rintro (_|m1) _ _ ⟨z18,hF,rfl,rfl⟩
 cases hF
 unfold q6g at hF
 refine go ?_
 refine RS.q (u:=.i6 (p1.length:Int)) rfl (q0c rfl rfl rfl (by simp only [qod,und9])) ?_
 refine go ?_
 refine cF hF (fun h19 hF=>?_) (fun h19 hF=>?_)
 refine go ?_
 refine WPU.block ?_
 obtain ⟨x20,h21,hF⟩:=q00 hF
 obtain ⟨r22,h23,hF⟩:=q00 hF
 refine go ?_
 refine RS.q (u:=.int .u8 x20) rfl (qm0 und9 rfl rfl h21) ?_
 refine go ?_
 refine RS.cl rfl (pC (qnw n x20 p2 r22 h23) _) fn110 ?_
 refine go ?_
 refine cF hF (fun h24 hF=>?_) (fun h24 hF=>?_)
 exact gx hF
 refine go ?_
 exact lC ⟨_,hF,rfl,rfl⟩
 refine go ?_
 exact xC ⟨hF,rfl,rfl⟩
 rcases gB h13 with ⟨h3,h13⟩ | ⟨h3,h13⟩
 obtain rfl:=sI h13
 refine go ?_
 refine RS.q (u:=.i6 (p1.length:Int)) rfl (q0c rfl rfl rfl (by simp only [qod,und9])) ?_
 refine go ?_
 exact xC ⟨rfl,rfl⟩
 rcases gB h13 with ⟨h4,h13⟩ | ⟨h4,h13⟩
 obtain rfl:=sI h13
 refine go ?_
 refine RS.q (u:=.i6 (p1.length:Int)) rfl (q0c rfl rfl rfl (by simp only [qod,und9])) ?_
 refine go ?_
 refine RS.w (u:=.i6 (p1.length:Int)) rfl (q0c rfl rfl rfl (by simp only [qod,und9])) ?_
 refine go ?_
 exact xC ⟨rfl,rfl⟩
 obtain ⟨x5,h6,h13⟩:=q00 h13
 obtain ⟨r7,h8,h13⟩:=q00 h13
 rcases gB h13 with ⟨h9,h13⟩ | ⟨h9,h13⟩
 obtain rfl:=sI h13
 refine go ?_
 refine RS.q (u:=.i6 (p1.length:Int)) rfl (q0c rfl rfl rfl (by simp only [qod,und9])) ?_
 refine go ?_
 refine RS.w (u:=.i6 (p1.length:Int)) rfl (q0c rfl rfl rfl (by simp only [qod,und9])) ?_
 refine go ?_
 refine RS.w (u:=.int .u8 x5) rfl (qm0 und9 rfl rfl h6) (RS.cl rfl (pC (q2a n x5 r7 h8) _) fn109 ?_)
 refine go ?_
 exact xC ⟨rfl,rfl⟩
 obtain ⟨x10,h11,h13⟩:=q00 h13
 obtain rfl:=sI h13
 refine go ?_
 refine RS.q (u:=.i6 (p1.length:Int)) rfl (q0c rfl rfl rfl (by simp only [qod,und9])) ?_
 refine go ?_
 refine RS.w (u:=.i6 (p1.length:Int)) rfl (q0c rfl rfl rfl (by simp only [qod,und9])) ?_
 refine go ?_
 refine RS.w (u:=.int .u8 x5) rfl (qm0 und9 rfl rfl h6) (RS.cl rfl (pC (q2a n x5 r7 h8) _) fn109 ?_)
 refine go ?_
 refine RS.w (u:=.int .u8 x10) rfl (qm0 und9 rfl rfl h11) ?_
 refine go ?_
 exact xC ⟨rfl,rfl⟩
def qbd (n:Nat) (p1:List UInt8):Option (Bool) :=
 q03 (qbg n p1 true) fun r2 =>
 some r2
theorem qjq (n:Nat) (p1:List UInt8) (r:Bool) (hF:qbd n p1=some r):EvU Tryz.prog 57 [.str p1] ⟨[],0⟩ (fun u _=>u = .bool r∧Bel 0 u):=by
 unfold qbd at hF
 refine bg1 5 fn57 ?_
 obtain ⟨r2,h3,hF⟩:=q00 hF
 refine go ?_
 refine RS.cl rfl (pC (qft n p1 true r2 h3) _) fn81 ?_
 exact gx hF
def q4v   : Option (Bool) :=
 some true
def q38 (p1:List q0j) (p2:List q0j) (n:Nat):Nat→Int→Option (Bool)
 | 0,_=>none
 | m1+1,z7 =>
  cond (decide (z7<(p1.length:Int)))
   (q03 (q03 (q13 p1 z7) fun x9 =>
   q03 (q13 p2 z7) fun x11 =>
   q03 (qdm n x9.A x11.A) fun r13 =>
   cond (!r13)
    (some true)
    (q03 (q13 p1 z7) fun x16 =>
    q03 (q13 p2 z7) fun x18 =>
    q03 (qdm n x16.B x18.B) fun r20 =>
    some (!r20))) fun b22 =>
   cond b22
    (some false)
    ((q38 p1 p2 n m1) (IntKind.i64.wrap (z7+1))))
   (q4v)
def q4r (n:Nat) (p1:List q0j) (p2:List q0j):Option (Bool) :=
 cond ((p1.length:Int) != (p2.length:Int))
  (some false)
  (q38 p1 p2 n n 0)
theorem q5w (n:Nat) (p1:List q0j) (p2:List q0j) (r:Bool) (hF:q4r n p1 p2=some r):EvU Tryz.prog 17 [.isl false (List.map q0k p1),.isl false (List.map q0k p2)] ⟨[],0⟩ (fun u _=>u = .bool r∧Bel 0 u):=by
 unfold q4r at hF
 refine bg2 43 fn17 ?_
 refine go ?_
 refine RS.q rfl (q0c rfl rfl rfl (q08 q0k und31)) ?_
 refine go ?_
 refine RS.q rfl (q0c rfl rfl rfl (q08 q0k und31)) ?_
 refine go ?_
 refine cF hF (fun h3 hF=>?_) (fun h3 hF=>?_)
 exact gx hF
 refine go ?_
 refine gS (l':=[(0,_),(1,_),(5,_)]) ?_
 refine qxe (fun m tm σ=>∃ z7:Int,q38 p1 p2 n m z7=some r∧tm=fr 43 [(0,.iM q0k p1),(1,.iM q0k p2),(5,.i6 z7)]∧σ=⟨[],0⟩) (fun tm σ=>q4v=some r∧tm=fr 43 []∧σ=⟨[],0⟩) n ⟨0,hF,rfl,rfl⟩ ?_ ?_
 rintro _ _ ⟨hF,rfl,rfl⟩
 unfold q4v at hF
 exact gx hF
 rintro (_|m1) _ _ ⟨z7,hF,rfl,rfl⟩
 cases hF
 unfold q38 at hF
 refine go ?_
 refine RS.q rfl (q0c rfl rfl rfl (q08 q0k und31)) ?_
 refine go ?_
 refine cF hF (fun h8 hF=>?_) (fun h8 hF=>?_)
 refine go ?_
 refine WPU.block ?_
 obtain ⟨b22,h23,hF⟩:=q00 hF
 refine gn ?_
 refine qxf (fun tm σ=>tm=fr 43 [(0,.iM q0k p1),(1,.iM q0k p2),(5,.i6 z7),(42,.bool b22)]∧σ=⟨[],0⟩) ?_ ?_
 rintro _ _ ⟨rfl,rfl⟩
 refine go ?_
 refine cF hF (fun h24 hF=>?_) (fun h24 hF=>?_)
 exact gx hF
 refine go ?_
 exact lC ⟨_,hF,rfl,rfl⟩
 obtain ⟨x9,h10,h23⟩:=q00 h23
 obtain ⟨x11,h12,h23⟩:=q00 h23
 obtain ⟨r13,h14,h23⟩:=q00 h23
 rcases gB h23 with ⟨h15,h23⟩ | ⟨h15,h23⟩
 obtain rfl:=sI h23
 refine qxh Tryz.tb_ok [] (by kernel_rfl) ?_
 repeat refine RD.mv rfl rfl rfl rfl ?_
 refine RD.q rfl (q0g rfl rfl (q0b q0k und31 (q04 inf56) q2p h10 rfl)) (RD.q rfl (q1y und56 rfl (q04 inf33) rfl rfl) (RD.q rfl (q0e und33 rfl rfl rfl) ?_))
 repeat refine RD.mv rfl rfl rfl rfl ?_
 refine RD.q rfl (q0g rfl rfl (q0b q0k und31 (q04 inf56) q2p h12 rfl)) (RD.q rfl (q1y und56 rfl (q04 inf33) rfl rfl) (RD.q rfl (q0e und33 rfl rfl rfl) (RD.fl rfl (pC (qd4 n x9.A x11.A r13 h14)) fn47 (RD.q rfl (qr9 rfl rfl rfl rfl) (RD.mv rfl rfl rfl rfl ?_)))))
 repeat refine RD.no (qu0 rfl rfl rfl h15) rfl rfl ?_
 refine RD.q rfl (qid rfl h15 rfl) ?_
 refine RD.done ⟨by kernel_rfl,trivial,?_⟩
 refine go ?_
 exact xC ⟨rfl,rfl⟩
 obtain ⟨x16,h17,h23⟩:=q00 h23
 obtain ⟨x18,h19,h23⟩:=q00 h23
 obtain ⟨r20,h21,h23⟩:=q00 h23
 obtain rfl:=sI h23
 refine qxh Tryz.tb_ok [] (by kernel_rfl) ?_
 repeat refine RD.mv rfl rfl rfl rfl ?_
 refine RD.q rfl (q0g rfl rfl (q0b q0k und31 (q04 inf56) q2p h10 rfl)) (RD.q rfl (q1y und56 rfl (q04 inf33) rfl rfl) (RD.q rfl (q0e und33 rfl rfl rfl) ?_))
 repeat refine RD.mv rfl rfl rfl rfl ?_
 refine RD.q rfl (q0g rfl rfl (q0b q0k und31 (q04 inf56) q2p h12 rfl)) (RD.q rfl (q1y und56 rfl (q04 inf33) rfl rfl) (RD.q rfl (q0e und33 rfl rfl rfl) (RD.fl rfl (pC (qd4 n x9.A x11.A r13 h14)) fn47 (RD.q rfl (qr9 rfl rfl rfl rfl) (RD.mv rfl rfl rfl rfl (RD.w rfl (q21 rfl) (RD.w rfl (q21 rfl) ?_)))))))
 refine RD.w rfl (q0g rfl rfl (q0b q0k und31 (q04 inf56) q2p h17 rfl)) (RD.w rfl (q1y und56 rfl (q04 inf33) rfl rfl) (RD.w rfl (q0e und33 rfl rfl rfl) (RD.w rfl (q21 rfl) (RD.w rfl (q21 rfl) (RD.w rfl (q0g rfl rfl (q0b q0k und31 (q04 inf56) q2p h19 rfl)) (RD.w rfl (q1y und56 rfl (q04 inf33) rfl rfl) (RD.w rfl (q0e und33 rfl rfl rfl) ?_)))))))
 refine RD.fl rfl (pC (qd4 n x16.B x18.B r20 h21)) fn47 (RD.w rfl (qr9 rfl rfl rfl rfl) (RD.q rfl (qic rfl h15 rfl) ?_))
 refine RD.done ⟨by kernel_rfl,trivial,?_⟩
 refine go ?_
 exact xC ⟨rfl,rfl⟩
 refine go ?_
 exact xC ⟨hF,rfl,rfl⟩
def q65   : Option (Bool) :=
 some true
def q47 (p1:List Int) (p2:List Int):Nat→Int→Option (Bool)
 | 0,_=>none
 | m1+1,z7 =>
  cond (decide (z7<(p1.length:Int)))
   (q03 (q13 p1 z7) fun x9 =>
   q03 (q13 p2 z7) fun x11 =>
   cond (x9 != x11)
    (some false)
    ((q47 p1 p2 m1) (IntKind.i64.wrap (z7+1))))
   (q65)
def q6j (n:Nat) (p1:List Int) (p2:List Int):Option (Bool) :=
 cond ((p1.length:Int) != (p2.length:Int))
  (some false)
  (q47 p1 p2 n 0)
theorem q3d (n:Nat) (p1:List Int) (p2:List Int) (r:Bool) (hF:q6j n p1 p2=some r):EvU Tryz.prog 28 [.isl false (List.map (cI .i64) p1),.isl false (List.map (cI .i64) p2)] ⟨[],0⟩ (fun u _=>u = .bool r∧Bel 0 u):=by
 unfold q6j at hF
 refine bg2 26 fn28 ?_
 refine go ?_
 refine RS.q rfl (q0c rfl rfl rfl (q08 (cI .i64) und33)) ?_
 refine go ?_
 refine RS.q rfl (q0c rfl rfl rfl (q08 (cI .i64) und33)) ?_
 refine go ?_
 refine cF hF (fun h3 hF=>?_) (fun h3 hF=>?_)
 exact gx hF
 refine go ?_
 refine gS (l':=[(0,_),(1,_),(5,_)]) ?_
 refine qxe (fun m tm σ=>∃ z7:Int,q47 p1 p2 m z7=some r∧tm=fr 26 [(0,.iM (cI .i64) p1),(1,.iM (cI .i64) p2),(5,.i6 z7)]∧σ=⟨[],0⟩) (fun tm σ=>q65=some r∧tm=fr 26 []∧σ=⟨[],0⟩) n ⟨0,hF,rfl,rfl⟩ ?_ ?_
 rintro _ _ ⟨hF,rfl,rfl⟩
 unfold q65 at hF
 exact gx hF
 rintro (_|m1) _ _ ⟨z7,hF,rfl,rfl⟩
 cases hF
 unfold q47 at hF
 refine go ?_
 refine RS.q rfl (q0c rfl rfl rfl (q08 (cI .i64) und33)) ?_
 refine go ?_
 refine cF hF (fun h8 hF=>?_) (fun h8 hF=>?_)
 refine go ?_
 refine WPU.block ?_
 obtain ⟨x9,h10,hF⟩:=q00 hF
 obtain ⟨x11,h12,hF⟩:=q00 hF
 refine go ?_
 refine qxh Tryz.tb_ok [] (by kernel_rfl) ?_
 repeat refine RD.mv rfl rfl rfl rfl ?_
 refine RD.q rfl (q0g rfl rfl (q0b (cI .i64) und33 (q04 inf3) (q19 .i64) h10 rfl)) (RD.q rfl (q0e und3 rfl rfl rfl) ?_)
 repeat refine RD.mv rfl rfl rfl rfl ?_
 refine RD.q rfl (q0g rfl rfl (q0b (cI .i64) und33 (q04 inf3) (q19 .i64) h12 rfl)) (RD.q rfl (q0e und3 rfl rfl rfl) (RD.q rfl (q35 rfl rfl (qng _ _ _) rfl) ?_))
 refine RD.done ⟨by kernel_rfl,trivial,?_⟩
 refine go ?_
 refine cF hF (fun h13 hF=>?_) (fun h13 hF=>?_)
 exact gx hF
 refine go ?_
 exact lC ⟨_,hF,rfl,rfl⟩
 refine go ?_
 exact xC ⟨hF,rfl,rfl⟩
def q5k   : Option (Bool) :=
 some true
def q3u (p1:List (List Int)) (p2:List (List Int)) (n:Nat):Nat→Int→Option (Bool)
 | 0,_=>none
 | m1+1,z7 =>
  cond (decide (z7<(p1.length:Int)))
   (q03 (q13 p1 z7) fun x9 =>
   q03 (q13 p2 z7) fun x11 =>
   q03 (q6j n x9 x11) fun r13 =>
   cond (!r13)
    (some false)
    ((q3u p1 p2 n m1) (IntKind.i64.wrap (z7+1))))
   (q5k)
def q8n (n:Nat) (p1:List (List Int)) (p2:List (List Int)):Option (Bool) :=
 cond ((p1.length:Int) != (p2.length:Int))
  (some false)
  (q3u p1 p2 n n 0)
theorem q66 (n:Nat) (p1:List (List Int)) (p2:List (List Int)) (r:Bool) (hF:q8n n p1 p2=some r):EvU Tryz.prog 14 [.isl false (List.map (cL (cI .i64)) p1),.isl false (List.map (cL (cI .i64)) p2)] ⟨[],0⟩ (fun u _=>u = .bool r∧Bel 0 u):=by
 unfold q8n at hF
 refine bg2 27 fn14 ?_
 refine go ?_
 refine RS.q rfl (q0c rfl rfl rfl (q08 (cL (cI .i64)) und28)) ?_
 refine go ?_
 refine RS.q rfl (q0c rfl rfl rfl (q08 (cL (cI .i64)) und28)) ?_
 refine go ?_
 refine cF hF (fun h3 hF=>?_) (fun h3 hF=>?_)
 exact gx hF
 refine go ?_
 refine gS (l':=[(0,_),(1,_),(5,_)]) ?_
 refine qxe (fun m tm σ=>∃ z7:Int,q3u p1 p2 n m z7=some r∧tm=fr 27 [(0,.iM (cL (cI .i64)) p1),(1,.iM (cL (cI .i64)) p2),(5,.i6 z7)]∧σ=⟨[],0⟩) (fun tm σ=>q5k=some r∧tm=fr 27 []∧σ=⟨[],0⟩) n ⟨0,hF,rfl,rfl⟩ ?_ ?_
 rintro _ _ ⟨hF,rfl,rfl⟩
 unfold q5k at hF
 exact gx hF
 rintro (_|m1) _ _ ⟨z7,hF,rfl,rfl⟩
 cases hF
 unfold q3u at hF
 refine go ?_
 refine RS.q rfl (q0c rfl rfl rfl (q08 (cL (cI .i64)) und28)) ?_
 refine go ?_
 refine cF hF (fun h8 hF=>?_) (fun h8 hF=>?_)
 refine go ?_
 refine WPU.block ?_
 obtain ⟨x9,h10,hF⟩:=q00 hF
 obtain ⟨x11,h12,hF⟩:=q00 hF
 obtain ⟨r13,h14,hF⟩:=q00 hF
 refine go ?_
 refine qxh Tryz.tb_ok [] (by kernel_rfl) ?_
 repeat refine RD.mv rfl rfl rfl rfl ?_
 refine RD.q rfl (q0g rfl rfl (q0b (cL (cI .i64)) und28 (q04 inf33) (q3c (cI .i64)) h10 rfl)) (RD.q rfl (q0e und33 rfl rfl rfl) ?_)
 repeat refine RD.mv rfl rfl rfl rfl ?_
 refine RD.q rfl (q0g rfl rfl (q0b (cL (cI .i64)) und28 (q04 inf33) (q3c (cI .i64)) h12 rfl)) (RD.q rfl (q0e und33 rfl rfl rfl) (RD.fl rfl (pC (q3d n x9 x11 r13 h14)) fn28 (RD.q rfl (qr9 rfl rfl rfl rfl) ?_)))
 refine RD.done ⟨by kernel_rfl,trivial,?_⟩
 refine go ?_
 refine cF hF (fun h15 hF=>?_) (fun h15 hF=>?_)
 exact gx hF
 refine go ?_
 exact lC ⟨_,hF,rfl,rfl⟩
 refine go ?_
 exact xC ⟨hF,rfl,rfl⟩
def qa6   : Option (Int) :=
 some 0
def q6u (p1:List q05):Nat→Int→Option (Int)
 | 0,_=>none
 | m1+1,z5 =>
  cond (decide (z5<(p1.length:Int)))
   (q03 (q03 (q13 p1 z5) fun x7 =>
   cond (decide ((x7.Supers.length:Int) > 256))
    (some true)
    (q03 (q13 p1 z5) fun x10 =>
    some (decide ((x10.Feats.length:Int) > 256)))) fun b12 =>
   cond b12
    (some 7)
    ((q6u p1 m1) (IntKind.i64.wrap (z5+1))))
   (qa6)
def qes (n:Nat) (p1:List q05):Option (Int) :=
 cond (decide ((p1.length:Int) > 256))
  (some 7)
  (q6u p1 n 0)
theorem qmd (n:Nat) (p1:List q05) (r:Int) (hF:qes n p1=some r):EvU Tryz.prog 121 [.isl false (List.map q01 p1)] ⟨[],0⟩ (fun u _=>u = .int .i64 r∧Bel 0 u):=by
 unfold qes at hF
 refine bg1 29 fn121 ?_
 refine go ?_
 refine RS.q rfl (q0c rfl rfl rfl (q08 q01 und38)) ?_
 refine go ?_
 refine cF hF (fun h2 hF=>?_) (fun h2 hF=>?_)
 exact gx hF
 refine go ?_
 refine gS (l':=[(0,_),(3,_)]) ?_
 refine qxe (fun m tm σ=>∃ z5:Int,q6u p1 m z5=some r∧tm=fr 29 [(0,.iM q01 p1),(3,.i6 z5)]∧σ=⟨[],0⟩) (fun tm σ=>qa6=some r∧tm=fr 29 []∧σ=⟨[],0⟩) n ⟨0,hF,rfl,rfl⟩ ?_ ?_
 rintro _ _ ⟨hF,rfl,rfl⟩
 unfold qa6 at hF
 exact gx hF
 rintro (_|m1) _ _ ⟨z5,hF,rfl,rfl⟩
 cases hF
 unfold q6u at hF
 refine go ?_
 refine RS.q rfl (q0c rfl rfl rfl (q08 q01 und38)) ?_
 refine go ?_
 refine cF hF (fun h6 hF=>?_) (fun h6 hF=>?_)
 refine go ?_
 refine WPU.block ?_
 obtain ⟨b12,h13,hF⟩:=q00 hF
 refine gn ?_
 refine qxf (fun tm σ=>tm=fr 29 [(0,.iM q01 p1),(3,.i6 z5),(28,.bool b12)]∧σ=⟨[],0⟩) ?_ ?_
 rintro _ _ ⟨rfl,rfl⟩
 refine go ?_
 refine cF hF (fun h14 hF=>?_) (fun h14 hF=>?_)
 exact gx hF
 refine go ?_
 exact lC ⟨_,hF,rfl,rfl⟩
 obtain ⟨x7,h8,h13⟩:=q00 h13
 rcases gB h13 with ⟨h9,h13⟩ | ⟨h9,h13⟩
 obtain rfl:=sI h13
 refine go ?_
 refine RS.q rfl (q0g rfl rfl (q0b q01 und38 (q04 inf127) q0h h8 rfl)) (RS.q rfl (q1y und127 rfl (q04 inf80) rfl rfl) (RS.q rfl (q0e und80 rfl rfl rfl) (RS.q rfl (q0c rfl rfl rfl (q08 cS und80)) ?_)))
 refine go ?_
 exact xC ⟨rfl,rfl⟩
 obtain ⟨x10,h11,h13⟩:=q00 h13
 obtain rfl:=sI h13
 refine go ?_
 refine RS.q rfl (q0g rfl rfl (q0b q01 und38 (q04 inf127) q0h h8 rfl)) (RS.q rfl (q1y und127 rfl (q04 inf80) rfl rfl) (RS.q rfl (q0e und80 rfl rfl rfl) (RS.q rfl (q0c rfl rfl rfl (q08 cS und80)) ?_)))
 refine go ?_
 refine RS.w rfl (q0g rfl rfl (q0b q01 und38 (q04 inf127) q0h h11 rfl)) (RS.w rfl (q1y und127 rfl (q04 inf125) rfl rfl) (RS.w rfl (q0e und125 rfl rfl rfl) (RS.w rfl (q0c rfl rfl rfl (q08 q0d und125)) ?_)))
 refine go ?_
 exact xC ⟨rfl,rfl⟩
 refine go ?_
 exact xC ⟨hF,rfl,rfl⟩
def qh2 (n:Nat) (p1:List UInt8):Option (Bool) :=
 q03 (qbg n p1 false) fun r2 =>
 some r2
theorem qnv (n:Nat) (p1:List UInt8) (r:Bool) (hF:qh2 n p1=some r):EvU Tryz.prog 147 [.str p1] ⟨[],0⟩ (fun u _=>u = .bool r∧Bel 0 u):=by
 unfold qh2 at hF
 refine bg1 5 fn147 ?_
 obtain ⟨r2,h3,hF⟩:=q00 hF
 refine go ?_
 refine RS.cl rfl (pC (qft n p1 false r2 h3) _) fn81 ?_
 exact gx hF
def qbn   : Option (Int) :=
 some (-1)
def q82 (p1:List q05) (p2:List UInt8):Nat→Int→Option (Int)
 | 0,_=>none
 | m1+1,z6 =>
  cond (decide (z6<(p1.length:Int)))
   (q03 (q13 p1 z6) fun x8 =>
   cond (q1c x8.Name p2)
    (some z6)
    ((q82 p1 p2 m1) (IntKind.i64.wrap (z6+1))))
   (qbn)
def q55 (n:Nat) (p1:List q05) (p2:List UInt8):Option (Int) :=
 q82 p1 p2 n 0
theorem q56 (n:Nat) (p1:List q05) (p2:List UInt8) (r:Int) (hF:q55 n p1 p2=some r):EvU Tryz.prog 148 [.isl false (List.map q01 p1),.str p2] ⟨[],0⟩ (fun u _=>u = .int .i64 r∧Bel 0 u):=by
 unfold q55 at hF
 refine bg2 20 fn148 ?_
 refine go ?_
 refine gS (l':=[(0,_),(1,_),(5,_)]) ?_
 refine qxe (fun m tm σ=>∃ z6:Int,q82 p1 p2 m z6=some r∧tm=fr 20 [(0,.iM q01 p1),(1,.str p2),(5,.i6 z6)]∧σ=⟨[],0⟩) (fun tm σ=>qbn=some r∧tm=fr 20 []∧σ=⟨[],0⟩) n ⟨0,hF,rfl,rfl⟩ ?_ ?_
 rintro _ _ ⟨hF,rfl,rfl⟩
 unfold qbn at hF
 exact gx hF
 rintro (_|m1) _ _ ⟨z6,hF,rfl,rfl⟩
 cases hF
 unfold q82 at hF
 refine go ?_
 refine RS.q rfl (q0c rfl rfl rfl (q08 q01 und38)) ?_
 refine go ?_
 refine cF hF (fun h7 hF=>?_) (fun h7 hF=>?_)
 refine go ?_
 refine WPU.block ?_
 obtain ⟨x8,h9,hF⟩:=q00 hF
 refine go ?_
 refine RS.q rfl (q0g rfl rfl (q0b q01 und38 (q04 inf127) q0h h9 rfl)) (RS.q rfl (q1y und127 rfl (q04 inf9) rfl rfl) (RS.q rfl (q0e und9 rfl rfl rfl) ?_))
 refine go ?_
 refine RS.q (u:=.bool (q1c x8.Name p2)) rfl (q50 rfl rfl rfl rfl) ?_
 refine go ?_
 refine cF hF (fun h10 hF=>?_) (fun h10 hF=>?_)
 exact gx hF
 refine go ?_
 exact lC ⟨_,hF,rfl,rfl⟩
 refine go ?_
 exact xC ⟨hF,rfl,rfl⟩
def qa4   : Option (Int) :=
 some 0
def q6s (p1:List q05) (n:Nat):Nat→Int→Option (Int)
 | 0,_=>none
 | m1+1,z4 =>
  cond (decide (z4<(p1.length:Int)))
   (q03 (q13 p1 z4) fun x6 =>
   q03 (qh2 n x6.Name) fun r8 =>
   cond (!r8)
    (some 1)
    (q03 (q13 p1 z4) fun x11 =>
    q03 (q55 n p1 x11.Name) fun r13 =>
    cond (decide (r13<z4))
     (some 4)
     ((q6s p1 n m1) (IntKind.i64.wrap (z4+1)))))
   (qa4)
def qeq (n:Nat) (p1:List q05):Option (Int) :=
 q6s p1 n n 0
theorem qmb (n:Nat) (p1:List q05) (r:Int) (hF:qeq n p1=some r):EvU Tryz.prog 122 [.isl false (List.map q01 p1)] ⟨[],0⟩ (fun u _=>u = .int .i64 r∧Bel 0 u):=by
 unfold qeq at hF
 refine bg1 26 fn122 ?_
 refine go ?_
 refine gS (l':=[(0,_),(3,_)]) ?_
 refine qxe (fun m tm σ=>∃ z4:Int,q6s p1 n m z4=some r∧tm=fr 26 [(0,.iM q01 p1),(3,.i6 z4)]∧σ=⟨[],0⟩) (fun tm σ=>qa4=some r∧tm=fr 26 []∧σ=⟨[],0⟩) n ⟨0,hF,rfl,rfl⟩ ?_ ?_
 rintro _ _ ⟨hF,rfl,rfl⟩
 unfold qa4 at hF
 exact gx hF
 rintro (_|m1) _ _ ⟨z4,hF,rfl,rfl⟩
 cases hF
 unfold q6s at hF
 refine go ?_
 refine RS.q rfl (q0c rfl rfl rfl (q08 q01 und38)) ?_
 refine go ?_
 refine cF hF (fun h5 hF=>?_) (fun h5 hF=>?_)
 refine go ?_
 refine WPU.block ?_
 obtain ⟨x6,h7,hF⟩:=q00 hF
 obtain ⟨r8,h9,hF⟩:=q00 hF
 refine go ?_
 refine RS.q rfl (q0g rfl rfl (q0b q01 und38 (q04 inf127) q0h h7 rfl)) (RS.q rfl (q1y und127 rfl (q04 inf9) rfl rfl) (RS.q rfl (q0e und9 rfl rfl rfl) (RS.cl rfl (pC (qnv n x6.Name r8 h9) _) fn147 ?_)))
 refine go ?_
 refine cF hF (fun h10 hF=>?_) (fun h10 hF=>?_)
 exact gx hF
 obtain ⟨x11,h12,hF⟩:=q00 hF
 obtain ⟨r13,h14,hF⟩:=q00 hF
 refine go ?_
 refine RS.q rfl (q0g rfl rfl (q0b q01 und38 (q04 inf127) q0h h12 rfl)) (RS.q rfl (q1y und127 rfl (q04 inf9) rfl rfl) (RS.q rfl (q0e und9 rfl rfl rfl) (RS.cl rfl (pC (q56 n p1 x11.Name r13 h14) _) fn148 ?_)))
 refine go ?_
 refine cF hF (fun h15 hF=>?_) (fun h15 hF=>?_)
 exact gx hF
 refine go ?_
 exact lC ⟨_,hF,rfl,rfl⟩
 refine go ?_
 exact xC ⟨hF,rfl,rfl⟩
def q9x   : Option (Bool) :=
 some false
def q6n (p1:List (List UInt8)) (p2:List UInt8):Nat→Int→Option (Bool)
 | 0,_=>none
 | m1+1,z6 =>
  cond (decide (z6<(p1.length:Int)))
   (q03 (q13 p1 z6) fun x8 =>
   cond (q1c x8 p2)
    (some true)
    ((q6n p1 p2 m1) (IntKind.i64.wrap (z6+1))))
   (q9x)
def q2e (n:Nat) (p1:List (List UInt8)) (p2:List UInt8):Option (Bool) :=
 q6n p1 p2 n 0
theorem q1s (n:Nat) (p1:List (List UInt8)) (p2:List UInt8) (r:Bool) (hF:q2e n p1 p2=some r):EvU Tryz.prog 126 [.isl false (List.map cS p1),.str p2] ⟨[],0⟩ (fun u _=>u = .bool r∧Bel 0 u):=by
 unfold q2e at hF
 refine bg2 18 fn126 ?_
 refine go ?_
 refine gS (l':=[(0,_),(1,_),(5,_)]) ?_
 refine qxe (fun m tm σ=>∃ z6:Int,q6n p1 p2 m z6=some r∧tm=fr 18 [(0,.iM cS p1),(1,.str p2),(5,.i6 z6)]∧σ=⟨[],0⟩) (fun tm σ=>q9x=some r∧tm=fr 18 []∧σ=⟨[],0⟩) n ⟨0,hF,rfl,rfl⟩ ?_ ?_
 rintro _ _ ⟨hF,rfl,rfl⟩
 unfold q9x at hF
 exact gx hF
 rintro (_|m1) _ _ ⟨z6,hF,rfl,rfl⟩
 cases hF
 unfold q6n at hF
 refine go ?_
 refine RS.q rfl (q0c rfl rfl rfl (q08 cS und80)) ?_
 refine go ?_
 refine cF hF (fun h7 hF=>?_) (fun h7 hF=>?_)
 refine go ?_
 refine WPU.block ?_
 obtain ⟨x8,h9,hF⟩:=q00 hF
 refine go ?_
 refine RS.q rfl (q0g rfl rfl (q0b cS und80 (q04 inf9) q1b h9 rfl)) (RS.q rfl (q0e und9 rfl rfl rfl) ?_)
 refine go ?_
 refine RS.q (u:=.bool (q1c x8 p2)) rfl (q50 rfl rfl rfl rfl) ?_
 refine go ?_
 refine cF hF (fun h10 hF=>?_) (fun h10 hF=>?_)
 exact gx hF
 refine go ?_
 exact lC ⟨_,hF,rfl,rfl⟩
 refine go ?_
 exact xC ⟨hF,rfl,rfl⟩
def q8r (z4:Int) (rc1:Int→Option (Int))  : Option (Int) :=
 rc1 (IntKind.i64.wrap (z4+1))
def q5n (p1:List q05) (n:Nat) (z4:Int) (rc1:Int→Option (Int)) (x6:q05):Nat→Int→Option (Int)
 | 0,_=>none
 | m2+1,z12 =>
  cond (decide (z12<(x6.Supers.length:Int)))
   (q03 (q13 x6.Supers z12) fun x14 =>
   q03 (q55 n p1 x14) fun r16 =>
   cond (decide (r16<0))
    (some 5)
    (q03 (qvo x6.Supers 0 z12) fun l19 =>
    q03 (q13 x6.Supers z12) fun x23 =>
    q03 (q2e n l19 x23) fun r25 =>
    cond r25
     (some 4)
     ((q5n p1 n z4 rc1 x6 m2) (IntKind.i64.wrap (z12+1)))))
   (q8r z4 rc1)
def q8q   : Option (Int) :=
 some 0
def q30 (p1:List q05) (n:Nat):Nat→Int→Option (Int)
 | 0,_=>none
 | m1+1,z4 =>
  cond (decide (z4<(p1.length:Int)))
   (q03 (q13 p1 z4) fun x6 =>
   q5n p1 n z4 (q30 p1 n m1) x6 n 0)
   (q8q)
def qcv (n:Nat) (p1:List q05):Option (Int) :=
 q30 p1 n n 0
theorem qkm (n:Nat) (p1:List q05) (r:Int) (hF:qcv n p1=some r):EvU Tryz.prog 123 [.isl false (List.map q01 p1)] ⟨[],0⟩ (fun u _=>u = .int .i64 r∧Bel 0 u):=by
 unfold qcv at hF
 refine bg1 38 fn123 ?_
 refine go ?_
 refine gS (l':=[(0,_),(3,_)]) ?_
 refine qxe (fun m tm σ=>∃ z4:Int,q30 p1 n m z4=some r∧tm=fr 38 [(0,.iM q01 p1),(3,.i6 z4)]∧σ=⟨[],0⟩) (fun tm σ=>q8q=some r∧tm=fr 38 []∧σ=⟨[],0⟩) n ⟨0,hF,rfl,rfl⟩ ?_ ?_
 rintro _ _ ⟨hF,rfl,rfl⟩
 unfold q8q at hF
 exact gx hF
 rintro (_|m1) _ _ ⟨z4,hF,rfl,rfl⟩
 cases hF
 unfold q30 at hF
 refine go ?_
 refine RS.q rfl (q0c rfl rfl rfl (q08 q01 und38)) ?_
 refine go ?_
 refine cF hF (fun h5 hF=>?_) (fun h5 hF=>?_)
 refine go ?_
 refine WPU.block ?_
 obtain ⟨x6,h7,hF⟩:=q00 hF
 refine go ?_
 refine RS.q rfl (q0g rfl rfl (q0b q01 und38 (q04 inf127) q0h h7 rfl)) (RS.q rfl (q1y und127 rfl (q04 inf80) rfl rfl) (RS.q rfl (q0e und80 rfl rfl rfl) ?_))
 refine go ?_
 refine gS (l':=[(0,_),(3,_),(4,_),(5,_)]) ?_
 refine qxe (fun m tm σ=>∃ z12:Int,q5n p1 n z4 (q30 p1 n m1) x6 m z12=some r∧tm=fr 38 [(0,.iM q01 p1),(3,.i6 z4),(4,.iM cS x6.Supers),(5,.i6 z12)]∧σ=⟨[],0⟩) (fun tm σ=>q8r z4 (q30 p1 n m1)=some r∧tm=fr 38 [(0,.iM q01 p1),(3,.i6 z4)]∧σ=⟨[],0⟩) n ⟨0,hF,rfl,rfl⟩ ?_ ?_
 rintro _ _ ⟨hF,rfl,rfl⟩
 unfold q8r at hF
 refine go ?_
 exact lC ⟨_,hF,rfl,rfl⟩
 rintro (_|m2) _ _ ⟨z12,hF,rfl,rfl⟩
 cases hF
 unfold q5n at hF
 refine go ?_
 refine RS.q rfl (q0c rfl rfl rfl (q08 cS und80)) ?_
 refine go ?_
 refine cF hF (fun h13 hF=>?_) (fun h13 hF=>?_)
 refine go ?_
 refine WPU.block ?_
 obtain ⟨x14,h15,hF⟩:=q00 hF
 obtain ⟨r16,h17,hF⟩:=q00 hF
 refine go ?_
 refine RS.q rfl (q0g rfl rfl (q0b cS und80 (q04 inf9) q1b h15 rfl)) (RS.q rfl (q0e und9 rfl rfl rfl) (RS.cl rfl (pC (q56 n p1 x14 r16 h17) _) fn148 ?_))
 refine go ?_
 refine cF hF (fun h18 hF=>?_) (fun h18 hF=>?_)
 exact gx hF
 obtain ⟨l19,h20,hF⟩:=q00 hF
 obtain ⟨h21,h22⟩:=qs6 cS .i64 h20
 obtain ⟨x23,h24,hF⟩:=q00 hF
 obtain ⟨r25,h26,hF⟩:=q00 hF
 refine go ?_
 refine qxh Tryz.tb_ok [] (by kernel_rfl) ?_
 repeat refine RD.mv rfl rfl rfl rfl ?_
 refine RD.q (u:=.iM cS l19) rfl (qdh rfl qrj (em_s rfl) qrj (qqk cS und80 (q04 inf9) q1b h21 h22)) ?_
 repeat refine RD.mv rfl rfl rfl rfl ?_
 refine RD.q rfl (q0g rfl rfl (q0b cS und80 (q04 inf9) q1b h24 rfl)) (RD.q rfl (q0e und9 rfl rfl rfl) (RD.fl rfl (pC (q1s n l19 x23 r25 h26)) fn126 ?_))
 refine RD.done ⟨by kernel_rfl,trivial,?_⟩
 refine go ?_
 refine cF hF (fun h27 hF=>?_) (fun h27 hF=>?_)
 exact gx hF
 refine go ?_
 exact lC ⟨_,hF,rfl,rfl⟩
 refine go ?_
 exact xC ⟨hF,rfl,rfl⟩
 refine go ?_
 exact xC ⟨hF,rfl,rfl⟩
def qa5   : Option (Bool) :=
 some true
def q6t (p1:q05) (p2:List (List UInt8)) (n:Nat):Nat→Int→Option (Bool)
 | 0,_=>none
 | m1+1,z8 =>
  cond (decide (z8<(p1.Supers.length:Int)))
   (q03 (q13 p1.Supers z8) fun x10 =>
   q03 (q2e n p2 x10) fun r12 =>
   cond (!r12)
    (some false)
    ((q6t p1 p2 n m1) (IntKind.i64.wrap (z8+1))))
   (qa5)
def qer (n:Nat) (p1:q05) (p2:List (List UInt8)):Option (Bool) :=
 q6t p1 p2 n n 0
theorem qmc (n:Nat) (p1:q05) (p2:List (List UInt8)) (r:Bool) (hF:qer n p1 p2=some r):EvU Tryz.prog 149 [.agg (q01 p1),.isl false (List.map cS p2)] ⟨[],0⟩ (fun u _=>u = .bool r∧Bel 0 u):=by
 unfold qer at hF
 refine bg2 21 fn149 ?_
 refine go ?_
 refine RS.q (u:=.ptr 0 0 0) (σ':=⟨[(0,.row (q01 p1) 127)],1⟩) rfl (q5i rfl rfl rfl) ?_
 refine go ?_
 refine gS (l':=[(1,_),(2,_),(5,_)]) ?_
 refine qxe (fun m tm σ=>∃ z8:Int,q6t p1 p2 n m z8=some r∧tm=fr 21 [(1,.iM cS p2),(2,.ptr 0 0 0),(5,.i6 z8)]∧σ=⟨[(0,.row (q01 p1) 127)],1⟩) (fun tm σ=>qa5=some r∧tm=fr 21 []∧σ=⟨[(0,.row (q01 p1) 127)],1⟩) n ⟨0,hF,rfl,rfl⟩ ?_ ?_
 rintro _ _ ⟨hF,rfl,rfl⟩
 unfold qa5 at hF
 exact gx hF
 rintro (_|m1) _ _ ⟨z8,hF,rfl,rfl⟩
 cases hF
 unfold q6t at hF
 refine go ?_
 refine RS.q rfl (q1t und127 rfl (q04 inf80) rfl rfl rfl) (RS.q rfl (q18 und80 rfl rfl rfl rfl) (RS.q rfl (q0c rfl rfl rfl (q08 cS und80)) ?_))
 refine go ?_
 refine cF hF (fun h9 hF=>?_) (fun h9 hF=>?_)
 refine go ?_
 refine WPU.block ?_
 obtain ⟨x10,h11,hF⟩:=q00 hF
 obtain ⟨r12,h13,hF⟩:=q00 hF
 refine go ?_
 refine RS.q rfl (q1t und127 rfl (q04 inf80) rfl rfl rfl) (RS.q rfl (q18 und80 rfl rfl rfl rfl) ?_)
 refine go ?_
 refine RS.q rfl (q0g rfl rfl (q0b cS und80 (q04 inf9) q1b h11 rfl)) (RS.q rfl (q0e und9 rfl rfl rfl) (RS.cl rfl (pC (q1s n p2 x10 r12 h13) _) fn126 ?_))
 refine go ?_
 refine cF hF (fun h14 hF=>?_) (fun h14 hF=>?_)
 exact gx hF
 refine go ?_
 exact lC ⟨_,hF,rfl,rfl⟩
 refine go ?_
 exact xC ⟨hF,rfl,rfl⟩
def q5l (rc1:Bool→(List (List UInt8))→Option ((List (List UInt8)))) (b21:Bool) (l24:List (List UInt8)):Option ((List (List UInt8))) :=
 rc1 b21 l24
def q5m (z20:Int) (rc2:Bool→(List UInt8)→Int→Option ((List (List UInt8)))) (s46:List UInt8):Option ((List (List UInt8))) :=
 rc2 true s46 (IntKind.i64.wrap (z20+1))
def q8p (l7:List (List UInt8)) (rc1:Bool→(List (List UInt8))→Option ((List (List UInt8)))) (b21:Bool) (s22:List UInt8):Option ((List (List UInt8))) :=
 cond b21
  (q16 ((l7.length+1)*16≤140737488355328∧l7.length+1≤140737488355328) (
  q5l rc1 b21 (l7++[s22])))
  (q5l rc1 b21 l7)
def q2f (p1:List q05) (n:Nat) (l7:List (List UInt8)) (rc1:Bool→(List (List UInt8))→Option ((List (List UInt8)))):Nat→Bool→(List UInt8)→Int→Option ((List (List UInt8)))
 | 0,_,_,_=>none
 | m2+1,b18,s19,z20 =>
  cond (decide (z20<(p1.length:Int)))
   (q03 (q03 (q13 p1 z20) fun x28 =>
   q03 (q2e n l7 x28.Name) fun r30 =>
   cond r30
    (some true)
    (q03 (q13 p1 z20) fun x33 =>
    q03 (qer n x33 l7) fun r35 =>
    some (!r35))) fun b37 =>
   cond b37
    ((q2f p1 n l7 rc1 m2) b18 s19 (IntKind.i64.wrap (z20+1)))
    (q03 (cond (!b18)
     (some true)
     (q03 (q13 p1 z20) fun x41 =>
     some (q4t x41.Name s19))) fun b43 =>
    cond b43
     (q03 (q13 p1 z20) fun x47 =>
     q5m z20 (q2f p1 n l7 rc1 m2) x47.Name)
     (q5m z20 (q2f p1 n l7 rc1 m2) s19)))
   (q8p l7 rc1 b18 s19)
def q8o  (l9:List (List UInt8)):Option ((List (List UInt8))) :=
 some l9
def q22 (p1:List q05) (n:Nat):Nat→Bool→(List (List UInt8))→Option ((List (List UInt8)))
 | 0,_,_=>none
 | m1+1,b6,l7 =>
  cond b6
   (q2f p1 n l7 (q22 p1 n m1) n false [] 0)
   (q8o l7)
def qcu (n:Nat) (p1:List q05):Option ((List (List UInt8))) :=
 q22 p1 n n true ([]:List (List UInt8))
theorem qkl (n:Nat) (p1:List q05) (r:(List (List UInt8))) (hF:qcu n p1=some r):EvU Tryz.prog 124 [.isl false (List.map q01 p1)] ⟨[],0⟩ (fun u _=>u = .isl false (List.map cS r)∧Bel 0 u):=by
 unfold qcu at hF
 refine bg1 52 fn124 ?_
 refine gr ?_
 refine gr ?_
 refine gr ?_
 refine WPU.ghost (tm':=fr 52 [(0,.iM q01 p1),(3,.vl 0 0 0 (([]:List (List UInt8)).length)),(4,.bool true)]) (σ':=⟨[(0,.vec (List.map cS ([]:List (List UInt8))).flatten 9 1 0)],1⟩) (Gh.trans (qxl 3 9 1 (by decide) NZ rfl rfl) (qxk ⟨rfl,rfl,rfl,trivial⟩ rfl)) NZ ?_
 refine gS (l':=[(0,_),(3,_),(4,_)]) ?_
 refine qxe (fun m tm σ=>∃ b6:Bool,∃ l7:List (List UInt8),∃ t8:Nat,q22 p1 n m b6 l7=some r∧tm=fr 52 [(0,.iM q01 p1),(3,.vl 0 t8 0 l7.length),(4,.bool b6)]∧σ=⟨[(0,.vec (List.map cS l7).flatten 9 1 t8)],1⟩) (fun tm σ=>∃ l9:List (List UInt8),∃ t10:Nat,q8o l9=some r∧tm=fr 52 [(3,.vl 0 t10 0 l9.length)]∧σ=⟨[(0,.vec (List.map cS l9).flatten 9 1 t10)],1⟩) n ⟨true,([]:List (List UInt8)),0,hF,rfl,rfl⟩ ?_ ?_
 rintro _ _ ⟨l9,t10,hF,rfl,rfl⟩
 unfold q8o at hF
 refine go ?_
 obtain rfl:=sI hF
 exact rT (us:=[.vl 0 t10 0 l9.length]) (u:=.iM cS l9) (q2j rfl (q33)) (fR 0 1)
 rintro (_|m1) _ _ ⟨b6,l7,t8,hF,rfl,rfl⟩
 cases hF
 unfold q22 at hF
 refine go ?_
 refine cF hF (fun h11 hF=>?_) (fun h11 hF=>?_)
 refine go ?_
 refine WPU.block ?_
 refine go ?_
 refine gS (l':=[(0,_),(3,_),(4,_),(5,_),(6,_)]) ?_
 refine qxe (fun m tm σ=>∃ b18:Bool,∃ s19:List UInt8,∃ z20:Int,q2f p1 n l7 (q22 p1 n m1) m b18 s19 z20=some r∧tm=fr 52 [(0,.iM q01 p1),(3,.vl 0 t8 0 l7.length),(4,.bool b18),(5,.str s19),(6,.i6 z20)]∧σ=⟨[(0,.vec (List.map cS l7).flatten 9 1 t8)],1⟩) (fun tm σ=>∃ b21:Bool,∃ s22:List UInt8,q8p l7 (q22 p1 n m1) b21 s22=some r∧tm=fr 52 [(0,.iM q01 p1),(3,.vl 0 t8 0 l7.length),(4,.bool b21),(5,.str s22)]∧σ=⟨[(0,.vec (List.map cS l7).flatten 9 1 t8)],1⟩) n ⟨false,[],0,hF,rfl,rfl⟩ ?_ ?_
 rintro _ _ ⟨b21,s22,hF,rfl,rfl⟩
 unfold q8p at hF
 refine gr ?_
 refine qxf (fun tm σ=>∃ l24:List (List UInt8),∃ t25:Nat,q5l (q22 p1 n m1) b21 l24=some r∧tm=fr 52 [(0,.iM q01 p1),(3,.vl 0 t25 0 l24.length),(4,.bool b21)]∧σ=⟨[(0,.vec (List.map cS l24).flatten 9 1 t25)],1⟩) ?_ ?_
 rintro _ _ ⟨l24,t25,hF,rfl,rfl⟩
 unfold q5l at hF
 refine go ?_
 exact lC ⟨b21,l24,t25,hF,rfl,rfl⟩
 refine cF hF (fun h23 hF=>?_) (fun h23 hF=>?_)
 obtain ⟨h26,hF⟩:=q0a hF
 refine go ?_
 refine RS.q (u:=.sl 1 0 1 1) (σ':=⟨[(1,.row [.str s22] 9),(0,.vec (List.map cS l7).flatten 9 1 t8)],2⟩) rfl (q0i und80 inf9 rfl rfl rfl rfl rfl rfl rfl) (RS.q (u:=.vl 0 (t8+1) 0 ((l7++[s22]).length)) (σ':=⟨[(1,.row [.str s22] 9),(0,.vec (List.map cS (l7++[s22])).flatten 9 1 (t8+1))],2⟩) rfl (q1o rfl rfl rfl rfl (q20 cS ([s22]) und80 und80 inf9 rfl q1b rfl (q1k cS [s22] rfl rfl rfl rfl) h26)) ?_)
 refine go ?_
 exact xC ⟨(l7++[s22]),(t8+1),hF,rfl,rfl⟩
 refine go ?_
 exact xC ⟨l7,t8,hF,rfl,rfl⟩
 rintro (_|m2) _ _ ⟨b18,s19,z20,hF,rfl,rfl⟩
 cases hF
 unfold q2f at hF
 refine go ?_
 refine RS.q rfl (q0c rfl rfl rfl (q08 q01 und38)) ?_
 refine go ?_
 refine cF hF (fun h27 hF=>?_) (fun h27 hF=>?_)
 refine go ?_
 refine WPU.block ?_
 obtain ⟨b37,h38,hF⟩:=q00 hF
 refine gn ?_
 refine qxf (fun tm σ=>tm=fr 52 [(0,.iM q01 p1),(3,.vl 0 t8 0 l7.length),(4,.bool b18),(5,.str s19),(6,.i6 z20),(29,.bool b37)]∧σ=⟨[(0,.vec (List.map cS l7).flatten 9 1 t8)],1⟩) ?_ ?_
 rintro _ _ ⟨rfl,rfl⟩
 refine go ?_
 refine cF hF (fun h39 hF=>?_) (fun h39 hF=>?_)
 refine go ?_
 exact lC ⟨b18,s19,(IntKind.i64.wrap (z20+1)),hF,rfl,rfl⟩
 obtain ⟨b43,h44,hF⟩:=q00 hF
 refine gn ?_
 refine qxf (fun tm σ=>tm=fr 52 [(0,.iM q01 p1),(3,.vl 0 t8 0 l7.length),(5,.str s19),(6,.i6 z20),(40,.bool b43)]∧σ=⟨[(0,.vec (List.map cS l7).flatten 9 1 t8)],1⟩) ?_ ?_
 rintro _ _ ⟨rfl,rfl⟩
 refine gn ?_
 refine qxf (fun tm σ=>∃ s46:List UInt8,q5m z20 (q2f p1 n l7 (q22 p1 n m1) m2) s46=some r∧tm=fr 52 [(0,.iM q01 p1),(3,.vl 0 t8 0 l7.length),(5,.str s46),(6,.i6 z20)]∧σ=⟨[(0,.vec (List.map cS l7).flatten 9 1 t8)],1⟩) ?_ ?_
 rintro _ _ ⟨s46,hF,rfl,rfl⟩
 unfold q5m at hF
 refine go ?_
 exact lC ⟨true,s46,(IntKind.i64.wrap (z20+1)),hF,rfl,rfl⟩
 refine cF hF (fun h45 hF=>?_) (fun h45 hF=>?_)
 obtain ⟨x47,h48,hF⟩:=q00 hF
 refine go ?_
 refine RS.q rfl (q0g rfl rfl (q0b q01 und38 (q04 inf127) q0h h48 rfl)) (RS.q rfl (q1y und127 rfl (q04 inf9) rfl rfl) (RS.q rfl (q0e und9 rfl rfl rfl) ?_))
 refine go ?_
 exact xC ⟨x47.Name,hF,rfl,rfl⟩
 refine go ?_
 exact xC ⟨s19,hF,rfl,rfl⟩
 rcases gB h44 with ⟨h40,h44⟩ | ⟨h40,h44⟩
 exact gy h44
 obtain ⟨x41,h42,h44⟩:=q00 h44
 obtain rfl:=sI h44
 refine go ?_
 refine RS.w rfl (q0g rfl rfl (q0b q01 und38 (q04 inf127) q0h h42 rfl)) (RS.w rfl (q1y und127 rfl (q04 inf9) rfl rfl) (RS.w rfl (q0e und9 rfl rfl rfl) ?_))
 refine go ?_
 refine RS.w (u:=.bool (q4t x41.Name s19)) rfl (q50 rfl rfl rfl rfl) ?_
 refine go ?_
 exact xC ⟨rfl,rfl⟩
 obtain ⟨x28,h29,h38⟩:=q00 h38
 obtain ⟨r30,h31,h38⟩:=q00 h38
 rcases gB h38 with ⟨h32,h38⟩ | ⟨h32,h38⟩
 obtain rfl:=sI h38
 refine go ?_
 refine RS.q rfl (q0g rfl rfl (q0b q01 und38 (q04 inf127) q0h h29 rfl)) (RS.q rfl (q1y und127 rfl (q04 inf9) rfl rfl) (RS.q rfl (q0e und9 rfl rfl rfl) (RS.cl rfl (vw (q1s n l7 x28.Name r30 h31) (qxg 0 1)) fn126 ?_)))
 refine go ?_
 exact xC ⟨rfl,rfl⟩
 obtain ⟨x33,h34,h38⟩:=q00 h38
 obtain ⟨r35,h36,h38⟩:=q00 h38
 obtain rfl:=sI h38
 refine go ?_
 refine RS.q rfl (q0g rfl rfl (q0b q01 und38 (q04 inf127) q0h h29 rfl)) (RS.q rfl (q1y und127 rfl (q04 inf9) rfl rfl) (RS.q rfl (q0e und9 rfl rfl rfl) (RS.cl rfl (vw (q1s n l7 x28.Name r30 h31) (qxg 0 1)) fn126 ?_)))
 refine go ?_
 refine RS.w rfl (q0g rfl rfl (q0b q01 und38 (q04 inf127) q0h h34 rfl)) (RS.w (u:=.agg (q01 x33)) rfl (qe4 und127 rfl (q04 inf127) rfl rfl) ?_)
 refine go ?_
 refine RS.cl rfl (vw (qmc n x33 l7 r35 h36) (qxg 0 1)) fn149 ?_
 refine go ?_
 exact xC ⟨rfl,rfl⟩
 refine go ?_
 exact xC ⟨b18,s19,hF,rfl,rfl⟩
 refine go ?_
 exact xC ⟨l7,t8,hF,rfl,rfl⟩
def q6q (z15:Int) (rc1:Int→Int→Option (Int)) (z25:Int):Option (Int) :=
 rc1 z25 (IntKind.i64.wrap (z15+1))
def qa1 (p1:List q05) (n:Nat) (z16:Int):Option (Int) :=
 cond (z16 != 1)
  (some 1)
  (q03 (qcu n p1) fun r18 =>
  cond (decide ((r18.length:Int)<(p1.length:Int)))
   (some 6)
   (some 0))
def q3k (p1:List q05) (n:Nat):Nat→Int→Int→Option (Int)
 | 0,_,_=>none
 | m1+1,z14,z15 =>
  cond (decide (z15<(p1.length:Int)))
   (q03 (q13 p1 z15) fun x22 =>
   cond ((x22.Supers.length:Int) == 0)
    (q6q z15 (q3k p1 n m1) (IntKind.i64.wrap (z14+1)))
    (q6q z15 (q3k p1 n m1) z14))
   (qa1 p1 n z14)
def qep (n:Nat) (p1:List q05):Option (Int) :=
 q03 (qes n p1) fun r2 =>
 cond (r2 != 0)
  (some r2)
  (q03 (qeq n p1) fun r5 =>
  cond (r5 != 0)
   (some r5)
   (q03 (qcv n p1) fun r8 =>
   cond (r8 != 0)
    (some r8)
    (q3k p1 n n 0 0)))
theorem qma (n:Nat) (p1:List q05) (r:Int) (hF:qep n p1=some r):EvU Tryz.prog 94 [.isl false (List.map q01 p1)] ⟨[],0⟩ (fun u _=>u = .int .i64 r∧Bel 0 u):=by
 unfold qep at hF
 refine bg1 46 fn94 ?_
 obtain ⟨r2,h3,hF⟩:=q00 hF
 refine go ?_
 refine RS.cl rfl (pC (qmd n p1 r2 h3) _) fn121 ?_
 refine go ?_
 refine cF hF (fun h4 hF=>?_) (fun h4 hF=>?_)
 exact gx hF
 obtain ⟨r5,h6,hF⟩:=q00 hF
 refine go ?_
 refine RS.cl rfl (pC (qmb n p1 r5 h6) _) fn122 ?_
 refine go ?_
 refine cF hF (fun h7 hF=>?_) (fun h7 hF=>?_)
 exact gx hF
 obtain ⟨r8,h9,hF⟩:=q00 hF
 refine go ?_
 refine RS.cl rfl (pC (qkm n p1 r8 h9) _) fn123 ?_
 refine go ?_
 refine cF hF (fun h10 hF=>?_) (fun h10 hF=>?_)
 exact gx hF
 refine go ?_
 refine gS (l':=[(0,_),(6,_),(7,_)]) ?_
 refine qxe (fun m tm σ=>∃ z14:Int,∃ z15:Int,q3k p1 n m z14 z15=some r∧tm=fr 46 [(0,.iM q01 p1),(6,.i6 z14),(7,.i6 z15)]∧σ=⟨[],0⟩) (fun tm σ=>∃ z16:Int,qa1 p1 n z16=some r∧tm=fr 46 [(0,.iM q01 p1),(6,.i6 z16)]∧σ=⟨[],0⟩) n ⟨0,0,hF,rfl,rfl⟩ ?_ ?_
 rintro _ _ ⟨z16,hF,rfl,rfl⟩
 unfold qa1 at hF
 refine go ?_
 refine cF hF (fun h17 hF=>?_) (fun h17 hF=>?_)
 exact gx hF
 obtain ⟨r18,h19,hF⟩:=q00 hF
 refine go ?_
 refine RS.cl rfl (pC (qkl n p1 r18 h19) _) fn124 (RS.q rfl (q0c rfl rfl rfl (q08 cS und80)) ?_)
 refine go ?_
 refine RS.q rfl (q0c rfl rfl rfl (q08 q01 und38)) ?_
 refine go ?_
 refine cF hF (fun h20 hF=>?_) (fun h20 hF=>?_)
 exact gx hF
 exact gx hF
 rintro (_|m1) _ _ ⟨z14,z15,hF,rfl,rfl⟩
 cases hF
 unfold q3k at hF
 refine go ?_
 refine RS.q rfl (q0c rfl rfl rfl (q08 q01 und38)) ?_
 refine go ?_
 refine cF hF (fun h21 hF=>?_) (fun h21 hF=>?_)
 refine go ?_
 refine WPU.block ?_
 obtain ⟨x22,h23,hF⟩:=q00 hF
 refine go ?_
 refine RS.q rfl (q0g rfl rfl (q0b q01 und38 (q04 inf127) q0h h23 rfl)) (RS.q rfl (q1y und127 rfl (q04 inf80) rfl rfl) (RS.q rfl (q0e und80 rfl rfl rfl) (RS.q rfl (q0c rfl rfl rfl (q08 cS und80)) ?_)))
 refine gn ?_
 refine qxf (fun tm σ=>∃ z25:Int,q6q z15 (q3k p1 n m1) z25=some r∧tm=fr 46 [(0,.iM q01 p1),(6,.i6 z25),(7,.i6 z15)]∧σ=⟨[],0⟩) ?_ ?_
 rintro _ _ ⟨z25,hF,rfl,rfl⟩
 unfold q6q at hF
 refine go ?_
 exact lC ⟨z25,(IntKind.i64.wrap (z15+1)),hF,rfl,rfl⟩
 refine cF hF (fun h24 hF=>?_) (fun h24 hF=>?_)
 refine go ?_
 exact xC ⟨(IntKind.i64.wrap (z14+1)),hF,rfl,rfl⟩
 refine go ?_
 exact xC ⟨z14,hF,rfl,rfl⟩
 refine go ?_
 exact xC ⟨z14,hF,rfl,rfl⟩
def qct (p1:List (List UInt8)) (p2:List UInt8) (z7:Int):Option ((List (List UInt8))) :=
 q03 (cond (decide (z7<(p1.length:Int)))
  (q03 (q13 p1 z7) fun x9 =>
  some (q1c x9 p2))
  (some false)) fun b11 =>
 cond b11
  (some p1)
  (q03 (qvo p1 0 z7) fun l14 =>
  q16 (l14.length*16≤140737488355328∧l14.length≤140737488355328) (
  q16 ((l14.length+1)*16≤140737488355328∧l14.length+1≤140737488355328) (
  q03 (qvo p1 z7 (p1.length:Int)) fun l20 =>
  q16 (((l14++[p2]).length+l20.length)*16≤140737488355328∧(l14++[p2]).length+l20.length≤140737488355328) (
  some ((l14++[p2])++l20)))))
def q9h (p1:List (List UInt8)) (p2:List UInt8):Nat→Int→Option ((List (List UInt8)))
 | 0,_=>none
 | m1+1,z6 =>
  q03 (cond (decide (z6<(p1.length:Int)))
   (q03 (q13 p1 z6) fun x26 =>
   some (q4t x26 p2))
   (some false)) fun b28 =>
  cond b28
   ((q9h p1 p2 m1) (IntKind.i64.wrap (z6+1)))
   (qct p1 p2 z6)
def q78 (n:Nat) (p1:List (List UInt8)) (p2:List UInt8):Option ((List (List UInt8))) :=
 q9h p1 p2 n 0
theorem q67 (n:Nat) (p1:List (List UInt8)) (p2:List UInt8) (r:(List (List UInt8))) (hF:q78 n p1 p2=some r):EvU Tryz.prog 116 [.isl false (List.map cS p1),.str p2] ⟨[],0⟩ (fun u _=>u = .isl false (List.map cS r)∧Bel 0 u):=by
 unfold q78 at hF
 refine bg2 48 fn116 ?_
 refine go ?_
 refine gS (l':=[(0,_),(1,_),(5,_),(6,_)]) ?_
 refine qxe (fun m tm σ=>∃ z6:Int,q9h p1 p2 m z6=some r∧tm=fr 48 [(0,.iM cS p1),(1,.str p2),(5,.nils),(6,.i6 z6)]∧σ=⟨[],0⟩) (fun tm σ=>∃ z7:Int,qct p1 p2 z7=some r∧tm=fr 48 [(0,.iM cS p1),(1,.str p2),(5,.nils),(6,.i6 z7)]∧σ=⟨[],0⟩) n ⟨0,hF,rfl,rfl⟩ ?_ ?_
 rintro _ _ ⟨z7,hF,rfl,rfl⟩
 unfold qct at hF
 obtain ⟨b11,h12,hF⟩:=q00 hF
 refine gn ?_
 refine qxf (fun tm σ=>tm=fr 48 [(0,.iM cS p1),(1,.str p2),(5,.nils),(6,.i6 z7),(32,.bool b11)]∧σ=⟨[],0⟩) ?_ ?_
 rintro _ _ ⟨rfl,rfl⟩
 refine go ?_
 refine cF hF (fun h13 hF=>?_) (fun h13 hF=>?_)
 exact gx hF
 obtain ⟨l14,h15,hF⟩:=q00 hF
 obtain ⟨h16,h17⟩:=qs6 cS .i64 h15
 obtain ⟨h18,hF⟩:=q0a hF
 refine go ?_
 refine RS.q (u:=.iM cS l14) rfl (qdh rfl qrj (em_s rfl) qrj (qqk cS und80 (q04 inf9) q1b h16 h17)) (RS.q (u:=.vl 0 0 0 l14.length) (σ':=⟨[(0,.vec (List.map cS l14).flatten 9 1 0)],1⟩) rfl (q1o rfl rfl rfl rfl (qrq cS l14 und80 und80 inf9 rfl (qey cS q1b) h18)) ?_)
 obtain ⟨h19,hF⟩:=q0a hF
 refine go ?_
 refine RS.q (u:=.sl 1 0 1 1) (σ':=⟨[(1,.row [.str p2] 9),(0,.vec (List.map cS l14).flatten 9 1 0)],2⟩) rfl (q0i und80 inf9 rfl rfl rfl rfl rfl rfl rfl) (RS.q (u:=.vl 0 1 0 ((l14++[p2]).length)) (σ':=⟨[(1,.row [.str p2] 9),(0,.vec (List.map cS (l14++[p2])).flatten 9 1 1)],2⟩) rfl (q1o rfl rfl rfl rfl (q20 cS ([p2]) und80 und80 inf9 rfl q1b rfl (q1k cS [p2] rfl rfl rfl rfl) h19)) ?_)
 obtain ⟨l20,h21,hF⟩:=q00 hF
 obtain ⟨h22,h23⟩:=cut_lo cS .i64 h21
 obtain ⟨h24,hF⟩:=q0a hF
 refine go ?_
 refine RS.q (u:=.iM cS l20) rfl (qdh rfl (em_s rfl) qrj qrj (qqk cS und80 (q04 inf9) q1b h22 h23)) (RS.q (u:=.vl 0 2 0 (((l14++[p2])++l20).length)) (σ':=⟨[(1,.row [.str p2] 9),(0,.vec (List.map cS ((l14++[p2])++l20)).flatten 9 1 2)],2⟩) rfl (q1o rfl rfl rfl rfl (q20 cS l20 und80 und80 inf9 rfl q1b rfl (qey cS q1b) h24)) ?_)
 refine go ?_
 obtain rfl:=sI hF
 exact rT (us:=[.vl 0 2 0 (((l14++[p2])++l20).length)]) (u:=.iM cS ((l14++[p2])++l20)) (q2j rfl (q33)) (fR 0 1)
 rcases gB h12 with ⟨h8,h12⟩ | ⟨h8,h12⟩
 obtain ⟨x9,h10,h12⟩:=q00 h12
 obtain rfl:=sI h12
 refine go ?_
 refine RS.q rfl (q0c rfl rfl rfl (q08 cS und80)) ?_
 refine go ?_
 refine RS.w rfl (q0g rfl rfl (q0b cS und80 (q04 inf9) q1b h10 rfl)) (RS.w rfl (q0e und9 rfl rfl rfl) ?_)
 refine go ?_
 refine RS.w (u:=.bool (q1c x9 p2)) rfl (q50 rfl rfl rfl rfl) ?_
 refine go ?_
 exact xC ⟨rfl,rfl⟩
 obtain rfl:=sI h12
 refine go ?_
 refine RS.q rfl (q0c rfl rfl rfl (q08 cS und80)) ?_
 refine go ?_
 exact xC ⟨rfl,rfl⟩
 rintro (_|m1) _ _ ⟨z6,hF,rfl,rfl⟩
 cases hF
 unfold q9h at hF
 obtain ⟨b28,h29,hF⟩:=q00 hF
 refine gn ?_
 refine qxf (fun tm σ=>tm=fr 48 [(0,.iM cS p1),(1,.str p2),(5,.nils),(6,.i6 z6),(18,.bool b28)]∧σ=⟨[],0⟩) ?_ ?_
 rintro _ _ ⟨rfl,rfl⟩
 refine go ?_
 refine cF hF (fun h30 hF=>?_) (fun h30 hF=>?_)
 refine go ?_
 refine WPU.block ?_
 refine go ?_
 exact lC ⟨_,hF,rfl,rfl⟩
 refine go ?_
 exact xC ⟨z6,hF,rfl,rfl⟩
 rcases gB h29 with ⟨h25,h29⟩ | ⟨h25,h29⟩
 obtain ⟨x26,h27,h29⟩:=q00 h29
 obtain rfl:=sI h29
 refine go ?_
 refine RS.q rfl (q0c rfl rfl rfl (q08 cS und80)) ?_
 refine go ?_
 refine RS.w rfl (q0g rfl rfl (q0b cS und80 (q04 inf9) q1b h27 rfl)) (RS.w rfl (q0e und9 rfl rfl rfl) ?_)
 refine go ?_
 refine RS.w (u:=.bool (q4t x26 p2)) rfl (q50 rfl rfl rfl rfl) ?_
 refine go ?_
 exact xC ⟨rfl,rfl⟩
 obtain rfl:=sI h29
 refine go ?_
 refine RS.q rfl (q0c rfl rfl rfl (q08 cS und80)) ?_
 refine go ?_
 exact xC ⟨rfl,rfl⟩
def qa2  (l7:List (List UInt8)):Option ((List (List UInt8))) :=
 some l7
def q6r (p1:List q05) (n:Nat):Nat→(List (List UInt8))→Int→Option ((List (List UInt8)))
 | 0,_,_=>none
 | m1+1,l5,z6 =>
  cond (decide (z6<(p1.length:Int)))
   (q03 (q13 p1 z6) fun x9 =>
   q03 (q78 n l5 x9.Name) fun r11 =>
   (q6r p1 n m1) r11 (IntKind.i64.wrap (z6+1)))
   (qa2 l5)
def qbm (n:Nat) (p1:List q05):Option ((List (List UInt8))) :=
 q6r p1 n n [] 0
theorem qfx (n:Nat) (p1:List q05) (r:(List (List UInt8))) (hF:qbm n p1=some r):EvU Tryz.prog 95 [.isl false (List.map q01 p1)] ⟨[],0⟩ (fun u _=>u = .isl false (List.map cS r)∧Bel 0 u):=by
 unfold qbm at hF
 refine bg1 19 fn95 ?_
 refine gr ?_
 refine gr ?_
 refine gr ?_
 refine WPU.ghost (tm':=fr 19 [(0,.iM q01 p1),(3,.iM cS []),(4,.i6 0)]) (Gh.trans (Gh.sub (l':=[(0,.iM q01 p1),(3,.nils),(4,.i6 0)]) ⟨rfl,rfl,rfl,trivial⟩) (Gh.wkS (l':=[(0,.iM q01 p1),(3,.iM cS []),(4,.i6 0)]) (.cons (.refl _) (.cons (.nil false) (.cons (.refl _) .nil))))) NZ ?_
 refine gS (l':=[(0,_),(3,_),(4,_)]) ?_
 refine qxe (fun m tm σ=>∃ l5:List (List UInt8),∃ z6:Int,q6r p1 n m l5 z6=some r∧tm=fr 19 [(0,.iM q01 p1),(3,.iM cS l5),(4,.i6 z6)]∧σ=⟨[],0⟩) (fun tm σ=>∃ l7:List (List UInt8),qa2 l7=some r∧tm=fr 19 [(3,.iM cS l7)]∧σ=⟨[],0⟩) n ⟨[],0,hF,rfl,rfl⟩ ?_ ?_
 rintro _ _ ⟨l7,hF,rfl,rfl⟩
 unfold qa2 at hF
 exact gx hF
 rintro (_|m1) _ _ ⟨l5,z6,hF,rfl,rfl⟩
 cases hF
 unfold q6r at hF
 refine go ?_
 refine RS.q rfl (q0c rfl rfl rfl (q08 q01 und38)) ?_
 refine go ?_
 refine cF hF (fun h8 hF=>?_) (fun h8 hF=>?_)
 refine go ?_
 refine WPU.block ?_
 obtain ⟨x9,h10,hF⟩:=q00 hF
 obtain ⟨r11,h12,hF⟩:=q00 hF
 refine go ?_
 refine RS.q rfl (q0g rfl rfl (q0b q01 und38 (q04 inf127) q0h h10 rfl)) (RS.q rfl (q1y und127 rfl (q04 inf9) rfl rfl) (RS.q rfl (q0e und9 rfl rfl rfl) (RS.cl rfl (pC (q67 n l5 x9.Name r11 h12) _) fn116 ?_)))
 refine go ?_
 exact lC ⟨r11,(IntKind.i64.wrap (z6+1)),hF,rfl,rfl⟩
 refine go ?_
 exact xC ⟨l5,hF,rfl,rfl⟩
def q9z  (l21:List (List UInt8)):Option ((List (List UInt8))) :=
 some l21
def q6p (n:Nat) (l13:List (List UInt8)):Nat→(List (List UInt8))→Int→Option ((List (List UInt8)))
 | 0,_,_=>none
 | m2+1,l19,z20 =>
  cond (decide (z20<(l13.length:Int)))
   (q03 (q13 l13 z20) fun x23 =>
   q03 (q78 n l19 x23) fun r25 =>
   (q6p n l13 m2) r25 (IntKind.i64.wrap (z20+1)))
   (q9z l19)
def q6o (z33:Int) (rc3:Int→(List (List UInt8))→Option ((List (List UInt8)))) (l53:List (List UInt8)):Option ((List (List UInt8))) :=
 rc3 (IntKind.i64.wrap (z33+1)) l53
def qa0 (z10:Int) (rc1:Int→(List (List UInt8))→Option ((List (List UInt8)))) (l36:List (List UInt8)):Option ((List (List UInt8))) :=
 rc1 (IntKind.i64.wrap (z10+1)) l36
def q3j (p1:List q05) (n:Nat) (z10:Int) (rc1:Int→(List (List UInt8))→Option ((List (List UInt8)))):Nat→Int→(List (List UInt8))→Option ((List (List UInt8)))
 | 0,_,_=>none
 | m3+1,z33,l34 =>
  cond (decide (z33<(p1.length:Int)))
   (q03 (q03 (q13 p1 z33) fun x39 =>
   q03 (q13 l34 z10) fun x41 =>
   q03 (q2e n x39.Supers x41) fun r43 =>
   cond r43
    (q03 (q13 p1 z33) fun x46 =>
    q03 (q2e n l34 x46.Name) fun r48 =>
    some (!r48))
    (some false)) fun b50 =>
   cond b50
    (q03 (q13 p1 z33) fun x55 =>
    q16 ((l34.length+1)*16≤140737488355328∧l34.length+1≤140737488355328) (
    q6o z33 (q3j p1 n z10 rc1 m3) (l34++[x55.Name])))
    (q6o z33 (q3j p1 n z10 rc1 m3) l34))
   (qa0 z10 rc1 l34)
def q9y (n:Nat) (l13:List (List UInt8)):Option ((List (List UInt8))) :=
 q6p n l13 n [] 0
def q2v (p1:List q05) (n:Nat):Nat→Int→(List (List UInt8))→Option ((List (List UInt8)))
 | 0,_,_=>none
 | m1+1,z10,l11 =>
  cond (decide (z10<(l11.length:Int)))
   (q3j p1 n z10 (q2v p1 n m1) n 0 l11)
   (q9y n l11)
def qeo (n:Nat) (p1:List q05) (p2:List UInt8):Option ((List (List UInt8))) :=
 q03 (q55 n p1 p2) fun r3 =>
 cond (decide (r3<0))
  (some [])
  (q2v p1 n n 0 ([p2]))
theorem qm9 (n:Nat) (p1:List q05) (p2:List UInt8) (r:(List (List UInt8))) (hF:qeo n p1 p2=some r):EvU Tryz.prog 125 [.isl false (List.map q01 p1),.str p2] ⟨[],0⟩ (fun u _=>u = .isl false (List.map cS r)∧Bel 0 u):=by
 unfold qeo at hF
 refine bg2 69 fn125 ?_
 obtain ⟨r3,h4,hF⟩:=q00 hF
 refine go ?_
 refine RS.cl rfl (pC (q56 n p1 p2 r3 h4) _) fn148 ?_
 refine go ?_
 refine cF hF (fun h5 hF=>?_) (fun h5 hF=>?_)
 refine go ?_
 obtain rfl:=sI hF
 exact rT (us:=[.nils]) (u:=.isl false []) (q2j rfl (q33)) wR
 refine go ?_
 refine qxq (u:=.vl 0 0 0 ([p2].length)) (σ':=⟨[(0,.vec (List.map cS ([p2])).flatten 9 1 0)],1⟩) rfl (qc9.bslv (cs:=(List.map cS [p2]).flatten) Tryz.tb_ok rfl und80 inf9 rfl rfl rfl rfl rfl rfl rfl rfl) rfl rfl ?_
 refine go ?_
 refine gS (l':=[(0,_),(5,_),(6,_)]) ?_
 refine qxe (fun m tm σ=>∃ z10:Int,∃ l11:List (List UInt8),∃ t12:Nat,q2v p1 n m z10 l11=some r∧tm=fr 69 [(0,.iM q01 p1),(5,.vl 0 t12 0 l11.length),(6,.i6 z10)]∧σ=⟨[(0,.vec (List.map cS l11).flatten 9 1 t12)],1⟩) (fun tm σ=>∃ l13:List (List UInt8),∃ t14:Nat,q9y n l13=some r∧tm=fr 69 [(5,.vl 0 t14 0 l13.length)]∧σ=⟨[(0,.vec (List.map cS l13).flatten 9 1 t14)],1⟩) n ⟨0,[p2],0,hF,rfl,rfl⟩ ?_ ?_
 rintro _ _ ⟨l13,t14,hF,rfl,rfl⟩
 unfold q9y at hF
 refine gr ?_
 refine gr ?_
 refine WPU.ghost (tm':=fr 69 [(5,.vl 0 t14 0 l13.length),(8,.iM cS []),(9,.i6 0)]) (Gh.trans (Gh.sub (l':=[(5,.vl 0 t14 0 l13.length),(8,.nils),(9,.i6 0)]) ⟨rfl,rfl,rfl,trivial⟩) (Gh.wkS (l':=[(5,.vl 0 t14 0 l13.length),(8,.iM cS []),(9,.i6 0)]) (.cons (.refl _) (.cons (.nil false) (.cons (.refl _) .nil))))) NZ ?_
 refine gS (l':=[(5,_),(8,_),(9,_)]) ?_
 refine qxe (fun m tm σ=>∃ l19:List (List UInt8),∃ z20:Int,q6p n l13 m l19 z20=some r∧tm=fr 69 [(5,.vl 0 t14 0 l13.length),(8,.iM cS l19),(9,.i6 z20)]∧σ=⟨[(0,.vec (List.map cS l13).flatten 9 1 t14)],1⟩) (fun tm σ=>∃ l21:List (List UInt8),q9z l21=some r∧tm=fr 69 [(8,.iM cS l21)]∧σ=⟨[(0,.vec (List.map cS l13).flatten 9 1 t14)],1⟩) n ⟨[],0,hF,rfl,rfl⟩ ?_ ?_
 rintro _ _ ⟨l21,hF,rfl,rfl⟩
 unfold q9z at hF
 exact gx hF
 rintro (_|m2) _ _ ⟨l19,z20,hF,rfl,rfl⟩
 cases hF
 unfold q6p at hF
 refine go ?_
 refine RS.q rfl (q0c rfl rfl rfl (qe3 und80 rfl)) ?_
 refine go ?_
 refine cF hF (fun h22 hF=>?_) (fun h22 hF=>?_)
 refine go ?_
 refine WPU.block ?_
 obtain ⟨x23,h24,hF⟩:=q00 hF
 obtain ⟨r25,h26,hF⟩:=q00 hF
 refine go ?_
 refine RS.q rfl (q0g rfl rfl (qhy cS und80 (q04 inf9) (by decide) q1b (vo rfl) h24)) ?_
 refine RS.q rfl (q8l cS (fun x=>.str x) und9 rfl (fun _=>rfl) rfl rfl h24) (RS.cl rfl (pC (q67 n l19 x23 r25 h26) _) fn116 ?_)
 refine go ?_
 exact lC ⟨r25,(IntKind.i64.wrap (z20+1)),hF,rfl,rfl⟩
 refine go ?_
 exact xC ⟨l19,hF,rfl,rfl⟩
 rintro (_|m1) _ _ ⟨z10,l11,t12,hF,rfl,rfl⟩
 cases hF
 unfold q2v at hF
 refine go ?_
 refine RS.q rfl (q0c rfl rfl rfl (qe3 und80 rfl)) ?_
 refine go ?_
 refine cF hF (fun h27 hF=>?_) (fun h27 hF=>?_)
 refine go ?_
 refine WPU.block ?_
 refine go ?_
 refine gS (l':=[(0,_),(5,_),(6,_),(7,_)]) ?_
 refine qxe (fun m tm σ=>∃ z33:Int,∃ l34:List (List UInt8),∃ t35:Nat,q3j p1 n z10 (q2v p1 n m1) m z33 l34=some r∧tm=fr 69 [(0,.iM q01 p1),(5,.vl 0 t35 0 l34.length),(6,.i6 z10),(7,.i6 z33)]∧σ=⟨[(0,.vec (List.map cS l34).flatten 9 1 t35)],1⟩) (fun tm σ=>∃ l36:List (List UInt8),∃ t37:Nat,qa0 z10 (q2v p1 n m1) l36=some r∧tm=fr 69 [(0,.iM q01 p1),(5,.vl 0 t37 0 l36.length),(6,.i6 z10)]∧σ=⟨[(0,.vec (List.map cS l36).flatten 9 1 t37)],1⟩) n ⟨0,l11,t12,hF,rfl,rfl⟩ ?_ ?_
 rintro _ _ ⟨l36,t37,hF,rfl,rfl⟩
 unfold qa0 at hF
 refine go ?_
 exact lC ⟨_,l36,t37,hF,rfl,rfl⟩
 rintro (_|m3) _ _ ⟨z33,l34,t35,hF,rfl,rfl⟩
 cases hF
 unfold q3j at hF
 refine go ?_
 refine RS.q rfl (q0c rfl rfl rfl (q08 q01 und38)) ?_
 refine go ?_
 refine cF hF (fun h38 hF=>?_) (fun h38 hF=>?_)
 refine go ?_
 refine WPU.block ?_
 obtain ⟨b50,h51,hF⟩:=q00 hF
 refine gn ?_
 refine qxf (fun tm σ=>tm=fr 69 [(0,.iM q01 p1),(5,.vl 0 t35 0 l34.length),(6,.i6 z10),(7,.i6 z33),(47,.bool b50)]∧σ=⟨[(0,.vec (List.map cS l34).flatten 9 1 t35)],1⟩) ?_ ?_
 rintro _ _ ⟨rfl,rfl⟩
 refine gn ?_
 refine qxf (fun tm σ=>∃ l53:List (List UInt8),∃ t54:Nat,q6o z33 (q3j p1 n z10 (q2v p1 n m1) m3) l53=some r∧tm=fr 69 [(0,.iM q01 p1),(5,.vl 0 t54 0 l53.length),(6,.i6 z10),(7,.i6 z33)]∧σ=⟨[(0,.vec (List.map cS l53).flatten 9 1 t54)],1⟩) ?_ ?_
 rintro _ _ ⟨l53,t54,hF,rfl,rfl⟩
 unfold q6o at hF
 refine go ?_
 exact lC ⟨_,l53,t54,hF,rfl,rfl⟩
 refine cF hF (fun h52 hF=>?_) (fun h52 hF=>?_)
 obtain ⟨x55,h56,hF⟩:=q00 hF
 obtain ⟨h57,hF⟩:=q0a hF
 refine go ?_
 refine RS.q rfl (q0g rfl rfl (q0b q01 und38 (q04 inf127) q0h h56 rfl)) (RS.q rfl (q1y und127 rfl (q04 inf9) rfl rfl) (RS.q rfl (q0e und9 rfl rfl rfl) (RS.q (u:=.sl 1 0 1 1) (σ':=⟨[(1,.row [.str x55.Name] 9),(0,.vec (List.map cS l34).flatten 9 1 t35)],2⟩) rfl (q0i und80 inf9 rfl rfl rfl rfl rfl rfl rfl) (RS.q (u:=.vl 0 (t35+1) 0 ((l34++[x55.Name]).length)) (σ':=⟨[(1,.row [.str x55.Name] 9),(0,.vec (List.map cS (l34++[x55.Name])).flatten 9 1 (t35+1))],2⟩) rfl (q1o rfl rfl rfl rfl (q20 cS ([x55.Name]) und80 und80 inf9 rfl q1b rfl (q1k cS [x55.Name] rfl rfl rfl rfl) h57)) ?_))))
 refine go ?_
 exact xC ⟨(l34++[x55.Name]),(t35+1),hF,rfl,rfl⟩
 refine go ?_
 exact xC ⟨l34,t35,hF,rfl,rfl⟩
 obtain ⟨x39,h40,h51⟩:=q00 h51
 obtain ⟨x41,h42,h51⟩:=q00 h51
 obtain ⟨r43,h44,h51⟩:=q00 h51
 rcases gB h51 with ⟨h45,h51⟩ | ⟨h45,h51⟩
 obtain ⟨x46,h47,h51⟩:=q00 h51
 obtain ⟨r48,h49,h51⟩:=q00 h51
 obtain rfl:=sI h51
 refine qxh Tryz.tb_ok [] (by kernel_rfl) ?_
 repeat refine RD.mv rfl rfl rfl rfl ?_
 refine RD.q rfl (q0g rfl rfl (q0b q01 und38 (q04 inf127) q0h h40 rfl)) (RD.q rfl (q1y und127 rfl (q04 inf80) rfl rfl) (RD.q rfl (q0e und80 rfl rfl rfl) ?_))
 repeat refine RD.mv rfl rfl rfl rfl ?_
 refine RD.q rfl (q0g rfl rfl (qhy cS und80 (q04 inf9) (by decide) q1b (vo rfl) h42)) ?_
 refine RD.q rfl (q8l cS (fun x=>.str x) und9 rfl (fun _=>rfl) rfl rfl h42) (RD.fl rfl (pC (q1s n x39.Supers x41 r43 h44)) fn126 (RD.mv rfl rfl rfl rfl (RD.w rfl (q21 rfl) (RD.w rfl (q21 rfl) (RD.w rfl (q21 rfl) (RD.w rfl (q0g rfl rfl (q0b q01 und38 (q04 inf127) q0h h47 rfl)) (RD.w rfl (q1y und127 rfl (q04 inf9) rfl rfl) ?_)))))))
 refine RD.w rfl (q0e und9 rfl rfl rfl) (RD.call (u:=.bool r48) (args:=[.vl 0 t35 0 l34.length,.str x46.Name]) (qxb rfl rfl rfl h45) (qjk rfl rfl fn126 hb126 rfl rfl) (vw (q1s n l34 x46.Name r48 h49) (qxg 0 1)) rfl rfl (RD.w rfl (qr9 rfl rfl rfl rfl) (RD.q rfl (qid rfl h45 rfl) ?_)))
 refine RD.done ⟨by kernel_rfl,trivial,?_⟩
 refine go ?_
 exact xC ⟨rfl,rfl⟩
 obtain rfl:=sI h51
 refine qxh Tryz.tb_ok [] (by kernel_rfl) ?_
 repeat refine RD.mv rfl rfl rfl rfl ?_
 refine RD.q rfl (q0g rfl rfl (q0b q01 und38 (q04 inf127) q0h h40 rfl)) (RD.q rfl (q1y und127 rfl (q04 inf80) rfl rfl) (RD.q rfl (q0e und80 rfl rfl rfl) ?_))
 repeat refine RD.mv rfl rfl rfl rfl ?_
 refine RD.q rfl (q0g rfl rfl (qhy cS und80 (q04 inf9) (by decide) q1b (vo rfl) h42)) ?_
 refine RD.q rfl (q8l cS (fun x=>.str x) und9 rfl (fun _=>rfl) rfl rfl h42) (RD.fl rfl (pC (q1s n x39.Supers x41 r43 h44)) fn126 (RD.mv rfl rfl rfl rfl ?_))
 repeat refine RD.no (qu0 rfl rfl rfl h45) rfl rfl ?_
 refine RD.q rfl (qic rfl h45 rfl) ?_
 refine RD.done ⟨by kernel_rfl,trivial,?_⟩
 refine go ?_
 exact xC ⟨rfl,rfl⟩
 refine go ?_
 exact xC ⟨l34,t35,hF,rfl,rfl⟩
 refine go ?_
 exact xC ⟨l11,t12,hF,rfl,rfl⟩
def q8m (p1:List Int) (z5:Int):Option ((List Int)) :=
 q03 (qvo p1 0 z5) fun l6 =>
 q16 (l6.length*8≤140737488355328∧l6.length≤140737488355328) (
 some l6)
def q5j (p1:List Int):Nat→Int→Option ((List Int))
 | 0,_=>none
 | m1+1,z4 =>
  q03 (cond (decide (z4 > 0))
   (q03 (q13 p1 (IntKind.i64.wrap (z4 - 1))) fun x12 =>
   some (x12 == 0))
   (some false)) fun b14 =>
  cond b14
   ((q5j p1 m1) (IntKind.i64.wrap (z4 - 1)))
   (q8m p1 z4)
def q54 (n:Nat) (p1:List Int):Option ((List Int)) :=
 q5j p1 n (p1.length:Int)
theorem q6i (n:Nat) (p1:List Int) (r:(List Int)) (hF:q54 n p1=some r):EvU Tryz.prog 119 [.isl false (List.map (cI .u64) p1)] ⟨[],0⟩ (fun u _=>u = .isl false (List.map (cI .u64) r)∧Bel 0 u):=by
 unfold q54 at hF
 refine bg1 23 fn119 ?_
 refine go ?_
 refine RS.q rfl (q0c rfl rfl rfl (q08 (cI .u64) und103)) ?_
 refine go ?_
 refine gS (l':=[(0,_),(3,_)]) ?_
 refine qxe (fun m tm σ=>∃ z4:Int,q5j p1 m z4=some r∧tm=fr 23 [(0,.iM (cI .u64) p1),(3,.i6 z4)]∧σ=⟨[],0⟩) (fun tm σ=>∃ z5:Int,q8m p1 z5=some r∧tm=fr 23 [(0,.iM (cI .u64) p1),(3,.i6 z5)]∧σ=⟨[],0⟩) n ⟨(p1.length:Int),hF,rfl,rfl⟩ ?_ ?_
 rintro _ _ ⟨z5,hF,rfl,rfl⟩
 unfold q8m at hF
 obtain ⟨l6,h7,hF⟩:=q00 hF
 obtain ⟨h8,h9⟩:=qs6 (cI .u64) .i64 h7
 obtain ⟨h10,hF⟩:=q0a hF
 refine go ?_
 refine RS.q (u:=.sl 0 0 0 0) (σ':=⟨[(0,.row [] 191)],1⟩) rfl (q0i und103 inf191 rfl rfl rfl rfl rfl rfl rfl) ?_
 refine go ?_
 refine RS.q (u:=.iM (cI .u64) l6) rfl (qdh rfl qrj (em_s rfl) qrj (qqk (cI .u64) und103 (q04 inf191) (q19 .u64) h8 h9)) (RS.q (u:=.vl 1 0 0 l6.length) (σ':=⟨[(1,.vec (List.map (cI .u64) l6).flatten 191 1 0),(0,.row [] 191)],2⟩) rfl (q1o rfl rfl rfl rfl (qok (cI .u64) l6 und103 und103 inf191 rfl rfl rfl (qey (cI .u64) (q19 .u64)) h10)) ?_)
 refine go ?_
 obtain rfl:=sI hF
 exact rT (us:=[.vl 1 0 0 l6.length]) (u:=.iM (cI .u64) l6) (q2j rfl (q33)) (fR 1 1)
 rintro (_|m1) _ _ ⟨z4,hF,rfl,rfl⟩
 cases hF
 unfold q5j at hF
 obtain ⟨b14,h15,hF⟩:=q00 hF
 refine gn ?_
 refine qxf (fun tm σ=>tm=fr 23 [(0,.iM (cI .u64) p1),(3,.i6 z4),(15,.bool b14)]∧σ=⟨[],0⟩) ?_ ?_
 rintro _ _ ⟨rfl,rfl⟩
 refine go ?_
 refine cF hF (fun h16 hF=>?_) (fun h16 hF=>?_)
 refine go ?_
 refine WPU.block ?_
 refine go ?_
 exact lC ⟨_,hF,rfl,rfl⟩
 refine go ?_
 exact xC ⟨z4,hF,rfl,rfl⟩
 rcases gB h15 with ⟨h11,h15⟩ | ⟨h11,h15⟩
 obtain ⟨x12,h13,h15⟩:=q00 h15
 obtain rfl:=sI h15
 refine go ?_
 refine RS.w rfl (q0g rfl rfl (q0b (cI .u64) und103 (q04 inf191) (q19 .u64) h13 rfl)) (RS.w rfl (q0e und191 rfl rfl rfl) ?_)
 refine go ?_
 exact xC ⟨rfl,rfl⟩
 exact gy h15
def qem (n:Nat) (l8:List Int):Option ((List Int)×Int) :=
 q16 ((64:Int).toNat=l8.length) (
 q03 (q54 n l8) fun r10 =>
 some (r10,0))
def qbk (p1:List Int) (n:Nat):Nat→Int→(List Int)→Option ((List Int)×Int)
 | 0,_,_=>none
 | m1+1,z6,l7 =>
  cond (decide (z6<(p1.length:Int)))
   (q03 (q03 (q13 p1 z6) fun x13 =>
   cond (decide (x13<0))
    (some true)
    (q03 (q13 p1 z6) fun x16 =>
    some (decide (x16 > 4095)))) fun b18 =>
   cond b18
    (some ([],2))
    (q03 (q13 p1 z6) fun x21 =>
    q03 (q13 p1 z6) fun x24 =>
    q03 (qrk l7 0 ((64:Int).toNat) (IntKind.i64.wrap (x24.tdiv 64))) fun x27 =>
    q03 (q13 p1 z6) fun x29 =>
    q16 (¬ (IntKind.u64.wrap (x29.tmod 64))<0) (
    q03 (qrk l7 0 ((64:Int).toNat) (IntKind.i64.wrap (x21.tdiv 64))) fun x33 =>
    (qbk p1 n m1) (IntKind.i64.wrap (z6+1)) (l7.set (IntKind.i64.wrap (x21.tdiv 64)).toNat (orI .u64 x27 (IntKind.u64.wrap (1*(2 ^ (min (IntKind.u64.wrap (x29.tmod 64)).toNat IntKind.u64.bits)))))))))
   (qem n l7)
def qm7 (n:Nat) (p1:List Int):Option ((List Int)×Int) :=
 q16 (0≤(64:Int)∧8*(64:Int).toNat≤281474976710656∧(64:Int)≤281474976710656) (
 qbk p1 n n 0 (List.replicate (64:Int).toNat 0))
theorem qrb (n:Nat) (p1:List Int) (r:(List Int)×Int) (hF:qm7 n p1=some r):EvU Tryz.prog 127 [.isl false (List.map (cI .i64) p1)] ⟨[],0⟩ (fun u _=>u = .tup [.isl false (List.map (cI .u64) r.1),.int .i64 r.2]∧Bel 0 u):=by
 unfold qm7 at hF
 refine bg1 50 fn127 ?_
 obtain ⟨h2,hF⟩:=q0a hF
 refine go ?_
 refine RS.q (u:=.sl 0 0 ((64:Int).toNat) ((64:Int).toNat)) (σ':=⟨[(0,.row (List.map (cI .u64) (List.replicate (64:Int).toNat 0)).flatten 191)],1⟩) rfl (qt5 (cI .u64) 0 rfl rfl und103 inf191 rfl rfl rfl rfl h2) ?_
 refine go ?_
 refine gS (l':=[(0,_),(4,_),(5,_)]) ?_
 refine qxe (fun m tm σ=>∃ z6:Int,∃ l7:List Int,qbk p1 n m z6 l7=some r∧tm=fr 50 [(0,.iM (cI .i64) p1),(4,.sl 0 0 ((64:Int).toNat) ((64:Int).toNat)),(5,.i6 z6)]∧σ=⟨[(0,.row (List.map (cI .u64) l7).flatten 191)],1⟩) (fun tm σ=>∃ l8:List Int,qem n l8=some r∧tm=fr 50 [(4,.sl 0 0 ((64:Int).toNat) ((64:Int).toNat))]∧σ=⟨[(0,.row (List.map (cI .u64) l8).flatten 191)],1⟩) n ⟨0,(List.replicate (64:Int).toNat 0),hF,rfl,rfl⟩ ?_ ?_
 rintro _ _ ⟨l8,hF,rfl,rfl⟩
 unfold qem at hF
 obtain ⟨h9,hF⟩:=q0a hF
 refine gn ?_
 refine WPU.ghost (tm':=fr 50 [(4,.iM (cI .u64) l8)]) (σ':=⟨[],1⟩) (Gh.trans (Gh.sub (l':=[(4,.sl 0 0 ((64:Int).toNat) ((64:Int).toNat))]) ⟨rfl,trivial⟩) (Gh.fzS (l':=[(4,.iM (cI .u64) l8)]) (h':=[]) 0 (.row (List.map (cI .u64) l8).flatten 191) 1 rfl (by simp) (by simp only [fzS,qkd,qgo,q97,ql7,qj5,ql9,qgr,qj8,qj7,qj6,qgq,ql8,qnd,ql6,qla,qr1,qlv,quw (q19 .u64) h9]) (by simp only [fzH,fzB,ug,Nat.beq,cond_true,cond_false,qkd,qgo,q97,ql7,qj5,ql9,qgr,qj8,qj7,qj6,qgq,ql8,qnd,ql6,qla,qr1,qlv,quw (q19 .u64) h9]))) NZ ?_
 obtain ⟨r10,h11,hF⟩:=q00 hF
 refine go ?_
 refine RS.cl rfl (pC (q6i n l8 r10 h11) _) fn119 ?_
 refine go ?_
 obtain rfl:=sI hF
 exact rt2 rfl rfl rfl rfl rfl
 rintro (_|m1) _ _ ⟨z6,l7,hF,rfl,rfl⟩
 cases hF
 unfold qbk at hF
 refine go ?_
 refine RS.q rfl (q0c rfl rfl rfl (q08 (cI .i64) und33)) ?_
 refine go ?_
 refine cF hF (fun h12 hF=>?_) (fun h12 hF=>?_)
 refine go ?_
 refine WPU.block ?_
 obtain ⟨b18,h19,hF⟩:=q00 hF
 refine gn ?_
 refine qxf (fun tm σ=>tm=fr 50 [(0,.iM (cI .i64) p1),(4,.sl 0 0 ((64:Int).toNat) ((64:Int).toNat)),(5,.i6 z6),(24,.bool b18)]∧σ=⟨[(0,.row (List.map (cI .u64) l7).flatten 191)],1⟩) ?_ ?_
 rintro _ _ ⟨rfl,rfl⟩
 refine go ?_
 refine cF hF (fun h20 hF=>?_) (fun h20 hF=>?_)
 refine go ?_
 obtain rfl:=sI hF
 exact rT (us:=[.nils,.i6 2]) (u:=.tup [.isl false [],.i6 2]) (q2j rfl (q2j rfl (q33))) wR
 obtain ⟨x21,h22,hF⟩:=q00 hF
 obtain ⟨x24,h25,hF⟩:=q00 hF
 obtain ⟨x27,h28,hF⟩:=q00 hF
 obtain ⟨x29,h30,hF⟩:=q00 hF
 obtain ⟨h32,hF⟩:=q0a hF
 obtain ⟨x33,h34,hF⟩:=q00 hF
 refine go ?_
 refine qxh Tryz.tb_ok [] (by kernel_rfl) ?_
 repeat refine RD.mv rfl rfl rfl rfl ?_
 refine RD.q rfl (q0g rfl rfl (q0b (cI .i64) und33 (q04 inf3) (q19 .i64) h22 rfl)) (RD.q rfl (q0e und3 rfl rfl rfl) ?_)
 refine RD.q rfl (q35 rfl rfl (qpu _ (by decide)) rfl) ?_
 repeat refine RD.mv rfl rfl rfl rfl ?_
 refine RD.q rfl (q0g rfl rfl (q0b (cI .i64) und33 (q04 inf3) (q19 .i64) h25 rfl)) (RD.q rfl (q0e und3 rfl rfl rfl) ?_)
 refine RD.q rfl (q35 rfl rfl (qpu _ (by decide)) rfl) ?_
 refine RD.q rfl (q0g rfl rfl (qr2 und103 (q04 inf191) rfl h28)) (RD.q (u:=.int .u64 x27) rfl (qvy (cI .u64) (fun x=>.int .u64 x) und191 rfl (fun _=>rfl) rfl rfl h28) ?_)
 repeat refine RD.mv rfl rfl rfl rfl ?_
 refine RD.q rfl (q0g rfl rfl (q0b (cI .i64) und33 (q04 inf3) (q19 .i64) h30 rfl)) (RD.q rfl (q0e und3 rfl rfl rfl) ?_)
 refine RD.q rfl (q35 rfl rfl (qsr _ (by decide)) rfl) ?_
 refine RD.q (u:=.int .u64 (IntKind.u64.wrap (x29.tmod 64))) rfl (qp0 rfl rfl (by simp only [qn3,und3,und190]<;>rfl) rfl) ?_
 refine RD.q rfl (q35 rfl rfl (ix_shl _ h32) rfl) (RD.q rfl (q35 rfl rfl (ix_or _ _ _) rfl) (RD.q rfl (q0g rfl rfl (qr2 und103 (q04 inf191) rfl h34)) ?_))
 refine qxr (u:=.junk) (σ':=⟨[(0,.row (List.map (cI .u64) (l7.set (IntKind.i64.wrap (x21.tdiv 64)).toNat (orI .u64 x27 (IntKind.u64.wrap (1*(2 ^ (min (IntKind.u64.wrap (x29.tmod 64)).toNat IntKind.u64.bits))))))).flatten 191)],1⟩) rfl (qvc (cI .u64) (q04 inf191) (q19 .u64) rfl rfl rfl rfl rfl rfl h34 rfl) rfl ?_
 refine RD.done ⟨by kernel_rfl,trivial,?_⟩
 refine go ?_
 exact lC ⟨_,(l7.set (IntKind.i64.wrap (x21.tdiv 64)).toNat (orI .u64 x27 (IntKind.u64.wrap (1*(2 ^ (min (IntKind.u64.wrap (x29.tmod 64)).toNat IntKind.u64.bits)))))),hF,rfl,rfl⟩
 obtain ⟨x13,h14,h19⟩:=q00 h19
 rcases gB h19 with ⟨h15,h19⟩ | ⟨h15,h19⟩
 obtain rfl:=sI h19
 refine go ?_
 refine RS.q rfl (q0g rfl rfl (q0b (cI .i64) und33 (q04 inf3) (q19 .i64) h14 rfl)) (RS.q rfl (q0e und3 rfl rfl rfl) ?_)
 refine go ?_
 exact xC ⟨rfl,rfl⟩
 obtain ⟨x16,h17,h19⟩:=q00 h19
 obtain rfl:=sI h19
 refine go ?_
 refine RS.q rfl (q0g rfl rfl (q0b (cI .i64) und33 (q04 inf3) (q19 .i64) h14 rfl)) (RS.q rfl (q0e und3 rfl rfl rfl) ?_)
 refine go ?_
 refine RS.w rfl (q0g rfl rfl (q0b (cI .i64) und33 (q04 inf3) (q19 .i64) h17 rfl)) (RS.w rfl (q0e und3 rfl rfl rfl) ?_)
 refine go ?_
 exact xC ⟨rfl,rfl⟩
 refine go ?_
 exact xC ⟨l7,hF,rfl,rfl⟩
def q85 (z11:Int) (rc1:Int→(List Int)→Option ((List Int))) (l24:List Int):Option ((List Int)) :=
 rc1 (IntKind.i64.wrap (z11+1)) l24
def qbp (n:Nat) (l14:List Int):Option ((List Int)) :=
 q03 (qm7 n l14) fun r16 =>
 some r16.1
def q49 (p2:List (List UInt8)) (n:Nat) (r4:(List (List UInt8))):Nat→Int→(List Int)→Option ((List Int))
 | 0,_,_=>none
 | m1+1,z11,l12 =>
  cond (decide (z11<(p2.length:Int)))
   (q03 (q13 p2 z11) fun x19 =>
   q03 (q2e n r4 x19) fun r21 =>
   cond r21
    (q16 ((l12.length+1)*8≤140737488355328∧l12.length+1≤140737488355328) (
    q85 z11 (q49 p2 n r4 m1) (l12++[z11])))
    (q85 z11 (q49 p2 n r4 m1) l12))
   (qbp n l12)
def qh6 (n:Nat) (p1:List q05) (p2:List (List UInt8)) (p3:List UInt8):Option ((List Int)) :=
 q03 (qeo n p1 p3) fun r4 =>
 q49 p2 n r4 n 0 ([]:List Int)
theorem qnz (n:Nat) (p1:List q05) (p2:List (List UInt8)) (p3:List UInt8) (r:(List Int)) (hF:qh6 n p1 p2 p3=some r):EvU Tryz.prog 96 [.isl false (List.map q01 p1),.isl false (List.map cS p2),.str p3] ⟨[],0⟩ (fun u _=>u = .isl false (List.map (cI .u64) r)∧Bel 0 u):=by
 unfold qh6 at hF
 refine bg3 37 fn96 ?_
 obtain ⟨r4,h5,hF⟩:=q00 hF
 refine go ?_
 refine RS.cl rfl (pC (qm9 n p1 p3 r4 h5) _) fn125 ?_
 refine gr ?_
 refine gr ?_
 refine WPU.ghost (tm':=fr 37 [(1,.iM cS p2),(7,.iM cS r4),(8,.vl 0 0 0 (([]:List Int).length)),(9,.i6 0)]) (σ':=⟨[(0,.vec (List.map (cI .i64) ([]:List Int)).flatten 3 1 0)],1⟩) (Gh.trans (qxl 8 3 1 (by decide) NZ rfl rfl) (qxk ⟨rfl,rfl,rfl,rfl,trivial⟩ rfl)) NZ ?_
 refine gS (l':=[(1,_),(7,_),(8,_),(9,_)]) ?_
 refine qxe (fun m tm σ=>∃ z11:Int,∃ l12:List Int,∃ t13:Nat,q49 p2 n r4 m z11 l12=some r∧tm=fr 37 [(1,.iM cS p2),(7,.iM cS r4),(8,.vl 0 t13 0 l12.length),(9,.i6 z11)]∧σ=⟨[(0,.vec (List.map (cI .i64) l12).flatten 3 1 t13)],1⟩) (fun tm σ=>∃ l14:List Int,∃ t15:Nat,qbp n l14=some r∧tm=fr 37 [(8,.vl 0 t15 0 l14.length)]∧σ=⟨[(0,.vec (List.map (cI .i64) l14).flatten 3 1 t15)],1⟩) n ⟨0,([]:List Int),0,hF,rfl,rfl⟩ ?_ ?_
 rintro _ _ ⟨l14,t15,hF,rfl,rfl⟩
 unfold qbp at hF
 refine gn ?_
 refine WPU.ghost (tm':=fr 37 [(8,.iM (cI .i64) l14)]) (σ':=⟨[],1⟩) (Gh.trans (Gh.sub (l':=[(8,.vl 0 t15 0 l14.length)]) ⟨rfl,trivial⟩) (qxt 0 1)) NZ ?_
 obtain ⟨r16,h17,hF⟩:=q00 hF
 refine go ?_
 refine RS.cl rfl (pC (qrb n l14 r16 h17) _) fn127 ?_
 exact gx hF
 rintro (_|m1) _ _ ⟨z11,l12,t13,hF,rfl,rfl⟩
 cases hF
 unfold q49 at hF
 refine go ?_
 refine RS.q rfl (q0c rfl rfl rfl (q08 cS und80)) ?_
 refine go ?_
 refine cF hF (fun h18 hF=>?_) (fun h18 hF=>?_)
 refine go ?_
 refine WPU.block ?_
 obtain ⟨x19,h20,hF⟩:=q00 hF
 obtain ⟨r21,h22,hF⟩:=q00 hF
 refine go ?_
 refine RS.q rfl (q0g rfl rfl (q0b cS und80 (q04 inf9) q1b h20 rfl)) (RS.q rfl (q0e und9 rfl rfl rfl) (RS.cl rfl (pC (q1s n r4 x19 r21 h22) _) fn126 ?_))
 refine gn ?_
 refine qxf (fun tm σ=>∃ l24:List Int,∃ t25:Nat,q85 z11 (q49 p2 n r4 m1) l24=some r∧tm=fr 37 [(1,.iM cS p2),(7,.iM cS r4),(8,.vl 0 t25 0 l24.length),(9,.i6 z11)]∧σ=⟨[(0,.vec (List.map (cI .i64) l24).flatten 3 1 t25)],1⟩) ?_ ?_
 rintro _ _ ⟨l24,t25,hF,rfl,rfl⟩
 unfold q85 at hF
 refine go ?_
 exact lC ⟨_,l24,t25,hF,rfl,rfl⟩
 refine cF hF (fun h23 hF=>?_) (fun h23 hF=>?_)
 obtain ⟨h26,hF⟩:=q0a hF
 refine go ?_
 refine RS.q (u:=.sl 1 0 1 1) (σ':=⟨[(1,.row [.i6 z11] 3),(0,.vec (List.map (cI .i64) l12).flatten 3 1 t13)],2⟩) rfl (q0i und33 inf3 rfl rfl rfl rfl rfl rfl rfl) (RS.q (u:=.vl 0 (t13+1) 0 ((l12++[z11]).length)) (σ':=⟨[(1,.row [.i6 z11] 3),(0,.vec (List.map (cI .i64) (l12++[z11])).flatten 3 1 (t13+1))],2⟩) rfl (q1o rfl rfl rfl rfl (q20 (cI .i64) ([z11]) und33 und33 inf3 rfl (q19 .i64) rfl (q1k (cI .i64) [z11] rfl rfl rfl rfl) h26)) ?_)
 refine go ?_
 exact xC ⟨(l12++[z11]),(t13+1),hF,rfl,rfl⟩
 refine go ?_
 exact xC ⟨l12,t13,hF,rfl,rfl⟩
 refine go ?_
 exact xC ⟨l12,t13,hF,rfl,rfl⟩
def qdl (n:Nat) (p1:List Int) (p2:Int):Option (Int) :=
 cond (decide (p2<(p1.length:Int)))
  (q03 (q13 p1 p2) fun x4 =>
  some x4)
  (some 0)
theorem qhp (n:Nat) (p1:List Int) (p2:Int) (r:Int) (hF:qdl n p1 p2=some r):EvU Tryz.prog 146 [.isl false (List.map (cI .u64) p1),.int .i64 p2] ⟨[],0⟩ (fun u _=>u = .int .u64 r∧Bel 0 u):=by
 unfold qdl at hF
 refine bg2 13 fn146 ?_
 refine go ?_
 refine RS.q rfl (q0c rfl rfl rfl (q08 (cI .u64) und103)) ?_
 refine go ?_
 refine cF hF (fun h3 hF=>?_) (fun h3 hF=>?_)
 obtain ⟨x4,h5,hF⟩:=q00 hF
 refine go ?_
 refine RS.q rfl (q0g rfl rfl (q0b (cI .u64) und103 (q04 inf191) (q19 .u64) h5 rfl)) (RS.q rfl (q0e und191 rfl rfl rfl) ?_)
 exact gx hF
 exact gx hF
def qcr (n:Nat) (l11:List Int):Option ((List Int)) :=
 q03 (q54 n l11) fun r13 =>
 some r13
def q9g (p1:List Int) (p2:List Int) (n:Nat):Nat→Int→(List Int)→Option ((List Int))
 | 0,_,_=>none
 | m1+1,z8,l9 =>
  cond (decide (z8<(p1.length:Int)))
   (q03 (q13 p1 z8) fun x16 =>
   q03 (qdl n p2 z8) fun r18 =>
   q16 ((l9.length+1)*8≤140737488355328∧l9.length+1≤140737488355328) (
   (q9g p1 p2 n m1) (IntKind.i64.wrap (z8+1)) (l9++[(qrp .u64 x16 r18)])))
   (qcr n l9)
def qfu (n:Nat) (p1:List Int) (p2:List Int):Option ((List Int)) :=
 q9g p1 p2 n n 0 ([]:List Int)
end Go.Proofs
end
