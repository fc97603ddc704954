/-
  Texts of the walk: H4.
-/
import Derived.Test.YtkgbipeaeamohaaGreatDoorP16
set_option linter.unusedSimpArgs false
set_option linter.unusedVariables false
section
namespace Go.Proofs
open Go Go.Rx Go.Vx Tryz
set_option maxRecDepth 20000
set_option maxHeartbeats 4000000
set_option synthInstance.maxSize 4000
set_option synthInstance.maxHeartbeats 200000
structure q0o where
 Typex:Int
 Arcs:List q15
def q01 (x:q0o):List U:=[.int .i64 x.Typex,.isl false (List.map q0d x.Arcs)]
theorem qn9 (n:Nat) (x:q0o):q23 n (q01 x):=by
 simp only [q01,q23,Bel,true_and,and_true]
 exact q4p _ (fun q=>qkw _ q) _
theorem q1n (x:q0o):(q01 x).length=2:=rfl
instance:qu2 q01 2:=⟨q1n⟩
instance:BF q01:=⟨qn9⟩
instance (n:Nat) (x:q0o):BUL n (q01 x):=⟨qn9 n x⟩
structure GFS where
 Nodes:List q0o
def cGFS (x:GFS):List U:=[.isl false (List.map q01 x.Nodes)]
structure q0e where
 A:List Int
 B:List Int
def q0j (x:q0e):List U:=[.isl false (List.map (cI .i64) x.A),.isl false (List.map (cI .i64) x.B)]
theorem qny (n:Nat) (x:q0e):q23 n (q0j x):=by
 simp only [q0j,q23,Bel,true_and,and_true]
 exact ⟨q4p _ (fun q=>qdx _ .i64 q) _,q4p _ (fun q=>qdx _ .i64 q) _⟩
theorem q2s (x:q0e):(q0j x).length=2:=rfl
instance:qu2 q0j 2:=⟨q2s⟩
instance:BF q0j:=⟨qny⟩
structure q19 where
 Feat:Int
 Value:Int
def q0u (x:q19):List U:=[.int .i64 x.Feat,.int .i64 x.Value]
theorem qjc (n:Nat) (x:q19):q23 n (q0u x):=by
 simp only [q0u,q23,Bel,true_and,and_true]
theorem qjo (x:q19):(q0u x).length=2:=rfl
instance:qu2 q0u 2:=⟨qjo⟩
instance:BF q0u:=⟨qjc⟩
structure qc3 where
 Name:List UInt8
 Code:List Int
 Supers:List Int
 Feats:List q19
def q8i (x:qc3):List U:=[.str x.Name,.isl false (List.map (cI .u64) x.Code),.isl false (List.map (cI .i64) x.Supers),.isl false (List.map q0u x.Feats)]
theorem qna (n:Nat) (x:qc3):q23 n (q8i x):=by
 simp only [q8i,q23,Bel,true_and,and_true]
 exact ⟨q4p _ (fun q=>qdx _ .u64 q) _,q4p _ (fun q=>qdx _ .i64 q) _,q4p _ (fun q=>qjc _ q) _⟩
theorem qnj (x:qc3):(q8i x).length=4:=rfl
instance:qu2 q8i 4:=⟨qnj⟩
instance:BF q8i:=⟨qna⟩
structure q1o where
 Name:List UInt8
 Intro:Int
def q1c (x:q1o):List U:=[.str x.Name,.int .i64 x.Intro]
theorem qgz (n:Nat) (x:q1o):q23 n (q1c x):=by
 simp only [q1c,q23,Bel,true_and,and_true]
theorem q98 (x:q1o):(q1c x).length=2:=rfl
instance:qu2 q1c 2:=⟨q98⟩
instance:BF q1c:=⟨qgz⟩
def qc6 (x y:q1o):Bool:=(q1p x.Name y.Name&&(x.Intro == y.Intro))
structure q18 where
 Types:List qc3
 Feats:List q1o
def q06 (x:q18):List U:=[.isl false (List.map q8i x.Types),.isl false (List.map q1c x.Feats)]
theorem qky (n:Nat) (x:q18):q23 n (q06 x):=by
 simp only [q06,q23,Bel,true_and,and_true]
 exact ⟨q4p _ (fun q=>qna _ q) _,q4p _ (fun q=>qgz _ q) _⟩
instance (n:Nat) (x:q18):BUL n (q06 x):=⟨qky n x⟩
structure q0r where
 Feat:List UInt8
 Value:List UInt8
def q0h (x:q0r):List U:=[.str x.Feat,.str x.Value]
theorem qfs (n:Nat) (x:q0r):q23 n (q0h x):=by
 simp only [q0h,q23,Bel,true_and,and_true]
theorem q24 (x:q0r):(q0h x).length=2:=rfl
instance:qu2 q0h 2:=⟨q24⟩
instance:BF q0h:=⟨qfs⟩
structure q05 where
 Name:List UInt8
 Supers:List (List UInt8)
 Feats:List q0r
def q02 (x:q05):List U:=[.str x.Name,.isl false (List.map cS x.Supers),.isl false (List.map q0h x.Feats)]
theorem qft (n:Nat) (x:q05):q23 n (q02 x):=by
 simp only [q02,q23,Bel,true_and,and_true]
 exact ⟨q4p _ (fun q=>z09 _ q) _,q4p _ (fun q=>qfs _ q) _⟩
theorem q0m (x:q05):(q02 x).length=3:=rfl
instance:BF q02:=⟨qft⟩
instance (n:Nat) (x:q05):BUL n (q02 x):=⟨qft n x⟩
structure q11 where
 Name:List UInt8
 Code:List Int
def q0i (x:q11):List U:=[.str x.Name,.isl false (List.map (cI .u64) x.Code)]
theorem qkx (n:Nat) (x:q11):q23 n (q0i x):=by
 simp only [q0i,q23,Bel,true_and,and_true]
 exact q4p _ (fun q=>qdx _ .u64 q) _
theorem q1q (x:q11):(q0i x).length=2:=rfl
instance:qu2 q0i 2:=⟨q1q⟩
instance:BF q0i:=⟨qkx⟩
instance (n:Nat) (x:q11):BUL n (q0i x):=⟨qkx n x⟩
theorem Tryz.eqs82:Tryz.tb.eqs 82=true:=by kernel_rfl
theorem eqv82 (x y:q1o):eqv Tryz.tb 50 82 (.agg ⟨[.string ⟨⟨x.Name⟩⟩,.int .i64 x.Intro]⟩) (.agg ⟨[.string ⟨⟨y.Name⟩⟩,.int .i64 y.Intro]⟩)=some (qc6 x y):=by
 simp only [eqv,cond_true,cond_false,z1u,qis,q5l,nth,q0y,List.drop,List.take,List.toList_toArray,qc6,ne_eq,String.reduceEq,not_false_eq_true,if_true,und3,und9,und82,eqs82,inf82]
 cases q1p x.Name y.Name<;>cases (x.Intro == y.Intro)<;>rfl
theorem qvu (x y:q1o):g2 (qmq Tryz.tb .eql 82) (.agg [.str x.Name,.int .i64 x.Intro]) (.agg [.str y.Name,.int .i64 y.Intro])=some (.bool (qc6 x y)):=by
 simp only [g2,toV,qp9,okL,okC,cond_true,qmq,qa2,eqs82,eqv82,ofV]
theorem Tryz.bd24:BdT Tryz.tb 24 [.nils] [(0,1)]:=bdT und24 inf24 rfl (by kernel_rfl)
theorem Tryz.bd43:BdT Tryz.tb 43 [.nils,.nils] [(0,1),(1,1)]:=bdT und43 inf43 rfl (by kernel_rfl)
theorem Tryz.bd54:BdT Tryz.tb 54 [.int .i64 0,.nils] [(0,1),(1,1)]:=bdT und54 inf54 rfl (by kernel_rfl)
theorem Tryz.bd56:BdT Tryz.tb 56 [.nils,.nils] [(0,1),(1,1)]:=bdT und56 inf56 rfl (by kernel_rfl)
theorem Tryz.bd66:BdT Tryz.tb 66 [.int .i64 0,.int .i64 0] [(0,1),(1,1)]:=bdT und66 inf66 rfl (by kernel_rfl)
theorem Tryz.bd82:BdT Tryz.tb 82 [.str [],.int .i64 0] [(0,1),(1,1)]:=bdT und82 inf82 rfl (by kernel_rfl)
theorem Tryz.bd105:BdT Tryz.tb 105 [.str [],.nils] [(0,1),(1,1)]:=bdT und105 inf105 rfl (by kernel_rfl)
theorem Tryz.bd109:BdT Tryz.tb 109 [.str [],.nils,.nils,.nils] [(0,1),(1,1),(2,1),(3,1)]:=bdT und109 inf109 rfl (by kernel_rfl)
theorem Tryz.bd127:BdT Tryz.tb 127 [.str [],.nils,.nils] [(0,1),(1,1),(2,1)]:=bdT und127 inf127 rfl (by kernel_rfl)
theorem Tryz.bd139:BdT Tryz.tb 139 [.nils,.nils,.nils] [(0,1),(1,1),(2,1)]:=bdT und139 inf139 rfl (by kernel_rfl)
theorem Tryz.bd147:BdT Tryz.tb 147 [.int .i64 0,.int .i64 0] [(0,1),(1,1)]:=bdT und147 inf147 rfl (by kernel_rfl)
theorem Tryz.bd162:BdT Tryz.tb 162 [.str [],.str []] [(0,1),(1,1)]:=bdT und162 inf162 rfl (by kernel_rfl)
def qhc  (w13:qfr Int Bool):Option (Int) :=
 some 0
def qau (p1:q0o) (p2:Int):Nat→Int→(qfr Int Bool)→Option (Int)
 | 0,_,_=>none
 | m1+1,z11,w12 =>
  cond (decide (z11<(p1.Arcs.length:Int)))
   (q04 (q0w p1.Arcs z11) fun x15 =>
   q04 (cond (decide (x15.Feat<0))
    (some true)
    (cond (decide (x15.To<0))
     (some true)
     (some (decide (x15.To ≥ p2))))) fun b19 =>
   cond b19
    (some 2)
    (cond ((mGet (fun a b=>a == b) w12 x15.Feat).getD false)
     (some 4)
     ((qau p1 p2 m1) (IntKind.i64.wrap (z11+1)) (mUpd (fun a b=>a == b) w12 x15.Feat true))))
   (qhc w12)
def qlh (n:Nat) (p1:q0o) (p2:Int):Option (Int) :=
 cond (decide (p1.Typex<0))
  (some 2)
  (qau p1 p2 n 0 (mNew:qfr Int Bool))
def qan (z7:Int) (l8:List q15) (rc2:Int→(List q15)→Option ((List q15))) (x13:q15)  : Option ((List q15)) :=
 rc2 (IntKind.i64.wrap (z7+1)) (l8++[x13])
def qam  (l10:List q15):Option ((List q15)) :=
 some l10
def q5i (p1:List q15):Nat→Int→(List q15)→Option ((List q15))
 | 0,_,_=>none
 | m2+1,z7,l8 =>
  cond (decide (z7<(p1.length:Int)))
   (q04 (q0w p1 z7) fun x13 =>
   q1b ((l8.length+1)*16≤140737488355328∧l8.length+1≤140737488355328) (
   qan z7 l8 (q5i p1 m2) x13))
   (qam l8)
def qdt (n:Nat) (p1:List q15):Option ((List q15)) :=
 q5i p1 n 0 ([]:List q15)
def qf1 (n:Nat) (p1:List q15):Option ((List q15)) :=
 q04 (qdt n p1) fun r2 =>
 some r2
def q6d (n:Nat) (p1:List q15):Option ((List q15)) :=
 q04 (qf1 n p1) fun r2 =>
 q04 (sortO eqA (fun a b=>qlf n a b ) r2) fun r6 =>
 some r6
def q94 (n:Nat) (p1:List q15):Option ((List q15)) :=
 some p1
def q6i (z24:Int) (rc1:Int→(List Int)→(qfr Int Int)→Option ((List Int)×(qfr Int Int))) (l35:List Int) (w37:qfr Int Int):Option ((List Int)×(qfr Int Int)) :=
 rc1 (IntKind.i64.wrap (z24+1)) l35 w37
def qcj  (l28:List Int) (w30:qfr Int Int):Option ((List Int)×(qfr Int Int)) :=
 some (l28,w30)
def q44 (p2:List q0o) (r12:(List q15)) (self:Int→(List q0o)→(List Int)→(qfr Int Int)→Option ((List Int)×(qfr Int Int))):Nat→Int→(List Int)→(qfr Int Int)→Option ((List Int)×(qfr Int Int))
 | 0,_,_,_=>none
 | m1+1,z24,l25,w27 =>
  cond (decide (z24<(r12.length:Int)))
   (q04 (q0w r12 z24) fun x32 =>
   cond (!((mGet (fun a b=>a == b) w27 x32.To).isSome))
    (q04 (self x32.To p2 l25 w27) fun r38 =>
    q6i z24 (q44 p2 r12 self m1) r38.1 r38.2)
    (q6i z24 (q44 p2 r12 self m1) l25 w27))
   (qcj l25 w27)
def qe1 (n:Nat) (self:Int→(List q0o)→(List Int)→(qfr Int Int)→Option ((List Int)×(qfr Int Int))) (p1:Int) (p2:List q0o) (p3:List Int) (p5:qfr Int Int):Option ((List Int)×(qfr Int Int)) :=
 q1b ((p3.length+1)*8≤140737488355328∧p3.length+1≤140737488355328) (
 q04 (q0w p2 p1) fun x7 =>
 q04 (q94 n x7.Arcs) fun r9 =>
 q04 (q6d n r9) fun r12 =>
 q44 p2 r12 self n 0 (p3++[p1]) (mUpd (fun a b=>a == b) p5 p1 (p3.length:Int)))
def q90:Nat→Int→(List q0o)→(List Int)→(qfr Int Int)→Option ((List Int)×(qfr Int Int))
 | 0,_,_,_,_=>none
 | n+1,p1,p2,p3,p5=>qe1 n (q90 n) p1 p2 p3 p5
def qhb (p1:GFS) (r3:(List Int)×(qfr Int Int)) (z14:Int) (l15:List q0o) (rc1:Int→(List q0o)→Option (GFS)) (x19:Int) (l44:List q15):Option (GFS) :=
 q04 (q0w p1.Nodes x19) fun x45 =>
 q04 (qgx l15 0 ((r3.1.length:Int).toNat) z14) fun x47 =>
 rc1 (IntKind.i64.wrap (z14+1)) (l15.set z14.toNat (q0o.mk x45.Typex l44))
def qat (p1:GFS) (r3:(List Int)×(qfr Int Int)) (z14:Int) (l15:List q0o) (rc1:Int→(List q0o)→Option (GFS)) (x19:Int) (r26:(List q15)):Nat→Int→(List q15)→Option (GFS)
 | 0,_,_=>none
 | m2+1,z42,l43 =>
  cond (decide (z42<(r26.length:Int)))
   (q04 (q0w l43 z42) fun x50 =>
   q04 (q0w l43 z42) fun x52 =>
   (qat p1 r3 z14 l15 rc1 x19 r26 m2) (IntKind.i64.wrap (z42+1)) (l43.set (0+z42.toNat) (q15.mk x52.Feat ((mGet (fun a b=>a == b) r3.2 x50.To).getD 0))))
   (qhb p1 r3 z14 l15 rc1 x19 l43)
def qha (r3:(List Int)×(qfr Int Int)) (l16:List q0o):Option (GFS) :=
 q1b ((r3.1.length:Int).toNat=l16.length) (
 some (GFS.mk l16))
def qas (p1:GFS) (n:Nat) (r3:(List Int)×(qfr Int Int)):Nat→Int→(List q0o)→Option (GFS)
 | 0,_,_=>none
 | m1+1,z14,l15 =>
  cond (decide (z14<(r3.1.length:Int)))
   (q04 (q0w r3.1 z14) fun x19 =>
   q04 (q0w p1.Nodes x19) fun x21 =>
   q04 (q94 n x21.Arcs) fun r23 =>
   q04 (q6d n r23) fun r26 =>
   qat p1 r3 z14 l15 (qas p1 n r3 m1) x19 r26 n 0 r26)
   (qha r3 l15)
def qlg (n:Nat) (p1:GFS) (p2:Int):Option (GFS) :=
 q04 (q90 n p2 p1.Nodes ([]:List Int) (mNew:qfr Int Int)) fun r3 =>
 q1b (0≤(r3.1.length:Int)∧32*(r3.1.length:Int).toNat≤281474976710656∧(r3.1.length:Int)≤281474976710656) (
 qas p1 n r3 n 0 (List.replicate (r3.1.length:Int).toNat (q0o.mk 0 [])))
def qms (p1:GFS) (n:Nat)  : Option (GFS×Int) :=
 q04 (qlg n p1 0) fun r9 =>
 some (r9,0)
def qmt (p1:GFS) (n:Nat):Nat→Int→Option (GFS×Int)
 | 0,_=>none
 | m1+1,z8 =>
  cond (decide (z8<(p1.Nodes.length:Int)))
   (q04 (q0w p1.Nodes z8) fun x12 =>
   q04 (qlh n x12 (p1.Nodes.length:Int)) fun r14 =>
   cond (r14 != 0)
    (some ((GFS.mk []),r14))
    ((qmt p1 n m1) (IntKind.i64.wrap (z8+1))))
   (qms p1 n)
def q9t (z6:Int) (rc1:Int→Option (Int))  : Option (Int) :=
 rc1 (IntKind.i64.wrap (z6+1))
def q5d (p1:List q15) (z6:Int) (rc1:Int→Option (Int)):Nat→Int→Option (Int)
 | 0,_=>none
 | m2+1,z23 =>
  cond (decide (z23<z6))
   (q04 (q0w p1 z23) fun x25 =>
   q04 (q0w p1 z6) fun x27 =>
   cond (x25.Feat == x27.Feat)
    (some 4)
    ((q5d p1 z6 rc1 m2) (IntKind.i64.wrap (z23+1))))
   (q9t z6 rc1)
def q9s   : Option (Int) :=
 some 0
def q2v (p1:List q15) (p2:Int) (n:Nat):Nat→Int→Option (Int)
 | 0,_=>none
 | m1+1,z6 =>
  cond (decide (z6<(p1.length:Int)))
   (q04 (q04 (q0w p1 z6) fun x8 =>
   cond (decide (x8.Feat<0))
    (some true)
    (q04 (q0w p1 z6) fun x11 =>
    cond (decide (x11.To<0))
     (some true)
     (q04 (q0w p1 z6) fun x14 =>
     some (decide (x14.To ≥ p2))))) fun b16 =>
   cond b16
    (some 2)
    (q5d p1 z6 (q2v p1 p2 n m1) n 0))
   (q9s)
def qfe (n:Nat) (p1:List q15) (p2:Int):Option (Int) :=
 q2v p1 p2 n n 0
theorem qqp (n:Nat) (p1:List q15) (p2:Int) (r:Int) (hF:qfe n p1 p2=some r):EvU Tryz.prog 87 [.isl false (List.map q0d p1),.int .i64 p2] ⟨[],0⟩ (fun u _=>u = .int .i64 r∧Bel 0 u):=by
 unfold qfe at hF
 refine bg2 52 fn87 ?_
 refine go ?_
 refine gS (l':=[(0,_),(1,_),(5,_)]) ?_
 refine z2x (fun m tm σ=>∃ z6:Int,q2v p1 p2 n m z6=some r∧tm=fr 52 [(0,.iM q0d p1),(1,.i6 p2),(5,.i6 z6)]∧σ=⟨[],0⟩) (fun tm σ=>q9s=some r∧tm=fr 52 []∧σ=⟨[],0⟩) n ⟨0,hF,rfl,rfl⟩ ?_ ?_
 rintro _ _ ⟨hF,rfl,rfl⟩
 unfold q9s at hF
 exact gx hF
 rintro (_|m1) _ _ ⟨z6,hF,rfl,rfl⟩
 cases hF
 unfold q2v at hF
 refine go ?_
 refine RS.q rfl (q0c rfl rfl rfl (q08 q0d und52)) ?_
 refine go ?_
 refine cF hF (fun h7 hF=>?_) (fun h7 hF=>?_)
 refine go ?_
 refine WPU.block ?_
 obtain ⟨b16,h17,hF⟩:=q00 hF
 refine gn ?_
 refine z2y (fun tm σ=>tm=fr 52 [(0,.iM q0d p1),(1,.i6 p2),(5,.i6 z6),(35,.bool b16)]∧σ=⟨[],0⟩) ?_ ?_
 rintro _ _ ⟨rfl,rfl⟩
 refine go ?_
 refine cF hF (fun h18 hF=>?_) (fun h18 hF=>?_)
 exact gx hF
 refine go ?_
 refine gS (l':=[(0,_),(1,_),(5,_),(6,_)]) ?_
 refine z2x (fun m tm σ=>∃ z23:Int,q5d p1 z6 (q2v p1 p2 n m1) m z23=some r∧tm=fr 52 [(0,.iM q0d p1),(1,.i6 p2),(5,.i6 z6),(6,.i6 z23)]∧σ=⟨[],0⟩) (fun tm σ=>q9t z6 (q2v p1 p2 n m1)=some r∧tm=fr 52 [(0,.iM q0d p1),(1,.i6 p2),(5,.i6 z6)]∧σ=⟨[],0⟩) n ⟨0,hF,rfl,rfl⟩ ?_ ?_
 rintro _ _ ⟨hF,rfl,rfl⟩
 unfold q9t at hF
 refine go ?_
 exact lC ⟨_,hF,rfl,rfl⟩
 rintro (_|m2) _ _ ⟨z23,hF,rfl,rfl⟩
 cases hF
 unfold q5d at hF
 refine go ?_
 refine cF hF (fun h24 hF=>?_) (fun h24 hF=>?_)
 refine go ?_
 refine WPU.block ?_
 obtain ⟨x25,h26,hF⟩:=q00 hF
 obtain ⟨x27,h28,hF⟩:=q00 hF
 refine go ?_
 refine z2z Tryz.tb_ok [] (by kernel_rfl) ?_
 repeat refine RD.mv rfl rfl rfl rfl ?_
 refine RD.q rfl (q0f rfl rfl (q07 q0d und52 (q03 inf66) q0l h26 rfl)) (RD.q rfl (q1d und66 rfl (q03 inf3) rfl rfl) (RD.q rfl (q0b und3 rfl rfl rfl) ?_))
 repeat refine RD.mv rfl rfl rfl rfl ?_
 refine RD.q rfl (q0f rfl rfl (q07 q0d und52 (q03 inf66) q0l h28 rfl)) (RD.q rfl (q1d und66 rfl (q03 inf3) rfl rfl) (RD.q rfl (q0b und3 rfl rfl rfl) (RD.q rfl (q34 rfl rfl (z0s _ _ _) rfl) ?_)))
 refine RD.done ⟨by kernel_rfl,trivial,?_⟩
 refine go ?_
 refine cF hF (fun h29 hF=>?_) (fun h29 hF=>?_)
 exact gx hF
 refine go ?_
 exact lC ⟨_,hF,rfl,rfl⟩
 refine go ?_
 exact xC ⟨hF,rfl,rfl⟩
 obtain ⟨x8,h9,h17⟩:=q00 h17
 rcases gB h17 with ⟨h10,h17⟩ | ⟨h10,h17⟩
 obtain rfl:=sI h17
 refine go ?_
 refine RS.q rfl (q0f rfl rfl (q07 q0d und52 (q03 inf66) q0l h9 rfl)) (RS.q rfl (q1d und66 rfl (q03 inf3) rfl rfl) (RS.q rfl (q0b und3 rfl rfl rfl) ?_))
 refine go ?_
 exact xC ⟨rfl,rfl⟩
 obtain ⟨x11,h12,h17⟩:=q00 h17
 rcases gB h17 with ⟨h13,h17⟩ | ⟨h13,h17⟩
 obtain rfl:=sI h17
 refine go ?_
 refine RS.q rfl (q0f rfl rfl (q07 q0d und52 (q03 inf66) q0l h9 rfl)) (RS.q rfl (q1d und66 rfl (q03 inf3) rfl rfl) (RS.q rfl (q0b und3 rfl rfl rfl) ?_))
 refine go ?_
 refine RS.w rfl (q0f rfl rfl (q07 q0d und52 (q03 inf66) q0l h12 rfl)) (RS.w rfl (q1d und66 rfl (q03 inf3) rfl rfl) (RS.w rfl (q0b und3 rfl rfl rfl) ?_))
 refine go ?_
 exact xC ⟨rfl,rfl⟩
 obtain ⟨x14,h15,h17⟩:=q00 h17
 obtain rfl:=sI h17
 refine go ?_
 refine RS.q rfl (q0f rfl rfl (q07 q0d und52 (q03 inf66) q0l h9 rfl)) (RS.q rfl (q1d und66 rfl (q03 inf3) rfl rfl) (RS.q rfl (q0b und3 rfl rfl rfl) ?_))
 refine go ?_
 refine RS.w rfl (q0f rfl rfl (q07 q0d und52 (q03 inf66) q0l h12 rfl)) (RS.w rfl (q1d und66 rfl (q03 inf3) rfl rfl) (RS.w rfl (q0b und3 rfl rfl rfl) ?_))
 refine go ?_
 refine RS.w rfl (q0f rfl rfl (q07 q0d und52 (q03 inf66) q0l h15 rfl)) (RS.w rfl (q1d und66 rfl (q03 inf3) rfl rfl) (RS.w rfl (q0b und3 rfl rfl rfl) ?_))
 refine go ?_
 exact xC ⟨rfl,rfl⟩
 refine go ?_
 exact xC ⟨hF,rfl,rfl⟩
def q9u   : Option (Int) :=
 some 0
def q5e (p1:GFS) (n:Nat):Nat→Int→Option (Int)
 | 0,_=>none
 | m1+1,z6 =>
  cond (decide (z6<(p1.Nodes.length:Int)))
   (q04 (q0w p1.Nodes z6) fun x8 =>
   cond (decide (x8.Typex<0))
    (some 2)
    (q04 (q0w p1.Nodes z6) fun x11 =>
    q04 (qfe n x11.Arcs (p1.Nodes.length:Int)) fun r13 =>
    cond (r13 != 0)
     (some r13)
     ((q5e p1 n m1) (IntKind.i64.wrap (z6+1)))))
   (q9u)
def qcd (n:Nat) (p1:GFS):Option (Int) :=
 cond ((p1.Nodes.length:Int) == 0)
  (some 1)
  (cond (decide ((p1.Nodes.length:Int) > 4096))
   (some 7)
   (q5e p1 n n 0))
theorem qqq (n:Nat) (p1:GFS) (r:Int) (hF:qcd n p1=some r):EvU Tryz.prog 67 [.agg [.isl false (List.map q01 p1.Nodes)]] ⟨[],0⟩ (fun u _=>u = .int .i64 r∧Bel 0 u):=by
 unfold qcd at hF
 refine bg1 40 fn67 ?_
 refine go ?_
 refine RS.q (u:=.ptr 0 0 0) (σ':=⟨[(0,.row [.iM q01 p1.Nodes] 24)],1⟩) rfl (q3r rfl rfl rfl) ?_
 refine go ?_
 refine RS.q rfl (q0z und24 rfl (q03 inf22) rfl rfl rfl) (RS.q rfl (q0n und22 rfl rfl rfl rfl) (RS.q rfl (q0c rfl rfl rfl (q08 q01 und22)) ?_))
 refine go ?_
 refine cF hF (fun h2 hF=>?_) (fun h2 hF=>?_)
 exact gx hF
 refine go ?_
 refine RS.q rfl (q0z und24 rfl (q03 inf22) rfl rfl rfl) (RS.q rfl (q0n und22 rfl rfl rfl rfl) (RS.q rfl (q0c rfl rfl rfl (q08 q01 und22)) ?_))
 refine go ?_
 refine cF hF (fun h3 hF=>?_) (fun h3 hF=>?_)
 exact gx hF
 refine go ?_
 refine gS (l':=[(1,_),(3,_)]) ?_
 refine z2x (fun m tm σ=>∃ z6:Int,q5e p1 n m z6=some r∧tm=fr 40 [(1,.ptr 0 0 0),(3,.i6 z6)]∧σ=⟨[(0,.row [.iM q01 p1.Nodes] 24)],1⟩) (fun tm σ=>q9u=some r∧tm=fr 40 []∧σ=⟨[(0,.row [.iM q01 p1.Nodes] 24)],1⟩) n ⟨0,hF,rfl,rfl⟩ ?_ ?_
 rintro _ _ ⟨hF,rfl,rfl⟩
 unfold q9u at hF
 exact gx hF
 rintro (_|m1) _ _ ⟨z6,hF,rfl,rfl⟩
 cases hF
 unfold q5e at hF
 refine go ?_
 refine RS.q rfl (q0z und24 rfl (q03 inf22) rfl rfl rfl) (RS.q rfl (q0n und22 rfl rfl rfl rfl) (RS.q rfl (q0c rfl rfl rfl (q08 q01 und22)) ?_))
 refine go ?_
 refine cF hF (fun h7 hF=>?_) (fun h7 hF=>?_)
 refine go ?_
 refine WPU.block ?_
 obtain ⟨x8,h9,hF⟩:=q00 hF
 refine go ?_
 refine RS.q rfl (q0z und24 rfl (q03 inf22) rfl rfl rfl) (RS.q rfl (q0n und22 rfl rfl rfl rfl) ?_)
 refine go ?_
 refine RS.q rfl (q0f rfl rfl (q07 q01 und22 (q03 inf54) q1n h9 rfl)) (RS.q rfl (q1d und54 rfl (q03 inf3) rfl rfl) (RS.q rfl (q0b und3 rfl rfl rfl) ?_))
 refine go ?_
 refine cF hF (fun h10 hF=>?_) (fun h10 hF=>?_)
 exact gx hF
 obtain ⟨x11,h12,hF⟩:=q00 hF
 obtain ⟨r13,h14,hF⟩:=q00 hF
 refine go ?_
 refine z2z Tryz.tb_ok [] (by kernel_rfl) ?_
 refine RD.q rfl (q0z und24 rfl (q03 inf22) rfl rfl rfl) (RD.q rfl (q0n und22 rfl rfl rfl rfl) (RD.mv rfl rfl rfl rfl (RD.q rfl (q0f rfl rfl (q07 q01 und22 (q03 inf54) q1n h12 rfl)) (RD.q rfl (q1d und54 rfl (q03 inf52) rfl rfl) (RD.q rfl (q0b und52 rfl rfl rfl) (RD.q rfl (q0z und24 rfl (q03 inf22) rfl rfl rfl) (RD.q rfl (q0n und22 rfl rfl rfl rfl) ?_)))))))
 refine RD.q rfl (q0c rfl rfl rfl (q08 q01 und22)) (RD.fl rfl (pC (qqp n x11.Arcs (p1.Nodes.length:Int) r13 h14)) fn87 (RD.as rfl rfl rfl rfl ?_))
 refine RD.done ⟨by kernel_rfl,trivial,?_⟩
 refine go ?_
 refine cF hF (fun h15 hF=>?_) (fun h15 hF=>?_)
 exact gx hF
 refine go ?_
 exact lC ⟨_,hF,rfl,rfl⟩
 refine go ?_
 exact xC ⟨hF,rfl,rfl⟩
def q42 (p1:List q15) (z6:Int) (l7:List q15) (rc1:Int→(List q15)→Option ((List q15))) (z18:Int):Option ((List q15)) :=
 q1b ((0:Int)≤z18∧z18≤((l7.length:Nat):Int)) (
 q1b (0+z18.toNat≤l7.length) (
 q1b (((l7.drop 0).take z18.toNat).length*16≤140737488355328∧((l7.drop 0).take z18.toNat).length≤140737488355328) (
 q04 (q0w p1 z6) fun x22 =>
 q1b ((((l7.drop 0).take z18.toNat).length+1)*16≤140737488355328∧((l7.drop 0).take z18.toNat).length+1≤140737488355328) (
 q1b ((0:Int)≤z18∧z18≤((l7.length:Nat):Int)) (
 q1b ((0+z18.toNat)+(l7.length - z18.toNat)≤l7.length) (
 q1b (((((l7.drop 0).take z18.toNat)++[x22]).length+((l7.drop (0+z18.toNat)).take (l7.length - z18.toNat)).length)*16≤140737488355328∧(((l7.drop 0).take z18.toNat)++[x22]).length+((l7.drop (0+z18.toNat)).take (l7.length - z18.toNat)).length≤140737488355328) (
 rc1 (IntKind.i64.wrap (z6+1)) ((((l7.drop 0).take z18.toNat)++[x22])++((l7.drop (0+z18.toNat)).take (l7.length - z18.toNat))))))))))
def q43 (p1:List q15) (z6:Int) (l7:List q15) (rc1:Int→(List q15)→Option ((List q15))):Nat→Int→Option ((List q15))
 | 0,_=>none
 | m2+1,z17 =>
  q04 (cond (decide (z17 > 0))
   (q04 (q0w l7 (IntKind.i64.wrap (z17 - 1))) fun x29 =>
   q04 (q0w p1 z6) fun x31 =>
   some (decide (x29.Feat > x31.Feat)))
   (some false)) fun b33 =>
  cond b33
   ((q43 p1 z6 l7 rc1 m2) (IntKind.i64.wrap (z17 - 1)))
   (q42 p1 z6 l7 rc1 z17)
def q72  (l9:List q15):Option ((List q15)) :=
 some l9
def q2a (p1:List q15) (n:Nat):Nat→Int→(List q15)→Option ((List q15))
 | 0,_,_=>none
 | m1+1,z6,l7 =>
  cond (decide (z6<(p1.length:Int)))
   (q43 p1 z6 l7 (q2a p1 n m1) n (l7.length:Int))
   (q72 l7)
def q8n (n:Nat) (p1:List q15):Option ((List q15)) :=
 q2a p1 n n 0 ([]:List q15)
theorem qfw (n:Nat) (p1:List q15) (r:(List q15)) (hF:q8n n p1=some r):EvU Tryz.prog 89 [.isl false (List.map q0d p1)] ⟨[],0⟩ (fun u σ'=>∃ t,u = .vl 0 t 0 r.length∧σ'=⟨[(0,.vec (List.map q0d r).flatten 66 2 t)],0+1⟩):=by
 unfold q8n at hF
 refine bg1 52 fn89 ?_
 refine gr ?_
 refine gr ?_
 refine gr ?_
 refine WPU.ghost (tm':=fr 52 [(0,.iM q0d p1),(3,.vl 0 0 0 (([]:List q15).length)),(4,.i6 0)]) (σ':=⟨[(0,.vec (List.map q0d ([]:List q15)).flatten 66 2 0)],1⟩) (Gh.trans (z39 3 66 2 (by decide) NZ rfl rfl) (z38 ⟨rfl,rfl,rfl,trivial⟩ rfl)) NZ ?_
 refine gS (l':=[(0,_),(3,_),(4,_)]) ?_
 refine z2x (fun m tm σ=>∃ z6:Int,∃ l7:List q15,∃ t8:Nat,q2a p1 n m z6 l7=some r∧tm=fr 52 [(0,.iM q0d p1),(3,.vl 0 t8 0 l7.length),(4,.i6 z6)]∧σ=⟨[(0,.vec (List.map q0d l7).flatten 66 2 t8)],1⟩) (fun tm σ=>∃ l9:List q15,∃ t10:Nat,q72 l9=some r∧tm=fr 52 [(3,.vl 0 t10 0 l9.length)]∧σ=⟨[(0,.vec (List.map q0d l9).flatten 66 2 t10)],1⟩) n ⟨0,([]:List q15),0,hF,rfl,rfl⟩ ?_ ?_
 rintro _ _ ⟨l9,t10,hF,rfl,rfl⟩
 unfold q72 at hF
 refine go ?_
 obtain rfl:=sI hF
 exact ⟨.inr rfl,[.vl 0 t10 0 l9.length],q2l rfl q3b,.vl 0 t10 0 l9.length,⟨[(0,.vec (List.map q0d l9).flatten 66 2 t10)],1⟩,NZ,Gh.trans (z3k (fun k=>Nat.beq k 0)) (Gh.to (n1:=1) [] rfl rfl NZ NL BUL.h BH.h),t10,rfl,rfl⟩
 rintro (_|m1) _ _ ⟨z6,l7,t8,hF,rfl,rfl⟩
 cases hF
 unfold q2a at hF
 refine go ?_
 refine RS.q rfl (q0c rfl rfl rfl (q08 q0d und52)) ?_
 refine go ?_
 refine cF hF (fun h11 hF=>?_) (fun h11 hF=>?_)
 refine go ?_
 refine WPU.block ?_
 refine go ?_
 refine RS.q rfl (q0c rfl rfl rfl (q92 und52 rfl)) ?_
 refine go ?_
 refine gS (l':=[(0,_),(3,_),(4,_),(5,_)]) ?_
 refine z2x (fun m tm σ=>∃ z17:Int,q43 p1 z6 l7 (q2a p1 n m1) m z17=some r∧tm=fr 52 [(0,.iM q0d p1),(3,.vl 0 t8 0 l7.length),(4,.i6 z6),(5,.i6 z17)]∧σ=⟨[(0,.vec (List.map q0d l7).flatten 66 2 t8)],1⟩) (fun tm σ=>∃ z18:Int,q42 p1 z6 l7 (q2a p1 n m1) z18=some r∧tm=fr 52 [(0,.iM q0d p1),(3,.vl 0 t8 0 l7.length),(4,.i6 z6),(5,.i6 z18)]∧σ=⟨[(0,.vec (List.map q0d l7).flatten 66 2 t8)],1⟩) n ⟨(l7.length:Int),hF,rfl,rfl⟩ ?_ ?_
 rintro _ _ ⟨z18,hF,rfl,rfl⟩
 unfold q42 at hF
 obtain ⟨h19,hF⟩:=q09 hF
 obtain ⟨h20,hF⟩:=q09 hF
 obtain ⟨h21,hF⟩:=q09 hF
 refine go ?_
 refine RS.q (u:=.vl 0 t8 0 z18.toNat) rfl (qb0 rfl qr4 (z0e rfl) qr4 (qzx q0d und52 (q03 inf66) q0l (vo rfl) (Nat.le_of_eq (Nat.zero_add _)) (qve h19.1 h19.2))) (RS.q (u:=.vl 1 0 0 (((l7.drop 0).take z18.toNat).length)) (σ':=⟨[(1,.vec (List.map q0d ((l7.drop 0).take z18.toNat)).flatten 66 2 0),(0,.vec (List.map q0d l7).flatten 66 2 t8)],2⟩) rfl (q1i rfl rfl rfl rfl (qrb q0d ((l7.drop 0).take z18.toNat) und52 und52 inf66 rfl (qtv q0d q0l (vo rfl) h20) h21)) ?_)
 obtain ⟨x22,h23,hF⟩:=q00 hF
 obtain ⟨h24,hF⟩:=q09 hF
 refine go ?_
 refine RS.q rfl (q0f rfl rfl (q07 q0d und52 (q03 inf66) q0l h23 rfl)) (RS.q (u:=.agg (q0d x22)) rfl (qav und66 rfl (q03 inf66) rfl rfl) (RS.q (u:=.sl 2 0 1 1) (σ':=⟨[(2,.row (q0d x22) 66),(1,.vec (List.map q0d ((l7.drop 0).take z18.toNat)).flatten 66 2 0),(0,.vec (List.map q0d l7).flatten 66 2 t8)],3⟩) rfl (q0k und52 inf66 rfl rfl rfl rfl rfl rfl rfl) (RS.q (u:=.vl 1 1 0 ((((l7.drop 0).take z18.toNat)++[x22]).length)) (σ':=⟨[(2,.row (q0d x22) 66),(1,.vec (List.map q0d (((l7.drop 0).take z18.toNat)++[x22])).flatten 66 2 1),(0,.vec (List.map q0d l7).flatten 66 2 t8)],3⟩) rfl (q1i rfl rfl rfl rfl (q1s q0d ([x22]) und52 und52 inf66 rfl q0l rfl (q1l q0d [x22] rfl rfl rfl rfl) h24)) ?_)))
 obtain ⟨h25,hF⟩:=q09 hF
 obtain ⟨h26,hF⟩:=q09 hF
 obtain ⟨h27,hF⟩:=q09 hF
 refine go ?_
 refine RS.q (u:=.vl 0 t8 (0+z18.toNat) (l7.length - z18.toNat)) rfl (qb0 rfl (z0e rfl) qr4 qr4 (qzx q0d und52 (q03 inf66) q0l (vo rfl) (Nat.le_of_eq (Nat.zero_add _)) (qvf h25.1 h25.2))) (RS.q (u:=.vl 1 2 0 (((((l7.drop 0).take z18.toNat)++[x22])++((l7.drop (0+z18.toNat)).take (l7.length - z18.toNat))).length)) (σ':=⟨[(2,.row (q0d x22) 66),(1,.vec (List.map q0d ((((l7.drop 0).take z18.toNat)++[x22])++((l7.drop (0+z18.toNat)).take (l7.length - z18.toNat)))).flatten 66 2 2),(0,.vec (List.map q0d l7).flatten 66 2 t8)],3⟩) rfl (q1i rfl rfl rfl rfl (q1s q0d ((l7.drop (0+z18.toNat)).take (l7.length - z18.toNat)) und52 und52 inf66 rfl q0l rfl (qtv q0d q0l (vo rfl) h26) h27)) ?_)
 refine go ?_
 exact ⟨m1,_,_,Nat.lt_succ_self _,⟨(IntKind.i64.wrap (z6+1)),((((l7.drop 0).take z18.toNat)++[x22])++((l7.drop (0+z18.toNat)).take (l7.length - z18.toNat))),2,hF,rfl,rfl⟩,NZ,Gh.trans (Gh.sub (l':=[(0,.iM q0d p1),(3,.vl 1 2 0 (((((l7.drop 0).take z18.toNat)++[x22])++((l7.drop (0+z18.toNat)).take (l7.length - z18.toNat))).length)),(4,.i6 (IntKind.i64.wrap (z6+1)))]) ⟨rfl,rfl,rfl,trivial⟩) (Gh.trans (Gh.mv (l':=[(0,.iM q0d p1),(3,.vl 0 2 0 (((((l7.drop 0).take z18.toNat)++[x22])++((l7.drop (0+z18.toNat)).take (l7.length - z18.toNat))).length)),(4,.i6 (IntKind.i64.wrap (z6+1)))]) (h':=[(2,.row (q0d x22) 66),(0,.vec (List.map q0d ((((l7.drop 0).take z18.toNat)++[x22])++((l7.drop (0+z18.toNat)).take (l7.length - z18.toNat)))).flatten 66 2 2)]) 0 1 NZ rfl rfl (by simp only [rS,rU,rUL,qen,mvN,Nat.beq,cond_true,cond_false]) rfl (by simp only [avH,rB,qnq,rUL,rU,qen,qtf,mvN,Nat.beq,cond_true,cond_false,and_self])) (Gh.toC (n1:=1) ⟨rfl,rfl,rfl,trivial⟩ rfl NZ (by simp)))⟩
 rintro (_|m2) _ _ ⟨z17,hF,rfl,rfl⟩
 cases hF
 unfold q43 at hF
 obtain ⟨b33,h34,hF⟩:=q00 hF
 refine gn ?_
 refine z2y (fun tm σ=>tm=fr 52 [(0,.iM q0d p1),(3,.vl 0 t8 0 l7.length),(4,.i6 z6),(5,.i6 z17),(30,.bool b33)]∧σ=⟨[(0,.vec (List.map q0d l7).flatten 66 2 t8)],1⟩) ?_ ?_
 rintro _ _ ⟨rfl,rfl⟩
 refine go ?_
 refine cF hF (fun h35 hF=>?_) (fun h35 hF=>?_)
 refine go ?_
 refine WPU.block ?_
 refine go ?_
 exact lC ⟨_,hF,rfl,rfl⟩
 refine go ?_
 exact xC ⟨z17,hF,rfl,rfl⟩
 rcases gB h34 with ⟨h28,h34⟩ | ⟨h28,h34⟩
 obtain ⟨x29,h30,h34⟩:=q00 h34
 obtain ⟨x31,h32,h34⟩:=q00 h34
 obtain rfl:=sI h34
 refine z2z Tryz.tb_ok [] (by kernel_rfl) ?_
 refine RD.mv rfl rfl rfl rfl (RD.q rfl (q34 rfl rfl (qll _ _ _) rfl) (RD.mv rfl rfl rfl rfl (RD.w rfl (q0s rfl) (RD.w rfl (q0s rfl) (RD.w rfl (q34 rfl rfl (qwk _ _ _) rfl) ?_)))))
 refine RD.w rfl (q0f rfl rfl (q8t q0d und52 (q03 inf66) (by decide) q0l (vo rfl) h30)) ?_
 refine RD.w rfl (q0z und66 rfl (q03 inf3) rfl (qq4 rfl) rfl) (RD.w (u:=.i6 x29.Feat) rfl (qzd q0d und3 rfl q0l rfl rfl (qni h30) rfl) (RD.w rfl (q0s rfl) (RD.w rfl (q0s rfl) (RD.w rfl (q0f rfl rfl (q07 q0d und52 (q03 inf66) q0l h32 rfl)) (RD.w rfl (q1d und66 rfl (q03 inf3) rfl rfl) (RD.w rfl (q0b und3 rfl rfl rfl) (RD.w rfl (q34 rfl rfl (qll _ _ _) rfl) ?_)))))))
 refine RD.q rfl (qaz rfl h28 rfl) ?_
 refine RD.done ⟨by kernel_rfl,trivial,?_⟩
 refine go ?_
 exact xC ⟨rfl,rfl⟩
 obtain rfl:=sI h34
 refine z2z Tryz.tb_ok [] (by kernel_rfl) ?_
 refine RD.mv rfl rfl rfl rfl (RD.q rfl (q34 rfl rfl (qll _ _ _) rfl) (RD.mv rfl rfl rfl rfl ?_))
 repeat refine RD.no (qp4 rfl rfl rfl h28) rfl rfl ?_
 refine RD.q rfl (qay rfl h28 rfl) ?_
 refine RD.done ⟨by kernel_rfl,trivial,?_⟩
 refine go ?_
 exact xC ⟨rfl,rfl⟩
 refine go ?_
 exact xC ⟨l7,t8,hF,rfl,rfl⟩
def q1t (z23:Int) (rc1:Int→(List Int)→(List Int)→Option ((List Int)×(List Int))) (l36:List Int) (l37:List Int):Option ((List Int)×(List Int)) :=
 rc1 (IntKind.i64.wrap (z23+1)) l36 l37
def q3e  (l27:List Int) (l28:List Int):Option ((List Int)×(List Int)) :=
 some (l27,l28)
def q1e (p2:List q0o) (r12:List q15) (self:Int→(List q0o)→(List Int)→(List Int)→Option ((List Int)×(List Int))):Nat→Int→(List Int)→(List Int)→Option ((List Int)×(List Int))
 | 0,_,_,_=>none
 | m1+1,z23,l24,l25 =>
  cond (decide (z23<(r12.length:Int)))
   (q04 (q0w r12 z23) fun x31 =>
   q04 (q0w l24 x31.To) fun x33 =>
   cond (decide (x33<0))
    (q04 (q0w r12 z23) fun x39 =>
    q04 (self x39.To p2 l24 l25) fun r41 =>
    q1t z23 (q1e p2 r12 self m1) r41.1 r41.2)
    (q1t z23 (q1e p2 r12 self m1) l24 l25))
   (q3e l24 l25)
def q3n (n:Nat) (self:Int→(List q0o)→(List Int)→(List Int)→Option ((List Int)×(List Int))) (p1:Int) (p2:List q0o) (p3:List Int) (p5:List Int):Option ((List Int)×(List Int)) :=
 q04 (q0w p3 p1) fun x7 =>
 q1b ((p5.length+1)*8≤140737488355328∧p5.length+1≤140737488355328) (
 q04 (q0w p2 p1) fun x10 =>
 q04 (q8n n x10.Arcs) fun r12 =>
 q1e p2 r12 self n 0 (p3.set (0+p1.toNat) (p5.length:Int)) (p5++[p1]))
def q1h:Nat→Int→(List q0o)→(List Int)→(List Int)→Option ((List Int)×(List Int))
 | 0,_,_,_,_=>none
 | n+1,p1,p2,p3,p5=>q3n n (q1h n) p1 p2 p3 p5
theorem q8o:∀ (n:Nat) (p1:Int) (p2:List q0o) (p3:List Int) (p5:List Int) (r:(List Int)×(List Int)),q1h n p1 p2 p3 p5=some r→∀ t4 t6:Nat,EvU Tryz.prog 88 [.ptr 0 0 0,.int .i64 p1] ⟨[(0,.row [.isl false (List.map q01 p2),.vl 1 t4 0 p3.length,.vl 2 t6 0 p5.length] 139),(1,.vec (List.map (cI .i64) p3).flatten 3 1 t4),(2,.vec (List.map (cI .i64) p5).flatten 3 1 t6)],3⟩ (fun u σ'=>∃ t:Nat→Nat,u = .tup []∧σ'=⟨[(0,.row [.isl false (List.map q01 p2),.vl 1 t4 0 r.1.length,.vl 2 (t 0) 0 r.2.length] 139),(1,.vec (List.map (cI .i64) r.1).flatten 3 1 t4),(2,.vec (List.map (cI .i64) r.2).flatten 3 1 (t 0))],3⟩)
 | 0,p1,p2,p3,p5,r,hF=>by cases hF
 | n+1,p1,p2,p3,p5,r,hF=>by
  have ih:=q8o n
  unfold q1h q3n at hF
  intro t4 t6
  refine bg2 62 fn88 ?_
  obtain ⟨x7,h8,hF⟩:=q00 hF
  refine gn ?_
  refine z2y (fun tm σ=>tm=fr 62 [(0,.ptr 0 0 0),(1,.i6 p1)]∧σ=⟨[(0,.row [.iM q01 p2,.vl 1 t4 0 ((p3.set (0+p1.toNat) (p5.length:Int)).length),.vl 2 t6 0 p5.length] 139),(1,.vec (List.map (cI .i64) (p3.set (0+p1.toNat) (p5.length:Int))).flatten 3 1 t4),(2,.vec (List.map (cI .i64) p5).flatten 3 1 t6)],3⟩) ?_ ?_
  rintro _ _ ⟨rfl,rfl⟩
  obtain ⟨h9,hF⟩:=q09 hF
  refine go ?_
  refine RS.q (u:=.ptr 0 0 0) rfl (qdz rfl rfl) (RS.q rfl (q0z und139 rfl (q03 inf33) rfl rfl rfl) (RS.q rfl (q0n und33 rfl rfl rfl rfl) ?_))
  refine go ?_
  refine RS.q (u:=.sl 3 0 1 1) (σ':=⟨[(3,.row [.i6 p1] 3),(0,.row [.iM q01 p2,.vl 1 t4 0 ((p3.set (0+p1.toNat) (p5.length:Int)).length),.vl 2 t6 0 p5.length] 139),(1,.vec (List.map (cI .i64) (p3.set (0+p1.toNat) (p5.length:Int))).flatten 3 1 t4),(2,.vec (List.map (cI .i64) p5).flatten 3 1 t6)],4⟩) rfl (q0k und33 inf3 rfl rfl rfl rfl rfl rfl rfl) (RS.q (u:=.vl 2 (t6+1) 0 ((p5++[p1]).length)) (σ':=⟨[(3,.row [.i6 p1] 3),(0,.row [.iM q01 p2,.vl 1 t4 0 ((p3.set (0+p1.toNat) (p5.length:Int)).length),.vl 2 t6 0 p5.length] 139),(1,.vec (List.map (cI .i64) (p3.set (0+p1.toNat) (p5.length:Int))).flatten 3 1 t4),(2,.vec (List.map (cI .i64) (p5++[p1])).flatten 3 1 (t6+1))],4⟩) rfl (q1i rfl rfl rfl rfl (q1s (cI .i64) ([p1]) und33 und33 inf3 rfl (q13 .i64) rfl (q1l (cI .i64) [p1] rfl rfl rfl rfl) h9)) (RS.q (u:=.ptr 0 0 0) rfl (qdz rfl rfl) (RS.q rfl (q0z und139 rfl (q03 inf33) rfl rfl rfl) ?_)))
  refine z36 (u:=.junk) (σ':=⟨[(3,.row [.i6 p1] 3),(0,.row [.iM q01 p2,.vl 1 t4 0 ((p3.set (0+p1.toNat) (p5.length:Int)).length),.vl 2 (t6+1) 0 ((p5++[p1]).length)] 139),(1,.vec (List.map (cI .i64) (p3.set (0+p1.toNat) (p5.length:Int))).flatten 3 1 t4),(2,.vec (List.map (cI .i64) (p5++[p1])).flatten 3 1 (t6+1))],4⟩) rfl (q0v (q03 inf33) rfl rfl rfl rfl rfl rfl rfl rfl) rfl ?_
  obtain ⟨x10,h11,hF⟩:=q00 hF
  obtain ⟨r12,h13,hF⟩:=q00 hF
  refine go ?_
  refine RS.q (u:=.ptr 0 0 0) rfl (qdz rfl rfl) (RS.q rfl (q0z und139 rfl (q03 inf24) rfl rfl rfl) (RS.q rfl (q0z und24 rfl (q03 inf22) rfl rfl rfl) (RS.q rfl (q0n und22 rfl rfl rfl rfl) ?_)))
  refine go ?_
  refine RS.q rfl (q0f rfl rfl (q07 q01 und22 (q03 inf54) q1n h11 rfl)) (RS.q rfl (q1d und54 rfl (q03 inf52) rfl rfl) (RS.q rfl (q0b und52 rfl rfl rfl) ?_))
  refine z3h (R:=fun u σ'=>u = .vl 4 0 0 r12.length∧σ'=⟨[(4,.vec (List.map q0d r12).flatten 66 2 0),(3,.row [.i6 p1] 3),(0,.row [.iM q01 p2,.vl 1 t4 0 ((p3.set (0+p1.toNat) (p5.length:Int)).length),.vl 2 (t6+1) 0 ((p5++[p1]).length)] 139),(1,.vec (List.map (cI .i64) (p3.set (0+p1.toNat) (p5.length:Int))).flatten 3 1 t4),(2,.vec (List.map (cI .i64) (p5++[p1])).flatten 3 1 (t6+1))],5⟩) (args:=[.iM q0d x10.Arcs]) rfl (qcv rfl rfl fn89 hb89 rfl rfl) (z3j q0d (qfw n x10.Arcs r12 h13) _ 4 rfl) rfl rfl ?_
  rintro _ _ ⟨rfl,rfl⟩
  refine go ?_
  refine gS (l':=[(0,_),(4,_),(5,_)]) ?_
  refine z2x (fun m tm σ=>∃ z23:Int,∃ l24:List Int,∃ l25:List Int,∃ t26:Nat,q1e p2 r12 (q1h n) m z23 l24 l25=some r∧tm=fr 62 [(0,.ptr 0 0 0),(4,.vl 4 0 0 r12.length),(5,.i6 z23)]∧σ=⟨[(4,.vec (List.map q0d r12).flatten 66 2 0),(3,.row [.i6 p1] 3),(0,.row [.iM q01 p2,.vl 1 t4 0 l24.length,.vl 2 t26 0 l25.length] 139),(1,.vec (List.map (cI .i64) l24).flatten 3 1 t4),(2,.vec (List.map (cI .i64) l25).flatten 3 1 t26)],5⟩) (fun tm σ=>∃ l27:List Int,∃ l28:List Int,∃ t29:Nat,q3e l27 l28=some r∧tm=fr 62 []∧σ=⟨[(4,.vec (List.map q0d r12).flatten 66 2 0),(3,.row [.i6 p1] 3),(0,.row [.iM q01 p2,.vl 1 t4 0 l27.length,.vl 2 t29 0 l28.length] 139),(1,.vec (List.map (cI .i64) l27).flatten 3 1 t4),(2,.vec (List.map (cI .i64) l28).flatten 3 1 t29)],5⟩) n ⟨0,(p3.set (0+p1.toNat) (p5.length:Int)),(p5++[p1]),(t6+1),hF,rfl,rfl⟩ ?_ ?_
  rintro _ _ ⟨l27,l28,t29,hF,rfl,rfl⟩
  unfold q3e at hF
  refine go ?_
  obtain rfl:=sI hF
  exact ⟨.inl rfl,[],q3b,.tup [],⟨[(0,.row [.iM q01 p2,.vl 1 t4 0 l27.length,.vl 2 t29 0 l28.length] 139),(1,.vec (List.map (cI .i64) l27).flatten 3 1 t4),(2,.vec (List.map (cI .i64) l28).flatten 3 1 t29)],3⟩,NL,Gh.to (n1:=3) [] rfl rfl NL NL BUL.h BH.h,stF [t29],rfl,rfl⟩
  rintro (_|m1) _ _ ⟨z23,l24,l25,t26,hF,rfl,rfl⟩
  cases hF
  unfold q1e at hF
  refine go ?_
  refine RS.q rfl (q0c rfl rfl rfl (q92 und52 rfl)) ?_
  refine go ?_
  refine cF hF (fun h30 hF=>?_) (fun h30 hF=>?_)
  refine go ?_
  refine WPU.block ?_
  obtain ⟨x31,h32,hF⟩:=q00 hF
  obtain ⟨x33,h34,hF⟩:=q00 hF
  refine go ?_
  refine z2z Tryz.tb_ok [] (by kernel_rfl) ?_
  refine RD.mv rfl rfl rfl rfl (RD.q (u:=.ptr 0 0 0) rfl (qdz rfl rfl) (RD.q rfl (q0z und139 rfl (q03 inf33) rfl rfl rfl) (RD.q rfl (q0n und33 rfl rfl rfl rfl) ?_)))
  repeat refine RD.mv rfl rfl rfl rfl ?_
  refine RD.q rfl (q0f rfl rfl (q8t q0d und52 (q03 inf66) (by decide) q0l (vo rfl) h32)) ?_
  refine RD.q rfl (q0z und66 rfl (q03 inf3) rfl (qq4 rfl) rfl) (RD.q (u:=.i6 x31.To) rfl (qzd q0d und3 rfl q0l rfl rfl (qni h32) rfl) ?_)
  refine RD.q rfl (q0f rfl rfl (q8t (cI .i64) und33 (q03 inf3) (by decide) (q13 .i64) (vo rfl) h34)) ?_
  refine RD.q rfl (q4o (cI .i64) (fun x=>.i6 x) und3 rfl (fun _=>rfl) rfl rfl h34) (RD.q rfl (q34 rfl rfl (qwj _ _ _) rfl) ?_)
  refine RD.done ⟨by kernel_rfl,trivial,?_⟩
  refine gn ?_
  refine z2y (fun tm σ=>∃ l36:List Int,∃ l37:List Int,∃ t38:Nat,q1t z23 (q1e p2 r12 (q1h n) m1) l36 l37=some r∧tm=fr 62 [(0,.ptr 0 0 0),(4,.vl 4 0 0 r12.length),(5,.i6 z23)]∧σ=⟨[(4,.vec (List.map q0d r12).flatten 66 2 0),(3,.row [.i6 p1] 3),(0,.row [.iM q01 p2,.vl 1 t4 0 l36.length,.vl 2 t38 0 l37.length] 139),(1,.vec (List.map (cI .i64) l36).flatten 3 1 t4),(2,.vec (List.map (cI .i64) l37).flatten 3 1 t38)],5⟩) ?_ ?_
  rintro _ _ ⟨l36,l37,t38,hF,rfl,rfl⟩
  unfold q1t at hF
  refine go ?_
  exact lC ⟨_,l36,l37,t38,hF,rfl,rfl⟩
  refine cF hF (fun h35 hF=>?_) (fun h35 hF=>?_)
  obtain ⟨x39,h40,hF⟩:=q00 hF
  obtain ⟨r41,h42,hF⟩:=q00 hF
  refine go ?_
  refine RS.q rfl (q0f rfl rfl (q8t q0d und52 (q03 inf66) (by decide) q0l (vo rfl) h40)) ?_
  refine RS.q rfl (q0z und66 rfl (q03 inf3) rfl (qq4 rfl) rfl) (RS.q (u:=.i6 x39.To) rfl (qzd q0d und3 rfl q0l rfl rfl (qni h40) rfl) ?_)
  refine z3h (R:=fun u σ'=>∃ t43:Nat→Nat,u = .tup []∧σ'=⟨[(4,.vec (List.map q0d r12).flatten 66 2 0),(3,.row [.i6 p1] 3),(0,.row [.iM q01 p2,.vl 1 t4 0 r41.1.length,.vl 2 (t43 0) 0 r41.2.length] 139),(1,.vec (List.map (cI .i64) r41.1).flatten 3 1 t4),(2,.vec (List.map (cI .i64) r41.2).flatten 3 1 (t43 0))],5⟩) (args:=[.ptr 0 0 0,.i6 x39.To]) rfl (qcv rfl rfl fn88 hb88 rfl rfl) (EvU.st [0,1,2] (ih x39.To p2 l24 l25 r41 h42 t4 t26)) rfl rfl ?_
  rintro _ _ ⟨t43,rfl,rfl⟩
  refine go ?_
  exact xC ⟨r41.1,r41.2,(t43 0),hF,rfl,rfl⟩
  refine go ?_
  exact xC ⟨l24,l25,t26,hF,rfl,rfl⟩
  refine go ?_
  exact xC ⟨l24,l25,t26,hF,rfl,rfl⟩
  refine z2z Tryz.tb_ok [] (by kernel_rfl) ?_
  refine RD.mv rfl rfl rfl rfl (RD.q (u:=.ptr 0 0 0) rfl (qdz rfl rfl) (RD.q rfl (q0z und139 rfl (q03 inf33) rfl rfl rfl) (RD.q rfl (q0n und33 rfl rfl rfl rfl) ?_)))
  repeat refine RD.mv rfl rfl rfl rfl ?_
  refine RD.q (u:=.ptr 0 0 0) rfl (qdz rfl rfl) (RD.q rfl (q0z und139 rfl (q03 inf33) rfl rfl rfl) (RD.q rfl (q0n und33 rfl rfl rfl rfl) (RD.q rfl (q0c rfl rfl rfl (q92 und33 rfl)) ?_)))
  refine RD.q rfl (q0f rfl rfl (q8t (cI .i64) und33 (q03 inf3) (by decide) (q13 .i64) (vo rfl) h8)) ?_
  refine z3d (u:=.junk) (σ':=⟨[(0,.row [.iM q01 p2,.vl 1 t4 0 p3.length,.vl 2 t6 0 p5.length] 139),(1,.vec (List.map (cI .i64) (p3.set (0+p1.toNat) (p5.length:Int))).flatten 3 1 t4),(2,.vec (List.map (cI .i64) p5).flatten 3 1 t6)],3⟩) rfl (st_vp (cI .i64) (q03 inf3) (q13 .i64) rfl rfl rfl rfl rfl rfl rfl (qni h8) rfl) rfl ?_
  refine RD.done ⟨by kernel_rfl,trivial,?_⟩
  refine go ?_
  exact ⟨_,_,⟨rfl,rfl⟩,NL,z38 ⟨rfl,rfl,trivial⟩ (by simp only [List.length_set])⟩
def q71 (z26:Int) (l27:List q0o) (rc2:Int→(List q0o)→Option (GFS)) (x34:q0o) (l54:List q15):Option (GFS) :=
 q1b ((l27.length+1)*32≤140737488355328∧l27.length+1≤140737488355328) (
 rc2 (IntKind.i64.wrap (z26+1)) (l27++[(q0o.mk x34.Typex l54)]))
def q46 (r14:(List Int)×(List Int)) (z26:Int) (l27:List q0o) (rc2:Int→(List q0o)→Option (GFS)) (x34:q0o):Nat→Int→(List q15)→Option (GFS)
 | 0,_,_=>none
 | m3+1,z52,l53 =>
  cond (decide (z52<(l53.length:Int)))
   (q04 (q0w l53 z52) fun x57 =>
   q04 (q0w r14.1 x57.To) fun x59 =>
   q04 (q0w l53 z52) fun x61 =>
   (q46 r14 z26 l27 rc2 x34 m3) (IntKind.i64.wrap (z52+1)) (l53.set (0+z52.toNat) (q15.mk x61.Feat x59)))
   (q71 z26 l27 rc2 x34 l53)
def q9r  (l29:List q0o):Option (GFS) :=
 some (GFS.mk l29)
def q2u (p1:GFS) (n:Nat) (r14:(List Int)×(List Int)):Nat→Int→(List q0o)→Option (GFS)
 | 0,_,_=>none
 | m2+1,z26,l27 =>
  cond (decide (z26<(r14.2.length:Int)))
   (q04 (q0w r14.2 z26) fun x32 =>
   q04 (q0w p1.Nodes x32) fun x34 =>
   q04 (q8n n x34.Arcs) fun r36 =>
   q46 r14 z26 l27 (q2u p1 n r14 m2) x34 n 0 r36)
   (q9r l27)
def q70 (p1:GFS) (p2:Int) (n:Nat) (l12:List Int):Option (GFS) :=
 q04 (q1h n p2 p1.Nodes l12 ([]:List Int)) fun r14 =>
 q2u p1 n r14 n 0 ([]:List q0o)
def q5c (p1:GFS) (p2:Int) (n:Nat):Nat→Int→(List Int)→Option (GFS)
 | 0,_,_=>none
 | m1+1,z9,l10 =>
  cond (decide (z9<(p1.Nodes.length:Int)))
   (q1b ((l10.length+1)*8≤140737488355328∧l10.length+1≤140737488355328) (
   (q5c p1 p2 n m1) (IntKind.i64.wrap (z9+1)) (l10++[(-1)])))
   (q70 p1 p2 n l10)
def qcc (n:Nat) (p1:GFS) (p2:Int):Option (GFS) :=
 q5c p1 p2 n n 0 ([]:List Int)
theorem qqo (n:Nat) (p1:GFS) (p2:Int) (r:GFS) (hF:qcc n p1 p2=some r):EvU Tryz.prog 68 [.agg [.isl false (List.map q01 p1.Nodes)],.int .i64 p2] ⟨[],0⟩ (fun u _=>u = .agg [.isl false (List.map q01 r.Nodes)]∧Bel 0 u):=by
 unfold qcc at hF
 refine bg2 88 fn68 ?_
 refine go ?_
 refine RS.q (u:=.ptr 0 0 0) (σ':=⟨[(0,.row [.iM q01 p1.Nodes] 24)],1⟩) rfl (q3r rfl rfl rfl) (RS.q (u:=.ptr 1 0 0) (σ':=⟨[(1,.row [.nils] 24),(0,.row [.iM q01 p1.Nodes] 24)],2⟩) rfl (q1j inf24 rfl rfl) ?_)
 refine go ?_
 refine RS.q (u:=.agg [.iM q01 p1.Nodes]) rfl (q17 und24 rfl (q03 inf24) rfl rfl rfl) (RS.q (u:=.agg [.iM q01 p1.Nodes,.nils,.nils]) rfl (q3v bd139 rfl rfl rfl) (RS.q (u:=.ptr 2 0 0) (σ':=⟨[(2,.row [.iM q01 p1.Nodes,.nils,.nils] 139),(1,.row [.nils] 24),(0,.row [.iM q01 p1.Nodes] 24)],3⟩) rfl (q3r rfl rfl rfl) ?_))
 refine gr ?_
 refine WPU.ghost (tm':=fr 88 [(1,.i6 p2),(2,.ptr 0 0 0),(4,.ptr 1 0 0),(5,.ptr 2 0 0),(6,.i6 0)]) (σ':=⟨[(3,.vec (List.map (cI .i64) ([]:List Int)).flatten 3 1 0),(2,.row [.iM q01 p1.Nodes,.vl 3 0 0 (([]:List Int).length),.nils] 139),(1,.row [.nils] 24),(0,.row [.iM q01 p1.Nodes] 24)],4⟩) (Gh.trans (z3e 2 1 3 1 (by decide) NZ rfl rfl) (z38 ⟨rfl,rfl,rfl,rfl,rfl,trivial⟩ rfl)) NZ ?_
 refine gS (l':=[(1,_),(2,_),(4,_),(5,_),(6,_)]) ?_
 refine z2x (fun m tm σ=>∃ z9:Int,∃ l10:List Int,∃ t11:Nat,q5c p1 p2 n m z9 l10=some r∧tm=fr 88 [(1,.i6 p2),(2,.ptr 0 0 0),(4,.ptr 1 0 0),(5,.ptr 2 0 0),(6,.i6 z9)]∧σ=⟨[(3,.vec (List.map (cI .i64) l10).flatten 3 1 t11),(2,.row [.iM q01 p1.Nodes,.vl 3 t11 0 l10.length,.nils] 139),(1,.row [.nils] 24),(0,.row [.iM q01 p1.Nodes] 24)],4⟩) (fun tm σ=>∃ l12:List Int,∃ t13:Nat,q70 p1 p2 n l12=some r∧tm=fr 88 [(1,.i6 p2),(2,.ptr 0 0 0),(4,.ptr 1 0 0),(5,.ptr 2 0 0)]∧σ=⟨[(3,.vec (List.map (cI .i64) l12).flatten 3 1 t13),(2,.row [.iM q01 p1.Nodes,.vl 3 t13 0 l12.length,.nils] 139),(1,.row [.nils] 24),(0,.row [.iM q01 p1.Nodes] 24)],4⟩) n ⟨0,([]:List Int),0,hF,rfl,rfl⟩ ?_ ?_
 rintro _ _ ⟨l12,t13,hF,rfl,rfl⟩
 unfold q70 at hF
 refine gn ?_
 refine WPU.ghost (tm':=fr 88 [(1,.i6 p2),(2,.ptr 0 0 0),(4,.ptr 1 0 0),(5,.ptr 2 0 0)]) (σ':=⟨[(4,.vec (List.map (cI .i64) ([]:List Int)).flatten 3 1 0),(3,.vec (List.map (cI .i64) l12).flatten 3 1 t13),(2,.row [.iM q01 p1.Nodes,.vl 3 t13 0 l12.length,.vl 4 0 0 (([]:List Int).length)] 139),(1,.row [.nils] 24),(0,.row [.iM q01 p1.Nodes] 24)],5⟩) (Gh.trans (z3e 2 2 3 1 (by decide) NZ rfl rfl) (z38 ⟨rfl,rfl,rfl,rfl,trivial⟩ rfl)) NZ ?_
 obtain ⟨r14,h15,hF⟩:=q00 hF
 refine go ?_
 refine z3h (R:=fun u σ'=>∃ t16:Nat→Nat,u = .tup []∧σ'=⟨[(4,.vec (List.map (cI .i64) r14.2).flatten 3 1 (t16 0)),(3,.vec (List.map (cI .i64) r14.1).flatten 3 1 t13),(2,.row [.iM q01 p1.Nodes,.vl 3 t13 0 r14.1.length,.vl 4 (t16 0) 0 r14.2.length] 139),(1,.row [.nils] 24),(0,.row [.iM q01 p1.Nodes] 24)],5⟩) (args:=[.ptr 2 0 0,.i6 p2]) rfl (qcv rfl rfl fn88 hb88 rfl rfl) (EvU.st [2,3,4] (q8o n p2 p1.Nodes l12 ([]:List Int) r14 h15 t13 0)) rfl rfl ?_
 rintro _ _ ⟨t16,rfl,rfl⟩
 refine go ?_
 refine RS.q (u:=.ptr 5 0 0) (σ':=⟨[(5,.row [.nils] 24),(4,.vec (List.map (cI .i64) r14.2).flatten 3 1 (t16 0)),(3,.vec (List.map (cI .i64) r14.1).flatten 3 1 t13),(2,.row [.iM q01 p1.Nodes,.vl 3 t13 0 r14.1.length,.vl 4 (t16 0) 0 r14.2.length] 139),(1,.row [.nils] 24),(0,.row [.iM q01 p1.Nodes] 24)],6⟩) rfl (q1j inf24 rfl rfl) ?_
 refine gr ?_
 refine WPU.ghost (tm':=fr 88 [(2,.ptr 0 0 0),(4,.ptr 1 0 0),(5,.ptr 2 0 0),(7,.ptr 5 0 0),(8,.i6 0)]) (σ':=⟨[(6,.vec (List.map q01 ([]:List q0o)).flatten 54 2 0),(5,.row [.vl 6 0 0 (([]:List q0o).length)] 24),(4,.vec (List.map (cI .i64) r14.2).flatten 3 1 (t16 0)),(3,.vec (List.map (cI .i64) r14.1).flatten 3 1 t13),(2,.row [.iM q01 p1.Nodes,.vl 3 t13 0 r14.1.length,.vl 4 (t16 0) 0 r14.2.length] 139),(1,.row [.nils] 24),(0,.row [.iM q01 p1.Nodes] 24)],7⟩) (Gh.trans (z3e 5 0 54 2 (by decide) NZ rfl rfl) (z38 ⟨rfl,rfl,rfl,rfl,rfl,trivial⟩ rfl)) NZ ?_
 refine gS (l':=[(2,_),(4,_),(5,_),(7,_),(8,_)]) ?_
 refine z2x (fun m tm σ=>∃ z26:Int,∃ l27:List q0o,∃ t28:Nat,q2u p1 n r14 m z26 l27=some r∧tm=fr 88 [(2,.ptr 0 0 0),(4,.ptr 1 0 0),(5,.ptr 2 0 0),(7,.ptr 5 0 0),(8,.i6 z26)]∧σ=⟨[(6,.vec (List.map q01 l27).flatten 54 2 t28),(5,.row [.vl 6 t28 0 l27.length] 24),(4,.vec (List.map (cI .i64) r14.2).flatten 3 1 (t16 0)),(3,.vec (List.map (cI .i64) r14.1).flatten 3 1 t13),(2,.row [.iM q01 p1.Nodes,.vl 3 t13 0 r14.1.length,.vl 4 (t16 0) 0 r14.2.length] 139),(1,.row [.nils] 24),(0,.row [.iM q01 p1.Nodes] 24)],7⟩) (fun tm σ=>∃ l29:List q0o,∃ t30:Nat,q9r l29=some r∧tm=fr 88 [(4,.ptr 1 0 0),(7,.ptr 5 0 0)]∧σ=⟨[(6,.vec (List.map q01 l29).flatten 54 2 t30),(5,.row [.vl 6 t30 0 l29.length] 24),(4,.vec (List.map (cI .i64) r14.2).flatten 3 1 (t16 0)),(3,.vec (List.map (cI .i64) r14.1).flatten 3 1 t13),(2,.row [.iM q01 p1.Nodes,.vl 3 t13 0 r14.1.length,.vl 4 (t16 0) 0 r14.2.length] 139),(1,.row [.nils] 24),(0,.row [.iM q01 p1.Nodes] 24)],7⟩) n ⟨0,([]:List q0o),0,hF,rfl,rfl⟩ ?_ ?_
 rintro _ _ ⟨l29,t30,hF,rfl,rfl⟩
 unfold q9r at hF
 refine go ?_
 refine RS.q (u:=.agg [.vl 6 t30 0 l29.length]) rfl (q17 und24 rfl (q03 inf24) rfl rfl rfl) ?_
 refine z36 (u:=.junk) (σ':=⟨[(6,.vec (List.map q01 l29).flatten 54 2 t30),(5,.row [.vl 6 t30 0 l29.length] 24),(4,.vec (List.map (cI .i64) r14.2).flatten 3 1 (t16 0)),(3,.vec (List.map (cI .i64) r14.1).flatten 3 1 t13),(2,.row [.iM q01 p1.Nodes,.vl 3 t13 0 r14.1.length,.vl 4 (t16 0) 0 r14.2.length] 139),(1,.row [.vl 6 t30 0 l29.length] 24),(0,.row [.iM q01 p1.Nodes] 24)],7⟩) rfl (q0v (q03 inf24) rfl rfl rfl rfl rfl rfl rfl rfl) rfl ?_
 refine go ?_
 obtain rfl:=sI hF
 exact rT (us:=[.agg [.vl 6 t30 0 l29.length]]) (u:=.agg [.iM q01 l29]) (qk7 (q17 und24 rfl (q03 inf24) rfl rfl rfl) (q3b)) (fR 6 2)
 rintro (_|m2) _ _ ⟨z26,l27,t28,hF,rfl,rfl⟩
 cases hF
 unfold q2u at hF
 refine go ?_
 refine RS.q (u:=.ptr 2 0 0) rfl (qdz rfl rfl) (RS.q rfl (q0z und139 rfl (q03 inf33) rfl rfl rfl) (RS.q rfl (q0n und33 rfl rfl rfl rfl) (RS.q rfl (q0c rfl rfl rfl (q92 und33 rfl)) ?_)))
 refine go ?_
 refine cF hF (fun h31 hF=>?_) (fun h31 hF=>?_)
 refine go ?_
 refine WPU.block ?_
 obtain ⟨x32,h33,hF⟩:=q00 hF
 obtain ⟨x34,h35,hF⟩:=q00 hF
 refine go ?_
 refine z2z Tryz.tb_ok [(0,11),(1,11),(2,11),(3,11),(4,11),(5,11),(6,11),(7,11),(8,11),(9,11),(10,11)] (by kernel_rfl) ?_
 refine RD.q rfl (q0z und24 rfl (q03 inf22) rfl rfl rfl) (RD.q rfl (q0n und22 rfl rfl rfl rfl) (RD.mv rfl rfl rfl rfl (RD.q (u:=.ptr 2 0 0) rfl (qdz rfl rfl) (RD.q rfl (q0z und139 rfl (q03 inf33) rfl rfl rfl) (RD.q rfl (q0n und33 rfl rfl rfl rfl) (RD.mv rfl rfl rfl rfl ?_))))))
 refine RD.q rfl (q0f rfl rfl (q8t (cI .i64) und33 (q03 inf3) (by decide) (q13 .i64) (vo rfl) h33)) ?_
 refine RD.q rfl (q4o (cI .i64) (fun x=>.i6 x) und3 rfl (fun _=>rfl) rfl rfl h33) (RD.q rfl (q0f rfl rfl (q07 q01 und22 (q03 inf54) q1n h35 rfl)) (RD.q (u:=.agg (q01 x34)) rfl (qav und54 rfl (q03 inf54) rfl rfl) (RD.act (u:=.ptr 7 0 0) (σ':=⟨[(7,.row [.i6 0,.nils] 54),(6,.vec (List.map q01 l27).flatten 54 2 t28),(5,.row [.vl 6 t28 0 l27.length] 24),(4,.vec (List.map (cI .i64) r14.2).flatten 3 1 (t16 0)),(3,.vec (List.map (cI .i64) r14.1).flatten 3 1 t13),(2,.row [.iM q01 p1.Nodes,.vl 3 t13 0 r14.1.length,.vl 4 (t16 0) 0 r14.2.length] 139),(1,.row [.nils] 24),(0,.row [.iM q01 p1.Nodes] 24)],8⟩) rfl (q1j inf54 rfl rfl) rfl rfl ?_)))
 refine z3d (u:=.junk) (σ':=⟨[(7,.row (q01 x34) 54),(6,.vec (List.map q01 l27).flatten 54 2 t28),(5,.row [.vl 6 t28 0 l27.length] 24),(4,.vec (List.map (cI .i64) r14.2).flatten 3 1 (t16 0)),(3,.vec (List.map (cI .i64) r14.1).flatten 3 1 t13),(2,.row [.iM q01 p1.Nodes,.vl 3 t13 0 r14.1.length,.vl 4 (t16 0) 0 r14.2.length] 139),(1,.row [.nils] 24),(0,.row [.iM q01 p1.Nodes] 24)],8⟩) rfl (q0v (q03 inf54) rfl rfl rfl rfl rfl rfl rfl rfl) rfl ?_
 refine RD.done ⟨by kernel_rfl,⟨q0z und24 rfl (q03 inf22) rfl rfl rfl,⟨q0n und22 rfl rfl rfl rfl,⟨q0s rfl,⟨qdz rfl rfl,⟨q0z und139 rfl (q03 inf33) rfl rfl rfl,⟨q0n und33 rfl rfl rfl rfl,⟨q0s rfl,⟨q0f rfl rfl (q8t (cI .i64) und33 (q03 inf3) (by decide) (q13 .i64) (vo rfl) h33),⟨q4o (cI .i64) (fun x=>.i6 x) und3 rfl (fun _=>rfl) rfl rfl h33,⟨q0f rfl rfl (q07 q01 und22 (q03 inf54) q1n h35 rfl),⟨qav und54 rfl (q03 inf54) rfl rfl,trivial⟩⟩⟩⟩⟩⟩⟩⟩⟩⟩⟩,?_⟩
 obtain ⟨r36,h37,hF⟩:=q00 hF
 refine go ?_
 refine RS.q rfl (q0z und54 rfl (q03 inf52) rfl rfl rfl) (RS.q rfl (q0n und52 rfl rfl rfl rfl) ?_)
 refine z3h (R:=fun u σ'=>u = .vl 8 0 0 r36.length∧σ'=⟨[(8,.vec (List.map q0d r36).flatten 66 2 0),(7,.row (q01 x34) 54),(6,.vec (List.map q01 l27).flatten 54 2 t28),(5,.row [.vl 6 t28 0 l27.length] 24),(4,.vec (List.map (cI .i64) r14.2).flatten 3 1 (t16 0)),(3,.vec (List.map (cI .i64) r14.1).flatten 3 1 t13),(2,.row [.iM q01 p1.Nodes,.vl 3 t13 0 r14.1.length,.vl 4 (t16 0) 0 r14.2.length] 139),(1,.row [.nils] 24),(0,.row [.iM q01 p1.Nodes] 24)],9⟩) (args:=[.iM q0d x34.Arcs]) rfl (qcv rfl rfl fn89 hb89 rfl rfl) (z3j q0d (qfw n x34.Arcs r36 h37) _ 8 rfl) rfl rfl ?_
 rintro _ _ ⟨rfl,rfl⟩
 refine go ?_
 refine gS (l':=[(2,_),(4,_),(5,_),(7,_),(8,_),(9,_),(10,_),(11,_)]) ?_
 refine z2x (fun m tm σ=>∃ z52:Int,∃ l53:List q15,q46 r14 z26 l27 (q2u p1 n r14 m2) x34 m z52 l53=some r∧tm=fr 88 [(2,.ptr 0 0 0),(4,.ptr 1 0 0),(5,.ptr 2 0 0),(7,.ptr 5 0 0),(8,.i6 z26),(9,.ptr 7 0 0),(10,.vl 8 0 0 l53.length),(11,.i6 z52)]∧σ=⟨[(8,.vec (List.map q0d l53).flatten 66 2 0),(7,.row (q01 x34) 54),(6,.vec (List.map q01 l27).flatten 54 2 t28),(5,.row [.vl 6 t28 0 l27.length] 24),(4,.vec (List.map (cI .i64) r14.2).flatten 3 1 (t16 0)),(3,.vec (List.map (cI .i64) r14.1).flatten 3 1 t13),(2,.row [.iM q01 p1.Nodes,.vl 3 t13 0 r14.1.length,.vl 4 (t16 0) 0 r14.2.length] 139),(1,.row [.nils] 24),(0,.row [.iM q01 p1.Nodes] 24)],9⟩) (fun tm σ=>∃ l54:List q15,q71 z26 l27 (q2u p1 n r14 m2) x34 l54=some r∧tm=fr 88 [(2,.ptr 0 0 0),(4,.ptr 1 0 0),(5,.ptr 2 0 0),(7,.ptr 5 0 0),(8,.i6 z26),(9,.ptr 7 0 0),(10,.vl 8 0 0 l54.length)]∧σ=⟨[(8,.vec (List.map q0d l54).flatten 66 2 0),(7,.row (q01 x34) 54),(6,.vec (List.map q01 l27).flatten 54 2 t28),(5,.row [.vl 6 t28 0 l27.length] 24),(4,.vec (List.map (cI .i64) r14.2).flatten 3 1 (t16 0)),(3,.vec (List.map (cI .i64) r14.1).flatten 3 1 t13),(2,.row [.iM q01 p1.Nodes,.vl 3 t13 0 r14.1.length,.vl 4 (t16 0) 0 r14.2.length] 139),(1,.row [.nils] 24),(0,.row [.iM q01 p1.Nodes] 24)],9⟩) n ⟨0,r36,hF,rfl,rfl⟩ ?_ ?_
 rintro _ _ ⟨l54,hF,rfl,rfl⟩
 unfold q71 at hF
 refine gn ?_
 refine WPU.ghost (tm':=fr 88 [(2,.ptr 0 0 0),(4,.ptr 1 0 0),(5,.ptr 2 0 0),(7,.ptr 5 0 0),(8,.i6 z26),(9,.ptr 7 0 0),(10,.iM q0d l54)]) (σ':=⟨[(7,.row (q01 x34) 54),(6,.vec (List.map q01 l27).flatten 54 2 t28),(5,.row [.vl 6 t28 0 l27.length] 24),(4,.vec (List.map (cI .i64) r14.2).flatten 3 1 (t16 0)),(3,.vec (List.map (cI .i64) r14.1).flatten 3 1 t13),(2,.row [.iM q01 p1.Nodes,.vl 3 t13 0 r14.1.length,.vl 4 (t16 0) 0 r14.2.length] 139),(1,.row [.nils] 24),(0,.row [.iM q01 p1.Nodes] 24)],9⟩) (Gh.trans (Gh.sub (l':=[(2,.ptr 0 0 0),(4,.ptr 1 0 0),(5,.ptr 2 0 0),(7,.ptr 5 0 0),(8,.i6 z26),(9,.ptr 7 0 0),(10,.vl 8 0 0 l54.length)]) ⟨rfl,rfl,rfl,rfl,rfl,rfl,rfl,trivial⟩) (z3g 8 2)) NZ ?_
 obtain ⟨h55,hF⟩:=q09 hF
 refine go ?_
 refine RS.q rfl (q0z und24 rfl (q03 inf22) rfl rfl rfl) (RS.q rfl (q0n und22 rfl rfl rfl rfl) (RS.q rfl (q0z und54 rfl (q03 inf3) rfl rfl rfl) (RS.q rfl (q0n und3 rfl rfl rfl rfl) ?_)))
 refine go ?_
 refine RS.q (u:=.agg [.i6 x34.Typex,.iM q0d l54]) rfl (q3v bd54 rfl rfl rfl) (RS.q (u:=.sl 9 0 1 1) (σ':=⟨[(9,.row [.i6 x34.Typex,.iM q0d l54] 54),(7,.row (q01 x34) 54),(6,.vec (List.map q01 l27).flatten 54 2 t28),(5,.row [.vl 6 t28 0 l27.length] 24),(4,.vec (List.map (cI .i64) r14.2).flatten 3 1 (t16 0)),(3,.vec (List.map (cI .i64) r14.1).flatten 3 1 t13),(2,.row [.iM q01 p1.Nodes,.vl 3 t13 0 r14.1.length,.vl 4 (t16 0) 0 r14.2.length] 139),(1,.row [.nils] 24),(0,.row [.iM q01 p1.Nodes] 24)],10⟩) rfl (q0k und22 inf54 rfl rfl rfl rfl rfl rfl rfl) (RS.q (u:=.vl 6 (t28+1) 0 ((l27++[(q0o.mk x34.Typex l54)]).length)) (σ':=⟨[(9,.row [.i6 x34.Typex,.iM q0d l54] 54),(7,.row (q01 x34) 54),(6,.vec (List.map q01 (l27++[(q0o.mk x34.Typex l54)])).flatten 54 2 (t28+1)),(5,.row [.vl 6 t28 0 l27.length] 24),(4,.vec (List.map (cI .i64) r14.2).flatten 3 1 (t16 0)),(3,.vec (List.map (cI .i64) r14.1).flatten 3 1 t13),(2,.row [.iM q01 p1.Nodes,.vl 3 t13 0 r14.1.length,.vl 4 (t16 0) 0 r14.2.length] 139),(1,.row [.nils] 24),(0,.row [.iM q01 p1.Nodes] 24)],10⟩) rfl (q1i rfl rfl rfl rfl (q1s q01 ([(q0o.mk x34.Typex l54)]) und22 und22 inf54 rfl q1n rfl (q1l q01 [(q0o.mk x34.Typex l54)] rfl rfl rfl rfl) h55)) (RS.q rfl (q0z und24 rfl (q03 inf22) rfl rfl rfl) ?_)))
 refine z36 (u:=.junk) (σ':=⟨[(9,.row [.i6 x34.Typex,.iM q0d l54] 54),(7,.row (q01 x34) 54),(6,.vec (List.map q01 (l27++[(q0o.mk x34.Typex l54)])).flatten 54 2 (t28+1)),(5,.row [.vl 6 (t28+1) 0 ((l27++[(q0o.mk x34.Typex l54)]).length)] 24),(4,.vec (List.map (cI .i64) r14.2).flatten 3 1 (t16 0)),(3,.vec (List.map (cI .i64) r14.1).flatten 3 1 t13),(2,.row [.iM q01 p1.Nodes,.vl 3 t13 0 r14.1.length,.vl 4 (t16 0) 0 r14.2.length] 139),(1,.row [.nils] 24),(0,.row [.iM q01 p1.Nodes] 24)],10⟩) rfl (q0v (q03 inf22) rfl rfl rfl rfl rfl rfl rfl rfl) rfl ?_
 refine go ?_
 exact lC ⟨_,(l27++[(q0o.mk x34.Typex l54)]),(t28+1),hF,rfl,rfl⟩
 rintro (_|m3) _ _ ⟨z52,l53,hF,rfl,rfl⟩
 cases hF
 unfold q46 at hF
 refine go ?_
 refine RS.q rfl (q0c rfl rfl rfl (q92 und52 rfl)) ?_
 refine go ?_
 refine cF hF (fun h56 hF=>?_) (fun h56 hF=>?_)
 refine go ?_
 refine WPU.block ?_
 obtain ⟨x57,h58,hF⟩:=q00 hF
 obtain ⟨x59,h60,hF⟩:=q00 hF
 obtain ⟨x61,h62,hF⟩:=q00 hF
 refine gn ?_
 refine z2y (fun tm σ=>tm=fr 88 [(2,.ptr 0 0 0),(4,.ptr 1 0 0),(5,.ptr 2 0 0),(7,.ptr 5 0 0),(8,.i6 z26),(9,.ptr 7 0 0),(10,.vl 8 0 0 ((l53.set (0+z52.toNat) (q15.mk x61.Feat x59)).length)),(11,.i6 z52)]∧σ=⟨[(8,.vec (List.map q0d (l53.set (0+z52.toNat) (q15.mk x61.Feat x59))).flatten 66 2 0),(7,.row (q01 x34) 54),(6,.vec (List.map q01 l27).flatten 54 2 t28),(5,.row [.vl 6 t28 0 l27.length] 24),(4,.vec (List.map (cI .i64) r14.2).flatten 3 1 (t16 0)),(3,.vec (List.map (cI .i64) r14.1).flatten 3 1 t13),(2,.row [.iM q01 p1.Nodes,.vl 3 t13 0 r14.1.length,.vl 4 (t16 0) 0 r14.2.length] 139),(1,.row [.nils] 24),(0,.row [.iM q01 p1.Nodes] 24)],9⟩) ?_ ?_
 rintro _ _ ⟨rfl,rfl⟩
 refine go ?_
 exact lC ⟨_,(l53.set (0+z52.toNat) (q15.mk x61.Feat x59)),hF,rfl,rfl⟩
 refine z2z Tryz.tb_ok [] (by kernel_rfl) ?_
 repeat refine RD.mv rfl rfl rfl rfl ?_
 refine RD.q (u:=.ptr 2 0 0) rfl (qdz rfl rfl) (RD.q rfl (q0z und139 rfl (q03 inf33) rfl rfl rfl) (RD.q rfl (q0n und33 rfl rfl rfl rfl) ?_))
 repeat refine RD.mv rfl rfl rfl rfl ?_
 refine RD.q rfl (q0f rfl rfl (q8t q0d und52 (q03 inf66) (by decide) q0l (vo rfl) h58)) ?_
 refine RD.q rfl (q0z und66 rfl (q03 inf3) rfl (qq4 rfl) rfl) (RD.q (u:=.i6 x57.To) rfl (qzd q0d und3 rfl q0l rfl rfl (qni h58) rfl) ?_)
 refine RD.q rfl (q0f rfl rfl (q8t (cI .i64) und33 (q03 inf3) (by decide) (q13 .i64) (vo rfl) h60)) ?_
 refine RD.q rfl (q4o (cI .i64) (fun x=>.i6 x) und3 rfl (fun _=>rfl) rfl rfl h60) ?_
 refine RD.q rfl (q0f rfl rfl (q8t q0d und52 (q03 inf66) (by decide) q0l (vo rfl) h62)) ?_
 refine RD.q rfl (q0z und66 rfl (q03 inf3) rfl (qq4 rfl) rfl) ?_
 refine z3d (u:=.junk) (σ':=⟨[(8,.vec (List.map q0d (l53.set (0+z52.toNat) (q15.mk x61.Feat x59))).flatten 66 2 0),(7,.row (q01 x34) 54),(6,.vec (List.map q01 l27).flatten 54 2 t28),(5,.row [.vl 6 t28 0 l27.length] 24),(4,.vec (List.map (cI .i64) r14.2).flatten 3 1 (t16 0)),(3,.vec (List.map (cI .i64) r14.1).flatten 3 1 t13),(2,.row [.iM q01 p1.Nodes,.vl 3 t13 0 r14.1.length,.vl 4 (t16 0) 0 r14.2.length] 139),(1,.row [.nils] 24),(0,.row [.iM q01 p1.Nodes] 24)],9⟩) rfl (st_vf (y:=(q15.mk x61.Feat x59)) q0d (q03 inf3) q0l rfl rfl rfl rfl rfl rfl (qni h62) rfl rfl) rfl ?_
 refine RD.done ⟨by kernel_rfl,trivial,?_⟩
 refine go ?_
 exact ⟨_,_,⟨rfl,rfl⟩,NZ,z38 ⟨rfl,rfl,rfl,rfl,rfl,rfl,(by simp only [List.length_set]; rfl),rfl,trivial⟩ rfl⟩
 refine go ?_
 exact xC ⟨l53,hF,rfl,rfl⟩
 refine go ?_
 exact xC ⟨l27,t28,hF,rfl,rfl⟩
 rintro (_|m1) _ _ ⟨z9,l10,t11,hF,rfl,rfl⟩
 cases hF
 unfold q5c at hF
 refine go ?_
 refine RS.q rfl (q0z und24 rfl (q03 inf22) rfl rfl rfl) (RS.q rfl (q0n und22 rfl rfl rfl rfl) (RS.q rfl (q0c rfl rfl rfl (q08 q01 und22)) ?_))
 refine go ?_
 refine cF hF (fun h63 hF=>?_) (fun h63 hF=>?_)
 refine go ?_
 refine WPU.block ?_
 obtain ⟨h64,hF⟩:=q09 hF
 refine go ?_
 refine RS.q (u:=.ptr 2 0 0) rfl (qdz rfl rfl) (RS.q rfl (q0z und139 rfl (q03 inf33) rfl rfl rfl) (RS.q rfl (q0n und33 rfl rfl rfl rfl) (RS.q (u:=.sl 4 0 1 1) (σ':=⟨[(4,.row [.i6 (-1)] 3),(3,.vec (List.map (cI .i64) l10).flatten 3 1 t11),(2,.row [.iM q01 p1.Nodes,.vl 3 t11 0 l10.length,.nils] 139),(1,.row [.nils] 24),(0,.row [.iM q01 p1.Nodes] 24)],5⟩) rfl (q0k und33 inf3 rfl rfl rfl rfl rfl rfl rfl) (RS.q (u:=.vl 3 (t11+1) 0 ((l10++[(-1)]).length)) (σ':=⟨[(4,.row [.i6 (-1)] 3),(3,.vec (List.map (cI .i64) (l10++[(-1)])).flatten 3 1 (t11+1)),(2,.row [.iM q01 p1.Nodes,.vl 3 t11 0 l10.length,.nils] 139),(1,.row [.nils] 24),(0,.row [.iM q01 p1.Nodes] 24)],5⟩) rfl (q1i rfl rfl rfl rfl (q1s (cI .i64) ([(-1)]) und33 und33 inf3 rfl (q13 .i64) rfl (q1l (cI .i64) [(-1)] rfl rfl rfl rfl) h64)) (RS.q (u:=.ptr 2 0 0) rfl (qdz rfl rfl) (RS.q rfl (q0z und139 rfl (q03 inf33) rfl rfl rfl) ?_))))))
 refine z36 (u:=.junk) (σ':=⟨[(4,.row [.i6 (-1)] 3),(3,.vec (List.map (cI .i64) (l10++[(-1)])).flatten 3 1 (t11+1)),(2,.row [.iM q01 p1.Nodes,.vl 3 (t11+1) 0 ((l10++[(-1)]).length),.nils] 139),(1,.row [.nils] 24),(0,.row [.iM q01 p1.Nodes] 24)],5⟩) rfl (q0v (q03 inf33) rfl rfl rfl rfl rfl rfl rfl rfl) rfl ?_
 refine go ?_
 exact lC ⟨_,(l10++[(-1)]),(t11+1),hF,rfl,rfl⟩
 refine go ?_
 exact xC ⟨l10,t11,hF,rfl,rfl⟩
def qai (n:Nat) (p1:GFS):Option (GFS×Int) :=
 q04 (qcd n p1) fun r2 =>
 cond (r2 != 0)
  (some ((GFS.mk []),r2))
  (q04 (qcc n p1 0) fun r5 =>
  some (r5,0))
theorem qor (n:Nat) (p1:GFS) (r:GFS×Int) (hF:qai n p1=some r):EvU Tryz.prog 42 [.agg [.isl false (List.map q01 p1.Nodes)]] ⟨[],0⟩ (fun u _=>u = .tup [.agg [.isl false (List.map q01 r.1.Nodes)],.int .i64 r.2]∧Bel 0 u):=by
 unfold qai at hF
 refine bg1 13 fn42 ?_
 refine go ?_
 refine RS.q (u:=.ptr 0 0 0) (σ':=⟨[(0,.row [.iM q01 p1.Nodes] 24)],1⟩) rfl (q3r rfl rfl rfl) (RS.q (u:=.ptr 1 0 0) (σ':=⟨[(1,.row [.nils] 24),(0,.row [.iM q01 p1.Nodes] 24)],2⟩) rfl (q1j inf24 rfl rfl) ?_)
 obtain ⟨r2,h3,hF⟩:=q00 hF
 refine go ?_
 refine RS.q (u:=.agg [.iM q01 p1.Nodes]) rfl (q17 und24 rfl (q03 inf24) rfl rfl rfl) (RS.cl rfl (pC (qqq n p1 r2 h3) _) fn67 ?_)
 refine go ?_
 refine cF hF (fun h4 hF=>?_) (fun h4 hF=>?_)
 refine go ?_
 refine RS.q (u:=.agg [.nils]) rfl (q3v bd24 rfl rfl rfl) ?_
 refine go ?_
 refine z36 (u:=.junk) (σ':=⟨[(1,.row [.nils] 24),(0,.row [.iM q01 p1.Nodes] 24)],2⟩) rfl (q0v (q03 inf24) rfl rfl rfl rfl rfl rfl rfl rfl) rfl ?_
 refine go ?_
 obtain rfl:=sI hF
 exact rT (us:=[.agg [.nils],.i6 r2]) (u:=.tup [.agg [.isl false []],.i6 r2]) (qk7 (q17 und24 rfl (q03 inf24) rfl rfl rfl) (q2l rfl (q3b))) wR
 obtain ⟨r5,h6,hF⟩:=q00 hF
 refine go ?_
 refine RS.q (u:=.agg [.iM q01 p1.Nodes]) rfl (q17 und24 rfl (q03 inf24) rfl rfl rfl) (RS.cl rfl (pC (qqo n p1 0 r5 h6) _) fn68 ?_)
 refine z36 (u:=.junk) (σ':=⟨[(1,.row [.iM q01 r5.Nodes] 24),(0,.row [.iM q01 p1.Nodes] 24)],2⟩) rfl (q0v (q03 inf24) rfl rfl rfl rfl rfl rfl rfl rfl) rfl ?_
 refine go ?_
 obtain rfl:=sI hF
 exact rT (qk7 (q17 und24 rfl (q03 inf24) rfl rfl rfl) (q2l rfl (q3b))) (z3f _ rfl)
def q8d   : Option (Bool) :=
 some true
def q4m (p1:GFS):Nat→Int→Option (Bool)
 | 0,_=>none
 | m1+1,z5 =>
  cond (decide (z5<(p1.Nodes.length:Int)))
   (q04 (q0w p1.Nodes z5) fun x7 =>
   cond (decide ((x7.Arcs.length:Int) > 12))
    (some false)
    ((q4m p1 m1) (IntKind.i64.wrap (z5+1))))
   (q8d)
def qaj (n:Nat) (p1:GFS):Option (Bool) :=
 cond (decide ((p1.Nodes.length:Int) > 12))
  (some false)
  (q4m p1 n 0)
theorem qos (n:Nat) (p1:GFS) (r:Bool) (hF:qaj n p1=some r):EvU Tryz.prog 41 [.agg [.isl false (List.map q01 p1.Nodes)]] ⟨[],0⟩ (fun u _=>u = .bool r∧Bel 0 u):=by
 unfold qaj at hF
 refine bg1 23 fn41 ?_
 refine go ?_
 refine RS.q (u:=.ptr 0 0 0) (σ':=⟨[(0,.row [.iM q01 p1.Nodes] 24)],1⟩) rfl (q3r rfl rfl rfl) ?_
 refine go ?_
 refine RS.q rfl (q0z und24 rfl (q03 inf22) rfl rfl rfl) (RS.q rfl (q0n und22 rfl rfl rfl rfl) (RS.q rfl (q0c rfl rfl rfl (q08 q01 und22)) ?_))
 refine go ?_
 refine cF hF (fun h2 hF=>?_) (fun h2 hF=>?_)
 exact gx hF
 refine go ?_
 refine gS (l':=[(1,_),(3,_)]) ?_
 refine z2x (fun m tm σ=>∃ z5:Int,q4m p1 m z5=some r∧tm=fr 23 [(1,.ptr 0 0 0),(3,.i6 z5)]∧σ=⟨[(0,.row [.iM q01 p1.Nodes] 24)],1⟩) (fun tm σ=>q8d=some r∧tm=fr 23 []∧σ=⟨[(0,.row [.iM q01 p1.Nodes] 24)],1⟩) n ⟨0,hF,rfl,rfl⟩ ?_ ?_
 rintro _ _ ⟨hF,rfl,rfl⟩
 unfold q8d at hF
 exact gx hF
 rintro (_|m1) _ _ ⟨z5,hF,rfl,rfl⟩
 cases hF
 unfold q4m at hF
 refine go ?_
 refine RS.q rfl (q0z und24 rfl (q03 inf22) rfl rfl rfl) (RS.q rfl (q0n und22 rfl rfl rfl rfl) (RS.q rfl (q0c rfl rfl rfl (q08 q01 und22)) ?_))
 refine go ?_
 refine cF hF (fun h6 hF=>?_) (fun h6 hF=>?_)
 refine go ?_
 refine WPU.block ?_
 obtain ⟨x7,h8,hF⟩:=q00 hF
 refine go ?_
 refine RS.q rfl (q0z und24 rfl (q03 inf22) rfl rfl rfl) (RS.q rfl (q0n und22 rfl rfl rfl rfl) ?_)
 refine go ?_
 refine RS.q rfl (q0f rfl rfl (q07 q01 und22 (q03 inf54) q1n h8 rfl)) (RS.q rfl (q1d und54 rfl (q03 inf52) rfl rfl) (RS.q rfl (q0b und52 rfl rfl rfl) (RS.q rfl (q0c rfl rfl rfl (q08 q0d und52)) ?_)))
 refine go ?_
 refine cF hF (fun h9 hF=>?_) (fun h9 hF=>?_)
 exact gx hF
 refine go ?_
 exact lC ⟨_,hF,rfl,rfl⟩
 refine go ?_
 exact xC ⟨hF,rfl,rfl⟩
def q5y (z6:Int) (rc1:Int→(List Int)→Option ((List Int))) (l28:List Int):Option ((List Int)) :=
 rc1 (IntKind.i64.wrap (z6+1)) l28
def q3i (z6:Int) (rc1:Int→(List Int)→Option ((List Int))) (x12:q0o):Nat→Int→(List Int)→Option ((List Int))
 | 0,_,_=>none
 | m2+1,z25,l26 =>
  cond (decide (z25<(x12.Arcs.length:Int)))
   (q04 (q0w x12.Arcs z25) fun x31 =>
   q04 (q0w x12.Arcs z25) fun x33 =>
   q1b ((l26.length+2)*8≤140737488355328∧l26.length+2≤140737488355328) (
   (q3i z6 rc1 x12 m2) (IntKind.i64.wrap (z25+1)) (l26++[x31.Feat,x33.To])))
   (q5y z6 rc1 l26)
def q5x  (l9:List Int):Option ((List Int)) :=
 some l9
def q1w (p1:GFS) (n:Nat):Nat→Int→(List Int)→Option ((List Int))
 | 0,_,_=>none
 | m1+1,z6,l7 =>
  cond (decide (z6<(p1.Nodes.length:Int)))
   (q04 (q0w p1.Nodes z6) fun x12 =>
   q04 (q0w p1.Nodes z6) fun x14 =>
   q1b ((l7.length+2)*8≤140737488355328∧l7.length+2≤140737488355328) (
   q3i z6 (q1w p1 n m1) x12 n 0 (l7++[x14.Typex,(x12.Arcs.length:Int)])))
   (q5x l7)
def q5f (n:Nat) (p1:GFS):Option ((List Int)) :=
 q1w p1 n n 0 ([(p1.Nodes.length:Int)])
theorem qex (n:Nat) (p1:GFS) (r:(List Int)) (hF:q5f n p1=some r):EvU Tryz.prog 70 [.agg [.isl false (List.map q01 p1.Nodes)]] ⟨[],0⟩ (fun u _=>u = .isl false (List.map (cI .i64) r)∧Bel 0 u):=by
 unfold q5f at hF
 refine bg1 55 fn70 ?_
 refine go ?_
 refine RS.q (u:=.ptr 0 0 0) (σ':=⟨[(0,.row [.iM q01 p1.Nodes] 24)],1⟩) rfl (q3r rfl rfl rfl) ?_
 refine go ?_
 refine RS.q rfl (q0z und24 rfl (q03 inf22) rfl rfl rfl) (RS.q rfl (q0n und22 rfl rfl rfl rfl) (RS.q rfl (q0c rfl rfl rfl (q08 q01 und22)) (RS.step (u:=.vl 1 0 0 ([(p1.Nodes.length:Int)].length)) (σ':=⟨[(1,.vec (List.map (cI .i64) ([(p1.Nodes.length:Int)])).flatten 3 1 0),(0,.row [.iM q01 p1.Nodes] 24)],2⟩) rfl (qch.bslv (cs:=(List.map (cI .i64) [(p1.Nodes.length:Int)]).flatten) Tryz.tb_ok rfl und33 inf3 rfl rfl rfl rfl rfl rfl rfl rfl) rfl rfl ?_)))
 refine go ?_
 refine gS (l':=[(1,_),(3,_),(4,_)]) ?_
 refine z2x (fun m tm σ=>∃ z6:Int,∃ l7:List Int,∃ t8:Nat,q1w p1 n m z6 l7=some r∧tm=fr 55 [(1,.ptr 0 0 0),(3,.vl 1 t8 0 l7.length),(4,.i6 z6)]∧σ=⟨[(1,.vec (List.map (cI .i64) l7).flatten 3 1 t8),(0,.row [.iM q01 p1.Nodes] 24)],2⟩) (fun tm σ=>∃ l9:List Int,∃ t10:Nat,q5x l9=some r∧tm=fr 55 [(3,.vl 1 t10 0 l9.length)]∧σ=⟨[(1,.vec (List.map (cI .i64) l9).flatten 3 1 t10),(0,.row [.iM q01 p1.Nodes] 24)],2⟩) n ⟨0,[(p1.Nodes.length:Int)],0,hF,rfl,rfl⟩ ?_ ?_
 rintro _ _ ⟨l9,t10,hF,rfl,rfl⟩
 unfold q5x at hF
 refine go ?_
 obtain rfl:=sI hF
 exact rT (us:=[.vl 1 t10 0 l9.length]) (u:=.iM (cI .i64) l9) (q2l rfl (q3b)) (fR 1 1)
 rintro (_|m1) _ _ ⟨z6,l7,t8,hF,rfl,rfl⟩
 cases hF
 unfold q1w at hF
 refine go ?_
 refine RS.q rfl (q0z und24 rfl (q03 inf22) rfl rfl rfl) (RS.q rfl (q0n und22 rfl rfl rfl rfl) (RS.q rfl (q0c rfl rfl rfl (q08 q01 und22)) ?_))
 refine go ?_
 refine cF hF (fun h11 hF=>?_) (fun h11 hF=>?_)
 refine go ?_
 refine WPU.block ?_
 obtain ⟨x12,h13,hF⟩:=q00 hF
 refine go ?_
 refine RS.q rfl (q0z und24 rfl (q03 inf22) rfl rfl rfl) (RS.q rfl (q0n und22 rfl rfl rfl rfl) ?_)
 refine go ?_
 refine RS.q rfl (q0f rfl rfl (q07 q01 und22 (q03 inf54) q1n h13 rfl)) (RS.q rfl (q1d und54 rfl (q03 inf52) rfl rfl) (RS.q rfl (q0b und52 rfl rfl rfl) ?_))
 obtain ⟨x14,h15,hF⟩:=q00 hF
 obtain ⟨h16,hF⟩:=q09 hF
 refine go ?_
 refine RS.q rfl (q0z und24 rfl (q03 inf22) rfl rfl rfl) (RS.q rfl (q0n und22 rfl rfl rfl rfl) ?_)
 refine go ?_
 refine RS.q rfl (q0f rfl rfl (q07 q01 und22 (q03 inf54) q1n h15 rfl)) (RS.q rfl (q1d und54 rfl (q03 inf3) rfl rfl) (RS.q rfl (q0b und3 rfl rfl rfl) ?_))
 refine go ?_
 refine RS.q rfl (q0c rfl rfl rfl (q08 q0d und52)) (RS.q (u:=.sl 2 0 2 2) (σ':=⟨[(2,.row [.i6 x14.Typex,.i6 (x12.Arcs.length:Int)] 3),(1,.vec (List.map (cI .i64) l7).flatten 3 1 t8),(0,.row [.iM q01 p1.Nodes] 24)],3⟩) rfl (q0k und33 inf3 rfl rfl rfl rfl rfl rfl rfl) (RS.q (u:=.vl 1 (t8+1) 0 ((l7++[x14.Typex,(x12.Arcs.length:Int)]).length)) (σ':=⟨[(2,.row [.i6 x14.Typex,.i6 (x12.Arcs.length:Int)] 3),(1,.vec (List.map (cI .i64) (l7++[x14.Typex,(x12.Arcs.length:Int)])).flatten 3 1 (t8+1)),(0,.row [.iM q01 p1.Nodes] 24)],3⟩) rfl (q1i rfl rfl rfl rfl (q1s (cI .i64) ([x14.Typex,(x12.Arcs.length:Int)]) und33 und33 inf3 rfl (q13 .i64) rfl (q1l (cI .i64) [x14.Typex,(x12.Arcs.length:Int)] rfl rfl rfl rfl) h16)) ?_))
 refine go ?_
 refine gS (l':=[(1,_),(3,_),(4,_),(5,_),(6,_)]) ?_
 refine z2x (fun m tm σ=>∃ z25:Int,∃ l26:List Int,∃ t27:Nat,q3i z6 (q1w p1 n m1) x12 m z25 l26=some r∧tm=fr 55 [(1,.ptr 0 0 0),(3,.vl 1 t27 0 l26.length),(4,.i6 z6),(5,.iM q0d x12.Arcs),(6,.i6 z25)]∧σ=⟨[(2,.row [.i6 x14.Typex,.i6 (x12.Arcs.length:Int)] 3),(1,.vec (List.map (cI .i64) l26).flatten 3 1 t27),(0,.row [.iM q01 p1.Nodes] 24)],3⟩) (fun tm σ=>∃ l28:List Int,∃ t29:Nat,q5y z6 (q1w p1 n m1) l28=some r∧tm=fr 55 [(1,.ptr 0 0 0),(3,.vl 1 t29 0 l28.length),(4,.i6 z6)]∧σ=⟨[(2,.row [.i6 x14.Typex,.i6 (x12.Arcs.length:Int)] 3),(1,.vec (List.map (cI .i64) l28).flatten 3 1 t29),(0,.row [.iM q01 p1.Nodes] 24)],3⟩) n ⟨0,(l7++[x14.Typex,(x12.Arcs.length:Int)]),(t8+1),hF,rfl,rfl⟩ ?_ ?_
 rintro _ _ ⟨l28,t29,hF,rfl,rfl⟩
 unfold q5y at hF
 refine go ?_
 exact lC ⟨_,l28,t29,hF,rfl,rfl⟩
 rintro (_|m2) _ _ ⟨z25,l26,t27,hF,rfl,rfl⟩
 cases hF
 unfold q3i at hF
 refine go ?_
 refine RS.q rfl (q0c rfl rfl rfl (q08 q0d und52)) ?_
 refine go ?_
 refine cF hF (fun h30 hF=>?_) (fun h30 hF=>?_)
 refine go ?_
 refine WPU.block ?_
 obtain ⟨x31,h32,hF⟩:=q00 hF
 obtain ⟨x33,h34,hF⟩:=q00 hF
 obtain ⟨h35,hF⟩:=q09 hF
 refine go ?_
 refine z2z Tryz.tb_ok [(0,11)] (by kernel_rfl) ?_
 repeat refine RD.mv rfl rfl rfl rfl ?_
 refine RD.q rfl (q0f rfl rfl (q07 q0d und52 (q03 inf66) q0l h32 rfl)) (RD.q rfl (q1d und66 rfl (q03 inf3) rfl rfl) (RD.q rfl (q0b und3 rfl rfl rfl) ?_))
 repeat refine RD.mv rfl rfl rfl rfl ?_
 refine RD.q rfl (q0f rfl rfl (q07 q0d und52 (q03 inf66) q0l h34 rfl)) (RD.q rfl (q1d und66 rfl (q03 inf3) rfl rfl) (RD.q rfl (q0b und3 rfl rfl rfl) (RD.act (u:=.sl 3 0 2 2) (σ':=⟨[(3,.row [.i6 x31.Feat,.i6 x33.To] 3),(2,.row [.i6 x14.Typex,.i6 (x12.Arcs.length:Int)] 3),(1,.vec (List.map (cI .i64) l26).flatten 3 1 t27),(0,.row [.iM q01 p1.Nodes] 24)],4⟩) rfl (q0k und33 inf3 rfl rfl rfl rfl rfl rfl rfl) rfl rfl (RD.act (u:=.vl 1 (t27+1) 0 ((l26++[x31.Feat,x33.To]).length)) (σ':=⟨[(3,.row [.i6 x31.Feat,.i6 x33.To] 3),(2,.row [.i6 x14.Typex,.i6 (x12.Arcs.length:Int)] 3),(1,.vec (List.map (cI .i64) (l26++[x31.Feat,x33.To])).flatten 3 1 (t27+1)),(0,.row [.iM q01 p1.Nodes] 24)],4⟩) rfl (q1i rfl rfl rfl rfl (q1s (cI .i64) ([x31.Feat,x33.To]) und33 und33 inf3 rfl (q13 .i64) rfl (q1l (cI .i64) [x31.Feat,x33.To] rfl rfl rfl rfl) h35)) rfl rfl (RD.as rfl rfl rfl rfl ?_)))))
 refine RD.done ⟨by kernel_rfl,⟨q0s rfl,trivial⟩,?_⟩
 refine go ?_
 exact lC ⟨_,(l26++[x31.Feat,x33.To]),(t27+1),hF,rfl,rfl⟩
 refine go ?_
 exact xC ⟨l26,t27,hF,rfl,rfl⟩
 refine go ?_
 exact xC ⟨l7,t8,hF,rfl,rfl⟩
def q4b   : Option (Int) :=
 some 0
def q3h (r3:(List Int)) (r5:(List Int)):Nat→Int→Option (Int)
 | 0,_=>none
 | m1+1,z12 =>
  q04 (cond (decide (z12<(r3.length:Int)))
   (some (decide (z12<(r5.length:Int))))
   (some false)) fun b14 =>
  cond b14
   (q04 (q0w r3 z12) fun x17 =>
   q04 (q0w r5 z12) fun x19 =>
   cond (decide (x17<x19))
    (some (-1))
    (q04 (q0w r3 z12) fun x22 =>
    q04 (q0w r5 z12) fun x24 =>
    cond (decide (x22 > x24))
     (some 1)
     ((q3h r3 r5 m1) (IntKind.i64.wrap (z12+1)))))
   (q4b)
def q6z (n:Nat) (p1:GFS) (p2:GFS):Option (Int) :=
 q04 (q5f n p1) fun r3 =>
 q04 (q5f n p2) fun r5 =>
 q3h r3 r5 n 0
theorem qm5 (n:Nat) (p1:GFS) (p2:GFS) (r:Int) (hF:q6z n p1 p2=some r):EvU Tryz.prog 50 [.agg [.isl false (List.map q01 p1.Nodes)],.agg [.isl false (List.map q01 p2.Nodes)]] ⟨[],0⟩ (fun u _=>u = .int .i64 r∧Bel 0 u):=by
 unfold q6z at hF
 refine bg2 42 fn50 ?_
 refine go ?_
 refine RS.q (u:=.ptr 0 0 0) (σ':=⟨[(0,.row [.iM q01 p1.Nodes] 24)],1⟩) rfl (q3r rfl rfl rfl) (RS.q (u:=.ptr 1 0 0) (σ':=⟨[(1,.row [.iM q01 p2.Nodes] 24),(0,.row [.iM q01 p1.Nodes] 24)],2⟩) rfl (q3r rfl rfl rfl) ?_)
 obtain ⟨r3,h4,hF⟩:=q00 hF
 refine go ?_
 refine RS.q (u:=.agg [.iM q01 p1.Nodes]) rfl (q17 und24 rfl (q03 inf24) rfl rfl rfl) (RS.cl rfl (pC (qex n p1 r3 h4) _) fn70 ?_)
 obtain ⟨r5,h6,hF⟩:=q00 hF
 refine go ?_
 refine RS.q (u:=.agg [.iM q01 p2.Nodes]) rfl (q17 und24 rfl (q03 inf24) rfl rfl rfl) (RS.cl rfl (pC (qex n p2 r5 h6) _) fn70 ?_)
 refine go ?_
 refine gS (l':=[(5,_),(6,_),(7,_)]) ?_
 refine z2x (fun m tm σ=>∃ z12:Int,q3h r3 r5 m z12=some r∧tm=fr 42 [(5,.iM (cI .i64) r3),(6,.iM (cI .i64) r5),(7,.i6 z12)]∧σ=⟨[(1,.row [.iM q01 p2.Nodes] 24),(0,.row [.iM q01 p1.Nodes] 24)],2⟩) (fun tm σ=>q4b=some r∧tm=fr 42 []∧σ=⟨[(1,.row [.iM q01 p2.Nodes] 24),(0,.row [.iM q01 p1.Nodes] 24)],2⟩) n ⟨0,hF,rfl,rfl⟩ ?_ ?_
 rintro _ _ ⟨hF,rfl,rfl⟩
 unfold q4b at hF
 exact gx hF
 rintro (_|m1) _ _ ⟨z12,hF,rfl,rfl⟩
 cases hF
 unfold q3h at hF
 obtain ⟨b14,h15,hF⟩:=q00 hF
 refine gn ?_
 refine z2y (fun tm σ=>tm=fr 42 [(5,.iM (cI .i64) r3),(6,.iM (cI .i64) r5),(7,.i6 z12),(21,.bool b14)]∧σ=⟨[(1,.row [.iM q01 p2.Nodes] 24),(0,.row [.iM q01 p1.Nodes] 24)],2⟩) ?_ ?_
 rintro _ _ ⟨rfl,rfl⟩
 refine go ?_
 refine cF hF (fun h16 hF=>?_) (fun h16 hF=>?_)
 refine go ?_
 refine WPU.block ?_
 obtain ⟨x17,h18,hF⟩:=q00 hF
 obtain ⟨x19,h20,hF⟩:=q00 hF
 refine go ?_
 refine z2z Tryz.tb_ok [] (by kernel_rfl) ?_
 repeat refine RD.mv rfl rfl rfl rfl ?_
 refine RD.q rfl (q0f rfl rfl (q07 (cI .i64) und33 (q03 inf3) (q13 .i64) h18 rfl)) (RD.q rfl (q0b und3 rfl rfl rfl) ?_)
 repeat refine RD.mv rfl rfl rfl rfl ?_
 refine RD.q rfl (q0f rfl rfl (q07 (cI .i64) und33 (q03 inf3) (q13 .i64) h20 rfl)) (RD.q rfl (q0b und3 rfl rfl rfl) (RD.q rfl (q34 rfl rfl (qwj _ _ _) rfl) ?_))
 refine RD.done ⟨by kernel_rfl,trivial,?_⟩
 refine go ?_
 refine cF hF (fun h21 hF=>?_) (fun h21 hF=>?_)
 exact gx hF
 obtain ⟨x22,h23,hF⟩:=q00 hF
 obtain ⟨x24,h25,hF⟩:=q00 hF
 refine go ?_
 refine z2z Tryz.tb_ok [] (by kernel_rfl) ?_
 repeat refine RD.mv rfl rfl rfl rfl ?_
 refine RD.q rfl (q0f rfl rfl (q07 (cI .i64) und33 (q03 inf3) (q13 .i64) h23 rfl)) (RD.q rfl (q0b und3 rfl rfl rfl) ?_)
 repeat refine RD.mv rfl rfl rfl rfl ?_
 refine RD.q rfl (q0f rfl rfl (q07 (cI .i64) und33 (q03 inf3) (q13 .i64) h25 rfl)) (RD.q rfl (q0b und3 rfl rfl rfl) (RD.q rfl (q34 rfl rfl (qll _ _ _) rfl) ?_))
 refine RD.done ⟨by kernel_rfl,trivial,?_⟩
 refine go ?_
 refine cF hF (fun h26 hF=>?_) (fun h26 hF=>?_)
 exact gx hF
 refine go ?_
 exact lC ⟨_,hF,rfl,rfl⟩
 refine go ?_
 exact xC ⟨hF,rfl,rfl⟩
 rcases gB h15 with ⟨h13,h15⟩ | ⟨h13,h15⟩
 obtain rfl:=sI h15
 refine go ?_
 refine RS.q rfl (q0c rfl rfl rfl (q08 (cI .i64) und33)) ?_
 refine go ?_
 refine RS.w rfl (q0c rfl rfl rfl (q08 (cI .i64) und33)) ?_
 refine go ?_
 exact xC ⟨rfl,rfl⟩
 obtain rfl:=sI h15
 refine go ?_
 refine RS.q rfl (q0c rfl rfl rfl (q08 (cI .i64) und33)) ?_
 refine go ?_
 exact xC ⟨rfl,rfl⟩
def q7j (n:Nat) (p1:GFS) (p2:GFS):Option (Bool) :=
 q04 (q6z n p1 p2) fun r3 =>
 some (r3 == 0)
theorem q45 (n:Nat) (p1:GFS) (p2:GFS) (r:Bool) (hF:q7j n p1 p2=some r):EvU Tryz.prog 21 [.agg [.isl false (List.map q01 p1.Nodes)],.agg [.isl false (List.map q01 p2.Nodes)]] ⟨[],0⟩ (fun u _=>u = .bool r∧Bel 0 u):=by
 unfold q7j at hF
 refine bg2 9 fn21 ?_
 refine go ?_
 refine RS.q (u:=.ptr 0 0 0) (σ':=⟨[(0,.row [.iM q01 p1.Nodes] 24)],1⟩) rfl (q3r rfl rfl rfl) (RS.q (u:=.ptr 1 0 0) (σ':=⟨[(1,.row [.iM q01 p2.Nodes] 24),(0,.row [.iM q01 p1.Nodes] 24)],2⟩) rfl (q3r rfl rfl rfl) ?_)
 obtain ⟨r3,h4,hF⟩:=q00 hF
 refine go ?_
 refine RS.q (u:=.agg [.iM q01 p1.Nodes]) rfl (q17 und24 rfl (q03 inf24) rfl rfl rfl) (RS.q (u:=.agg [.iM q01 p2.Nodes]) rfl (q17 und24 rfl (q03 inf24) rfl rfl rfl) (RS.cl rfl (pC (qm5 n p1 p2 r3 h4) _) fn50 ?_))
 exact gx hF
def qem   : Option (Int×Bool) :=
 some (0,false)
def qb2 (p3:Int) (x4:q0o):Nat→Int→Option (Int×Bool)
 | 0,_=>none
 | m1+1,z11 =>
  cond (decide (z11<(x4.Arcs.length:Int)))
   (q04 (q0w x4.Arcs z11) fun x13 =>
   cond (x13.Feat == p3)
    (some (x13.To,true))
    ((qb2 p3 x4 m1) (IntKind.i64.wrap (z11+1))))
   (qem)
def qly (n:Nat) (p1:GFS) (p2:Int) (p3:Int):Option (Int×Bool) :=
 q04 (q0w p1.Nodes p2) fun x4 =>
 qb2 p3 x4 n 0
theorem qry (n:Nat) (p1:GFS) (p2:Int) (p3:Int) (r:Int×Bool) (hF:qly n p1 p2 p3=some r):EvU Tryz.prog 59 [.agg [.isl false (List.map q01 p1.Nodes)],.int .i64 p2,.int .i64 p3] ⟨[],0⟩ (fun u _=>u = .tup [.int .i64 r.1,.bool r.2]∧Bel 0 u):=by
 unfold qly at hF
 refine bg3 28 fn59 ?_
 refine go ?_
 refine RS.q (u:=.ptr 0 0 0) (σ':=⟨[(0,.row [.iM q01 p1.Nodes] 24)],1⟩) rfl (q3r rfl rfl rfl) ?_
 obtain ⟨x4,h5,hF⟩:=q00 hF
 refine go ?_
 refine RS.q rfl (q0z und24 rfl (q03 inf22) rfl rfl rfl) (RS.q rfl (q0n und22 rfl rfl rfl rfl) ?_)
 refine go ?_
 refine RS.q rfl (q0f rfl rfl (q07 q01 und22 (q03 inf54) q1n h5 rfl)) (RS.q rfl (q1d und54 rfl (q03 inf52) rfl rfl) (RS.q rfl (q0b und52 rfl rfl rfl) (RS.q rfl (q0c rfl rfl rfl (q08 q0d und52)) ?_)))
 refine go ?_
 refine gS (l':=[(2,_),(15,_),(16,_),(17,_)]) ?_
 refine z2x (fun m tm σ=>∃ z11:Int,qb2 p3 x4 m z11=some r∧tm=fr 28 [(2,.i6 p3),(15,.iM q0d x4.Arcs),(16,.i6 (x4.Arcs.length:Int)),(17,.i6 z11)]∧σ=⟨[(0,.row [.iM q01 p1.Nodes] 24)],1⟩) (fun tm σ=>qem=some r∧tm=fr 28 []∧σ=⟨[(0,.row [.iM q01 p1.Nodes] 24)],1⟩) n ⟨0,hF,rfl,rfl⟩ ?_ ?_
 rintro _ _ ⟨hF,rfl,rfl⟩
 unfold qem at hF
 refine go ?_
 obtain rfl:=sI hF
 exact rt2 rfl rfl rfl rfl rfl
 rintro (_|m1) _ _ ⟨z11,hF,rfl,rfl⟩
 cases hF
 unfold qb2 at hF
 refine go ?_
 refine cF hF (fun h12 hF=>?_) (fun h12 hF=>?_)
 refine go ?_
 refine WPU.block ?_
 obtain ⟨x13,h14,hF⟩:=q00 hF
 refine go ?_
 refine RS.q rfl (q0f rfl rfl (q07 q0d und52 (q03 inf66) q0l h14 rfl)) (RS.q (u:=.agg (q0d x13)) rfl (qav und66 rfl (q03 inf66) rfl rfl) (RS.q (u:=.ptr 1 0 0) (σ':=⟨[(1,.row [.i6 0,.i6 0] 66),(0,.row [.iM q01 p1.Nodes] 24)],2⟩) rfl (q1j inf66 rfl rfl) ?_))
 refine z36 (u:=.junk) (σ':=⟨[(1,.row (q0d x13) 66),(0,.row [.iM q01 p1.Nodes] 24)],2⟩) rfl (q0v (q03 inf66) rfl rfl rfl rfl rfl rfl rfl rfl) rfl ?_
 refine go ?_
 refine RS.q rfl (q0z und66 rfl (q03 inf3) rfl rfl rfl) (RS.q rfl (q0n und3 rfl rfl rfl rfl) ?_)
 refine go ?_
 refine cF hF (fun h15 hF=>?_) (fun h15 hF=>?_)
 refine go ?_
 refine RS.q rfl (q0z und66 rfl (q03 inf3) rfl rfl rfl) (RS.q rfl (q0n und3 rfl rfl rfl rfl) ?_)
 refine go ?_
 obtain rfl:=sI hF
 exact rt2 rfl rfl rfl rfl rfl
 refine go ?_
 exact lC ⟨_,hF,rfl,rfl⟩
 refine go ?_
 exact xC ⟨hF,rfl,rfl⟩
def qit  (z10:Int):Option (Int×Bool) :=
 some (z10,true)
def qfb (p1:GFS) (p2:List Int) (n:Nat):Nat→Int→Int→Option (Int×Bool)
 | 0,_,_=>none
 | m1+1,z8,z9 =>
  cond (decide (z9<(p2.length:Int)))
   (q04 (q0w p2 z9) fun x12 =>
   q04 (qly n p1 z8 x12) fun r14 =>
   cond (!r14.2)
    (some (0,false))
    ((qfb p1 p2 n m1) r14.1 (IntKind.i64.wrap (z9+1))))
   (qit z8)
def qod (n:Nat) (p1:GFS) (p2:List Int):Option (Int×Bool) :=
 qfb p1 p2 n n 0 0
theorem qqf (n:Nat) (p1:GFS) (p2:List Int) (r:Int×Bool) (hF:qod n p1 p2=some r):EvU Tryz.prog 30 [.agg [.isl false (List.map q01 p1.Nodes)],.isl false (List.map (cI .i64) p2)] ⟨[],0⟩ (fun u _=>u = .tup [.int .i64 r.1,.bool r.2]∧Bel 0 u):=by
 unfold qod at hF
 refine bg2 29 fn30 ?_
 refine go ?_
 refine RS.q (u:=.ptr 0 0 0) (σ':=⟨[(0,.row [.iM q01 p1.Nodes] 24)],1⟩) rfl (q3r rfl rfl rfl) ?_
 refine go ?_
 refine RS.q rfl (q0c rfl rfl rfl (q08 (cI .i64) und33)) ?_
 refine go ?_
 refine gS (l':=[(2,_),(6,_),(11,_),(12,_),(13,_)]) ?_
 refine z2x (fun m tm σ=>∃ z8:Int,∃ z9:Int,qfb p1 p2 n m z8 z9=some r∧tm=fr 29 [(2,.ptr 0 0 0),(6,.i6 z8),(11,.iM (cI .i64) p2),(12,.i6 (p2.length:Int)),(13,.i6 z9)]∧σ=⟨[(0,.row [.iM q01 p1.Nodes] 24)],1⟩) (fun tm σ=>∃ z10:Int,qit z10=some r∧tm=fr 29 [(6,.i6 z10)]∧σ=⟨[(0,.row [.iM q01 p1.Nodes] 24)],1⟩) n ⟨0,0,hF,rfl,rfl⟩ ?_ ?_
 rintro _ _ ⟨z10,hF,rfl,rfl⟩
 unfold qit at hF
 refine go ?_
 obtain rfl:=sI hF
 exact rt2 rfl rfl rfl rfl rfl
 rintro (_|m1) _ _ ⟨z8,z9,hF,rfl,rfl⟩
 cases hF
 unfold qfb at hF
 refine go ?_
 refine cF hF (fun h11 hF=>?_) (fun h11 hF=>?_)
 refine go ?_
 refine WPU.block ?_
 obtain ⟨x12,h13,hF⟩:=q00 hF
 refine go ?_
 refine RS.q rfl (q0f rfl rfl (q07 (cI .i64) und33 (q03 inf3) (q13 .i64) h13 rfl)) (RS.q rfl (q0b und3 rfl rfl rfl) ?_)
 obtain ⟨r14,h15,hF⟩:=q00 hF
 refine go ?_
 refine RS.q (u:=.agg [.iM q01 p1.Nodes]) rfl (q17 und24 rfl (q03 inf24) rfl rfl rfl) ?_
 refine go ?_
 refine RS.cl rfl (pC (qry n p1 z8 x12 r14 h15) _) fn59 ?_
 refine go ?_
 refine cF hF (fun h16 hF=>?_) (fun h16 hF=>?_)
 refine go ?_
 obtain rfl:=sI hF
 exact rt2 rfl rfl rfl rfl rfl
 refine go ?_
 exact lC ⟨r14.1,(IntKind.i64.wrap (z9+1)),hF,rfl,rfl⟩
 refine go ?_
 exact xC ⟨z8,hF,rfl,rfl⟩
def qlx (n:Nat) (p1:GFS) (p2:List Int):Option (Int×Bool) :=
 q04 (qod n p1 p2) fun r3 =>
 cond (!r3.2)
  (some (0,false))
  (q04 (q0w p1.Nodes r3.1) fun x6 =>
  some (x6.Typex,true))
theorem qrx (n:Nat) (p1:GFS) (p2:List Int) (r:Int×Bool) (hF:qlx n p1 p2=some r):EvU Tryz.prog 36 [.agg [.isl false (List.map q01 p1.Nodes)],.isl false (List.map (cI .i64) p2)] ⟨[],0⟩ (fun u _=>u = .tup [.int .i64 r.1,.bool r.2]∧Bel 0 u):=by
 unfold qlx at hF
 refine bg2 22 fn36 ?_
 refine go ?_
 refine RS.q (u:=.ptr 0 0 0) (σ':=⟨[(0,.row [.iM q01 p1.Nodes] 24)],1⟩) rfl (q3r rfl rfl rfl) ?_
 obtain ⟨r3,h4,hF⟩:=q00 hF
 refine go ?_
 refine RS.q (u:=.agg [.iM q01 p1.Nodes]) rfl (q17 und24 rfl (q03 inf24) rfl rfl rfl) ?_
 refine go ?_
 refine RS.cl rfl (pC (qqf n p1 p2 r3 h4) _) fn30 ?_
 refine go ?_
 refine cF hF (fun h5 hF=>?_) (fun h5 hF=>?_)
 refine go ?_
 obtain rfl:=sI hF
 exact rt2 rfl rfl rfl rfl rfl
 obtain ⟨x6,h7,hF⟩:=q00 hF
 refine go ?_
 refine RS.q rfl (q0z und24 rfl (q03 inf22) rfl rfl rfl) (RS.q rfl (q0n und22 rfl rfl rfl rfl) ?_)
 refine go ?_
 refine RS.q rfl (q0f rfl rfl (q07 q01 und22 (q03 inf54) q1n h7 rfl)) (RS.q rfl (q1d und54 rfl (q03 inf3) rfl rfl) (RS.q rfl (q0b und3 rfl rfl rfl) ?_))
 refine go ?_
 obtain rfl:=sI hF
 exact rt2 rfl rfl rfl rfl rfl
def q7q (n:Nat) (p1:GFS):Option ((List q0o)) :=
 some p1.Nodes
theorem qk4 (n:Nat) (p1:GFS) (r:(List q0o)) (hF:q7q n p1=some r):EvU Tryz.prog 46 [.agg [.isl false (List.map q01 p1.Nodes)]] ⟨[],0⟩ (fun u σ'=>∃ t:Nat→Nat,u = .fn (.func 69) [] [.iptr [.isl false (List.map q01 r)]]∧σ'=⟨[],0⟩):=by
 unfold q7q at hF
 refine bg1 4 fn46 ?_
 refine go ?_
 refine RS.q (u:=.ptr 0 0 0) (σ':=⟨[(0,.row [.iM q01 p1.Nodes] 24)],1⟩) rfl (q3r rfl rfl rfl) ?_
 refine go ?_
 refine RS.q rfl (op_fun rfl rfl) ?_
 refine go ?_
 obtain rfl:=sI hF
 exact ⟨.inr rfl,[.fn (.func 69) [] [.ptr 0 0 0]],q2l rfl (q3b),.fn (.func 69) [] [.iptr [.iM q01 p1.Nodes]],⟨[],0⟩,NL,Gh.trans (z34 0 1) (Gh.to (n1:=0) [] rfl rfl NL NL BUL.h BH.h),stF [],rfl,rfl⟩
def q3j (n:Nat) (p1:List Int):Option ((List Int)) :=
 qyi p1 fun b2 =>
 cond b2
  (some ([]:List Int))
  (q1b (p1.length*8≤140737488355328∧p1.length≤140737488355328) (
  some p1))
theorem qb6 (n:Nat) (p1:List Int) (r:(List Int)) (hF:q3j n p1=some r):EvU Tryz.prog 48 [.isl false (List.map (cI .i64) p1)] ⟨[],0⟩ (fun u σ'=>∃ t,u = .vl 1 t 0 r.length∧σ'=⟨[(1,.vec (List.map (cI .i64) r).flatten 3 1 t)],1+1⟩):=by
 unfold q3j at hF
 refine bg1 8 fn48 ?_
 refine go ?_
 refine RS.nilq rfl rfl und33 rfl rfl rfl rfl ?_
 intro b2 h3
 replace hF:=qu9 hF b2 fun h=>List.map_eq_nil_iff.1 (h3 h)
 refine go ?_
 refine cF hF (fun h4 hF=>?_) (fun h4 hF=>?_)
 refine go ?_
 obtain rfl:=sI hF
 exact ⟨.inr rfl,[.nils],q2l rfl q3b,.vl 1 0 0 0,⟨[(1,.vec (List.map (cI .i64) ([]:List Int)).flatten 3 1 0)],2⟩,NZ,Gh.trans (Gh.fresh (tm:=[.nils]) 3 1 (by decide) NZ) (Gh.trans (Gh.nilvec (tm:=[.nils]) 0 3 1 (by decide) NZ rfl) (Gh.trans (z3k (fun k=>Nat.beq k 1)) (Gh.to (n1:=2) [] rfl rfl NZ NL BUL.h BH.h))),0,rfl,rfl⟩
 obtain ⟨h5,hF⟩:=q09 hF
 refine go ?_
 refine RS.q (u:=.sl 0 0 0 0) (σ':=⟨[(0,.row [] 3)],1⟩) rfl (q0k und33 inf3 rfl rfl rfl rfl rfl rfl rfl) ?_
 refine go ?_
 refine RS.q (u:=.vl 1 0 0 p1.length) (σ':=⟨[(1,.vec (List.map (cI .i64) p1).flatten 3 1 0),(0,.row [] 3)],2⟩) rfl (q1i rfl rfl rfl rfl (qku (cI .i64) p1 und33 und33 inf3 rfl rfl rfl (qak (cI .i64) (q13 .i64)) h5)) ?_
 refine go ?_
 obtain rfl:=sI hF
 exact ⟨.inr rfl,[.vl 1 0 0 p1.length],q2l rfl q3b,.vl 1 0 0 p1.length,⟨[(1,.vec (List.map (cI .i64) p1).flatten 3 1 0)],2⟩,NZ,Gh.trans (z3k (fun k=>Nat.beq k 1)) (Gh.to (n1:=2) [] rfl rfl NZ NL BUL.h BH.h),0,rfl,rfl⟩
def q6k (z51:Int) (rc4:Int→(List (List Int))→(List Int)→(List Bool)→Option ((List (List Int)))) (l68:List (List Int)) (l70:List Int) (l72:List Bool):Option ((List (List Int))) :=
 rc4 (IntKind.i64.wrap (z51+1)) l68 l70 l72
def q6l (z17:Int) (l23:List (List Int)) (rc2:Int→(List (List Int))→(List Int)→(List Bool)→(List (List Int))→Option ((List (List Int)))) (x32:Int) (x34:List Int) (l57:List (List Int)) (l59:List Int) (l61:List Bool):Option ((List (List Int))) :=
 rc2 (IntKind.i64.wrap (z17+1)) l57 l59 l61 (l23.set x32.toNat x34)
def q3k (n:Nat) (r3:(List q0o)) (z17:Int) (l23:List (List Int)) (rc2:Int→(List (List Int))→(List Int)→(List Bool)→(List (List Int))→Option ((List (List Int)))) (x32:Int) (x34:List Int) (x38:q0o):Nat→Int→(List (List Int))→(List Int)→(List Bool)→Option ((List (List Int)))
 | 0,_,_,_,_=>none
 | m4+1,z51,l52,l54,l56 =>
  cond (decide (z51<(x38.Arcs.length:Int)))
   (q04 (q0w x38.Arcs z51) fun x63 =>
   q04 (qgx l56 0 ((r3.length:Int).toNat) x63.To) fun x65 =>
   cond (!x65)
    (q04 (qgx l56 0 ((r3.length:Int).toNat) x63.To) fun x73 =>
    q1b ((l54.length+1)*8≤140737488355328∧l54.length+1≤140737488355328) (
    q04 (q0w l52 z17) fun x76 =>
    q04 (q3j n x76) fun r78 =>
    q1b ((r78.length+([x63.Feat]).length)*8≤140737488355328∧r78.length+([x63.Feat]).length≤140737488355328) (
    q1b ((l52.length+1)*24≤140737488355328∧l52.length+1≤140737488355328) (
    q6k z51 (q3k n r3 z17 l23 rc2 x32 x34 x38 m4) (l52++[(r78++[x63.Feat])]) (l54++[x63.To]) (l56.set x63.To.toNat true)))))
    (q6k z51 (q3k n r3 z17 l23 rc2 x32 x34 x38 m4) l52 l54 l56))
   (q6l z17 l23 rc2 x32 x34 l52 l54 l56)
def q9a (n:Nat) (r3:(List q0o)) (z17:Int) (l18:List (List Int)) (l20:List Int) (l22:List Bool) (l23:List (List Int)) (rc2:Int→(List (List Int))→(List Int)→(List Bool)→(List (List Int))→Option ((List (List Int)))) (x32:Int) (x34:List Int)  : Option ((List (List Int))) :=
 q04 (q0w l20 z17) fun x36 =>
 q04 (q0w r3 x36) fun x38 =>
 q3k n r3 z17 l23 rc2 x32 x34 x38 n 0 l18 l20 l22
def q99 (p1:GFS) (l24:List (List Int)) (l26:List Int) (l28:List Bool) (l29:List (List Int)):Option ((List (List Int))) :=
 q1b ((p1.Nodes.length:Int).toNat=l29.length) (
 some l29)
def q28 (p1:GFS) (n:Nat) (r3:(List q0o)):Nat→Int→(List (List Int))→(List Int)→(List Bool)→(List (List Int))→Option ((List (List Int)))
 | 0,_,_,_,_,_=>none
 | m2+1,z17,l18,l20,l22,l23 =>
  cond (decide (z17<(l20.length:Int)))
   (q04 (q0w l20 z17) fun x32 =>
   q04 (q0w l18 z17) fun x34 =>
   q04 (qgx l23 0 ((p1.Nodes.length:Int).toNat) x32) fun x82 =>
   q9a n r3 z17 l18 l20 l22 l23 (q28 p1 n r3 m2) x32 x34)
   (q99 p1 l18 l20 l22 l23)
def q7c (n:Nat) (p1:GFS):Option ((List (List Int))) :=
 q1b (0≤(p1.Nodes.length:Int)∧24*(p1.Nodes.length:Int).toNat≤281474976710656∧(p1.Nodes.length:Int)≤281474976710656) (
 q04 (q7q n p1) fun r3 =>
 q1b (0≤(r3.length:Int)∧1*(r3.length:Int).toNat≤281474976710656∧(r3.length:Int)≤281474976710656) (
 q04 (qgx (List.replicate (r3.length:Int).toNat false) 0 ((r3.length:Int).toNat) 0) fun x7 =>
 q28 p1 n r3 n 0 ([[]]:List (List Int)) ([0]) ((List.replicate (r3.length:Int).toNat false).set (0:Int).toNat true) (List.replicate (p1.Nodes.length:Int).toNat [])))
theorem q4x (n:Nat) (p1:GFS) (r:(List (List Int))) (hF:q7c n p1=some r):EvU Tryz.prog 15 [.agg [.isl false (List.map q01 p1.Nodes)]] ⟨[],0⟩ (fun u _=>u = .isl false (List.map (cL (cI .i64)) r)∧Bel 0 u):=by
 unfold q7c at hF
 refine EvU.of_bodyM Tryz.tb_ok fn15 rfl ?_
 refine WPU.ghost (tm':=fr 19 [(0,.agg [.iM q01 p1.Nodes])]) (Gh.start NL) NL ?_
 refine go ?_
 refine RS.q (u:=.ptr 0 0 0) (σ':=⟨[(0,.row [.iM q01 p1.Nodes] 24)],1⟩) rfl (q3r rfl rfl rfl) ?_
 obtain ⟨h2,hF⟩:=q09 hF
 refine go ?_
 refine RS.q rfl (q0z und24 rfl (q03 inf22) rfl rfl rfl) (RS.q rfl (q0n und22 rfl rfl rfl rfl) (RS.q rfl (q0c rfl rfl rfl (q08 q01 und22)) (RS.q (u:=.sl 1 0 ((p1.Nodes.length:Int).toNat) ((p1.Nodes.length:Int).toNat)) (σ':=⟨[(1,.row (List.map (cL (cI .i64)) (List.replicate (p1.Nodes.length:Int).toNat [])).flatten 33),(0,.row [.iM q01 p1.Nodes] 24)],2⟩) rfl (qqd (cL (cI .i64)) [] rfl rfl und28 inf33 rfl rfl rfl rfl h2) (RS.q (u:=.ptr 2 0 0) (σ':=⟨[(2,.row [.nils] 28),(1,.row (List.map (cL (cI .i64)) (List.replicate (p1.Nodes.length:Int).toNat [])).flatten 33),(0,.row [.iM q01 p1.Nodes] 24)],3⟩) rfl (q1j inf28 rfl rfl) ?_))))
 refine z36 (u:=.junk) (σ':=⟨[(2,.row [.sl 1 0 ((p1.Nodes.length:Int).toNat) ((p1.Nodes.length:Int).toNat)] 28),(1,.row (List.map (cL (cI .i64)) (List.replicate (p1.Nodes.length:Int).toNat [])).flatten 33),(0,.row [.iM q01 p1.Nodes] 24)],3⟩) rfl (q0v (q03 inf28) rfl rfl rfl rfl rfl rfl rfl rfl) rfl ?_
 obtain ⟨r3,h4,hF⟩:=q00 hF
 refine go ?_
 refine RS.q (u:=.agg [.iM q01 p1.Nodes]) rfl (q17 und24 rfl (q03 inf24) rfl rfl rfl) ?_
 refine z3h (R:=fun u σ'=>∃ t5:Nat→Nat,u = .fn (.func 69) [] [.iptr [.iM q01 r3]]∧σ'=⟨[(2,.row [.sl 1 0 ((p1.Nodes.length:Int).toNat) ((p1.Nodes.length:Int).toNat)] 28),(1,.row (List.map (cL (cI .i64)) (List.replicate (p1.Nodes.length:Int).toNat [])).flatten 33),(0,.row [.iM q01 p1.Nodes] 24)],3⟩) (args:=[.agg [.iM q01 p1.Nodes]]) rfl (qcv rfl rfl fn46 hb46 rfl rfl) (EvU.st [] (qk4 n p1 r3 h4 )) rfl rfl ?_
 rintro _ _ ⟨t5,rfl,rfl⟩
 refine go ?_
 refine WPU.block ?_
 refine gn ?_
 refine gS (l':=[(3,_),(11,_)]) ?_
 refine WPU.range Tryz.tb_ok rfl (fun _ h=>h) (q2e rfl) fn69 rfl rfl ?_
 intro ly1 fn1 tp1 D1
 refine WPU.ghost (tm':=fr 76 [(0,.fn (.yield ly1) [] []),(1,.iptr [.iM q01 r3])]) (Gh.start NL) (Nat.le_refl _) ?_
 obtain ⟨h6,hF⟩:=q09 hF
 refine go ?_
 refine RS.q rfl (q1d und24 rfl (q03 inf22) rfl rfl) (RS.q rfl (q0b und22 rfl rfl rfl) (RS.q rfl (q0c rfl rfl rfl (q08 q01 und22)) (RS.q (u:=.sl 3 0 ((r3.length:Int).toNat) ((r3.length:Int).toNat)) (σ':=⟨[(3,.row (List.map cB (List.replicate (r3.length:Int).toNat false)).flatten 4),(2,.row [.sl 1 0 ((p1.Nodes.length:Int).toNat) ((p1.Nodes.length:Int).toNat)] 28),(1,.row (List.map (cL (cI .i64)) (List.replicate (p1.Nodes.length:Int).toNat [])).flatten 33),(0,.row [.iM q01 p1.Nodes] 24)],4⟩) rfl (qqd cB false rfl rfl und75 inf4 rfl rfl rfl rfl h6) ?_)))
 obtain ⟨x7,h8,hF⟩:=q00 hF
 refine go ?_
 refine RS.q rfl (q0f rfl rfl (qk0 und75 (q03 inf4) rfl h8)) ?_
 refine z36 (u:=.junk) (σ':=⟨[(3,.row (List.map cB ((List.replicate (r3.length:Int).toNat false).set (0:Int).toNat true)).flatten 4),(2,.row [.sl 1 0 ((p1.Nodes.length:Int).toNat) ((p1.Nodes.length:Int).toNat)] 28),(1,.row (List.map (cL (cI .i64)) (List.replicate (p1.Nodes.length:Int).toNat [])).flatten 33),(0,.row [.iM q01 p1.Nodes] 24)],4⟩) rfl (qsc cB (q03 inf4) qsy rfl rfl rfl rfl rfl rfl h8 rfl) rfl ?_
 refine go ?_
 refine RS.step (u:=.vl 4 0 0 ([0].length)) (σ':=⟨[(4,.vec (List.map (cI .i64) ([0])).flatten 3 1 0),(3,.row (List.map cB ((List.replicate (r3.length:Int).toNat false).set (0:Int).toNat true)).flatten 4),(2,.row [.sl 1 0 ((p1.Nodes.length:Int).toNat) ((p1.Nodes.length:Int).toNat)] 28),(1,.row (List.map (cL (cI .i64)) (List.replicate (p1.Nodes.length:Int).toNat [])).flatten 33),(0,.row [.iM q01 p1.Nodes] 24)],5⟩) rfl (qch.bslv (cs:=(List.map (cI .i64) [0]).flatten) Tryz.tb_ok rfl und33 inf3 rfl rfl rfl rfl rfl rfl rfl rfl) rfl rfl (RS.step (u:=.vl 5 0 0 (([[]]:List (List Int)).length)) (σ':=⟨[(5,.vec (List.map (cL (cI .i64)) ([[]]:List (List Int))).flatten 33 1 0),(4,.vec (List.map (cI .i64) ([0])).flatten 3 1 0),(3,.row (List.map cB ((List.replicate (r3.length:Int).toNat false).set (0:Int).toNat true)).flatten 4),(2,.row [.sl 1 0 ((p1.Nodes.length:Int).toNat) ((p1.Nodes.length:Int).toNat)] 28),(1,.row (List.map (cL (cI .i64)) (List.replicate (p1.Nodes.length:Int).toNat [])).flatten 33),(0,.row [.iM q01 p1.Nodes] 24)],6⟩) rfl (qch.bslw (cs0:=[.nils]) (cs:=(List.map (cL (cI .i64)) ([[]]:List (List Int))).flatten) Tryz.tb_ok rfl und28 inf33 rfl rfl rfl rfl rfl (.cons (.nil false) .nil) rfl rfl rfl) rfl rfl ?_)
 refine go ?_
 refine gS (l':=[(0,_),(1,_),(3,_),(4,_),(5,_),(6,_)]) ?_
 refine z2x (fun m tm σ=>∃ z17:Int,∃ l18:List (List Int),∃ t19:Nat,∃ l20:List Int,∃ t21:Nat,∃ l22:List Bool,∃ l23:List (List Int),q28 p1 n r3 m z17 l18 l20 l22 l23=some r∧tm=fr 76 [(0,.fn (.yield ly1) [] []),(1,.iptr [.iM q01 r3]),(3,.sl 3 0 ((r3.length:Int).toNat) ((r3.length:Int).toNat)),(4,.vl 4 t21 0 l20.length),(5,.vl 5 t19 0 l18.length),(6,.i6 z17)]∧σ=⟨[(5,.vec (List.map (cL (cI .i64)) l18).flatten 33 1 t19),(4,.vec (List.map (cI .i64) l20).flatten 3 1 t21),(3,.row (List.map cB l22).flatten 4),(2,.row [.sl 1 0 ((p1.Nodes.length:Int).toNat) ((p1.Nodes.length:Int).toNat)] 28),(1,.row (List.map (cL (cI .i64)) l23).flatten 33),(0,.row [.iM q01 p1.Nodes] 24)],6⟩) (fun tm σ=>∃ l24:List (List Int),∃ t25:Nat,∃ l26:List Int,∃ t27:Nat,∃ l28:List Bool,∃ l29:List (List Int),q99 p1 l24 l26 l28 l29=some r∧tm=fr 76 []∧σ=⟨[(5,.vec (List.map (cL (cI .i64)) l24).flatten 33 1 t25),(4,.vec (List.map (cI .i64) l26).flatten 3 1 t27),(3,.row (List.map cB l28).flatten 4),(2,.row [.sl 1 0 ((p1.Nodes.length:Int).toNat) ((p1.Nodes.length:Int).toNat)] 28),(1,.row (List.map (cL (cI .i64)) l29).flatten 33),(0,.row [.iM q01 p1.Nodes] 24)],6⟩) n ⟨0,([[]]:List (List Int)),0,[0],0,((List.replicate (r3.length:Int).toNat false).set (0:Int).toNat true),(List.replicate (p1.Nodes.length:Int).toNat []),hF,rfl,rfl⟩ ?_ ?_
 rintro _ _ ⟨l24,t25,l26,t27,l28,l29,hF,rfl,rfl⟩
 unfold q99 at hF
 refine gn ?_
 refine ⟨.inl rfl,?_⟩
 refine go ?_
 refine RS.q rfl (q0n und28 rfl rfl rfl rfl) ?_
 obtain ⟨h30,hF⟩:=q09 hF
 refine go ?_
 obtain rfl:=sI hF
 exact ⟨.inr rfl,[.sl 1 0 ((p1.Nodes.length:Int).toNat) ((p1.Nodes.length:Int).toNat)],q2l rfl (q3b),.iM (cL (cI .i64)) l29,⟨[],0⟩,Nat.le_refl _,Gh.trans (Gh.fz (tm':=[.iM (cL (cI .i64)) l29]) (h':=[(5,.vec (List.map (cL (cI .i64)) l24).flatten 33 1 t25),(4,.vec (List.map (cI .i64) l26).flatten 3 1 t27),(3,.row (List.map cB l28).flatten 4),(2,.row [.iM (cL (cI .i64)) l29] 28),(0,.row [.iM q01 p1.Nodes] 24)]) 1 (.row (List.map (cL (cI .i64)) l29).flatten 33) 1 rfl (by simp) (by simp only [qki,qe7,q7m,qji,qg9,qjk,qe9,qgc,qgb,qga,qe8,qjj,qle,qjh,qjl,qpu,qlm,qui (q2x (cI .i64)) h30,q3u _ _ _ (q4q 1 (fun q=>qvd _ (fun q=>qdx _ .i64 q) q) l24),q3u _ _ _ (q4q 1 (fun q=>qdx _ .i64 q) l26),q3u _ _ _ (q4q 1 (fun q=>qpd _ q) l28)]) (by simp only [fzH,fzB,ug,Nat.beq,cond_true,cond_false,qki,qe7,q7m,qji,qg9,qjk,qe9,qgc,qgb,qga,qe8,qjj,qle,qjh,qjl,qpu,qlm,qui (q2x (cI .i64)) h30,q3u _ _ _ (q4q 1 (fun q=>qvd _ (fun q=>qdx _ .i64 q) q) l24),q3u _ _ _ (q4q 1 (fun q=>qdx _ .i64 q) l26),q3u _ _ _ (q4q 1 (fun q=>qpd _ q) l28)])) (z3f (.iM (cL (cI .i64)) l29) rfl),rfl,BU.h⟩
 rintro (_|m2) _ _ ⟨z17,l18,t19,l20,t21,l22,l23,hF,rfl,rfl⟩
 cases hF
 unfold q28 at hF
 refine go ?_
 refine RS.q rfl (q0c rfl rfl rfl (q92 und33 rfl)) ?_
 refine go ?_
 refine cF hF (fun h31 hF=>?_) (fun h31 hF=>?_)
 refine go ?_
 refine WPU.block ?_
 obtain ⟨x32,h33,hF⟩:=q00 hF
 obtain ⟨x34,h35,hF⟩:=q00 hF
 refine go ?_
 refine WPU.drawS Tryz.tb_ok 9 (by kernel_rfl) rfl (by kernel_rfl) ?_
 repeat refine RD.mv rfl rfl rfl rfl ?_
 refine RD.q rfl (q0f rfl rfl (q8t (cI .i64) und33 (q03 inf3) (by decide) (q13 .i64) (vo rfl) h33)) ?_
 refine RD.q rfl (q4o (cI .i64) (fun x=>.i6 x) und3 rfl (fun _=>rfl) rfl rfl h33) ?_
 repeat refine RD.mv rfl rfl rfl rfl ?_
 refine RD.q rfl (q0f rfl rfl (q8t (cL (cI .i64)) und28 (q03 inf33) (by decide) (q2x (cI .i64)) (vo rfl) h35)) ?_
 refine RD.q rfl (q4o (cL (cI .i64)) (fun x=>.iM (cI .i64) x) und33 rfl (fun _=>rfl) rfl rfl h35) ?_
 refine RD.done ⟨by kernel_rfl,?_⟩
 refine RS.yield (tmx:=fr 19 [(3,.ptr 2 0 0),(11,.fn (.func 69) [] [.iptr [.iM q01 r3]]),(12,.i6 x32),(13,.iM (cI .i64) x34)]) rfl rfl rfl rfl rfl rfl rfl rfl (setP2 rfl rfl) rfl rfl ?_
 refine gr ?_
 refine gr ?_
 refine z2y (fun tm σ=>q9a n r3 z17 l18 l20 l22 l23 (q28 p1 n r3 m2) x32 x34=some r∧tm=fr 19 []∧σ=⟨[(5,.vec (List.map (cL (cI .i64)) l18).flatten 33 1 t19),(4,.vec (List.map (cI .i64) l20).flatten 3 1 t21),(3,.row (List.map cB l22).flatten 4),(2,.row [.sl 1 0 ((p1.Nodes.length:Int).toNat) ((p1.Nodes.length:Int).toNat)] 28),(1,.row (List.map (cL (cI .i64)) (l23.set x32.toNat x34)).flatten 33),(0,.row [.iM q01 p1.Nodes] 24)],6⟩) ?_ ?_
 rintro _ _ ⟨hF,rfl,rfl⟩
 unfold q9a at hF
 refine ⟨rfl,?_⟩
 refine go ?_
 refine WPU.condS (t:=false) rfl (fun hc=>by cases hc) (fun _=>?_)
 obtain ⟨x36,h37,hF⟩:=q00 hF
 obtain ⟨x38,h39,hF⟩:=q00 hF
 refine go ?_
 refine z2z Tryz.tb_ok [] (by kernel_rfl) ?_
 refine RD.q rfl (q1d und24 rfl (q03 inf22) rfl rfl) (RD.q rfl (q0b und22 rfl rfl rfl) ?_)
 repeat refine RD.mv rfl rfl rfl rfl ?_
 refine RD.q rfl (q0f rfl rfl (q8t (cI .i64) und33 (q03 inf3) (by decide) (q13 .i64) (vo rfl) h37)) ?_
 refine RD.q rfl (q4o (cI .i64) (fun x=>.i6 x) und3 rfl (fun _=>rfl) rfl rfl h37) (RD.q rfl (q0f rfl rfl (q07 q01 und22 (q03 inf54) q1n h39 rfl)) (RD.q rfl (q1d und54 rfl (q03 inf52) rfl rfl) (RD.q rfl (q0b und52 rfl rfl rfl) (RD.q rfl (q0c rfl rfl rfl (q08 q0d und52)) (RD.mv rfl rfl rfl rfl ?_)))))
 refine RD.done ⟨by kernel_rfl,trivial,?_⟩
 refine go ?_
 refine gS (l':=[(0,_),(1,_),(3,_),(4,_),(5,_),(6,_),(42,_),(43,_),(44,_)]) ?_
 refine z2x (fun m tm σ=>∃ z51:Int,∃ l52:List (List Int),∃ t53:Nat,∃ l54:List Int,∃ t55:Nat,∃ l56:List Bool,q3k n r3 z17 l23 (q28 p1 n r3 m2) x32 x34 x38 m z51 l52 l54 l56=some r∧tm=fr 76 [(0,.fn (.yield ly1) [] []),(1,.iptr [.iM q01 r3]),(3,.sl 3 0 ((r3.length:Int).toNat) ((r3.length:Int).toNat)),(4,.vl 4 t55 0 l54.length),(5,.vl 5 t53 0 l52.length),(6,.i6 z17),(42,.iM q0d x38.Arcs),(43,.i6 (x38.Arcs.length:Int)),(44,.i6 z51)]∧σ=⟨[(5,.vec (List.map (cL (cI .i64)) l52).flatten 33 1 t53),(4,.vec (List.map (cI .i64) l54).flatten 3 1 t55),(3,.row (List.map cB l56).flatten 4),(2,.row [.sl 1 0 ((p1.Nodes.length:Int).toNat) ((p1.Nodes.length:Int).toNat)] 28),(1,.row (List.map (cL (cI .i64)) (l23.set x32.toNat x34)).flatten 33),(0,.row [.iM q01 p1.Nodes] 24)],6⟩) (fun tm σ=>∃ l57:List (List Int),∃ t58:Nat,∃ l59:List Int,∃ t60:Nat,∃ l61:List Bool,q6l z17 l23 (q28 p1 n r3 m2) x32 x34 l57 l59 l61=some r∧tm=fr 76 [(0,.fn (.yield ly1) [] []),(1,.iptr [.iM q01 r3]),(3,.sl 3 0 ((r3.length:Int).toNat) ((r3.length:Int).toNat)),(4,.vl 4 t60 0 l59.length),(5,.vl 5 t58 0 l57.length),(6,.i6 z17)]∧σ=⟨[(5,.vec (List.map (cL (cI .i64)) l57).flatten 33 1 t58),(4,.vec (List.map (cI .i64) l59).flatten 3 1 t60),(3,.row (List.map cB l61).flatten 4),(2,.row [.sl 1 0 ((p1.Nodes.length:Int).toNat) ((p1.Nodes.length:Int).toNat)] 28),(1,.row (List.map (cL (cI .i64)) (l23.set x32.toNat x34)).flatten 33),(0,.row [.iM q01 p1.Nodes] 24)],6⟩) n ⟨0,l18,t19,l20,t21,l22,hF,rfl,rfl⟩ ?_ ?_
 rintro _ _ ⟨l57,t58,l59,t60,l61,hF,rfl,rfl⟩
 unfold q6l at hF
 refine go ?_
 exact lC ⟨_,l57,t58,l59,t60,l61,(l23.set x32.toNat x34),hF,rfl,rfl⟩
 rintro (_|m4) _ _ ⟨z51,l52,t53,l54,t55,l56,hF,rfl,rfl⟩
 cases hF
 unfold q3k at hF
 refine go ?_
 refine cF hF (fun h62 hF=>?_) (fun h62 hF=>?_)
 refine go ?_
 refine WPU.block ?_
 obtain ⟨x63,h64,hF⟩:=q00 hF
 refine go ?_
 refine RS.q rfl (q0f rfl rfl (q07 q0d und52 (q03 inf66) q0l h64 rfl)) (RS.q (u:=.agg (q0d x63)) rfl (qav und66 rfl (q03 inf66) rfl rfl) (RS.q (u:=.ptr 6 0 0) (σ':=⟨[(6,.row [.i6 0,.i6 0] 66),(5,.vec (List.map (cL (cI .i64)) l52).flatten 33 1 t53),(4,.vec (List.map (cI .i64) l54).flatten 3 1 t55),(3,.row (List.map cB l56).flatten 4),(2,.row [.sl 1 0 ((p1.Nodes.length:Int).toNat) ((p1.Nodes.length:Int).toNat)] 28),(1,.row (List.map (cL (cI .i64)) (l23.set x32.toNat x34)).flatten 33),(0,.row [.iM q01 p1.Nodes] 24)],7⟩) rfl (q1j inf66 rfl rfl) ?_))
 refine z36 (u:=.junk) (σ':=⟨[(6,.row (q0d x63) 66),(5,.vec (List.map (cL (cI .i64)) l52).flatten 33 1 t53),(4,.vec (List.map (cI .i64) l54).flatten 3 1 t55),(3,.row (List.map cB l56).flatten 4),(2,.row [.sl 1 0 ((p1.Nodes.length:Int).toNat) ((p1.Nodes.length:Int).toNat)] 28),(1,.row (List.map (cL (cI .i64)) (l23.set x32.toNat x34)).flatten 33),(0,.row [.iM q01 p1.Nodes] 24)],7⟩) rfl (q0v (q03 inf66) rfl rfl rfl rfl rfl rfl rfl rfl) rfl ?_
 obtain ⟨x65,h66,hF⟩:=q00 hF
 refine go ?_
 refine RS.q rfl (q0z und66 rfl (q03 inf3) rfl rfl rfl) (RS.q rfl (q0n und3 rfl rfl rfl rfl) (RS.q rfl (q0f rfl rfl (qk0 und75 (q03 inf4) rfl h66)) (RS.q (u:=.bool x65) rfl (qq0 cB (fun x=>.bool x) und4 rfl (fun _=>rfl) rfl rfl h66) ?_)))
 refine gn ?_
 refine z2y (fun tm σ=>∃ l68:List (List Int),∃ t69:Nat,∃ l70:List Int,∃ t71:Nat,∃ l72:List Bool,q6k z51 (q3k n r3 z17 l23 (q28 p1 n r3 m2) x32 x34 x38 m4) l68 l70 l72=some r∧tm=fr 76 [(0,.fn (.yield ly1) [] []),(1,.iptr [.iM q01 r3]),(3,.sl 3 0 ((r3.length:Int).toNat) ((r3.length:Int).toNat)),(4,.vl 4 t71 0 l70.length),(5,.vl 5 t69 0 l68.length),(6,.i6 z17),(42,.iM q0d x38.Arcs),(43,.i6 (x38.Arcs.length:Int)),(44,.i6 z51)]∧σ=⟨[(6,.row (q0d x63) 66),(5,.vec (List.map (cL (cI .i64)) l68).flatten 33 1 t69),(4,.vec (List.map (cI .i64) l70).flatten 3 1 t71),(3,.row (List.map cB l72).flatten 4),(2,.row [.sl 1 0 ((p1.Nodes.length:Int).toNat) ((p1.Nodes.length:Int).toNat)] 28),(1,.row (List.map (cL (cI .i64)) (l23.set x32.toNat x34)).flatten 33),(0,.row [.iM q01 p1.Nodes] 24)],7⟩) ?_ ?_
 rintro _ _ ⟨l68,t69,l70,t71,l72,hF,rfl,rfl⟩
 unfold q6k at hF
 refine go ?_
 exact lC ⟨_,l68,t69,l70,t71,l72,hF,rfl,rfl⟩
 refine cF hF (fun h67 hF=>?_) (fun h67 hF=>?_)
 obtain ⟨x73,h74,hF⟩:=q00 hF
 refine go ?_
 refine RS.q rfl (q0z und66 rfl (q03 inf3) rfl rfl rfl) (RS.q rfl (q0n und3 rfl rfl rfl rfl) (RS.q rfl (q0f rfl rfl (qk0 und75 (q03 inf4) rfl h74)) ?_))
 refine z36 (u:=.junk) (σ':=⟨[(6,.row (q0d x63) 66),(5,.vec (List.map (cL (cI .i64)) l52).flatten 33 1 t53),(4,.vec (List.map (cI .i64) l54).flatten 3 1 t55),(3,.row (List.map cB (l56.set x63.To.toNat true)).flatten 4),(2,.row [.sl 1 0 ((p1.Nodes.length:Int).toNat) ((p1.Nodes.length:Int).toNat)] 28),(1,.row (List.map (cL (cI .i64)) (l23.set x32.toNat x34)).flatten 33),(0,.row [.iM q01 p1.Nodes] 24)],7⟩) rfl (qsc cB (q03 inf4) qsy rfl rfl rfl rfl rfl rfl h74 rfl) rfl ?_
 obtain ⟨h75,hF⟩:=q09 hF
 refine go ?_
 refine RS.q rfl (q0z und66 rfl (q03 inf3) rfl rfl rfl) (RS.q rfl (q0n und3 rfl rfl rfl rfl) (RS.q (u:=.sl 7 0 1 1) (σ':=⟨[(7,.row [.i6 x63.To] 3),(6,.row (q0d x63) 66),(5,.vec (List.map (cL (cI .i64)) l52).flatten 33 1 t53),(4,.vec (List.map (cI .i64) l54).flatten 3 1 t55),(3,.row (List.map cB (l56.set x63.To.toNat true)).flatten 4),(2,.row [.sl 1 0 ((p1.Nodes.length:Int).toNat) ((p1.Nodes.length:Int).toNat)] 28),(1,.row (List.map (cL (cI .i64)) (l23.set x32.toNat x34)).flatten 33),(0,.row [.iM q01 p1.Nodes] 24)],8⟩) rfl (q0k und33 inf3 rfl rfl rfl rfl rfl rfl rfl) (RS.q (u:=.vl 4 (t55+1) 0 ((l54++[x63.To]).length)) (σ':=⟨[(7,.row [.i6 x63.To] 3),(6,.row (q0d x63) 66),(5,.vec (List.map (cL (cI .i64)) l52).flatten 33 1 t53),(4,.vec (List.map (cI .i64) (l54++[x63.To])).flatten 3 1 (t55+1)),(3,.row (List.map cB (l56.set x63.To.toNat true)).flatten 4),(2,.row [.sl 1 0 ((p1.Nodes.length:Int).toNat) ((p1.Nodes.length:Int).toNat)] 28),(1,.row (List.map (cL (cI .i64)) (l23.set x32.toNat x34)).flatten 33),(0,.row [.iM q01 p1.Nodes] 24)],8⟩) rfl (q1i rfl rfl rfl rfl (q1s (cI .i64) ([x63.To]) und33 und33 inf3 rfl (q13 .i64) rfl (q1l (cI .i64) [x63.To] rfl rfl rfl rfl) h75)) ?_)))
 obtain ⟨x76,h77,hF⟩:=q00 hF
 obtain ⟨r78,h79,hF⟩:=q00 hF
 obtain ⟨h80,hF⟩:=q09 hF
 obtain ⟨h81,hF⟩:=q09 hF
 refine go ?_
 refine z2z Tryz.tb_ok [(0,5),(0,9),(0,10),(6,5),(7,5)] (by kernel_rfl) ?_
 repeat refine RD.mv rfl rfl rfl rfl ?_
 refine RD.q rfl (q0f rfl rfl (q8t (cL (cI .i64)) und28 (q03 inf33) (by decide) (q2x (cI .i64)) (vo rfl) h77)) ?_
 refine RD.q rfl (q4o (cL (cI .i64)) (fun x=>.iM (cI .i64) x) und33 rfl (fun _=>rfl) rfl rfl h77) (RD.callm (u:=.vl 9 0 0 r78.length) (σ1:=⟨[(9,.vec (List.map (cI .i64) r78).flatten 3 1 0),(7,.row [.i6 x63.To] 3),(6,.row (q0d x63) 66),(5,.vec (List.map (cL (cI .i64)) l52).flatten 33 1 t53),(4,.vec (List.map (cI .i64) (l54++[x63.To])).flatten 3 1 (t55+1)),(3,.row (List.map cB (l56.set x63.To.toNat true)).flatten 4),(2,.row [.sl 1 0 ((p1.Nodes.length:Int).toNat) ((p1.Nodes.length:Int).toNat)] 28),(1,.row (List.map (cL (cI .i64)) (l23.set x32.toNat x34)).flatten 33),(0,.row [.iM q01 p1.Nodes] 24)],10⟩) (args:=[.iM (cI .i64) x76]) rfl (qcv rfl rfl fn48 hb48 rfl rfl) (z3j (cI .i64) (qb6 n x76 r78 h79) _ 9 rfl) rfl rfl (RD.q rfl (q0z und66 rfl (q03 inf3) rfl rfl rfl) (RD.q rfl (q0n und3 rfl rfl rfl rfl) ?_)))
 refine z3i (u:=.iM (cI .i64) ([x63.Feat])) rfl (qcg.bs (cs:=[.i6 x63.Feat]) und33 inf3 rfl rfl rfl rfl rfl rfl rfl rfl rfl) rfl rfl ?_
 refine RD.fz (u:=.iM (cI .i64) (r78++[x63.Feat])) (u1:=.vl 9 1 0 ((r78++[x63.Feat]).length)) (s1:=⟨[(9,.vec (List.map (cI .i64) (r78++[x63.Feat])).flatten 3 1 1),(7,.row [.i6 x63.To] 3),(6,.row (q0d x63) 66),(5,.vec (List.map (cL (cI .i64)) l52).flatten 33 1 t53),(4,.vec (List.map (cI .i64) (l54++[x63.To])).flatten 3 1 (t55+1)),(3,.row (List.map cB (l56.set x63.To.toNat true)).flatten 4),(2,.row [.sl 1 0 ((p1.Nodes.length:Int).toNat) ((p1.Nodes.length:Int).toNat)] 28),(1,.row (List.map (cL (cI .i64)) (l23.set x32.toNat x34)).flatten 33),(0,.row [.iM q01 p1.Nodes] 24)],10⟩) (σ':=⟨[(7,.row [.i6 x63.To] 3),(6,.row (q0d x63) 66),(5,.vec (List.map (cL (cI .i64)) l52).flatten 33 1 t53),(4,.vec (List.map (cI .i64) (l54++[x63.To])).flatten 3 1 (t55+1)),(3,.row (List.map cB (l56.set x63.To.toNat true)).flatten 4),(2,.row [.sl 1 0 ((p1.Nodes.length:Int).toNat) ((p1.Nodes.length:Int).toNat)] 28),(1,.row (List.map (cL (cI .i64)) (l23.set x32.toNat x34)).flatten 33),(0,.row [.iM q01 p1.Nodes] 24)],10⟩) rfl (q1i rfl rfl rfl rfl (q1s (cI .i64) ([x63.Feat]) und33 und33 inf3 rfl (q13 .i64) rfl (qak (cI .i64) (q13 .i64)) h80)) (z34 9 1) (Nat.le_refl _) rfl rfl (RD.act (u:=.sl 10 0 1 1) (σ':=⟨[(10,.row [.iM (cI .i64) (r78++[x63.Feat])] 33),(7,.row [.i6 x63.To] 3),(6,.row (q0d x63) 66),(5,.vec (List.map (cL (cI .i64)) l52).flatten 33 1 t53),(4,.vec (List.map (cI .i64) (l54++[x63.To])).flatten 3 1 (t55+1)),(3,.row (List.map cB (l56.set x63.To.toNat true)).flatten 4),(2,.row [.sl 1 0 ((p1.Nodes.length:Int).toNat) ((p1.Nodes.length:Int).toNat)] 28),(1,.row (List.map (cL (cI .i64)) (l23.set x32.toNat x34)).flatten 33),(0,.row [.iM q01 p1.Nodes] 24)],11⟩) rfl (q0k und28 inf33 rfl rfl rfl rfl rfl rfl rfl) rfl rfl (RD.act (u:=.vl 5 (t53+1) 0 ((l52++[(r78++[x63.Feat])]).length)) (σ':=⟨[(10,.row [.iM (cI .i64) (r78++[x63.Feat])] 33),(7,.row [.i6 x63.To] 3),(6,.row (q0d x63) 66),(5,.vec (List.map (cL (cI .i64)) (l52++[(r78++[x63.Feat])])).flatten 33 1 (t53+1)),(4,.vec (List.map (cI .i64) (l54++[x63.To])).flatten 3 1 (t55+1)),(3,.row (List.map cB (l56.set x63.To.toNat true)).flatten 4),(2,.row [.sl 1 0 ((p1.Nodes.length:Int).toNat) ((p1.Nodes.length:Int).toNat)] 28),(1,.row (List.map (cL (cI .i64)) (l23.set x32.toNat x34)).flatten 33),(0,.row [.iM q01 p1.Nodes] 24)],11⟩) rfl (q1i rfl rfl rfl rfl (q1s (cL (cI .i64)) ([(r78++[x63.Feat])]) und28 und28 inf33 rfl (q2x (cI .i64)) rfl (q1l (cL (cI .i64)) [(r78++[x63.Feat])] rfl rfl rfl rfl) h81)) rfl rfl (RD.as rfl rfl rfl rfl ?_)))
 refine RD.done ⟨by kernel_rfl,⟨q0s rfl,⟨q0s rfl,⟨q0s rfl,⟨q0z und66 rfl (q03 inf3) rfl rfl rfl,⟨q0n und3 rfl rfl rfl rfl,trivial⟩⟩⟩⟩⟩,?_⟩
 refine go ?_
 exact xC ⟨(l52++[(r78++[x63.Feat])]),(t53+1),(l54++[x63.To]),(t55+1),(l56.set x63.To.toNat true),hF,rfl,rfl⟩
 refine go ?_
 exact xC ⟨l52,t53,l54,t55,l56,hF,rfl,rfl⟩
 refine go ?_
 exact xC ⟨l52,t53,l54,t55,l56,hF,rfl,rfl⟩
 refine go ?_
 refine WPU.block ?_
 obtain ⟨x82,h83,hF⟩:=q00 hF
 refine go ?_
 refine RS.q rfl (q0n und28 rfl rfl rfl rfl) ?_
 refine go ?_
 refine RS.q rfl (q0f rfl rfl (qk0 und28 (q03 inf33) rfl h83)) ?_
 refine z36 (u:=.junk) (σ':=⟨[(5,.vec (List.map (cL (cI .i64)) l18).flatten 33 1 t19),(4,.vec (List.map (cI .i64) l20).flatten 3 1 t21),(3,.row (List.map cB l22).flatten 4),(2,.row [.sl 1 0 ((p1.Nodes.length:Int).toNat) ((p1.Nodes.length:Int).toNat)] 28),(1,.row (List.map (cL (cI .i64)) (l23.set x32.toNat x34)).flatten 33),(0,.row [.iM q01 p1.Nodes] 24)],6⟩) rfl (qsc (cL (cI .i64)) (q03 inf33) (q2x (cI .i64)) rfl rfl rfl rfl rfl rfl h83 rfl) rfl ?_
 refine go ?_
 exact xC ⟨hF,rfl,rfl⟩
 refine go ?_
 exact xC ⟨l18,t19,l20,t21,l22,l23,hF,rfl,rfl⟩
def q63   : Option (Bool) :=
 some true
def q3c (p1:List Int) (p2:List Int):Nat→Int→Option (Bool)
 | 0,_=>none
 | m1+1,z8 =>
  cond (decide (z8<(p1.length:Int)))
   (q04 (q0w p1 z8) fun x10 =>
   q04 (q0w p2 z8) fun x12 =>
   cond (x10 != x12)
    (some false)
    ((q3c p1 p2 m1) (IntKind.i64.wrap (z8+1))))
   (q63)
def q5z (n:Nat) (p1:List Int) (p2:List Int):Option (Bool) :=
 cond ((p1.length:Int) != (p2.length:Int))
  (some false)
  (q3c p1 p2 n 0)
theorem qi6 (n:Nat) (p1:List Int) (p2:List Int) (r:Bool) (hF:q5z n p1 p2=some r):EvU Tryz.prog 49 [.isl false (List.map (cI .i64) p1),.isl false (List.map (cI .i64) p2)] ⟨[],0⟩ (fun u _=>u = .bool r∧Bel 0 u):=by
 unfold q5z at hF
 refine bg2 26 fn49 ?_
 refine go ?_
 refine RS.q rfl (q0c rfl rfl rfl (q08 (cI .i64) und33)) ?_
 refine go ?_
 refine RS.q rfl (q0c rfl rfl rfl (q08 (cI .i64) und33)) ?_
 refine go ?_
 refine cF hF (fun h3 hF=>?_) (fun h3 hF=>?_)
 exact gx hF
 refine go ?_
 refine RS.q rfl (q0c rfl rfl rfl (q08 (cI .i64) und33)) ?_
 refine go ?_
 refine gS (l':=[(0,_),(1,_),(12,_),(13,_)]) ?_
 refine z2x (fun m tm σ=>∃ z8:Int,q3c p1 p2 m z8=some r∧tm=fr 26 [(0,.iM (cI .i64) p1),(1,.iM (cI .i64) p2),(12,.i6 (p1.length:Int)),(13,.i6 z8)]∧σ=⟨[],0⟩) (fun tm σ=>q63=some r∧tm=fr 26 []∧σ=⟨[],0⟩) n ⟨0,hF,rfl,rfl⟩ ?_ ?_
 rintro _ _ ⟨hF,rfl,rfl⟩
 unfold q63 at hF
 exact gx hF
 rintro (_|m1) _ _ ⟨z8,hF,rfl,rfl⟩
 cases hF
 unfold q3c at hF
 refine go ?_
 refine cF hF (fun h9 hF=>?_) (fun h9 hF=>?_)
 refine go ?_
 refine WPU.block ?_
 obtain ⟨x10,h11,hF⟩:=q00 hF
 obtain ⟨x12,h13,hF⟩:=q00 hF
 refine go ?_
 refine z2z Tryz.tb_ok [] (by kernel_rfl) ?_
 repeat refine RD.mv rfl rfl rfl rfl ?_
 refine RD.q rfl (q0f rfl rfl (q07 (cI .i64) und33 (q03 inf3) (q13 .i64) h11 rfl)) (RD.q rfl (q0b und3 rfl rfl rfl) ?_)
 repeat refine RD.mv rfl rfl rfl rfl ?_
 refine RD.q rfl (q0f rfl rfl (q07 (cI .i64) und33 (q03 inf3) (q13 .i64) h13 rfl)) (RD.q rfl (q0b und3 rfl rfl rfl) (RD.q rfl (q34 rfl rfl (qpy _ _ _) rfl) ?_))
 refine RD.done ⟨by kernel_rfl,trivial,?_⟩
 refine go ?_
 refine cF hF (fun h14 hF=>?_) (fun h14 hF=>?_)
 exact gx hF
 refine go ?_
 exact lC ⟨_,hF,rfl,rfl⟩
 refine go ?_
 exact xC ⟨hF,rfl,rfl⟩
def q5m (z32:Int) (rc2:Int→(List q0e)→Option ((List q0e))) (l50:List q0e):Option ((List q0e)) :=
 rc2 (IntKind.i64.wrap (z32+1)) l50
def q5n (z11:Int) (rc1:Int→(List q0e)→Option ((List q0e))) (l35:List q0e):Option ((List q0e)) :=
 rc1 (IntKind.i64.wrap (z11+1)) l35
def q2y (n:Nat) (r2:(List (List Int))) (z11:Int) (rc1:Int→(List q0e)→Option ((List q0e))) (x17:q0o):Nat→Int→(List q0e)→Option ((List q0e))
 | 0,_,_=>none
 | m2+1,z32,l33 =>
  cond (decide (z32<(x17.Arcs.length:Int)))
   (q04 (q0w x17.Arcs z32) fun x38 =>
   q04 (q0w r2 z11) fun x40 =>
   q04 (q3j n x40) fun r42 =>
   q1b ((r42.length+([x38.Feat]).length)*8≤140737488355328∧r42.length+([x38.Feat]).length≤140737488355328) (
   q04 (q0w r2 x38.To) fun x45 =>
   q04 (q5z n (r42++[x38.Feat]) x45) fun r47 =>
   cond (!r47)
    (q04 (q0w r2 x38.To) fun x52 =>
    q1b ((l33.length+1)*48≤140737488355328∧l33.length+1≤140737488355328) (
    q5m z32 (q2y n r2 z11 rc1 x17 m2) (l33++[(q0e.mk x52 (r42++[x38.Feat]))])))
    (q5m z32 (q2y n r2 z11 rc1 x17 m2) l33)))
   (q5n z11 rc1 l33)
def q7p  (l14:List q0e):Option ((List q0e)) :=
 some l14
def q25 (p1:GFS) (n:Nat) (r2:(List (List Int))):Nat→Int→(List q0e)→Option ((List q0e))
 | 0,_,_=>none
 | m1+1,z11,l12 =>
  cond (decide (z11<(p1.Nodes.length:Int)))
   (q04 (q0w p1.Nodes z11) fun x17 =>
   q2y n r2 z11 (q25 p1 n r2 m1) x17 n 0 l12)
   (q7p l12)
def q62 (n:Nat) (p1:GFS):Option ((List q0e)) :=
 q04 (q7c n p1) fun r2 =>
 q25 p1 n r2 n 0 ([]:List q0e)
theorem q6m (n:Nat) (p1:GFS) (r:(List q0e)) (hF:q62 n p1=some r):EvU Tryz.prog 18 [.agg [.isl false (List.map q01 p1.Nodes)]] ⟨[],0⟩ (fun u _=>u = .isl false (List.map q0j r)∧Bel 0 u):=by
 unfold q62 at hF
 refine bg1 57 fn18 ?_
 refine go ?_
 refine RS.q (u:=.ptr 0 0 0) (σ':=⟨[(0,.row [.iM q01 p1.Nodes] 24)],1⟩) rfl (q3r rfl rfl rfl) ?_
 obtain ⟨r2,h3,hF⟩:=q00 hF
 refine go ?_
 refine RS.q (u:=.agg [.iM q01 p1.Nodes]) rfl (q17 und24 rfl (q03 inf24) rfl rfl rfl) (RS.cl rfl (pC (q4x n p1 r2 h3) _) fn15 ?_)
 refine go ?_
 refine RS.q rfl (q0z und24 rfl (q03 inf22) rfl rfl rfl) (RS.q rfl (q0n und22 rfl rfl rfl rfl) (RS.q rfl (q0c rfl rfl rfl (q08 q01 und22)) ?_))
 refine gn ?_
 refine WPU.ghost (tm':=fr 57 [(3,.iM (cL (cI .i64)) r2),(4,.vl 1 0 0 (([]:List q0e).length)),(13,.iM q01 p1.Nodes),(14,.i6 (p1.Nodes.length:Int)),(15,.i6 0)]) (σ':=⟨[(1,.vec (List.map q0j ([]:List q0e)).flatten 56 2 0),(0,.row [.iM q01 p1.Nodes] 24)],2⟩) (Gh.trans (z39 4 56 2 (by decide) NZ rfl rfl) (z38 ⟨rfl,rfl,rfl,rfl,rfl,trivial⟩ rfl)) NZ ?_
 refine gS (l':=[(3,_),(4,_),(13,_),(14,_),(15,_)]) ?_
 refine z2x (fun m tm σ=>∃ z11:Int,∃ l12:List q0e,∃ t13:Nat,q25 p1 n r2 m z11 l12=some r∧tm=fr 57 [(3,.iM (cL (cI .i64)) r2),(4,.vl 1 t13 0 l12.length),(13,.iM q01 p1.Nodes),(14,.i6 (p1.Nodes.length:Int)),(15,.i6 z11)]∧σ=⟨[(1,.vec (List.map q0j l12).flatten 56 2 t13),(0,.row [.iM q01 p1.Nodes] 24)],2⟩) (fun tm σ=>∃ l14:List q0e,∃ t15:Nat,q7p l14=some r∧tm=fr 57 [(4,.vl 1 t15 0 l14.length)]∧σ=⟨[(1,.vec (List.map q0j l14).flatten 56 2 t15),(0,.row [.iM q01 p1.Nodes] 24)],2⟩) n ⟨0,([]:List q0e),0,hF,rfl,rfl⟩ ?_ ?_
 rintro _ _ ⟨l14,t15,hF,rfl,rfl⟩
 unfold q7p at hF
 refine go ?_
 obtain rfl:=sI hF
 exact rT (us:=[.vl 1 t15 0 l14.length]) (u:=.iM q0j l14) (q2l rfl (q3b)) (fR 1 2)
 rintro (_|m1) _ _ ⟨z11,l12,t13,hF,rfl,rfl⟩
 cases hF
 unfold q25 at hF
 refine go ?_
 refine cF hF (fun h16 hF=>?_) (fun h16 hF=>?_)
 refine go ?_
 refine WPU.block ?_
 obtain ⟨x17,h18,hF⟩:=q00 hF
 refine go ?_
 refine RS.q rfl (q0f rfl rfl (q07 q01 und22 (q03 inf54) q1n h18 rfl)) (RS.q (u:=.agg (q01 x17)) rfl (qav und54 rfl (q03 inf54) rfl rfl) (RS.q (u:=.ptr 2 0 0) (σ':=⟨[(2,.row [.i6 0,.nils] 54),(1,.vec (List.map q0j l12).flatten 56 2 t13),(0,.row [.iM q01 p1.Nodes] 24)],3⟩) rfl (q1j inf54 rfl rfl) ?_))
 refine go ?_
 refine z36 (u:=.junk) (σ':=⟨[(2,.row (q01 x17) 54),(1,.vec (List.map q0j l12).flatten 56 2 t13),(0,.row [.iM q01 p1.Nodes] 24)],3⟩) rfl (q0v (q03 inf54) rfl rfl rfl rfl rfl rfl rfl rfl) rfl ?_
 refine go ?_
 refine RS.q rfl (q0z und54 rfl (q03 inf52) rfl rfl rfl) (RS.q rfl (q0n und52 rfl rfl rfl rfl) (RS.q rfl (q0c rfl rfl rfl (q08 q0d und52)) ?_))
 refine go ?_
 refine gS (l':=[(3,_),(4,_),(5,_),(13,_),(14,_),(15,_),(21,_),(22,_),(23,_)]) ?_
 refine z2x (fun m tm σ=>∃ z32:Int,∃ l33:List q0e,∃ t34:Nat,q2y n r2 z11 (q25 p1 n r2 m1) x17 m z32 l33=some r∧tm=fr 57 [(3,.iM (cL (cI .i64)) r2),(4,.vl 1 t34 0 l33.length),(5,.i6 z11),(13,.iM q01 p1.Nodes),(14,.i6 (p1.Nodes.length:Int)),(15,.i6 z11),(21,.iM q0d x17.Arcs),(22,.i6 (x17.Arcs.length:Int)),(23,.i6 z32)]∧σ=⟨[(2,.row (q01 x17) 54),(1,.vec (List.map q0j l33).flatten 56 2 t34),(0,.row [.iM q01 p1.Nodes] 24)],3⟩) (fun tm σ=>∃ l35:List q0e,∃ t36:Nat,q5n z11 (q25 p1 n r2 m1) l35=some r∧tm=fr 57 [(3,.iM (cL (cI .i64)) r2),(4,.vl 1 t36 0 l35.length),(13,.iM q01 p1.Nodes),(14,.i6 (p1.Nodes.length:Int)),(15,.i6 z11)]∧σ=⟨[(2,.row (q01 x17) 54),(1,.vec (List.map q0j l35).flatten 56 2 t36),(0,.row [.iM q01 p1.Nodes] 24)],3⟩) n ⟨0,l12,t13,hF,rfl,rfl⟩ ?_ ?_
 rintro _ _ ⟨l35,t36,hF,rfl,rfl⟩
 unfold q5n at hF
 refine go ?_
 exact lC ⟨_,l35,t36,hF,rfl,rfl⟩
 rintro (_|m2) _ _ ⟨z32,l33,t34,hF,rfl,rfl⟩
 cases hF
 unfold q2y at hF
 refine go ?_
 refine cF hF (fun h37 hF=>?_) (fun h37 hF=>?_)
 refine go ?_
 refine WPU.block ?_
 obtain ⟨x38,h39,hF⟩:=q00 hF
 refine go ?_
 refine RS.q rfl (q0f rfl rfl (q07 q0d und52 (q03 inf66) q0l h39 rfl)) (RS.q (u:=.agg (q0d x38)) rfl (qav und66 rfl (q03 inf66) rfl rfl) (RS.q (u:=.ptr 3 0 0) (σ':=⟨[(3,.row [.i6 0,.i6 0] 66),(2,.row (q01 x17) 54),(1,.vec (List.map q0j l33).flatten 56 2 t34),(0,.row [.iM q01 p1.Nodes] 24)],4⟩) rfl (q1j inf66 rfl rfl) ?_))
 refine z36 (u:=.junk) (σ':=⟨[(3,.row (q0d x38) 66),(2,.row (q01 x17) 54),(1,.vec (List.map q0j l33).flatten 56 2 t34),(0,.row [.iM q01 p1.Nodes] 24)],4⟩) rfl (q0v (q03 inf66) rfl rfl rfl rfl rfl rfl rfl rfl) rfl ?_
 obtain ⟨x40,h41,hF⟩:=q00 hF
 obtain ⟨r42,h43,hF⟩:=q00 hF
 obtain ⟨h44,hF⟩:=q09 hF
 refine go ?_
 refine z2z Tryz.tb_ok [(5,4),(6,4)] (by kernel_rfl) ?_
 repeat refine RD.mv rfl rfl rfl rfl ?_
 refine RD.q rfl (q0f rfl rfl (q07 (cL (cI .i64)) und28 (q03 inf33) (q2x (cI .i64)) h41 rfl)) (RD.q rfl (q0b und33 rfl rfl rfl) (RD.callm (u:=.vl 5 0 0 r42.length) (σ1:=⟨[(5,.vec (List.map (cI .i64) r42).flatten 3 1 0),(3,.row (q0d x38) 66),(2,.row (q01 x17) 54),(1,.vec (List.map q0j l33).flatten 56 2 t34),(0,.row [.iM q01 p1.Nodes] 24)],6⟩) (args:=[.iM (cI .i64) x40]) rfl (qcv rfl rfl fn48 hb48 rfl rfl) (z3j (cI .i64) (qb6 n x40 r42 h43) _ 5 rfl) rfl rfl (RD.q rfl (q0z und66 rfl (q03 inf3) rfl rfl rfl) (RD.q rfl (q0n und3 rfl rfl rfl rfl) ?_))))
 refine z3i (u:=.iM (cI .i64) ([x38.Feat])) rfl (qcg.bs (cs:=[.i6 x38.Feat]) und33 inf3 rfl rfl rfl rfl rfl rfl rfl rfl rfl) rfl rfl ?_
 refine RD.act (u:=.vl 5 1 0 ((r42++[x38.Feat]).length)) (σ':=⟨[(5,.vec (List.map (cI .i64) (r42++[x38.Feat])).flatten 3 1 1),(3,.row (q0d x38) 66),(2,.row (q01 x17) 54),(1,.vec (List.map q0j l33).flatten 56 2 t34),(0,.row [.iM q01 p1.Nodes] 24)],6⟩) rfl (q1i rfl rfl rfl rfl (q1s (cI .i64) ([x38.Feat]) und33 und33 inf3 rfl (q13 .i64) rfl (qak (cI .i64) (q13 .i64)) h44)) rfl rfl (RD.as rfl rfl rfl rfl ?_)
 refine RD.done ⟨by kernel_rfl,⟨q0z und66 rfl (q03 inf3) rfl rfl rfl,⟨q0n und3 rfl rfl rfl rfl,trivial⟩⟩,?_⟩
 obtain ⟨x45,h46,hF⟩:=q00 hF
 obtain ⟨r47,h48,hF⟩:=q00 hF
 refine go ?_
 refine RS.q rfl (q0z und66 rfl (q03 inf3) rfl rfl rfl) (RS.q rfl (q0n und3 rfl rfl rfl rfl) (RS.q rfl (q0f rfl rfl (q07 (cL (cI .i64)) und28 (q03 inf33) (q2x (cI .i64)) h46 rfl)) (RS.q rfl (q0b und33 rfl rfl rfl) (RS.cl rfl (vw (qi6 n (r42++[x38.Feat]) x45 r47 h48) (z34 5 1)) fn49 ?_))))
 refine gn ?_
 refine z2y (fun tm σ=>∃ l50:List q0e,∃ t51:Nat,q5m z32 (q2y n r2 z11 (q25 p1 n r2 m1) x17 m2) l50=some r∧tm=fr 57 [(3,.iM (cL (cI .i64)) r2),(4,.vl 1 t51 0 l50.length),(5,.i6 z11),(13,.iM q01 p1.Nodes),(14,.i6 (p1.Nodes.length:Int)),(15,.i6 z11),(21,.iM q0d x17.Arcs),(22,.i6 (x17.Arcs.length:Int)),(23,.i6 z32)]∧σ=⟨[(3,.row (q0d x38) 66),(2,.row (q01 x17) 54),(1,.vec (List.map q0j l50).flatten 56 2 t51),(0,.row [.iM q01 p1.Nodes] 24)],6⟩) ?_ ?_
 rintro _ _ ⟨l50,t51,hF,rfl,rfl⟩
 unfold q5m at hF
 refine go ?_
 exact lC ⟨_,l50,t51,hF,rfl,rfl⟩
 refine cF hF (fun h49 hF=>?_) (fun h49 hF=>?_)
 refine gn ?_
 refine WPU.ghost (tm':=fr 57 [(3,.iM (cL (cI .i64)) r2),(4,.vl 1 t34 0 l33.length),(5,.i6 z11),(8,.ptr 3 0 0),(9,.iM (cI .i64) (r42++[x38.Feat])),(13,.iM q01 p1.Nodes),(14,.i6 (p1.Nodes.length:Int)),(15,.i6 z11),(21,.iM q0d x17.Arcs),(22,.i6 (x17.Arcs.length:Int)),(23,.i6 z32)]) (σ':=⟨[(3,.row (q0d x38) 66),(2,.row (q01 x17) 54),(1,.vec (List.map q0j l33).flatten 56 2 t34),(0,.row [.iM q01 p1.Nodes] 24)],6⟩) (Gh.trans (Gh.sub (l':=[(3,.iM (cL (cI .i64)) r2),(4,.vl 1 t34 0 l33.length),(5,.i6 z11),(8,.ptr 3 0 0),(9,.vl 5 1 0 ((r42++[x38.Feat]).length)),(13,.iM q01 p1.Nodes),(14,.i6 (p1.Nodes.length:Int)),(15,.i6 z11),(21,.iM q0d x17.Arcs),(22,.i6 (x17.Arcs.length:Int)),(23,.i6 z32)]) ⟨rfl,rfl,rfl,rfl,rfl,rfl,rfl,rfl,rfl,rfl,rfl,trivial⟩) (z3g 5 1)) NZ ?_
 obtain ⟨x52,h53,hF⟩:=q00 hF
 obtain ⟨h54,hF⟩:=q09 hF
 refine go ?_
 refine RS.q rfl (q0z und66 rfl (q03 inf3) rfl rfl rfl) (RS.q rfl (q0n und3 rfl rfl rfl rfl) (RS.q rfl (q0f rfl rfl (q07 (cL (cI .i64)) und28 (q03 inf33) (q2x (cI .i64)) h53 rfl)) (RS.q rfl (q0b und33 rfl rfl rfl) ?_)))
 refine go ?_
 refine RS.q (u:=.agg [.iM (cI .i64) x52,.iM (cI .i64) (r42++[x38.Feat])]) rfl (q3v bd56 rfl rfl rfl) (RS.q (u:=.sl 6 0 1 1) (σ':=⟨[(6,.row [.iM (cI .i64) x52,.iM (cI .i64) (r42++[x38.Feat])] 56),(3,.row (q0d x38) 66),(2,.row (q01 x17) 54),(1,.vec (List.map q0j l33).flatten 56 2 t34),(0,.row [.iM q01 p1.Nodes] 24)],7⟩) rfl (q0k und31 inf56 rfl rfl rfl rfl rfl rfl rfl) (RS.q (u:=.vl 1 (t34+1) 0 ((l33++[(q0e.mk x52 (r42++[x38.Feat]))]).length)) (σ':=⟨[(6,.row [.iM (cI .i64) x52,.iM (cI .i64) (r42++[x38.Feat])] 56),(3,.row (q0d x38) 66),(2,.row (q01 x17) 54),(1,.vec (List.map q0j (l33++[(q0e.mk x52 (r42++[x38.Feat]))])).flatten 56 2 (t34+1)),(0,.row [.iM q01 p1.Nodes] 24)],7⟩) rfl (q1i rfl rfl rfl rfl (q1s q0j ([(q0e.mk x52 (r42++[x38.Feat]))]) und31 und31 inf56 rfl q2s rfl (q1l q0j [(q0e.mk x52 (r42++[x38.Feat]))] rfl rfl rfl rfl) h54)) ?_))
 refine go ?_
 exact xC ⟨(l33++[(q0e.mk x52 (r42++[x38.Feat]))]),(t34+1),hF,rfl,rfl⟩
 refine go ?_
 exact ⟨_,_,⟨l33,t34,hF,rfl,rfl⟩,NZ,Gh.trans (z3k (fun k=>!(Nat.beq k 5))) (Gh.toC (n1:=6) ⟨rfl,rfl,rfl,rfl,rfl,rfl,rfl,rfl,rfl,trivial⟩ rfl NZ (by simp))⟩
 refine go ?_
 exact xC ⟨l33,t34,hF,rfl,rfl⟩
 refine go ?_
 exact xC ⟨l12,t13,hF,rfl,rfl⟩
def qd2 (z22:Int) (l23:List q0o) (rc2:Int→(List q0o)→Option (GFS)) (x28:q0o) (l48:List q15):Option (GFS) :=
 q1b ((l23.length+1)*32≤140737488355328∧l23.length+1≤140737488355328) (
 rc2 (IntKind.i64.wrap (z22+1)) (l23++[(q0o.mk x28.Typex l48)]))
def q9f (p1:List Int) (z22:Int) (l23:List q0o) (rc2:Int→(List q0o)→Option (GFS)) (x28:q0o):Nat→Int→(List q15)→Option (GFS)
 | 0,_,_=>none
 | m3+1,z45,l46 =>
  cond (decide (z45<(x28.Arcs.length:Int)))
   (q04 (q0w x28.Arcs z45) fun x52 =>
   q1b ((l46.length+1)*16≤140737488355328∧l46.length+1≤140737488355328) (
   (q9f p1 z22 l23 rc2 x28 m3) (IntKind.i64.wrap (z45+1)) (l46++[(q15.mk x52.Feat (IntKind.i64.wrap (x52.To+(p1.length:Int))))])))
   (qd2 z22 l23 rc2 x28 l46)
def qd1  (l25:List q0o):Option (GFS) :=
 some (GFS.mk l25)
def q55 (p1:List Int) (p2:GFS) (n:Nat):Nat→Int→(List q0o)→Option (GFS)
 | 0,_,_=>none
 | m2+1,z22,l23 =>
  cond (decide (z22<(p2.Nodes.length:Int)))
   (q04 (q0w p2.Nodes z22) fun x28 =>
   q9f p1 z22 l23 (q55 p1 p2 n m2) x28 n 0 ([]:List q15))
   (qd1 l23)
def qd0 (p1:List Int) (p2:GFS) (n:Nat) (l13:List q0o):Option (GFS) :=
 q55 p1 p2 n n 0 l13
def q9e (p1:List Int) (p2:GFS) (n:Nat):Nat→Int→(List q0o)→Option (GFS)
 | 0,_,_=>none
 | m1+1,z10,l11 =>
  cond (decide (z10<(p1.length:Int)))
   (q04 (q0w p1 z10) fun x56 =>
   q1b ((l11.length+1)*32≤140737488355328∧l11.length+1≤140737488355328) (
   (q9e p1 p2 n m1) (IntKind.i64.wrap (z10+1)) (l11++[(q0o.mk 0 ([(q15.mk x56 (IntKind.i64.wrap (z10+1)))]))])))
   (qd0 p1 p2 n l11)
def qiv (n:Nat) (p1:List Int) (p2:GFS):Option (GFS) :=
 q9e p1 p2 n n 0 ([]:List q0o)
theorem q66 (n:Nat) (p1:List Int) (p2:GFS) (r:GFS) (hF:qiv n p1 p2=some r):EvU Tryz.prog 22 [.isl false (List.map (cI .i64) p1),.agg [.isl false (List.map q01 p2.Nodes)]] ⟨[],0⟩ (fun u _=>u = .agg [.isl false (List.map q01 r.Nodes)]∧Bel 0 u):=by
 unfold qiv at hF
 refine bg2 71 fn22 ?_
 refine go ?_
 refine RS.q (u:=.ptr 0 0 0) (σ':=⟨[(0,.row [.iM q01 p2.Nodes] 24)],1⟩) rfl (q3r rfl rfl rfl) (RS.q (u:=.ptr 1 0 0) (σ':=⟨[(1,.row [.nils] 24),(0,.row [.iM q01 p2.Nodes] 24)],2⟩) rfl (q1j inf24 rfl rfl) ?_)
 refine go ?_
 refine RS.q (u:=.ptr 2 0 0) (σ':=⟨[(2,.row [.nils] 24),(1,.row [.nils] 24),(0,.row [.iM q01 p2.Nodes] 24)],3⟩) rfl (q1j inf24 rfl rfl) ?_
 refine go ?_
 refine RS.q rfl (q0c rfl rfl rfl (q08 (cI .i64) und33)) ?_
 refine gn ?_
 refine WPU.ghost (tm':=fr 71 [(0,.iM (cI .i64) p1),(3,.ptr 0 0 0),(4,.ptr 1 0 0),(5,.ptr 2 0 0),(13,.iM (cI .i64) p1),(14,.i6 (p1.length:Int)),(15,.i6 0)]) (σ':=⟨[(3,.vec (List.map q01 ([]:List q0o)).flatten 54 2 0),(2,.row [.vl 3 0 0 (([]:List q0o).length)] 24),(1,.row [.nils] 24),(0,.row [.iM q01 p2.Nodes] 24)],4⟩) (Gh.trans (z3e 2 0 54 2 (by decide) NZ rfl rfl) (z38 ⟨rfl,rfl,rfl,rfl,rfl,rfl,rfl,trivial⟩ rfl)) NZ ?_
 refine gS (l':=[(0,_),(3,_),(4,_),(5,_),(13,_),(14,_),(15,_)]) ?_
 refine z2x (fun m tm σ=>∃ z10:Int,∃ l11:List q0o,∃ t12:Nat,q9e p1 p2 n m z10 l11=some r∧tm=fr 71 [(0,.iM (cI .i64) p1),(3,.ptr 0 0 0),(4,.ptr 1 0 0),(5,.ptr 2 0 0),(13,.iM (cI .i64) p1),(14,.i6 (p1.length:Int)),(15,.i6 z10)]∧σ=⟨[(3,.vec (List.map q01 l11).flatten 54 2 t12),(2,.row [.vl 3 t12 0 l11.length] 24),(1,.row [.nils] 24),(0,.row [.iM q01 p2.Nodes] 24)],4⟩) (fun tm σ=>∃ l13:List q0o,∃ t14:Nat,qd0 p1 p2 n l13=some r∧tm=fr 71 [(0,.iM (cI .i64) p1),(3,.ptr 0 0 0),(4,.ptr 1 0 0),(5,.ptr 2 0 0)]∧σ=⟨[(3,.vec (List.map q01 l13).flatten 54 2 t14),(2,.row [.vl 3 t14 0 l13.length] 24),(1,.row [.nils] 24),(0,.row [.iM q01 p2.Nodes] 24)],4⟩) n ⟨0,([]:List q0o),0,hF,rfl,rfl⟩ ?_ ?_
 rintro _ _ ⟨l13,t14,hF,rfl,rfl⟩
 unfold qd0 at hF
 refine go ?_
 refine RS.q rfl (q0z und24 rfl (q03 inf22) rfl rfl rfl) (RS.q rfl (q0n und22 rfl rfl rfl rfl) (RS.q rfl (q0c rfl rfl rfl (q08 q01 und22)) ?_))
 refine go ?_
 refine gS (l':=[(0,_),(4,_),(5,_),(33,_),(34,_),(35,_)]) ?_
 refine z2x (fun m tm σ=>∃ z22:Int,∃ l23:List q0o,∃ t24:Nat,q55 p1 p2 n m z22 l23=some r∧tm=fr 71 [(0,.iM (cI .i64) p1),(4,.ptr 1 0 0),(5,.ptr 2 0 0),(33,.iM q01 p2.Nodes),(34,.i6 (p2.Nodes.length:Int)),(35,.i6 z22)]∧σ=⟨[(3,.vec (List.map q01 l23).flatten 54 2 t24),(2,.row [.vl 3 t24 0 l23.length] 24),(1,.row [.nils] 24),(0,.row [.iM q01 p2.Nodes] 24)],4⟩) (fun tm σ=>∃ l25:List q0o,∃ t26:Nat,qd1 l25=some r∧tm=fr 71 [(4,.ptr 1 0 0),(5,.ptr 2 0 0)]∧σ=⟨[(3,.vec (List.map q01 l25).flatten 54 2 t26),(2,.row [.vl 3 t26 0 l25.length] 24),(1,.row [.nils] 24),(0,.row [.iM q01 p2.Nodes] 24)],4⟩) n ⟨0,l13,t14,hF,rfl,rfl⟩ ?_ ?_
 rintro _ _ ⟨l25,t26,hF,rfl,rfl⟩
 unfold qd1 at hF
 refine go ?_
 refine RS.q (u:=.agg [.vl 3 t26 0 l25.length]) rfl (q17 und24 rfl (q03 inf24) rfl rfl rfl) ?_
 refine z36 (u:=.junk) (σ':=⟨[(3,.vec (List.map q01 l25).flatten 54 2 t26),(2,.row [.vl 3 t26 0 l25.length] 24),(1,.row [.vl 3 t26 0 l25.length] 24),(0,.row [.iM q01 p2.Nodes] 24)],4⟩) rfl (q0v (q03 inf24) rfl rfl rfl rfl rfl rfl rfl rfl) rfl ?_
 refine go ?_
 obtain rfl:=sI hF
 exact rT (us:=[.agg [.vl 3 t26 0 l25.length]]) (u:=.agg [.iM q01 l25]) (qk7 (q17 und24 rfl (q03 inf24) rfl rfl rfl) (q3b)) (fR 3 2)
 rintro (_|m2) _ _ ⟨z22,l23,t24,hF,rfl,rfl⟩
 cases hF
 unfold q55 at hF
 refine go ?_
 refine cF hF (fun h27 hF=>?_) (fun h27 hF=>?_)
 refine go ?_
 refine WPU.block ?_
 obtain ⟨x28,h29,hF⟩:=q00 hF
 refine go ?_
 refine RS.q rfl (q0f rfl rfl (q07 q01 und22 (q03 inf54) q1n h29 rfl)) (RS.q (u:=.agg (q01 x28)) rfl (qav und54 rfl (q03 inf54) rfl rfl) (RS.q (u:=.ptr 4 0 0) (σ':=⟨[(4,.row [.i6 0,.nils] 54),(3,.vec (List.map q01 l23).flatten 54 2 t24),(2,.row [.vl 3 t24 0 l23.length] 24),(1,.row [.nils] 24),(0,.row [.iM q01 p2.Nodes] 24)],5⟩) rfl (q1j inf54 rfl rfl) ?_))
 refine z36 (u:=.junk) (σ':=⟨[(4,.row (q01 x28) 54),(3,.vec (List.map q01 l23).flatten 54 2 t24),(2,.row [.vl 3 t24 0 l23.length] 24),(1,.row [.nils] 24),(0,.row [.iM q01 p2.Nodes] 24)],5⟩) rfl (q0v (q03 inf54) rfl rfl rfl rfl rfl rfl rfl rfl) rfl ?_
 refine go ?_
 refine RS.q rfl (q0z und54 rfl (q03 inf3) rfl rfl rfl) (RS.q rfl (q0n und3 rfl rfl rfl rfl) (RS.q (u:=.agg [.i6 x28.Typex,.nils]) rfl (q3v bd54 rfl rfl rfl) (RS.q (u:=.ptr 5 0 0) (σ':=⟨[(5,.row [.i6 0,.nils] 54),(4,.row (q01 x28) 54),(3,.vec (List.map q01 l23).flatten 54 2 t24),(2,.row [.vl 3 t24 0 l23.length] 24),(1,.row [.nils] 24),(0,.row [.iM q01 p2.Nodes] 24)],6⟩) rfl (q1j inf54 rfl rfl) ?_)))
 refine z36 (u:=.junk) (σ':=⟨[(5,.row [.i6 x28.Typex,.nils] 54),(4,.row (q01 x28) 54),(3,.vec (List.map q01 l23).flatten 54 2 t24),(2,.row [.vl 3 t24 0 l23.length] 24),(1,.row [.nils] 24),(0,.row [.iM q01 p2.Nodes] 24)],6⟩) rfl (q0v (q03 inf54) rfl rfl rfl rfl rfl rfl rfl rfl) rfl ?_
 refine go ?_
 refine RS.q rfl (q0z und54 rfl (q03 inf52) rfl rfl rfl) (RS.q rfl (q0n und52 rfl rfl rfl rfl) (RS.q rfl (q0c rfl rfl rfl (q08 q0d und52)) ?_))
 refine gn ?_
 refine WPU.ghost (tm':=fr 71 [(0,.iM (cI .i64) p1),(4,.ptr 1 0 0),(5,.ptr 2 0 0),(10,.ptr 5 0 0),(33,.iM q01 p2.Nodes),(34,.i6 (p2.Nodes.length:Int)),(35,.i6 z22),(43,.iM q0d x28.Arcs),(44,.i6 (x28.Arcs.length:Int)),(45,.i6 0)]) (σ':=⟨[(6,.vec (List.map q0d ([]:List q15)).flatten 66 2 0),(5,.row [.i6 x28.Typex,.vl 6 0 0 (([]:List q15).length)] 54),(4,.row (q01 x28) 54),(3,.vec (List.map q01 l23).flatten 54 2 t24),(2,.row [.vl 3 t24 0 l23.length] 24),(1,.row [.nils] 24),(0,.row [.iM q01 p2.Nodes] 24)],7⟩) (Gh.trans (z3e 5 1 66 2 (by decide) NZ rfl rfl) (z38 ⟨rfl,rfl,rfl,rfl,rfl,rfl,rfl,rfl,rfl,rfl,trivial⟩ rfl)) NZ ?_
 refine gS (l':=[(0,_),(4,_),(5,_),(10,_),(33,_),(34,_),(35,_),(43,_),(44,_),(45,_)]) ?_
 refine z2x (fun m tm σ=>∃ z45:Int,∃ l46:List q15,∃ t47:Nat,q9f p1 z22 l23 (q55 p1 p2 n m2) x28 m z45 l46=some r∧tm=fr 71 [(0,.iM (cI .i64) p1),(4,.ptr 1 0 0),(5,.ptr 2 0 0),(10,.ptr 5 0 0),(33,.iM q01 p2.Nodes),(34,.i6 (p2.Nodes.length:Int)),(35,.i6 z22),(43,.iM q0d x28.Arcs),(44,.i6 (x28.Arcs.length:Int)),(45,.i6 z45)]∧σ=⟨[(6,.vec (List.map q0d l46).flatten 66 2 t47),(5,.row [.i6 x28.Typex,.vl 6 t47 0 l46.length] 54),(4,.row (q01 x28) 54),(3,.vec (List.map q01 l23).flatten 54 2 t24),(2,.row [.vl 3 t24 0 l23.length] 24),(1,.row [.nils] 24),(0,.row [.iM q01 p2.Nodes] 24)],7⟩) (fun tm σ=>∃ l48:List q15,∃ t49:Nat,qd2 z22 l23 (q55 p1 p2 n m2) x28 l48=some r∧tm=fr 71 [(0,.iM (cI .i64) p1),(4,.ptr 1 0 0),(5,.ptr 2 0 0),(10,.ptr 5 0 0),(33,.iM q01 p2.Nodes),(34,.i6 (p2.Nodes.length:Int)),(35,.i6 z22)]∧σ=⟨[(6,.vec (List.map q0d l48).flatten 66 2 t49),(5,.row [.i6 x28.Typex,.vl 6 t49 0 l48.length] 54),(4,.row (q01 x28) 54),(3,.vec (List.map q01 l23).flatten 54 2 t24),(2,.row [.vl 3 t24 0 l23.length] 24),(1,.row [.nils] 24),(0,.row [.iM q01 p2.Nodes] 24)],7⟩) n ⟨0,([]:List q15),0,hF,rfl,rfl⟩ ?_ ?_
 rintro _ _ ⟨l48,t49,hF,rfl,rfl⟩
 unfold qd2 at hF
 refine gn ?_
 refine WPU.ghost (tm':=fr 71 [(0,.iM (cI .i64) p1),(4,.ptr 1 0 0),(5,.ptr 2 0 0),(10,.ptr 5 0 0),(33,.iM q01 p2.Nodes),(34,.i6 (p2.Nodes.length:Int)),(35,.i6 z22)]) (σ':=⟨[(5,.row [.i6 x28.Typex,.iM q0d l48] 54),(4,.row (q01 x28) 54),(3,.vec (List.map q01 l23).flatten 54 2 t24),(2,.row [.vl 3 t24 0 l23.length] 24),(1,.row [.nils] 24),(0,.row [.iM q01 p2.Nodes] 24)],7⟩) (Gh.trans (Gh.sub (l':=[(0,.iM (cI .i64) p1),(4,.ptr 1 0 0),(5,.ptr 2 0 0),(10,.ptr 5 0 0),(33,.iM q01 p2.Nodes),(34,.i6 (p2.Nodes.length:Int)),(35,.i6 z22)]) ⟨rfl,rfl,rfl,rfl,rfl,rfl,rfl,trivial⟩) (z3g 6 2)) NZ ?_
 obtain ⟨h50,hF⟩:=q09 hF
 refine go ?_
 refine RS.q rfl (q0z und24 rfl (q03 inf22) rfl rfl rfl) (RS.q rfl (q0n und22 rfl rfl rfl rfl) (RS.q (u:=.agg [.i6 x28.Typex,.iM q0d l48]) rfl (q17 und54 rfl (q03 inf54) rfl rfl rfl) (RS.q (u:=.sl 7 0 1 1) (σ':=⟨[(7,.row [.i6 x28.Typex,.iM q0d l48] 54),(5,.row [.i6 x28.Typex,.iM q0d l48] 54),(4,.row (q01 x28) 54),(3,.vec (List.map q01 l23).flatten 54 2 t24),(2,.row [.vl 3 t24 0 l23.length] 24),(1,.row [.nils] 24),(0,.row [.iM q01 p2.Nodes] 24)],8⟩) rfl (q0k und22 inf54 rfl rfl rfl rfl rfl rfl rfl) (RS.q (u:=.vl 3 (t24+1) 0 ((l23++[(q0o.mk x28.Typex l48)]).length)) (σ':=⟨[(7,.row [.i6 x28.Typex,.iM q0d l48] 54),(5,.row [.i6 x28.Typex,.iM q0d l48] 54),(4,.row (q01 x28) 54),(3,.vec (List.map q01 (l23++[(q0o.mk x28.Typex l48)])).flatten 54 2 (t24+1)),(2,.row [.vl 3 t24 0 l23.length] 24),(1,.row [.nils] 24),(0,.row [.iM q01 p2.Nodes] 24)],8⟩) rfl (q1i rfl rfl rfl rfl (q1s q01 ([(q0o.mk x28.Typex l48)]) und22 und22 inf54 rfl q1n rfl (q1l q01 [(q0o.mk x28.Typex l48)] rfl rfl rfl rfl) h50)) (RS.q rfl (q0z und24 rfl (q03 inf22) rfl rfl rfl) ?_)))))
 refine z36 (u:=.junk) (σ':=⟨[(7,.row [.i6 x28.Typex,.iM q0d l48] 54),(5,.row [.i6 x28.Typex,.iM q0d l48] 54),(4,.row (q01 x28) 54),(3,.vec (List.map q01 (l23++[(q0o.mk x28.Typex l48)])).flatten 54 2 (t24+1)),(2,.row [.vl 3 (t24+1) 0 ((l23++[(q0o.mk x28.Typex l48)]).length)] 24),(1,.row [.nils] 24),(0,.row [.iM q01 p2.Nodes] 24)],8⟩) rfl (q0v (q03 inf22) rfl rfl rfl rfl rfl rfl rfl rfl) rfl ?_
 refine go ?_
 exact lC ⟨_,(l23++[(q0o.mk x28.Typex l48)]),(t24+1),hF,rfl,rfl⟩
 rintro (_|m3) _ _ ⟨z45,l46,t47,hF,rfl,rfl⟩
 cases hF
 unfold q9f at hF
 refine go ?_
 refine cF hF (fun h51 hF=>?_) (fun h51 hF=>?_)
 refine go ?_
 refine WPU.block ?_
 obtain ⟨x52,h53,hF⟩:=q00 hF
 refine go ?_
 refine RS.q rfl (q0f rfl rfl (q07 q0d und52 (q03 inf66) q0l h53 rfl)) (RS.q (u:=.agg (q0d x52)) rfl (qav und66 rfl (q03 inf66) rfl rfl) (RS.q (u:=.ptr 7 0 0) (σ':=⟨[(7,.row [.i6 0,.i6 0] 66),(6,.vec (List.map q0d l46).flatten 66 2 t47),(5,.row [.i6 x28.Typex,.vl 6 t47 0 l46.length] 54),(4,.row (q01 x28) 54),(3,.vec (List.map q01 l23).flatten 54 2 t24),(2,.row [.vl 3 t24 0 l23.length] 24),(1,.row [.nils] 24),(0,.row [.iM q01 p2.Nodes] 24)],8⟩) rfl (q1j inf66 rfl rfl) ?_))
 refine z36 (u:=.junk) (σ':=⟨[(7,.row (q0d x52) 66),(6,.vec (List.map q0d l46).flatten 66 2 t47),(5,.row [.i6 x28.Typex,.vl 6 t47 0 l46.length] 54),(4,.row (q01 x28) 54),(3,.vec (List.map q01 l23).flatten 54 2 t24),(2,.row [.vl 3 t24 0 l23.length] 24),(1,.row [.nils] 24),(0,.row [.iM q01 p2.Nodes] 24)],8⟩) rfl (q0v (q03 inf66) rfl rfl rfl rfl rfl rfl rfl rfl) rfl ?_
 obtain ⟨h54,hF⟩:=q09 hF
 refine go ?_
 refine RS.q rfl (q0z und54 rfl (q03 inf52) rfl rfl rfl) (RS.q rfl (q0n und52 rfl rfl rfl rfl) (RS.q rfl (q0z und66 rfl (q03 inf3) rfl rfl rfl) (RS.q rfl (q0n und3 rfl rfl rfl rfl) (RS.q rfl (q0z und66 rfl (q03 inf3) rfl rfl rfl) (RS.q rfl (q0n und3 rfl rfl rfl rfl) ?_)))))
 refine go ?_
 refine RS.q rfl (q0c rfl rfl rfl (q08 (cI .i64) und33)) ?_
 refine go ?_
 refine RS.q (u:=.agg [.i6 x52.Feat,.i6 (IntKind.i64.wrap (x52.To+(p1.length:Int)))]) rfl (q3v bd66 rfl rfl rfl) (RS.q (u:=.sl 8 0 1 1) (σ':=⟨[(8,.row [.i6 x52.Feat,.i6 (IntKind.i64.wrap (x52.To+(p1.length:Int)))] 66),(7,.row (q0d x52) 66),(6,.vec (List.map q0d l46).flatten 66 2 t47),(5,.row [.i6 x28.Typex,.vl 6 t47 0 l46.length] 54),(4,.row (q01 x28) 54),(3,.vec (List.map q01 l23).flatten 54 2 t24),(2,.row [.vl 3 t24 0 l23.length] 24),(1,.row [.nils] 24),(0,.row [.iM q01 p2.Nodes] 24)],9⟩) rfl (q0k und52 inf66 rfl rfl rfl rfl rfl rfl rfl) (RS.q (u:=.vl 6 (t47+1) 0 ((l46++[(q15.mk x52.Feat (IntKind.i64.wrap (x52.To+(p1.length:Int))))]).length)) (σ':=⟨[(8,.row [.i6 x52.Feat,.i6 (IntKind.i64.wrap (x52.To+(p1.length:Int)))] 66),(7,.row (q0d x52) 66),(6,.vec (List.map q0d (l46++[(q15.mk x52.Feat (IntKind.i64.wrap (x52.To+(p1.length:Int))))])).flatten 66 2 (t47+1)),(5,.row [.i6 x28.Typex,.vl 6 t47 0 l46.length] 54),(4,.row (q01 x28) 54),(3,.vec (List.map q01 l23).flatten 54 2 t24),(2,.row [.vl 3 t24 0 l23.length] 24),(1,.row [.nils] 24),(0,.row [.iM q01 p2.Nodes] 24)],9⟩) rfl (q1i rfl rfl rfl rfl (q1s q0d ([(q15.mk x52.Feat (IntKind.i64.wrap (x52.To+(p1.length:Int))))]) und52 und52 inf66 rfl q0l rfl (q1l q0d [(q15.mk x52.Feat (IntKind.i64.wrap (x52.To+(p1.length:Int))))] rfl rfl rfl rfl) h54)) (RS.q rfl (q0z und54 rfl (q03 inf52) rfl rfl rfl) ?_)))
 refine z36 (u:=.junk) (σ':=⟨[(8,.row [.i6 x52.Feat,.i6 (IntKind.i64.wrap (x52.To+(p1.length:Int)))] 66),(7,.row (q0d x52) 66),(6,.vec (List.map q0d (l46++[(q15.mk x52.Feat (IntKind.i64.wrap (x52.To+(p1.length:Int))))])).flatten 66 2 (t47+1)),(5,.row [.i6 x28.Typex,.vl 6 (t47+1) 0 ((l46++[(q15.mk x52.Feat (IntKind.i64.wrap (x52.To+(p1.length:Int))))]).length)] 54),(4,.row (q01 x28) 54),(3,.vec (List.map q01 l23).flatten 54 2 t24),(2,.row [.vl 3 t24 0 l23.length] 24),(1,.row [.nils] 24),(0,.row [.iM q01 p2.Nodes] 24)],9⟩) rfl (q0v (q03 inf52) rfl rfl rfl rfl rfl rfl rfl rfl) rfl ?_
 refine go ?_
 exact lC ⟨_,(l46++[(q15.mk x52.Feat (IntKind.i64.wrap (x52.To+(p1.length:Int))))]),(t47+1),hF,rfl,rfl⟩
 refine go ?_
 exact xC ⟨l46,t47,hF,rfl,rfl⟩
 refine go ?_
 exact xC ⟨l23,t24,hF,rfl,rfl⟩
 rintro (_|m1) _ _ ⟨z10,l11,t12,hF,rfl,rfl⟩
 cases hF
 unfold q9e at hF
 refine go ?_
 refine cF hF (fun h55 hF=>?_) (fun h55 hF=>?_)
 refine go ?_
 refine WPU.block ?_
 obtain ⟨x56,h57,hF⟩:=q00 hF
 refine go ?_
 refine RS.q rfl (q0f rfl rfl (q07 (cI .i64) und33 (q03 inf3) (q13 .i64) h57 rfl)) (RS.q rfl (q0b und3 rfl rfl rfl) ?_)
 obtain ⟨h58,hF⟩:=q09 hF
 refine go ?_
 refine RS.q rfl (q0z und24 rfl (q03 inf22) rfl rfl rfl) (RS.q rfl (q0n und22 rfl rfl rfl rfl) ?_)
 refine go ?_
 refine RS.q (u:=.agg [.i6 x56,.i6 (IntKind.i64.wrap (z10+1))]) rfl (q3v bd66 rfl rfl rfl) (RS.step (u:=.iM q0d ([(q15.mk x56 (IntKind.i64.wrap (z10+1)))])) (σ':=⟨[(3,.vec (List.map q01 l11).flatten 54 2 t12),(2,.row [.vl 3 t12 0 l11.length] 24),(1,.row [.nils] 24),(0,.row [.iM q01 p2.Nodes] 24)],5⟩) rfl (qch.fz Tryz.tb_ok (u1:=.sl 4 0 1 1) (s1:=⟨[(4,.row [.i6 x56,.i6 (IntKind.i64.wrap (z10+1))] 66),(3,.vec (List.map q01 l11).flatten 54 2 t12),(2,.row [.vl 3 t12 0 l11.length] 24),(1,.row [.nils] 24),(0,.row [.iM q01 p2.Nodes] 24)],5⟩) (q0k und52 inf66 rfl rfl rfl rfl rfl rfl rfl) (z34 4 2) (Nat.le_refl _) rfl rfl) rfl rfl (RS.q (u:=.agg [.i6 0,.iM q0d ([(q15.mk x56 (IntKind.i64.wrap (z10+1)))])]) rfl (q3v bd54 rfl rfl rfl) (RS.q (u:=.sl 5 0 1 1) (σ':=⟨[(5,.row [.i6 0,.iM q0d ([(q15.mk x56 (IntKind.i64.wrap (z10+1)))])] 54),(3,.vec (List.map q01 l11).flatten 54 2 t12),(2,.row [.vl 3 t12 0 l11.length] 24),(1,.row [.nils] 24),(0,.row [.iM q01 p2.Nodes] 24)],6⟩) rfl (q0k und22 inf54 rfl rfl rfl rfl rfl rfl rfl) (RS.q (u:=.vl 3 (t12+1) 0 ((l11++[(q0o.mk 0 ([(q15.mk x56 (IntKind.i64.wrap (z10+1)))]))]).length)) (σ':=⟨[(5,.row [.i6 0,.iM q0d ([(q15.mk x56 (IntKind.i64.wrap (z10+1)))])] 54),(3,.vec (List.map q01 (l11++[(q0o.mk 0 ([(q15.mk x56 (IntKind.i64.wrap (z10+1)))]))])).flatten 54 2 (t12+1)),(2,.row [.vl 3 t12 0 l11.length] 24),(1,.row [.nils] 24),(0,.row [.iM q01 p2.Nodes] 24)],6⟩) rfl (q1i rfl rfl rfl rfl (q1s q01 ([(q0o.mk 0 ([(q15.mk x56 (IntKind.i64.wrap (z10+1)))]))]) und22 und22 inf54 rfl q1n rfl (q1l q01 [(q0o.mk 0 ([(q15.mk x56 (IntKind.i64.wrap (z10+1)))]))] rfl rfl rfl rfl) h58)) (RS.q rfl (q0z und24 rfl (q03 inf22) rfl rfl rfl) ?_)))))
 refine z36 (u:=.junk) (σ':=⟨[(5,.row [.i6 0,.iM q0d ([(q15.mk x56 (IntKind.i64.wrap (z10+1)))])] 54),(3,.vec (List.map q01 (l11++[(q0o.mk 0 ([(q15.mk x56 (IntKind.i64.wrap (z10+1)))]))])).flatten 54 2 (t12+1)),(2,.row [.vl 3 (t12+1) 0 ((l11++[(q0o.mk 0 ([(q15.mk x56 (IntKind.i64.wrap (z10+1)))]))]).length)] 24),(1,.row [.nils] 24),(0,.row [.iM q01 p2.Nodes] 24)],6⟩) rfl (q0v (q03 inf22) rfl rfl rfl rfl rfl rfl rfl rfl) rfl ?_
 refine go ?_
 exact lC ⟨_,(l11++[(q0o.mk 0 ([(q15.mk x56 (IntKind.i64.wrap (z10+1)))]))]),(t12+1),hF,rfl,rfl⟩
 refine go ?_
 exact xC ⟨l11,t12,hF,rfl,rfl⟩
def qcz (n:Nat) (l13:List (List UInt8)):Option ((List UInt8)) :=
 q04 (strings_Join n l13 ([46])) fun r15 =>
 some r15
def q9d (p1:q18) (p2:List Int) (n:Nat):Nat→Int→(List (List UInt8))→Option ((List UInt8))
 | 0,_,_=>none
 | m1+1,z10,l11 =>
  cond (decide (z10<(p2.length:Int)))
   (q04 (q0w p2 z10) fun x18 =>
   q04 (q0w p1.Feats x18) fun x20 =>
   q1b ((l11.length+1)*16≤140737488355328∧l11.length+1≤140737488355328) (
   (q9d p1 p2 n m1) (IntKind.i64.wrap (z10+1)) (l11++[x20.Name])))
   (qcz n l11)
def qiu (n:Nat) (p1:q18) (p2:List Int):Option ((List UInt8)) :=
 q9d p1 p2 n n 0 ([]:List (List UInt8))
theorem qel (n:Nat) (p1:q18) (p2:List Int) (r:(List UInt8)) (hF:qiu n p1 p2=some r):EvU Tryz.prog 25 [.agg (q06 p1),.isl false (List.map (cI .i64) p2)] ⟨[],0⟩ (fun u _=>u = .str r∧Bel 0 u):=by
 unfold qiu at hF
 refine bg2 26 fn25 ?_
 refine go ?_
 refine RS.q (u:=.ptr 0 0 0) (σ':=⟨[(0,.row (q06 p1) 43)],1⟩) rfl (q3r rfl rfl rfl) ?_
 refine go ?_
 refine RS.q rfl (q0c rfl rfl rfl (q08 (cI .i64) und33)) ?_
 refine gn ?_
 refine WPU.ghost (tm':=fr 26 [(2,.ptr 0 0 0),(5,.vl 1 0 0 (([]:List (List UInt8)).length)),(8,.iM (cI .i64) p2),(9,.i6 (p2.length:Int)),(10,.i6 0)]) (σ':=⟨[(1,.vec (List.map cS ([]:List (List UInt8))).flatten 9 1 0),(0,.row (q06 p1) 43)],2⟩) (Gh.trans (z39 5 9 1 (by decide) NZ rfl rfl) (z38 ⟨rfl,rfl,rfl,rfl,rfl,trivial⟩ rfl)) NZ ?_
 refine gS (l':=[(2,_),(5,_),(8,_),(9,_),(10,_)]) ?_
 refine z2x (fun m tm σ=>∃ z10:Int,∃ l11:List (List UInt8),∃ t12:Nat,q9d p1 p2 n m z10 l11=some r∧tm=fr 26 [(2,.ptr 0 0 0),(5,.vl 1 t12 0 l11.length),(8,.iM (cI .i64) p2),(9,.i6 (p2.length:Int)),(10,.i6 z10)]∧σ=⟨[(1,.vec (List.map cS l11).flatten 9 1 t12),(0,.row (q06 p1) 43)],2⟩) (fun tm σ=>∃ l13:List (List UInt8),∃ t14:Nat,qcz n l13=some r∧tm=fr 26 [(5,.vl 1 t14 0 l13.length)]∧σ=⟨[(1,.vec (List.map cS l13).flatten 9 1 t14),(0,.row (q06 p1) 43)],2⟩) n ⟨0,([]:List (List UInt8)),0,hF,rfl,rfl⟩ ?_ ?_
 rintro _ _ ⟨l13,t14,hF,rfl,rfl⟩
 unfold qcz at hF
 obtain ⟨r15,h16,hF⟩:=q00 hF
 refine go ?_
 refine RS.cl rfl (vw (qn5 n l13 ([46]) r15 h16) (z34 1 1)) fn52 ?_
 exact gx hF
 rintro (_|m1) _ _ ⟨z10,l11,t12,hF,rfl,rfl⟩
 cases hF
 unfold q9d at hF
 refine go ?_
 refine cF hF (fun h17 hF=>?_) (fun h17 hF=>?_)
 refine go ?_
 refine WPU.block ?_
 obtain ⟨x18,h19,hF⟩:=q00 hF
 refine go ?_
 refine RS.q rfl (q0f rfl rfl (q07 (cI .i64) und33 (q03 inf3) (q13 .i64) h19 rfl)) (RS.q rfl (q0b und3 rfl rfl rfl) ?_)
 obtain ⟨x20,h21,hF⟩:=q00 hF
 obtain ⟨h22,hF⟩:=q09 hF
 refine go ?_
 refine RS.q rfl (q0z und43 rfl (q03 inf41) rfl rfl rfl) (RS.q rfl (q0n und41 rfl rfl rfl rfl) ?_)
 refine go ?_
 refine RS.q rfl (q0f rfl rfl (q07 q1c und41 (q03 inf82) q98 h21 rfl)) (RS.q rfl (q1d und82 rfl (q03 inf9) rfl rfl) (RS.q rfl (q0b und9 rfl rfl rfl) (RS.q (u:=.sl 2 0 1 1) (σ':=⟨[(2,.row [.str x20.Name] 9),(1,.vec (List.map cS l11).flatten 9 1 t12),(0,.row (q06 p1) 43)],3⟩) rfl (q0k und80 inf9 rfl rfl rfl rfl rfl rfl rfl) (RS.q (u:=.vl 1 (t12+1) 0 ((l11++[x20.Name]).length)) (σ':=⟨[(2,.row [.str x20.Name] 9),(1,.vec (List.map cS (l11++[x20.Name])).flatten 9 1 (t12+1)),(0,.row (q06 p1) 43)],3⟩) rfl (q1i rfl rfl rfl rfl (q1s cS ([x20.Name]) und80 und80 inf9 rfl q1m rfl (q1l cS [x20.Name] rfl rfl rfl rfl) h22)) ?_))))
 refine go ?_
 exact lC ⟨_,(l11++[x20.Name]),(t12+1),hF,rfl,rfl⟩
 refine go ?_
 exact xC ⟨l11,t12,hF,rfl,rfl⟩
def qa3   : Option (Int) :=
 some (-1)
def q6j (p1:q18) (p2:List UInt8):Nat→Int→Option (Int)
 | 0,_=>none
 | m1+1,z9 =>
  cond (decide (z9<(p1.Feats.length:Int)))
   (q04 (q0w p1.Feats z9) fun x11 =>
   cond (qc6 x11 (q1o.mk p2 x11.Intro))
    (some z9)
    ((q6j p1 p2 m1) (IntKind.i64.wrap (z9+1))))
   (qa3)
def qea (n:Nat) (p1:q18) (p2:List UInt8):Option (Int) :=
 q6j p1 p2 n 0
theorem qmu (n:Nat) (p1:q18) (p2:List UInt8) (r:Int) (hF:qea n p1 p2=some r):EvU Tryz.prog 55 [.agg (q06 p1),.str p2] ⟨[],0⟩ (fun u _=>u = .int .i64 r∧Bel 0 u):=by
 unfold qea at hF
 refine bg2 23 fn55 ?_
 refine go ?_
 refine RS.q (u:=.ptr 0 0 0) (σ':=⟨[(0,.row (q06 p1) 43)],1⟩) rfl (q3r rfl rfl rfl) ?_
 refine go ?_
 refine RS.q rfl (q0z und43 rfl (q03 inf41) rfl rfl rfl) (RS.q rfl (q0n und41 rfl rfl rfl rfl) (RS.q rfl (q0c rfl rfl rfl (q08 q1c und41)) ?_))
 refine go ?_
 refine gS (l':=[(1,_),(8,_),(9,_),(10,_)]) ?_
 refine z2x (fun m tm σ=>∃ z9:Int,q6j p1 p2 m z9=some r∧tm=fr 23 [(1,.str p2),(8,.iM q1c p1.Feats),(9,.i6 (p1.Feats.length:Int)),(10,.i6 z9)]∧σ=⟨[(0,.row (q06 p1) 43)],1⟩) (fun tm σ=>qa3=some r∧tm=fr 23 []∧σ=⟨[(0,.row (q06 p1) 43)],1⟩) n ⟨0,hF,rfl,rfl⟩ ?_ ?_
 rintro _ _ ⟨hF,rfl,rfl⟩
 unfold qa3 at hF
 exact gx hF
 rintro (_|m1) _ _ ⟨z9,hF,rfl,rfl⟩
 cases hF
 unfold q6j at hF
 refine go ?_
 refine cF hF (fun h10 hF=>?_) (fun h10 hF=>?_)
 refine go ?_
 refine WPU.block ?_
 obtain ⟨x11,h12,hF⟩:=q00 hF
 refine go ?_
 refine RS.q rfl (q0f rfl rfl (q07 q1c und41 (q03 inf82) q98 h12 rfl)) (RS.q (u:=.agg (q1c x11)) rfl (qav und82 rfl (q03 inf82) rfl rfl) (RS.q (u:=.ptr 1 0 0) (σ':=⟨[(1,.row [.str [],.i6 0] 82),(0,.row (q06 p1) 43)],2⟩) rfl (q1j inf82 rfl rfl) ?_))
 refine go ?_
 refine z36 (u:=.junk) (σ':=⟨[(1,.row (q1c x11) 82),(0,.row (q06 p1) 43)],2⟩) rfl (q0v (q03 inf82) rfl rfl rfl rfl rfl rfl rfl rfl) rfl ?_
 refine go ?_
 refine RS.q (u:=.agg (q1c x11)) rfl (q17 und82 rfl (q03 inf82) rfl rfl rfl) ?_
 refine go ?_
 refine RS.q rfl (q0z und82 rfl (q03 inf3) rfl rfl rfl) (RS.q rfl (q0n und3 rfl rfl rfl rfl) (RS.q (u:=.agg [.str p2,.i6 x11.Intro]) rfl (q3v bd82 rfl rfl rfl) (RS.q (u:=.bool (qc6 x11 (q1o.mk p2 x11.Intro))) rfl (qx2 rfl rfl (qvu x11 (q1o.mk p2 x11.Intro))) ?_)))
 refine go ?_
 refine cF hF (fun h13 hF=>?_) (fun h13 hF=>?_)
 exact gx hF
 refine go ?_
 exact lC ⟨_,hF,rfl,rfl⟩
 refine go ?_
 exact xC ⟨hF,rfl,rfl⟩
def qcy  (l24:List Int):Option ((List Int)×Int) :=
 some (l24,0)
def q9c (p1:q18) (n:Nat) (r4:(List (List UInt8))):Nat→Int→(List Int)→Option ((List Int)×Int)
 | 0,_,_=>none
 | m2+1,z21,l22 =>
  cond (decide (z21<(r4.length:Int)))
   (q04 (q0w r4 z21) fun x27 =>
   q04 (qea n p1 x27) fun r29 =>
   cond (decide (r29<0))
    (some ([],5))
    (q1b ((l22.length+1)*8≤140737488355328∧l22.length+1≤140737488355328) (
    (q9c p1 n r4 m2) (IntKind.i64.wrap (z21+1)) (l22++[r29]))))
   (qcy l22)
def qcx (p1:q18) (n:Nat) (r4:(List (List UInt8)))  : Option ((List Int)×Int) :=
 q9c p1 n r4 n 0 ([]:List Int)
def q9b (p1:q18) (n:Nat) (r4:(List (List UInt8))):Nat→Int→Option ((List Int)×Int)
 | 0,_=>none
 | m1+1,z13 =>
  cond (decide (z13<(r4.length:Int)))
   (q04 (q0w r4 z13) fun x34 =>
   q04 (qjy n x34) fun r36 =>
   cond (!r36)
    (some ([],8))
    ((q9b p1 n r4 m1) (IntKind.i64.wrap (z13+1))))
   (qcx p1 n r4)
def qc9 (n:Nat) (p1:q18) (p2:List UInt8):Option ((List Int)×Int) :=
 cond (q1p p2 [])
  (some ([],0))
  (q04 (qdu n p2 ([46])) fun r4 =>
  cond (decide ((r4.length:Int) > 64))
   (some ([],7))
   (q9b p1 n r4 n 0))
theorem qek (n:Nat) (p1:q18) (p2:List UInt8) (r:(List Int)×Int) (hF:qc9 n p1 p2=some r):EvU Tryz.prog 26 [.agg (q06 p1),.str p2] ⟨[],0⟩ (fun u _=>u = .tup [.isl false (List.map (cI .i64) r.1),.int .i64 r.2]∧Bel 0 u):=by
 unfold qc9 at hF
 refine bg2 47 fn26 ?_
 refine go ?_
 refine RS.q (u:=.ptr 0 0 0) (σ':=⟨[(0,.row (q06 p1) 43)],1⟩) rfl (q3r rfl rfl rfl) ?_
 refine go ?_
 refine RS.q (u:=.bool (q1p p2 [])) rfl (q93 rfl rfl rfl rfl) ?_
 refine go ?_
 refine cF hF (fun h3 hF=>?_) (fun h3 hF=>?_)
 refine go ?_
 obtain rfl:=sI hF
 exact rT (us:=[.nils,.i6 0]) (u:=.tup [.isl false [],.i6 0]) (q2l rfl (q2l rfl (q3b))) wR
 obtain ⟨r4,h5,hF⟩:=q00 hF
 refine go ?_
 refine RS.cl rfl (qk8 n p2 ([46]) r4 h5 _) fn53 ?_
 refine go ?_
 refine RS.q rfl (q0c rfl rfl rfl (q08 cS und80)) ?_
 refine go ?_
 refine cF hF (fun h6 hF=>?_) (fun h6 hF=>?_)
 refine go ?_
 obtain rfl:=sI hF
 exact rT (us:=[.nils,.i6 7]) (u:=.tup [.isl false [],.i6 7]) (q2l rfl (q2l rfl (q3b))) wR
 refine go ?_
 refine RS.q rfl (q0c rfl rfl rfl (q08 cS und80)) ?_
 refine go ?_
 refine gS (l':=[(2,_),(6,_),(20,_),(21,_),(22,_)]) ?_
 refine z2x (fun m tm σ=>∃ z13:Int,q9b p1 n r4 m z13=some r∧tm=fr 47 [(2,.ptr 0 0 0),(6,.iM cS r4),(20,.iM cS r4),(21,.i6 (r4.length:Int)),(22,.i6 z13)]∧σ=⟨[(0,.row (q06 p1) 43)],1⟩) (fun tm σ=>qcx p1 n r4=some r∧tm=fr 47 [(2,.ptr 0 0 0),(6,.iM cS r4)]∧σ=⟨[(0,.row (q06 p1) 43)],1⟩) n ⟨0,hF,rfl,rfl⟩ ?_ ?_
 rintro _ _ ⟨hF,rfl,rfl⟩
 unfold qcx at hF
 refine go ?_
 refine RS.q rfl (q0c rfl rfl rfl (q08 cS und80)) ?_
 refine gn ?_
 refine WPU.ghost (tm':=fr 47 [(2,.ptr 0 0 0),(9,.vl 1 0 0 (([]:List Int).length)),(30,.iM cS r4),(31,.i6 (r4.length:Int)),(32,.i6 0)]) (σ':=⟨[(1,.vec (List.map (cI .i64) ([]:List Int)).flatten 3 1 0),(0,.row (q06 p1) 43)],2⟩) (Gh.trans (z39 9 3 1 (by decide) NZ rfl rfl) (z38 ⟨rfl,rfl,rfl,rfl,rfl,trivial⟩ rfl)) NZ ?_
 refine gS (l':=[(2,_),(9,_),(30,_),(31,_),(32,_)]) ?_
 refine z2x (fun m tm σ=>∃ z21:Int,∃ l22:List Int,∃ t23:Nat,q9c p1 n r4 m z21 l22=some r∧tm=fr 47 [(2,.ptr 0 0 0),(9,.vl 1 t23 0 l22.length),(30,.iM cS r4),(31,.i6 (r4.length:Int)),(32,.i6 z21)]∧σ=⟨[(1,.vec (List.map (cI .i64) l22).flatten 3 1 t23),(0,.row (q06 p1) 43)],2⟩) (fun tm σ=>∃ l24:List Int,∃ t25:Nat,qcy l24=some r∧tm=fr 47 [(9,.vl 1 t25 0 l24.length)]∧σ=⟨[(1,.vec (List.map (cI .i64) l24).flatten 3 1 t25),(0,.row (q06 p1) 43)],2⟩) n ⟨0,([]:List Int),0,hF,rfl,rfl⟩ ?_ ?_
 rintro _ _ ⟨l24,t25,hF,rfl,rfl⟩
 unfold qcy at hF
 refine go ?_
 obtain rfl:=sI hF
 exact rT (us:=[.vl 1 t25 0 l24.length,.i6 0]) (u:=.tup [.iM (cI .i64) l24,.i6 0]) (q2l rfl (q2l rfl (q3b))) (fR 1 1)
 rintro (_|m2) _ _ ⟨z21,l22,t23,hF,rfl,rfl⟩
 cases hF
 unfold q9c at hF
 refine go ?_
 refine cF hF (fun h26 hF=>?_) (fun h26 hF=>?_)
 refine go ?_
 refine WPU.block ?_
 obtain ⟨x27,h28,hF⟩:=q00 hF
 refine go ?_
 refine RS.q rfl (q0f rfl rfl (q07 cS und80 (q03 inf9) q1m h28 rfl)) (RS.q rfl (q0b und9 rfl rfl rfl) ?_)
 obtain ⟨r29,h30,hF⟩:=q00 hF
 refine go ?_
 refine RS.q (u:=.agg (q06 p1)) rfl (q17 und43 rfl (q03 inf43) rfl rfl rfl) ?_
 refine go ?_
 refine RS.cl rfl (pC (qmu n p1 x27 r29 h30) _) fn55 ?_
 refine go ?_
 refine cF hF (fun h31 hF=>?_) (fun h31 hF=>?_)
 refine go ?_
 obtain rfl:=sI hF
 exact rT (us:=[.nils,.i6 5]) (u:=.tup [.isl false [],.i6 5]) (q2l rfl (q2l rfl (q3b))) wR
 obtain ⟨h32,hF⟩:=q09 hF
 refine go ?_
 refine RS.q (u:=.sl 2 0 1 1) (σ':=⟨[(2,.row [.i6 r29] 3),(1,.vec (List.map (cI .i64) l22).flatten 3 1 t23),(0,.row (q06 p1) 43)],3⟩) rfl (q0k und33 inf3 rfl rfl rfl rfl rfl rfl rfl) (RS.q (u:=.vl 1 (t23+1) 0 ((l22++[r29]).length)) (σ':=⟨[(2,.row [.i6 r29] 3),(1,.vec (List.map (cI .i64) (l22++[r29])).flatten 3 1 (t23+1)),(0,.row (q06 p1) 43)],3⟩) rfl (q1i rfl rfl rfl rfl (q1s (cI .i64) ([r29]) und33 und33 inf3 rfl (q13 .i64) rfl (q1l (cI .i64) [r29] rfl rfl rfl rfl) h32)) ?_)
 refine go ?_
 exact lC ⟨_,(l22++[r29]),(t23+1),hF,rfl,rfl⟩
 refine go ?_
 exact xC ⟨l22,t23,hF,rfl,rfl⟩
 rintro (_|m1) _ _ ⟨z13,hF,rfl,rfl⟩
 cases hF
 unfold q9b at hF
 refine go ?_
 refine cF hF (fun h33 hF=>?_) (fun h33 hF=>?_)
 refine go ?_
 refine WPU.block ?_
 obtain ⟨x34,h35,hF⟩:=q00 hF
 refine go ?_
 refine RS.q rfl (q0f rfl rfl (q07 cS und80 (q03 inf9) q1m h35 rfl)) (RS.q rfl (q0b und9 rfl rfl rfl) ?_)
 obtain ⟨r36,h37,hF⟩:=q00 hF
 refine go ?_
 refine RS.cl rfl (qmh n x34 r36 h37 _) fn54 ?_
 refine go ?_
 refine cF hF (fun h38 hF=>?_) (fun h38 hF=>?_)
 refine go ?_
 obtain rfl:=sI hF
 exact rT (us:=[.nils,.i6 8]) (u:=.tup [.isl false [],.i6 8]) (q2l rfl (q2l rfl (q3b))) wR
 refine go ?_
 exact lC ⟨_,hF,rfl,rfl⟩
 refine go ?_
 exact xC ⟨hF,rfl,rfl⟩
def q5p (z35:Int) (rc2:Int→(List Int)→(List Bool)→(List (List Int))→Option ((List (List Int)))) (l50:List Int) (l52:List Bool) (l53:List (List Int)):Option ((List (List Int))) :=
 rc2 (IntKind.i64.wrap (z35+1)) l50 l52 l53
def q5q (z12:Int) (rc1:Int→(List Int)→(List Bool)→(List (List Int))→Option ((List (List Int)))) (l40:List Int) (l42:List Bool) (l43:List (List Int)):Option ((List (List Int))) :=
 rc1 (IntKind.i64.wrap (z12+1)) l40 l42 l43
def q2z (p1:GFS) (z12:Int) (rc1:Int→(List Int)→(List Bool)→(List (List Int))→Option ((List (List Int)))) (x25:q0o):Nat→Int→(List Int)→(List Bool)→(List (List Int))→Option ((List (List Int)))
 | 0,_,_,_,_=>none
 | m2+1,z35,l36,l38,l39 =>
  cond (decide (z35<(x25.Arcs.length:Int)))
   (q04 (q0w x25.Arcs z35) fun x45 =>
   q04 (qgx l38 0 ((p1.Nodes.length:Int).toNat) x45.To) fun x47 =>
   cond (!x47)
    (q04 (q0w x25.Arcs z35) fun x54 =>
    q04 (qgx l38 0 ((p1.Nodes.length:Int).toNat) x54.To) fun x56 =>
    q04 (q0w x25.Arcs z35) fun x58 =>
    q04 (q0w l36 z12) fun x60 =>
    q04 (qgx l39 0 ((p1.Nodes.length:Int).toNat) x60) fun x62 =>
    q1b (x62.length*8≤140737488355328∧x62.length≤140737488355328) (
    q04 (q0w x25.Arcs z35) fun x65 =>
    q1b ((x62.length+([x65.Feat]).length)*8≤140737488355328∧x62.length+([x65.Feat]).length≤140737488355328) (
    q04 (qgx l39 0 ((p1.Nodes.length:Int).toNat) x58.To) fun x68 =>
    q04 (q0w x25.Arcs z35) fun x70 =>
    q1b ((l36.length+1)*8≤140737488355328∧l36.length+1≤140737488355328) (
    q5p z35 (q2z p1 z12 rc1 x25 m2) (l36++[x70.To]) (l38.set x54.To.toNat true) (l39.set x58.To.toNat (x62++[x65.Feat]))))))
    (q5p z35 (q2z p1 z12 rc1 x25 m2) l36 l38 l39))
   (q5q z12 rc1 l36 l38 l39)
def q8e (p1:GFS) (l17:List Int) (l19:List Bool) (l20:List (List Int)):Option ((List (List Int))) :=
 q1b ((p1.Nodes.length:Int).toNat=l20.length) (
 some l20)
def q26 (p1:GFS) (n:Nat):Nat→Int→(List Int)→(List Bool)→(List (List Int))→Option ((List (List Int)))
 | 0,_,_,_,_=>none
 | m1+1,z12,l13,l15,l16 =>
  cond (decide (z12<(l13.length:Int)))
   (q04 (q0w l13 z12) fun x23 =>
   q04 (q0w p1.Nodes x23) fun x25 =>
   q2z p1 z12 (q26 p1 n m1) x25 n 0 l13 l15 l16)
   (q8e p1 l13 l15 l16)
def q7k (n:Nat) (p1:GFS):Option ((List (List Int))) :=
 q1b (0≤(p1.Nodes.length:Int)∧24*(p1.Nodes.length:Int).toNat≤281474976710656∧(p1.Nodes.length:Int)≤281474976710656) (
 q1b (0≤(p1.Nodes.length:Int)∧1*(p1.Nodes.length:Int).toNat≤281474976710656∧(p1.Nodes.length:Int)≤281474976710656) (
 q04 (qgx (List.replicate (p1.Nodes.length:Int).toNat false) 0 ((p1.Nodes.length:Int).toNat) 0) fun x4 =>
 q26 p1 n n 0 ([0]) ((List.replicate (p1.Nodes.length:Int).toNat false).set (0:Int).toNat true) (List.replicate (p1.Nodes.length:Int).toNat [])))
theorem q9v (n:Nat) (p1:GFS) (r:(List (List Int))) (hF:q7k n p1=some r):EvU Tryz.prog 16 [.agg [.isl false (List.map q01 p1.Nodes)]] ⟨[],0⟩ (fun u _=>u = .isl false (List.map (cL (cI .i64)) r)∧Bel 0 u):=by
 unfold q7k at hF
 refine bg1 89 fn16 ?_
 refine go ?_
 refine RS.q (u:=.ptr 0 0 0) (σ':=⟨[(0,.row [.iM q01 p1.Nodes] 24)],1⟩) rfl (q3r rfl rfl rfl) ?_
 obtain ⟨h2,hF⟩:=q09 hF
 refine go ?_
 refine RS.q rfl (q0z und24 rfl (q03 inf22) rfl rfl rfl) (RS.q rfl (q0n und22 rfl rfl rfl rfl) (RS.q rfl (q0c rfl rfl rfl (q08 q01 und22)) (RS.q (u:=.sl 1 0 ((p1.Nodes.length:Int).toNat) ((p1.Nodes.length:Int).toNat)) (σ':=⟨[(1,.row (List.map (cL (cI .i64)) (List.replicate (p1.Nodes.length:Int).toNat [])).flatten 33),(0,.row [.iM q01 p1.Nodes] 24)],2⟩) rfl (qqd (cL (cI .i64)) [] rfl rfl und28 inf33 rfl rfl rfl rfl h2) ?_)))
 obtain ⟨h3,hF⟩:=q09 hF
 refine go ?_
 refine RS.q rfl (q0z und24 rfl (q03 inf22) rfl rfl rfl) (RS.q rfl (q0n und22 rfl rfl rfl rfl) (RS.q rfl (q0c rfl rfl rfl (q08 q01 und22)) (RS.q (u:=.sl 2 0 ((p1.Nodes.length:Int).toNat) ((p1.Nodes.length:Int).toNat)) (σ':=⟨[(2,.row (List.map cB (List.replicate (p1.Nodes.length:Int).toNat false)).flatten 4),(1,.row (List.map (cL (cI .i64)) (List.replicate (p1.Nodes.length:Int).toNat [])).flatten 33),(0,.row [.iM q01 p1.Nodes] 24)],3⟩) rfl (qqd cB false rfl rfl und75 inf4 rfl rfl rfl rfl h3) ?_)))
 obtain ⟨x4,h5,hF⟩:=q00 hF
 refine go ?_
 refine RS.q rfl (q0f rfl rfl (qk0 und75 (q03 inf4) rfl h5)) ?_
 refine z36 (u:=.junk) (σ':=⟨[(2,.row (List.map cB ((List.replicate (p1.Nodes.length:Int).toNat false).set (0:Int).toNat true)).flatten 4),(1,.row (List.map (cL (cI .i64)) (List.replicate (p1.Nodes.length:Int).toNat [])).flatten 33),(0,.row [.iM q01 p1.Nodes] 24)],3⟩) rfl (qsc cB (q03 inf4) qsy rfl rfl rfl rfl rfl rfl h5 rfl) rfl ?_
 refine go ?_
 refine RS.step (u:=.vl 3 0 0 ([0].length)) (σ':=⟨[(3,.vec (List.map (cI .i64) ([0])).flatten 3 1 0),(2,.row (List.map cB ((List.replicate (p1.Nodes.length:Int).toNat false).set (0:Int).toNat true)).flatten 4),(1,.row (List.map (cL (cI .i64)) (List.replicate (p1.Nodes.length:Int).toNat [])).flatten 33),(0,.row [.iM q01 p1.Nodes] 24)],4⟩) rfl (qch.bslv (cs:=(List.map (cI .i64) [0]).flatten) Tryz.tb_ok rfl und33 inf3 rfl rfl rfl rfl rfl rfl rfl rfl) rfl rfl ?_
 refine go ?_
 refine gS (l':=[(1,_),(3,_),(4,_),(5,_),(6,_)]) ?_
 refine z2x (fun m tm σ=>∃ z12:Int,∃ l13:List Int,∃ t14:Nat,∃ l15:List Bool,∃ l16:List (List Int),q26 p1 n m z12 l13 l15 l16=some r∧tm=fr 89 [(1,.ptr 0 0 0),(3,.sl 1 0 ((p1.Nodes.length:Int).toNat) ((p1.Nodes.length:Int).toNat)),(4,.sl 2 0 ((p1.Nodes.length:Int).toNat) ((p1.Nodes.length:Int).toNat)),(5,.vl 3 t14 0 l13.length),(6,.i6 z12)]∧σ=⟨[(3,.vec (List.map (cI .i64) l13).flatten 3 1 t14),(2,.row (List.map cB l15).flatten 4),(1,.row (List.map (cL (cI .i64)) l16).flatten 33),(0,.row [.iM q01 p1.Nodes] 24)],4⟩) (fun tm σ=>∃ l17:List Int,∃ t18:Nat,∃ l19:List Bool,∃ l20:List (List Int),q8e p1 l17 l19 l20=some r∧tm=fr 89 [(3,.sl 1 0 ((p1.Nodes.length:Int).toNat) ((p1.Nodes.length:Int).toNat))]∧σ=⟨[(3,.vec (List.map (cI .i64) l17).flatten 3 1 t18),(2,.row (List.map cB l19).flatten 4),(1,.row (List.map (cL (cI .i64)) l20).flatten 33),(0,.row [.iM q01 p1.Nodes] 24)],4⟩) n ⟨0,[0],0,((List.replicate (p1.Nodes.length:Int).toNat false).set (0:Int).toNat true),(List.replicate (p1.Nodes.length:Int).toNat []),hF,rfl,rfl⟩ ?_ ?_
 rintro _ _ ⟨l17,t18,l19,l20,hF,rfl,rfl⟩
 unfold q8e at hF
 obtain ⟨h21,hF⟩:=q09 hF
 refine go ?_
 obtain rfl:=sI hF
 exact ⟨.inr rfl,[.sl 1 0 ((p1.Nodes.length:Int).toNat) ((p1.Nodes.length:Int).toNat)],q2l rfl (q3b),.iM (cL (cI .i64)) l20,⟨[],0⟩,Nat.le_refl _,Gh.trans (Gh.fz (tm':=[.iM (cL (cI .i64)) l20]) (h':=[(3,.vec (List.map (cI .i64) l17).flatten 3 1 t18),(2,.row (List.map cB l19).flatten 4),(0,.row [.iM q01 p1.Nodes] 24)]) 1 (.row (List.map (cL (cI .i64)) l20).flatten 33) 1 rfl (by simp) (by simp only [qki,qe7,q7m,qji,qg9,qjk,qe9,qgc,qgb,qga,qe8,qjj,qle,qjh,qjl,qpu,qlm,qui (q2x (cI .i64)) h21,q3u _ _ _ (q4q 1 (fun q=>qdx _ .i64 q) l17),q3u _ _ _ (q4q 1 (fun q=>qpd _ q) l19)]) (by simp only [fzH,fzB,ug,Nat.beq,cond_true,cond_false,qki,qe7,q7m,qji,qg9,qjk,qe9,qgc,qgb,qga,qe8,qjj,qle,qjh,qjl,qpu,qlm,qui (q2x (cI .i64)) h21,q3u _ _ _ (q4q 1 (fun q=>qdx _ .i64 q) l17),q3u _ _ _ (q4q 1 (fun q=>qpd _ q) l19)])) (z3f (.iM (cL (cI .i64)) l20) rfl),rfl,BU.h⟩
 rintro (_|m1) _ _ ⟨z12,l13,t14,l15,l16,hF,rfl,rfl⟩
 cases hF
 unfold q26 at hF
 refine go ?_
 refine RS.q rfl (q0c rfl rfl rfl (q92 und33 rfl)) ?_
 refine go ?_
 refine cF hF (fun h22 hF=>?_) (fun h22 hF=>?_)
 refine go ?_
 refine WPU.block ?_
 obtain ⟨x23,h24,hF⟩:=q00 hF
 obtain ⟨x25,h26,hF⟩:=q00 hF
 refine go ?_
 refine z2z Tryz.tb_ok [] (by kernel_rfl) ?_
 refine RD.q rfl (q0z und24 rfl (q03 inf22) rfl rfl rfl) (RD.q rfl (q0n und22 rfl rfl rfl rfl) ?_)
 repeat refine RD.mv rfl rfl rfl rfl ?_
 refine RD.q rfl (q0f rfl rfl (q8t (cI .i64) und33 (q03 inf3) (by decide) (q13 .i64) (vo rfl) h24)) ?_
 refine RD.q rfl (q4o (cI .i64) (fun x=>.i6 x) und3 rfl (fun _=>rfl) rfl rfl h24) (RD.q rfl (q0f rfl rfl (q07 q01 und22 (q03 inf54) q1n h26 rfl)) (RD.q rfl (q1d und54 rfl (q03 inf52) rfl rfl) (RD.q rfl (q0b und52 rfl rfl rfl) (RD.as rfl rfl rfl rfl ?_))))
 refine RD.done ⟨by kernel_rfl,trivial,?_⟩
 refine go ?_
 refine gS (l':=[(1,_),(3,_),(4,_),(5,_),(6,_),(7,_),(8,_)]) ?_
 refine z2x (fun m tm σ=>∃ z35:Int,∃ l36:List Int,∃ t37:Nat,∃ l38:List Bool,∃ l39:List (List Int),q2z p1 z12 (q26 p1 n m1) x25 m z35 l36 l38 l39=some r∧tm=fr 89 [(1,.ptr 0 0 0),(3,.sl 1 0 ((p1.Nodes.length:Int).toNat) ((p1.Nodes.length:Int).toNat)),(4,.sl 2 0 ((p1.Nodes.length:Int).toNat) ((p1.Nodes.length:Int).toNat)),(5,.vl 3 t37 0 l36.length),(6,.i6 z12),(7,.iM q0d x25.Arcs),(8,.i6 z35)]∧σ=⟨[(3,.vec (List.map (cI .i64) l36).flatten 3 1 t37),(2,.row (List.map cB l38).flatten 4),(1,.row (List.map (cL (cI .i64)) l39).flatten 33),(0,.row [.iM q01 p1.Nodes] 24)],4⟩) (fun tm σ=>∃ l40:List Int,∃ t41:Nat,∃ l42:List Bool,∃ l43:List (List Int),q5q z12 (q26 p1 n m1) l40 l42 l43=some r∧tm=fr 89 [(1,.ptr 0 0 0),(3,.sl 1 0 ((p1.Nodes.length:Int).toNat) ((p1.Nodes.length:Int).toNat)),(4,.sl 2 0 ((p1.Nodes.length:Int).toNat) ((p1.Nodes.length:Int).toNat)),(5,.vl 3 t41 0 l40.length),(6,.i6 z12)]∧σ=⟨[(3,.vec (List.map (cI .i64) l40).flatten 3 1 t41),(2,.row (List.map cB l42).flatten 4),(1,.row (List.map (cL (cI .i64)) l43).flatten 33),(0,.row [.iM q01 p1.Nodes] 24)],4⟩) n ⟨0,l13,t14,l15,l16,hF,rfl,rfl⟩ ?_ ?_
 rintro _ _ ⟨l40,t41,l42,l43,hF,rfl,rfl⟩
 unfold q5q at hF
 refine go ?_
 exact lC ⟨_,l40,t41,l42,l43,hF,rfl,rfl⟩
 rintro (_|m2) _ _ ⟨z35,l36,t37,l38,l39,hF,rfl,rfl⟩
 cases hF
 unfold q2z at hF
 refine go ?_
 refine RS.q rfl (q0c rfl rfl rfl (q08 q0d und52)) ?_
 refine go ?_
 refine cF hF (fun h44 hF=>?_) (fun h44 hF=>?_)
 refine go ?_
 refine WPU.block ?_
 obtain ⟨x45,h46,hF⟩:=q00 hF
 obtain ⟨x47,h48,hF⟩:=q00 hF
 refine go ?_
 refine RS.q rfl (q0f rfl rfl (q07 q0d und52 (q03 inf66) q0l h46 rfl)) (RS.q rfl (q1d und66 rfl (q03 inf3) rfl rfl) (RS.q rfl (q0b und3 rfl rfl rfl) (RS.q rfl (q0f rfl rfl (qk0 und75 (q03 inf4) rfl h48)) (RS.q (u:=.bool x47) rfl (qq0 cB (fun x=>.bool x) und4 rfl (fun _=>rfl) rfl rfl h48) ?_))))
 refine gn ?_
 refine z2y (fun tm σ=>∃ l50:List Int,∃ t51:Nat,∃ l52:List Bool,∃ l53:List (List Int),q5p z35 (q2z p1 z12 (q26 p1 n m1) x25 m2) l50 l52 l53=some r∧tm=fr 89 [(1,.ptr 0 0 0),(3,.sl 1 0 ((p1.Nodes.length:Int).toNat) ((p1.Nodes.length:Int).toNat)),(4,.sl 2 0 ((p1.Nodes.length:Int).toNat) ((p1.Nodes.length:Int).toNat)),(5,.vl 3 t51 0 l50.length),(6,.i6 z12),(7,.iM q0d x25.Arcs),(8,.i6 z35)]∧σ=⟨[(3,.vec (List.map (cI .i64) l50).flatten 3 1 t51),(2,.row (List.map cB l52).flatten 4),(1,.row (List.map (cL (cI .i64)) l53).flatten 33),(0,.row [.iM q01 p1.Nodes] 24)],4⟩) ?_ ?_
 rintro _ _ ⟨l50,t51,l52,l53,hF,rfl,rfl⟩
 unfold q5p at hF
 refine go ?_
 exact lC ⟨_,l50,t51,l52,l53,hF,rfl,rfl⟩
 refine cF hF (fun h49 hF=>?_) (fun h49 hF=>?_)
 obtain ⟨x54,h55,hF⟩:=q00 hF
 obtain ⟨x56,h57,hF⟩:=q00 hF
 refine go ?_
 refine RS.q rfl (q0f rfl rfl (q07 q0d und52 (q03 inf66) q0l h55 rfl)) (RS.q rfl (q1d und66 rfl (q03 inf3) rfl rfl) (RS.q rfl (q0b und3 rfl rfl rfl) (RS.q rfl (q0f rfl rfl (qk0 und75 (q03 inf4) rfl h57)) ?_)))
 refine z36 (u:=.junk) (σ':=⟨[(3,.vec (List.map (cI .i64) l36).flatten 3 1 t37),(2,.row (List.map cB (l38.set x54.To.toNat true)).flatten 4),(1,.row (List.map (cL (cI .i64)) l39).flatten 33),(0,.row [.iM q01 p1.Nodes] 24)],4⟩) rfl (qsc cB (q03 inf4) qsy rfl rfl rfl rfl rfl rfl h57 rfl) rfl ?_
 obtain ⟨x58,h59,hF⟩:=q00 hF
 obtain ⟨x60,h61,hF⟩:=q00 hF
 obtain ⟨x62,h63,hF⟩:=q00 hF
 obtain ⟨h64,hF⟩:=q09 hF
 obtain ⟨x65,h66,hF⟩:=q00 hF
 obtain ⟨h67,hF⟩:=q09 hF
 obtain ⟨x68,h69,hF⟩:=q00 hF
 refine go ?_
 refine z2z Tryz.tb_ok [(0,6),(0,14),(0,21),(1,6),(1,14),(1,21),(2,6),(2,14),(2,21),(3,6),(3,14),(3,21),(4,6),(4,14),(4,21),(5,6),(5,14),(5,21),(7,6),(8,6),(9,6),(10,6),(11,6),(12,6),(13,6),(15,6),(15,14),(16,6),(16,14),(17,6),(17,14),(18,6),(18,14),(19,6),(19,14)] (by kernel_rfl) ?_
 repeat refine RD.mv rfl rfl rfl rfl ?_
 refine RD.q rfl (q0f rfl rfl (q07 q0d und52 (q03 inf66) q0l h59 rfl)) (RD.q rfl (q1d und66 rfl (q03 inf3) rfl rfl) (RD.q rfl (q0b und3 rfl rfl rfl) (RD.act (u:=.sl 4 0 0 0) (σ':=⟨[(4,.row [] 3),(3,.vec (List.map (cI .i64) l36).flatten 3 1 t37),(2,.row (List.map cB (l38.set x54.To.toNat true)).flatten 4),(1,.row (List.map (cL (cI .i64)) l39).flatten 33),(0,.row [.iM q01 p1.Nodes] 24)],5⟩) rfl (q0k und33 inf3 rfl rfl rfl rfl rfl rfl rfl) rfl rfl ?_)))
 repeat refine RD.mv rfl rfl rfl rfl ?_
 refine RD.q rfl (q0f rfl rfl (q8t (cI .i64) und33 (q03 inf3) (by decide) (q13 .i64) (vo rfl) h61)) ?_
 refine RD.q rfl (q4o (cI .i64) (fun x=>.i6 x) und3 rfl (fun _=>rfl) rfl rfl h61) (RD.q rfl (q0f rfl rfl (qk0 und28 (q03 inf33) rfl h63)) (RD.q (u:=.iM (cI .i64) x62) rfl (qq0 (cL (cI .i64)) (fun x=>.iM (cI .i64) x) und33 rfl (fun _=>rfl) rfl rfl h63) (RD.act (u:=.vl 5 0 0 x62.length) (σ':=⟨[(5,.vec (List.map (cI .i64) x62).flatten 3 1 0),(4,.row [] 3),(3,.vec (List.map (cI .i64) l36).flatten 3 1 t37),(2,.row (List.map cB (l38.set x54.To.toNat true)).flatten 4),(1,.row (List.map (cL (cI .i64)) l39).flatten 33),(0,.row [.iM q01 p1.Nodes] 24)],6⟩) rfl (q1i rfl rfl rfl rfl (qku (cI .i64) x62 und33 und33 inf3 rfl rfl rfl (qak (cI .i64) (q13 .i64)) h64)) rfl rfl ?_)))
 repeat refine RD.mv rfl rfl rfl rfl ?_
 refine RD.q rfl (q0f rfl rfl (q07 q0d und52 (q03 inf66) q0l h66 rfl)) (RD.q rfl (q1d und66 rfl (q03 inf3) rfl rfl) (RD.q rfl (q0b und3 rfl rfl rfl) ?_))
 refine z3i (u:=.iM (cI .i64) ([x65.Feat])) rfl (qcg.bs (cs:=[.i6 x65.Feat]) und33 inf3 rfl rfl rfl rfl rfl rfl rfl rfl rfl) rfl rfl ?_
 refine RD.fz (u:=.iM (cI .i64) (x62++[x65.Feat])) (u1:=.vl 5 1 0 ((x62++[x65.Feat]).length)) (s1:=⟨[(5,.vec (List.map (cI .i64) (x62++[x65.Feat])).flatten 3 1 1),(4,.row [] 3),(3,.vec (List.map (cI .i64) l36).flatten 3 1 t37),(2,.row (List.map cB (l38.set x54.To.toNat true)).flatten 4),(1,.row (List.map (cL (cI .i64)) l39).flatten 33),(0,.row [.iM q01 p1.Nodes] 24)],6⟩) (σ':=⟨[(4,.row [] 3),(3,.vec (List.map (cI .i64) l36).flatten 3 1 t37),(2,.row (List.map cB (l38.set x54.To.toNat true)).flatten 4),(1,.row (List.map (cL (cI .i64)) l39).flatten 33),(0,.row [.iM q01 p1.Nodes] 24)],6⟩) rfl (q1i rfl rfl rfl rfl (q1s (cI .i64) ([x65.Feat]) und33 und33 inf3 rfl (q13 .i64) rfl (qak (cI .i64) (q13 .i64)) h67)) (z34 5 1) (Nat.le_refl _) rfl rfl (RD.q rfl (q0f rfl rfl (qk0 und28 (q03 inf33) rfl h69)) ?_)
 refine z3d (u:=.junk) (σ':=⟨[(4,.row [] 3),(3,.vec (List.map (cI .i64) l36).flatten 3 1 t37),(2,.row (List.map cB (l38.set x54.To.toNat true)).flatten 4),(1,.row (List.map (cL (cI .i64)) (l39.set x58.To.toNat (x62++[x65.Feat]))).flatten 33),(0,.row [.iM q01 p1.Nodes] 24)],6⟩) rfl (qsc (cL (cI .i64)) (q03 inf33) (q2x (cI .i64)) rfl rfl rfl rfl rfl rfl h69 rfl) rfl ?_
 refine RD.done ⟨by kernel_rfl,⟨q0s rfl,⟨q0s rfl,⟨q0s rfl,⟨q0s rfl,⟨q0s rfl,⟨q0s rfl,⟨q0s rfl,⟨q0s rfl,⟨q0s rfl,⟨q0f rfl rfl (q07 q0d und52 (q03 inf66) q0l h59 rfl),⟨q0f rfl rfl (q07 q0d und52 (q03 inf66) q0l h59 rfl),⟨q0f rfl rfl (q07 q0d und52 (q03 inf66) q0l h59 rfl),⟨q1d und66 rfl (q03 inf3) rfl rfl,⟨q1d und66 rfl (q03 inf3) rfl rfl,⟨q1d und66 rfl (q03 inf3) rfl rfl,⟨q0b und3 rfl rfl rfl,⟨q0b und3 rfl rfl rfl,⟨q0b und3 rfl rfl rfl,⟨q0s rfl,⟨q0s rfl,⟨q0s rfl,⟨q0f rfl rfl (q8t (cI .i64) und33 (q03 inf3) (by decide) (q13 .i64) (vo rfl) h61),⟨q4o (cI .i64) (fun x=>.i6 x) und3 rfl (fun _=>rfl) rfl rfl h61,⟨q0f rfl rfl (qk0 und28 (q03 inf33) rfl h63),⟨qq0 (cL (cI .i64)) (fun x=>.iM (cI .i64) x) und33 rfl (fun _=>rfl) rfl rfl h63,⟨q0s rfl,⟨q0s rfl,⟨q0s rfl,⟨q0s rfl,⟨q0f rfl rfl (q07 q0d und52 (q03 inf66) q0l h66 rfl),⟨q0f rfl rfl (q07 q0d und52 (q03 inf66) q0l h66 rfl),⟨q1d und66 rfl (q03 inf3) rfl rfl,⟨q1d und66 rfl (q03 inf3) rfl rfl,⟨q0b und3 rfl rfl rfl,⟨q0b und3 rfl rfl rfl,trivial⟩⟩⟩⟩⟩⟩⟩⟩⟩⟩⟩⟩⟩⟩⟩⟩⟩⟩⟩⟩⟩⟩⟩⟩⟩⟩⟩⟩⟩⟩⟩⟩⟩⟩⟩,?_⟩
 obtain ⟨x70,h71,hF⟩:=q00 hF
 obtain ⟨h72,hF⟩:=q09 hF
 refine go ?_
 refine RS.q rfl (q0f rfl rfl (q07 q0d und52 (q03 inf66) q0l h71 rfl)) (RS.q rfl (q1d und66 rfl (q03 inf3) rfl rfl) (RS.q rfl (q0b und3 rfl rfl rfl) (RS.q (u:=.sl 6 0 1 1) (σ':=⟨[(6,.row [.i6 x70.To] 3),(4,.row [] 3),(3,.vec (List.map (cI .i64) l36).flatten 3 1 t37),(2,.row (List.map cB (l38.set x54.To.toNat true)).flatten 4),(1,.row (List.map (cL (cI .i64)) (l39.set x58.To.toNat (x62++[x65.Feat]))).flatten 33),(0,.row [.iM q01 p1.Nodes] 24)],7⟩) rfl (q0k und33 inf3 rfl rfl rfl rfl rfl rfl rfl) (RS.q (u:=.vl 3 (t37+1) 0 ((l36++[x70.To]).length)) (σ':=⟨[(6,.row [.i6 x70.To] 3),(4,.row [] 3),(3,.vec (List.map (cI .i64) (l36++[x70.To])).flatten 3 1 (t37+1)),(2,.row (List.map cB (l38.set x54.To.toNat true)).flatten 4),(1,.row (List.map (cL (cI .i64)) (l39.set x58.To.toNat (x62++[x65.Feat]))).flatten 33),(0,.row [.iM q01 p1.Nodes] 24)],7⟩) rfl (q1i rfl rfl rfl rfl (q1s (cI .i64) ([x70.To]) und33 und33 inf3 rfl (q13 .i64) rfl (q1l (cI .i64) [x70.To] rfl rfl rfl rfl) h72)) ?_))))
 refine go ?_
 exact xC ⟨(l36++[x70.To]),(t37+1),(l38.set x54.To.toNat true),(l39.set x58.To.toNat (x62++[x65.Feat])),hF,rfl,rfl⟩
 refine go ?_
 exact xC ⟨l36,t37,l38,l39,hF,rfl,rfl⟩
 refine go ?_
 exact xC ⟨l36,t37,l38,l39,hF,rfl,rfl⟩
 refine go ?_
 exact xC ⟨l13,t14,l15,l16,hF,rfl,rfl⟩
def qds   : Option (Bool) :=
 some true
def q74 (p1:List Int) (p2:List Int):Nat→Int→Option (Bool)
 | 0,_=>none
 | m1+1,z7 =>
  cond (decide (z7<(p1.length:Int)))
   (q04 (q0w p1 z7) fun x9 =>
   q04 (q0w p2 z7) fun x11 =>
   cond (x9 != x11)
    (some false)
    ((q74 p1 p2 m1) (IntKind.i64.wrap (z7+1))))
   (qds)
def q9z (n:Nat) (p1:List Int) (p2:List Int):Option (Bool) :=
 cond ((p1.length:Int) != (p2.length:Int))
  (some false)
  (q74 p1 p2 n 0)
theorem qb5 (n:Nat) (p1:List Int) (p2:List Int) (r:Bool) (hF:q9z n p1 p2=some r):EvU Tryz.prog 47 [.isl false (List.map (cI .i64) p1),.isl false (List.map (cI .i64) p2)] ⟨[],0⟩ (fun u _=>u = .bool r∧Bel 0 u):=by
 unfold q9z at hF
 refine bg2 26 fn47 ?_
 refine go ?_
 refine RS.q rfl (q0c rfl rfl rfl (q08 (cI .i64) und33)) ?_
 refine go ?_
 refine RS.q rfl (q0c rfl rfl rfl (q08 (cI .i64) und33)) ?_
 refine go ?_
 refine cF hF (fun h3 hF=>?_) (fun h3 hF=>?_)
 exact gx hF
 refine go ?_
 refine gS (l':=[(0,_),(1,_),(5,_)]) ?_
 refine z2x (fun m tm σ=>∃ z7:Int,q74 p1 p2 m z7=some r∧tm=fr 26 [(0,.iM (cI .i64) p1),(1,.iM (cI .i64) p2),(5,.i6 z7)]∧σ=⟨[],0⟩) (fun tm σ=>qds=some r∧tm=fr 26 []∧σ=⟨[],0⟩) n ⟨0,hF,rfl,rfl⟩ ?_ ?_
 rintro _ _ ⟨hF,rfl,rfl⟩
 unfold qds at hF
 exact gx hF
 rintro (_|m1) _ _ ⟨z7,hF,rfl,rfl⟩
 cases hF
 unfold q74 at hF
 refine go ?_
 refine RS.q rfl (q0c rfl rfl rfl (q08 (cI .i64) und33)) ?_
 refine go ?_
 refine cF hF (fun h8 hF=>?_) (fun h8 hF=>?_)
 refine go ?_
 refine WPU.block ?_
 obtain ⟨x9,h10,hF⟩:=q00 hF
 obtain ⟨x11,h12,hF⟩:=q00 hF
 refine go ?_
 refine z2z Tryz.tb_ok [] (by kernel_rfl) ?_
 repeat refine RD.mv rfl rfl rfl rfl ?_
 refine RD.q rfl (q0f rfl rfl (q07 (cI .i64) und33 (q03 inf3) (q13 .i64) h10 rfl)) (RD.q rfl (q0b und3 rfl rfl rfl) ?_)
 repeat refine RD.mv rfl rfl rfl rfl ?_
 refine RD.q rfl (q0f rfl rfl (q07 (cI .i64) und33 (q03 inf3) (q13 .i64) h12 rfl)) (RD.q rfl (q0b und3 rfl rfl rfl) (RD.q rfl (q34 rfl rfl (qpy _ _ _) rfl) ?_))
 refine RD.done ⟨by kernel_rfl,trivial,?_⟩
 refine go ?_
 refine cF hF (fun h13 hF=>?_) (fun h13 hF=>?_)
 exact gx hF
 refine go ?_
 exact lC ⟨_,hF,rfl,rfl⟩
 refine go ?_
 exact xC ⟨hF,rfl,rfl⟩
def q51 (z24:Int) (rc2:Int→(List q0e)→Option ((List q0e))) (l43:List q0e):Option ((List q0e)) :=
 rc2 (IntKind.i64.wrap (z24+1)) l43
def q52 (z9:Int) (rc1:Int→(List q0e)→Option ((List q0e))) (l27:List q0e):Option ((List q0e)) :=
 rc1 (IntKind.i64.wrap (z9+1)) l27
def q2k (n:Nat) (r2:(List (List Int))) (z9:Int) (rc1:Int→(List q0e)→Option ((List q0e))) (x15:q0o):Nat→Int→(List q0e)→Option ((List q0e))
 | 0,_,_=>none
 | m2+1,z24,l25 =>
  cond (decide (z24<(x15.Arcs.length:Int)))
   (q04 (q0w r2 z9) fun x30 =>
   q1b (x30.length*8≤140737488355328∧x30.length≤140737488355328) (
   q04 (q0w x15.Arcs z24) fun x33 =>
   q1b ((x30.length+([x33.Feat]).length)*8≤140737488355328∧x30.length+([x33.Feat]).length≤140737488355328) (
   q04 (q0w x15.Arcs z24) fun x36 =>
   q04 (q0w r2 x36.To) fun x38 =>
   q04 (q9z n (x30++[x33.Feat]) x38) fun r40 =>
   cond (!r40)
    (q04 (q0w x15.Arcs z24) fun x45 =>
    q04 (q0w r2 x45.To) fun x47 =>
    q1b ((l25.length+1)*48≤140737488355328∧l25.length+1≤140737488355328) (
    q51 z24 (q2k n r2 z9 rc1 x15 m2) (l25++[(q0e.mk x47 (x30++[x33.Feat]))])))
    (q51 z24 (q2k n r2 z9 rc1 x15 m2) l25))))
   (q52 z9 rc1 l25)
def q73  (l12:List q0e):Option ((List q0e)) :=
 some l12
def q1v (p1:GFS) (n:Nat) (r2:(List (List Int))):Nat→Int→(List q0e)→Option ((List q0e))
 | 0,_,_=>none
 | m1+1,z9,l10 =>
  cond (decide (z9<(p1.Nodes.length:Int)))
   (q04 (q0w p1.Nodes z9) fun x15 =>
   q2k n r2 z9 (q1v p1 n r2 m1) x15 n 0 l10)
   (q73 l10)
def q8p (n:Nat) (p1:GFS):Option ((List q0e)) :=
 q04 (q7k n p1) fun r2 =>
 q1v p1 n r2 n 0 ([]:List q0e)
theorem qfz (n:Nat) (p1:GFS) (r:(List q0e)) (hF:q8p n p1=some r):EvU Tryz.prog 19 [.agg [.isl false (List.map q01 p1.Nodes)]] ⟨[],0⟩ (fun u _=>u = .isl false (List.map q0j r)∧Bel 0 u):=by
 unfold q8p at hF
 refine bg1 68 fn19 ?_
 refine go ?_
 refine RS.q (u:=.ptr 0 0 0) (σ':=⟨[(0,.row [.iM q01 p1.Nodes] 24)],1⟩) rfl (q3r rfl rfl rfl) ?_
 obtain ⟨r2,h3,hF⟩:=q00 hF
 refine go ?_
 refine RS.q (u:=.agg [.iM q01 p1.Nodes]) rfl (q17 und24 rfl (q03 inf24) rfl rfl rfl) (RS.cl rfl (pC (q9v n p1 r2 h3) _) fn16 ?_)
 refine gr ?_
 refine gr ?_
 refine WPU.ghost (tm':=fr 68 [(1,.ptr 0 0 0),(3,.iM (cL (cI .i64)) r2),(4,.vl 1 0 0 (([]:List q0e).length)),(5,.i6 0)]) (σ':=⟨[(1,.vec (List.map q0j ([]:List q0e)).flatten 56 2 0),(0,.row [.iM q01 p1.Nodes] 24)],2⟩) (Gh.trans (z39 4 56 2 (by decide) NZ rfl rfl) (z38 ⟨rfl,rfl,rfl,rfl,trivial⟩ rfl)) NZ ?_
 refine gS (l':=[(1,_),(3,_),(4,_),(5,_)]) ?_
 refine z2x (fun m tm σ=>∃ z9:Int,∃ l10:List q0e,∃ t11:Nat,q1v p1 n r2 m z9 l10=some r∧tm=fr 68 [(1,.ptr 0 0 0),(3,.iM (cL (cI .i64)) r2),(4,.vl 1 t11 0 l10.length),(5,.i6 z9)]∧σ=⟨[(1,.vec (List.map q0j l10).flatten 56 2 t11),(0,.row [.iM q01 p1.Nodes] 24)],2⟩) (fun tm σ=>∃ l12:List q0e,∃ t13:Nat,q73 l12=some r∧tm=fr 68 [(4,.vl 1 t13 0 l12.length)]∧σ=⟨[(1,.vec (List.map q0j l12).flatten 56 2 t13),(0,.row [.iM q01 p1.Nodes] 24)],2⟩) n ⟨0,([]:List q0e),0,hF,rfl,rfl⟩ ?_ ?_
 rintro _ _ ⟨l12,t13,hF,rfl,rfl⟩
 unfold q73 at hF
 refine go ?_
 obtain rfl:=sI hF
 exact rT (us:=[.vl 1 t13 0 l12.length]) (u:=.iM q0j l12) (q2l rfl (q3b)) (fR 1 2)
 rintro (_|m1) _ _ ⟨z9,l10,t11,hF,rfl,rfl⟩
 cases hF
 unfold q1v at hF
 refine go ?_
 refine RS.q rfl (q0z und24 rfl (q03 inf22) rfl rfl rfl) (RS.q rfl (q0n und22 rfl rfl rfl rfl) (RS.q rfl (q0c rfl rfl rfl (q08 q01 und22)) ?_))
 refine go ?_
 refine cF hF (fun h14 hF=>?_) (fun h14 hF=>?_)
 refine go ?_
 refine WPU.block ?_
 obtain ⟨x15,h16,hF⟩:=q00 hF
 refine go ?_
 refine RS.q rfl (q0z und24 rfl (q03 inf22) rfl rfl rfl) (RS.q rfl (q0n und22 rfl rfl rfl rfl) ?_)
 refine go ?_
 refine RS.q rfl (q0f rfl rfl (q07 q01 und22 (q03 inf54) q1n h16 rfl)) (RS.q rfl (q1d und54 rfl (q03 inf52) rfl rfl) (RS.q rfl (q0b und52 rfl rfl rfl) ?_))
 refine go ?_
 refine gS (l':=[(1,_),(3,_),(4,_),(5,_),(6,_),(7,_)]) ?_
 refine z2x (fun m tm σ=>∃ z24:Int,∃ l25:List q0e,∃ t26:Nat,q2k n r2 z9 (q1v p1 n r2 m1) x15 m z24 l25=some r∧tm=fr 68 [(1,.ptr 0 0 0),(3,.iM (cL (cI .i64)) r2),(4,.vl 1 t26 0 l25.length),(5,.i6 z9),(6,.iM q0d x15.Arcs),(7,.i6 z24)]∧σ=⟨[(1,.vec (List.map q0j l25).flatten 56 2 t26),(0,.row [.iM q01 p1.Nodes] 24)],2⟩) (fun tm σ=>∃ l27:List q0e,∃ t28:Nat,q52 z9 (q1v p1 n r2 m1) l27=some r∧tm=fr 68 [(1,.ptr 0 0 0),(3,.iM (cL (cI .i64)) r2),(4,.vl 1 t28 0 l27.length),(5,.i6 z9)]∧σ=⟨[(1,.vec (List.map q0j l27).flatten 56 2 t28),(0,.row [.iM q01 p1.Nodes] 24)],2⟩) n ⟨0,l10,t11,hF,rfl,rfl⟩ ?_ ?_
 rintro _ _ ⟨l27,t28,hF,rfl,rfl⟩
 unfold q52 at hF
 refine go ?_
 exact lC ⟨_,l27,t28,hF,rfl,rfl⟩
 rintro (_|m2) _ _ ⟨z24,l25,t26,hF,rfl,rfl⟩
 cases hF
 unfold q2k at hF
 refine go ?_
 refine RS.q rfl (q0c rfl rfl rfl (q08 q0d und52)) ?_
 refine go ?_
 refine cF hF (fun h29 hF=>?_) (fun h29 hF=>?_)
 refine go ?_
 refine WPU.block ?_
 obtain ⟨x30,h31,hF⟩:=q00 hF
 obtain ⟨h32,hF⟩:=q09 hF
 obtain ⟨x33,h34,hF⟩:=q00 hF
 obtain ⟨h35,hF⟩:=q09 hF
 refine go ?_
 refine z2z Tryz.tb_ok [(1,0),(2,0),(3,0),(4,0),(6,0),(6,5),(7,0),(7,5),(8,0),(8,5),(9,0),(9,5),(10,0),(10,5)] (by kernel_rfl) ?_
 refine RD.act (u:=.sl 2 0 0 0) (σ':=⟨[(2,.row [] 3),(1,.vec (List.map q0j l25).flatten 56 2 t26),(0,.row [.iM q01 p1.Nodes] 24)],3⟩) rfl (q0k und33 inf3 rfl rfl rfl rfl rfl rfl rfl) rfl rfl ?_
 repeat refine RD.mv rfl rfl rfl rfl ?_
 refine RD.q rfl (q0f rfl rfl (q07 (cL (cI .i64)) und28 (q03 inf33) (q2x (cI .i64)) h31 rfl)) (RD.q rfl (q0b und33 rfl rfl rfl) (RD.act (u:=.vl 3 0 0 x30.length) (σ':=⟨[(3,.vec (List.map (cI .i64) x30).flatten 3 1 0),(2,.row [] 3),(1,.vec (List.map q0j l25).flatten 56 2 t26),(0,.row [.iM q01 p1.Nodes] 24)],4⟩) rfl (q1i rfl rfl rfl rfl (qku (cI .i64) x30 und33 und33 inf3 rfl rfl rfl (qak (cI .i64) (q13 .i64)) h32)) rfl rfl ?_))
 repeat refine RD.mv rfl rfl rfl rfl ?_
 refine RD.q rfl (q0f rfl rfl (q07 q0d und52 (q03 inf66) q0l h34 rfl)) (RD.q rfl (q1d und66 rfl (q03 inf3) rfl rfl) (RD.q rfl (q0b und3 rfl rfl rfl) ?_))
 refine z3i (u:=.iM (cI .i64) ([x33.Feat])) rfl (qcg.bs (cs:=[.i6 x33.Feat]) und33 inf3 rfl rfl rfl rfl rfl rfl rfl rfl rfl) rfl rfl ?_
 refine RD.act (u:=.vl 3 1 0 ((x30++[x33.Feat]).length)) (σ':=⟨[(3,.vec (List.map (cI .i64) (x30++[x33.Feat])).flatten 3 1 1),(2,.row [] 3),(1,.vec (List.map q0j l25).flatten 56 2 t26),(0,.row [.iM q01 p1.Nodes] 24)],4⟩) rfl (q1i rfl rfl rfl rfl (q1s (cI .i64) ([x33.Feat]) und33 und33 inf3 rfl (q13 .i64) rfl (qak (cI .i64) (q13 .i64)) h35)) rfl rfl (RD.as rfl rfl rfl rfl ?_)
 refine RD.done ⟨by kernel_rfl,⟨q0s rfl,⟨q0s rfl,⟨q0f rfl rfl (q07 (cL (cI .i64)) und28 (q03 inf33) (q2x (cI .i64)) h31 rfl),⟨q0b und33 rfl rfl rfl,⟨q0s rfl,⟨q0s rfl,⟨q0s rfl,⟨q0s rfl,⟨q0f rfl rfl (q07 q0d und52 (q03 inf66) q0l h34 rfl),⟨q0f rfl rfl (q07 q0d und52 (q03 inf66) q0l h34 rfl),⟨q1d und66 rfl (q03 inf3) rfl rfl,⟨q1d und66 rfl (q03 inf3) rfl rfl,⟨q0b und3 rfl rfl rfl,⟨q0b und3 rfl rfl rfl,trivial⟩⟩⟩⟩⟩⟩⟩⟩⟩⟩⟩⟩⟩⟩,?_⟩
 obtain ⟨x36,h37,hF⟩:=q00 hF
 obtain ⟨x38,h39,hF⟩:=q00 hF
 obtain ⟨r40,h41,hF⟩:=q00 hF
 refine go ?_
 refine RS.q rfl (q0f rfl rfl (q07 q0d und52 (q03 inf66) q0l h37 rfl)) (RS.q rfl (q1d und66 rfl (q03 inf3) rfl rfl) (RS.q rfl (q0b und3 rfl rfl rfl) (RS.q rfl (q0f rfl rfl (q07 (cL (cI .i64)) und28 (q03 inf33) (q2x (cI .i64)) h39 rfl)) (RS.q rfl (q0b und33 rfl rfl rfl) (RS.cl rfl (vw (qb5 n (x30++[x33.Feat]) x38 r40 h41) (z34 3 1)) fn47 ?_)))))
 refine gn ?_
 refine z2y (fun tm σ=>∃ l43:List q0e,∃ t44:Nat,q51 z24 (q2k n r2 z9 (q1v p1 n r2 m1) x15 m2) l43=some r∧tm=fr 68 [(1,.ptr 0 0 0),(3,.iM (cL (cI .i64)) r2),(4,.vl 1 t44 0 l43.length),(5,.i6 z9),(6,.iM q0d x15.Arcs),(7,.i6 z24)]∧σ=⟨[(2,.row [] 3),(1,.vec (List.map q0j l43).flatten 56 2 t44),(0,.row [.iM q01 p1.Nodes] 24)],4⟩) ?_ ?_
 rintro _ _ ⟨l43,t44,hF,rfl,rfl⟩
 unfold q51 at hF
 refine go ?_
 exact lC ⟨_,l43,t44,hF,rfl,rfl⟩
 refine cF hF (fun h42 hF=>?_) (fun h42 hF=>?_)
 refine gn ?_
 refine WPU.ghost (tm':=fr 68 [(1,.ptr 0 0 0),(3,.iM (cL (cI .i64)) r2),(4,.vl 1 t26 0 l25.length),(5,.i6 z9),(6,.iM q0d x15.Arcs),(7,.i6 z24),(8,.iM (cI .i64) (x30++[x33.Feat]))]) (σ':=⟨[(2,.row [] 3),(1,.vec (List.map q0j l25).flatten 56 2 t26),(0,.row [.iM q01 p1.Nodes] 24)],4⟩) (Gh.trans (Gh.sub (l':=[(1,.ptr 0 0 0),(3,.iM (cL (cI .i64)) r2),(4,.vl 1 t26 0 l25.length),(5,.i6 z9),(6,.iM q0d x15.Arcs),(7,.i6 z24),(8,.vl 3 1 0 ((x30++[x33.Feat]).length))]) ⟨rfl,rfl,rfl,rfl,rfl,rfl,rfl,trivial⟩) (z3g 3 1)) NZ ?_
 obtain ⟨x45,h46,hF⟩:=q00 hF
 obtain ⟨x47,h48,hF⟩:=q00 hF
 obtain ⟨h49,hF⟩:=q09 hF
 refine go ?_
 refine RS.q rfl (q0f rfl rfl (q07 q0d und52 (q03 inf66) q0l h46 rfl)) (RS.q rfl (q1d und66 rfl (q03 inf3) rfl rfl) (RS.q rfl (q0b und3 rfl rfl rfl) (RS.q rfl (q0f rfl rfl (q07 (cL (cI .i64)) und28 (q03 inf33) (q2x (cI .i64)) h48 rfl)) (RS.q rfl (q0b und33 rfl rfl rfl) ?_))))
 refine go ?_
 refine RS.q (u:=.agg [.iM (cI .i64) x47,.iM (cI .i64) (x30++[x33.Feat])]) rfl (q3v bd56 rfl rfl rfl) (RS.q (u:=.sl 4 0 1 1) (σ':=⟨[(4,.row [.iM (cI .i64) x47,.iM (cI .i64) (x30++[x33.Feat])] 56),(2,.row [] 3),(1,.vec (List.map q0j l25).flatten 56 2 t26),(0,.row [.iM q01 p1.Nodes] 24)],5⟩) rfl (q0k und31 inf56 rfl rfl rfl rfl rfl rfl rfl) (RS.q (u:=.vl 1 (t26+1) 0 ((l25++[(q0e.mk x47 (x30++[x33.Feat]))]).length)) (σ':=⟨[(4,.row [.iM (cI .i64) x47,.iM (cI .i64) (x30++[x33.Feat])] 56),(2,.row [] 3),(1,.vec (List.map q0j (l25++[(q0e.mk x47 (x30++[x33.Feat]))])).flatten 56 2 (t26+1)),(0,.row [.iM q01 p1.Nodes] 24)],5⟩) rfl (q1i rfl rfl rfl rfl (q1s q0j ([(q0e.mk x47 (x30++[x33.Feat]))]) und31 und31 inf56 rfl q2s rfl (q1l q0j [(q0e.mk x47 (x30++[x33.Feat]))] rfl rfl rfl rfl) h49)) ?_))
 refine go ?_
 exact xC ⟨(l25++[(q0e.mk x47 (x30++[x33.Feat]))]),(t26+1),hF,rfl,rfl⟩
 refine go ?_
 exact ⟨_,_,⟨l25,t26,hF,rfl,rfl⟩,NZ,Gh.trans (z3k (fun k=>!(Nat.beq k 3))) (Gh.toC (n1:=4) ⟨rfl,rfl,rfl,rfl,rfl,rfl,trivial⟩ rfl NZ (by simp))⟩
 refine go ?_
 exact xC ⟨l25,t26,hF,rfl,rfl⟩
 refine go ?_
 exact xC ⟨l10,t11,hF,rfl,rfl⟩
def qfx (p1:q18) (p2:List Int) (z9:Int) (rc1:(List UInt8)→Int→Option ((List UInt8))) (s13:List UInt8):Option ((List UInt8)) :=
 q04 (q0w p2 z9) fun x14 =>
 q04 (q0w p1.Feats x14) fun x16 =>
 q1b (s13.length+x16.Name.length≤9223372036854775807) (
 rc1 (s13++x16.Name) (IntKind.i64.wrap (z9+1)))
def qn2  (s10:List UInt8):Option ((List UInt8)) :=
 some s10
def qfy (p1:q18) (p2:List Int):Nat→(List UInt8)→Int→Option ((List UInt8))
 | 0,_,_=>none
 | m1+1,s8,z9 =>
  cond (decide (z9<(p2.length:Int)))
   (cond (decide (z9 > 0))
    (q1b (s8.length+([46]).length≤9223372036854775807) (
    qfx p1 p2 z9 (qfy p1 p2 m1) (s8++[46])))
    (qfx p1 p2 z9 (qfy p1 p2 m1) s8))
   (qn2 s8)
def qd5 (n:Nat) (p1:Int):Option (Bool) :=
 q04 (cond (decide (p1 ≥ 48))
  (some (decide (p1≤57)))
  (some false)) fun b3 =>
 some b3
theorem q2t (n:Nat) (p1:Int) (r:Bool) (hF:qd5 n p1=some r):EvU Tryz.prog 109 [.int .u8 p1] ⟨[],0⟩ (fun u _=>u = .bool r∧Bel 0 u):=by
 unfold qd5 at hF
 refine bg1 9 fn109 ?_
 obtain ⟨b3,h4,hF⟩:=q00 hF
 refine gr ?_
 refine z2y (fun tm σ=>tm=fr 9 [(2,.bool b3)]∧σ=⟨[],0⟩) ?_ ?_
 rintro _ _ ⟨rfl,rfl⟩
 exact gx hF
 rcases gB h4 with ⟨h2,h4⟩ | ⟨h2,h4⟩
 exact gy h4
 exact gy h4
def qgi (n:Nat) (p1:Int):Option (Bool) :=
 q04 (cond (decide (p1 ≥ 65))
  (some (decide (p1≤90)))
  (some false)) fun b3 =>
 some b3
theorem qd8 (n:Nat) (p1:Int) (r:Bool) (hF:qgi n p1=some r):EvU Tryz.prog 140 [.int .u8 p1] ⟨[],0⟩ (fun u _=>u = .bool r∧Bel 0 u):=by
 unfold qgi at hF
 refine bg1 9 fn140 ?_
 obtain ⟨b3,h4,hF⟩:=q00 hF
 refine gr ?_
 refine z2y (fun tm σ=>tm=fr 9 [(2,.bool b3)]∧σ=⟨[],0⟩) ?_ ?_
 rintro _ _ ⟨rfl,rfl⟩
 exact gx hF
 rcases gB h4 with ⟨h2,h4⟩ | ⟨h2,h4⟩
 exact gy h4
 exact gy h4
end Go.Proofs
end
