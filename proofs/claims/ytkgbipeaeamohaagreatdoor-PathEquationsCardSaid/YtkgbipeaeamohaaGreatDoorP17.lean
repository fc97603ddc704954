/-
  Texts of the walk: H4.
-/
import Derived.Test.YtkgbipeaeamohaaGreatDoorP16
set_option linter.unusedSimpArgs false
set_option linter.unusedVariables false
section
namespace Go.Proofs
open Go Go.Rx Go.Vx Tryz
set_option maxRecDepth 20000
set_option maxHeartbeats 4000000
set_option synthInstance.maxSize 4000
set_option synthInstance.maxHeartbeats 200000
structure q0n where
 Typex:Int
 Arcs:List q12
def q01 (x:q0n):List U:=[.int .i64 x.Typex,.isl false (List.map q0e x.Arcs)]
theorem qn3 (n:Nat) (x:q0n):q24 n (q01 x):=by
 simp only [q01,q24,Bel,true_and,and_true]
 exact q4h _ (fun q=>qkq _ q) _
theorem q1p (x:q0n):(q01 x).length=2:=rfl
instance:qu3 q01 2:=⟨q1p⟩
instance:BF q01:=⟨qn3⟩
instance (n:Nat) (x:q0n):BUL n (q01 x):=⟨qn3 n x⟩
structure GFS where
 Nodes:List q0n
def cGFS (x:GFS):List U:=[.isl false (List.map q01 x.Nodes)]
structure q0g where
 A:List Int
 B:List Int
def q0l (x:q0g):List U:=[.isl false (List.map (cI .i64) x.A),.isl false (List.map (cI .i64) x.B)]
theorem qgv (n:Nat) (x:q0g):q24 n (q0l x):=by
 simp only [q0l,q24,Bel,true_and,and_true]
 exact ⟨q4h _ (fun q=>qfq _ .i64 q) _,q4h _ (fun q=>qfq _ .i64 q) _⟩
theorem q2p (x:q0g):(q0l x).length=2:=rfl
instance:qu3 q0l 2:=⟨q2p⟩
instance:BF q0l:=⟨qgv⟩
instance (n:Nat) (x:q0g):BUL n (q0l x):=⟨qgv n x⟩
structure q16 where
 Feat:Int
 Value:Int
def q0v (x:q16):List U:=[.int .i64 x.Feat,.int .i64 x.Value]
theorem qjd (n:Nat) (x:q16):q24 n (q0v x):=by
 simp only [q0v,q24,Bel,true_and,and_true]
theorem qjk (x:q16):(q0v x).length=2:=rfl
instance:qu3 q0v 2:=⟨qjk⟩
instance:BF q0v:=⟨qjd⟩
structure qby where
 Name:List UInt8
 Code:List Int
 Supers:List Int
 Feats:List q16
def q8b (x:qby):List U:=[.str x.Name,.isl false (List.map (cI .u64) x.Code),.isl false (List.map (cI .i64) x.Supers),.isl false (List.map q0v x.Feats)]
theorem qn4 (n:Nat) (x:qby):q24 n (q8b x):=by
 simp only [q8b,q24,Bel,true_and,and_true]
 exact ⟨q4h _ (fun q=>qfq _ .u64 q) _,q4h _ (fun q=>qfq _ .i64 q) _,q4h _ (fun q=>qjd _ q) _⟩
theorem qnj (x:qby):(q8b x).length=4:=rfl
instance:qu3 q8b 4:=⟨qnj⟩
instance:BF q8b:=⟨qn4⟩
structure q1j where
 Name:List UInt8
 Intro:Int
def q1a (x:q1j):List U:=[.str x.Name,.int .i64 x.Intro]
theorem qgu (n:Nat) (x:q1j):q24 n (q1a x):=by
 simp only [q1a,q24,Bel,true_and,and_true]
theorem q90 (x:q1j):(q1a x).length=2:=rfl
instance:qu3 q1a 2:=⟨q90⟩
instance:BF q1a:=⟨qgu⟩
def qc1 (x y:q1j):Bool:=(q1k x.Name y.Name&&(x.Intro == y.Intro))
structure q15 where
 Types:List qby
 Feats:List q1j
def q06 (x:q15):List U:=[.isl false (List.map q8b x.Types),.isl false (List.map q1a x.Feats)]
theorem qks (n:Nat) (x:q15):q24 n (q06 x):=by
 simp only [q06,q24,Bel,true_and,and_true]
 exact ⟨q4h _ (fun q=>qn4 _ q) _,q4h _ (fun q=>qgu _ q) _⟩
instance (n:Nat) (x:q15):BUL n (q06 x):=⟨qks n x⟩
structure q0s where
 Feat:List UInt8
 Value:List UInt8
def q0f (x:q0s):List U:=[.str x.Feat,.str x.Value]
theorem qfo (n:Nat) (x:q0s):q24 n (q0f x):=by
 simp only [q0f,q24,Bel,true_and,and_true]
theorem q25 (x:q0s):(q0f x).length=2:=rfl
instance:qu3 q0f 2:=⟨q25⟩
instance:BF q0f:=⟨qfo⟩
structure q05 where
 Name:List UInt8
 Supers:List (List UInt8)
 Feats:List q0s
def q02 (x:q05):List U:=[.str x.Name,.isl false (List.map cS x.Supers),.isl false (List.map q0f x.Feats)]
theorem qfp (n:Nat) (x:q05):q24 n (q02 x):=by
 simp only [q02,q24,Bel,true_and,and_true]
 exact ⟨q4h _ (fun q=>z0g _ q) _,q4h _ (fun q=>qfo _ q) _⟩
theorem q0k (x:q05):(q02 x).length=3:=rfl
instance:BF q02:=⟨qfp⟩
instance (n:Nat) (x:q05):BUL n (q02 x):=⟨qfp n x⟩
structure q0z where
 Name:List UInt8
 Code:List Int
def q0h (x:q0z):List U:=[.str x.Name,.isl false (List.map (cI .u64) x.Code)]
theorem qkr (n:Nat) (x:q0z):q24 n (q0h x):=by
 simp only [q0h,q24,Bel,true_and,and_true]
 exact q4h _ (fun q=>qfq _ .u64 q) _
theorem q1l (x:q0z):(q0h x).length=2:=rfl
instance:qu3 q0h 2:=⟨q1l⟩
instance:BF q0h:=⟨qkr⟩
instance (n:Nat) (x:q0z):BUL n (q0h x):=⟨qkr n x⟩
theorem Tryz.eqs82:Tryz.tb.eqs 82=true:=by kernel_rfl
theorem eqv82 (x y:q1j):eqv Tryz.tb 50 82 (.agg ⟨[.string ⟨⟨x.Name⟩⟩,.int .i64 x.Intro]⟩) (.agg ⟨[.string ⟨⟨y.Name⟩⟩,.int .i64 y.Intro]⟩)=some (qc1 x y):=by
 simp only [eqv,cond_true,cond_false,z2d,qit,q5d,nth,q0x,List.drop,List.take,List.toList_toArray,qc1,ne_eq,String.reduceEq,not_false_eq_true,if_true,und3,und9,und82,eqs82,inf82]
 cases q1k x.Name y.Name<;>cases (x.Intro == y.Intro)<;>rfl
theorem qvy (x y:q1j):g2 (qml Tryz.tb .eql 82) (.agg [.str x.Name,.int .i64 x.Intro]) (.agg [.str y.Name,.int .i64 y.Intro])=some (.bool (qc1 x y)):=by
 simp only [g2,toV,qpb,okL,okC,cond_true,qml,q9v,eqs82,eqv82,ofV]
theorem Tryz.bd24:BdT Tryz.tb 24 [.nils] [(0,1)]:=bdT und24 inf24 rfl (by kernel_rfl)
theorem Tryz.bd43:BdT Tryz.tb 43 [.nils,.nils] [(0,1),(1,1)]:=bdT und43 inf43 rfl (by kernel_rfl)
theorem Tryz.bd54:BdT Tryz.tb 54 [.int .i64 0,.nils] [(0,1),(1,1)]:=bdT und54 inf54 rfl (by kernel_rfl)
theorem Tryz.bd56:BdT Tryz.tb 56 [.nils,.nils] [(0,1),(1,1)]:=bdT und56 inf56 rfl (by kernel_rfl)
theorem Tryz.bd66:BdT Tryz.tb 66 [.int .i64 0,.int .i64 0] [(0,1),(1,1)]:=bdT und66 inf66 rfl (by kernel_rfl)
theorem Tryz.bd82:BdT Tryz.tb 82 [.str [],.int .i64 0] [(0,1),(1,1)]:=bdT und82 inf82 rfl (by kernel_rfl)
theorem Tryz.bd105:BdT Tryz.tb 105 [.str [],.nils] [(0,1),(1,1)]:=bdT und105 inf105 rfl (by kernel_rfl)
theorem Tryz.bd109:BdT Tryz.tb 109 [.str [],.nils,.nils,.nils] [(0,1),(1,1),(2,1),(3,1)]:=bdT und109 inf109 rfl (by kernel_rfl)
theorem Tryz.bd127:BdT Tryz.tb 127 [.str [],.nils,.nils] [(0,1),(1,1),(2,1)]:=bdT und127 inf127 rfl (by kernel_rfl)
theorem Tryz.bd139:BdT Tryz.tb 139 [.nils,.nils,.nils] [(0,1),(1,1),(2,1)]:=bdT und139 inf139 rfl (by kernel_rfl)
theorem Tryz.bd147:BdT Tryz.tb 147 [.int .i64 0,.int .i64 0] [(0,1),(1,1)]:=bdT und147 inf147 rfl (by kernel_rfl)
theorem Tryz.bd162:BdT Tryz.tb 162 [.str [],.str []] [(0,1),(1,1)]:=bdT und162 inf162 rfl (by kernel_rfl)
def qh8  (w13:qfn Int Bool):Option (Int) :=
 some 0
def qar (p1:q0n) (p2:Int):Nat→Int→(qfn Int Bool)→Option (Int)
 | 0,_,_=>none
 | m1+1,z11,w12 =>
  cond (decide (z11<(p1.Arcs.length:Int)))
   (q04 (q0u p1.Arcs z11) fun x15 =>
   q04 (cond (decide (x15.Feat<0))
    (some true)
    (cond (decide (x15.To<0))
     (some true)
     (some (decide (x15.To ≥ p2))))) fun b19 =>
   cond b19
    (some 2)
    (cond ((mGet (fun a b=>a == b) w12 x15.Feat).getD false)
     (some 4)
     ((qar p1 p2 m1) (IntKind.i64.wrap (z11+1)) (mUpd (fun a b=>a == b) w12 x15.Feat true))))
   (qh8 w12)
def qle (n:Nat) (p1:q0n) (p2:Int):Option (Int) :=
 cond (decide (p1.Typex<0))
  (some 2)
  (qar p1 p2 n 0 (mNew:qfn Int Bool))
def qak (z7:Int) (l8:List q12) (rc2:Int→(List q12)→Option ((List q12))) (x13:q12)  : Option ((List q12)) :=
 rc2 (IntKind.i64.wrap (z7+1)) (l8++[x13])
def qaj  (l10:List q12):Option ((List q12)) :=
 some l10
def q59 (p1:List q12):Nat→Int→(List q12)→Option ((List q12))
 | 0,_,_=>none
 | m2+1,z7,l8 =>
  cond (decide (z7<(p1.length:Int)))
   (q04 (q0u p1 z7) fun x13 =>
   q19 ((l8.length+1)*16≤140737488355328∧l8.length+1≤140737488355328) (
   qak z7 l8 (q59 p1 m2) x13))
   (qaj l8)
def qdr (n:Nat) (p1:List q12):Option ((List q12)) :=
 q59 p1 n 0 ([]:List q12)
def qey (n:Nat) (p1:List q12):Option ((List q12)) :=
 q04 (qdr n p1) fun r2 =>
 some r2
def q66 (n:Nat) (p1:List q12):Option ((List q12)) :=
 q04 (qey n p1) fun r2 =>
 q04 (sortO eqA (fun a b=>qlc n a b ) r2) fun r6 =>
 some r6
def q8w (n:Nat) (p1:List q12):Option ((List q12)) :=
 some p1
def q6b (z24:Int) (rc1:Int→(List Int)→(qfn Int Int)→Option ((List Int)×(qfn Int Int))) (l35:List Int) (w37:qfn Int Int):Option ((List Int)×(qfn Int Int)) :=
 rc1 (IntKind.i64.wrap (z24+1)) l35 w37
def qcf  (l28:List Int) (w30:qfn Int Int):Option ((List Int)×(qfn Int Int)) :=
 some (l28,w30)
def q3v (p2:List q0n) (r12:(List q12)) (self:Int→(List q0n)→(List Int)→(qfn Int Int)→Option ((List Int)×(qfn Int Int))):Nat→Int→(List Int)→(qfn Int Int)→Option ((List Int)×(qfn Int Int))
 | 0,_,_,_=>none
 | m1+1,z24,l25,w27 =>
  cond (decide (z24<(r12.length:Int)))
   (q04 (q0u r12 z24) fun x32 =>
   cond (!((mGet (fun a b=>a == b) w27 x32.To).isSome))
    (q04 (self x32.To p2 l25 w27) fun r38 =>
    q6b z24 (q3v p2 r12 self m1) r38.1 r38.2)
    (q6b z24 (q3v p2 r12 self m1) l25 w27))
   (qcf l25 w27)
def qdz (n:Nat) (self:Int→(List q0n)→(List Int)→(qfn Int Int)→Option ((List Int)×(qfn Int Int))) (p1:Int) (p2:List q0n) (p3:List Int) (p5:qfn Int Int):Option ((List Int)×(qfn Int Int)) :=
 q19 ((p3.length+1)*8≤140737488355328∧p3.length+1≤140737488355328) (
 q04 (q0u p2 p1) fun x7 =>
 q04 (q8w n x7.Arcs) fun r9 =>
 q04 (q66 n r9) fun r12 =>
 q3v p2 r12 self n 0 (p3++[p1]) (mUpd (fun a b=>a == b) p5 p1 (p3.length:Int)))
def q8s:Nat→Int→(List q0n)→(List Int)→(qfn Int Int)→Option ((List Int)×(qfn Int Int))
 | 0,_,_,_,_=>none
 | n+1,p1,p2,p3,p5=>qdz n (q8s n) p1 p2 p3 p5
def qh7 (p1:GFS) (r3:(List Int)×(qfn Int Int)) (z14:Int) (l15:List q0n) (rc1:Int→(List q0n)→Option (GFS)) (x19:Int) (l44:List q12):Option (GFS) :=
 q04 (q0u p1.Nodes x19) fun x45 =>
 q04 (qgs l15 0 ((r3.1.length:Int).toNat) z14) fun x47 =>
 rc1 (IntKind.i64.wrap (z14+1)) (l15.set z14.toNat (q0n.mk x45.Typex l44))
def qaq (p1:GFS) (r3:(List Int)×(qfn Int Int)) (z14:Int) (l15:List q0n) (rc1:Int→(List q0n)→Option (GFS)) (x19:Int) (r26:(List q12)):Nat→Int→(List q12)→Option (GFS)
 | 0,_,_=>none
 | m2+1,z42,l43 =>
  cond (decide (z42<(r26.length:Int)))
   (q04 (q0u l43 z42) fun x50 =>
   q04 (q0u l43 z42) fun x52 =>
   (qaq p1 r3 z14 l15 rc1 x19 r26 m2) (IntKind.i64.wrap (z42+1)) (l43.set (0+z42.toNat) (q12.mk x52.Feat ((mGet (fun a b=>a == b) r3.2 x50.To).getD 0))))
   (qh7 p1 r3 z14 l15 rc1 x19 l43)
def qh6 (r3:(List Int)×(qfn Int Int)) (l16:List q0n):Option (GFS) :=
 q19 ((r3.1.length:Int).toNat=l16.length) (
 some (GFS.mk l16))
def qap (p1:GFS) (n:Nat) (r3:(List Int)×(qfn Int Int)):Nat→Int→(List q0n)→Option (GFS)
 | 0,_,_=>none
 | m1+1,z14,l15 =>
  cond (decide (z14<(r3.1.length:Int)))
   (q04 (q0u r3.1 z14) fun x19 =>
   q04 (q0u p1.Nodes x19) fun x21 =>
   q04 (q8w n x21.Arcs) fun r23 =>
   q04 (q66 n r23) fun r26 =>
   qaq p1 r3 z14 l15 (qap p1 n r3 m1) x19 r26 n 0 r26)
   (qh6 r3 l15)
def qld (n:Nat) (p1:GFS) (p2:Int):Option (GFS) :=
 q04 (q8s n p2 p1.Nodes ([]:List Int) (mNew:qfn Int Int)) fun r3 =>
 q19 (0≤(r3.1.length:Int)∧32*(r3.1.length:Int).toNat≤281474976710656∧(r3.1.length:Int)≤281474976710656) (
 qap p1 n r3 n 0 (List.replicate (r3.1.length:Int).toNat (q0n.mk 0 [])))
def qmn (p1:GFS) (n:Nat)  : Option (GFS×Int) :=
 q04 (qld n p1 0) fun r9 =>
 some (r9,0)
def qmo (p1:GFS) (n:Nat):Nat→Int→Option (GFS×Int)
 | 0,_=>none
 | m1+1,z8 =>
  cond (decide (z8<(p1.Nodes.length:Int)))
   (q04 (q0u p1.Nodes z8) fun x12 =>
   q04 (qle n x12 (p1.Nodes.length:Int)) fun r14 =>
   cond (r14 != 0)
    (some ((GFS.mk []),r14))
    ((qmo p1 n m1) (IntKind.i64.wrap (z8+1))))
   (qmn p1 n)
def q9m (z6:Int) (rc1:Int→Option (Int))  : Option (Int) :=
 rc1 (IntKind.i64.wrap (z6+1))
def q54 (p1:List q12) (z6:Int) (rc1:Int→Option (Int)):Nat→Int→Option (Int)
 | 0,_=>none
 | m2+1,z23 =>
  cond (decide (z23<z6))
   (q04 (q0u p1 z23) fun x25 =>
   q04 (q0u p1 z6) fun x27 =>
   cond (x25.Feat == x27.Feat)
    (some 4)
    ((q54 p1 z6 rc1 m2) (IntKind.i64.wrap (z23+1))))
   (q9m z6 rc1)
def q9l   : Option (Int) :=
 some 0
def q2s (p1:List q12) (p2:Int) (n:Nat):Nat→Int→Option (Int)
 | 0,_=>none
 | m1+1,z6 =>
  cond (decide (z6<(p1.length:Int)))
   (q04 (q04 (q0u p1 z6) fun x8 =>
   cond (decide (x8.Feat<0))
    (some true)
    (q04 (q0u p1 z6) fun x11 =>
    cond (decide (x11.To<0))
     (some true)
     (q04 (q0u p1 z6) fun x14 =>
     some (decide (x14.To ≥ p2))))) fun b16 =>
   cond b16
    (some 2)
    (q54 p1 z6 (q2s p1 p2 n m1) n 0))
   (q9l)
def qfa (n:Nat) (p1:List q12) (p2:Int):Option (Int) :=
 q2s p1 p2 n n 0
theorem qqo (n:Nat) (p1:List q12) (p2:Int) (r:Int) (hF:qfa n p1 p2=some r):EvU Tryz.prog 87 [.isl false (List.map q0e p1),.int .i64 p2] ⟨[],0⟩ (fun u _=>u = .int .i64 r∧Bel 0 u):=by
 unfold qfa at hF
 refine bg2 52 fn87 ?_
 refine go ?_
 refine gS (l':=[(0,_),(1,_),(5,_)]) ?_
 refine z3e (fun m tm σ=>∃ z6:Int,q2s p1 p2 n m z6=some r∧tm=fr 52 [(0,.iM q0e p1),(1,.i6 p2),(5,.i6 z6)]∧σ=⟨[],0⟩) (fun tm σ=>q9l=some r∧tm=fr 52 []∧σ=⟨[],0⟩) n ⟨0,hF,rfl,rfl⟩ ?_ ?_
 rintro _ _ ⟨hF,rfl,rfl⟩
 unfold q9l at hF
 exact gx hF
 rintro (_|m1) _ _ ⟨z6,hF,rfl,rfl⟩
 cases hF
 unfold q2s at hF
 refine go ?_
 refine RS.q rfl (q0a rfl rfl rfl (q07 q0e und52)) ?_
 refine go ?_
 refine cF hF (fun h7 hF=>?_) (fun h7 hF=>?_)
 refine go ?_
 refine WPU.block ?_
 obtain ⟨b16,h17,hF⟩:=q00 hF
 refine gn ?_
 refine z3f (fun tm σ=>tm=fr 52 [(0,.iM q0e p1),(1,.i6 p2),(5,.i6 z6),(35,.bool b16)]∧σ=⟨[],0⟩) ?_ ?_
 rintro _ _ ⟨rfl,rfl⟩
 refine go ?_
 refine cF hF (fun h18 hF=>?_) (fun h18 hF=>?_)
 exact gx hF
 refine go ?_
 refine gS (l':=[(0,_),(1,_),(5,_),(6,_)]) ?_
 refine z3e (fun m tm σ=>∃ z23:Int,q54 p1 z6 (q2s p1 p2 n m1) m z23=some r∧tm=fr 52 [(0,.iM q0e p1),(1,.i6 p2),(5,.i6 z6),(6,.i6 z23)]∧σ=⟨[],0⟩) (fun tm σ=>q9m z6 (q2s p1 p2 n m1)=some r∧tm=fr 52 [(0,.iM q0e p1),(1,.i6 p2),(5,.i6 z6)]∧σ=⟨[],0⟩) n ⟨0,hF,rfl,rfl⟩ ?_ ?_
 rintro _ _ ⟨hF,rfl,rfl⟩
 unfold q9m at hF
 refine go ?_
 exact lC ⟨_,hF,rfl,rfl⟩
 rintro (_|m2) _ _ ⟨z23,hF,rfl,rfl⟩
 cases hF
 unfold q54 at hF
 refine go ?_
 refine cF hF (fun h24 hF=>?_) (fun h24 hF=>?_)
 refine go ?_
 refine WPU.block ?_
 obtain ⟨x25,h26,hF⟩:=q00 hF
 obtain ⟨x27,h28,hF⟩:=q00 hF
 refine go ?_
 refine z3g Tryz.tb_ok [] (by kernel_rfl) ?_
 repeat refine RD.mv rfl rfl rfl rfl ?_
 refine RD.q rfl (q0i rfl rfl (q09 q0e und52 (q03 inf66) q0t h26 rfl)) (RD.q rfl (q1q und66 rfl (q03 inf3) rfl rfl) (RD.q rfl (q0c und3 rfl rfl rfl) ?_))
 repeat refine RD.mv rfl rfl rfl rfl ?_
 refine RD.q rfl (q0i rfl rfl (q09 q0e und52 (q03 inf66) q0t h28 rfl)) (RD.q rfl (q1q und66 rfl (q03 inf3) rfl rfl) (RD.q rfl (q0c und3 rfl rfl rfl) (RD.q rfl (q2y rfl rfl (z1a _ _ _) rfl) ?_)))
 refine RD.done ⟨by kernel_rfl,trivial,?_⟩
 refine go ?_
 refine cF hF (fun h29 hF=>?_) (fun h29 hF=>?_)
 exact gx hF
 refine go ?_
 exact lC ⟨_,hF,rfl,rfl⟩
 refine go ?_
 exact xC ⟨hF,rfl,rfl⟩
 obtain ⟨x8,h9,h17⟩:=q00 h17
 rcases gB h17 with ⟨h10,h17⟩ | ⟨h10,h17⟩
 obtain rfl:=sI h17
 refine go ?_
 refine RS.q rfl (q0i rfl rfl (q09 q0e und52 (q03 inf66) q0t h9 rfl)) (RS.q rfl (q1q und66 rfl (q03 inf3) rfl rfl) (RS.q rfl (q0c und3 rfl rfl rfl) ?_))
 refine go ?_
 exact xC ⟨rfl,rfl⟩
 obtain ⟨x11,h12,h17⟩:=q00 h17
 rcases gB h17 with ⟨h13,h17⟩ | ⟨h13,h17⟩
 obtain rfl:=sI h17
 refine go ?_
 refine RS.q rfl (q0i rfl rfl (q09 q0e und52 (q03 inf66) q0t h9 rfl)) (RS.q rfl (q1q und66 rfl (q03 inf3) rfl rfl) (RS.q rfl (q0c und3 rfl rfl rfl) ?_))
 refine go ?_
 refine RS.w rfl (q0i rfl rfl (q09 q0e und52 (q03 inf66) q0t h12 rfl)) (RS.w rfl (q1q und66 rfl (q03 inf3) rfl rfl) (RS.w rfl (q0c und3 rfl rfl rfl) ?_))
 refine go ?_
 exact xC ⟨rfl,rfl⟩
 obtain ⟨x14,h15,h17⟩:=q00 h17
 obtain rfl:=sI h17
 refine go ?_
 refine RS.q rfl (q0i rfl rfl (q09 q0e und52 (q03 inf66) q0t h9 rfl)) (RS.q rfl (q1q und66 rfl (q03 inf3) rfl rfl) (RS.q rfl (q0c und3 rfl rfl rfl) ?_))
 refine go ?_
 refine RS.w rfl (q0i rfl rfl (q09 q0e und52 (q03 inf66) q0t h12 rfl)) (RS.w rfl (q1q und66 rfl (q03 inf3) rfl rfl) (RS.w rfl (q0c und3 rfl rfl rfl) ?_))
 refine go ?_
 refine RS.w rfl (q0i rfl rfl (q09 q0e und52 (q03 inf66) q0t h15 rfl)) (RS.w rfl (q1q und66 rfl (q03 inf3) rfl rfl) (RS.w rfl (q0c und3 rfl rfl rfl) ?_))
 refine go ?_
 exact xC ⟨rfl,rfl⟩
 refine go ?_
 exact xC ⟨hF,rfl,rfl⟩
def q9n   : Option (Int) :=
 some 0
def q55 (p1:GFS) (n:Nat):Nat→Int→Option (Int)
 | 0,_=>none
 | m1+1,z6 =>
  cond (decide (z6<(p1.Nodes.length:Int)))
   (q04 (q0u p1.Nodes z6) fun x8 =>
   cond (decide (x8.Typex<0))
    (some 2)
    (q04 (q0u p1.Nodes z6) fun x11 =>
    q04 (qfa n x11.Arcs (p1.Nodes.length:Int)) fun r13 =>
    cond (r13 != 0)
     (some r13)
     ((q55 p1 n m1) (IntKind.i64.wrap (z6+1)))))
   (q9n)
def qca (n:Nat) (p1:GFS):Option (Int) :=
 cond ((p1.Nodes.length:Int) == 0)
  (some 1)
  (cond (decide ((p1.Nodes.length:Int) > 4096))
   (some 7)
   (q55 p1 n n 0))
theorem qqp (n:Nat) (p1:GFS) (r:Int) (hF:qca n p1=some r):EvU Tryz.prog 67 [.agg [.isl false (List.map q01 p1.Nodes)]] ⟨[],0⟩ (fun u _=>u = .int .i64 r∧Bel 0 u):=by
 unfold qca at hF
 refine bg1 40 fn67 ?_
 refine go ?_
 refine RS.q (u:=.ptr 0 0 0) (σ':=⟨[(0,.row [.iM q01 p1.Nodes] 24)],1⟩) rfl (q3u rfl rfl rfl) ?_
 refine go ?_
 refine RS.q rfl (q0y und24 rfl (q03 inf22) rfl rfl rfl) (RS.q rfl (q0m und22 rfl rfl rfl rfl) (RS.q rfl (q0a rfl rfl rfl (q07 q01 und22)) ?_))
 refine go ?_
 refine cF hF (fun h2 hF=>?_) (fun h2 hF=>?_)
 exact gx hF
 refine go ?_
 refine RS.q rfl (q0y und24 rfl (q03 inf22) rfl rfl rfl) (RS.q rfl (q0m und22 rfl rfl rfl rfl) (RS.q rfl (q0a rfl rfl rfl (q07 q01 und22)) ?_))
 refine go ?_
 refine cF hF (fun h3 hF=>?_) (fun h3 hF=>?_)
 exact gx hF
 refine go ?_
 refine gS (l':=[(1,_),(3,_)]) ?_
 refine z3e (fun m tm σ=>∃ z6:Int,q55 p1 n m z6=some r∧tm=fr 40 [(1,.ptr 0 0 0),(3,.i6 z6)]∧σ=⟨[(0,.row [.iM q01 p1.Nodes] 24)],1⟩) (fun tm σ=>q9n=some r∧tm=fr 40 []∧σ=⟨[(0,.row [.iM q01 p1.Nodes] 24)],1⟩) n ⟨0,hF,rfl,rfl⟩ ?_ ?_
 rintro _ _ ⟨hF,rfl,rfl⟩
 unfold q9n at hF
 exact gx hF
 rintro (_|m1) _ _ ⟨z6,hF,rfl,rfl⟩
 cases hF
 unfold q55 at hF
 refine go ?_
 refine RS.q rfl (q0y und24 rfl (q03 inf22) rfl rfl rfl) (RS.q rfl (q0m und22 rfl rfl rfl rfl) (RS.q rfl (q0a rfl rfl rfl (q07 q01 und22)) ?_))
 refine go ?_
 refine cF hF (fun h7 hF=>?_) (fun h7 hF=>?_)
 refine go ?_
 refine WPU.block ?_
 obtain ⟨x8,h9,hF⟩:=q00 hF
 refine go ?_
 refine RS.q rfl (q0y und24 rfl (q03 inf22) rfl rfl rfl) (RS.q rfl (q0m und22 rfl rfl rfl rfl) ?_)
 refine go ?_
 refine RS.q rfl (q0i rfl rfl (q09 q01 und22 (q03 inf54) q1p h9 rfl)) (RS.q rfl (q1q und54 rfl (q03 inf3) rfl rfl) (RS.q rfl (q0c und3 rfl rfl rfl) ?_))
 refine go ?_
 refine cF hF (fun h10 hF=>?_) (fun h10 hF=>?_)
 exact gx hF
 obtain ⟨x11,h12,hF⟩:=q00 hF
 obtain ⟨r13,h14,hF⟩:=q00 hF
 refine go ?_
 refine z3g Tryz.tb_ok [] (by kernel_rfl) ?_
 refine RD.q rfl (q0y und24 rfl (q03 inf22) rfl rfl rfl) (RD.q rfl (q0m und22 rfl rfl rfl rfl) (RD.mv rfl rfl rfl rfl (RD.q rfl (q0i rfl rfl (q09 q01 und22 (q03 inf54) q1p h12 rfl)) (RD.q rfl (q1q und54 rfl (q03 inf52) rfl rfl) (RD.q rfl (q0c und52 rfl rfl rfl) (RD.q rfl (q0y und24 rfl (q03 inf22) rfl rfl rfl) (RD.q rfl (q0m und22 rfl rfl rfl rfl) ?_)))))))
 refine RD.q rfl (q0a rfl rfl rfl (q07 q01 und22)) (RD.fl rfl (pC (qqo n x11.Arcs (p1.Nodes.length:Int) r13 h14)) fn87 (RD.as rfl rfl rfl rfl ?_))
 refine RD.done ⟨by kernel_rfl,trivial,?_⟩
 refine go ?_
 refine cF hF (fun h15 hF=>?_) (fun h15 hF=>?_)
 exact gx hF
 refine go ?_
 exact lC ⟨_,hF,rfl,rfl⟩
 refine go ?_
 exact xC ⟨hF,rfl,rfl⟩
def q3r (p1:List q12) (z6:Int) (l7:List q12) (rc1:Int→(List q12)→Option ((List q12))) (z18:Int):Option ((List q12)) :=
 q19 ((0:Int)≤z18∧z18≤((l7.length:Nat):Int)) (
 q19 (0+z18.toNat≤l7.length) (
 q19 (((l7.drop 0).take z18.toNat).length*16≤140737488355328∧((l7.drop 0).take z18.toNat).length≤140737488355328) (
 q04 (q0u p1 z6) fun x22 =>
 q19 ((((l7.drop 0).take z18.toNat).length+1)*16≤140737488355328∧((l7.drop 0).take z18.toNat).length+1≤140737488355328) (
 q19 ((0:Int)≤z18∧z18≤((l7.length:Nat):Int)) (
 q19 ((0+z18.toNat)+(l7.length - z18.toNat)≤l7.length) (
 q19 (((((l7.drop 0).take z18.toNat)++[x22]).length+((l7.drop (0+z18.toNat)).take (l7.length - z18.toNat)).length)*16≤140737488355328∧(((l7.drop 0).take z18.toNat)++[x22]).length+((l7.drop (0+z18.toNat)).take (l7.length - z18.toNat)).length≤140737488355328) (
 rc1 (IntKind.i64.wrap (z6+1)) ((((l7.drop 0).take z18.toNat)++[x22])++((l7.drop (0+z18.toNat)).take (l7.length - z18.toNat))))))))))
def q3s (p1:List q12) (z6:Int) (l7:List q12) (rc1:Int→(List q12)→Option ((List q12))):Nat→Int→Option ((List q12))
 | 0,_=>none
 | m2+1,z17 =>
  q04 (cond (decide (z17 > 0))
   (q04 (q0u l7 (IntKind.i64.wrap (z17 - 1))) fun x29 =>
   q04 (q0u p1 z6) fun x31 =>
   some (decide (x29.Feat > x31.Feat)))
   (some false)) fun b33 =>
  cond b33
   ((q3s p1 z6 l7 rc1 m2) (IntKind.i64.wrap (z17 - 1)))
   (q3r p1 z6 l7 rc1 z17)
def q6w  (l9:List q12):Option ((List q12)) :=
 some l9
def q2a (p1:List q12) (n:Nat):Nat→Int→(List q12)→Option ((List q12))
 | 0,_,_=>none
 | m1+1,z6,l7 =>
  cond (decide (z6<(p1.length:Int)))
   (q3s p1 z6 l7 (q2a p1 n m1) n (l7.length:Int))
   (q6w l7)
def q8h (n:Nat) (p1:List q12):Option ((List q12)) :=
 q2a p1 n n 0 ([]:List q12)
theorem qft (n:Nat) (p1:List q12) (r:(List q12)) (hF:q8h n p1=some r):EvU Tryz.prog 89 [.isl false (List.map q0e p1)] ⟨[],0⟩ (fun u σ'=>∃ t,u = .vl 0 t 0 r.length∧σ'=⟨[(0,.vec (List.map q0e r).flatten 66 2 t)],0+1⟩):=by
 unfold q8h at hF
 refine bg1 52 fn89 ?_
 refine gr ?_
 refine gr ?_
 refine gr ?_
 refine WPU.ghost (tm':=fr 52 [(0,.iM q0e p1),(3,.vl 0 0 0 (([]:List q12).length)),(4,.i6 0)]) (σ':=⟨[(0,.vec (List.map q0e ([]:List q12)).flatten 66 2 0)],1⟩) (Gh.trans (z3k 3 66 2 (by decide) NZ rfl rfl) (z3j ⟨rfl,rfl,rfl,trivial⟩ rfl)) NZ ?_
 refine gS (l':=[(0,_),(3,_),(4,_)]) ?_
 refine z3e (fun m tm σ=>∃ z6:Int,∃ l7:List q12,∃ t8:Nat,q2a p1 n m z6 l7=some r∧tm=fr 52 [(0,.iM q0e p1),(3,.vl 0 t8 0 l7.length),(4,.i6 z6)]∧σ=⟨[(0,.vec (List.map q0e l7).flatten 66 2 t8)],1⟩) (fun tm σ=>∃ l9:List q12,∃ t10:Nat,q6w l9=some r∧tm=fr 52 [(3,.vl 0 t10 0 l9.length)]∧σ=⟨[(0,.vec (List.map q0e l9).flatten 66 2 t10)],1⟩) n ⟨0,([]:List q12),0,hF,rfl,rfl⟩ ?_ ?_
 rintro _ _ ⟨l9,t10,hF,rfl,rfl⟩
 unfold q6w at hF
 refine go ?_
 obtain rfl:=sI hF
 exact ⟨.inr rfl,[.vl 0 t10 0 l9.length],q2o rfl q3b,.vl 0 t10 0 l9.length,⟨[(0,.vec (List.map q0e l9).flatten 66 2 t10)],1⟩,NZ,Gh.trans (Gh.only (fun k=>Nat.beq k 0)) (Gh.to (n1:=1) [] rfl rfl NZ NL BUL.h BH.h),t10,rfl,rfl⟩
 rintro (_|m1) _ _ ⟨z6,l7,t8,hF,rfl,rfl⟩
 cases hF
 unfold q2a at hF
 refine go ?_
 refine RS.q rfl (q0a rfl rfl rfl (q07 q0e und52)) ?_
 refine go ?_
 refine cF hF (fun h11 hF=>?_) (fun h11 hF=>?_)
 refine go ?_
 refine WPU.block ?_
 refine go ?_
 refine RS.q rfl (q0a rfl rfl rfl (q9y und52 rfl)) ?_
 refine go ?_
 refine gS (l':=[(0,_),(3,_),(4,_),(5,_)]) ?_
 refine z3e (fun m tm σ=>∃ z17:Int,q3s p1 z6 l7 (q2a p1 n m1) m z17=some r∧tm=fr 52 [(0,.iM q0e p1),(3,.vl 0 t8 0 l7.length),(4,.i6 z6),(5,.i6 z17)]∧σ=⟨[(0,.vec (List.map q0e l7).flatten 66 2 t8)],1⟩) (fun tm σ=>∃ z18:Int,q3r p1 z6 l7 (q2a p1 n m1) z18=some r∧tm=fr 52 [(0,.iM q0e p1),(3,.vl 0 t8 0 l7.length),(4,.i6 z6),(5,.i6 z18)]∧σ=⟨[(0,.vec (List.map q0e l7).flatten 66 2 t8)],1⟩) n ⟨(l7.length:Int),hF,rfl,rfl⟩ ?_ ?_
 rintro _ _ ⟨z18,hF,rfl,rfl⟩
 unfold q3r at hF
 obtain ⟨h19,hF⟩:=q0b hF
 obtain ⟨h20,hF⟩:=q0b hF
 obtain ⟨h21,hF⟩:=q0b hF
 refine go ?_
 refine RS.q (u:=.vl 0 t8 0 z18.toNat) rfl (qau rfl qr3 (z0l rfl) qr3 (z02 q0e und52 (q03 inf66) q0t (vo rfl) (Nat.le_of_eq (Nat.zero_add _)) (qvi h19.1 h19.2))) (RS.q (u:=.vl 1 0 0 (((l7.drop 0).take z18.toNat).length)) (σ':=⟨[(1,.vec (List.map q0e ((l7.drop 0).take z18.toNat)).flatten 66 2 0),(0,.vec (List.map q0e l7).flatten 66 2 t8)],2⟩) rfl (q1n rfl rfl rfl rfl (qrb q0e ((l7.drop 0).take z18.toNat) und52 und52 inf66 rfl (qtv q0e q0t (vo rfl) h20) h21)) ?_)
 obtain ⟨x22,h23,hF⟩:=q00 hF
 obtain ⟨h24,hF⟩:=q0b hF
 refine go ?_
 refine RS.q rfl (q0i rfl rfl (q09 q0e und52 (q03 inf66) q0t h23 rfl)) (RS.q (u:=.agg (q0e x22)) rfl (q8u und66 rfl (q03 inf66) rfl rfl) (RS.q (u:=.sl 2 0 1 1) (σ':=⟨[(2,.row (q0e x22) 66),(1,.vec (List.map q0e ((l7.drop 0).take z18.toNat)).flatten 66 2 0),(0,.vec (List.map q0e l7).flatten 66 2 t8)],3⟩) rfl (q0j und52 inf66 rfl rfl rfl rfl rfl rfl rfl) (RS.q (u:=.vl 1 1 0 ((((l7.drop 0).take z18.toNat)++[x22]).length)) (σ':=⟨[(2,.row (q0e x22) 66),(1,.vec (List.map q0e (((l7.drop 0).take z18.toNat)++[x22])).flatten 66 2 1),(0,.vec (List.map q0e l7).flatten 66 2 t8)],3⟩) rfl (q1n rfl rfl rfl rfl (q23 q0e ([x22]) und52 und52 inf66 rfl q0t rfl (q1m q0e [x22] rfl rfl rfl rfl) h24)) ?_)))
 obtain ⟨h25,hF⟩:=q0b hF
 obtain ⟨h26,hF⟩:=q0b hF
 obtain ⟨h27,hF⟩:=q0b hF
 refine go ?_
 refine RS.q (u:=.vl 0 t8 (0+z18.toNat) (l7.length - z18.toNat)) rfl (qau rfl (z0l rfl) qr3 qr3 (z02 q0e und52 (q03 inf66) q0t (vo rfl) (Nat.le_of_eq (Nat.zero_add _)) (qvj h25.1 h25.2))) (RS.q (u:=.vl 1 2 0 (((((l7.drop 0).take z18.toNat)++[x22])++((l7.drop (0+z18.toNat)).take (l7.length - z18.toNat))).length)) (σ':=⟨[(2,.row (q0e x22) 66),(1,.vec (List.map q0e ((((l7.drop 0).take z18.toNat)++[x22])++((l7.drop (0+z18.toNat)).take (l7.length - z18.toNat)))).flatten 66 2 2),(0,.vec (List.map q0e l7).flatten 66 2 t8)],3⟩) rfl (q1n rfl rfl rfl rfl (q23 q0e ((l7.drop (0+z18.toNat)).take (l7.length - z18.toNat)) und52 und52 inf66 rfl q0t rfl (qtv q0e q0t (vo rfl) h26) h27)) ?_)
 refine go ?_
 exact ⟨m1,_,_,Nat.lt_succ_self _,⟨(IntKind.i64.wrap (z6+1)),((((l7.drop 0).take z18.toNat)++[x22])++((l7.drop (0+z18.toNat)).take (l7.length - z18.toNat))),2,hF,rfl,rfl⟩,NZ,Gh.trans (Gh.sub (l':=[(0,.iM q0e p1),(3,.vl 1 2 0 (((((l7.drop 0).take z18.toNat)++[x22])++((l7.drop (0+z18.toNat)).take (l7.length - z18.toNat))).length)),(4,.i6 (IntKind.i64.wrap (z6+1)))]) ⟨rfl,rfl,rfl,trivial⟩) (Gh.trans (Gh.mv (l':=[(0,.iM q0e p1),(3,.vl 0 2 0 (((((l7.drop 0).take z18.toNat)++[x22])++((l7.drop (0+z18.toNat)).take (l7.length - z18.toNat))).length)),(4,.i6 (IntKind.i64.wrap (z6+1)))]) (h':=[(2,.row (q0e x22) 66),(0,.vec (List.map q0e ((((l7.drop 0).take z18.toNat)++[x22])++((l7.drop (0+z18.toNat)).take (l7.length - z18.toNat)))).flatten 66 2 2)]) 0 1 NZ rfl rfl (by simp only [rS,rU,rUL,qei,mvN,Nat.beq,cond_true,cond_false]) rfl (by simp only [avH,rB,qnq,rUL,rU,qei,qtf,mvN,Nat.beq,cond_true,cond_false,and_self])) (Gh.toC (n1:=1) ⟨rfl,rfl,rfl,trivial⟩ rfl NZ (by simp)))⟩
 rintro (_|m2) _ _ ⟨z17,hF,rfl,rfl⟩
 cases hF
 unfold q3s at hF
 obtain ⟨b33,h34,hF⟩:=q00 hF
 refine gn ?_
 refine z3f (fun tm σ=>tm=fr 52 [(0,.iM q0e p1),(3,.vl 0 t8 0 l7.length),(4,.i6 z6),(5,.i6 z17),(30,.bool b33)]∧σ=⟨[(0,.vec (List.map q0e l7).flatten 66 2 t8)],1⟩) ?_ ?_
 rintro _ _ ⟨rfl,rfl⟩
 refine go ?_
 refine cF hF (fun h35 hF=>?_) (fun h35 hF=>?_)
 refine go ?_
 refine WPU.block ?_
 refine go ?_
 exact lC ⟨_,hF,rfl,rfl⟩
 refine go ?_
 exact xC ⟨z17,hF,rfl,rfl⟩
 rcases gB h34 with ⟨h28,h34⟩ | ⟨h28,h34⟩
 obtain ⟨x29,h30,h34⟩:=q00 h34
 obtain ⟨x31,h32,h34⟩:=q00 h34
 obtain rfl:=sI h34
 refine z3g Tryz.tb_ok [] (by kernel_rfl) ?_
 refine RD.mv rfl rfl rfl rfl (RD.q rfl (q2y rfl rfl (qli _ _ _) rfl) (RD.mv rfl rfl rfl rfl (RD.w rfl (q1w rfl) (RD.w rfl (q1w rfl) (RD.w rfl (q2y rfl rfl (qwm _ _ _) rfl) ?_)))))
 refine RD.w rfl (q0i rfl rfl (qai q0e und52 (q03 inf66) (by decide) q0t (vo rfl) h30)) ?_
 refine RD.w rfl (q0y und66 rfl (q03 inf3) rfl (qq5 rfl) rfl) (RD.w (u:=.i6 x29.Feat) rfl (qzj q0e und3 rfl q0t rfl rfl (qni h30) rfl) (RD.w rfl (q1w rfl) (RD.w rfl (q1w rfl) (RD.w rfl (q0i rfl rfl (q09 q0e und52 (q03 inf66) q0t h32 rfl)) (RD.w rfl (q1q und66 rfl (q03 inf3) rfl rfl) (RD.w rfl (q0c und3 rfl rfl rfl) (RD.w rfl (q2y rfl rfl (qli _ _ _) rfl) ?_)))))))
 refine RD.q rfl (qhm rfl h28 rfl) ?_
 refine RD.done ⟨by kernel_rfl,trivial,?_⟩
 refine go ?_
 exact xC ⟨rfl,rfl⟩
 obtain rfl:=sI h34
 refine z3g Tryz.tb_ok [] (by kernel_rfl) ?_
 refine RD.mv rfl rfl rfl rfl (RD.q rfl (q2y rfl rfl (qli _ _ _) rfl) (RD.mv rfl rfl rfl rfl ?_))
 repeat refine RD.no (qv2 rfl rfl rfl h28) rfl rfl ?_
 refine RD.q rfl (qhl rfl h28 rfl) ?_
 refine RD.done ⟨by kernel_rfl,trivial,?_⟩
 refine go ?_
 exact xC ⟨rfl,rfl⟩
 refine go ?_
 exact xC ⟨l7,t8,hF,rfl,rfl⟩
def q1u (z23:Int) (rc1:Int→(List Int)→(List Int)→Option ((List Int)×(List Int))) (l36:List Int) (l37:List Int):Option ((List Int)×(List Int)) :=
 rc1 (IntKind.i64.wrap (z23+1)) l36 l37
def q38  (l27:List Int) (l28:List Int):Option ((List Int)×(List Int)) :=
 some (l27,l28)
def q1c (p2:List q0n) (r12:List q12) (self:Int→(List q0n)→(List Int)→(List Int)→Option ((List Int)×(List Int))):Nat→Int→(List Int)→(List Int)→Option ((List Int)×(List Int))
 | 0,_,_,_=>none
 | m1+1,z23,l24,l25 =>
  cond (decide (z23<(r12.length:Int)))
   (q04 (q0u r12 z23) fun x31 =>
   q04 (q0u l24 x31.To) fun x33 =>
   cond (decide (x33<0))
    (q04 (q0u r12 z23) fun x39 =>
    q04 (self x39.To p2 l24 l25) fun r41 =>
    q1u z23 (q1c p2 r12 self m1) r41.1 r41.2)
    (q1u z23 (q1c p2 r12 self m1) l24 l25))
   (q38 l24 l25)
def q3i (n:Nat) (self:Int→(List q0n)→(List Int)→(List Int)→Option ((List Int)×(List Int))) (p1:Int) (p2:List q0n) (p3:List Int) (p5:List Int):Option ((List Int)×(List Int)) :=
 q04 (q0u p3 p1) fun x7 =>
 q19 ((p5.length+1)*8≤140737488355328∧p5.length+1≤140737488355328) (
 q04 (q0u p2 p1) fun x10 =>
 q04 (q8h n x10.Arcs) fun r12 =>
 q1c p2 r12 self n 0 (p3.set (0+p1.toNat) (p5.length:Int)) (p5++[p1]))
def q1g:Nat→Int→(List q0n)→(List Int)→(List Int)→Option ((List Int)×(List Int))
 | 0,_,_,_,_=>none
 | n+1,p1,p2,p3,p5=>q3i n (q1g n) p1 p2 p3 p5
theorem q8i:∀ (n:Nat) (p1:Int) (p2:List q0n) (p3:List Int) (p5:List Int) (r:(List Int)×(List Int)),q1g n p1 p2 p3 p5=some r→∀ t4 t6:Nat,EvU Tryz.prog 88 [.ptr 0 0 0,.int .i64 p1] ⟨[(0,.row [.isl false (List.map q01 p2),.vl 1 t4 0 p3.length,.vl 2 t6 0 p5.length] 139),(1,.vec (List.map (cI .i64) p3).flatten 3 1 t4),(2,.vec (List.map (cI .i64) p5).flatten 3 1 t6)],3⟩ (fun u σ'=>∃ t:Nat→Nat,u = .tup []∧σ'=⟨[(0,.row [.isl false (List.map q01 p2),.vl 1 t4 0 r.1.length,.vl 2 (t 0) 0 r.2.length] 139),(1,.vec (List.map (cI .i64) r.1).flatten 3 1 t4),(2,.vec (List.map (cI .i64) r.2).flatten 3 1 (t 0))],3⟩)
 | 0,p1,p2,p3,p5,r,hF=>by cases hF
 | n+1,p1,p2,p3,p5,r,hF=>by
  have ih:=q8i n
  unfold q1g q3i at hF
  intro t4 t6
  refine bg2 62 fn88 ?_
  obtain ⟨x7,h8,hF⟩:=q00 hF
  refine gn ?_
  refine z3f (fun tm σ=>tm=fr 62 [(0,.ptr 0 0 0),(1,.i6 p1)]∧σ=⟨[(0,.row [.iM q01 p2,.vl 1 t4 0 ((p3.set (0+p1.toNat) (p5.length:Int)).length),.vl 2 t6 0 p5.length] 139),(1,.vec (List.map (cI .i64) (p3.set (0+p1.toNat) (p5.length:Int))).flatten 3 1 t4),(2,.vec (List.map (cI .i64) p5).flatten 3 1 t6)],3⟩) ?_ ?_
  rintro _ _ ⟨rfl,rfl⟩
  obtain ⟨h9,hF⟩:=q0b hF
  refine go ?_
  refine RS.q (u:=.ptr 0 0 0) rfl (qdw rfl rfl) (RS.q rfl (q0y und139 rfl (q03 inf33) rfl rfl rfl) (RS.q rfl (q0m und33 rfl rfl rfl rfl) ?_))
  refine go ?_
  refine RS.q (u:=.sl 3 0 1 1) (σ':=⟨[(3,.row [.i6 p1] 3),(0,.row [.iM q01 p2,.vl 1 t4 0 ((p3.set (0+p1.toNat) (p5.length:Int)).length),.vl 2 t6 0 p5.length] 139),(1,.vec (List.map (cI .i64) (p3.set (0+p1.toNat) (p5.length:Int))).flatten 3 1 t4),(2,.vec (List.map (cI .i64) p5).flatten 3 1 t6)],4⟩) rfl (q0j und33 inf3 rfl rfl rfl rfl rfl rfl rfl) (RS.q (u:=.vl 2 (t6+1) 0 ((p5++[p1]).length)) (σ':=⟨[(3,.row [.i6 p1] 3),(0,.row [.iM q01 p2,.vl 1 t4 0 ((p3.set (0+p1.toNat) (p5.length:Int)).length),.vl 2 t6 0 p5.length] 139),(1,.vec (List.map (cI .i64) (p3.set (0+p1.toNat) (p5.length:Int))).flatten 3 1 t4),(2,.vec (List.map (cI .i64) (p5++[p1])).flatten 3 1 (t6+1))],4⟩) rfl (q1n rfl rfl rfl rfl (q23 (cI .i64) ([p1]) und33 und33 inf3 rfl (q18 .i64) rfl (q1m (cI .i64) [p1] rfl rfl rfl rfl) h9)) (RS.q (u:=.ptr 0 0 0) rfl (qdw rfl rfl) (RS.q rfl (q0y und139 rfl (q03 inf33) rfl rfl rfl) ?_)))
  refine z3i (u:=.junk) (σ':=⟨[(3,.row [.i6 p1] 3),(0,.row [.iM q01 p2,.vl 1 t4 0 ((p3.set (0+p1.toNat) (p5.length:Int)).length),.vl 2 (t6+1) 0 ((p5++[p1]).length)] 139),(1,.vec (List.map (cI .i64) (p3.set (0+p1.toNat) (p5.length:Int))).flatten 3 1 t4),(2,.vec (List.map (cI .i64) (p5++[p1])).flatten 3 1 (t6+1))],4⟩) rfl (q0r (q03 inf33) rfl rfl rfl rfl rfl rfl rfl rfl) rfl ?_
  obtain ⟨x10,h11,hF⟩:=q00 hF
  obtain ⟨r12,h13,hF⟩:=q00 hF
  refine go ?_
  refine RS.q (u:=.ptr 0 0 0) rfl (qdw rfl rfl) (RS.q rfl (q0y und139 rfl (q03 inf24) rfl rfl rfl) (RS.q rfl (q0y und24 rfl (q03 inf22) rfl rfl rfl) (RS.q rfl (q0m und22 rfl rfl rfl rfl) ?_)))
  refine go ?_
  refine RS.q rfl (q0i rfl rfl (q09 q01 und22 (q03 inf54) q1p h11 rfl)) (RS.q rfl (q1q und54 rfl (q03 inf52) rfl rfl) (RS.q rfl (q0c und52 rfl rfl rfl) ?_))
  refine z3r (R:=fun u σ'=>u = .vl 4 0 0 r12.length∧σ'=⟨[(4,.vec (List.map q0e r12).flatten 66 2 0),(3,.row [.i6 p1] 3),(0,.row [.iM q01 p2,.vl 1 t4 0 ((p3.set (0+p1.toNat) (p5.length:Int)).length),.vl 2 (t6+1) 0 ((p5++[p1]).length)] 139),(1,.vec (List.map (cI .i64) (p3.set (0+p1.toNat) (p5.length:Int))).flatten 3 1 t4),(2,.vec (List.map (cI .i64) (p5++[p1])).flatten 3 1 (t6+1))],5⟩) (args:=[.iM q0e x10.Arcs]) rfl (qcs rfl rfl fn89 hb89 rfl rfl) (z3t q0e (qft n x10.Arcs r12 h13) _ 4 rfl) rfl rfl ?_
  rintro _ _ ⟨rfl,rfl⟩
  refine go ?_
  refine gS (l':=[(0,_),(4,_),(5,_)]) ?_
  refine z3e (fun m tm σ=>∃ z23:Int,∃ l24:List Int,∃ l25:List Int,∃ t26:Nat,q1c p2 r12 (q1g n) m z23 l24 l25=some r∧tm=fr 62 [(0,.ptr 0 0 0),(4,.vl 4 0 0 r12.length),(5,.i6 z23)]∧σ=⟨[(4,.vec (List.map q0e r12).flatten 66 2 0),(3,.row [.i6 p1] 3),(0,.row [.iM q01 p2,.vl 1 t4 0 l24.length,.vl 2 t26 0 l25.length] 139),(1,.vec (List.map (cI .i64) l24).flatten 3 1 t4),(2,.vec (List.map (cI .i64) l25).flatten 3 1 t26)],5⟩) (fun tm σ=>∃ l27:List Int,∃ l28:List Int,∃ t29:Nat,q38 l27 l28=some r∧tm=fr 62 []∧σ=⟨[(4,.vec (List.map q0e r12).flatten 66 2 0),(3,.row [.i6 p1] 3),(0,.row [.iM q01 p2,.vl 1 t4 0 l27.length,.vl 2 t29 0 l28.length] 139),(1,.vec (List.map (cI .i64) l27).flatten 3 1 t4),(2,.vec (List.map (cI .i64) l28).flatten 3 1 t29)],5⟩) n ⟨0,(p3.set (0+p1.toNat) (p5.length:Int)),(p5++[p1]),(t6+1),hF,rfl,rfl⟩ ?_ ?_
  rintro _ _ ⟨l27,l28,t29,hF,rfl,rfl⟩
  unfold q38 at hF
  refine go ?_
  obtain rfl:=sI hF
  exact ⟨.inl rfl,[],q3b,.tup [],⟨[(0,.row [.iM q01 p2,.vl 1 t4 0 l27.length,.vl 2 t29 0 l28.length] 139),(1,.vec (List.map (cI .i64) l27).flatten 3 1 t4),(2,.vec (List.map (cI .i64) l28).flatten 3 1 t29)],3⟩,NL,Gh.to (n1:=3) [] rfl rfl NL NL BUL.h BH.h,stF [t29],rfl,rfl⟩
  rintro (_|m1) _ _ ⟨z23,l24,l25,t26,hF,rfl,rfl⟩
  cases hF
  unfold q1c at hF
  refine go ?_
  refine RS.q rfl (q0a rfl rfl rfl (q9y und52 rfl)) ?_
  refine go ?_
  refine cF hF (fun h30 hF=>?_) (fun h30 hF=>?_)
  refine go ?_
  refine WPU.block ?_
  obtain ⟨x31,h32,hF⟩:=q00 hF
  obtain ⟨x33,h34,hF⟩:=q00 hF
  refine go ?_
  refine z3g Tryz.tb_ok [] (by kernel_rfl) ?_
  refine RD.mv rfl rfl rfl rfl (RD.q (u:=.ptr 0 0 0) rfl (qdw rfl rfl) (RD.q rfl (q0y und139 rfl (q03 inf33) rfl rfl rfl) (RD.q rfl (q0m und33 rfl rfl rfl rfl) ?_)))
  repeat refine RD.mv rfl rfl rfl rfl ?_
  refine RD.q rfl (q0i rfl rfl (qai q0e und52 (q03 inf66) (by decide) q0t (vo rfl) h32)) ?_
  refine RD.q rfl (q0y und66 rfl (q03 inf3) rfl (qq5 rfl) rfl) (RD.q (u:=.i6 x31.To) rfl (qzj q0e und3 rfl q0t rfl rfl (qni h32) rfl) ?_)
  refine RD.q rfl (q0i rfl rfl (qai (cI .i64) und33 (q03 inf3) (by decide) (q18 .i64) (vo rfl) h34)) ?_
  refine RD.q rfl (q5s (cI .i64) (fun x=>.i6 x) und3 rfl (fun _=>rfl) rfl rfl h34) (RD.q rfl (q2y rfl rfl (qwl _ _ _) rfl) ?_)
  refine RD.done ⟨by kernel_rfl,trivial,?_⟩
  refine gn ?_
  refine z3f (fun tm σ=>∃ l36:List Int,∃ l37:List Int,∃ t38:Nat,q1u z23 (q1c p2 r12 (q1g n) m1) l36 l37=some r∧tm=fr 62 [(0,.ptr 0 0 0),(4,.vl 4 0 0 r12.length),(5,.i6 z23)]∧σ=⟨[(4,.vec (List.map q0e r12).flatten 66 2 0),(3,.row [.i6 p1] 3),(0,.row [.iM q01 p2,.vl 1 t4 0 l36.length,.vl 2 t38 0 l37.length] 139),(1,.vec (List.map (cI .i64) l36).flatten 3 1 t4),(2,.vec (List.map (cI .i64) l37).flatten 3 1 t38)],5⟩) ?_ ?_
  rintro _ _ ⟨l36,l37,t38,hF,rfl,rfl⟩
  unfold q1u at hF
  refine go ?_
  exact lC ⟨_,l36,l37,t38,hF,rfl,rfl⟩
  refine cF hF (fun h35 hF=>?_) (fun h35 hF=>?_)
  obtain ⟨x39,h40,hF⟩:=q00 hF
  obtain ⟨r41,h42,hF⟩:=q00 hF
  refine go ?_
  refine RS.q rfl (q0i rfl rfl (qai q0e und52 (q03 inf66) (by decide) q0t (vo rfl) h40)) ?_
  refine RS.q rfl (q0y und66 rfl (q03 inf3) rfl (qq5 rfl) rfl) (RS.q (u:=.i6 x39.To) rfl (qzj q0e und3 rfl q0t rfl rfl (qni h40) rfl) ?_)
  refine z3r (R:=fun u σ'=>∃ t43:Nat→Nat,u = .tup []∧σ'=⟨[(4,.vec (List.map q0e r12).flatten 66 2 0),(3,.row [.i6 p1] 3),(0,.row [.iM q01 p2,.vl 1 t4 0 r41.1.length,.vl 2 (t43 0) 0 r41.2.length] 139),(1,.vec (List.map (cI .i64) r41.1).flatten 3 1 t4),(2,.vec (List.map (cI .i64) r41.2).flatten 3 1 (t43 0))],5⟩) (args:=[.ptr 0 0 0,.i6 x39.To]) rfl (qcs rfl rfl fn88 hb88 rfl rfl) (EvU.st [0,1,2] (ih x39.To p2 l24 l25 r41 h42 t4 t26)) rfl rfl ?_
  rintro _ _ ⟨t43,rfl,rfl⟩
  refine go ?_
  exact xC ⟨r41.1,r41.2,(t43 0),hF,rfl,rfl⟩
  refine go ?_
  exact xC ⟨l24,l25,t26,hF,rfl,rfl⟩
  refine go ?_
  exact xC ⟨l24,l25,t26,hF,rfl,rfl⟩
  refine z3g Tryz.tb_ok [] (by kernel_rfl) ?_
  refine RD.mv rfl rfl rfl rfl (RD.q (u:=.ptr 0 0 0) rfl (qdw rfl rfl) (RD.q rfl (q0y und139 rfl (q03 inf33) rfl rfl rfl) (RD.q rfl (q0m und33 rfl rfl rfl rfl) ?_)))
  repeat refine RD.mv rfl rfl rfl rfl ?_
  refine RD.q (u:=.ptr 0 0 0) rfl (qdw rfl rfl) (RD.q rfl (q0y und139 rfl (q03 inf33) rfl rfl rfl) (RD.q rfl (q0m und33 rfl rfl rfl rfl) (RD.q rfl (q0a rfl rfl rfl (q9y und33 rfl)) ?_)))
  refine RD.q rfl (q0i rfl rfl (qai (cI .i64) und33 (q03 inf3) (by decide) (q18 .i64) (vo rfl) h8)) ?_
  refine z3o (u:=.junk) (σ':=⟨[(0,.row [.iM q01 p2,.vl 1 t4 0 p3.length,.vl 2 t6 0 p5.length] 139),(1,.vec (List.map (cI .i64) (p3.set (0+p1.toNat) (p5.length:Int))).flatten 3 1 t4),(2,.vec (List.map (cI .i64) p5).flatten 3 1 t6)],3⟩) rfl (st_vp (cI .i64) (q03 inf3) (q18 .i64) rfl rfl rfl rfl rfl rfl rfl (qni h8) rfl) rfl ?_
  refine RD.done ⟨by kernel_rfl,trivial,?_⟩
  refine go ?_
  exact ⟨_,_,⟨rfl,rfl⟩,NL,z3j ⟨rfl,rfl,trivial⟩ (by simp only [List.length_set])⟩
def q6v (z26:Int) (l27:List q0n) (rc2:Int→(List q0n)→Option (GFS)) (x34:q0n) (l54:List q12):Option (GFS) :=
 q19 ((l27.length+1)*32≤140737488355328∧l27.length+1≤140737488355328) (
 rc2 (IntKind.i64.wrap (z26+1)) (l27++[(q0n.mk x34.Typex l54)]))
def q3y (r14:(List Int)×(List Int)) (z26:Int) (l27:List q0n) (rc2:Int→(List q0n)→Option (GFS)) (x34:q0n):Nat→Int→(List q12)→Option (GFS)
 | 0,_,_=>none
 | m3+1,z52,l53 =>
  cond (decide (z52<(l53.length:Int)))
   (q04 (q0u l53 z52) fun x57 =>
   q04 (q0u r14.1 x57.To) fun x59 =>
   q04 (q0u l53 z52) fun x61 =>
   (q3y r14 z26 l27 rc2 x34 m3) (IntKind.i64.wrap (z52+1)) (l53.set (0+z52.toNat) (q12.mk x61.Feat x59)))
   (q6v z26 l27 rc2 x34 l53)
def q9k  (l29:List q0n):Option (GFS) :=
 some (GFS.mk l29)
def q2r (p1:GFS) (n:Nat) (r14:(List Int)×(List Int)):Nat→Int→(List q0n)→Option (GFS)
 | 0,_,_=>none
 | m2+1,z26,l27 =>
  cond (decide (z26<(r14.2.length:Int)))
   (q04 (q0u r14.2 z26) fun x32 =>
   q04 (q0u p1.Nodes x32) fun x34 =>
   q04 (q8h n x34.Arcs) fun r36 =>
   q3y r14 z26 l27 (q2r p1 n r14 m2) x34 n 0 r36)
   (q9k l27)
def q6u (p1:GFS) (p2:Int) (n:Nat) (l12:List Int):Option (GFS) :=
 q04 (q1g n p2 p1.Nodes l12 ([]:List Int)) fun r14 =>
 q2r p1 n r14 n 0 ([]:List q0n)
def q53 (p1:GFS) (p2:Int) (n:Nat):Nat→Int→(List Int)→Option (GFS)
 | 0,_,_=>none
 | m1+1,z9,l10 =>
  cond (decide (z9<(p1.Nodes.length:Int)))
   (q19 ((l10.length+1)*8≤140737488355328∧l10.length+1≤140737488355328) (
   (q53 p1 p2 n m1) (IntKind.i64.wrap (z9+1)) (l10++[(-1)])))
   (q6u p1 p2 n l10)
def qc9 (n:Nat) (p1:GFS) (p2:Int):Option (GFS) :=
 q53 p1 p2 n n 0 ([]:List Int)
theorem qqn (n:Nat) (p1:GFS) (p2:Int) (r:GFS) (hF:qc9 n p1 p2=some r):EvU Tryz.prog 68 [.agg [.isl false (List.map q01 p1.Nodes)],.int .i64 p2] ⟨[],0⟩ (fun u _=>u = .agg [.isl false (List.map q01 r.Nodes)]∧Bel 0 u):=by
 unfold qc9 at hF
 refine bg2 88 fn68 ?_
 refine go ?_
 refine RS.q (u:=.ptr 0 0 0) (σ':=⟨[(0,.row [.iM q01 p1.Nodes] 24)],1⟩) rfl (q3u rfl rfl rfl) (RS.q (u:=.ptr 1 0 0) (σ':=⟨[(1,.row [.nils] 24),(0,.row [.iM q01 p1.Nodes] 24)],2⟩) rfl (q1e inf24 rfl rfl) ?_)
 refine go ?_
 refine RS.q (u:=.agg [.iM q01 p1.Nodes]) rfl (q1b und24 rfl (q03 inf24) rfl rfl rfl) (RS.q (u:=.agg [.iM q01 p1.Nodes,.nils,.nils]) rfl (q3t bd139 rfl rfl rfl) (RS.q (u:=.ptr 2 0 0) (σ':=⟨[(2,.row [.iM q01 p1.Nodes,.nils,.nils] 139),(1,.row [.nils] 24),(0,.row [.iM q01 p1.Nodes] 24)],3⟩) rfl (q3u rfl rfl rfl) ?_))
 refine gr ?_
 refine WPU.ghost (tm':=fr 88 [(1,.i6 p2),(2,.ptr 0 0 0),(4,.ptr 1 0 0),(5,.ptr 2 0 0),(6,.i6 0)]) (σ':=⟨[(3,.vec (List.map (cI .i64) ([]:List Int)).flatten 3 1 0),(2,.row [.iM q01 p1.Nodes,.vl 3 0 0 (([]:List Int).length),.nils] 139),(1,.row [.nils] 24),(0,.row [.iM q01 p1.Nodes] 24)],4⟩) (Gh.trans (z3p 2 1 3 1 (by decide) NZ rfl rfl) (z3j ⟨rfl,rfl,rfl,rfl,rfl,trivial⟩ rfl)) NZ ?_
 refine gS (l':=[(1,_),(2,_),(4,_),(5,_),(6,_)]) ?_
 refine z3e (fun m tm σ=>∃ z9:Int,∃ l10:List Int,∃ t11:Nat,q53 p1 p2 n m z9 l10=some r∧tm=fr 88 [(1,.i6 p2),(2,.ptr 0 0 0),(4,.ptr 1 0 0),(5,.ptr 2 0 0),(6,.i6 z9)]∧σ=⟨[(3,.vec (List.map (cI .i64) l10).flatten 3 1 t11),(2,.row [.iM q01 p1.Nodes,.vl 3 t11 0 l10.length,.nils] 139),(1,.row [.nils] 24),(0,.row [.iM q01 p1.Nodes] 24)],4⟩) (fun tm σ=>∃ l12:List Int,∃ t13:Nat,q6u p1 p2 n l12=some r∧tm=fr 88 [(1,.i6 p2),(2,.ptr 0 0 0),(4,.ptr 1 0 0),(5,.ptr 2 0 0)]∧σ=⟨[(3,.vec (List.map (cI .i64) l12).flatten 3 1 t13),(2,.row [.iM q01 p1.Nodes,.vl 3 t13 0 l12.length,.nils] 139),(1,.row [.nils] 24),(0,.row [.iM q01 p1.Nodes] 24)],4⟩) n ⟨0,([]:List Int),0,hF,rfl,rfl⟩ ?_ ?_
 rintro _ _ ⟨l12,t13,hF,rfl,rfl⟩
 unfold q6u at hF
 refine gn ?_
 refine WPU.ghost (tm':=fr 88 [(1,.i6 p2),(2,.ptr 0 0 0),(4,.ptr 1 0 0),(5,.ptr 2 0 0)]) (σ':=⟨[(4,.vec (List.map (cI .i64) ([]:List Int)).flatten 3 1 0),(3,.vec (List.map (cI .i64) l12).flatten 3 1 t13),(2,.row [.iM q01 p1.Nodes,.vl 3 t13 0 l12.length,.vl 4 0 0 (([]:List Int).length)] 139),(1,.row [.nils] 24),(0,.row [.iM q01 p1.Nodes] 24)],5⟩) (Gh.trans (z3p 2 2 3 1 (by decide) NZ rfl rfl) (z3j ⟨rfl,rfl,rfl,rfl,trivial⟩ rfl)) NZ ?_
 obtain ⟨r14,h15,hF⟩:=q00 hF
 refine go ?_
 refine z3r (R:=fun u σ'=>∃ t16:Nat→Nat,u = .tup []∧σ'=⟨[(4,.vec (List.map (cI .i64) r14.2).flatten 3 1 (t16 0)),(3,.vec (List.map (cI .i64) r14.1).flatten 3 1 t13),(2,.row [.iM q01 p1.Nodes,.vl 3 t13 0 r14.1.length,.vl 4 (t16 0) 0 r14.2.length] 139),(1,.row [.nils] 24),(0,.row [.iM q01 p1.Nodes] 24)],5⟩) (args:=[.ptr 2 0 0,.i6 p2]) rfl (qcs rfl rfl fn88 hb88 rfl rfl) (EvU.st [2,3,4] (q8i n p2 p1.Nodes l12 ([]:List Int) r14 h15 t13 0)) rfl rfl ?_
 rintro _ _ ⟨t16,rfl,rfl⟩
 refine go ?_
 refine RS.q (u:=.ptr 5 0 0) (σ':=⟨[(5,.row [.nils] 24),(4,.vec (List.map (cI .i64) r14.2).flatten 3 1 (t16 0)),(3,.vec (List.map (cI .i64) r14.1).flatten 3 1 t13),(2,.row [.iM q01 p1.Nodes,.vl 3 t13 0 r14.1.length,.vl 4 (t16 0) 0 r14.2.length] 139),(1,.row [.nils] 24),(0,.row [.iM q01 p1.Nodes] 24)],6⟩) rfl (q1e inf24 rfl rfl) ?_
 refine gr ?_
 refine WPU.ghost (tm':=fr 88 [(2,.ptr 0 0 0),(4,.ptr 1 0 0),(5,.ptr 2 0 0),(7,.ptr 5 0 0),(8,.i6 0)]) (σ':=⟨[(6,.vec (List.map q01 ([]:List q0n)).flatten 54 2 0),(5,.row [.vl 6 0 0 (([]:List q0n).length)] 24),(4,.vec (List.map (cI .i64) r14.2).flatten 3 1 (t16 0)),(3,.vec (List.map (cI .i64) r14.1).flatten 3 1 t13),(2,.row [.iM q01 p1.Nodes,.vl 3 t13 0 r14.1.length,.vl 4 (t16 0) 0 r14.2.length] 139),(1,.row [.nils] 24),(0,.row [.iM q01 p1.Nodes] 24)],7⟩) (Gh.trans (z3p 5 0 54 2 (by decide) NZ rfl rfl) (z3j ⟨rfl,rfl,rfl,rfl,rfl,trivial⟩ rfl)) NZ ?_
 refine gS (l':=[(2,_),(4,_),(5,_),(7,_),(8,_)]) ?_
 refine z3e (fun m tm σ=>∃ z26:Int,∃ l27:List q0n,∃ t28:Nat,q2r p1 n r14 m z26 l27=some r∧tm=fr 88 [(2,.ptr 0 0 0),(4,.ptr 1 0 0),(5,.ptr 2 0 0),(7,.ptr 5 0 0),(8,.i6 z26)]∧σ=⟨[(6,.vec (List.map q01 l27).flatten 54 2 t28),(5,.row [.vl 6 t28 0 l27.length] 24),(4,.vec (List.map (cI .i64) r14.2).flatten 3 1 (t16 0)),(3,.vec (List.map (cI .i64) r14.1).flatten 3 1 t13),(2,.row [.iM q01 p1.Nodes,.vl 3 t13 0 r14.1.length,.vl 4 (t16 0) 0 r14.2.length] 139),(1,.row [.nils] 24),(0,.row [.iM q01 p1.Nodes] 24)],7⟩) (fun tm σ=>∃ l29:List q0n,∃ t30:Nat,q9k l29=some r∧tm=fr 88 [(4,.ptr 1 0 0),(7,.ptr 5 0 0)]∧σ=⟨[(6,.vec (List.map q01 l29).flatten 54 2 t30),(5,.row [.vl 6 t30 0 l29.length] 24),(4,.vec (List.map (cI .i64) r14.2).flatten 3 1 (t16 0)),(3,.vec (List.map (cI .i64) r14.1).flatten 3 1 t13),(2,.row [.iM q01 p1.Nodes,.vl 3 t13 0 r14.1.length,.vl 4 (t16 0) 0 r14.2.length] 139),(1,.row [.nils] 24),(0,.row [.iM q01 p1.Nodes] 24)],7⟩) n ⟨0,([]:List q0n),0,hF,rfl,rfl⟩ ?_ ?_
 rintro _ _ ⟨l29,t30,hF,rfl,rfl⟩
 unfold q9k at hF
 refine go ?_
 refine RS.q (u:=.agg [.vl 6 t30 0 l29.length]) rfl (q1b und24 rfl (q03 inf24) rfl rfl rfl) ?_
 refine z3i (u:=.junk) (σ':=⟨[(6,.vec (List.map q01 l29).flatten 54 2 t30),(5,.row [.vl 6 t30 0 l29.length] 24),(4,.vec (List.map (cI .i64) r14.2).flatten 3 1 (t16 0)),(3,.vec (List.map (cI .i64) r14.1).flatten 3 1 t13),(2,.row [.iM q01 p1.Nodes,.vl 3 t13 0 r14.1.length,.vl 4 (t16 0) 0 r14.2.length] 139),(1,.row [.vl 6 t30 0 l29.length] 24),(0,.row [.iM q01 p1.Nodes] 24)],7⟩) rfl (q0r (q03 inf24) rfl rfl rfl rfl rfl rfl rfl rfl) rfl ?_
 refine go ?_
 obtain rfl:=sI hF
 exact rT (us:=[.agg [.vl 6 t30 0 l29.length]]) (u:=.agg [.iM q01 l29]) (qk4 (q1b und24 rfl (q03 inf24) rfl rfl rfl) (q3b)) (fR 6 2)
 rintro (_|m2) _ _ ⟨z26,l27,t28,hF,rfl,rfl⟩
 cases hF
 unfold q2r at hF
 refine go ?_
 refine RS.q (u:=.ptr 2 0 0) rfl (qdw rfl rfl) (RS.q rfl (q0y und139 rfl (q03 inf33) rfl rfl rfl) (RS.q rfl (q0m und33 rfl rfl rfl rfl) (RS.q rfl (q0a rfl rfl rfl (q9y und33 rfl)) ?_)))
 refine go ?_
 refine cF hF (fun h31 hF=>?_) (fun h31 hF=>?_)
 refine go ?_
 refine WPU.block ?_
 obtain ⟨x32,h33,hF⟩:=q00 hF
 obtain ⟨x34,h35,hF⟩:=q00 hF
 refine go ?_
 refine z3g Tryz.tb_ok [(0,11),(1,11),(2,11),(3,11),(4,11),(5,11),(6,11),(7,11),(8,11),(9,11),(10,11)] (by kernel_rfl) ?_
 refine RD.q rfl (q0y und24 rfl (q03 inf22) rfl rfl rfl) (RD.q rfl (q0m und22 rfl rfl rfl rfl) (RD.mv rfl rfl rfl rfl (RD.q (u:=.ptr 2 0 0) rfl (qdw rfl rfl) (RD.q rfl (q0y und139 rfl (q03 inf33) rfl rfl rfl) (RD.q rfl (q0m und33 rfl rfl rfl rfl) (RD.mv rfl rfl rfl rfl ?_))))))
 refine RD.q rfl (q0i rfl rfl (qai (cI .i64) und33 (q03 inf3) (by decide) (q18 .i64) (vo rfl) h33)) ?_
 refine RD.q rfl (q5s (cI .i64) (fun x=>.i6 x) und3 rfl (fun _=>rfl) rfl rfl h33) (RD.q rfl (q0i rfl rfl (q09 q01 und22 (q03 inf54) q1p h35 rfl)) (RD.q (u:=.agg (q01 x34)) rfl (q8u und54 rfl (q03 inf54) rfl rfl) (RD.act (u:=.ptr 7 0 0) (σ':=⟨[(7,.row [.i6 0,.nils] 54),(6,.vec (List.map q01 l27).flatten 54 2 t28),(5,.row [.vl 6 t28 0 l27.length] 24),(4,.vec (List.map (cI .i64) r14.2).flatten 3 1 (t16 0)),(3,.vec (List.map (cI .i64) r14.1).flatten 3 1 t13),(2,.row [.iM q01 p1.Nodes,.vl 3 t13 0 r14.1.length,.vl 4 (t16 0) 0 r14.2.length] 139),(1,.row [.nils] 24),(0,.row [.iM q01 p1.Nodes] 24)],8⟩) rfl (q1e inf54 rfl rfl) rfl rfl ?_)))
 refine z3o (u:=.junk) (σ':=⟨[(7,.row (q01 x34) 54),(6,.vec (List.map q01 l27).flatten 54 2 t28),(5,.row [.vl 6 t28 0 l27.length] 24),(4,.vec (List.map (cI .i64) r14.2).flatten 3 1 (t16 0)),(3,.vec (List.map (cI .i64) r14.1).flatten 3 1 t13),(2,.row [.iM q01 p1.Nodes,.vl 3 t13 0 r14.1.length,.vl 4 (t16 0) 0 r14.2.length] 139),(1,.row [.nils] 24),(0,.row [.iM q01 p1.Nodes] 24)],8⟩) rfl (q0r (q03 inf54) rfl rfl rfl rfl rfl rfl rfl rfl) rfl ?_
 refine RD.done ⟨by kernel_rfl,⟨q0y und24 rfl (q03 inf22) rfl rfl rfl,⟨q0m und22 rfl rfl rfl rfl,⟨q1w rfl,⟨qdw rfl rfl,⟨q0y und139 rfl (q03 inf33) rfl rfl rfl,⟨q0m und33 rfl rfl rfl rfl,⟨q1w rfl,⟨q0i rfl rfl (qai (cI .i64) und33 (q03 inf3) (by decide) (q18 .i64) (vo rfl) h33),⟨q5s (cI .i64) (fun x=>.i6 x) und3 rfl (fun _=>rfl) rfl rfl h33,⟨q0i rfl rfl (q09 q01 und22 (q03 inf54) q1p h35 rfl),⟨q8u und54 rfl (q03 inf54) rfl rfl,trivial⟩⟩⟩⟩⟩⟩⟩⟩⟩⟩⟩,?_⟩
 obtain ⟨r36,h37,hF⟩:=q00 hF
 refine go ?_
 refine RS.q rfl (q0y und54 rfl (q03 inf52) rfl rfl rfl) (RS.q rfl (q0m und52 rfl rfl rfl rfl) ?_)
 refine z3r (R:=fun u σ'=>u = .vl 8 0 0 r36.length∧σ'=⟨[(8,.vec (List.map q0e r36).flatten 66 2 0),(7,.row (q01 x34) 54),(6,.vec (List.map q01 l27).flatten 54 2 t28),(5,.row [.vl 6 t28 0 l27.length] 24),(4,.vec (List.map (cI .i64) r14.2).flatten 3 1 (t16 0)),(3,.vec (List.map (cI .i64) r14.1).flatten 3 1 t13),(2,.row [.iM q01 p1.Nodes,.vl 3 t13 0 r14.1.length,.vl 4 (t16 0) 0 r14.2.length] 139),(1,.row [.nils] 24),(0,.row [.iM q01 p1.Nodes] 24)],9⟩) (args:=[.iM q0e x34.Arcs]) rfl (qcs rfl rfl fn89 hb89 rfl rfl) (z3t q0e (qft n x34.Arcs r36 h37) _ 8 rfl) rfl rfl ?_
 rintro _ _ ⟨rfl,rfl⟩
 refine go ?_
 refine gS (l':=[(2,_),(4,_),(5,_),(7,_),(8,_),(9,_),(10,_),(11,_)]) ?_
 refine z3e (fun m tm σ=>∃ z52:Int,∃ l53:List q12,q3y r14 z26 l27 (q2r p1 n r14 m2) x34 m z52 l53=some r∧tm=fr 88 [(2,.ptr 0 0 0),(4,.ptr 1 0 0),(5,.ptr 2 0 0),(7,.ptr 5 0 0),(8,.i6 z26),(9,.ptr 7 0 0),(10,.vl 8 0 0 l53.length),(11,.i6 z52)]∧σ=⟨[(8,.vec (List.map q0e l53).flatten 66 2 0),(7,.row (q01 x34) 54),(6,.vec (List.map q01 l27).flatten 54 2 t28),(5,.row [.vl 6 t28 0 l27.length] 24),(4,.vec (List.map (cI .i64) r14.2).flatten 3 1 (t16 0)),(3,.vec (List.map (cI .i64) r14.1).flatten 3 1 t13),(2,.row [.iM q01 p1.Nodes,.vl 3 t13 0 r14.1.length,.vl 4 (t16 0) 0 r14.2.length] 139),(1,.row [.nils] 24),(0,.row [.iM q01 p1.Nodes] 24)],9⟩) (fun tm σ=>∃ l54:List q12,q6v z26 l27 (q2r p1 n r14 m2) x34 l54=some r∧tm=fr 88 [(2,.ptr 0 0 0),(4,.ptr 1 0 0),(5,.ptr 2 0 0),(7,.ptr 5 0 0),(8,.i6 z26),(9,.ptr 7 0 0),(10,.vl 8 0 0 l54.length)]∧σ=⟨[(8,.vec (List.map q0e l54).flatten 66 2 0),(7,.row (q01 x34) 54),(6,.vec (List.map q01 l27).flatten 54 2 t28),(5,.row [.vl 6 t28 0 l27.length] 24),(4,.vec (List.map (cI .i64) r14.2).flatten 3 1 (t16 0)),(3,.vec (List.map (cI .i64) r14.1).flatten 3 1 t13),(2,.row [.iM q01 p1.Nodes,.vl 3 t13 0 r14.1.length,.vl 4 (t16 0) 0 r14.2.length] 139),(1,.row [.nils] 24),(0,.row [.iM q01 p1.Nodes] 24)],9⟩) n ⟨0,r36,hF,rfl,rfl⟩ ?_ ?_
 rintro _ _ ⟨l54,hF,rfl,rfl⟩
 unfold q6v at hF
 refine gn ?_
 refine WPU.ghost (tm':=fr 88 [(2,.ptr 0 0 0),(4,.ptr 1 0 0),(5,.ptr 2 0 0),(7,.ptr 5 0 0),(8,.i6 z26),(9,.ptr 7 0 0),(10,.iM q0e l54)]) (σ':=⟨[(7,.row (q01 x34) 54),(6,.vec (List.map q01 l27).flatten 54 2 t28),(5,.row [.vl 6 t28 0 l27.length] 24),(4,.vec (List.map (cI .i64) r14.2).flatten 3 1 (t16 0)),(3,.vec (List.map (cI .i64) r14.1).flatten 3 1 t13),(2,.row [.iM q01 p1.Nodes,.vl 3 t13 0 r14.1.length,.vl 4 (t16 0) 0 r14.2.length] 139),(1,.row [.nils] 24),(0,.row [.iM q01 p1.Nodes] 24)],9⟩) (Gh.trans (Gh.sub (l':=[(2,.ptr 0 0 0),(4,.ptr 1 0 0),(5,.ptr 2 0 0),(7,.ptr 5 0 0),(8,.i6 z26),(9,.ptr 7 0 0),(10,.vl 8 0 0 l54.length)]) ⟨rfl,rfl,rfl,rfl,rfl,rfl,rfl,trivial⟩) (z3s 8 2)) NZ ?_
 obtain ⟨h55,hF⟩:=q0b hF
 refine go ?_
 refine RS.q rfl (q0y und24 rfl (q03 inf22) rfl rfl rfl) (RS.q rfl (q0m und22 rfl rfl rfl rfl) (RS.q rfl (q0y und54 rfl (q03 inf3) rfl rfl rfl) (RS.q rfl (q0m und3 rfl rfl rfl rfl) ?_)))
 refine go ?_
 refine RS.q (u:=.agg [.i6 x34.Typex,.iM q0e l54]) rfl (q3t bd54 rfl rfl rfl) (RS.q (u:=.sl 9 0 1 1) (σ':=⟨[(9,.row [.i6 x34.Typex,.iM q0e l54] 54),(7,.row (q01 x34) 54),(6,.vec (List.map q01 l27).flatten 54 2 t28),(5,.row [.vl 6 t28 0 l27.length] 24),(4,.vec (List.map (cI .i64) r14.2).flatten 3 1 (t16 0)),(3,.vec (List.map (cI .i64) r14.1).flatten 3 1 t13),(2,.row [.iM q01 p1.Nodes,.vl 3 t13 0 r14.1.length,.vl 4 (t16 0) 0 r14.2.length] 139),(1,.row [.nils] 24),(0,.row [.iM q01 p1.Nodes] 24)],10⟩) rfl (q0j und22 inf54 rfl rfl rfl rfl rfl rfl rfl) (RS.q (u:=.vl 6 (t28+1) 0 ((l27++[(q0n.mk x34.Typex l54)]).length)) (σ':=⟨[(9,.row [.i6 x34.Typex,.iM q0e l54] 54),(7,.row (q01 x34) 54),(6,.vec (List.map q01 (l27++[(q0n.mk x34.Typex l54)])).flatten 54 2 (t28+1)),(5,.row [.vl 6 t28 0 l27.length] 24),(4,.vec (List.map (cI .i64) r14.2).flatten 3 1 (t16 0)),(3,.vec (List.map (cI .i64) r14.1).flatten 3 1 t13),(2,.row [.iM q01 p1.Nodes,.vl 3 t13 0 r14.1.length,.vl 4 (t16 0) 0 r14.2.length] 139),(1,.row [.nils] 24),(0,.row [.iM q01 p1.Nodes] 24)],10⟩) rfl (q1n rfl rfl rfl rfl (q23 q01 ([(q0n.mk x34.Typex l54)]) und22 und22 inf54 rfl q1p rfl (q1m q01 [(q0n.mk x34.Typex l54)] rfl rfl rfl rfl) h55)) (RS.q rfl (q0y und24 rfl (q03 inf22) rfl rfl rfl) ?_)))
 refine z3i (u:=.junk) (σ':=⟨[(9,.row [.i6 x34.Typex,.iM q0e l54] 54),(7,.row (q01 x34) 54),(6,.vec (List.map q01 (l27++[(q0n.mk x34.Typex l54)])).flatten 54 2 (t28+1)),(5,.row [.vl 6 (t28+1) 0 ((l27++[(q0n.mk x34.Typex l54)]).length)] 24),(4,.vec (List.map (cI .i64) r14.2).flatten 3 1 (t16 0)),(3,.vec (List.map (cI .i64) r14.1).flatten 3 1 t13),(2,.row [.iM q01 p1.Nodes,.vl 3 t13 0 r14.1.length,.vl 4 (t16 0) 0 r14.2.length] 139),(1,.row [.nils] 24),(0,.row [.iM q01 p1.Nodes] 24)],10⟩) rfl (q0r (q03 inf22) rfl rfl rfl rfl rfl rfl rfl rfl) rfl ?_
 refine go ?_
 exact lC ⟨_,(l27++[(q0n.mk x34.Typex l54)]),(t28+1),hF,rfl,rfl⟩
 rintro (_|m3) _ _ ⟨z52,l53,hF,rfl,rfl⟩
 cases hF
 unfold q3y at hF
 refine go ?_
 refine RS.q rfl (q0a rfl rfl rfl (q9y und52 rfl)) ?_
 refine go ?_
 refine cF hF (fun h56 hF=>?_) (fun h56 hF=>?_)
 refine go ?_
 refine WPU.block ?_
 obtain ⟨x57,h58,hF⟩:=q00 hF
 obtain ⟨x59,h60,hF⟩:=q00 hF
 obtain ⟨x61,h62,hF⟩:=q00 hF
 refine gn ?_
 refine z3f (fun tm σ=>tm=fr 88 [(2,.ptr 0 0 0),(4,.ptr 1 0 0),(5,.ptr 2 0 0),(7,.ptr 5 0 0),(8,.i6 z26),(9,.ptr 7 0 0),(10,.vl 8 0 0 ((l53.set (0+z52.toNat) (q12.mk x61.Feat x59)).length)),(11,.i6 z52)]∧σ=⟨[(8,.vec (List.map q0e (l53.set (0+z52.toNat) (q12.mk x61.Feat x59))).flatten 66 2 0),(7,.row (q01 x34) 54),(6,.vec (List.map q01 l27).flatten 54 2 t28),(5,.row [.vl 6 t28 0 l27.length] 24),(4,.vec (List.map (cI .i64) r14.2).flatten 3 1 (t16 0)),(3,.vec (List.map (cI .i64) r14.1).flatten 3 1 t13),(2,.row [.iM q01 p1.Nodes,.vl 3 t13 0 r14.1.length,.vl 4 (t16 0) 0 r14.2.length] 139),(1,.row [.nils] 24),(0,.row [.iM q01 p1.Nodes] 24)],9⟩) ?_ ?_
 rintro _ _ ⟨rfl,rfl⟩
 refine go ?_
 exact lC ⟨_,(l53.set (0+z52.toNat) (q12.mk x61.Feat x59)),hF,rfl,rfl⟩
 refine z3g Tryz.tb_ok [] (by kernel_rfl) ?_
 repeat refine RD.mv rfl rfl rfl rfl ?_
 refine RD.q (u:=.ptr 2 0 0) rfl (qdw rfl rfl) (RD.q rfl (q0y und139 rfl (q03 inf33) rfl rfl rfl) (RD.q rfl (q0m und33 rfl rfl rfl rfl) ?_))
 repeat refine RD.mv rfl rfl rfl rfl ?_
 refine RD.q rfl (q0i rfl rfl (qai q0e und52 (q03 inf66) (by decide) q0t (vo rfl) h58)) ?_
 refine RD.q rfl (q0y und66 rfl (q03 inf3) rfl (qq5 rfl) rfl) (RD.q (u:=.i6 x57.To) rfl (qzj q0e und3 rfl q0t rfl rfl (qni h58) rfl) ?_)
 refine RD.q rfl (q0i rfl rfl (qai (cI .i64) und33 (q03 inf3) (by decide) (q18 .i64) (vo rfl) h60)) ?_
 refine RD.q rfl (q5s (cI .i64) (fun x=>.i6 x) und3 rfl (fun _=>rfl) rfl rfl h60) ?_
 refine RD.q rfl (q0i rfl rfl (qai q0e und52 (q03 inf66) (by decide) q0t (vo rfl) h62)) ?_
 refine RD.q rfl (q0y und66 rfl (q03 inf3) rfl (qq5 rfl) rfl) ?_
 refine z3o (u:=.junk) (σ':=⟨[(8,.vec (List.map q0e (l53.set (0+z52.toNat) (q12.mk x61.Feat x59))).flatten 66 2 0),(7,.row (q01 x34) 54),(6,.vec (List.map q01 l27).flatten 54 2 t28),(5,.row [.vl 6 t28 0 l27.length] 24),(4,.vec (List.map (cI .i64) r14.2).flatten 3 1 (t16 0)),(3,.vec (List.map (cI .i64) r14.1).flatten 3 1 t13),(2,.row [.iM q01 p1.Nodes,.vl 3 t13 0 r14.1.length,.vl 4 (t16 0) 0 r14.2.length] 139),(1,.row [.nils] 24),(0,.row [.iM q01 p1.Nodes] 24)],9⟩) rfl (st_vf (y:=(q12.mk x61.Feat x59)) q0e (q03 inf3) q0t rfl rfl rfl rfl rfl rfl (qni h62) rfl rfl) rfl ?_
 refine RD.done ⟨by kernel_rfl,trivial,?_⟩
 refine go ?_
 exact ⟨_,_,⟨rfl,rfl⟩,NZ,z3j ⟨rfl,rfl,rfl,rfl,rfl,rfl,(by simp only [List.length_set]; rfl),rfl,trivial⟩ rfl⟩
 refine go ?_
 exact xC ⟨l53,hF,rfl,rfl⟩
 refine go ?_
 exact xC ⟨l27,t28,hF,rfl,rfl⟩
 rintro (_|m1) _ _ ⟨z9,l10,t11,hF,rfl,rfl⟩
 cases hF
 unfold q53 at hF
 refine go ?_
 refine RS.q rfl (q0y und24 rfl (q03 inf22) rfl rfl rfl) (RS.q rfl (q0m und22 rfl rfl rfl rfl) (RS.q rfl (q0a rfl rfl rfl (q07 q01 und22)) ?_))
 refine go ?_
 refine cF hF (fun h63 hF=>?_) (fun h63 hF=>?_)
 refine go ?_
 refine WPU.block ?_
 obtain ⟨h64,hF⟩:=q0b hF
 refine go ?_
 refine RS.q (u:=.ptr 2 0 0) rfl (qdw rfl rfl) (RS.q rfl (q0y und139 rfl (q03 inf33) rfl rfl rfl) (RS.q rfl (q0m und33 rfl rfl rfl rfl) (RS.q (u:=.sl 4 0 1 1) (σ':=⟨[(4,.row [.i6 (-1)] 3),(3,.vec (List.map (cI .i64) l10).flatten 3 1 t11),(2,.row [.iM q01 p1.Nodes,.vl 3 t11 0 l10.length,.nils] 139),(1,.row [.nils] 24),(0,.row [.iM q01 p1.Nodes] 24)],5⟩) rfl (q0j und33 inf3 rfl rfl rfl rfl rfl rfl rfl) (RS.q (u:=.vl 3 (t11+1) 0 ((l10++[(-1)]).length)) (σ':=⟨[(4,.row [.i6 (-1)] 3),(3,.vec (List.map (cI .i64) (l10++[(-1)])).flatten 3 1 (t11+1)),(2,.row [.iM q01 p1.Nodes,.vl 3 t11 0 l10.length,.nils] 139),(1,.row [.nils] 24),(0,.row [.iM q01 p1.Nodes] 24)],5⟩) rfl (q1n rfl rfl rfl rfl (q23 (cI .i64) ([(-1)]) und33 und33 inf3 rfl (q18 .i64) rfl (q1m (cI .i64) [(-1)] rfl rfl rfl rfl) h64)) (RS.q (u:=.ptr 2 0 0) rfl (qdw rfl rfl) (RS.q rfl (q0y und139 rfl (q03 inf33) rfl rfl rfl) ?_))))))
 refine z3i (u:=.junk) (σ':=⟨[(4,.row [.i6 (-1)] 3),(3,.vec (List.map (cI .i64) (l10++[(-1)])).flatten 3 1 (t11+1)),(2,.row [.iM q01 p1.Nodes,.vl 3 (t11+1) 0 ((l10++[(-1)]).length),.nils] 139),(1,.row [.nils] 24),(0,.row [.iM q01 p1.Nodes] 24)],5⟩) rfl (q0r (q03 inf33) rfl rfl rfl rfl rfl rfl rfl rfl) rfl ?_
 refine go ?_
 exact lC ⟨_,(l10++[(-1)]),(t11+1),hF,rfl,rfl⟩
 refine go ?_
 exact xC ⟨l10,t11,hF,rfl,rfl⟩
def qae (n:Nat) (p1:GFS):Option (GFS×Int) :=
 q04 (qca n p1) fun r2 =>
 cond (r2 != 0)
  (some ((GFS.mk []),r2))
  (q04 (qc9 n p1 0) fun r5 =>
  some (r5,0))
theorem qos (n:Nat) (p1:GFS) (r:GFS×Int) (hF:qae n p1=some r):EvU Tryz.prog 42 [.agg [.isl false (List.map q01 p1.Nodes)]] ⟨[],0⟩ (fun u _=>u = .tup [.agg [.isl false (List.map q01 r.1.Nodes)],.int .i64 r.2]∧Bel 0 u):=by
 unfold qae at hF
 refine bg1 13 fn42 ?_
 refine go ?_
 refine RS.q (u:=.ptr 0 0 0) (σ':=⟨[(0,.row [.iM q01 p1.Nodes] 24)],1⟩) rfl (q3u rfl rfl rfl) (RS.q (u:=.ptr 1 0 0) (σ':=⟨[(1,.row [.nils] 24),(0,.row [.iM q01 p1.Nodes] 24)],2⟩) rfl (q1e inf24 rfl rfl) ?_)
 obtain ⟨r2,h3,hF⟩:=q00 hF
 refine go ?_
 refine RS.q (u:=.agg [.iM q01 p1.Nodes]) rfl (q1b und24 rfl (q03 inf24) rfl rfl rfl) (RS.cl rfl (pC (qqp n p1 r2 h3) _) fn67 ?_)
 refine go ?_
 refine cF hF (fun h4 hF=>?_) (fun h4 hF=>?_)
 refine go ?_
 refine RS.q (u:=.agg [.nils]) rfl (q3t bd24 rfl rfl rfl) ?_
 refine go ?_
 refine z3i (u:=.junk) (σ':=⟨[(1,.row [.nils] 24),(0,.row [.iM q01 p1.Nodes] 24)],2⟩) rfl (q0r (q03 inf24) rfl rfl rfl rfl rfl rfl rfl rfl) rfl ?_
 refine go ?_
 obtain rfl:=sI hF
 exact rT (us:=[.agg [.nils],.i6 r2]) (u:=.tup [.agg [.isl false []],.i6 r2]) (qk4 (q1b und24 rfl (q03 inf24) rfl rfl rfl) (q2o rfl (q3b))) wR
 obtain ⟨r5,h6,hF⟩:=q00 hF
 refine go ?_
 refine RS.q (u:=.agg [.iM q01 p1.Nodes]) rfl (q1b und24 rfl (q03 inf24) rfl rfl rfl) (RS.cl rfl (pC (qqn n p1 0 r5 h6) _) fn68 ?_)
 refine z3i (u:=.junk) (σ':=⟨[(1,.row [.iM q01 r5.Nodes] 24),(0,.row [.iM q01 p1.Nodes] 24)],2⟩) rfl (q0r (q03 inf24) rfl rfl rfl rfl rfl rfl rfl rfl) rfl ?_
 refine go ?_
 obtain rfl:=sI hF
 exact rT (qk4 (q1b und24 rfl (q03 inf24) rfl rfl rfl) (q2o rfl (q3b))) (z3q _ rfl)
def q87   : Option (Bool) :=
 some true
def q4f (p1:GFS):Nat→Int→Option (Bool)
 | 0,_=>none
 | m1+1,z5 =>
  cond (decide (z5<(p1.Nodes.length:Int)))
   (q04 (q0u p1.Nodes z5) fun x7 =>
   cond (decide ((x7.Arcs.length:Int) > 12))
    (some false)
    ((q4f p1 m1) (IntKind.i64.wrap (z5+1))))
   (q87)
def qaf (n:Nat) (p1:GFS):Option (Bool) :=
 cond (decide ((p1.Nodes.length:Int) > 12))
  (some false)
  (q4f p1 n 0)
theorem qot (n:Nat) (p1:GFS) (r:Bool) (hF:qaf n p1=some r):EvU Tryz.prog 41 [.agg [.isl false (List.map q01 p1.Nodes)]] ⟨[],0⟩ (fun u _=>u = .bool r∧Bel 0 u):=by
 unfold qaf at hF
 refine bg1 23 fn41 ?_
 refine go ?_
 refine RS.q (u:=.ptr 0 0 0) (σ':=⟨[(0,.row [.iM q01 p1.Nodes] 24)],1⟩) rfl (q3u rfl rfl rfl) ?_
 refine go ?_
 refine RS.q rfl (q0y und24 rfl (q03 inf22) rfl rfl rfl) (RS.q rfl (q0m und22 rfl rfl rfl rfl) (RS.q rfl (q0a rfl rfl rfl (q07 q01 und22)) ?_))
 refine go ?_
 refine cF hF (fun h2 hF=>?_) (fun h2 hF=>?_)
 exact gx hF
 refine go ?_
 refine gS (l':=[(1,_),(3,_)]) ?_
 refine z3e (fun m tm σ=>∃ z5:Int,q4f p1 m z5=some r∧tm=fr 23 [(1,.ptr 0 0 0),(3,.i6 z5)]∧σ=⟨[(0,.row [.iM q01 p1.Nodes] 24)],1⟩) (fun tm σ=>q87=some r∧tm=fr 23 []∧σ=⟨[(0,.row [.iM q01 p1.Nodes] 24)],1⟩) n ⟨0,hF,rfl,rfl⟩ ?_ ?_
 rintro _ _ ⟨hF,rfl,rfl⟩
 unfold q87 at hF
 exact gx hF
 rintro (_|m1) _ _ ⟨z5,hF,rfl,rfl⟩
 cases hF
 unfold q4f at hF
 refine go ?_
 refine RS.q rfl (q0y und24 rfl (q03 inf22) rfl rfl rfl) (RS.q rfl (q0m und22 rfl rfl rfl rfl) (RS.q rfl (q0a rfl rfl rfl (q07 q01 und22)) ?_))
 refine go ?_
 refine cF hF (fun h6 hF=>?_) (fun h6 hF=>?_)
 refine go ?_
 refine WPU.block ?_
 obtain ⟨x7,h8,hF⟩:=q00 hF
 refine go ?_
 refine RS.q rfl (q0y und24 rfl (q03 inf22) rfl rfl rfl) (RS.q rfl (q0m und22 rfl rfl rfl rfl) ?_)
 refine go ?_
 refine RS.q rfl (q0i rfl rfl (q09 q01 und22 (q03 inf54) q1p h8 rfl)) (RS.q rfl (q1q und54 rfl (q03 inf52) rfl rfl) (RS.q rfl (q0c und52 rfl rfl rfl) (RS.q rfl (q0a rfl rfl rfl (q07 q0e und52)) ?_)))
 refine go ?_
 refine cF hF (fun h9 hF=>?_) (fun h9 hF=>?_)
 exact gx hF
 refine go ?_
 exact lC ⟨_,hF,rfl,rfl⟩
 refine go ?_
 exact xC ⟨hF,rfl,rfl⟩
def q5o (z6:Int) (rc1:Int→(List Int)→Option ((List Int))) (l28:List Int):Option ((List Int)) :=
 rc1 (IntKind.i64.wrap (z6+1)) l28
def q3d (z6:Int) (rc1:Int→(List Int)→Option ((List Int))) (x12:q0n):Nat→Int→(List Int)→Option ((List Int))
 | 0,_,_=>none
 | m2+1,z25,l26 =>
  cond (decide (z25<(x12.Arcs.length:Int)))
   (q04 (q0u x12.Arcs z25) fun x31 =>
   q04 (q0u x12.Arcs z25) fun x33 =>
   q19 ((l26.length+2)*8≤140737488355328∧l26.length+2≤140737488355328) (
   (q3d z6 rc1 x12 m2) (IntKind.i64.wrap (z25+1)) (l26++[x31.Feat,x33.To])))
   (q5o z6 rc1 l26)
def q5n  (l9:List Int):Option ((List Int)) :=
 some l9
def q1x (p1:GFS) (n:Nat):Nat→Int→(List Int)→Option ((List Int))
 | 0,_,_=>none
 | m1+1,z6,l7 =>
  cond (decide (z6<(p1.Nodes.length:Int)))
   (q04 (q0u p1.Nodes z6) fun x12 =>
   q04 (q0u p1.Nodes z6) fun x14 =>
   q19 ((l7.length+2)*8≤140737488355328∧l7.length+2≤140737488355328) (
   q3d z6 (q1x p1 n m1) x12 n 0 (l7++[x14.Typex,(x12.Arcs.length:Int)])))
   (q5n l7)
def q56 (n:Nat) (p1:GFS):Option ((List Int)) :=
 q1x p1 n n 0 ([(p1.Nodes.length:Int)])
theorem qes (n:Nat) (p1:GFS) (r:(List Int)) (hF:q56 n p1=some r):EvU Tryz.prog 70 [.agg [.isl false (List.map q01 p1.Nodes)]] ⟨[],0⟩ (fun u _=>u = .isl false (List.map (cI .i64) r)∧Bel 0 u):=by
 unfold q56 at hF
 refine bg1 55 fn70 ?_
 refine go ?_
 refine RS.q (u:=.ptr 0 0 0) (σ':=⟨[(0,.row [.iM q01 p1.Nodes] 24)],1⟩) rfl (q3u rfl rfl rfl) ?_
 refine go ?_
 refine RS.q rfl (q0y und24 rfl (q03 inf22) rfl rfl rfl) (RS.q rfl (q0m und22 rfl rfl rfl rfl) (RS.q rfl (q0a rfl rfl rfl (q07 q01 und22)) (RS.step (u:=.vl 1 0 0 ([(p1.Nodes.length:Int)].length)) (σ':=⟨[(1,.vec (List.map (cI .i64) ([(p1.Nodes.length:Int)])).flatten 3 1 0),(0,.row [.iM q01 p1.Nodes] 24)],2⟩) rfl (qdy.bslv (cs:=(List.map (cI .i64) [(p1.Nodes.length:Int)]).flatten) Tryz.tb_ok rfl und33 inf3 rfl rfl rfl rfl rfl rfl rfl rfl) rfl rfl ?_)))
 refine go ?_
 refine gS (l':=[(1,_),(3,_),(4,_)]) ?_
 refine z3e (fun m tm σ=>∃ z6:Int,∃ l7:List Int,∃ t8:Nat,q1x p1 n m z6 l7=some r∧tm=fr 55 [(1,.ptr 0 0 0),(3,.vl 1 t8 0 l7.length),(4,.i6 z6)]∧σ=⟨[(1,.vec (List.map (cI .i64) l7).flatten 3 1 t8),(0,.row [.iM q01 p1.Nodes] 24)],2⟩) (fun tm σ=>∃ l9:List Int,∃ t10:Nat,q5n l9=some r∧tm=fr 55 [(3,.vl 1 t10 0 l9.length)]∧σ=⟨[(1,.vec (List.map (cI .i64) l9).flatten 3 1 t10),(0,.row [.iM q01 p1.Nodes] 24)],2⟩) n ⟨0,[(p1.Nodes.length:Int)],0,hF,rfl,rfl⟩ ?_ ?_
 rintro _ _ ⟨l9,t10,hF,rfl,rfl⟩
 unfold q5n at hF
 refine go ?_
 obtain rfl:=sI hF
 exact rT (us:=[.vl 1 t10 0 l9.length]) (u:=.iM (cI .i64) l9) (q2o rfl (q3b)) (fR 1 1)
 rintro (_|m1) _ _ ⟨z6,l7,t8,hF,rfl,rfl⟩
 cases hF
 unfold q1x at hF
 refine go ?_
 refine RS.q rfl (q0y und24 rfl (q03 inf22) rfl rfl rfl) (RS.q rfl (q0m und22 rfl rfl rfl rfl) (RS.q rfl (q0a rfl rfl rfl (q07 q01 und22)) ?_))
 refine go ?_
 refine cF hF (fun h11 hF=>?_) (fun h11 hF=>?_)
 refine go ?_
 refine WPU.block ?_
 obtain ⟨x12,h13,hF⟩:=q00 hF
 refine go ?_
 refine RS.q rfl (q0y und24 rfl (q03 inf22) rfl rfl rfl) (RS.q rfl (q0m und22 rfl rfl rfl rfl) ?_)
 refine go ?_
 refine RS.q rfl (q0i rfl rfl (q09 q01 und22 (q03 inf54) q1p h13 rfl)) (RS.q rfl (q1q und54 rfl (q03 inf52) rfl rfl) (RS.q rfl (q0c und52 rfl rfl rfl) ?_))
 obtain ⟨x14,h15,hF⟩:=q00 hF
 obtain ⟨h16,hF⟩:=q0b hF
 refine go ?_
 refine RS.q rfl (q0y und24 rfl (q03 inf22) rfl rfl rfl) (RS.q rfl (q0m und22 rfl rfl rfl rfl) ?_)
 refine go ?_
 refine RS.q rfl (q0i rfl rfl (q09 q01 und22 (q03 inf54) q1p h15 rfl)) (RS.q rfl (q1q und54 rfl (q03 inf3) rfl rfl) (RS.q rfl (q0c und3 rfl rfl rfl) ?_))
 refine go ?_
 refine RS.q rfl (q0a rfl rfl rfl (q07 q0e und52)) (RS.q (u:=.sl 2 0 2 2) (σ':=⟨[(2,.row [.i6 x14.Typex,.i6 (x12.Arcs.length:Int)] 3),(1,.vec (List.map (cI .i64) l7).flatten 3 1 t8),(0,.row [.iM q01 p1.Nodes] 24)],3⟩) rfl (q0j und33 inf3 rfl rfl rfl rfl rfl rfl rfl) (RS.q (u:=.vl 1 (t8+1) 0 ((l7++[x14.Typex,(x12.Arcs.length:Int)]).length)) (σ':=⟨[(2,.row [.i6 x14.Typex,.i6 (x12.Arcs.length:Int)] 3),(1,.vec (List.map (cI .i64) (l7++[x14.Typex,(x12.Arcs.length:Int)])).flatten 3 1 (t8+1)),(0,.row [.iM q01 p1.Nodes] 24)],3⟩) rfl (q1n rfl rfl rfl rfl (q23 (cI .i64) ([x14.Typex,(x12.Arcs.length:Int)]) und33 und33 inf3 rfl (q18 .i64) rfl (q1m (cI .i64) [x14.Typex,(x12.Arcs.length:Int)] rfl rfl rfl rfl) h16)) ?_))
 refine go ?_
 refine gS (l':=[(1,_),(3,_),(4,_),(5,_),(6,_)]) ?_
 refine z3e (fun m tm σ=>∃ z25:Int,∃ l26:List Int,∃ t27:Nat,q3d z6 (q1x p1 n m1) x12 m z25 l26=some r∧tm=fr 55 [(1,.ptr 0 0 0),(3,.vl 1 t27 0 l26.length),(4,.i6 z6),(5,.iM q0e x12.Arcs),(6,.i6 z25)]∧σ=⟨[(2,.row [.i6 x14.Typex,.i6 (x12.Arcs.length:Int)] 3),(1,.vec (List.map (cI .i64) l26).flatten 3 1 t27),(0,.row [.iM q01 p1.Nodes] 24)],3⟩) (fun tm σ=>∃ l28:List Int,∃ t29:Nat,q5o z6 (q1x p1 n m1) l28=some r∧tm=fr 55 [(1,.ptr 0 0 0),(3,.vl 1 t29 0 l28.length),(4,.i6 z6)]∧σ=⟨[(2,.row [.i6 x14.Typex,.i6 (x12.Arcs.length:Int)] 3),(1,.vec (List.map (cI .i64) l28).flatten 3 1 t29),(0,.row [.iM q01 p1.Nodes] 24)],3⟩) n ⟨0,(l7++[x14.Typex,(x12.Arcs.length:Int)]),(t8+1),hF,rfl,rfl⟩ ?_ ?_
 rintro _ _ ⟨l28,t29,hF,rfl,rfl⟩
 unfold q5o at hF
 refine go ?_
 exact lC ⟨_,l28,t29,hF,rfl,rfl⟩
 rintro (_|m2) _ _ ⟨z25,l26,t27,hF,rfl,rfl⟩
 cases hF
 unfold q3d at hF
 refine go ?_
 refine RS.q rfl (q0a rfl rfl rfl (q07 q0e und52)) ?_
 refine go ?_
 refine cF hF (fun h30 hF=>?_) (fun h30 hF=>?_)
 refine go ?_
 refine WPU.block ?_
 obtain ⟨x31,h32,hF⟩:=q00 hF
 obtain ⟨x33,h34,hF⟩:=q00 hF
 obtain ⟨h35,hF⟩:=q0b hF
 refine go ?_
 refine z3g Tryz.tb_ok [(0,11)] (by kernel_rfl) ?_
 repeat refine RD.mv rfl rfl rfl rfl ?_
 refine RD.q rfl (q0i rfl rfl (q09 q0e und52 (q03 inf66) q0t h32 rfl)) (RD.q rfl (q1q und66 rfl (q03 inf3) rfl rfl) (RD.q rfl (q0c und3 rfl rfl rfl) ?_))
 repeat refine RD.mv rfl rfl rfl rfl ?_
 refine RD.q rfl (q0i rfl rfl (q09 q0e und52 (q03 inf66) q0t h34 rfl)) (RD.q rfl (q1q und66 rfl (q03 inf3) rfl rfl) (RD.q rfl (q0c und3 rfl rfl rfl) (RD.act (u:=.sl 3 0 2 2) (σ':=⟨[(3,.row [.i6 x31.Feat,.i6 x33.To] 3),(2,.row [.i6 x14.Typex,.i6 (x12.Arcs.length:Int)] 3),(1,.vec (List.map (cI .i64) l26).flatten 3 1 t27),(0,.row [.iM q01 p1.Nodes] 24)],4⟩) rfl (q0j und33 inf3 rfl rfl rfl rfl rfl rfl rfl) rfl rfl (RD.act (u:=.vl 1 (t27+1) 0 ((l26++[x31.Feat,x33.To]).length)) (σ':=⟨[(3,.row [.i6 x31.Feat,.i6 x33.To] 3),(2,.row [.i6 x14.Typex,.i6 (x12.Arcs.length:Int)] 3),(1,.vec (List.map (cI .i64) (l26++[x31.Feat,x33.To])).flatten 3 1 (t27+1)),(0,.row [.iM q01 p1.Nodes] 24)],4⟩) rfl (q1n rfl rfl rfl rfl (q23 (cI .i64) ([x31.Feat,x33.To]) und33 und33 inf3 rfl (q18 .i64) rfl (q1m (cI .i64) [x31.Feat,x33.To] rfl rfl rfl rfl) h35)) rfl rfl (RD.as rfl rfl rfl rfl ?_)))))
 refine RD.done ⟨by kernel_rfl,⟨q1w rfl,trivial⟩,?_⟩
 refine go ?_
 exact lC ⟨_,(l26++[x31.Feat,x33.To]),(t27+1),hF,rfl,rfl⟩
 refine go ?_
 exact xC ⟨l26,t27,hF,rfl,rfl⟩
 refine go ?_
 exact xC ⟨l7,t8,hF,rfl,rfl⟩
def q44   : Option (Int) :=
 some 0
def q3c (r3:(List Int)) (r5:(List Int)):Nat→Int→Option (Int)
 | 0,_=>none
 | m1+1,z12 =>
  q04 (cond (decide (z12<(r3.length:Int)))
   (some (decide (z12<(r5.length:Int))))
   (some false)) fun b14 =>
  cond b14
   (q04 (q0u r3 z12) fun x17 =>
   q04 (q0u r5 z12) fun x19 =>
   cond (decide (x17<x19))
    (some (-1))
    (q04 (q0u r3 z12) fun x22 =>
    q04 (q0u r5 z12) fun x24 =>
    cond (decide (x22 > x24))
     (some 1)
     ((q3c r3 r5 m1) (IntKind.i64.wrap (z12+1)))))
   (q44)
def q6t (n:Nat) (p1:GFS) (p2:GFS):Option (Int) :=
 q04 (q56 n p1) fun r3 =>
 q04 (q56 n p2) fun r5 =>
 q3c r3 r5 n 0
theorem qm1 (n:Nat) (p1:GFS) (p2:GFS) (r:Int) (hF:q6t n p1 p2=some r):EvU Tryz.prog 50 [.agg [.isl false (List.map q01 p1.Nodes)],.agg [.isl false (List.map q01 p2.Nodes)]] ⟨[],0⟩ (fun u _=>u = .int .i64 r∧Bel 0 u):=by
 unfold q6t at hF
 refine bg2 42 fn50 ?_
 refine go ?_
 refine RS.q (u:=.ptr 0 0 0) (σ':=⟨[(0,.row [.iM q01 p1.Nodes] 24)],1⟩) rfl (q3u rfl rfl rfl) (RS.q (u:=.ptr 1 0 0) (σ':=⟨[(1,.row [.iM q01 p2.Nodes] 24),(0,.row [.iM q01 p1.Nodes] 24)],2⟩) rfl (q3u rfl rfl rfl) ?_)
 obtain ⟨r3,h4,hF⟩:=q00 hF
 refine go ?_
 refine RS.q (u:=.agg [.iM q01 p1.Nodes]) rfl (q1b und24 rfl (q03 inf24) rfl rfl rfl) (RS.cl rfl (pC (qes n p1 r3 h4) _) fn70 ?_)
 obtain ⟨r5,h6,hF⟩:=q00 hF
 refine go ?_
 refine RS.q (u:=.agg [.iM q01 p2.Nodes]) rfl (q1b und24 rfl (q03 inf24) rfl rfl rfl) (RS.cl rfl (pC (qes n p2 r5 h6) _) fn70 ?_)
 refine go ?_
 refine gS (l':=[(5,_),(6,_),(7,_)]) ?_
 refine z3e (fun m tm σ=>∃ z12:Int,q3c r3 r5 m z12=some r∧tm=fr 42 [(5,.iM (cI .i64) r3),(6,.iM (cI .i64) r5),(7,.i6 z12)]∧σ=⟨[(1,.row [.iM q01 p2.Nodes] 24),(0,.row [.iM q01 p1.Nodes] 24)],2⟩) (fun tm σ=>q44=some r∧tm=fr 42 []∧σ=⟨[(1,.row [.iM q01 p2.Nodes] 24),(0,.row [.iM q01 p1.Nodes] 24)],2⟩) n ⟨0,hF,rfl,rfl⟩ ?_ ?_
 rintro _ _ ⟨hF,rfl,rfl⟩
 unfold q44 at hF
 exact gx hF
 rintro (_|m1) _ _ ⟨z12,hF,rfl,rfl⟩
 cases hF
 unfold q3c at hF
 obtain ⟨b14,h15,hF⟩:=q00 hF
 refine gn ?_
 refine z3f (fun tm σ=>tm=fr 42 [(5,.iM (cI .i64) r3),(6,.iM (cI .i64) r5),(7,.i6 z12),(21,.bool b14)]∧σ=⟨[(1,.row [.iM q01 p2.Nodes] 24),(0,.row [.iM q01 p1.Nodes] 24)],2⟩) ?_ ?_
 rintro _ _ ⟨rfl,rfl⟩
 refine go ?_
 refine cF hF (fun h16 hF=>?_) (fun h16 hF=>?_)
 refine go ?_
 refine WPU.block ?_
 obtain ⟨x17,h18,hF⟩:=q00 hF
 obtain ⟨x19,h20,hF⟩:=q00 hF
 refine go ?_
 refine z3g Tryz.tb_ok [] (by kernel_rfl) ?_
 repeat refine RD.mv rfl rfl rfl rfl ?_
 refine RD.q rfl (q0i rfl rfl (q09 (cI .i64) und33 (q03 inf3) (q18 .i64) h18 rfl)) (RD.q rfl (q0c und3 rfl rfl rfl) ?_)
 repeat refine RD.mv rfl rfl rfl rfl ?_
 refine RD.q rfl (q0i rfl rfl (q09 (cI .i64) und33 (q03 inf3) (q18 .i64) h20 rfl)) (RD.q rfl (q0c und3 rfl rfl rfl) (RD.q rfl (q2y rfl rfl (qwl _ _ _) rfl) ?_))
 refine RD.done ⟨by kernel_rfl,trivial,?_⟩
 refine go ?_
 refine cF hF (fun h21 hF=>?_) (fun h21 hF=>?_)
 exact gx hF
 obtain ⟨x22,h23,hF⟩:=q00 hF
 obtain ⟨x24,h25,hF⟩:=q00 hF
 refine go ?_
 refine z3g Tryz.tb_ok [] (by kernel_rfl) ?_
 repeat refine RD.mv rfl rfl rfl rfl ?_
 refine RD.q rfl (q0i rfl rfl (q09 (cI .i64) und33 (q03 inf3) (q18 .i64) h23 rfl)) (RD.q rfl (q0c und3 rfl rfl rfl) ?_)
 repeat refine RD.mv rfl rfl rfl rfl ?_
 refine RD.q rfl (q0i rfl rfl (q09 (cI .i64) und33 (q03 inf3) (q18 .i64) h25 rfl)) (RD.q rfl (q0c und3 rfl rfl rfl) (RD.q rfl (q2y rfl rfl (qli _ _ _) rfl) ?_))
 refine RD.done ⟨by kernel_rfl,trivial,?_⟩
 refine go ?_
 refine cF hF (fun h26 hF=>?_) (fun h26 hF=>?_)
 exact gx hF
 refine go ?_
 exact lC ⟨_,hF,rfl,rfl⟩
 refine go ?_
 exact xC ⟨hF,rfl,rfl⟩
 rcases gB h15 with ⟨h13,h15⟩ | ⟨h13,h15⟩
 obtain rfl:=sI h15
 refine go ?_
 refine RS.q rfl (q0a rfl rfl rfl (q07 (cI .i64) und33)) ?_
 refine go ?_
 refine RS.w rfl (q0a rfl rfl rfl (q07 (cI .i64) und33)) ?_
 refine go ?_
 exact xC ⟨rfl,rfl⟩
 obtain rfl:=sI h15
 refine go ?_
 refine RS.q rfl (q0a rfl rfl rfl (q07 (cI .i64) und33)) ?_
 refine go ?_
 exact xC ⟨rfl,rfl⟩
def q7d (n:Nat) (p1:GFS) (p2:GFS):Option (Bool) :=
 q04 (q6t n p1 p2) fun r3 =>
 some (r3 == 0)
theorem q3x (n:Nat) (p1:GFS) (p2:GFS) (r:Bool) (hF:q7d n p1 p2=some r):EvU Tryz.prog 21 [.agg [.isl false (List.map q01 p1.Nodes)],.agg [.isl false (List.map q01 p2.Nodes)]] ⟨[],0⟩ (fun u _=>u = .bool r∧Bel 0 u):=by
 unfold q7d at hF
 refine bg2 9 fn21 ?_
 refine go ?_
 refine RS.q (u:=.ptr 0 0 0) (σ':=⟨[(0,.row [.iM q01 p1.Nodes] 24)],1⟩) rfl (q3u rfl rfl rfl) (RS.q (u:=.ptr 1 0 0) (σ':=⟨[(1,.row [.iM q01 p2.Nodes] 24),(0,.row [.iM q01 p1.Nodes] 24)],2⟩) rfl (q3u rfl rfl rfl) ?_)
 obtain ⟨r3,h4,hF⟩:=q00 hF
 refine go ?_
 refine RS.q (u:=.agg [.iM q01 p1.Nodes]) rfl (q1b und24 rfl (q03 inf24) rfl rfl rfl) (RS.q (u:=.agg [.iM q01 p2.Nodes]) rfl (q1b und24 rfl (q03 inf24) rfl rfl rfl) (RS.cl rfl (pC (qm1 n p1 p2 r3 h4) _) fn50 ?_))
 exact gx hF
def qeh   : Option (Int×Bool) :=
 some (0,false)
def q8d (p3:Int) (x4:q0n):Nat→Int→Option (Int×Bool)
 | 0,_=>none
 | m1+1,z11 =>
  cond (decide (z11<(x4.Arcs.length:Int)))
   (q04 (q0u x4.Arcs z11) fun x13 =>
   cond (x13.Feat == p3)
    (some (x13.To,true))
    ((q8d p3 x4 m1) (IntKind.i64.wrap (z11+1))))
   (qeh)
def qc6 (n:Nat) (p1:GFS) (p2:Int) (p3:Int):Option (Int×Bool) :=
 q04 (q0u p1.Nodes p2) fun x4 =>
 q8d p3 x4 n 0
theorem qrz (n:Nat) (p1:GFS) (p2:Int) (p3:Int) (r:Int×Bool) (hF:qc6 n p1 p2 p3=some r):EvU Tryz.prog 59 [.agg [.isl false (List.map q01 p1.Nodes)],.int .i64 p2,.int .i64 p3] ⟨[],0⟩ (fun u _=>u = .tup [.int .i64 r.1,.bool r.2]∧Bel 0 u):=by
 unfold qc6 at hF
 refine bg3 28 fn59 ?_
 refine go ?_
 refine RS.q (u:=.ptr 0 0 0) (σ':=⟨[(0,.row [.iM q01 p1.Nodes] 24)],1⟩) rfl (q3u rfl rfl rfl) ?_
 obtain ⟨x4,h5,hF⟩:=q00 hF
 refine go ?_
 refine RS.q rfl (q0y und24 rfl (q03 inf22) rfl rfl rfl) (RS.q rfl (q0m und22 rfl rfl rfl rfl) ?_)
 refine go ?_
 refine RS.q rfl (q0i rfl rfl (q09 q01 und22 (q03 inf54) q1p h5 rfl)) (RS.q rfl (q1q und54 rfl (q03 inf52) rfl rfl) (RS.q rfl (q0c und52 rfl rfl rfl) (RS.q rfl (q0a rfl rfl rfl (q07 q0e und52)) ?_)))
 refine go ?_
 refine gS (l':=[(2,_),(15,_),(16,_),(17,_)]) ?_
 refine z3e (fun m tm σ=>∃ z11:Int,q8d p3 x4 m z11=some r∧tm=fr 28 [(2,.i6 p3),(15,.iM q0e x4.Arcs),(16,.i6 (x4.Arcs.length:Int)),(17,.i6 z11)]∧σ=⟨[(0,.row [.iM q01 p1.Nodes] 24)],1⟩) (fun tm σ=>qeh=some r∧tm=fr 28 []∧σ=⟨[(0,.row [.iM q01 p1.Nodes] 24)],1⟩) n ⟨0,hF,rfl,rfl⟩ ?_ ?_
 rintro _ _ ⟨hF,rfl,rfl⟩
 unfold qeh at hF
 refine go ?_
 obtain rfl:=sI hF
 exact rt2 rfl rfl rfl rfl rfl
 rintro (_|m1) _ _ ⟨z11,hF,rfl,rfl⟩
 cases hF
 unfold q8d at hF
 refine go ?_
 refine cF hF (fun h12 hF=>?_) (fun h12 hF=>?_)
 refine go ?_
 refine WPU.block ?_
 obtain ⟨x13,h14,hF⟩:=q00 hF
 refine go ?_
 refine RS.q rfl (q0i rfl rfl (q09 q0e und52 (q03 inf66) q0t h14 rfl)) (RS.q (u:=.agg (q0e x13)) rfl (q8u und66 rfl (q03 inf66) rfl rfl) (RS.q (u:=.ptr 1 0 0) (σ':=⟨[(1,.row [.i6 0,.i6 0] 66),(0,.row [.iM q01 p1.Nodes] 24)],2⟩) rfl (q1e inf66 rfl rfl) ?_))
 refine z3i (u:=.junk) (σ':=⟨[(1,.row (q0e x13) 66),(0,.row [.iM q01 p1.Nodes] 24)],2⟩) rfl (q0r (q03 inf66) rfl rfl rfl rfl rfl rfl rfl rfl) rfl ?_
 refine go ?_
 refine RS.q rfl (q0y und66 rfl (q03 inf3) rfl rfl rfl) (RS.q rfl (q0m und3 rfl rfl rfl rfl) ?_)
 refine go ?_
 refine cF hF (fun h15 hF=>?_) (fun h15 hF=>?_)
 refine go ?_
 refine RS.q rfl (q0y und66 rfl (q03 inf3) rfl rfl rfl) (RS.q rfl (q0m und3 rfl rfl rfl rfl) ?_)
 refine go ?_
 obtain rfl:=sI hF
 exact rt2 rfl rfl rfl rfl rfl
 refine go ?_
 exact lC ⟨_,hF,rfl,rfl⟩
 refine go ?_
 exact xC ⟨hF,rfl,rfl⟩
def qiu  (z10:Int):Option (Int×Bool) :=
 some (z10,true)
def qc4 (p1:GFS) (p2:List Int) (n:Nat):Nat→Int→Int→Option (Int×Bool)
 | 0,_,_=>none
 | m1+1,z8,z9 =>
  cond (decide (z9<(p2.length:Int)))
   (q04 (q0u p2 z9) fun x12 =>
   q04 (qc6 n p1 z8 x12) fun r14 =>
   cond (!r14.2)
    (some (0,false))
    ((qc4 p1 p2 n m1) r14.1 (IntKind.i64.wrap (z9+1))))
   (qiu z8)
def qga (n:Nat) (p1:GFS) (p2:List Int):Option (Int×Bool) :=
 qc4 p1 p2 n n 0 0
theorem qhn (n:Nat) (p1:GFS) (p2:List Int) (r:Int×Bool) (hF:qga n p1 p2=some r):EvU Tryz.prog 30 [.agg [.isl false (List.map q01 p1.Nodes)],.isl false (List.map (cI .i64) p2)] ⟨[],0⟩ (fun u _=>u = .tup [.int .i64 r.1,.bool r.2]∧Bel 0 u):=by
 unfold qga at hF
 refine bg2 29 fn30 ?_
 refine go ?_
 refine RS.q (u:=.ptr 0 0 0) (σ':=⟨[(0,.row [.iM q01 p1.Nodes] 24)],1⟩) rfl (q3u rfl rfl rfl) ?_
 refine go ?_
 refine RS.q rfl (q0a rfl rfl rfl (q07 (cI .i64) und33)) ?_
 refine go ?_
 refine gS (l':=[(2,_),(6,_),(11,_),(12,_),(13,_)]) ?_
 refine z3e (fun m tm σ=>∃ z8:Int,∃ z9:Int,qc4 p1 p2 n m z8 z9=some r∧tm=fr 29 [(2,.ptr 0 0 0),(6,.i6 z8),(11,.iM (cI .i64) p2),(12,.i6 (p2.length:Int)),(13,.i6 z9)]∧σ=⟨[(0,.row [.iM q01 p1.Nodes] 24)],1⟩) (fun tm σ=>∃ z10:Int,qiu z10=some r∧tm=fr 29 [(6,.i6 z10)]∧σ=⟨[(0,.row [.iM q01 p1.Nodes] 24)],1⟩) n ⟨0,0,hF,rfl,rfl⟩ ?_ ?_
 rintro _ _ ⟨z10,hF,rfl,rfl⟩
 unfold qiu at hF
 refine go ?_
 obtain rfl:=sI hF
 exact rt2 rfl rfl rfl rfl rfl
 rintro (_|m1) _ _ ⟨z8,z9,hF,rfl,rfl⟩
 cases hF
 unfold qc4 at hF
 refine go ?_
 refine cF hF (fun h11 hF=>?_) (fun h11 hF=>?_)
 refine go ?_
 refine WPU.block ?_
 obtain ⟨x12,h13,hF⟩:=q00 hF
 refine go ?_
 refine RS.q rfl (q0i rfl rfl (q09 (cI .i64) und33 (q03 inf3) (q18 .i64) h13 rfl)) (RS.q rfl (q0c und3 rfl rfl rfl) ?_)
 obtain ⟨r14,h15,hF⟩:=q00 hF
 refine go ?_
 refine RS.q (u:=.agg [.iM q01 p1.Nodes]) rfl (q1b und24 rfl (q03 inf24) rfl rfl rfl) ?_
 refine go ?_
 refine RS.cl rfl (pC (qrz n p1 z8 x12 r14 h15) _) fn59 ?_
 refine go ?_
 refine cF hF (fun h16 hF=>?_) (fun h16 hF=>?_)
 refine go ?_
 obtain rfl:=sI hF
 exact rt2 rfl rfl rfl rfl rfl
 refine go ?_
 exact lC ⟨r14.1,(IntKind.i64.wrap (z9+1)),hF,rfl,rfl⟩
 refine go ?_
 exact xC ⟨z8,hF,rfl,rfl⟩
def qlu (n:Nat) (p1:GFS) (p2:List Int):Option (Int×Bool) :=
 q04 (qga n p1 p2) fun r3 =>
 cond (!r3.2)
  (some (0,false))
  (q04 (q0u p1.Nodes r3.1) fun x6 =>
  some (x6.Typex,true))
theorem qry (n:Nat) (p1:GFS) (p2:List Int) (r:Int×Bool) (hF:qlu n p1 p2=some r):EvU Tryz.prog 36 [.agg [.isl false (List.map q01 p1.Nodes)],.isl false (List.map (cI .i64) p2)] ⟨[],0⟩ (fun u _=>u = .tup [.int .i64 r.1,.bool r.2]∧Bel 0 u):=by
 unfold qlu at hF
 refine bg2 22 fn36 ?_
 refine go ?_
 refine RS.q (u:=.ptr 0 0 0) (σ':=⟨[(0,.row [.iM q01 p1.Nodes] 24)],1⟩) rfl (q3u rfl rfl rfl) ?_
 obtain ⟨r3,h4,hF⟩:=q00 hF
 refine go ?_
 refine RS.q (u:=.agg [.iM q01 p1.Nodes]) rfl (q1b und24 rfl (q03 inf24) rfl rfl rfl) ?_
 refine go ?_
 refine RS.cl rfl (pC (qhn n p1 p2 r3 h4) _) fn30 ?_
 refine go ?_
 refine cF hF (fun h5 hF=>?_) (fun h5 hF=>?_)
 refine go ?_
 obtain rfl:=sI hF
 exact rt2 rfl rfl rfl rfl rfl
 obtain ⟨x6,h7,hF⟩:=q00 hF
 refine go ?_
 refine RS.q rfl (q0y und24 rfl (q03 inf22) rfl rfl rfl) (RS.q rfl (q0m und22 rfl rfl rfl rfl) ?_)
 refine go ?_
 refine RS.q rfl (q0i rfl rfl (q09 q01 und22 (q03 inf54) q1p h7 rfl)) (RS.q rfl (q1q und54 rfl (q03 inf3) rfl rfl) (RS.q rfl (q0c und3 rfl rfl rfl) ?_))
 refine go ?_
 obtain rfl:=sI hF
 exact rt2 rfl rfl rfl rfl rfl
def q7j (n:Nat) (p1:GFS):Option ((List q0n)) :=
 some p1.Nodes
theorem qk1 (n:Nat) (p1:GFS) (r:(List q0n)) (hF:q7j n p1=some r):EvU Tryz.prog 46 [.agg [.isl false (List.map q01 p1.Nodes)]] ⟨[],0⟩ (fun u σ'=>∃ t:Nat→Nat,u = .fn (.func 69) [] [.iptr [.isl false (List.map q01 r)]]∧σ'=⟨[],0⟩):=by
 unfold q7j at hF
 refine bg1 4 fn46 ?_
 refine go ?_
 refine RS.q (u:=.ptr 0 0 0) (σ':=⟨[(0,.row [.iM q01 p1.Nodes] 24)],1⟩) rfl (q3u rfl rfl rfl) ?_
 refine go ?_
 refine RS.q rfl (op_fun rfl rfl) ?_
 refine go ?_
 obtain rfl:=sI hF
 exact ⟨.inr rfl,[.fn (.func 69) [] [.ptr 0 0 0]],q2o rfl (q3b),.fn (.func 69) [] [.iptr [.iM q01 p1.Nodes]],⟨[],0⟩,NL,Gh.trans (z3h 0 1) (Gh.to (n1:=0) [] rfl rfl NL NL BUL.h BH.h),stF [],rfl,rfl⟩
def q3e (n:Nat) (p1:List Int):Option ((List Int)) :=
 qym p1 fun b2 =>
 cond b2
  (some ([]:List Int))
  (q19 (p1.length*8≤140737488355328∧p1.length≤140737488355328) (
  some p1))
theorem qaz (n:Nat) (p1:List Int) (r:(List Int)) (hF:q3e n p1=some r):EvU Tryz.prog 48 [.isl false (List.map (cI .i64) p1)] ⟨[],0⟩ (fun u σ'=>∃ t,u = .vl 1 t 0 r.length∧σ'=⟨[(1,.vec (List.map (cI .i64) r).flatten 3 1 t)],1+1⟩):=by
 unfold q3e at hF
 refine bg1 8 fn48 ?_
 refine go ?_
 refine RS.nilq rfl rfl und33 rfl rfl rfl rfl ?_
 intro b2 h3
 replace hF:=qua hF b2 fun h=>List.map_eq_nil_iff.1 (h3 h)
 refine go ?_
 refine cF hF (fun h4 hF=>?_) (fun h4 hF=>?_)
 refine go ?_
 obtain rfl:=sI hF
 exact ⟨.inr rfl,[.nils],q2o rfl q3b,.vl 1 0 0 0,⟨[(1,.vec (List.map (cI .i64) ([]:List Int)).flatten 3 1 0)],2⟩,NZ,Gh.trans (Gh.fresh (tm:=[.nils]) 3 1 (by decide) NZ) (Gh.trans (Gh.nilvec (tm:=[.nils]) 0 3 1 (by decide) NZ rfl) (Gh.trans (Gh.only (fun k=>Nat.beq k 1)) (Gh.to (n1:=2) [] rfl rfl NZ NL BUL.h BH.h))),0,rfl,rfl⟩
 obtain ⟨h5,hF⟩:=q0b hF
 refine go ?_
 refine RS.q (u:=.sl 0 0 0 0) (σ':=⟨[(0,.row [] 3)],1⟩) rfl (q0j und33 inf3 rfl rfl rfl rfl rfl rfl rfl) ?_
 refine go ?_
 refine RS.q (u:=.vl 1 0 0 p1.length) (σ':=⟨[(1,.vec (List.map (cI .i64) p1).flatten 3 1 0),(0,.row [] 3)],2⟩) rfl (q1n rfl rfl rfl rfl (qra (cI .i64) p1 und33 und33 inf3 rfl rfl rfl (qgq (cI .i64) (q18 .i64)) h5)) ?_
 refine go ?_
 obtain rfl:=sI hF
 exact ⟨.inr rfl,[.vl 1 0 0 p1.length],q2o rfl q3b,.vl 1 0 0 p1.length,⟨[(1,.vec (List.map (cI .i64) p1).flatten 3 1 0)],2⟩,NZ,Gh.trans (Gh.only (fun k=>Nat.beq k 1)) (Gh.to (n1:=2) [] rfl rfl NZ NL BUL.h BH.h),0,rfl,rfl⟩
def q6e (z51:Int) (rc4:Int→(List (List Int))→(List Int)→(List Bool)→Option ((List (List Int)))) (l68:List (List Int)) (l70:List Int) (l72:List Bool):Option ((List (List Int))) :=
 rc4 (IntKind.i64.wrap (z51+1)) l68 l70 l72
def q6f (z17:Int) (l23:List (List Int)) (rc2:Int→(List (List Int))→(List Int)→(List Bool)→(List (List Int))→Option ((List (List Int)))) (x32:Int) (x34:List Int) (l57:List (List Int)) (l59:List Int) (l61:List Bool):Option ((List (List Int))) :=
 rc2 (IntKind.i64.wrap (z17+1)) l57 l59 l61 (l23.set x32.toNat x34)
def q3f (n:Nat) (r3:(List q0n)) (z17:Int) (l23:List (List Int)) (rc2:Int→(List (List Int))→(List Int)→(List Bool)→(List (List Int))→Option ((List (List Int)))) (x32:Int) (x34:List Int) (x38:q0n):Nat→Int→(List (List Int))→(List Int)→(List Bool)→Option ((List (List Int)))
 | 0,_,_,_,_=>none
 | m4+1,z51,l52,l54,l56 =>
  cond (decide (z51<(x38.Arcs.length:Int)))
   (q04 (q0u x38.Arcs z51) fun x63 =>
   q04 (qgs l56 0 ((r3.length:Int).toNat) x63.To) fun x65 =>
   cond (!x65)
    (q04 (qgs l56 0 ((r3.length:Int).toNat) x63.To) fun x73 =>
    q19 ((l54.length+1)*8≤140737488355328∧l54.length+1≤140737488355328) (
    q04 (q0u l52 z17) fun x76 =>
    q04 (q3e n x76) fun r78 =>
    q19 ((r78.length+([x63.Feat]).length)*8≤140737488355328∧r78.length+([x63.Feat]).length≤140737488355328) (
    q19 ((l52.length+1)*24≤140737488355328∧l52.length+1≤140737488355328) (
    q6e z51 (q3f n r3 z17 l23 rc2 x32 x34 x38 m4) (l52++[(r78++[x63.Feat])]) (l54++[x63.To]) (l56.set x63.To.toNat true)))))
    (q6e z51 (q3f n r3 z17 l23 rc2 x32 x34 x38 m4) l52 l54 l56))
   (q6f z17 l23 rc2 x32 x34 l52 l54 l56)
def q92 (n:Nat) (r3:(List q0n)) (z17:Int) (l18:List (List Int)) (l20:List Int) (l22:List Bool) (l23:List (List Int)) (rc2:Int→(List (List Int))→(List Int)→(List Bool)→(List (List Int))→Option ((List (List Int)))) (x32:Int) (x34:List Int)  : Option ((List (List Int))) :=
 q04 (q0u l20 z17) fun x36 =>
 q04 (q0u r3 x36) fun x38 =>
 q3f n r3 z17 l23 rc2 x32 x34 x38 n 0 l18 l20 l22
def q91 (p1:GFS) (l24:List (List Int)) (l26:List Int) (l28:List Bool) (l29:List (List Int)):Option ((List (List Int))) :=
 q19 ((p1.Nodes.length:Int).toNat=l29.length) (
 some l29)
def q28 (p1:GFS) (n:Nat) (r3:(List q0n)):Nat→Int→(List (List Int))→(List Int)→(List Bool)→(List (List Int))→Option ((List (List Int)))
 | 0,_,_,_,_,_=>none
 | m2+1,z17,l18,l20,l22,l23 =>
  cond (decide (z17<(l20.length:Int)))
   (q04 (q0u l20 z17) fun x32 =>
   q04 (q0u l18 z17) fun x34 =>
   q04 (qgs l23 0 ((p1.Nodes.length:Int).toNat) x32) fun x82 =>
   q92 n r3 z17 l18 l20 l22 l23 (q28 p1 n r3 m2) x32 x34)
   (q91 p1 l18 l20 l22 l23)
def q9r (n:Nat) (p1:GFS):Option ((List (List Int))) :=
 q19 (0≤(p1.Nodes.length:Int)∧24*(p1.Nodes.length:Int).toNat≤281474976710656∧(p1.Nodes.length:Int)≤281474976710656) (
 q04 (q7j n p1) fun r3 =>
 q19 (0≤(r3.length:Int)∧1*(r3.length:Int).toNat≤281474976710656∧(r3.length:Int)≤281474976710656) (
 q04 (qgs (List.replicate (r3.length:Int).toNat false) 0 ((r3.length:Int).toNat) 0) fun x7 =>
 q28 p1 n r3 n 0 ([[]]:List (List Int)) ([0]) ((List.replicate (r3.length:Int).toNat false).set (0:Int).toNat true) (List.replicate (p1.Nodes.length:Int).toNat [])))
theorem qaw (n:Nat) (p1:GFS) (r:(List (List Int))) (hF:q9r n p1=some r):EvU Tryz.prog 15 [.agg [.isl false (List.map q01 p1.Nodes)]] ⟨[],0⟩ (fun u _=>u = .isl false (List.map (cL (cI .i64)) r)∧Bel 0 u):=by
 unfold q9r at hF
 refine EvU.of_bodyM Tryz.tb_ok fn15 rfl ?_
 refine WPU.ghost (tm':=fr 19 [(0,.agg [.iM q01 p1.Nodes])]) (Gh.start NL) NL ?_
 refine go ?_
 refine RS.q (u:=.ptr 0 0 0) (σ':=⟨[(0,.row [.iM q01 p1.Nodes] 24)],1⟩) rfl (q3u rfl rfl rfl) ?_
 obtain ⟨h2,hF⟩:=q0b hF
 refine go ?_
 refine RS.q rfl (q0y und24 rfl (q03 inf22) rfl rfl rfl) (RS.q rfl (q0m und22 rfl rfl rfl rfl) (RS.q rfl (q0a rfl rfl rfl (q07 q01 und22)) (RS.q (u:=.sl 1 0 ((p1.Nodes.length:Int).toNat) ((p1.Nodes.length:Int).toNat)) (σ':=⟨[(1,.row (List.map (cL (cI .i64)) (List.replicate (p1.Nodes.length:Int).toNat [])).flatten 33),(0,.row [.iM q01 p1.Nodes] 24)],2⟩) rfl (qx6 (cL (cI .i64)) [] rfl rfl und28 inf33 rfl rfl rfl rfl h2) (RS.q (u:=.ptr 2 0 0) (σ':=⟨[(2,.row [.nils] 28),(1,.row (List.map (cL (cI .i64)) (List.replicate (p1.Nodes.length:Int).toNat [])).flatten 33),(0,.row [.iM q01 p1.Nodes] 24)],3⟩) rfl (q1e inf28 rfl rfl) ?_))))
 refine z3i (u:=.junk) (σ':=⟨[(2,.row [.sl 1 0 ((p1.Nodes.length:Int).toNat) ((p1.Nodes.length:Int).toNat)] 28),(1,.row (List.map (cL (cI .i64)) (List.replicate (p1.Nodes.length:Int).toNat [])).flatten 33),(0,.row [.iM q01 p1.Nodes] 24)],3⟩) rfl (q0r (q03 inf28) rfl rfl rfl rfl rfl rfl rfl rfl) rfl ?_
 obtain ⟨r3,h4,hF⟩:=q00 hF
 refine go ?_
 refine RS.q (u:=.agg [.iM q01 p1.Nodes]) rfl (q1b und24 rfl (q03 inf24) rfl rfl rfl) ?_
 refine z3r (R:=fun u σ'=>∃ t5:Nat→Nat,u = .fn (.func 69) [] [.iptr [.iM q01 r3]]∧σ'=⟨[(2,.row [.sl 1 0 ((p1.Nodes.length:Int).toNat) ((p1.Nodes.length:Int).toNat)] 28),(1,.row (List.map (cL (cI .i64)) (List.replicate (p1.Nodes.length:Int).toNat [])).flatten 33),(0,.row [.iM q01 p1.Nodes] 24)],3⟩) (args:=[.agg [.iM q01 p1.Nodes]]) rfl (qcs rfl rfl fn46 hb46 rfl rfl) (EvU.st [] (qk1 n p1 r3 h4 )) rfl rfl ?_
 rintro _ _ ⟨t5,rfl,rfl⟩
 refine go ?_
 refine WPU.block ?_
 refine gn ?_
 refine gS (l':=[(3,_),(11,_)]) ?_
 refine WPU.range Tryz.tb_ok rfl (fun _ h=>h) (q2f rfl) fn69 rfl rfl ?_
 intro ly1 fn1 tp1 D1
 refine WPU.ghost (tm':=fr 76 [(0,.fn (.yield ly1) [] []),(1,.iptr [.iM q01 r3])]) (Gh.start NL) (Nat.le_refl _) ?_
 obtain ⟨h6,hF⟩:=q0b hF
 refine go ?_
 refine RS.q rfl (q1q und24 rfl (q03 inf22) rfl rfl) (RS.q rfl (q0c und22 rfl rfl rfl) (RS.q rfl (q0a rfl rfl rfl (q07 q01 und22)) (RS.q (u:=.sl 3 0 ((r3.length:Int).toNat) ((r3.length:Int).toNat)) (σ':=⟨[(3,.row (List.map cB (List.replicate (r3.length:Int).toNat false)).flatten 4),(2,.row [.sl 1 0 ((p1.Nodes.length:Int).toNat) ((p1.Nodes.length:Int).toNat)] 28),(1,.row (List.map (cL (cI .i64)) (List.replicate (p1.Nodes.length:Int).toNat [])).flatten 33),(0,.row [.iM q01 p1.Nodes] 24)],4⟩) rfl (qx6 cB false rfl rfl und75 inf4 rfl rfl rfl rfl h6) ?_)))
 obtain ⟨x7,h8,hF⟩:=q00 hF
 refine go ?_
 refine RS.q rfl (q0i rfl rfl (quj und75 (q03 inf4) rfl h8)) ?_
 refine z3i (u:=.junk) (σ':=⟨[(3,.row (List.map cB ((List.replicate (r3.length:Int).toNat false).set (0:Int).toNat true)).flatten 4),(2,.row [.sl 1 0 ((p1.Nodes.length:Int).toNat) ((p1.Nodes.length:Int).toNat)] 28),(1,.row (List.map (cL (cI .i64)) (List.replicate (p1.Nodes.length:Int).toNat [])).flatten 33),(0,.row [.iM q01 p1.Nodes] 24)],4⟩) rfl (z05 cB (q03 inf4) z1d rfl rfl rfl rfl rfl rfl h8 rfl) rfl ?_
 refine go ?_
 refine RS.step (u:=.vl 4 0 0 ([0].length)) (σ':=⟨[(4,.vec (List.map (cI .i64) ([0])).flatten 3 1 0),(3,.row (List.map cB ((List.replicate (r3.length:Int).toNat false).set (0:Int).toNat true)).flatten 4),(2,.row [.sl 1 0 ((p1.Nodes.length:Int).toNat) ((p1.Nodes.length:Int).toNat)] 28),(1,.row (List.map (cL (cI .i64)) (List.replicate (p1.Nodes.length:Int).toNat [])).flatten 33),(0,.row [.iM q01 p1.Nodes] 24)],5⟩) rfl (qdy.bslv (cs:=(List.map (cI .i64) [0]).flatten) Tryz.tb_ok rfl und33 inf3 rfl rfl rfl rfl rfl rfl rfl rfl) rfl rfl (RS.step (u:=.vl 5 0 0 (([[]]:List (List Int)).length)) (σ':=⟨[(5,.vec (List.map (cL (cI .i64)) ([[]]:List (List Int))).flatten 33 1 0),(4,.vec (List.map (cI .i64) ([0])).flatten 3 1 0),(3,.row (List.map cB ((List.replicate (r3.length:Int).toNat false).set (0:Int).toNat true)).flatten 4),(2,.row [.sl 1 0 ((p1.Nodes.length:Int).toNat) ((p1.Nodes.length:Int).toNat)] 28),(1,.row (List.map (cL (cI .i64)) (List.replicate (p1.Nodes.length:Int).toNat [])).flatten 33),(0,.row [.iM q01 p1.Nodes] 24)],6⟩) rfl (qdy.bslw (cs0:=[.nils]) (cs:=(List.map (cL (cI .i64)) ([[]]:List (List Int))).flatten) Tryz.tb_ok rfl und28 inf33 rfl rfl rfl rfl rfl (.cons (.nil false) .nil) rfl rfl rfl) rfl rfl ?_)
 refine go ?_
 refine gS (l':=[(0,_),(1,_),(3,_),(4,_),(5,_),(6,_)]) ?_
 refine z3e (fun m tm σ=>∃ z17:Int,∃ l18:List (List Int),∃ t19:Nat,∃ l20:List Int,∃ t21:Nat,∃ l22:List Bool,∃ l23:List (List Int),q28 p1 n r3 m z17 l18 l20 l22 l23=some r∧tm=fr 76 [(0,.fn (.yield ly1) [] []),(1,.iptr [.iM q01 r3]),(3,.sl 3 0 ((r3.length:Int).toNat) ((r3.length:Int).toNat)),(4,.vl 4 t21 0 l20.length),(5,.vl 5 t19 0 l18.length),(6,.i6 z17)]∧σ=⟨[(5,.vec (List.map (cL (cI .i64)) l18).flatten 33 1 t19),(4,.vec (List.map (cI .i64) l20).flatten 3 1 t21),(3,.row (List.map cB l22).flatten 4),(2,.row [.sl 1 0 ((p1.Nodes.length:Int).toNat) ((p1.Nodes.length:Int).toNat)] 28),(1,.row (List.map (cL (cI .i64)) l23).flatten 33),(0,.row [.iM q01 p1.Nodes] 24)],6⟩) (fun tm σ=>∃ l24:List (List Int),∃ t25:Nat,∃ l26:List Int,∃ t27:Nat,∃ l28:List Bool,∃ l29:List (List Int),q91 p1 l24 l26 l28 l29=some r∧tm=fr 76 []∧σ=⟨[(5,.vec (List.map (cL (cI .i64)) l24).flatten 33 1 t25),(4,.vec (List.map (cI .i64) l26).flatten 3 1 t27),(3,.row (List.map cB l28).flatten 4),(2,.row [.sl 1 0 ((p1.Nodes.length:Int).toNat) ((p1.Nodes.length:Int).toNat)] 28),(1,.row (List.map (cL (cI .i64)) l29).flatten 33),(0,.row [.iM q01 p1.Nodes] 24)],6⟩) n ⟨0,([[]]:List (List Int)),0,[0],0,((List.replicate (r3.length:Int).toNat false).set (0:Int).toNat true),(List.replicate (p1.Nodes.length:Int).toNat []),hF,rfl,rfl⟩ ?_ ?_
 rintro _ _ ⟨l24,t25,l26,t27,l28,l29,hF,rfl,rfl⟩
 unfold q91 at hF
 refine gn ?_
 refine ⟨.inl rfl,?_⟩
 refine go ?_
 refine RS.q rfl (q0m und28 rfl rfl rfl rfl) ?_
 obtain ⟨h30,hF⟩:=q0b hF
 refine go ?_
 obtain rfl:=sI hF
 exact ⟨.inr rfl,[.sl 1 0 ((p1.Nodes.length:Int).toNat) ((p1.Nodes.length:Int).toNat)],q2o rfl (q3b),.iM (cL (cI .i64)) l29,⟨[],0⟩,Nat.le_refl _,Gh.trans (Gh.fz (tm':=[.iM (cL (cI .i64)) l29]) (h':=[(5,.vec (List.map (cL (cI .i64)) l24).flatten 33 1 t25),(4,.vec (List.map (cI .i64) l26).flatten 3 1 t27),(3,.row (List.map cB l28).flatten 4),(2,.row [.iM (cL (cI .i64)) l29] 28),(0,.row [.iM q01 p1.Nodes] 24)]) 1 (.row (List.map (cL (cI .i64)) l29).flatten 33) 1 rfl (by simp) (by simp only [qmj,qil,qao,qnd,ql8,qnf,qio,qlb,qla,ql9,qin,qne,qpw,qnc,qng,qui,qo6,qze (q41 (cI .i64)) h30,q5a _ _ _ (q7e 1 (fun q=>qvh _ (fun q=>qfq _ .i64 q) q) l24),q5a _ _ _ (q7e 1 (fun q=>qfq _ .i64 q) l26),q5a _ _ _ (q7e 1 (fun q=>qvg _ q) l28)]) (by simp only [fzH,fzB,ug,Nat.beq,cond_true,cond_false,qmj,qil,qao,qnd,ql8,qnf,qio,qlb,qla,ql9,qin,qne,qpw,qnc,qng,qui,qo6,qze (q41 (cI .i64)) h30,q5a _ _ _ (q7e 1 (fun q=>qvh _ (fun q=>qfq _ .i64 q) q) l24),q5a _ _ _ (q7e 1 (fun q=>qfq _ .i64 q) l26),q5a _ _ _ (q7e 1 (fun q=>qvg _ q) l28)])) (z3q (.iM (cL (cI .i64)) l29) rfl),rfl,BU.h⟩
 rintro (_|m2) _ _ ⟨z17,l18,t19,l20,t21,l22,l23,hF,rfl,rfl⟩
 cases hF
 unfold q28 at hF
 refine go ?_
 refine RS.q rfl (q0a rfl rfl rfl (q9y und33 rfl)) ?_
 refine go ?_
 refine cF hF (fun h31 hF=>?_) (fun h31 hF=>?_)
 refine go ?_
 refine WPU.block ?_
 obtain ⟨x32,h33,hF⟩:=q00 hF
 obtain ⟨x34,h35,hF⟩:=q00 hF
 refine go ?_
 refine WPU.drawS Tryz.tb_ok 9 (by kernel_rfl) rfl (by kernel_rfl) ?_
 repeat refine RD.mv rfl rfl rfl rfl ?_
 refine RD.q rfl (q0i rfl rfl (qai (cI .i64) und33 (q03 inf3) (by decide) (q18 .i64) (vo rfl) h33)) ?_
 refine RD.q rfl (q5s (cI .i64) (fun x=>.i6 x) und3 rfl (fun _=>rfl) rfl rfl h33) ?_
 repeat refine RD.mv rfl rfl rfl rfl ?_
 refine RD.q rfl (q0i rfl rfl (qai (cL (cI .i64)) und28 (q03 inf33) (by decide) (q41 (cI .i64)) (vo rfl) h35)) ?_
 refine RD.q rfl (q5s (cL (cI .i64)) (fun x=>.iM (cI .i64) x) und33 rfl (fun _=>rfl) rfl rfl h35) ?_
 refine RD.done ⟨by kernel_rfl,?_⟩
 refine RS.yield (tmx:=fr 19 [(3,.ptr 2 0 0),(11,.fn (.func 69) [] [.iptr [.iM q01 r3]]),(12,.i6 x32),(13,.iM (cI .i64) x34)]) rfl rfl rfl rfl rfl rfl rfl rfl (setP2 rfl rfl) rfl rfl ?_
 refine gr ?_
 refine gr ?_
 refine z3f (fun tm σ=>q92 n r3 z17 l18 l20 l22 l23 (q28 p1 n r3 m2) x32 x34=some r∧tm=fr 19 []∧σ=⟨[(5,.vec (List.map (cL (cI .i64)) l18).flatten 33 1 t19),(4,.vec (List.map (cI .i64) l20).flatten 3 1 t21),(3,.row (List.map cB l22).flatten 4),(2,.row [.sl 1 0 ((p1.Nodes.length:Int).toNat) ((p1.Nodes.length:Int).toNat)] 28),(1,.row (List.map (cL (cI .i64)) (l23.set x32.toNat x34)).flatten 33),(0,.row [.iM q01 p1.Nodes] 24)],6⟩) ?_ ?_
 rintro _ _ ⟨hF,rfl,rfl⟩
 unfold q92 at hF
 refine ⟨rfl,?_⟩
 refine go ?_
 refine WPU.condS (t:=false) rfl (fun hc=>by cases hc) (fun _=>?_)
 obtain ⟨x36,h37,hF⟩:=q00 hF
 obtain ⟨x38,h39,hF⟩:=q00 hF
 refine go ?_
 refine z3g Tryz.tb_ok [] (by kernel_rfl) ?_
 refine RD.q rfl (q1q und24 rfl (q03 inf22) rfl rfl) (RD.q rfl (q0c und22 rfl rfl rfl) ?_)
 repeat refine RD.mv rfl rfl rfl rfl ?_
 refine RD.q rfl (q0i rfl rfl (qai (cI .i64) und33 (q03 inf3) (by decide) (q18 .i64) (vo rfl) h37)) ?_
 refine RD.q rfl (q5s (cI .i64) (fun x=>.i6 x) und3 rfl (fun _=>rfl) rfl rfl h37) (RD.q rfl (q0i rfl rfl (q09 q01 und22 (q03 inf54) q1p h39 rfl)) (RD.q rfl (q1q und54 rfl (q03 inf52) rfl rfl) (RD.q rfl (q0c und52 rfl rfl rfl) (RD.q rfl (q0a rfl rfl rfl (q07 q0e und52)) (RD.mv rfl rfl rfl rfl ?_)))))
 refine RD.done ⟨by kernel_rfl,trivial,?_⟩
 refine go ?_
 refine gS (l':=[(0,_),(1,_),(3,_),(4,_),(5,_),(6,_),(42,_),(43,_),(44,_)]) ?_
 refine z3e (fun m tm σ=>∃ z51:Int,∃ l52:List (List Int),∃ t53:Nat,∃ l54:List Int,∃ t55:Nat,∃ l56:List Bool,q3f n r3 z17 l23 (q28 p1 n r3 m2) x32 x34 x38 m z51 l52 l54 l56=some r∧tm=fr 76 [(0,.fn (.yield ly1) [] []),(1,.iptr [.iM q01 r3]),(3,.sl 3 0 ((r3.length:Int).toNat) ((r3.length:Int).toNat)),(4,.vl 4 t55 0 l54.length),(5,.vl 5 t53 0 l52.length),(6,.i6 z17),(42,.iM q0e x38.Arcs),(43,.i6 (x38.Arcs.length:Int)),(44,.i6 z51)]∧σ=⟨[(5,.vec (List.map (cL (cI .i64)) l52).flatten 33 1 t53),(4,.vec (List.map (cI .i64) l54).flatten 3 1 t55),(3,.row (List.map cB l56).flatten 4),(2,.row [.sl 1 0 ((p1.Nodes.length:Int).toNat) ((p1.Nodes.length:Int).toNat)] 28),(1,.row (List.map (cL (cI .i64)) (l23.set x32.toNat x34)).flatten 33),(0,.row [.iM q01 p1.Nodes] 24)],6⟩) (fun tm σ=>∃ l57:List (List Int),∃ t58:Nat,∃ l59:List Int,∃ t60:Nat,∃ l61:List Bool,q6f z17 l23 (q28 p1 n r3 m2) x32 x34 l57 l59 l61=some r∧tm=fr 76 [(0,.fn (.yield ly1) [] []),(1,.iptr [.iM q01 r3]),(3,.sl 3 0 ((r3.length:Int).toNat) ((r3.length:Int).toNat)),(4,.vl 4 t60 0 l59.length),(5,.vl 5 t58 0 l57.length),(6,.i6 z17)]∧σ=⟨[(5,.vec (List.map (cL (cI .i64)) l57).flatten 33 1 t58),(4,.vec (List.map (cI .i64) l59).flatten 3 1 t60),(3,.row (List.map cB l61).flatten 4),(2,.row [.sl 1 0 ((p1.Nodes.length:Int).toNat) ((p1.Nodes.length:Int).toNat)] 28),(1,.row (List.map (cL (cI .i64)) (l23.set x32.toNat x34)).flatten 33),(0,.row [.iM q01 p1.Nodes] 24)],6⟩) n ⟨0,l18,t19,l20,t21,l22,hF,rfl,rfl⟩ ?_ ?_
 rintro _ _ ⟨l57,t58,l59,t60,l61,hF,rfl,rfl⟩
 unfold q6f at hF
 refine go ?_
 exact lC ⟨_,l57,t58,l59,t60,l61,(l23.set x32.toNat x34),hF,rfl,rfl⟩
 rintro (_|m4) _ _ ⟨z51,l52,t53,l54,t55,l56,hF,rfl,rfl⟩
 cases hF
 unfold q3f at hF
 refine go ?_
 refine cF hF (fun h62 hF=>?_) (fun h62 hF=>?_)
 refine go ?_
 refine WPU.block ?_
 obtain ⟨x63,h64,hF⟩:=q00 hF
 refine go ?_
 refine RS.q rfl (q0i rfl rfl (q09 q0e und52 (q03 inf66) q0t h64 rfl)) (RS.q (u:=.agg (q0e x63)) rfl (q8u und66 rfl (q03 inf66) rfl rfl) (RS.q (u:=.ptr 6 0 0) (σ':=⟨[(6,.row [.i6 0,.i6 0] 66),(5,.vec (List.map (cL (cI .i64)) l52).flatten 33 1 t53),(4,.vec (List.map (cI .i64) l54).flatten 3 1 t55),(3,.row (List.map cB l56).flatten 4),(2,.row [.sl 1 0 ((p1.Nodes.length:Int).toNat) ((p1.Nodes.length:Int).toNat)] 28),(1,.row (List.map (cL (cI .i64)) (l23.set x32.toNat x34)).flatten 33),(0,.row [.iM q01 p1.Nodes] 24)],7⟩) rfl (q1e inf66 rfl rfl) ?_))
 refine z3i (u:=.junk) (σ':=⟨[(6,.row (q0e x63) 66),(5,.vec (List.map (cL (cI .i64)) l52).flatten 33 1 t53),(4,.vec (List.map (cI .i64) l54).flatten 3 1 t55),(3,.row (List.map cB l56).flatten 4),(2,.row [.sl 1 0 ((p1.Nodes.length:Int).toNat) ((p1.Nodes.length:Int).toNat)] 28),(1,.row (List.map (cL (cI .i64)) (l23.set x32.toNat x34)).flatten 33),(0,.row [.iM q01 p1.Nodes] 24)],7⟩) rfl (q0r (q03 inf66) rfl rfl rfl rfl rfl rfl rfl rfl) rfl ?_
 obtain ⟨x65,h66,hF⟩:=q00 hF
 refine go ?_
 refine RS.q rfl (q0y und66 rfl (q03 inf3) rfl rfl rfl) (RS.q rfl (q0m und3 rfl rfl rfl rfl) (RS.q rfl (q0i rfl rfl (quj und75 (q03 inf4) rfl h66)) (RS.q (u:=.bool x65) rfl (z1c cB (fun x=>.bool x) und4 rfl (fun _=>rfl) rfl rfl h66) ?_)))
 refine gn ?_
 refine z3f (fun tm σ=>∃ l68:List (List Int),∃ t69:Nat,∃ l70:List Int,∃ t71:Nat,∃ l72:List Bool,q6e z51 (q3f n r3 z17 l23 (q28 p1 n r3 m2) x32 x34 x38 m4) l68 l70 l72=some r∧tm=fr 76 [(0,.fn (.yield ly1) [] []),(1,.iptr [.iM q01 r3]),(3,.sl 3 0 ((r3.length:Int).toNat) ((r3.length:Int).toNat)),(4,.vl 4 t71 0 l70.length),(5,.vl 5 t69 0 l68.length),(6,.i6 z17),(42,.iM q0e x38.Arcs),(43,.i6 (x38.Arcs.length:Int)),(44,.i6 z51)]∧σ=⟨[(6,.row (q0e x63) 66),(5,.vec (List.map (cL (cI .i64)) l68).flatten 33 1 t69),(4,.vec (List.map (cI .i64) l70).flatten 3 1 t71),(3,.row (List.map cB l72).flatten 4),(2,.row [.sl 1 0 ((p1.Nodes.length:Int).toNat) ((p1.Nodes.length:Int).toNat)] 28),(1,.row (List.map (cL (cI .i64)) (l23.set x32.toNat x34)).flatten 33),(0,.row [.iM q01 p1.Nodes] 24)],7⟩) ?_ ?_
 rintro _ _ ⟨l68,t69,l70,t71,l72,hF,rfl,rfl⟩
 unfold q6e at hF
 refine go ?_
 exact lC ⟨_,l68,t69,l70,t71,l72,hF,rfl,rfl⟩
 refine cF hF (fun h67 hF=>?_) (fun h67 hF=>?_)
 obtain ⟨x73,h74,hF⟩:=q00 hF
 refine go ?_
 refine RS.q rfl (q0y und66 rfl (q03 inf3) rfl rfl rfl) (RS.q rfl (q0m und3 rfl rfl rfl rfl) (RS.q rfl (q0i rfl rfl (quj und75 (q03 inf4) rfl h74)) ?_))
 refine z3i (u:=.junk) (σ':=⟨[(6,.row (q0e x63) 66),(5,.vec (List.map (cL (cI .i64)) l52).flatten 33 1 t53),(4,.vec (List.map (cI .i64) l54).flatten 3 1 t55),(3,.row (List.map cB (l56.set x63.To.toNat true)).flatten 4),(2,.row [.sl 1 0 ((p1.Nodes.length:Int).toNat) ((p1.Nodes.length:Int).toNat)] 28),(1,.row (List.map (cL (cI .i64)) (l23.set x32.toNat x34)).flatten 33),(0,.row [.iM q01 p1.Nodes] 24)],7⟩) rfl (z05 cB (q03 inf4) z1d rfl rfl rfl rfl rfl rfl h74 rfl) rfl ?_
 obtain ⟨h75,hF⟩:=q0b hF
 refine go ?_
 refine RS.q rfl (q0y und66 rfl (q03 inf3) rfl rfl rfl) (RS.q rfl (q0m und3 rfl rfl rfl rfl) (RS.q (u:=.sl 7 0 1 1) (σ':=⟨[(7,.row [.i6 x63.To] 3),(6,.row (q0e x63) 66),(5,.vec (List.map (cL (cI .i64)) l52).flatten 33 1 t53),(4,.vec (List.map (cI .i64) l54).flatten 3 1 t55),(3,.row (List.map cB (l56.set x63.To.toNat true)).flatten 4),(2,.row [.sl 1 0 ((p1.Nodes.length:Int).toNat) ((p1.Nodes.length:Int).toNat)] 28),(1,.row (List.map (cL (cI .i64)) (l23.set x32.toNat x34)).flatten 33),(0,.row [.iM q01 p1.Nodes] 24)],8⟩) rfl (q0j und33 inf3 rfl rfl rfl rfl rfl rfl rfl) (RS.q (u:=.vl 4 (t55+1) 0 ((l54++[x63.To]).length)) (σ':=⟨[(7,.row [.i6 x63.To] 3),(6,.row (q0e x63) 66),(5,.vec (List.map (cL (cI .i64)) l52).flatten 33 1 t53),(4,.vec (List.map (cI .i64) (l54++[x63.To])).flatten 3 1 (t55+1)),(3,.row (List.map cB (l56.set x63.To.toNat true)).flatten 4),(2,.row [.sl 1 0 ((p1.Nodes.length:Int).toNat) ((p1.Nodes.length:Int).toNat)] 28),(1,.row (List.map (cL (cI .i64)) (l23.set x32.toNat x34)).flatten 33),(0,.row [.iM q01 p1.Nodes] 24)],8⟩) rfl (q1n rfl rfl rfl rfl (q23 (cI .i64) ([x63.To]) und33 und33 inf3 rfl (q18 .i64) rfl (q1m (cI .i64) [x63.To] rfl rfl rfl rfl) h75)) ?_)))
 obtain ⟨x76,h77,hF⟩:=q00 hF
 obtain ⟨r78,h79,hF⟩:=q00 hF
 obtain ⟨h80,hF⟩:=q0b hF
 obtain ⟨h81,hF⟩:=q0b hF
 refine go ?_
 refine z3g Tryz.tb_ok [(0,5),(0,9),(0,10),(6,5),(7,5)] (by kernel_rfl) ?_
 repeat refine RD.mv rfl rfl rfl rfl ?_
 refine RD.q rfl (q0i rfl rfl (qai (cL (cI .i64)) und28 (q03 inf33) (by decide) (q41 (cI .i64)) (vo rfl) h77)) ?_
 refine RD.q rfl (q5s (cL (cI .i64)) (fun x=>.iM (cI .i64) x) und33 rfl (fun _=>rfl) rfl rfl h77) (RD.callm (u:=.vl 9 0 0 r78.length) (σ1:=⟨[(9,.vec (List.map (cI .i64) r78).flatten 3 1 0),(7,.row [.i6 x63.To] 3),(6,.row (q0e x63) 66),(5,.vec (List.map (cL (cI .i64)) l52).flatten 33 1 t53),(4,.vec (List.map (cI .i64) (l54++[x63.To])).flatten 3 1 (t55+1)),(3,.row (List.map cB (l56.set x63.To.toNat true)).flatten 4),(2,.row [.sl 1 0 ((p1.Nodes.length:Int).toNat) ((p1.Nodes.length:Int).toNat)] 28),(1,.row (List.map (cL (cI .i64)) (l23.set x32.toNat x34)).flatten 33),(0,.row [.iM q01 p1.Nodes] 24)],10⟩) (args:=[.iM (cI .i64) x76]) rfl (qcs rfl rfl fn48 hb48 rfl rfl) (z3t (cI .i64) (qaz n x76 r78 h79) _ 9 rfl) rfl rfl (RD.q rfl (q0y und66 rfl (q03 inf3) rfl rfl rfl) (RD.q rfl (q0m und3 rfl rfl rfl rfl) (RD.freeO (u:=.iM (cI .i64) ([x63.Feat])) rfl (qe1.bs (cs:=[.i6 x63.Feat]) und33 inf3 rfl rfl rfl rfl rfl rfl rfl rfl rfl) rfl rfl (RD.fz (u:=.iM (cI .i64) (r78++[x63.Feat])) (u1:=.vl 9 1 0 ((r78++[x63.Feat]).length)) (s1:=⟨[(9,.vec (List.map (cI .i64) (r78++[x63.Feat])).flatten 3 1 1),(7,.row [.i6 x63.To] 3),(6,.row (q0e x63) 66),(5,.vec (List.map (cL (cI .i64)) l52).flatten 33 1 t53),(4,.vec (List.map (cI .i64) (l54++[x63.To])).flatten 3 1 (t55+1)),(3,.row (List.map cB (l56.set x63.To.toNat true)).flatten 4),(2,.row [.sl 1 0 ((p1.Nodes.length:Int).toNat) ((p1.Nodes.length:Int).toNat)] 28),(1,.row (List.map (cL (cI .i64)) (l23.set x32.toNat x34)).flatten 33),(0,.row [.iM q01 p1.Nodes] 24)],10⟩) (σ':=⟨[(7,.row [.i6 x63.To] 3),(6,.row (q0e x63) 66),(5,.vec (List.map (cL (cI .i64)) l52).flatten 33 1 t53),(4,.vec (List.map (cI .i64) (l54++[x63.To])).flatten 3 1 (t55+1)),(3,.row (List.map cB (l56.set x63.To.toNat true)).flatten 4),(2,.row [.sl 1 0 ((p1.Nodes.length:Int).toNat) ((p1.Nodes.length:Int).toNat)] 28),(1,.row (List.map (cL (cI .i64)) (l23.set x32.toNat x34)).flatten 33),(0,.row [.iM q01 p1.Nodes] 24)],10⟩) rfl (q1n rfl rfl rfl rfl (q23 (cI .i64) ([x63.Feat]) und33 und33 inf3 rfl (q18 .i64) rfl (qgq (cI .i64) (q18 .i64)) h80)) (z3h 9 1) (Nat.le_refl _) rfl rfl (RD.act (u:=.sl 10 0 1 1) (σ':=⟨[(10,.row [.iM (cI .i64) (r78++[x63.Feat])] 33),(7,.row [.i6 x63.To] 3),(6,.row (q0e x63) 66),(5,.vec (List.map (cL (cI .i64)) l52).flatten 33 1 t53),(4,.vec (List.map (cI .i64) (l54++[x63.To])).flatten 3 1 (t55+1)),(3,.row (List.map cB (l56.set x63.To.toNat true)).flatten 4),(2,.row [.sl 1 0 ((p1.Nodes.length:Int).toNat) ((p1.Nodes.length:Int).toNat)] 28),(1,.row (List.map (cL (cI .i64)) (l23.set x32.toNat x34)).flatten 33),(0,.row [.iM q01 p1.Nodes] 24)],11⟩) rfl (q0j und28 inf33 rfl rfl rfl rfl rfl rfl rfl) rfl rfl (RD.act (u:=.vl 5 (t53+1) 0 ((l52++[(r78++[x63.Feat])]).length)) (σ':=⟨[(10,.row [.iM (cI .i64) (r78++[x63.Feat])] 33),(7,.row [.i6 x63.To] 3),(6,.row (q0e x63) 66),(5,.vec (List.map (cL (cI .i64)) (l52++[(r78++[x63.Feat])])).flatten 33 1 (t53+1)),(4,.vec (List.map (cI .i64) (l54++[x63.To])).flatten 3 1 (t55+1)),(3,.row (List.map cB (l56.set x63.To.toNat true)).flatten 4),(2,.row [.sl 1 0 ((p1.Nodes.length:Int).toNat) ((p1.Nodes.length:Int).toNat)] 28),(1,.row (List.map (cL (cI .i64)) (l23.set x32.toNat x34)).flatten 33),(0,.row [.iM q01 p1.Nodes] 24)],11⟩) rfl (q1n rfl rfl rfl rfl (q23 (cL (cI .i64)) ([(r78++[x63.Feat])]) und28 und28 inf33 rfl (q41 (cI .i64)) rfl (q1m (cL (cI .i64)) [(r78++[x63.Feat])] rfl rfl rfl rfl) h81)) rfl rfl ?_)))))))
 refine RD.as rfl rfl rfl rfl ?_
 refine RD.done ⟨by kernel_rfl,⟨q1w rfl,⟨q1w rfl,⟨q1w rfl,⟨q0y und66 rfl (q03 inf3) rfl rfl rfl,⟨q0m und3 rfl rfl rfl rfl,trivial⟩⟩⟩⟩⟩,?_⟩
 refine go ?_
 exact xC ⟨(l52++[(r78++[x63.Feat])]),(t53+1),(l54++[x63.To]),(t55+1),(l56.set x63.To.toNat true),hF,rfl,rfl⟩
 refine go ?_
 exact xC ⟨l52,t53,l54,t55,l56,hF,rfl,rfl⟩
 refine go ?_
 exact xC ⟨l52,t53,l54,t55,l56,hF,rfl,rfl⟩
 refine go ?_
 refine WPU.block ?_
 obtain ⟨x82,h83,hF⟩:=q00 hF
 refine go ?_
 refine RS.q rfl (q0m und28 rfl rfl rfl rfl) ?_
 refine go ?_
 refine RS.q rfl (q0i rfl rfl (quj und28 (q03 inf33) rfl h83)) ?_
 refine z3i (u:=.junk) (σ':=⟨[(5,.vec (List.map (cL (cI .i64)) l18).flatten 33 1 t19),(4,.vec (List.map (cI .i64) l20).flatten 3 1 t21),(3,.row (List.map cB l22).flatten 4),(2,.row [.sl 1 0 ((p1.Nodes.length:Int).toNat) ((p1.Nodes.length:Int).toNat)] 28),(1,.row (List.map (cL (cI .i64)) (l23.set x32.toNat x34)).flatten 33),(0,.row [.iM q01 p1.Nodes] 24)],6⟩) rfl (z05 (cL (cI .i64)) (q03 inf33) (q41 (cI .i64)) rfl rfl rfl rfl rfl rfl h83 rfl) rfl ?_
 refine go ?_
 exact xC ⟨hF,rfl,rfl⟩
 refine go ?_
 exact xC ⟨l18,t19,l20,t21,l22,l23,hF,rfl,rfl⟩
def q5w   : Option (Bool) :=
 some true
def q35 (p1:List Int) (p2:List Int):Nat→Int→Option (Bool)
 | 0,_=>none
 | m1+1,z8 =>
  cond (decide (z8<(p1.length:Int)))
   (q04 (q0u p1 z8) fun x10 =>
   q04 (q0u p2 z8) fun x12 =>
   cond (x10 != x12)
    (some false)
    ((q35 p1 p2 m1) (IntKind.i64.wrap (z8+1))))
   (q5w)
def q5q (n:Nat) (p1:List Int) (p2:List Int):Option (Bool) :=
 cond ((p1.length:Int) != (p2.length:Int))
  (some false)
  (q35 p1 p2 n 0)
theorem qi3 (n:Nat) (p1:List Int) (p2:List Int) (r:Bool) (hF:q5q n p1 p2=some r):EvU Tryz.prog 49 [.isl false (List.map (cI .i64) p1),.isl false (List.map (cI .i64) p2)] ⟨[],0⟩ (fun u _=>u = .bool r∧Bel 0 u):=by
 unfold q5q at hF
 refine bg2 26 fn49 ?_
 refine go ?_
 refine RS.q rfl (q0a rfl rfl rfl (q07 (cI .i64) und33)) ?_
 refine go ?_
 refine RS.q rfl (q0a rfl rfl rfl (q07 (cI .i64) und33)) ?_
 refine go ?_
 refine cF hF (fun h3 hF=>?_) (fun h3 hF=>?_)
 exact gx hF
 refine go ?_
 refine RS.q rfl (q0a rfl rfl rfl (q07 (cI .i64) und33)) ?_
 refine go ?_
 refine gS (l':=[(0,_),(1,_),(12,_),(13,_)]) ?_
 refine z3e (fun m tm σ=>∃ z8:Int,q35 p1 p2 m z8=some r∧tm=fr 26 [(0,.iM (cI .i64) p1),(1,.iM (cI .i64) p2),(12,.i6 (p1.length:Int)),(13,.i6 z8)]∧σ=⟨[],0⟩) (fun tm σ=>q5w=some r∧tm=fr 26 []∧σ=⟨[],0⟩) n ⟨0,hF,rfl,rfl⟩ ?_ ?_
 rintro _ _ ⟨hF,rfl,rfl⟩
 unfold q5w at hF
 exact gx hF
 rintro (_|m1) _ _ ⟨z8,hF,rfl,rfl⟩
 cases hF
 unfold q35 at hF
 refine go ?_
 refine cF hF (fun h9 hF=>?_) (fun h9 hF=>?_)
 refine go ?_
 refine WPU.block ?_
 obtain ⟨x10,h11,hF⟩:=q00 hF
 obtain ⟨x12,h13,hF⟩:=q00 hF
 refine go ?_
 refine z3g Tryz.tb_ok [] (by kernel_rfl) ?_
 repeat refine RD.mv rfl rfl rfl rfl ?_
 refine RD.q rfl (q0i rfl rfl (q09 (cI .i64) und33 (q03 inf3) (q18 .i64) h11 rfl)) (RD.q rfl (q0c und3 rfl rfl rfl) ?_)
 repeat refine RD.mv rfl rfl rfl rfl ?_
 refine RD.q rfl (q0i rfl rfl (q09 (cI .i64) und33 (q03 inf3) (q18 .i64) h13 rfl)) (RD.q rfl (q0c und3 rfl rfl rfl) (RD.q rfl (q2y rfl rfl (qq0 _ _ _) rfl) ?_))
 refine RD.done ⟨by kernel_rfl,trivial,?_⟩
 refine go ?_
 refine cF hF (fun h14 hF=>?_) (fun h14 hF=>?_)
 exact gx hF
 refine go ?_
 exact lC ⟨_,hF,rfl,rfl⟩
 refine go ?_
 exact xC ⟨hF,rfl,rfl⟩
def q5e (z32:Int) (rc2:Int→(List q0g)→Option ((List q0g))) (l50:List q0g):Option ((List q0g)) :=
 rc2 (IntKind.i64.wrap (z32+1)) l50
def q5f (z11:Int) (rc1:Int→(List q0g)→Option ((List q0g))) (l35:List q0g):Option ((List q0g)) :=
 rc1 (IntKind.i64.wrap (z11+1)) l35
def q2u (n:Nat) (r2:(List (List Int))) (z11:Int) (rc1:Int→(List q0g)→Option ((List q0g))) (x17:q0n):Nat→Int→(List q0g)→Option ((List q0g))
 | 0,_,_=>none
 | m2+1,z32,l33 =>
  cond (decide (z32<(x17.Arcs.length:Int)))
   (q04 (q0u x17.Arcs z32) fun x38 =>
   q04 (q0u r2 z11) fun x40 =>
   q04 (q3e n x40) fun r42 =>
   q19 ((r42.length+([x38.Feat]).length)*8≤140737488355328∧r42.length+([x38.Feat]).length≤140737488355328) (
   q04 (q0u r2 x38.To) fun x45 =>
   q04 (q5q n (r42++[x38.Feat]) x45) fun r47 =>
   cond (!r47)
    (q04 (q0u r2 x38.To) fun x52 =>
    q19 ((l33.length+1)*48≤140737488355328∧l33.length+1≤140737488355328) (
    q5e z32 (q2u n r2 z11 rc1 x17 m2) (l33++[(q0g.mk x52 (r42++[x38.Feat]))])))
    (q5e z32 (q2u n r2 z11 rc1 x17 m2) l33)))
   (q5f z11 rc1 l33)
def q7i  (l14:List q0g):Option ((List q0g)) :=
 some l14
def q26 (p1:GFS) (n:Nat) (r2:(List (List Int))):Nat→Int→(List q0g)→Option ((List q0g))
 | 0,_,_=>none
 | m1+1,z11,l12 =>
  cond (decide (z11<(p1.Nodes.length:Int)))
   (q04 (q0u p1.Nodes z11) fun x17 =>
   q2u n r2 z11 (q26 p1 n r2 m1) x17 n 0 l12)
   (q7i l12)
def q5u (n:Nat) (p1:GFS):Option ((List q0g)) :=
 q04 (q9r n p1) fun r2 =>
 q26 p1 n r2 n 0 ([]:List q0g)
theorem q96 (n:Nat) (p1:GFS) (r:(List q0g)) (hF:q5u n p1=some r):EvU Tryz.prog 18 [.agg [.isl false (List.map q01 p1.Nodes)]] ⟨[],0⟩ (fun u _=>u = .isl false (List.map q0l r)∧Bel 0 u):=by
 unfold q5u at hF
 refine bg1 57 fn18 ?_
 refine go ?_
 refine RS.q (u:=.ptr 0 0 0) (σ':=⟨[(0,.row [.iM q01 p1.Nodes] 24)],1⟩) rfl (q3u rfl rfl rfl) ?_
 obtain ⟨r2,h3,hF⟩:=q00 hF
 refine go ?_
 refine RS.q (u:=.agg [.iM q01 p1.Nodes]) rfl (q1b und24 rfl (q03 inf24) rfl rfl rfl) (RS.cl rfl (pC (qaw n p1 r2 h3) _) fn15 ?_)
 refine go ?_
 refine RS.q rfl (q0y und24 rfl (q03 inf22) rfl rfl rfl) (RS.q rfl (q0m und22 rfl rfl rfl rfl) (RS.q rfl (q0a rfl rfl rfl (q07 q01 und22)) ?_))
 refine gn ?_
 refine WPU.ghost (tm':=fr 57 [(3,.iM (cL (cI .i64)) r2),(4,.vl 1 0 0 (([]:List q0g).length)),(13,.iM q01 p1.Nodes),(14,.i6 (p1.Nodes.length:Int)),(15,.i6 0)]) (σ':=⟨[(1,.vec (List.map q0l ([]:List q0g)).flatten 56 2 0),(0,.row [.iM q01 p1.Nodes] 24)],2⟩) (Gh.trans (z3k 4 56 2 (by decide) NZ rfl rfl) (z3j ⟨rfl,rfl,rfl,rfl,rfl,trivial⟩ rfl)) NZ ?_
 refine gS (l':=[(3,_),(4,_),(13,_),(14,_),(15,_)]) ?_
 refine z3e (fun m tm σ=>∃ z11:Int,∃ l12:List q0g,∃ t13:Nat,q26 p1 n r2 m z11 l12=some r∧tm=fr 57 [(3,.iM (cL (cI .i64)) r2),(4,.vl 1 t13 0 l12.length),(13,.iM q01 p1.Nodes),(14,.i6 (p1.Nodes.length:Int)),(15,.i6 z11)]∧σ=⟨[(1,.vec (List.map q0l l12).flatten 56 2 t13),(0,.row [.iM q01 p1.Nodes] 24)],2⟩) (fun tm σ=>∃ l14:List q0g,∃ t15:Nat,q7i l14=some r∧tm=fr 57 [(4,.vl 1 t15 0 l14.length)]∧σ=⟨[(1,.vec (List.map q0l l14).flatten 56 2 t15),(0,.row [.iM q01 p1.Nodes] 24)],2⟩) n ⟨0,([]:List q0g),0,hF,rfl,rfl⟩ ?_ ?_
 rintro _ _ ⟨l14,t15,hF,rfl,rfl⟩
 unfold q7i at hF
 refine go ?_
 obtain rfl:=sI hF
 exact rT (us:=[.vl 1 t15 0 l14.length]) (u:=.iM q0l l14) (q2o rfl (q3b)) (fR 1 2)
 rintro (_|m1) _ _ ⟨z11,l12,t13,hF,rfl,rfl⟩
 cases hF
 unfold q26 at hF
 refine go ?_
 refine cF hF (fun h16 hF=>?_) (fun h16 hF=>?_)
 refine go ?_
 refine WPU.block ?_
 obtain ⟨x17,h18,hF⟩:=q00 hF
 refine go ?_
 refine RS.q rfl (q0i rfl rfl (q09 q01 und22 (q03 inf54) q1p h18 rfl)) (RS.q (u:=.agg (q01 x17)) rfl (q8u und54 rfl (q03 inf54) rfl rfl) (RS.q (u:=.ptr 2 0 0) (σ':=⟨[(2,.row [.i6 0,.nils] 54),(1,.vec (List.map q0l l12).flatten 56 2 t13),(0,.row [.iM q01 p1.Nodes] 24)],3⟩) rfl (q1e inf54 rfl rfl) ?_))
 refine go ?_
 refine z3i (u:=.junk) (σ':=⟨[(2,.row (q01 x17) 54),(1,.vec (List.map q0l l12).flatten 56 2 t13),(0,.row [.iM q01 p1.Nodes] 24)],3⟩) rfl (q0r (q03 inf54) rfl rfl rfl rfl rfl rfl rfl rfl) rfl ?_
 refine go ?_
 refine RS.q rfl (q0y und54 rfl (q03 inf52) rfl rfl rfl) (RS.q rfl (q0m und52 rfl rfl rfl rfl) (RS.q rfl (q0a rfl rfl rfl (q07 q0e und52)) ?_))
 refine go ?_
 refine gS (l':=[(3,_),(4,_),(5,_),(13,_),(14,_),(15,_),(21,_),(22,_),(23,_)]) ?_
 refine z3e (fun m tm σ=>∃ z32:Int,∃ l33:List q0g,∃ t34:Nat,q2u n r2 z11 (q26 p1 n r2 m1) x17 m z32 l33=some r∧tm=fr 57 [(3,.iM (cL (cI .i64)) r2),(4,.vl 1 t34 0 l33.length),(5,.i6 z11),(13,.iM q01 p1.Nodes),(14,.i6 (p1.Nodes.length:Int)),(15,.i6 z11),(21,.iM q0e x17.Arcs),(22,.i6 (x17.Arcs.length:Int)),(23,.i6 z32)]∧σ=⟨[(2,.row (q01 x17) 54),(1,.vec (List.map q0l l33).flatten 56 2 t34),(0,.row [.iM q01 p1.Nodes] 24)],3⟩) (fun tm σ=>∃ l35:List q0g,∃ t36:Nat,q5f z11 (q26 p1 n r2 m1) l35=some r∧tm=fr 57 [(3,.iM (cL (cI .i64)) r2),(4,.vl 1 t36 0 l35.length),(13,.iM q01 p1.Nodes),(14,.i6 (p1.Nodes.length:Int)),(15,.i6 z11)]∧σ=⟨[(2,.row (q01 x17) 54),(1,.vec (List.map q0l l35).flatten 56 2 t36),(0,.row [.iM q01 p1.Nodes] 24)],3⟩) n ⟨0,l12,t13,hF,rfl,rfl⟩ ?_ ?_
 rintro _ _ ⟨l35,t36,hF,rfl,rfl⟩
 unfold q5f at hF
 refine go ?_
 exact lC ⟨_,l35,t36,hF,rfl,rfl⟩
 rintro (_|m2) _ _ ⟨z32,l33,t34,hF,rfl,rfl⟩
 cases hF
 unfold q2u at hF
 refine go ?_
 refine cF hF (fun h37 hF=>?_) (fun h37 hF=>?_)
 refine go ?_
 refine WPU.block ?_
 obtain ⟨x38,h39,hF⟩:=q00 hF
 refine go ?_
 refine RS.q rfl (q0i rfl rfl (q09 q0e und52 (q03 inf66) q0t h39 rfl)) (RS.q (u:=.agg (q0e x38)) rfl (q8u und66 rfl (q03 inf66) rfl rfl) (RS.q (u:=.ptr 3 0 0) (σ':=⟨[(3,.row [.i6 0,.i6 0] 66),(2,.row (q01 x17) 54),(1,.vec (List.map q0l l33).flatten 56 2 t34),(0,.row [.iM q01 p1.Nodes] 24)],4⟩) rfl (q1e inf66 rfl rfl) ?_))
 refine z3i (u:=.junk) (σ':=⟨[(3,.row (q0e x38) 66),(2,.row (q01 x17) 54),(1,.vec (List.map q0l l33).flatten 56 2 t34),(0,.row [.iM q01 p1.Nodes] 24)],4⟩) rfl (q0r (q03 inf66) rfl rfl rfl rfl rfl rfl rfl rfl) rfl ?_
 obtain ⟨x40,h41,hF⟩:=q00 hF
 obtain ⟨r42,h43,hF⟩:=q00 hF
 obtain ⟨h44,hF⟩:=q0b hF
 refine go ?_
 refine z3g Tryz.tb_ok [(5,4),(6,4)] (by kernel_rfl) ?_
 repeat refine RD.mv rfl rfl rfl rfl ?_
 refine RD.q rfl (q0i rfl rfl (q09 (cL (cI .i64)) und28 (q03 inf33) (q41 (cI .i64)) h41 rfl)) (RD.q rfl (q0c und33 rfl rfl rfl) (RD.callm (u:=.vl 5 0 0 r42.length) (σ1:=⟨[(5,.vec (List.map (cI .i64) r42).flatten 3 1 0),(3,.row (q0e x38) 66),(2,.row (q01 x17) 54),(1,.vec (List.map q0l l33).flatten 56 2 t34),(0,.row [.iM q01 p1.Nodes] 24)],6⟩) (args:=[.iM (cI .i64) x40]) rfl (qcs rfl rfl fn48 hb48 rfl rfl) (z3t (cI .i64) (qaz n x40 r42 h43) _ 5 rfl) rfl rfl (RD.q rfl (q0y und66 rfl (q03 inf3) rfl rfl rfl) (RD.q rfl (q0m und3 rfl rfl rfl rfl) (RD.freeO (u:=.iM (cI .i64) ([x38.Feat])) rfl (qe1.bs (cs:=[.i6 x38.Feat]) und33 inf3 rfl rfl rfl rfl rfl rfl rfl rfl rfl) rfl rfl (RD.act (u:=.vl 5 1 0 ((r42++[x38.Feat]).length)) (σ':=⟨[(5,.vec (List.map (cI .i64) (r42++[x38.Feat])).flatten 3 1 1),(3,.row (q0e x38) 66),(2,.row (q01 x17) 54),(1,.vec (List.map q0l l33).flatten 56 2 t34),(0,.row [.iM q01 p1.Nodes] 24)],6⟩) rfl (q1n rfl rfl rfl rfl (q23 (cI .i64) ([x38.Feat]) und33 und33 inf3 rfl (q18 .i64) rfl (qgq (cI .i64) (q18 .i64)) h44)) rfl rfl (RD.as rfl rfl rfl rfl ?_)))))))
 refine RD.done ⟨by kernel_rfl,⟨q0y und66 rfl (q03 inf3) rfl rfl rfl,⟨q0m und3 rfl rfl rfl rfl,trivial⟩⟩,?_⟩
 obtain ⟨x45,h46,hF⟩:=q00 hF
 obtain ⟨r47,h48,hF⟩:=q00 hF
 refine go ?_
 refine RS.q rfl (q0y und66 rfl (q03 inf3) rfl rfl rfl) (RS.q rfl (q0m und3 rfl rfl rfl rfl) (RS.q rfl (q0i rfl rfl (q09 (cL (cI .i64)) und28 (q03 inf33) (q41 (cI .i64)) h46 rfl)) (RS.q rfl (q0c und33 rfl rfl rfl) (RS.cl rfl (vw (qi3 n (r42++[x38.Feat]) x45 r47 h48) (z3h 5 1)) fn49 ?_))))
 refine gn ?_
 refine z3f (fun tm σ=>∃ l50:List q0g,∃ t51:Nat,q5e z32 (q2u n r2 z11 (q26 p1 n r2 m1) x17 m2) l50=some r∧tm=fr 57 [(3,.iM (cL (cI .i64)) r2),(4,.vl 1 t51 0 l50.length),(5,.i6 z11),(13,.iM q01 p1.Nodes),(14,.i6 (p1.Nodes.length:Int)),(15,.i6 z11),(21,.iM q0e x17.Arcs),(22,.i6 (x17.Arcs.length:Int)),(23,.i6 z32)]∧σ=⟨[(3,.row (q0e x38) 66),(2,.row (q01 x17) 54),(1,.vec (List.map q0l l50).flatten 56 2 t51),(0,.row [.iM q01 p1.Nodes] 24)],6⟩) ?_ ?_
 rintro _ _ ⟨l50,t51,hF,rfl,rfl⟩
 unfold q5e at hF
 refine go ?_
 exact lC ⟨_,l50,t51,hF,rfl,rfl⟩
 refine cF hF (fun h49 hF=>?_) (fun h49 hF=>?_)
 refine gn ?_
 refine WPU.ghost (tm':=fr 57 [(3,.iM (cL (cI .i64)) r2),(4,.vl 1 t34 0 l33.length),(5,.i6 z11),(8,.ptr 3 0 0),(9,.iM (cI .i64) (r42++[x38.Feat])),(13,.iM q01 p1.Nodes),(14,.i6 (p1.Nodes.length:Int)),(15,.i6 z11),(21,.iM q0e x17.Arcs),(22,.i6 (x17.Arcs.length:Int)),(23,.i6 z32)]) (σ':=⟨[(3,.row (q0e x38) 66),(2,.row (q01 x17) 54),(1,.vec (List.map q0l l33).flatten 56 2 t34),(0,.row [.iM q01 p1.Nodes] 24)],6⟩) (Gh.trans (Gh.sub (l':=[(3,.iM (cL (cI .i64)) r2),(4,.vl 1 t34 0 l33.length),(5,.i6 z11),(8,.ptr 3 0 0),(9,.vl 5 1 0 ((r42++[x38.Feat]).length)),(13,.iM q01 p1.Nodes),(14,.i6 (p1.Nodes.length:Int)),(15,.i6 z11),(21,.iM q0e x17.Arcs),(22,.i6 (x17.Arcs.length:Int)),(23,.i6 z32)]) ⟨rfl,rfl,rfl,rfl,rfl,rfl,rfl,rfl,rfl,rfl,rfl,trivial⟩) (z3s 5 1)) NZ ?_
 obtain ⟨x52,h53,hF⟩:=q00 hF
 obtain ⟨h54,hF⟩:=q0b hF
 refine go ?_
 refine RS.q rfl (q0y und66 rfl (q03 inf3) rfl rfl rfl) (RS.q rfl (q0m und3 rfl rfl rfl rfl) (RS.q rfl (q0i rfl rfl (q09 (cL (cI .i64)) und28 (q03 inf33) (q41 (cI .i64)) h53 rfl)) (RS.q rfl (q0c und33 rfl rfl rfl) ?_)))
 refine go ?_
 refine RS.q (u:=.agg [.iM (cI .i64) x52,.iM (cI .i64) (r42++[x38.Feat])]) rfl (q3t bd56 rfl rfl rfl) (RS.q (u:=.sl 6 0 1 1) (σ':=⟨[(6,.row [.iM (cI .i64) x52,.iM (cI .i64) (r42++[x38.Feat])] 56),(3,.row (q0e x38) 66),(2,.row (q01 x17) 54),(1,.vec (List.map q0l l33).flatten 56 2 t34),(0,.row [.iM q01 p1.Nodes] 24)],7⟩) rfl (q0j und31 inf56 rfl rfl rfl rfl rfl rfl rfl) (RS.q (u:=.vl 1 (t34+1) 0 ((l33++[(q0g.mk x52 (r42++[x38.Feat]))]).length)) (σ':=⟨[(6,.row [.iM (cI .i64) x52,.iM (cI .i64) (r42++[x38.Feat])] 56),(3,.row (q0e x38) 66),(2,.row (q01 x17) 54),(1,.vec (List.map q0l (l33++[(q0g.mk x52 (r42++[x38.Feat]))])).flatten 56 2 (t34+1)),(0,.row [.iM q01 p1.Nodes] 24)],7⟩) rfl (q1n rfl rfl rfl rfl (q23 q0l ([(q0g.mk x52 (r42++[x38.Feat]))]) und31 und31 inf56 rfl q2p rfl (q1m q0l [(q0g.mk x52 (r42++[x38.Feat]))] rfl rfl rfl rfl) h54)) ?_))
 refine go ?_
 exact xC ⟨(l33++[(q0g.mk x52 (r42++[x38.Feat]))]),(t34+1),hF,rfl,rfl⟩
 refine go ?_
 exact ⟨_,_,⟨l33,t34,hF,rfl,rfl⟩,NZ,Gh.trans (Gh.only (fun k=>!(Nat.beq k 5))) (Gh.toC (n1:=6) ⟨rfl,rfl,rfl,rfl,rfl,rfl,rfl,rfl,rfl,trivial⟩ rfl NZ (by simp))⟩
 refine go ?_
 exact xC ⟨l33,t34,hF,rfl,rfl⟩
 refine go ?_
 exact xC ⟨l12,t13,hF,rfl,rfl⟩
def qd0 (z22:Int) (l23:List q0n) (rc2:Int→(List q0n)→Option (GFS)) (x28:q0n) (l48:List q12):Option (GFS) :=
 q19 ((l23.length+1)*32≤140737488355328∧l23.length+1≤140737488355328) (
 rc2 (IntKind.i64.wrap (z22+1)) (l23++[(q0n.mk x28.Typex l48)]))
def q98 (p1:List Int) (z22:Int) (l23:List q0n) (rc2:Int→(List q0n)→Option (GFS)) (x28:q0n):Nat→Int→(List q12)→Option (GFS)
 | 0,_,_=>none
 | m3+1,z45,l46 =>
  cond (decide (z45<(x28.Arcs.length:Int)))
   (q04 (q0u x28.Arcs z45) fun x52 =>
   q19 ((l46.length+1)*16≤140737488355328∧l46.length+1≤140737488355328) (
   (q98 p1 z22 l23 rc2 x28 m3) (IntKind.i64.wrap (z45+1)) (l46++[(q12.mk x52.Feat (IntKind.i64.wrap (x52.To+(p1.length:Int))))])))
   (qd0 z22 l23 rc2 x28 l46)
def qcz  (l25:List q0n):Option (GFS) :=
 some (GFS.mk l25)
def q4v (p1:List Int) (p2:GFS) (n:Nat):Nat→Int→(List q0n)→Option (GFS)
 | 0,_,_=>none
 | m2+1,z22,l23 =>
  cond (decide (z22<(p2.Nodes.length:Int)))
   (q04 (q0u p2.Nodes z22) fun x28 =>
   q98 p1 z22 l23 (q4v p1 p2 n m2) x28 n 0 ([]:List q12))
   (qcz l23)
def qcy (p1:List Int) (p2:GFS) (n:Nat) (l13:List q0n):Option (GFS) :=
 q4v p1 p2 n n 0 l13
def q97 (p1:List Int) (p2:GFS) (n:Nat):Nat→Int→(List q0n)→Option (GFS)
 | 0,_,_=>none
 | m1+1,z10,l11 =>
  cond (decide (z10<(p1.length:Int)))
   (q04 (q0u p1 z10) fun x56 =>
   q19 ((l11.length+1)*32≤140737488355328∧l11.length+1≤140737488355328) (
   (q97 p1 p2 n m1) (IntKind.i64.wrap (z10+1)) (l11++[(q0n.mk 0 ([(q12.mk x56 (IntKind.i64.wrap (z10+1)))]))])))
   (qcy p1 p2 n l11)
def qiw (n:Nat) (p1:List Int) (p2:GFS):Option (GFS) :=
 q97 p1 p2 n n 0 ([]:List q0n)
theorem q5z (n:Nat) (p1:List Int) (p2:GFS) (r:GFS) (hF:qiw n p1 p2=some r):EvU Tryz.prog 22 [.isl false (List.map (cI .i64) p1),.agg [.isl false (List.map q01 p2.Nodes)]] ⟨[],0⟩ (fun u _=>u = .agg [.isl false (List.map q01 r.Nodes)]∧Bel 0 u):=by
 unfold qiw at hF
 refine bg2 71 fn22 ?_
 refine go ?_
 refine RS.q (u:=.ptr 0 0 0) (σ':=⟨[(0,.row [.iM q01 p2.Nodes] 24)],1⟩) rfl (q3u rfl rfl rfl) (RS.q (u:=.ptr 1 0 0) (σ':=⟨[(1,.row [.nils] 24),(0,.row [.iM q01 p2.Nodes] 24)],2⟩) rfl (q1e inf24 rfl rfl) ?_)
 refine go ?_
 refine RS.q (u:=.ptr 2 0 0) (σ':=⟨[(2,.row [.nils] 24),(1,.row [.nils] 24),(0,.row [.iM q01 p2.Nodes] 24)],3⟩) rfl (q1e inf24 rfl rfl) ?_
 refine go ?_
 refine RS.q rfl (q0a rfl rfl rfl (q07 (cI .i64) und33)) ?_
 refine gn ?_
 refine WPU.ghost (tm':=fr 71 [(0,.iM (cI .i64) p1),(3,.ptr 0 0 0),(4,.ptr 1 0 0),(5,.ptr 2 0 0),(13,.iM (cI .i64) p1),(14,.i6 (p1.length:Int)),(15,.i6 0)]) (σ':=⟨[(3,.vec (List.map q01 ([]:List q0n)).flatten 54 2 0),(2,.row [.vl 3 0 0 (([]:List q0n).length)] 24),(1,.row [.nils] 24),(0,.row [.iM q01 p2.Nodes] 24)],4⟩) (Gh.trans (z3p 2 0 54 2 (by decide) NZ rfl rfl) (z3j ⟨rfl,rfl,rfl,rfl,rfl,rfl,rfl,trivial⟩ rfl)) NZ ?_
 refine gS (l':=[(0,_),(3,_),(4,_),(5,_),(13,_),(14,_),(15,_)]) ?_
 refine z3e (fun m tm σ=>∃ z10:Int,∃ l11:List q0n,∃ t12:Nat,q97 p1 p2 n m z10 l11=some r∧tm=fr 71 [(0,.iM (cI .i64) p1),(3,.ptr 0 0 0),(4,.ptr 1 0 0),(5,.ptr 2 0 0),(13,.iM (cI .i64) p1),(14,.i6 (p1.length:Int)),(15,.i6 z10)]∧σ=⟨[(3,.vec (List.map q01 l11).flatten 54 2 t12),(2,.row [.vl 3 t12 0 l11.length] 24),(1,.row [.nils] 24),(0,.row [.iM q01 p2.Nodes] 24)],4⟩) (fun tm σ=>∃ l13:List q0n,∃ t14:Nat,qcy p1 p2 n l13=some r∧tm=fr 71 [(0,.iM (cI .i64) p1),(3,.ptr 0 0 0),(4,.ptr 1 0 0),(5,.ptr 2 0 0)]∧σ=⟨[(3,.vec (List.map q01 l13).flatten 54 2 t14),(2,.row [.vl 3 t14 0 l13.length] 24),(1,.row [.nils] 24),(0,.row [.iM q01 p2.Nodes] 24)],4⟩) n ⟨0,([]:List q0n),0,hF,rfl,rfl⟩ ?_ ?_
 rintro _ _ ⟨l13,t14,hF,rfl,rfl⟩
 unfold qcy at hF
 refine go ?_
 refine RS.q rfl (q0y und24 rfl (q03 inf22) rfl rfl rfl) (RS.q rfl (q0m und22 rfl rfl rfl rfl) (RS.q rfl (q0a rfl rfl rfl (q07 q01 und22)) ?_))
 refine go ?_
 refine gS (l':=[(0,_),(4,_),(5,_),(33,_),(34,_),(35,_)]) ?_
 refine z3e (fun m tm σ=>∃ z22:Int,∃ l23:List q0n,∃ t24:Nat,q4v p1 p2 n m z22 l23=some r∧tm=fr 71 [(0,.iM (cI .i64) p1),(4,.ptr 1 0 0),(5,.ptr 2 0 0),(33,.iM q01 p2.Nodes),(34,.i6 (p2.Nodes.length:Int)),(35,.i6 z22)]∧σ=⟨[(3,.vec (List.map q01 l23).flatten 54 2 t24),(2,.row [.vl 3 t24 0 l23.length] 24),(1,.row [.nils] 24),(0,.row [.iM q01 p2.Nodes] 24)],4⟩) (fun tm σ=>∃ l25:List q0n,∃ t26:Nat,qcz l25=some r∧tm=fr 71 [(4,.ptr 1 0 0),(5,.ptr 2 0 0)]∧σ=⟨[(3,.vec (List.map q01 l25).flatten 54 2 t26),(2,.row [.vl 3 t26 0 l25.length] 24),(1,.row [.nils] 24),(0,.row [.iM q01 p2.Nodes] 24)],4⟩) n ⟨0,l13,t14,hF,rfl,rfl⟩ ?_ ?_
 rintro _ _ ⟨l25,t26,hF,rfl,rfl⟩
 unfold qcz at hF
 refine go ?_
 refine RS.q (u:=.agg [.vl 3 t26 0 l25.length]) rfl (q1b und24 rfl (q03 inf24) rfl rfl rfl) ?_
 refine z3i (u:=.junk) (σ':=⟨[(3,.vec (List.map q01 l25).flatten 54 2 t26),(2,.row [.vl 3 t26 0 l25.length] 24),(1,.row [.vl 3 t26 0 l25.length] 24),(0,.row [.iM q01 p2.Nodes] 24)],4⟩) rfl (q0r (q03 inf24) rfl rfl rfl rfl rfl rfl rfl rfl) rfl ?_
 refine go ?_
 obtain rfl:=sI hF
 exact rT (us:=[.agg [.vl 3 t26 0 l25.length]]) (u:=.agg [.iM q01 l25]) (qk4 (q1b und24 rfl (q03 inf24) rfl rfl rfl) (q3b)) (fR 3 2)
 rintro (_|m2) _ _ ⟨z22,l23,t24,hF,rfl,rfl⟩
 cases hF
 unfold q4v at hF
 refine go ?_
 refine cF hF (fun h27 hF=>?_) (fun h27 hF=>?_)
 refine go ?_
 refine WPU.block ?_
 obtain ⟨x28,h29,hF⟩:=q00 hF
 refine go ?_
 refine RS.q rfl (q0i rfl rfl (q09 q01 und22 (q03 inf54) q1p h29 rfl)) (RS.q (u:=.agg (q01 x28)) rfl (q8u und54 rfl (q03 inf54) rfl rfl) (RS.q (u:=.ptr 4 0 0) (σ':=⟨[(4,.row [.i6 0,.nils] 54),(3,.vec (List.map q01 l23).flatten 54 2 t24),(2,.row [.vl 3 t24 0 l23.length] 24),(1,.row [.nils] 24),(0,.row [.iM q01 p2.Nodes] 24)],5⟩) rfl (q1e inf54 rfl rfl) ?_))
 refine z3i (u:=.junk) (σ':=⟨[(4,.row (q01 x28) 54),(3,.vec (List.map q01 l23).flatten 54 2 t24),(2,.row [.vl 3 t24 0 l23.length] 24),(1,.row [.nils] 24),(0,.row [.iM q01 p2.Nodes] 24)],5⟩) rfl (q0r (q03 inf54) rfl rfl rfl rfl rfl rfl rfl rfl) rfl ?_
 refine go ?_
 refine RS.q rfl (q0y und54 rfl (q03 inf3) rfl rfl rfl) (RS.q rfl (q0m und3 rfl rfl rfl rfl) (RS.q (u:=.agg [.i6 x28.Typex,.nils]) rfl (q3t bd54 rfl rfl rfl) (RS.q (u:=.ptr 5 0 0) (σ':=⟨[(5,.row [.i6 0,.nils] 54),(4,.row (q01 x28) 54),(3,.vec (List.map q01 l23).flatten 54 2 t24),(2,.row [.vl 3 t24 0 l23.length] 24),(1,.row [.nils] 24),(0,.row [.iM q01 p2.Nodes] 24)],6⟩) rfl (q1e inf54 rfl rfl) ?_)))
 refine z3i (u:=.junk) (σ':=⟨[(5,.row [.i6 x28.Typex,.nils] 54),(4,.row (q01 x28) 54),(3,.vec (List.map q01 l23).flatten 54 2 t24),(2,.row [.vl 3 t24 0 l23.length] 24),(1,.row [.nils] 24),(0,.row [.iM q01 p2.Nodes] 24)],6⟩) rfl (q0r (q03 inf54) rfl rfl rfl rfl rfl rfl rfl rfl) rfl ?_
 refine go ?_
 refine RS.q rfl (q0y und54 rfl (q03 inf52) rfl rfl rfl) (RS.q rfl (q0m und52 rfl rfl rfl rfl) (RS.q rfl (q0a rfl rfl rfl (q07 q0e und52)) ?_))
 refine gn ?_
 refine WPU.ghost (tm':=fr 71 [(0,.iM (cI .i64) p1),(4,.ptr 1 0 0),(5,.ptr 2 0 0),(10,.ptr 5 0 0),(33,.iM q01 p2.Nodes),(34,.i6 (p2.Nodes.length:Int)),(35,.i6 z22),(43,.iM q0e x28.Arcs),(44,.i6 (x28.Arcs.length:Int)),(45,.i6 0)]) (σ':=⟨[(6,.vec (List.map q0e ([]:List q12)).flatten 66 2 0),(5,.row [.i6 x28.Typex,.vl 6 0 0 (([]:List q12).length)] 54),(4,.row (q01 x28) 54),(3,.vec (List.map q01 l23).flatten 54 2 t24),(2,.row [.vl 3 t24 0 l23.length] 24),(1,.row [.nils] 24),(0,.row [.iM q01 p2.Nodes] 24)],7⟩) (Gh.trans (z3p 5 1 66 2 (by decide) NZ rfl rfl) (z3j ⟨rfl,rfl,rfl,rfl,rfl,rfl,rfl,rfl,rfl,rfl,trivial⟩ rfl)) NZ ?_
 refine gS (l':=[(0,_),(4,_),(5,_),(10,_),(33,_),(34,_),(35,_),(43,_),(44,_),(45,_)]) ?_
 refine z3e (fun m tm σ=>∃ z45:Int,∃ l46:List q12,∃ t47:Nat,q98 p1 z22 l23 (q4v p1 p2 n m2) x28 m z45 l46=some r∧tm=fr 71 [(0,.iM (cI .i64) p1),(4,.ptr 1 0 0),(5,.ptr 2 0 0),(10,.ptr 5 0 0),(33,.iM q01 p2.Nodes),(34,.i6 (p2.Nodes.length:Int)),(35,.i6 z22),(43,.iM q0e x28.Arcs),(44,.i6 (x28.Arcs.length:Int)),(45,.i6 z45)]∧σ=⟨[(6,.vec (List.map q0e l46).flatten 66 2 t47),(5,.row [.i6 x28.Typex,.vl 6 t47 0 l46.length] 54),(4,.row (q01 x28) 54),(3,.vec (List.map q01 l23).flatten 54 2 t24),(2,.row [.vl 3 t24 0 l23.length] 24),(1,.row [.nils] 24),(0,.row [.iM q01 p2.Nodes] 24)],7⟩) (fun tm σ=>∃ l48:List q12,∃ t49:Nat,qd0 z22 l23 (q4v p1 p2 n m2) x28 l48=some r∧tm=fr 71 [(0,.iM (cI .i64) p1),(4,.ptr 1 0 0),(5,.ptr 2 0 0),(10,.ptr 5 0 0),(33,.iM q01 p2.Nodes),(34,.i6 (p2.Nodes.length:Int)),(35,.i6 z22)]∧σ=⟨[(6,.vec (List.map q0e l48).flatten 66 2 t49),(5,.row [.i6 x28.Typex,.vl 6 t49 0 l48.length] 54),(4,.row (q01 x28) 54),(3,.vec (List.map q01 l23).flatten 54 2 t24),(2,.row [.vl 3 t24 0 l23.length] 24),(1,.row [.nils] 24),(0,.row [.iM q01 p2.Nodes] 24)],7⟩) n ⟨0,([]:List q12),0,hF,rfl,rfl⟩ ?_ ?_
 rintro _ _ ⟨l48,t49,hF,rfl,rfl⟩
 unfold qd0 at hF
 refine gn ?_
 refine WPU.ghost (tm':=fr 71 [(0,.iM (cI .i64) p1),(4,.ptr 1 0 0),(5,.ptr 2 0 0),(10,.ptr 5 0 0),(33,.iM q01 p2.Nodes),(34,.i6 (p2.Nodes.length:Int)),(35,.i6 z22)]) (σ':=⟨[(5,.row [.i6 x28.Typex,.iM q0e l48] 54),(4,.row (q01 x28) 54),(3,.vec (List.map q01 l23).flatten 54 2 t24),(2,.row [.vl 3 t24 0 l23.length] 24),(1,.row [.nils] 24),(0,.row [.iM q01 p2.Nodes] 24)],7⟩) (Gh.trans (Gh.sub (l':=[(0,.iM (cI .i64) p1),(4,.ptr 1 0 0),(5,.ptr 2 0 0),(10,.ptr 5 0 0),(33,.iM q01 p2.Nodes),(34,.i6 (p2.Nodes.length:Int)),(35,.i6 z22)]) ⟨rfl,rfl,rfl,rfl,rfl,rfl,rfl,trivial⟩) (z3s 6 2)) NZ ?_
 obtain ⟨h50,hF⟩:=q0b hF
 refine go ?_
 refine RS.q rfl (q0y und24 rfl (q03 inf22) rfl rfl rfl) (RS.q rfl (q0m und22 rfl rfl rfl rfl) (RS.q (u:=.agg [.i6 x28.Typex,.iM q0e l48]) rfl (q1b und54 rfl (q03 inf54) rfl rfl rfl) (RS.q (u:=.sl 7 0 1 1) (σ':=⟨[(7,.row [.i6 x28.Typex,.iM q0e l48] 54),(5,.row [.i6 x28.Typex,.iM q0e l48] 54),(4,.row (q01 x28) 54),(3,.vec (List.map q01 l23).flatten 54 2 t24),(2,.row [.vl 3 t24 0 l23.length] 24),(1,.row [.nils] 24),(0,.row [.iM q01 p2.Nodes] 24)],8⟩) rfl (q0j und22 inf54 rfl rfl rfl rfl rfl rfl rfl) (RS.q (u:=.vl 3 (t24+1) 0 ((l23++[(q0n.mk x28.Typex l48)]).length)) (σ':=⟨[(7,.row [.i6 x28.Typex,.iM q0e l48] 54),(5,.row [.i6 x28.Typex,.iM q0e l48] 54),(4,.row (q01 x28) 54),(3,.vec (List.map q01 (l23++[(q0n.mk x28.Typex l48)])).flatten 54 2 (t24+1)),(2,.row [.vl 3 t24 0 l23.length] 24),(1,.row [.nils] 24),(0,.row [.iM q01 p2.Nodes] 24)],8⟩) rfl (q1n rfl rfl rfl rfl (q23 q01 ([(q0n.mk x28.Typex l48)]) und22 und22 inf54 rfl q1p rfl (q1m q01 [(q0n.mk x28.Typex l48)] rfl rfl rfl rfl) h50)) (RS.q rfl (q0y und24 rfl (q03 inf22) rfl rfl rfl) ?_)))))
 refine z3i (u:=.junk) (σ':=⟨[(7,.row [.i6 x28.Typex,.iM q0e l48] 54),(5,.row [.i6 x28.Typex,.iM q0e l48] 54),(4,.row (q01 x28) 54),(3,.vec (List.map q01 (l23++[(q0n.mk x28.Typex l48)])).flatten 54 2 (t24+1)),(2,.row [.vl 3 (t24+1) 0 ((l23++[(q0n.mk x28.Typex l48)]).length)] 24),(1,.row [.nils] 24),(0,.row [.iM q01 p2.Nodes] 24)],8⟩) rfl (q0r (q03 inf22) rfl rfl rfl rfl rfl rfl rfl rfl) rfl ?_
 refine go ?_
 exact lC ⟨_,(l23++[(q0n.mk x28.Typex l48)]),(t24+1),hF,rfl,rfl⟩
 rintro (_|m3) _ _ ⟨z45,l46,t47,hF,rfl,rfl⟩
 cases hF
 unfold q98 at hF
 refine go ?_
 refine cF hF (fun h51 hF=>?_) (fun h51 hF=>?_)
 refine go ?_
 refine WPU.block ?_
 obtain ⟨x52,h53,hF⟩:=q00 hF
 refine go ?_
 refine RS.q rfl (q0i rfl rfl (q09 q0e und52 (q03 inf66) q0t h53 rfl)) (RS.q (u:=.agg (q0e x52)) rfl (q8u und66 rfl (q03 inf66) rfl rfl) (RS.q (u:=.ptr 7 0 0) (σ':=⟨[(7,.row [.i6 0,.i6 0] 66),(6,.vec (List.map q0e l46).flatten 66 2 t47),(5,.row [.i6 x28.Typex,.vl 6 t47 0 l46.length] 54),(4,.row (q01 x28) 54),(3,.vec (List.map q01 l23).flatten 54 2 t24),(2,.row [.vl 3 t24 0 l23.length] 24),(1,.row [.nils] 24),(0,.row [.iM q01 p2.Nodes] 24)],8⟩) rfl (q1e inf66 rfl rfl) ?_))
 refine z3i (u:=.junk) (σ':=⟨[(7,.row (q0e x52) 66),(6,.vec (List.map q0e l46).flatten 66 2 t47),(5,.row [.i6 x28.Typex,.vl 6 t47 0 l46.length] 54),(4,.row (q01 x28) 54),(3,.vec (List.map q01 l23).flatten 54 2 t24),(2,.row [.vl 3 t24 0 l23.length] 24),(1,.row [.nils] 24),(0,.row [.iM q01 p2.Nodes] 24)],8⟩) rfl (q0r (q03 inf66) rfl rfl rfl rfl rfl rfl rfl rfl) rfl ?_
 obtain ⟨h54,hF⟩:=q0b hF
 refine go ?_
 refine RS.q rfl (q0y und54 rfl (q03 inf52) rfl rfl rfl) (RS.q rfl (q0m und52 rfl rfl rfl rfl) (RS.q rfl (q0y und66 rfl (q03 inf3) rfl rfl rfl) (RS.q rfl (q0m und3 rfl rfl rfl rfl) (RS.q rfl (q0y und66 rfl (q03 inf3) rfl rfl rfl) (RS.q rfl (q0m und3 rfl rfl rfl rfl) ?_)))))
 refine go ?_
 refine RS.q rfl (q0a rfl rfl rfl (q07 (cI .i64) und33)) ?_
 refine go ?_
 refine RS.q (u:=.agg [.i6 x52.Feat,.i6 (IntKind.i64.wrap (x52.To+(p1.length:Int)))]) rfl (q3t bd66 rfl rfl rfl) (RS.q (u:=.sl 8 0 1 1) (σ':=⟨[(8,.row [.i6 x52.Feat,.i6 (IntKind.i64.wrap (x52.To+(p1.length:Int)))] 66),(7,.row (q0e x52) 66),(6,.vec (List.map q0e l46).flatten 66 2 t47),(5,.row [.i6 x28.Typex,.vl 6 t47 0 l46.length] 54),(4,.row (q01 x28) 54),(3,.vec (List.map q01 l23).flatten 54 2 t24),(2,.row [.vl 3 t24 0 l23.length] 24),(1,.row [.nils] 24),(0,.row [.iM q01 p2.Nodes] 24)],9⟩) rfl (q0j und52 inf66 rfl rfl rfl rfl rfl rfl rfl) (RS.q (u:=.vl 6 (t47+1) 0 ((l46++[(q12.mk x52.Feat (IntKind.i64.wrap (x52.To+(p1.length:Int))))]).length)) (σ':=⟨[(8,.row [.i6 x52.Feat,.i6 (IntKind.i64.wrap (x52.To+(p1.length:Int)))] 66),(7,.row (q0e x52) 66),(6,.vec (List.map q0e (l46++[(q12.mk x52.Feat (IntKind.i64.wrap (x52.To+(p1.length:Int))))])).flatten 66 2 (t47+1)),(5,.row [.i6 x28.Typex,.vl 6 t47 0 l46.length] 54),(4,.row (q01 x28) 54),(3,.vec (List.map q01 l23).flatten 54 2 t24),(2,.row [.vl 3 t24 0 l23.length] 24),(1,.row [.nils] 24),(0,.row [.iM q01 p2.Nodes] 24)],9⟩) rfl (q1n rfl rfl rfl rfl (q23 q0e ([(q12.mk x52.Feat (IntKind.i64.wrap (x52.To+(p1.length:Int))))]) und52 und52 inf66 rfl q0t rfl (q1m q0e [(q12.mk x52.Feat (IntKind.i64.wrap (x52.To+(p1.length:Int))))] rfl rfl rfl rfl) h54)) (RS.q rfl (q0y und54 rfl (q03 inf52) rfl rfl rfl) ?_)))
 refine z3i (u:=.junk) (σ':=⟨[(8,.row [.i6 x52.Feat,.i6 (IntKind.i64.wrap (x52.To+(p1.length:Int)))] 66),(7,.row (q0e x52) 66),(6,.vec (List.map q0e (l46++[(q12.mk x52.Feat (IntKind.i64.wrap (x52.To+(p1.length:Int))))])).flatten 66 2 (t47+1)),(5,.row [.i6 x28.Typex,.vl 6 (t47+1) 0 ((l46++[(q12.mk x52.Feat (IntKind.i64.wrap (x52.To+(p1.length:Int))))]).length)] 54),(4,.row (q01 x28) 54),(3,.vec (List.map q01 l23).flatten 54 2 t24),(2,.row [.vl 3 t24 0 l23.length] 24),(1,.row [.nils] 24),(0,.row [.iM q01 p2.Nodes] 24)],9⟩) rfl (q0r (q03 inf52) rfl rfl rfl rfl rfl rfl rfl rfl) rfl ?_
 refine go ?_
 exact lC ⟨_,(l46++[(q12.mk x52.Feat (IntKind.i64.wrap (x52.To+(p1.length:Int))))]),(t47+1),hF,rfl,rfl⟩
 refine go ?_
 exact xC ⟨l46,t47,hF,rfl,rfl⟩
 refine go ?_
 exact xC ⟨l23,t24,hF,rfl,rfl⟩
 rintro (_|m1) _ _ ⟨z10,l11,t12,hF,rfl,rfl⟩
 cases hF
 unfold q97 at hF
 refine go ?_
 refine cF hF (fun h55 hF=>?_) (fun h55 hF=>?_)
 refine go ?_
 refine WPU.block ?_
 obtain ⟨x56,h57,hF⟩:=q00 hF
 refine go ?_
 refine RS.q rfl (q0i rfl rfl (q09 (cI .i64) und33 (q03 inf3) (q18 .i64) h57 rfl)) (RS.q rfl (q0c und3 rfl rfl rfl) ?_)
 obtain ⟨h58,hF⟩:=q0b hF
 refine go ?_
 refine RS.q rfl (q0y und24 rfl (q03 inf22) rfl rfl rfl) (RS.q rfl (q0m und22 rfl rfl rfl rfl) ?_)
 refine go ?_
 refine RS.q (u:=.agg [.i6 x56,.i6 (IntKind.i64.wrap (z10+1))]) rfl (q3t bd66 rfl rfl rfl) (RS.step (u:=.iM q0e ([(q12.mk x56 (IntKind.i64.wrap (z10+1)))])) (σ':=⟨[(3,.vec (List.map q01 l11).flatten 54 2 t12),(2,.row [.vl 3 t12 0 l11.length] 24),(1,.row [.nils] 24),(0,.row [.iM q01 p2.Nodes] 24)],5⟩) rfl (qdy.fz Tryz.tb_ok (u1:=.sl 4 0 1 1) (s1:=⟨[(4,.row [.i6 x56,.i6 (IntKind.i64.wrap (z10+1))] 66),(3,.vec (List.map q01 l11).flatten 54 2 t12),(2,.row [.vl 3 t12 0 l11.length] 24),(1,.row [.nils] 24),(0,.row [.iM q01 p2.Nodes] 24)],5⟩) (q0j und52 inf66 rfl rfl rfl rfl rfl rfl rfl) (z3h 4 2) (Nat.le_refl _) rfl rfl) rfl rfl (RS.q (u:=.agg [.i6 0,.iM q0e ([(q12.mk x56 (IntKind.i64.wrap (z10+1)))])]) rfl (q3t bd54 rfl rfl rfl) (RS.q (u:=.sl 5 0 1 1) (σ':=⟨[(5,.row [.i6 0,.iM q0e ([(q12.mk x56 (IntKind.i64.wrap (z10+1)))])] 54),(3,.vec (List.map q01 l11).flatten 54 2 t12),(2,.row [.vl 3 t12 0 l11.length] 24),(1,.row [.nils] 24),(0,.row [.iM q01 p2.Nodes] 24)],6⟩) rfl (q0j und22 inf54 rfl rfl rfl rfl rfl rfl rfl) (RS.q (u:=.vl 3 (t12+1) 0 ((l11++[(q0n.mk 0 ([(q12.mk x56 (IntKind.i64.wrap (z10+1)))]))]).length)) (σ':=⟨[(5,.row [.i6 0,.iM q0e ([(q12.mk x56 (IntKind.i64.wrap (z10+1)))])] 54),(3,.vec (List.map q01 (l11++[(q0n.mk 0 ([(q12.mk x56 (IntKind.i64.wrap (z10+1)))]))])).flatten 54 2 (t12+1)),(2,.row [.vl 3 t12 0 l11.length] 24),(1,.row [.nils] 24),(0,.row [.iM q01 p2.Nodes] 24)],6⟩) rfl (q1n rfl rfl rfl rfl (q23 q01 ([(q0n.mk 0 ([(q12.mk x56 (IntKind.i64.wrap (z10+1)))]))]) und22 und22 inf54 rfl q1p rfl (q1m q01 [(q0n.mk 0 ([(q12.mk x56 (IntKind.i64.wrap (z10+1)))]))] rfl rfl rfl rfl) h58)) (RS.q rfl (q0y und24 rfl (q03 inf22) rfl rfl rfl) ?_)))))
 refine z3i (u:=.junk) (σ':=⟨[(5,.row [.i6 0,.iM q0e ([(q12.mk x56 (IntKind.i64.wrap (z10+1)))])] 54),(3,.vec (List.map q01 (l11++[(q0n.mk 0 ([(q12.mk x56 (IntKind.i64.wrap (z10+1)))]))])).flatten 54 2 (t12+1)),(2,.row [.vl 3 (t12+1) 0 ((l11++[(q0n.mk 0 ([(q12.mk x56 (IntKind.i64.wrap (z10+1)))]))]).length)] 24),(1,.row [.nils] 24),(0,.row [.iM q01 p2.Nodes] 24)],6⟩) rfl (q0r (q03 inf22) rfl rfl rfl rfl rfl rfl rfl rfl) rfl ?_
 refine go ?_
 exact lC ⟨_,(l11++[(q0n.mk 0 ([(q12.mk x56 (IntKind.i64.wrap (z10+1)))]))]),(t12+1),hF,rfl,rfl⟩
 refine go ?_
 exact xC ⟨l11,t12,hF,rfl,rfl⟩
def qcx (n:Nat) (l13:List (List UInt8)):Option ((List UInt8)) :=
 q04 (strings_Join n l13 ([46])) fun r15 =>
 some r15
def q95 (p1:q15) (p2:List Int) (n:Nat):Nat→Int→(List (List UInt8))→Option ((List UInt8))
 | 0,_,_=>none
 | m1+1,z10,l11 =>
  cond (decide (z10<(p2.length:Int)))
   (q04 (q0u p2 z10) fun x18 =>
   q04 (q0u p1.Feats x18) fun x20 =>
   q19 ((l11.length+1)*16≤140737488355328∧l11.length+1≤140737488355328) (
   (q95 p1 p2 n m1) (IntKind.i64.wrap (z10+1)) (l11++[x20.Name])))
   (qcx n l11)
def qiv (n:Nat) (p1:q15) (p2:List Int):Option ((List UInt8)) :=
 q95 p1 p2 n n 0 ([]:List (List UInt8))
theorem qeg (n:Nat) (p1:q15) (p2:List Int) (r:(List UInt8)) (hF:qiv n p1 p2=some r):EvU Tryz.prog 25 [.agg (q06 p1),.isl false (List.map (cI .i64) p2)] ⟨[],0⟩ (fun u _=>u = .str r∧Bel 0 u):=by
 unfold qiv at hF
 refine bg2 26 fn25 ?_
 refine go ?_
 refine RS.q (u:=.ptr 0 0 0) (σ':=⟨[(0,.row (q06 p1) 43)],1⟩) rfl (q3u rfl rfl rfl) ?_
 refine go ?_
 refine RS.q rfl (q0a rfl rfl rfl (q07 (cI .i64) und33)) ?_
 refine gn ?_
 refine WPU.ghost (tm':=fr 26 [(2,.ptr 0 0 0),(5,.vl 1 0 0 (([]:List (List UInt8)).length)),(8,.iM (cI .i64) p2),(9,.i6 (p2.length:Int)),(10,.i6 0)]) (σ':=⟨[(1,.vec (List.map cS ([]:List (List UInt8))).flatten 9 1 0),(0,.row (q06 p1) 43)],2⟩) (Gh.trans (z3k 5 9 1 (by decide) NZ rfl rfl) (z3j ⟨rfl,rfl,rfl,rfl,rfl,trivial⟩ rfl)) NZ ?_
 refine gS (l':=[(2,_),(5,_),(8,_),(9,_),(10,_)]) ?_
 refine z3e (fun m tm σ=>∃ z10:Int,∃ l11:List (List UInt8),∃ t12:Nat,q95 p1 p2 n m z10 l11=some r∧tm=fr 26 [(2,.ptr 0 0 0),(5,.vl 1 t12 0 l11.length),(8,.iM (cI .i64) p2),(9,.i6 (p2.length:Int)),(10,.i6 z10)]∧σ=⟨[(1,.vec (List.map cS l11).flatten 9 1 t12),(0,.row (q06 p1) 43)],2⟩) (fun tm σ=>∃ l13:List (List UInt8),∃ t14:Nat,qcx n l13=some r∧tm=fr 26 [(5,.vl 1 t14 0 l13.length)]∧σ=⟨[(1,.vec (List.map cS l13).flatten 9 1 t14),(0,.row (q06 p1) 43)],2⟩) n ⟨0,([]:List (List UInt8)),0,hF,rfl,rfl⟩ ?_ ?_
 rintro _ _ ⟨l13,t14,hF,rfl,rfl⟩
 unfold qcx at hF
 obtain ⟨r15,h16,hF⟩:=q00 hF
 refine go ?_
 refine RS.cl rfl (vw (qmz n l13 ([46]) r15 h16) (z3h 1 1)) fn52 ?_
 exact gx hF
 rintro (_|m1) _ _ ⟨z10,l11,t12,hF,rfl,rfl⟩
 cases hF
 unfold q95 at hF
 refine go ?_
 refine cF hF (fun h17 hF=>?_) (fun h17 hF=>?_)
 refine go ?_
 refine WPU.block ?_
 obtain ⟨x18,h19,hF⟩:=q00 hF
 refine go ?_
 refine RS.q rfl (q0i rfl rfl (q09 (cI .i64) und33 (q03 inf3) (q18 .i64) h19 rfl)) (RS.q rfl (q0c und3 rfl rfl rfl) ?_)
 obtain ⟨x20,h21,hF⟩:=q00 hF
 obtain ⟨h22,hF⟩:=q0b hF
 refine go ?_
 refine RS.q rfl (q0y und43 rfl (q03 inf41) rfl rfl rfl) (RS.q rfl (q0m und41 rfl rfl rfl rfl) ?_)
 refine go ?_
 refine RS.q rfl (q0i rfl rfl (q09 q1a und41 (q03 inf82) q90 h21 rfl)) (RS.q rfl (q1q und82 rfl (q03 inf9) rfl rfl) (RS.q rfl (q0c und9 rfl rfl rfl) (RS.q (u:=.sl 2 0 1 1) (σ':=⟨[(2,.row [.str x20.Name] 9),(1,.vec (List.map cS l11).flatten 9 1 t12),(0,.row (q06 p1) 43)],3⟩) rfl (q0j und80 inf9 rfl rfl rfl rfl rfl rfl rfl) (RS.q (u:=.vl 1 (t12+1) 0 ((l11++[x20.Name]).length)) (σ':=⟨[(2,.row [.str x20.Name] 9),(1,.vec (List.map cS (l11++[x20.Name])).flatten 9 1 (t12+1)),(0,.row (q06 p1) 43)],3⟩) rfl (q1n rfl rfl rfl rfl (q23 cS ([x20.Name]) und80 und80 inf9 rfl q1i rfl (q1m cS [x20.Name] rfl rfl rfl rfl) h22)) ?_))))
 refine go ?_
 exact lC ⟨_,(l11++[x20.Name]),(t12+1),hF,rfl,rfl⟩
 refine go ?_
 exact xC ⟨l11,t12,hF,rfl,rfl⟩
def q9w   : Option (Int) :=
 some (-1)
def q6c (p1:q15) (p2:List UInt8):Nat→Int→Option (Int)
 | 0,_=>none
 | m1+1,z9 =>
  cond (decide (z9<(p1.Feats.length:Int)))
   (q04 (q0u p1.Feats z9) fun x11 =>
   cond (qc1 x11 (q1j.mk p2 x11.Intro))
    (some z9)
    ((q6c p1 p2 m1) (IntKind.i64.wrap (z9+1))))
   (q9w)
def qe6 (n:Nat) (p1:q15) (p2:List UInt8):Option (Int) :=
 q6c p1 p2 n 0
theorem qmp (n:Nat) (p1:q15) (p2:List UInt8) (r:Int) (hF:qe6 n p1 p2=some r):EvU Tryz.prog 55 [.agg (q06 p1),.str p2] ⟨[],0⟩ (fun u _=>u = .int .i64 r∧Bel 0 u):=by
 unfold qe6 at hF
 refine bg2 23 fn55 ?_
 refine go ?_
 refine RS.q (u:=.ptr 0 0 0) (σ':=⟨[(0,.row (q06 p1) 43)],1⟩) rfl (q3u rfl rfl rfl) ?_
 refine go ?_
 refine RS.q rfl (q0y und43 rfl (q03 inf41) rfl rfl rfl) (RS.q rfl (q0m und41 rfl rfl rfl rfl) (RS.q rfl (q0a rfl rfl rfl (q07 q1a und41)) ?_))
 refine go ?_
 refine gS (l':=[(1,_),(8,_),(9,_),(10,_)]) ?_
 refine z3e (fun m tm σ=>∃ z9:Int,q6c p1 p2 m z9=some r∧tm=fr 23 [(1,.str p2),(8,.iM q1a p1.Feats),(9,.i6 (p1.Feats.length:Int)),(10,.i6 z9)]∧σ=⟨[(0,.row (q06 p1) 43)],1⟩) (fun tm σ=>q9w=some r∧tm=fr 23 []∧σ=⟨[(0,.row (q06 p1) 43)],1⟩) n ⟨0,hF,rfl,rfl⟩ ?_ ?_
 rintro _ _ ⟨hF,rfl,rfl⟩
 unfold q9w at hF
 exact gx hF
 rintro (_|m1) _ _ ⟨z9,hF,rfl,rfl⟩
 cases hF
 unfold q6c at hF
 refine go ?_
 refine cF hF (fun h10 hF=>?_) (fun h10 hF=>?_)
 refine go ?_
 refine WPU.block ?_
 obtain ⟨x11,h12,hF⟩:=q00 hF
 refine go ?_
 refine RS.q rfl (q0i rfl rfl (q09 q1a und41 (q03 inf82) q90 h12 rfl)) (RS.q (u:=.agg (q1a x11)) rfl (q8u und82 rfl (q03 inf82) rfl rfl) (RS.q (u:=.ptr 1 0 0) (σ':=⟨[(1,.row [.str [],.i6 0] 82),(0,.row (q06 p1) 43)],2⟩) rfl (q1e inf82 rfl rfl) ?_))
 refine go ?_
 refine z3i (u:=.junk) (σ':=⟨[(1,.row (q1a x11) 82),(0,.row (q06 p1) 43)],2⟩) rfl (q0r (q03 inf82) rfl rfl rfl rfl rfl rfl rfl rfl) rfl ?_
 refine go ?_
 refine RS.q (u:=.agg (q1a x11)) rfl (q1b und82 rfl (q03 inf82) rfl rfl rfl) ?_
 refine go ?_
 refine RS.q rfl (q0y und82 rfl (q03 inf3) rfl rfl rfl) (RS.q rfl (q0m und3 rfl rfl rfl rfl) (RS.q (u:=.agg [.str p2,.i6 x11.Intro]) rfl (q3t bd82 rfl rfl rfl) (RS.q (u:=.bool (qc1 x11 (q1j.mk p2 x11.Intro))) rfl (qx4 rfl rfl (qvy x11 (q1j.mk p2 x11.Intro))) ?_)))
 refine go ?_
 refine cF hF (fun h13 hF=>?_) (fun h13 hF=>?_)
 exact gx hF
 refine go ?_
 exact lC ⟨_,hF,rfl,rfl⟩
 refine go ?_
 exact xC ⟨hF,rfl,rfl⟩
def qcw  (l24:List Int):Option ((List Int)×Int) :=
 some (l24,0)
def q94 (p1:q15) (n:Nat) (r4:(List (List UInt8))):Nat→Int→(List Int)→Option ((List Int)×Int)
 | 0,_,_=>none
 | m2+1,z21,l22 =>
  cond (decide (z21<(r4.length:Int)))
   (q04 (q0u r4 z21) fun x27 =>
   q04 (qe6 n p1 x27) fun r29 =>
   cond (decide (r29<0))
    (some ([],5))
    (q19 ((l22.length+1)*8≤140737488355328∧l22.length+1≤140737488355328) (
    (q94 p1 n r4 m2) (IntKind.i64.wrap (z21+1)) (l22++[r29]))))
   (qcw l22)
def qcv (p1:q15) (n:Nat) (r4:(List (List UInt8)))  : Option ((List Int)×Int) :=
 q94 p1 n r4 n 0 ([]:List Int)
def q93 (p1:q15) (n:Nat) (r4:(List (List UInt8))):Nat→Int→Option ((List Int)×Int)
 | 0,_=>none
 | m1+1,z13 =>
  cond (decide (z13<(r4.length:Int)))
   (q04 (q0u r4 z13) fun x34 =>
   q04 (qjv n x34) fun r36 =>
   cond (!r36)
    (some ([],8))
    ((q93 p1 n r4 m1) (IntKind.i64.wrap (z13+1))))
   (qcv p1 n r4)
def qc5 (n:Nat) (p1:q15) (p2:List UInt8):Option ((List Int)×Int) :=
 cond (q1k p2 [])
  (some ([],0))
  (q04 (qds n p2 ([46])) fun r4 =>
  cond (decide ((r4.length:Int) > 64))
   (some ([],7))
   (q93 p1 n r4 n 0))
theorem qef (n:Nat) (p1:q15) (p2:List UInt8) (r:(List Int)×Int) (hF:qc5 n p1 p2=some r):EvU Tryz.prog 26 [.agg (q06 p1),.str p2] ⟨[],0⟩ (fun u _=>u = .tup [.isl false (List.map (cI .i64) r.1),.int .i64 r.2]∧Bel 0 u):=by
 unfold qc5 at hF
 refine bg2 47 fn26 ?_
 refine go ?_
 refine RS.q (u:=.ptr 0 0 0) (σ':=⟨[(0,.row (q06 p1) 43)],1⟩) rfl (q3u rfl rfl rfl) ?_
 refine go ?_
 refine RS.q (u:=.bool (q1k p2 [])) rfl (q8v rfl rfl rfl rfl) ?_
 refine go ?_
 refine cF hF (fun h3 hF=>?_) (fun h3 hF=>?_)
 refine go ?_
 obtain rfl:=sI hF
 exact rT (us:=[.nils,.i6 0]) (u:=.tup [.isl false [],.i6 0]) (q2o rfl (q2o rfl (q3b))) wR
 obtain ⟨r4,h5,hF⟩:=q00 hF
 refine go ?_
 refine RS.cl rfl (qk6 n p2 ([46]) r4 h5 _) fn53 ?_
 refine go ?_
 refine RS.q rfl (q0a rfl rfl rfl (q07 cS und80)) ?_
 refine go ?_
 refine cF hF (fun h6 hF=>?_) (fun h6 hF=>?_)
 refine go ?_
 obtain rfl:=sI hF
 exact rT (us:=[.nils,.i6 7]) (u:=.tup [.isl false [],.i6 7]) (q2o rfl (q2o rfl (q3b))) wR
 refine go ?_
 refine RS.q rfl (q0a rfl rfl rfl (q07 cS und80)) ?_
 refine go ?_
 refine gS (l':=[(2,_),(6,_),(20,_),(21,_),(22,_)]) ?_
 refine z3e (fun m tm σ=>∃ z13:Int,q93 p1 n r4 m z13=some r∧tm=fr 47 [(2,.ptr 0 0 0),(6,.iM cS r4),(20,.iM cS r4),(21,.i6 (r4.length:Int)),(22,.i6 z13)]∧σ=⟨[(0,.row (q06 p1) 43)],1⟩) (fun tm σ=>qcv p1 n r4=some r∧tm=fr 47 [(2,.ptr 0 0 0),(6,.iM cS r4)]∧σ=⟨[(0,.row (q06 p1) 43)],1⟩) n ⟨0,hF,rfl,rfl⟩ ?_ ?_
 rintro _ _ ⟨hF,rfl,rfl⟩
 unfold qcv at hF
 refine go ?_
 refine RS.q rfl (q0a rfl rfl rfl (q07 cS und80)) ?_
 refine gn ?_
 refine WPU.ghost (tm':=fr 47 [(2,.ptr 0 0 0),(9,.vl 1 0 0 (([]:List Int).length)),(30,.iM cS r4),(31,.i6 (r4.length:Int)),(32,.i6 0)]) (σ':=⟨[(1,.vec (List.map (cI .i64) ([]:List Int)).flatten 3 1 0),(0,.row (q06 p1) 43)],2⟩) (Gh.trans (z3k 9 3 1 (by decide) NZ rfl rfl) (z3j ⟨rfl,rfl,rfl,rfl,rfl,trivial⟩ rfl)) NZ ?_
 refine gS (l':=[(2,_),(9,_),(30,_),(31,_),(32,_)]) ?_
 refine z3e (fun m tm σ=>∃ z21:Int,∃ l22:List Int,∃ t23:Nat,q94 p1 n r4 m z21 l22=some r∧tm=fr 47 [(2,.ptr 0 0 0),(9,.vl 1 t23 0 l22.length),(30,.iM cS r4),(31,.i6 (r4.length:Int)),(32,.i6 z21)]∧σ=⟨[(1,.vec (List.map (cI .i64) l22).flatten 3 1 t23),(0,.row (q06 p1) 43)],2⟩) (fun tm σ=>∃ l24:List Int,∃ t25:Nat,qcw l24=some r∧tm=fr 47 [(9,.vl 1 t25 0 l24.length)]∧σ=⟨[(1,.vec (List.map (cI .i64) l24).flatten 3 1 t25),(0,.row (q06 p1) 43)],2⟩) n ⟨0,([]:List Int),0,hF,rfl,rfl⟩ ?_ ?_
 rintro _ _ ⟨l24,t25,hF,rfl,rfl⟩
 unfold qcw at hF
 refine go ?_
 obtain rfl:=sI hF
 exact rT (us:=[.vl 1 t25 0 l24.length,.i6 0]) (u:=.tup [.iM (cI .i64) l24,.i6 0]) (q2o rfl (q2o rfl (q3b))) (fR 1 1)
 rintro (_|m2) _ _ ⟨z21,l22,t23,hF,rfl,rfl⟩
 cases hF
 unfold q94 at hF
 refine go ?_
 refine cF hF (fun h26 hF=>?_) (fun h26 hF=>?_)
 refine go ?_
 refine WPU.block ?_
 obtain ⟨x27,h28,hF⟩:=q00 hF
 refine go ?_
 refine RS.q rfl (q0i rfl rfl (q09 cS und80 (q03 inf9) q1i h28 rfl)) (RS.q rfl (q0c und9 rfl rfl rfl) ?_)
 obtain ⟨r29,h30,hF⟩:=q00 hF
 refine go ?_
 refine RS.q (u:=.agg (q06 p1)) rfl (q1b und43 rfl (q03 inf43) rfl rfl rfl) ?_
 refine go ?_
 refine RS.cl rfl (pC (qmp n p1 x27 r29 h30) _) fn55 ?_
 refine go ?_
 refine cF hF (fun h31 hF=>?_) (fun h31 hF=>?_)
 refine go ?_
 obtain rfl:=sI hF
 exact rT (us:=[.nils,.i6 5]) (u:=.tup [.isl false [],.i6 5]) (q2o rfl (q2o rfl (q3b))) wR
 obtain ⟨h32,hF⟩:=q0b hF
 refine go ?_
 refine RS.q (u:=.sl 2 0 1 1) (σ':=⟨[(2,.row [.i6 r29] 3),(1,.vec (List.map (cI .i64) l22).flatten 3 1 t23),(0,.row (q06 p1) 43)],3⟩) rfl (q0j und33 inf3 rfl rfl rfl rfl rfl rfl rfl) (RS.q (u:=.vl 1 (t23+1) 0 ((l22++[r29]).length)) (σ':=⟨[(2,.row [.i6 r29] 3),(1,.vec (List.map (cI .i64) (l22++[r29])).flatten 3 1 (t23+1)),(0,.row (q06 p1) 43)],3⟩) rfl (q1n rfl rfl rfl rfl (q23 (cI .i64) ([r29]) und33 und33 inf3 rfl (q18 .i64) rfl (q1m (cI .i64) [r29] rfl rfl rfl rfl) h32)) ?_)
 refine go ?_
 exact lC ⟨_,(l22++[r29]),(t23+1),hF,rfl,rfl⟩
 refine go ?_
 exact xC ⟨l22,t23,hF,rfl,rfl⟩
 rintro (_|m1) _ _ ⟨z13,hF,rfl,rfl⟩
 cases hF
 unfold q93 at hF
 refine go ?_
 refine cF hF (fun h33 hF=>?_) (fun h33 hF=>?_)
 refine go ?_
 refine WPU.block ?_
 obtain ⟨x34,h35,hF⟩:=q00 hF
 refine go ?_
 refine RS.q rfl (q0i rfl rfl (q09 cS und80 (q03 inf9) q1i h35 rfl)) (RS.q rfl (q0c und9 rfl rfl rfl) ?_)
 obtain ⟨r36,h37,hF⟩:=q00 hF
 refine go ?_
 refine RS.cl rfl (qmb n x34 r36 h37 _) fn54 ?_
 refine go ?_
 refine cF hF (fun h38 hF=>?_) (fun h38 hF=>?_)
 refine go ?_
 obtain rfl:=sI hF
 exact rT (us:=[.nils,.i6 8]) (u:=.tup [.isl false [],.i6 8]) (q2o rfl (q2o rfl (q3b))) wR
 refine go ?_
 exact lC ⟨_,hF,rfl,rfl⟩
 refine go ?_
 exact xC ⟨hF,rfl,rfl⟩
def qbw (z35:Int) (rc2:Int→(List Int)→(List Bool)→(List (List Int))→Option ((List (List Int)))) (l50:List Int) (l52:List Bool) (l53:List (List Int)):Option ((List (List Int))) :=
 rc2 (IntKind.i64.wrap (z35+1)) l50 l52 l53
def qbx (z12:Int) (rc1:Int→(List Int)→(List Bool)→(List (List Int))→Option ((List (List Int)))) (l40:List Int) (l42:List Bool) (l43:List (List Int)):Option ((List (List Int))) :=
 rc1 (IntKind.i64.wrap (z12+1)) l40 l42 l43
def q5h (p1:GFS) (z12:Int) (rc1:Int→(List Int)→(List Bool)→(List (List Int))→Option ((List (List Int)))) (x25:q0n):Nat→Int→(List Int)→(List Bool)→(List (List Int))→Option ((List (List Int)))
 | 0,_,_,_,_=>none
 | m2+1,z35,l36,l38,l39 =>
  cond (decide (z35<(x25.Arcs.length:Int)))
   (q04 (q0u x25.Arcs z35) fun x45 =>
   q04 (qgs l38 0 ((p1.Nodes.length:Int).toNat) x45.To) fun x47 =>
   cond (!x47)
    (q04 (q0u x25.Arcs z35) fun x54 =>
    q04 (qgs l38 0 ((p1.Nodes.length:Int).toNat) x54.To) fun x56 =>
    q04 (q0u x25.Arcs z35) fun x58 =>
    q04 (q0u l36 z12) fun x60 =>
    q04 (qgs l39 0 ((p1.Nodes.length:Int).toNat) x60) fun x62 =>
    q19 (x62.length*8≤140737488355328∧x62.length≤140737488355328) (
    q04 (q0u x25.Arcs z35) fun x65 =>
    q19 ((x62.length+([x65.Feat]).length)*8≤140737488355328∧x62.length+([x65.Feat]).length≤140737488355328) (
    q04 (qgs l39 0 ((p1.Nodes.length:Int).toNat) x58.To) fun x68 =>
    q04 (q0u x25.Arcs z35) fun x70 =>
    q19 ((l36.length+1)*8≤140737488355328∧l36.length+1≤140737488355328) (
    qbw z35 (q5h p1 z12 rc1 x25 m2) (l36++[x70.To]) (l38.set x54.To.toNat true) (l39.set x58.To.toNat (x62++[x65.Feat]))))))
    (qbw z35 (q5h p1 z12 rc1 x25 m2) l36 l38 l39))
   (qbx z12 rc1 l36 l38 l39)
def qfu (p1:GFS) (l17:List Int) (l19:List Bool) (l20:List (List Int)):Option ((List (List Int))) :=
 q19 ((p1.Nodes.length:Int).toNat=l20.length) (
 some l20)
def q5g (p1:GFS) (n:Nat):Nat→Int→(List Int)→(List Bool)→(List (List Int))→Option ((List (List Int)))
 | 0,_,_,_,_=>none
 | m1+1,z12,l13,l15,l16 =>
  cond (decide (z12<(l13.length:Int)))
   (q04 (q0u l13 z12) fun x23 =>
   q04 (q0u p1.Nodes x23) fun x25 =>
   q5h p1 z12 (q5g p1 n m1) x25 n 0 l13 l15 l16)
   (qfu p1 l13 l15 l16)
def qgm (n:Nat) (p1:GFS):Option ((List (List Int))) :=
 q19 (0≤(p1.Nodes.length:Int)∧24*(p1.Nodes.length:Int).toNat≤281474976710656∧(p1.Nodes.length:Int)≤281474976710656) (
 q19 (0≤(p1.Nodes.length:Int)∧1*(p1.Nodes.length:Int).toNat≤281474976710656∧(p1.Nodes.length:Int)≤281474976710656) (
 q04 (qgs (List.replicate (p1.Nodes.length:Int).toNat false) 0 ((p1.Nodes.length:Int).toNat) 0) fun x4 =>
 q5g p1 n n 0 ([0]) ((List.replicate (p1.Nodes.length:Int).toNat false).set (0:Int).toNat true) (List.replicate (p1.Nodes.length:Int).toNat [])))
def qdq   : Option (Bool) :=
 some true
def q6y (p1:List Int) (p2:List Int):Nat→Int→Option (Bool)
 | 0,_=>none
 | m1+1,z7 =>
  cond (decide (z7<(p1.length:Int)))
   (q04 (q0u p1 z7) fun x9 =>
   q04 (q0u p2 z7) fun x11 =>
   cond (x9 != x11)
    (some false)
    ((q6y p1 p2 m1) (IntKind.i64.wrap (z7+1))))
   (qdq)
def q9s (n:Nat) (p1:List Int) (p2:List Int):Option (Bool) :=
 cond ((p1.length:Int) != (p2.length:Int))
  (some false)
  (q6y p1 p2 n 0)
theorem qeu (n:Nat) (p1:List Int) (p2:List Int) (r:Bool) (hF:q9s n p1 p2=some r):EvU Tryz.prog 47 [.isl false (List.map (cI .i64) p1),.isl false (List.map (cI .i64) p2)] ⟨[],0⟩ (fun u _=>u = .bool r∧Bel 0 u):=by
 unfold q9s at hF
 refine bg2 26 fn47 ?_
 refine go ?_
 refine RS.q rfl (q0a rfl rfl rfl (q07 (cI .i64) und33)) ?_
 refine go ?_
 refine RS.q rfl (q0a rfl rfl rfl (q07 (cI .i64) und33)) ?_
 refine go ?_
 refine cF hF (fun h3 hF=>?_) (fun h3 hF=>?_)
 exact gx hF
 refine go ?_
 refine gS (l':=[(0,_),(1,_),(5,_)]) ?_
 refine z3e (fun m tm σ=>∃ z7:Int,q6y p1 p2 m z7=some r∧tm=fr 26 [(0,.iM (cI .i64) p1),(1,.iM (cI .i64) p2),(5,.i6 z7)]∧σ=⟨[],0⟩) (fun tm σ=>qdq=some r∧tm=fr 26 []∧σ=⟨[],0⟩) n ⟨0,hF,rfl,rfl⟩ ?_ ?_
 rintro _ _ ⟨hF,rfl,rfl⟩
 unfold qdq at hF
 exact gx hF
 rintro (_|m1) _ _ ⟨z7,hF,rfl,rfl⟩
 cases hF
 unfold q6y at hF
 refine go ?_
 refine RS.q rfl (q0a rfl rfl rfl (q07 (cI .i64) und33)) ?_
 refine go ?_
 refine cF hF (fun h8 hF=>?_) (fun h8 hF=>?_)
 refine go ?_
 refine WPU.block ?_
 obtain ⟨x9,h10,hF⟩:=q00 hF
 obtain ⟨x11,h12,hF⟩:=q00 hF
 refine go ?_
 refine z3g Tryz.tb_ok [] (by kernel_rfl) ?_
 repeat refine RD.mv rfl rfl rfl rfl ?_
 refine RD.q rfl (q0i rfl rfl (q09 (cI .i64) und33 (q03 inf3) (q18 .i64) h10 rfl)) (RD.q rfl (q0c und3 rfl rfl rfl) ?_)
 repeat refine RD.mv rfl rfl rfl rfl ?_
 refine RD.q rfl (q0i rfl rfl (q09 (cI .i64) und33 (q03 inf3) (q18 .i64) h12 rfl)) (RD.q rfl (q0c und3 rfl rfl rfl) (RD.q rfl (q2y rfl rfl (qq0 _ _ _) rfl) ?_))
 refine RD.done ⟨by kernel_rfl,trivial,?_⟩
 refine go ?_
 refine cF hF (fun h13 hF=>?_) (fun h13 hF=>?_)
 exact gx hF
 refine go ?_
 exact lC ⟨_,hF,rfl,rfl⟩
 refine go ?_
 exact xC ⟨hF,rfl,rfl⟩
def qag (z24:Int) (rc2:Int→(List q0g)→Option ((List q0g))) (l43:List q0g):Option ((List q0g)) :=
 rc2 (IntKind.i64.wrap (z24+1)) l43
def qah (z9:Int) (rc1:Int→(List q0g)→Option ((List q0g))) (l27:List q0g):Option ((List q0g)) :=
 rc1 (IntKind.i64.wrap (z9+1)) l27
def q4s (n:Nat) (r2:(List (List Int))) (z9:Int) (rc1:Int→(List q0g)→Option ((List q0g))) (x15:q0n):Nat→Int→(List q0g)→Option ((List q0g))
 | 0,_,_=>none
 | m2+1,z24,l25 =>
  cond (decide (z24<(x15.Arcs.length:Int)))
   (q04 (q0u r2 z9) fun x30 =>
   q19 (x30.length*8≤140737488355328∧x30.length≤140737488355328) (
   q04 (q0u x15.Arcs z24) fun x33 =>
   q19 ((x30.length+([x33.Feat]).length)*8≤140737488355328∧x30.length+([x33.Feat]).length≤140737488355328) (
   q04 (q0u x15.Arcs z24) fun x36 =>
   q04 (q0u r2 x36.To) fun x38 =>
   q04 (q9s n (x30++[x33.Feat]) x38) fun r40 =>
   cond (!r40)
    (q04 (q0u x15.Arcs z24) fun x45 =>
    q04 (q0u r2 x45.To) fun x47 =>
    q19 ((l25.length+1)*48≤140737488355328∧l25.length+1≤140737488355328) (
    qag z24 (q4s n r2 z9 rc1 x15 m2) (l25++[(q0g.mk x47 (x30++[x33.Feat]))])))
    (qag z24 (q4s n r2 z9 rc1 x15 m2) l25))))
   (qah z9 rc1 l25)
def qet  (l12:List q0g):Option ((List q0g)) :=
 some l12
def q4r (p1:GFS) (n:Nat) (r2:(List (List Int))):Nat→Int→(List q0g)→Option ((List q0g))
 | 0,_,_=>none
 | m1+1,z9,l10 =>
  cond (decide (z9<(p1.Nodes.length:Int)))
   (q04 (q0u p1.Nodes z9) fun x15 =>
   q4s n r2 z9 (q4r p1 n r2 m1) x15 n 0 l10)
   (qet l10)
def qjo (n:Nat) (p1:GFS):Option ((List q0g)) :=
 q04 (qgm n p1) fun r2 =>
 q4r p1 n r2 n 0 ([]:List q0g)
def qfv (p1:q15) (p2:List Int) (z9:Int) (rc1:(List UInt8)→Int→Option ((List UInt8))) (s13:List UInt8):Option ((List UInt8)) :=
 q04 (q0u p2 z9) fun x14 =>
 q04 (q0u p1.Feats x14) fun x16 =>
 q19 (s13.length+x16.Name.length≤9223372036854775807) (
 rc1 (s13++x16.Name) (IntKind.i64.wrap (z9+1)))
def qmx  (s10:List UInt8):Option ((List UInt8)) :=
 some s10
def qfw (p1:q15) (p2:List Int):Nat→(List UInt8)→Int→Option ((List UInt8))
 | 0,_,_=>none
 | m1+1,s8,z9 =>
  cond (decide (z9<(p2.length:Int)))
   (cond (decide (z9 > 0))
    (q19 (s8.length+([46]).length≤9223372036854775807) (
    qfv p1 p2 z9 (qfw p1 p2 m1) (s8++[46])))
    (qfv p1 p2 z9 (qfw p1 p2 m1) s8))
   (qmx s8)
def qd3 (n:Nat) (p1:Int):Option (Bool) :=
 q04 (cond (decide (p1 ≥ 48))
  (some (decide (p1≤57)))
  (some false)) fun b3 =>
 some b3
theorem q2q (n:Nat) (p1:Int) (r:Bool) (hF:qd3 n p1=some r):EvU Tryz.prog 109 [.int .u8 p1] ⟨[],0⟩ (fun u _=>u = .bool r∧Bel 0 u):=by
 unfold qd3 at hF
 refine bg1 9 fn109 ?_
 obtain ⟨b3,h4,hF⟩:=q00 hF
 refine gr ?_
 refine z3f (fun tm σ=>tm=fr 9 [(2,.bool b3)]∧σ=⟨[],0⟩) ?_ ?_
 rintro _ _ ⟨rfl,rfl⟩
 exact gx hF
 rcases gB h4 with ⟨h2,h4⟩ | ⟨h2,h4⟩
 exact gy h4
 exact gy h4
def qgb (n:Nat) (p1:Int):Option (Bool) :=
 q04 (cond (decide (p1 ≥ 65))
  (some (decide (p1≤90)))
  (some false)) fun b3 =>
 some b3
theorem qd6 (n:Nat) (p1:Int) (r:Bool) (hF:qgb n p1=some r):EvU Tryz.prog 140 [.int .u8 p1] ⟨[],0⟩ (fun u _=>u = .bool r∧Bel 0 u):=by
 unfold qgb at hF
 refine bg1 9 fn140 ?_
 obtain ⟨b3,h4,hF⟩:=q00 hF
 refine gr ?_
 refine z3f (fun tm σ=>tm=fr 9 [(2,.bool b3)]∧σ=⟨[],0⟩) ?_ ?_
 rintro _ _ ⟨rfl,rfl⟩
 exact gx hF
 rcases gB h4 with ⟨h2,h4⟩ | ⟨h2,h4⟩
 exact gy h4
 exact gy h4
def qd4 (n:Nat) (p1:Int):Option (Bool) :=
 q04 (cond (decide (p1 ≥ 97))
  (some (decide (p1≤122)))
  (some false)) fun b3 =>
 some b3
theorem qhp (n:Nat) (p1:Int) (r:Bool) (hF:qd4 n p1=some r):EvU Tryz.prog 141 [.int .u8 p1] ⟨[],0⟩ (fun u _=>u = .bool r∧Bel 0 u):=by
 unfold qd4 at hF
 refine bg1 9 fn141 ?_
 obtain ⟨b3,h4,hF⟩:=q00 hF
 refine gr ?_
 refine z3f (fun tm σ=>tm=fr 9 [(2,.bool b3)]∧σ=⟨[],0⟩) ?_ ?_
 rintro _ _ ⟨rfl,rfl⟩
 exact gx hF
 rcases gB h4 with ⟨h2,h4⟩ | ⟨h2,h4⟩
 exact gy h4
 exact gy h4
def qj0 (n:Nat) (p1:Int) (p2:Bool):Option (Bool) :=
 q04 (q04 (qd3 n p1) fun r3 =>
 cond r3
  (some true)
  (cond (p1 == 45)
   (some true)
   (cond p2
    (q04 (qgb n p1) fun r8 =>
    cond r8
     (some true)
     (cond (!p2)
      (q04 (qd4 n p1) fun r12 =>
      some r12)
      (some false)))
    (cond (!p2)
     (q04 (qd4 n p1) fun r15 =>
     some r15)
     (some false))))) fun b17 =>
 some b17
theorem qqi (n:Nat) (p1:Int) (p2:Bool) (r:Bool) (hF:qj0 n p1 p2=some r):EvU Tryz.prog 110 [.int .u8 p1,.bool p2] ⟨[],0⟩ (fun u _=>u = .bool r∧Bel 0 u):=by
 unfold qj0 at hF
 refine bg2 26 fn110 ?_
 obtain ⟨b17,h18,hF⟩:=q00 hF
 refine gr ?_
 refine z3f (fun tm σ=>tm=fr 26 [(4,.bool b17)]∧σ=⟨[],0⟩) ?_ ?_
 rintro _ _ ⟨rfl,rfl⟩
 exact gx hF
 obtain ⟨r3,h4,h18⟩:=q00 h18
 rcases gB h18 with ⟨h5,h18⟩ | ⟨h5,h18⟩
 obtain rfl:=sI h18
 refine go ?_
 refine RS.cl rfl (pC (q2q n p1 r3 h4) _) fn109 ?_
 refine go ?_
 repeat refine RS.no (qmc rfl rfl rfl) rfl rfl ?_
 refine go ?_
 repeat refine RS.no (qmc rfl rfl rfl) rfl rfl ?_
 refine go ?_
 exact xC ⟨rfl,rfl⟩
 rcases gB h18 with ⟨h6,h18⟩ | ⟨h6,h18⟩
 obtain rfl:=sI h18
 refine go ?_
 refine RS.cl rfl (pC (q2q n p1 r3 h4) _) fn109 ?_
 refine go ?_
 repeat refine RS.no (qmc rfl rfl rfl) rfl rfl ?_
 refine go ?_
 repeat refine RS.no (qmc rfl rfl rfl) rfl rfl ?_
 refine go ?_
 exact xC ⟨rfl,rfl⟩
 rcases gB h18 with ⟨h7,h18⟩ | ⟨h7,h18⟩
 obtain ⟨r8,h9,h18⟩:=q00 h18
 rcases gB h18 with ⟨h10,h18⟩ | ⟨h10,h18⟩
 obtain rfl:=sI h18
 refine go ?_
 refine RS.cl rfl (pC (q2q n p1 r3 h4) _) fn109 ?_
 refine go ?_
 refine RS.cl rfl (pC (qd6 n p1 r8 h9) _) fn140 ?_
 refine go ?_
 repeat refine RS.no (qmc rfl rfl rfl) rfl rfl ?_
 refine go ?_
 exact xC ⟨rfl,rfl⟩
 rcases gB h18 with ⟨h11,h18⟩ | ⟨h11,h18⟩
 obtain ⟨r12,h13,h18⟩:=q00 h18
 obtain rfl:=sI h18
 refine go ?_
 refine RS.cl rfl (pC (q2q n p1 r3 h4) _) fn109 ?_
 refine go ?_
 refine RS.cl rfl (pC (qd6 n p1 r8 h9) _) fn140 ?_
 refine go ?_
 refine RS.cl rfl (pC (qhp n p1 r12 h13) _) fn141 ?_
 refine go ?_
 exact xC ⟨rfl,rfl⟩
 obtain rfl:=sI h18
 refine go ?_
 refine RS.cl rfl (pC (q2q n p1 r3 h4) _) fn109 ?_
 refine go ?_
 refine RS.cl rfl (pC (qd6 n p1 r8 h9) _) fn140 ?_
 refine go ?_
 exact xC ⟨rfl,rfl⟩
 rcases gB h18 with ⟨h14,h18⟩ | ⟨h14,h18⟩
 obtain ⟨r15,h16,h18⟩:=q00 h18
 obtain rfl:=sI h18
 refine go ?_
 refine RS.cl rfl (pC (q2q n p1 r3 h4) _) fn109 ?_
 refine go ?_
 refine RS.cl rfl (pC (qhp n p1 r15 h16) _) fn141 ?_
 refine go ?_
 exact xC ⟨rfl,rfl⟩
 obtain rfl:=sI h18
 refine go ?_
 refine RS.cl rfl (pC (q2q n p1 r3 h4) _) fn109 ?_
 refine go ?_
 exact xC ⟨rfl,rfl⟩
def qb5   : Option (Bool) :=
 some true
def q7l (p1:List UInt8) (p2:Bool) (n:Nat):Nat→Int→Option (Bool)
 | 0,_=>none
 | m1+1,z18 =>
  cond (decide (z18<(p1.length:Int)))
   (q04 (qy2 p1 z18) fun x20 =>
   q04 (qj0 n x20 p2) fun r22 =>
   cond (!r22)
    (some false)
    ((q7l p1 p2 n m1) (IntKind.i64.wrap (z18+1))))
   (qb5)
def qd5 (n:Nat) (p1:List UInt8) (p2:Bool):Option (Bool) :=
 q04 (cond (decide ((p1.length:Int)<1))
  (some true)
  (cond (decide ((p1.length:Int) > 32))
   (some true)
   (q04 (qy2 p1 0) fun x5 =>
   q04 (qd3 n x5) fun r7 =>
   cond r7
    (some true)
    (q04 (qy2 p1 0) fun x10 =>
    some (x10 == 45))))) fun b12 =>
 cond b12
  (some false)
  (q7l p1 p2 n n 0)
theorem qhq (n:Nat) (p1:List UInt8) (p2:Bool) (r:Bool) (hF:qd5 n p1 p2=some r):EvU Tryz.prog 81 [.str p1,.bool p2] ⟨[],0⟩ (fun u _=>u = .bool r∧Bel 0 u):=by
 unfold qd5 at hF
 refine bg2 36 fn81 ?_
 obtain ⟨b12,h13,hF⟩:=q00 hF
 refine gr ?_
 refine z3f (fun tm σ=>tm=fr 36 [(0,.str p1),(1,.bool p2),(23,.bool b12)]∧σ=⟨[],0⟩) ?_ ?_
 rintro _ _ ⟨rfl,rfl⟩
 refine go ?_
 refine cF hF (fun h14 hF=>?_) (fun h14 hF=>?_)
 exact gx hF
 refine go ?_
 refine gS (l':=[(0,_),(1,_),(5,_)]) ?_
 refine z3e (fun m tm σ=>∃ z18:Int,q7l p1 p2 n m z18=some r∧tm=fr 36 [(0,.str p1),(1,.bool p2),(5,.i6 z18)]∧σ=⟨[],0⟩) (fun tm σ=>qb5=some r∧tm=fr 36 []∧σ=⟨[],0⟩) n ⟨0,hF,rfl,rfl⟩ ?_ ?_
 rintro _ _ ⟨hF,rfl,rfl⟩
 unfold qb5 at hF
 exact gx hF
 rintro (_|m1) _ _ ⟨z18,hF,rfl,rfl⟩
 cases hF
 unfold q7l at hF
 refine go ?_
 refine RS.q (u:=.i6 (p1.length:Int)) rfl (q0a rfl rfl rfl (by simp only [qr4,und9])) ?_
 refine go ?_
 refine cF hF (fun h19 hF=>?_) (fun h19 hF=>?_)
 refine go ?_
 refine WPU.block ?_
 obtain ⟨x20,h21,hF⟩:=q00 hF
 obtain ⟨r22,h23,hF⟩:=q00 hF
 refine go ?_
 refine RS.q (u:=.int .u8 x20) rfl (qoc und9 rfl rfl h21) ?_
 refine go ?_
 refine RS.cl rfl (pC (qqi n x20 p2 r22 h23) _) fn110 ?_
 refine go ?_
 refine cF hF (fun h24 hF=>?_) (fun h24 hF=>?_)
 exact gx hF
 refine go ?_
 exact lC ⟨_,hF,rfl,rfl⟩
 refine go ?_
 exact xC ⟨hF,rfl,rfl⟩
 rcases gB h13 with ⟨h3,h13⟩ | ⟨h3,h13⟩
 obtain rfl:=sI h13
 refine go ?_
 refine RS.q (u:=.i6 (p1.length:Int)) rfl (q0a rfl rfl rfl (by simp only [qr4,und9])) ?_
 refine go ?_
 exact xC ⟨rfl,rfl⟩
 rcases gB h13 with ⟨h4,h13⟩ | ⟨h4,h13⟩
 obtain rfl:=sI h13
 refine go ?_
 refine RS.q (u:=.i6 (p1.length:Int)) rfl (q0a rfl rfl rfl (by simp only [qr4,und9])) ?_
 refine go ?_
 refine RS.w (u:=.i6 (p1.length:Int)) rfl (q0a rfl rfl rfl (by simp only [qr4,und9])) ?_
 refine go ?_
 exact xC ⟨rfl,rfl⟩
 obtain ⟨x5,h6,h13⟩:=q00 h13
 obtain ⟨r7,h8,h13⟩:=q00 h13
 rcases gB h13 with ⟨h9,h13⟩ | ⟨h9,h13⟩
 obtain rfl:=sI h13
 refine go ?_
 refine RS.q (u:=.i6 (p1.length:Int)) rfl (q0a rfl rfl rfl (by simp only [qr4,und9])) ?_
 refine go ?_
 refine RS.w (u:=.i6 (p1.length:Int)) rfl (q0a rfl rfl rfl (by simp only [qr4,und9])) ?_
 refine go ?_
 refine RS.w (u:=.int .u8 x5) rfl (qoc und9 rfl rfl h6) (RS.cl rfl (pC (q2q n x5 r7 h8) _) fn109 ?_)
 refine go ?_
 exact xC ⟨rfl,rfl⟩
 obtain ⟨x10,h11,h13⟩:=q00 h13
 obtain rfl:=sI h13
 refine go ?_
 refine RS.q (u:=.i6 (p1.length:Int)) rfl (q0a rfl rfl rfl (by simp only [qr4,und9])) ?_
 refine go ?_
 refine RS.w (u:=.i6 (p1.length:Int)) rfl (q0a rfl rfl rfl (by simp only [qr4,und9])) ?_
 refine go ?_
 refine RS.w (u:=.int .u8 x5) rfl (qoc und9 rfl rfl h6) (RS.cl rfl (pC (q2q n x5 r7 h8) _) fn109 ?_)
 refine go ?_
 refine RS.w (u:=.int .u8 x10) rfl (qoc und9 rfl rfl h11) ?_
 refine go ?_
 exact xC ⟨rfl,rfl⟩
def qd2 (n:Nat) (p1:List UInt8):Option (Bool) :=
 q04 (qd5 n p1 true) fun r2 =>
 some r2
theorem qlw (n:Nat) (p1:List UInt8) (r:Bool) (hF:qd2 n p1=some r):EvU Tryz.prog 57 [.str p1] ⟨[],0⟩ (fun u _=>u = .bool r∧Bel 0 u):=by
 unfold qd2 at hF
 refine bg1 5 fn57 ?_
 obtain ⟨r2,h3,hF⟩:=q00 hF
 refine go ?_
 refine RS.cl rfl (pC (qhq n p1 true r2 h3) _) fn81 ?_
 exact gx hF
def q5v   : Option (Bool) :=
 some true
def q3z (p1:List q0g) (p2:List q0g) (n:Nat):Nat→Int→Option (Bool)
 | 0,_=>none
 | m1+1,z7 =>
  cond (decide (z7<(p1.length:Int)))
   (q04 (q04 (q0u p1 z7) fun x9 =>
   q04 (q0u p2 z7) fun x11 =>
   q04 (q9s n x9.A x11.A) fun r13 =>
   cond (!r13)
    (some true)
    (q04 (q0u p1 z7) fun x16 =>
    q04 (q0u p2 z7) fun x18 =>
    q04 (q9s n x16.B x18.B) fun r20 =>
    some (!r20))) fun b22 =>
   cond b22
    (some false)
    ((q3z p1 p2 n m1) (IntKind.i64.wrap (z7+1))))
   (q5v)
def q5p (n:Nat) (p1:List q0g) (p2:List q0g):Option (Bool) :=
 cond ((p1.length:Int) != (p2.length:Int))
  (some false)
  (q3z p1 p2 n n 0)
theorem q6x (n:Nat) (p1:List q0g) (p2:List q0g) (r:Bool) (hF:q5p n p1 p2=some r):EvU Tryz.prog 17 [.isl false (List.map q0l p1),.isl false (List.map q0l p2)] ⟨[],0⟩ (fun u _=>u = .bool r∧Bel 0 u):=by
 unfold q5p at hF
 refine bg2 43 fn17 ?_
 refine go ?_
 refine RS.q rfl (q0a rfl rfl rfl (q07 q0l und31)) ?_
 refine go ?_
 refine RS.q rfl (q0a rfl rfl rfl (q07 q0l und31)) ?_
 refine go ?_
 refine cF hF (fun h3 hF=>?_) (fun h3 hF=>?_)
 exact gx hF
 refine go ?_
 refine gS (l':=[(0,_),(1,_),(5,_)]) ?_
 refine z3e (fun m tm σ=>∃ z7:Int,q3z p1 p2 n m z7=some r∧tm=fr 43 [(0,.iM q0l p1),(1,.iM q0l p2),(5,.i6 z7)]∧σ=⟨[],0⟩) (fun tm σ=>q5v=some r∧tm=fr 43 []∧σ=⟨[],0⟩) n ⟨0,hF,rfl,rfl⟩ ?_ ?_
 rintro _ _ ⟨hF,rfl,rfl⟩
 unfold q5v at hF
 exact gx hF
 rintro (_|m1) _ _ ⟨z7,hF,rfl,rfl⟩
 cases hF
 unfold q3z at hF
 refine go ?_
 refine RS.q rfl (q0a rfl rfl rfl (q07 q0l und31)) ?_
 refine go ?_
 refine cF hF (fun h8 hF=>?_) (fun h8 hF=>?_)
 refine go ?_
 refine WPU.block ?_
 obtain ⟨b22,h23,hF⟩:=q00 hF
 refine gn ?_
 refine z3f (fun tm σ=>tm=fr 43 [(0,.iM q0l p1),(1,.iM q0l p2),(5,.i6 z7),(42,.bool b22)]∧σ=⟨[],0⟩) ?_ ?_
 rintro _ _ ⟨rfl,rfl⟩
 refine go ?_
 refine cF hF (fun h24 hF=>?_) (fun h24 hF=>?_)
 exact gx hF
 refine go ?_
 exact lC ⟨_,hF,rfl,rfl⟩
 obtain ⟨x9,h10,h23⟩:=q00 h23
 obtain ⟨x11,h12,h23⟩:=q00 h23
 obtain ⟨r13,h14,h23⟩:=q00 h23
 rcases gB h23 with ⟨h15,h23⟩ | ⟨h15,h23⟩
 obtain rfl:=sI h23
 refine z3g Tryz.tb_ok [] (by kernel_rfl) ?_
 repeat refine RD.mv rfl rfl rfl rfl ?_
 refine RD.q rfl (q0i rfl rfl (q09 q0l und31 (q03 inf56) q2p h10 rfl)) (RD.q rfl (q1q und56 rfl (q03 inf33) rfl rfl) (RD.q rfl (q0c und33 rfl rfl rfl) ?_))
 repeat refine RD.mv rfl rfl rfl rfl ?_
 refine RD.q rfl (q0i rfl rfl (q09 q0l und31 (q03 inf56) q2p h12 rfl)) (RD.q rfl (q1q und56 rfl (q03 inf33) rfl rfl) (RD.q rfl (q0c und33 rfl rfl rfl) (RD.fl rfl (pC (qeu n x9.A x11.A r13 h14)) fn47 (RD.q rfl (qur rfl rfl rfl rfl) (RD.mv rfl rfl rfl rfl ?_)))))
 repeat refine RD.no (qv2 rfl rfl rfl h15) rfl rfl ?_
 refine RD.q rfl (qhm rfl h15 rfl) ?_
 refine RD.done ⟨by kernel_rfl,trivial,?_⟩
 refine go ?_
 exact xC ⟨rfl,rfl⟩
 obtain ⟨x16,h17,h23⟩:=q00 h23
 obtain ⟨x18,h19,h23⟩:=q00 h23
 obtain ⟨r20,h21,h23⟩:=q00 h23
 obtain rfl:=sI h23
 refine z3g Tryz.tb_ok [] (by kernel_rfl) ?_
 repeat refine RD.mv rfl rfl rfl rfl ?_
 refine RD.q rfl (q0i rfl rfl (q09 q0l und31 (q03 inf56) q2p h10 rfl)) (RD.q rfl (q1q und56 rfl (q03 inf33) rfl rfl) (RD.q rfl (q0c und33 rfl rfl rfl) ?_))
 repeat refine RD.mv rfl rfl rfl rfl ?_
 refine RD.q rfl (q0i rfl rfl (q09 q0l und31 (q03 inf56) q2p h12 rfl)) (RD.q rfl (q1q und56 rfl (q03 inf33) rfl rfl) (RD.q rfl (q0c und33 rfl rfl rfl) (RD.fl rfl (pC (qeu n x9.A x11.A r13 h14)) fn47 (RD.q rfl (qur rfl rfl rfl rfl) (RD.mv rfl rfl rfl rfl (RD.w rfl (q1w rfl) (RD.w rfl (q1w rfl) ?_)))))))
 refine RD.w rfl (q0i rfl rfl (q09 q0l und31 (q03 inf56) q2p h17 rfl)) (RD.w rfl (q1q und56 rfl (q03 inf33) rfl rfl) (RD.w rfl (q0c und33 rfl rfl rfl) (RD.w rfl (q1w rfl) (RD.w rfl (q1w rfl) (RD.w rfl (q0i rfl rfl (q09 q0l und31 (q03 inf56) q2p h19 rfl)) (RD.w rfl (q1q und56 rfl (q03 inf33) rfl rfl) (RD.w rfl (q0c und33 rfl rfl rfl) ?_)))))))
 refine RD.fl rfl (pC (qeu n x16.B x18.B r20 h21)) fn47 (RD.w rfl (qur rfl rfl rfl rfl) (RD.q rfl (qhl rfl h15 rfl) ?_))
 refine RD.done ⟨by kernel_rfl,trivial,?_⟩
 refine go ?_
 exact xC ⟨rfl,rfl⟩
 refine go ?_
 exact xC ⟨hF,rfl,rfl⟩
def q7h   : Option (Bool) :=
 some true
def q46 (p1:GFS):Nat→Int→Option (Bool)
 | 0,_=>none
 | m1+1,z18 =>
  cond (decide (z18<(p1.Nodes.length:Int)))
   (q04 (q0u p1.Nodes z18) fun x20 =>
   q04 (cond (decide (x20.Typex ≥ 256))
    (some true)
    (cond (decide ((x20.Arcs.length:Int) > 0))
     (q04 (q0u x20.Arcs (IntKind.i64.wrap ((x20.Arcs.length:Int) - 1))) fun x24 =>
     some (decide (x24.Feat ≥ 64)))
     (some false))) fun b26 =>
   cond b26
    (some false)
    ((q46 p1 m1) (IntKind.i64.wrap (z18+1))))
   (q7h)
def q9x (n:Nat) (p1:GFS):Option (Bool) :=
 q04 (qaf n p1) fun r2 =>
 cond (!r2)
  (some false)
  (q04 (qae n p1) fun r5 =>
  q04 (cond (r5.2 != 0)
   (some true)
   (q04 (q7d n p1 (GFS.mk r5.1.Nodes)) fun r8 =>
   some (!r8))) fun b10 =>
  cond b10
   (some false)
   (q46 p1 n 0))
theorem qo8 (n:Nat) (p1:GFS) (r:Bool) (hF:q9x n p1=some r):EvU Tryz.prog 12 [.agg [.isl false (List.map q01 p1.Nodes)]] ⟨[],0⟩ (fun u _=>u = .bool r∧Bel 0 u):=by
 unfold q9x at hF
 refine bg1 52 fn12 ?_
 refine go ?_
 refine RS.q (u:=.ptr 0 0 0) (σ':=⟨[(0,.row [.iM q01 p1.Nodes] 24)],1⟩) rfl (q3u rfl rfl rfl) ?_
 obtain ⟨r2,h3,hF⟩:=q00 hF
 refine go ?_
 refine RS.q (u:=.agg [.iM q01 p1.Nodes]) rfl (q1b und24 rfl (q03 inf24) rfl rfl rfl) (RS.cl rfl (pC (qot n p1 r2 h3) _) fn41 ?_)
 refine go ?_
 refine cF hF (fun h4 hF=>?_) (fun h4 hF=>?_)
 exact gx hF
 obtain ⟨r5,h6,hF⟩:=q00 hF
 refine go ?_
 refine RS.q (u:=.agg [.iM q01 p1.Nodes]) rfl (q1b und24 rfl (q03 inf24) rfl rfl rfl) (RS.cl rfl (pC (qos n p1 r5 h6) _) fn42 ?_)
 refine go ?_
 refine RS.q (u:=.ptr 1 0 0) (σ':=⟨[(1,.row [.nils] 24),(0,.row [.iM q01 p1.Nodes] 24)],2⟩) rfl (q1e inf24 rfl rfl) ?_
 refine z3i (u:=.junk) (σ':=⟨[(1,.row [.iM q01 r5.1.Nodes] 24),(0,.row [.iM q01 p1.Nodes] 24)],2⟩) rfl (q0r (q03 inf24) rfl rfl rfl rfl rfl rfl rfl rfl) rfl ?_
 obtain ⟨b10,h11,hF⟩:=q00 hF
 refine gn ?_
 refine z3f (fun tm σ=>tm=fr 52 [(1,.ptr 0 0 0),(22,.bool b10)]∧σ=⟨[(1,.row [.iM q01 r5.1.Nodes] 24),(0,.row [.iM q01 p1.Nodes] 24)],2⟩) ?_ ?_
 rintro _ _ ⟨rfl,rfl⟩
 refine go ?_
 refine cF hF (fun h12 hF=>?_) (fun h12 hF=>?_)
 exact gx hF
 refine go ?_
 refine RS.q rfl (q0y und24 rfl (q03 inf22) rfl rfl rfl) (RS.q rfl (q0m und22 rfl rfl rfl rfl) (RS.q rfl (q0a rfl rfl rfl (q07 q01 und22)) ?_))
 refine go ?_
 refine gS (l':=[(24,_),(25,_),(26,_)]) ?_
 refine z3e (fun m tm σ=>∃ z18:Int,q46 p1 m z18=some r∧tm=fr 52 [(24,.iM q01 p1.Nodes),(25,.i6 (p1.Nodes.length:Int)),(26,.i6 z18)]∧σ=⟨[(1,.row [.iM q01 r5.1.Nodes] 24),(0,.row [.iM q01 p1.Nodes] 24)],2⟩) (fun tm σ=>q7h=some r∧tm=fr 52 []∧σ=⟨[(1,.row [.iM q01 r5.1.Nodes] 24),(0,.row [.iM q01 p1.Nodes] 24)],2⟩) n ⟨0,hF,rfl,rfl⟩ ?_ ?_
 rintro _ _ ⟨hF,rfl,rfl⟩
 unfold q7h at hF
 exact gx hF
 rintro (_|m1) _ _ ⟨z18,hF,rfl,rfl⟩
 cases hF
 unfold q46 at hF
 refine go ?_
 refine cF hF (fun h19 hF=>?_) (fun h19 hF=>?_)
 refine go ?_
 refine WPU.block ?_
 obtain ⟨x20,h21,hF⟩:=q00 hF
 refine go ?_
 refine RS.q rfl (q0i rfl rfl (q09 q01 und22 (q03 inf54) q1p h21 rfl)) (RS.q (u:=.agg (q01 x20)) rfl (q8u und54 rfl (q03 inf54) rfl rfl) (RS.q (u:=.ptr 2 0 0) (σ':=⟨[(2,.row [.i6 0,.nils] 54),(1,.row [.iM q01 r5.1.Nodes] 24),(0,.row [.iM q01 p1.Nodes] 24)],3⟩) rfl (q1e inf54 rfl rfl) ?_))
 refine z3i (u:=.junk) (σ':=⟨[(2,.row (q01 x20) 54),(1,.row [.iM q01 r5.1.Nodes] 24),(0,.row [.iM q01 p1.Nodes] 24)],3⟩) rfl (q0r (q03 inf54) rfl rfl rfl rfl rfl rfl rfl rfl) rfl ?_
 obtain ⟨b26,h27,hF⟩:=q00 hF
 refine gn ?_
 refine z3f (fun tm σ=>tm=fr 52 [(24,.iM q01 p1.Nodes),(25,.i6 (p1.Nodes.length:Int)),(26,.i6 z18),(50,.bool b26)]∧σ=⟨[(2,.row (q01 x20) 54),(1,.row [.iM q01 r5.1.Nodes] 24),(0,.row [.iM q01 p1.Nodes] 24)],3⟩) ?_ ?_
 rintro _ _ ⟨rfl,rfl⟩
 refine go ?_
 refine cF hF (fun h28 hF=>?_) (fun h28 hF=>?_)
 exact gx hF
 refine go ?_
 exact lC ⟨_,hF,rfl,rfl⟩
 rcases gB h27 with ⟨h22,h27⟩ | ⟨h22,h27⟩
 obtain rfl:=sI h27
 refine go ?_
 refine RS.q rfl (q0y und54 rfl (q03 inf3) rfl rfl rfl) (RS.q rfl (q0m und3 rfl rfl rfl rfl) ?_)
 refine go ?_
 repeat refine RS.no (qmc rfl rfl rfl) rfl rfl ?_
 refine go ?_
 exact xC ⟨rfl,rfl⟩
 rcases gB h27 with ⟨h23,h27⟩ | ⟨h23,h27⟩
 obtain ⟨x24,h25,h27⟩:=q00 h27
 obtain rfl:=sI h27
 refine go ?_
 refine RS.q rfl (q0y und54 rfl (q03 inf3) rfl rfl rfl) (RS.q rfl (q0m und3 rfl rfl rfl rfl) ?_)
 refine go ?_
 refine RS.w rfl (q0y und54 rfl (q03 inf52) rfl rfl rfl) (RS.w rfl (q0m und52 rfl rfl rfl rfl) (RS.w rfl (q0a rfl rfl rfl (q07 q0e und52)) ?_))
 refine go ?_
 refine RS.w rfl (q0y und54 rfl (q03 inf52) rfl rfl rfl) (RS.w rfl (q0m und52 rfl rfl rfl rfl) (RS.w rfl (q0y und54 rfl (q03 inf52) rfl rfl rfl) (RS.w rfl (q0m und52 rfl rfl rfl rfl) (RS.w rfl (q0a rfl rfl rfl (q07 q0e und52)) ?_))))
 refine go ?_
 refine RS.w rfl (q0i rfl rfl (q09 q0e und52 (q03 inf66) q0t h25 rfl)) (RS.w rfl (q1q und66 rfl (q03 inf3) rfl rfl) (RS.w rfl (q0c und3 rfl rfl rfl) ?_))
 refine go ?_
 exact xC ⟨rfl,rfl⟩
 obtain rfl:=sI h27
 refine go ?_
 refine RS.q rfl (q0y und54 rfl (q03 inf3) rfl rfl rfl) (RS.q rfl (q0m und3 rfl rfl rfl rfl) ?_)
 refine go ?_
 refine RS.w rfl (q0y und54 rfl (q03 inf52) rfl rfl rfl) (RS.w rfl (q0m und52 rfl rfl rfl rfl) (RS.w rfl (q0a rfl rfl rfl (q07 q0e und52)) ?_))
 refine go ?_
 exact xC ⟨rfl,rfl⟩
 refine go ?_
 exact xC ⟨hF,rfl,rfl⟩
 rcases gB h11 with ⟨h7,h11⟩ | ⟨h7,h11⟩
 exact gy h11
 obtain ⟨r8,h9,h11⟩:=q00 h11
 obtain rfl:=sI h11
 refine go ?_
 refine RS.w (u:=.agg [.iM q01 p1.Nodes]) rfl (q1b und24 rfl (q03 inf24) rfl rfl rfl) (RS.w (u:=.agg [.iM q01 r5.1.Nodes]) rfl (q1b und24 rfl (q03 inf24) rfl rfl rfl) (RS.cl rfl (pC (q3x n p1 (GFS.mk r5.1.Nodes) r8 h9) _) fn21 ?_))
 refine go ?_
 exact xC ⟨rfl,rfl⟩
def q77   : Option (Bool) :=
 some true
def q4x (p1:List Int) (p2:List Int):Nat→Int→Option (Bool)
 | 0,_=>none
 | m1+1,z7 =>
  cond (decide (z7<(p1.length:Int)))
   (q04 (q0u p1 z7) fun x9 =>
   q04 (q0u p2 z7) fun x11 =>
   cond (x9 != x11)
    (some false)
    ((q4x p1 p2 m1) (IntKind.i64.wrap (z7+1))))
   (q77)
def q7o (n:Nat) (p1:List Int) (p2:List Int):Option (Bool) :=
 cond ((p1.length:Int) != (p2.length:Int))
  (some false)
  (q4x p1 p2 n 0)
theorem q42 (n:Nat) (p1:List Int) (p2:List Int) (r:Bool) (hF:q7o n p1 p2=some r):EvU Tryz.prog 28 [.isl false (List.map (cI .i64) p1),.isl false (List.map (cI .i64) p2)] ⟨[],0⟩ (fun u _=>u = .bool r∧Bel 0 u):=by
 unfold q7o at hF
 refine bg2 26 fn28 ?_
 refine go ?_
 refine RS.q rfl (q0a rfl rfl rfl (q07 (cI .i64) und33)) ?_
 refine go ?_
 refine RS.q rfl (q0a rfl rfl rfl (q07 (cI .i64) und33)) ?_
 refine go ?_
 refine cF hF (fun h3 hF=>?_) (fun h3 hF=>?_)
 exact gx hF
 refine go ?_
 refine gS (l':=[(0,_),(1,_),(5,_)]) ?_
 refine z3e (fun m tm σ=>∃ z7:Int,q4x p1 p2 m z7=some r∧tm=fr 26 [(0,.iM (cI .i64) p1),(1,.iM (cI .i64) p2),(5,.i6 z7)]∧σ=⟨[],0⟩) (fun tm σ=>q77=some r∧tm=fr 26 []∧σ=⟨[],0⟩) n ⟨0,hF,rfl,rfl⟩ ?_ ?_
 rintro _ _ ⟨hF,rfl,rfl⟩
 unfold q77 at hF
 exact gx hF
 rintro (_|m1) _ _ ⟨z7,hF,rfl,rfl⟩
 cases hF
 unfold q4x at hF
 refine go ?_
 refine RS.q rfl (q0a rfl rfl rfl (q07 (cI .i64) und33)) ?_
 refine go ?_
 refine cF hF (fun h8 hF=>?_) (fun h8 hF=>?_)
 refine go ?_
 refine WPU.block ?_
 obtain ⟨x9,h10,hF⟩:=q00 hF
 obtain ⟨x11,h12,hF⟩:=q00 hF
 refine go ?_
 refine z3g Tryz.tb_ok [] (by kernel_rfl) ?_
 repeat refine RD.mv rfl rfl rfl rfl ?_
 refine RD.q rfl (q0i rfl rfl (q09 (cI .i64) und33 (q03 inf3) (q18 .i64) h10 rfl)) (RD.q rfl (q0c und3 rfl rfl rfl) ?_)
 repeat refine RD.mv rfl rfl rfl rfl ?_
 refine RD.q rfl (q0i rfl rfl (q09 (cI .i64) und33 (q03 inf3) (q18 .i64) h12 rfl)) (RD.q rfl (q0c und3 rfl rfl rfl) (RD.q rfl (q2y rfl rfl (qq0 _ _ _) rfl) ?_))
 refine RD.done ⟨by kernel_rfl,trivial,?_⟩
 refine go ?_
 refine cF hF (fun h13 hF=>?_) (fun h13 hF=>?_)
 exact gx hF
 refine go ?_
 exact lC ⟨_,hF,rfl,rfl⟩
 refine go ?_
 exact xC ⟨hF,rfl,rfl⟩
def q6h   : Option (Bool) :=
 some true
def q4k (p1:List (List Int)) (p2:List (List Int)) (n:Nat):Nat→Int→Option (Bool)
 | 0,_=>none
 | m1+1,z7 =>
  cond (decide (z7<(p1.length:Int)))
   (q04 (q0u p1 z7) fun x9 =>
   q04 (q0u p2 z7) fun x11 =>
   q04 (q7o n x9 x11) fun r13 =>
   cond (!r13)
    (some false)
    ((q4k p1 p2 n m1) (IntKind.i64.wrap (z7+1))))
   (q6h)
def qa1 (n:Nat) (p1:List (List Int)) (p2:List (List Int)):Option (Bool) :=
 cond ((p1.length:Int) != (p2.length:Int))
  (some false)
  (q4k p1 p2 n n 0)
theorem q78 (n:Nat) (p1:List (List Int)) (p2:List (List Int)) (r:Bool) (hF:qa1 n p1 p2=some r):EvU Tryz.prog 14 [.isl false (List.map (cL (cI .i64)) p1),.isl false (List.map (cL (cI .i64)) p2)] ⟨[],0⟩ (fun u _=>u = .bool r∧Bel 0 u):=by
 unfold qa1 at hF
 refine bg2 27 fn14 ?_
 refine go ?_
 refine RS.q rfl (q0a rfl rfl rfl (q07 (cL (cI .i64)) und28)) ?_
 refine go ?_
 refine RS.q rfl (q0a rfl rfl rfl (q07 (cL (cI .i64)) und28)) ?_
 refine go ?_
 refine cF hF (fun h3 hF=>?_) (fun h3 hF=>?_)
 exact gx hF
 refine go ?_
 refine gS (l':=[(0,_),(1,_),(5,_)]) ?_
 refine z3e (fun m tm σ=>∃ z7:Int,q4k p1 p2 n m z7=some r∧tm=fr 27 [(0,.iM (cL (cI .i64)) p1),(1,.iM (cL (cI .i64)) p2),(5,.i6 z7)]∧σ=⟨[],0⟩) (fun tm σ=>q6h=some r∧tm=fr 27 []∧σ=⟨[],0⟩) n ⟨0,hF,rfl,rfl⟩ ?_ ?_
 rintro _ _ ⟨hF,rfl,rfl⟩
 unfold q6h at hF
 exact gx hF
 rintro (_|m1) _ _ ⟨z7,hF,rfl,rfl⟩
 cases hF
 unfold q4k at hF
 refine go ?_
 refine RS.q rfl (q0a rfl rfl rfl (q07 (cL (cI .i64)) und28)) ?_
 refine go ?_
 refine cF hF (fun h8 hF=>?_) (fun h8 hF=>?_)
 refine go ?_
 refine WPU.block ?_
 obtain ⟨x9,h10,hF⟩:=q00 hF
 obtain ⟨x11,h12,hF⟩:=q00 hF
 obtain ⟨r13,h14,hF⟩:=q00 hF
 refine go ?_
 refine z3g Tryz.tb_ok [] (by kernel_rfl) ?_
 repeat refine RD.mv rfl rfl rfl rfl ?_
 refine RD.q rfl (q0i rfl rfl (q09 (cL (cI .i64)) und28 (q03 inf33) (q41 (cI .i64)) h10 rfl)) (RD.q rfl (q0c und33 rfl rfl rfl) ?_)
 repeat refine RD.mv rfl rfl rfl rfl ?_
 refine RD.q rfl (q0i rfl rfl (q09 (cL (cI .i64)) und28 (q03 inf33) (q41 (cI .i64)) h12 rfl)) (RD.q rfl (q0c und33 rfl rfl rfl) (RD.fl rfl (pC (q42 n x9 x11 r13 h14)) fn28 (RD.q rfl (qur rfl rfl rfl rfl) ?_)))
 refine RD.done ⟨by kernel_rfl,trivial,?_⟩
 refine go ?_
 refine cF hF (fun h15 hF=>?_) (fun h15 hF=>?_)
 exact gx hF
 refine go ?_
 exact lC ⟨_,hF,rfl,rfl⟩
 refine go ?_
 exact xC ⟨hF,rfl,rfl⟩
def qbj   : Option (Int) :=
 some 0
def q7z (p1:List q05):Nat→Int→Option (Int)
 | 0,_=>none
 | m1+1,z5 =>
  cond (decide (z5<(p1.length:Int)))
   (q04 (q04 (q0u p1 z5) fun x7 =>
   cond (decide ((x7.Supers.length:Int) > 256))
    (some true)
    (q04 (q0u p1 z5) fun x10 =>
    some (decide ((x10.Feats.length:Int) > 256)))) fun b12 =>
   cond b12
    (some 7)
    ((q7z p1 m1) (IntKind.i64.wrap (z5+1))))
   (qbj)
def qgk (n:Nat) (p1:List q05):Option (Int) :=
 cond (decide ((p1.length:Int) > 256))
  (some 7)
  (q7z p1 n 0)
end Go.Proofs
end
