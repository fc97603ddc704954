/-
  Texts of the walk: H4.
-/
import Derived.Test.YtkgbipeaeamohaaGreatDoorP16
set_option linter.unusedSimpArgs false
set_option linter.unusedVariables false
section
namespace Go.Proofs
open Go Go.Rx Go.Vx Tryz
set_option maxRecDepth 20000
set_option maxHeartbeats 4000000
set_option synthInstance.maxSize 4000
set_option synthInstance.maxHeartbeats 200000
theorem qjr (n:Nat) (p1:List Int) (p2:List Int) (r:(List Int)) (hF:qfu n p1 p2=some r):EvU Tryz.prog 118 [.isl false (List.map (cI .u64) p1),.isl false (List.map (cI .u64) p2)] ⟨[],0⟩ (fun u _=>u = .isl false (List.map (cI .u64) r)∧Bel 0 u):=by
 unfold qfu at hF
 refine bg2 26 fn118 ?_
 refine gr ?_
 refine gr ?_
 refine gr ?_
 refine WPU.ghost (tm':=fr 26 [(0,.iM (cI .u64) p1),(1,.iM (cI .u64) p2),(5,.vl 0 0 0 (([]:List Int).length)),(6,.i6 0)]) (σ':=⟨[(0,.vec (List.map (cI .u64) ([]:List Int)).flatten 191 1 0)],1⟩) (Gh.trans (qxl 5 191 1 (by decide) NZ rfl rfl) (qxk ⟨rfl,rfl,rfl,rfl,trivial⟩ rfl)) NZ ?_
 refine gS (l':=[(0,_),(1,_),(5,_),(6,_)]) ?_
 refine qxe (fun m tm σ=>∃ z8:Int,∃ l9:List Int,∃ t10:Nat,q9g p1 p2 n m z8 l9=some r∧tm=fr 26 [(0,.iM (cI .u64) p1),(1,.iM (cI .u64) p2),(5,.vl 0 t10 0 l9.length),(6,.i6 z8)]∧σ=⟨[(0,.vec (List.map (cI .u64) l9).flatten 191 1 t10)],1⟩) (fun tm σ=>∃ l11:List Int,∃ t12:Nat,qcr n l11=some r∧tm=fr 26 [(5,.vl 0 t12 0 l11.length)]∧σ=⟨[(0,.vec (List.map (cI .u64) l11).flatten 191 1 t12)],1⟩) n ⟨0,([]:List Int),0,hF,rfl,rfl⟩ ?_ ?_
 rintro _ _ ⟨l11,t12,hF,rfl,rfl⟩
 unfold qcr at hF
 refine gn ?_
 refine WPU.ghost (tm':=fr 26 [(5,.iM (cI .u64) l11)]) (σ':=⟨[],1⟩) (Gh.trans (Gh.sub (l':=[(5,.vl 0 t12 0 l11.length)]) ⟨rfl,trivial⟩) (qxt 0 1)) NZ ?_
 obtain ⟨r13,h14,hF⟩:=q00 hF
 refine go ?_
 refine RS.cl rfl (pC (q6i n l11 r13 h14) _) fn119 ?_
 exact gx hF
 rintro (_|m1) _ _ ⟨z8,l9,t10,hF,rfl,rfl⟩
 cases hF
 unfold q9g at hF
 refine go ?_
 refine RS.q rfl (q0c rfl rfl rfl (q08 (cI .u64) und103)) ?_
 refine go ?_
 refine cF hF (fun h15 hF=>?_) (fun h15 hF=>?_)
 refine go ?_
 refine WPU.block ?_
 obtain ⟨x16,h17,hF⟩:=q00 hF
 obtain ⟨r18,h19,hF⟩:=q00 hF
 obtain ⟨h20,hF⟩:=q0a hF
 refine go ?_
 refine qxh Tryz.tb_ok [(0,9)] (by kernel_rfl) ?_
 repeat refine RD.mv rfl rfl rfl rfl ?_
 refine RD.q rfl (q0g rfl rfl (q0b (cI .u64) und103 (q04 inf191) (q19 .u64) h17 rfl)) (RD.q rfl (q0e und191 rfl rfl rfl) ?_)
 repeat refine RD.mv rfl rfl rfl rfl ?_
 refine RD.fl rfl (pC (qhp n p2 z8 r18 h19)) fn146 (RD.q rfl (q35 rfl rfl (qvv _ _ _) rfl) (RD.act (u:=.sl 1 0 1 1) (σ':=⟨[(1,.row [.int .u64 (qrp .u64 x16 r18)] 191),(0,.vec (List.map (cI .u64) l9).flatten 191 1 t10)],2⟩) rfl (q0i und103 inf191 rfl rfl rfl rfl rfl rfl rfl) rfl rfl (RD.act (u:=.vl 0 (t10+1) 0 ((l9++[(qrp .u64 x16 r18)]).length)) (σ':=⟨[(1,.row [.int .u64 (qrp .u64 x16 r18)] 191),(0,.vec (List.map (cI .u64) (l9++[(qrp .u64 x16 r18)])).flatten 191 1 (t10+1))],2⟩) rfl (q1o rfl rfl rfl rfl (q20 (cI .u64) ([(qrp .u64 x16 r18)]) und103 und103 inf191 rfl (q19 .u64) rfl (q1k (cI .u64) [(qrp .u64 x16 r18)] rfl rfl rfl rfl) h20)) rfl rfl (RD.as rfl rfl rfl rfl ?_))))
 refine RD.done ⟨by kernel_rfl,⟨q21 rfl,trivial⟩,?_⟩
 refine go ?_
 exact lC ⟨_,(l9++[(qrp .u64 x16 r18)]),(t10+1),hF,rfl,rfl⟩
 refine go ?_
 exact xC ⟨l9,t10,hF,rfl,rfl⟩
def qbl   : Option (Bool) :=
 some true
def q80 (p1:List Int) (p2:List Int):Nat→Int→Option (Bool)
 | 0,_=>none
 | m1+1,z7 =>
  cond (decide (z7<(p1.length:Int)))
   (q03 (q13 p1 z7) fun x9 =>
   q03 (q13 p2 z7) fun x11 =>
   cond (x9 != x11)
    (some false)
    ((q80 p1 p2 m1) (IntKind.i64.wrap (z7+1))))
   (qbl)
def qdk (n:Nat) (p1:List Int) (p2:List Int):Option (Bool) :=
 cond ((p1.length:Int) != (p2.length:Int))
  (some false)
  (q80 p1 p2 n 0)
theorem qho (n:Nat) (p1:List Int) (p2:List Int) (r:Bool) (hF:qdk n p1 p2=some r):EvU Tryz.prog 120 [.isl false (List.map (cI .u64) p1),.isl false (List.map (cI .u64) p2)] ⟨[],0⟩ (fun u _=>u = .bool r∧Bel 0 u):=by
 unfold qdk at hF
 refine bg2 26 fn120 ?_
 refine go ?_
 refine RS.q rfl (q0c rfl rfl rfl (q08 (cI .u64) und103)) ?_
 refine go ?_
 refine RS.q rfl (q0c rfl rfl rfl (q08 (cI .u64) und103)) ?_
 refine go ?_
 refine cF hF (fun h3 hF=>?_) (fun h3 hF=>?_)
 exact gx hF
 refine go ?_
 refine gS (l':=[(0,_),(1,_),(5,_)]) ?_
 refine qxe (fun m tm σ=>∃ z7:Int,q80 p1 p2 m z7=some r∧tm=fr 26 [(0,.iM (cI .u64) p1),(1,.iM (cI .u64) p2),(5,.i6 z7)]∧σ=⟨[],0⟩) (fun tm σ=>qbl=some r∧tm=fr 26 []∧σ=⟨[],0⟩) n ⟨0,hF,rfl,rfl⟩ ?_ ?_
 rintro _ _ ⟨hF,rfl,rfl⟩
 unfold qbl at hF
 exact gx hF
 rintro (_|m1) _ _ ⟨z7,hF,rfl,rfl⟩
 cases hF
 unfold q80 at hF
 refine go ?_
 refine RS.q rfl (q0c rfl rfl rfl (q08 (cI .u64) und103)) ?_
 refine go ?_
 refine cF hF (fun h8 hF=>?_) (fun h8 hF=>?_)
 refine go ?_
 refine WPU.block ?_
 obtain ⟨x9,h10,hF⟩:=q00 hF
 obtain ⟨x11,h12,hF⟩:=q00 hF
 refine go ?_
 refine qxh Tryz.tb_ok [] (by kernel_rfl) ?_
 repeat refine RD.mv rfl rfl rfl rfl ?_
 refine RD.q rfl (q0g rfl rfl (q0b (cI .u64) und103 (q04 inf191) (q19 .u64) h10 rfl)) (RD.q rfl (q0e und191 rfl rfl rfl) ?_)
 repeat refine RD.mv rfl rfl rfl rfl ?_
 refine RD.q rfl (q0g rfl rfl (q0b (cI .u64) und103 (q04 inf191) (q19 .u64) h12 rfl)) (RD.q rfl (q0e und191 rfl rfl rfl) (RD.q rfl (q35 rfl rfl (qng _ _ _) rfl) ?_))
 refine RD.done ⟨by kernel_rfl,trivial,?_⟩
 refine go ?_
 refine cF hF (fun h13 hF=>?_) (fun h13 hF=>?_)
 exact gx hF
 refine go ?_
 exact lC ⟨_,hF,rfl,rfl⟩
 refine go ?_
 exact xC ⟨hF,rfl,rfl⟩
def qet   : Option (Bool) :=
 some false
def qbq (p1:List (List Int)) (p2:List Int) (n:Nat):Nat→Int→Option (Bool)
 | 0,_=>none
 | m1+1,z6 =>
  cond (decide (z6<(p1.length:Int)))
   (q03 (q13 p1 z6) fun x8 =>
   q03 (qdk n x8 p2) fun r10 =>
   cond r10
    (some true)
    ((qbq p1 p2 n m1) (IntKind.i64.wrap (z6+1))))
   (qet)
def qme (n:Nat) (p1:List (List Int)) (p2:List Int):Option (Bool) :=
 qbq p1 p2 n n 0
theorem qrc (n:Nat) (p1:List (List Int)) (p2:List Int) (r:Bool) (hF:qme n p1 p2=some r):EvU Tryz.prog 128 [.isl false (List.map (cL (cI .u64)) p1),.isl false (List.map (cI .u64) p2)] ⟨[],0⟩ (fun u _=>u = .bool r∧Bel 0 u):=by
 unfold qme at hF
 refine bg2 18 fn128 ?_
 refine go ?_
 refine gS (l':=[(0,_),(1,_),(5,_)]) ?_
 refine qxe (fun m tm σ=>∃ z6:Int,qbq p1 p2 n m z6=some r∧tm=fr 18 [(0,.iM (cL (cI .u64)) p1),(1,.iM (cI .u64) p2),(5,.i6 z6)]∧σ=⟨[],0⟩) (fun tm σ=>qet=some r∧tm=fr 18 []∧σ=⟨[],0⟩) n ⟨0,hF,rfl,rfl⟩ ?_ ?_
 rintro _ _ ⟨hF,rfl,rfl⟩
 unfold qet at hF
 exact gx hF
 rintro (_|m1) _ _ ⟨z6,hF,rfl,rfl⟩
 cases hF
 unfold qbq at hF
 refine go ?_
 refine RS.q rfl (q0c rfl rfl rfl (q08 (cL (cI .u64)) und148)) ?_
 refine go ?_
 refine cF hF (fun h7 hF=>?_) (fun h7 hF=>?_)
 refine go ?_
 refine WPU.block ?_
 obtain ⟨x8,h9,hF⟩:=q00 hF
 obtain ⟨r10,h11,hF⟩:=q00 hF
 refine go ?_
 refine RS.q rfl (q0g rfl rfl (q0b (cL (cI .u64)) und148 (q04 inf103) (q3c (cI .u64)) h9 rfl)) (RS.q rfl (q0e und103 rfl rfl rfl) ?_)
 refine go ?_
 refine RS.cl rfl (pC (qho n x8 p2 r10 h11) _) fn120 ?_
 refine go ?_
 refine cF hF (fun h12 hF=>?_) (fun h12 hF=>?_)
 exact gx hF
 refine go ?_
 exact lC ⟨_,hF,rfl,rfl⟩
 refine go ?_
 exact xC ⟨hF,rfl,rfl⟩
def q5q (z19:Int) (rc2:Int→(List (List Int))→Option ((List (List Int)))) (l40:List (List Int)):Option ((List (List Int))) :=
 rc2 (IntKind.i64.wrap (z19+1)) l40
def q8v (z6:Int) (rc1:Int→(List (List Int))→Option ((List (List Int)))) (l22:List (List Int)):Option ((List (List Int))) :=
 rc1 (IntKind.i64.wrap (z6+1)) l22
def q31 (n:Nat) (z6:Int) (rc1:Int→(List (List Int))→Option ((List (List Int)))):Nat→Int→(List (List Int))→Option ((List (List Int)))
 | 0,_,_=>none
 | m2+1,z19,l20 =>
  q03 (cond (decide (z19<z6))
   (some (decide ((l20.length:Int)≤256)))
   (some false)) fun b25 =>
  cond b25
   (q03 (q13 l20 z6) fun x28 =>
   q03 (q13 l20 z19) fun x30 =>
   q03 (qfu n x28 x30) fun r32 =>
   q03 (cond (decide ((r32.length:Int) > 0))
    (q03 (qme n l20 r32) fun r35 =>
    some (!r35))
    (some false)) fun b37 =>
   cond b37
    (q16 ((l20.length+1)*24≤140737488355328∧l20.length+1≤140737488355328) (
    q5q z19 (q31 n z6 rc1 m2) (l20++[r32])))
    (q5q z19 (q31 n z6 rc1 m2) l20))
   (q8v z6 rc1 l20)
def q8u  (l9:List (List Int)):Option ((List (List Int))) :=
 some l9
def q2g (n:Nat):Nat→Int→(List (List Int))→Option ((List (List Int)))
 | 0,_,_=>none
 | m1+1,z6,l7 =>
  q03 (cond (decide (z6<(l7.length:Int)))
   (some (decide ((l7.length:Int)≤256)))
   (some false)) fun b12 =>
  cond b12
   (q31 n z6 (q2g n m1) n 0 l7)
   (q8u l7)
def qcy (n:Nat) (p1:List (List Int)):Option ((List (List Int))) :=
 q16 (p1.length*24≤140737488355328∧p1.length≤140737488355328) (
 q2g n n 0 p1)
theorem qkp (n:Nat) (p1:List (List Int)) (r:(List (List Int))) (hF:qcy n p1=some r):EvU Tryz.prog 97 [.isl false (List.map (cL (cI .u64)) p1)] ⟨[],0⟩ (fun u _=>u = .isl false (List.map (cL (cI .u64)) r)∧Bel 0 u):=by
 unfold qcy at hF
 refine bg1 54 fn97 ?_
 obtain ⟨h2,hF⟩:=q0a hF
 refine go ?_
 refine RS.q (u:=.sl 0 0 0 0) (σ':=⟨[(0,.row [] 103)],1⟩) rfl (q0i und148 inf103 rfl rfl rfl rfl rfl rfl rfl) ?_
 refine go ?_
 refine RS.q (u:=.vl 1 0 0 p1.length) (σ':=⟨[(1,.vec (List.map (cL (cI .u64)) p1).flatten 103 1 0),(0,.row [] 103)],2⟩) rfl (q1o rfl rfl rfl rfl (qok (cL (cI .u64)) p1 und148 und148 inf103 rfl rfl rfl (qey (cL (cI .u64)) (q3c (cI .u64))) h2)) ?_
 refine go ?_
 refine gS (l':=[(3,_),(4,_)]) ?_
 refine qxe (fun m tm σ=>∃ z6:Int,∃ l7:List (List Int),∃ t8:Nat,q2g n m z6 l7=some r∧tm=fr 54 [(3,.vl 1 t8 0 l7.length),(4,.i6 z6)]∧σ=⟨[(1,.vec (List.map (cL (cI .u64)) l7).flatten 103 1 t8),(0,.row [] 103)],2⟩) (fun tm σ=>∃ l9:List (List Int),∃ t10:Nat,q8u l9=some r∧tm=fr 54 [(3,.vl 1 t10 0 l9.length)]∧σ=⟨[(1,.vec (List.map (cL (cI .u64)) l9).flatten 103 1 t10),(0,.row [] 103)],2⟩) n ⟨0,p1,0,hF,rfl,rfl⟩ ?_ ?_
 rintro _ _ ⟨l9,t10,hF,rfl,rfl⟩
 unfold q8u at hF
 refine go ?_
 obtain rfl:=sI hF
 exact rT (us:=[.vl 1 t10 0 l9.length]) (u:=.iM (cL (cI .u64)) l9) (q2j rfl (q33)) (fR 1 1)
 rintro (_|m1) _ _ ⟨z6,l7,t8,hF,rfl,rfl⟩
 cases hF
 unfold q2g at hF
 obtain ⟨b12,h13,hF⟩:=q00 hF
 refine gn ?_
 refine qxf (fun tm σ=>tm=fr 54 [(3,.vl 1 t8 0 l7.length),(4,.i6 z6),(18,.bool b12)]∧σ=⟨[(1,.vec (List.map (cL (cI .u64)) l7).flatten 103 1 t8),(0,.row [] 103)],2⟩) ?_ ?_
 rintro _ _ ⟨rfl,rfl⟩
 refine go ?_
 refine cF hF (fun h14 hF=>?_) (fun h14 hF=>?_)
 refine go ?_
 refine WPU.block ?_
 refine go ?_
 refine gS (l':=[(3,_),(4,_),(5,_)]) ?_
 refine qxe (fun m tm σ=>∃ z19:Int,∃ l20:List (List Int),∃ t21:Nat,q31 n z6 (q2g n m1) m z19 l20=some r∧tm=fr 54 [(3,.vl 1 t21 0 l20.length),(4,.i6 z6),(5,.i6 z19)]∧σ=⟨[(1,.vec (List.map (cL (cI .u64)) l20).flatten 103 1 t21),(0,.row [] 103)],2⟩) (fun tm σ=>∃ l22:List (List Int),∃ t23:Nat,q8v z6 (q2g n m1) l22=some r∧tm=fr 54 [(3,.vl 1 t23 0 l22.length),(4,.i6 z6)]∧σ=⟨[(1,.vec (List.map (cL (cI .u64)) l22).flatten 103 1 t23),(0,.row [] 103)],2⟩) n ⟨0,l7,t8,hF,rfl,rfl⟩ ?_ ?_
 rintro _ _ ⟨l22,t23,hF,rfl,rfl⟩
 unfold q8v at hF
 refine go ?_
 exact lC ⟨_,l22,t23,hF,rfl,rfl⟩
 rintro (_|m2) _ _ ⟨z19,l20,t21,hF,rfl,rfl⟩
 cases hF
 unfold q31 at hF
 obtain ⟨b25,h26,hF⟩:=q00 hF
 refine gn ?_
 refine qxf (fun tm σ=>tm=fr 54 [(3,.vl 1 t21 0 l20.length),(4,.i6 z6),(5,.i6 z19),(28,.bool b25)]∧σ=⟨[(1,.vec (List.map (cL (cI .u64)) l20).flatten 103 1 t21),(0,.row [] 103)],2⟩) ?_ ?_
 rintro _ _ ⟨rfl,rfl⟩
 refine go ?_
 refine cF hF (fun h27 hF=>?_) (fun h27 hF=>?_)
 refine go ?_
 refine WPU.block ?_
 obtain ⟨x28,h29,hF⟩:=q00 hF
 obtain ⟨x30,h31,hF⟩:=q00 hF
 obtain ⟨r32,h33,hF⟩:=q00 hF
 refine go ?_
 refine qxh Tryz.tb_ok [] (by kernel_rfl) ?_
 repeat refine RD.mv rfl rfl rfl rfl ?_
 refine RD.q rfl (q0g rfl rfl (qhy (cL (cI .u64)) und148 (q04 inf103) (by decide) (q3c (cI .u64)) (vo rfl) h29)) ?_
 refine RD.q rfl (q8l (cL (cI .u64)) (fun x=>.iM (cI .u64) x) und103 rfl (fun _=>rfl) rfl rfl h29) ?_
 repeat refine RD.mv rfl rfl rfl rfl ?_
 refine RD.q rfl (q0g rfl rfl (qhy (cL (cI .u64)) und148 (q04 inf103) (by decide) (q3c (cI .u64)) (vo rfl) h31)) ?_
 refine RD.q rfl (q8l (cL (cI .u64)) (fun x=>.iM (cI .u64) x) und103 rfl (fun _=>rfl) rfl rfl h31) (RD.fl rfl (pC (qjr n x28 x30 r32 h33)) fn118 (RD.as rfl rfl rfl rfl ?_))
 refine RD.done ⟨by kernel_rfl,trivial,?_⟩
 obtain ⟨b37,h38,hF⟩:=q00 hF
 refine gn ?_
 refine qxf (fun tm σ=>tm=fr 54 [(3,.vl 1 t21 0 l20.length),(4,.i6 z6),(5,.i6 z19),(6,.iM (cI .u64) r32),(48,.bool b37)]∧σ=⟨[(1,.vec (List.map (cL (cI .u64)) l20).flatten 103 1 t21),(0,.row [] 103)],2⟩) ?_ ?_
 rintro _ _ ⟨rfl,rfl⟩
 refine gn ?_
 refine qxf (fun tm σ=>∃ l40:List (List Int),∃ t41:Nat,q5q z19 (q31 n z6 (q2g n m1) m2) l40=some r∧tm=fr 54 [(3,.vl 1 t41 0 l40.length),(4,.i6 z6),(5,.i6 z19)]∧σ=⟨[(1,.vec (List.map (cL (cI .u64)) l40).flatten 103 1 t41),(0,.row [] 103)],2⟩) ?_ ?_
 rintro _ _ ⟨l40,t41,hF,rfl,rfl⟩
 unfold q5q at hF
 refine go ?_
 exact lC ⟨_,l40,t41,hF,rfl,rfl⟩
 refine cF hF (fun h39 hF=>?_) (fun h39 hF=>?_)
 obtain ⟨h42,hF⟩:=q0a hF
 refine go ?_
 refine RS.q (u:=.sl 2 0 1 1) (σ':=⟨[(2,.row [.iM (cI .u64) r32] 103),(1,.vec (List.map (cL (cI .u64)) l20).flatten 103 1 t21),(0,.row [] 103)],3⟩) rfl (q0i und148 inf103 rfl rfl rfl rfl rfl rfl rfl) (RS.q (u:=.vl 1 (t21+1) 0 ((l20++[r32]).length)) (σ':=⟨[(2,.row [.iM (cI .u64) r32] 103),(1,.vec (List.map (cL (cI .u64)) (l20++[r32])).flatten 103 1 (t21+1)),(0,.row [] 103)],3⟩) rfl (q1o rfl rfl rfl rfl (q20 (cL (cI .u64)) ([r32]) und148 und148 inf103 rfl (q3c (cI .u64)) rfl (q1k (cL (cI .u64)) [r32] rfl rfl rfl rfl) h42)) ?_)
 refine go ?_
 exact xC ⟨(l20++[r32]),(t21+1),hF,rfl,rfl⟩
 refine go ?_
 exact xC ⟨l20,t21,hF,rfl,rfl⟩
 rcases gB h38 with ⟨h34,h38⟩ | ⟨h34,h38⟩
 obtain ⟨r35,h36,h38⟩:=q00 h38
 obtain rfl:=sI h38
 refine go ?_
 refine RS.q rfl (q0c rfl rfl rfl (q08 (cI .u64) und103)) ?_
 refine go ?_
 refine RS.cl rfl (vw (qrc n l20 r32 r35 h36) (qxg 1 1)) fn128 ?_
 refine go ?_
 exact xC ⟨rfl,rfl⟩
 obtain rfl:=sI h38
 refine go ?_
 refine RS.q rfl (q0c rfl rfl rfl (q08 (cI .u64) und103)) ?_
 refine go ?_
 exact xC ⟨rfl,rfl⟩
 refine go ?_
 exact xC ⟨l20,t21,hF,rfl,rfl⟩
 rcases gB h26 with ⟨h24,h26⟩ | ⟨h24,h26⟩
 obtain rfl:=sI h26
 refine go ?_
 refine RS.w rfl (q0c rfl rfl rfl (qe3 und148 rfl)) ?_
 refine go ?_
 exact xC ⟨rfl,rfl⟩
 exact gy h26
 refine go ?_
 exact xC ⟨l7,t8,hF,rfl,rfl⟩
 rcases gB h13 with ⟨h11,h13⟩ | ⟨h11,h13⟩
 obtain rfl:=sI h13
 refine go ?_
 refine RS.q rfl (q0c rfl rfl rfl (qe3 und148 rfl)) ?_
 refine go ?_
 refine RS.w rfl (q0c rfl rfl rfl (qe3 und148 rfl)) ?_
 refine go ?_
 exact xC ⟨rfl,rfl⟩
 obtain rfl:=sI h13
 refine go ?_
 refine RS.q rfl (q0c rfl rfl rfl (qe3 und148 rfl)) ?_
 refine go ?_
 exact xC ⟨rfl,rfl⟩
def q9t (n:Nat) (l11:List Int):Option ((List Int)) :=
 q03 (q54 n l11) fun r13 =>
 some r13
def q6h (p1:List Int) (p2:List Int) (n:Nat):Nat→Int→(List Int)→Option ((List Int))
 | 0,_,_=>none
 | m1+1,z8,l9 =>
  cond (decide (z8<(p1.length:Int)))
   (q03 (q13 p1 z8) fun x16 =>
   q03 (qdl n p2 z8) fun r18 =>
   q16 ((l9.length+1)*8≤140737488355328∧l9.length+1≤140737488355328) (
   (q6h p1 p2 n m1) (IntKind.i64.wrap (z8+1)) (l9++[(q9k .u64 x16 r18)])))
   (q9t n l9)
def qel (n:Nat) (p1:List Int) (p2:List Int):Option ((List Int)) :=
 q6h p1 p2 n n 0 ([]:List Int)
theorem qm6 (n:Nat) (p1:List Int) (p2:List Int) (r:(List Int)) (hF:qel n p1 p2=some r):EvU Tryz.prog 153 [.isl false (List.map (cI .u64) p1),.isl false (List.map (cI .u64) p2)] ⟨[],0⟩ (fun u _=>u = .isl false (List.map (cI .u64) r)∧Bel 0 u):=by
 unfold qel at hF
 refine bg2 26 fn153 ?_
 refine gr ?_
 refine gr ?_
 refine gr ?_
 refine WPU.ghost (tm':=fr 26 [(0,.iM (cI .u64) p1),(1,.iM (cI .u64) p2),(5,.vl 0 0 0 (([]:List Int).length)),(6,.i6 0)]) (σ':=⟨[(0,.vec (List.map (cI .u64) ([]:List Int)).flatten 191 1 0)],1⟩) (Gh.trans (qxl 5 191 1 (by decide) NZ rfl rfl) (qxk ⟨rfl,rfl,rfl,rfl,trivial⟩ rfl)) NZ ?_
 refine gS (l':=[(0,_),(1,_),(5,_),(6,_)]) ?_
 refine qxe (fun m tm σ=>∃ z8:Int,∃ l9:List Int,∃ t10:Nat,q6h p1 p2 n m z8 l9=some r∧tm=fr 26 [(0,.iM (cI .u64) p1),(1,.iM (cI .u64) p2),(5,.vl 0 t10 0 l9.length),(6,.i6 z8)]∧σ=⟨[(0,.vec (List.map (cI .u64) l9).flatten 191 1 t10)],1⟩) (fun tm σ=>∃ l11:List Int,∃ t12:Nat,q9t n l11=some r∧tm=fr 26 [(5,.vl 0 t12 0 l11.length)]∧σ=⟨[(0,.vec (List.map (cI .u64) l11).flatten 191 1 t12)],1⟩) n ⟨0,([]:List Int),0,hF,rfl,rfl⟩ ?_ ?_
 rintro _ _ ⟨l11,t12,hF,rfl,rfl⟩
 unfold q9t at hF
 refine gn ?_
 refine WPU.ghost (tm':=fr 26 [(5,.iM (cI .u64) l11)]) (σ':=⟨[],1⟩) (Gh.trans (Gh.sub (l':=[(5,.vl 0 t12 0 l11.length)]) ⟨rfl,trivial⟩) (qxt 0 1)) NZ ?_
 obtain ⟨r13,h14,hF⟩:=q00 hF
 refine go ?_
 refine RS.cl rfl (pC (q6i n l11 r13 h14) _) fn119 ?_
 exact gx hF
 rintro (_|m1) _ _ ⟨z8,l9,t10,hF,rfl,rfl⟩
 cases hF
 unfold q6h at hF
 refine go ?_
 refine RS.q rfl (q0c rfl rfl rfl (q08 (cI .u64) und103)) ?_
 refine go ?_
 refine cF hF (fun h15 hF=>?_) (fun h15 hF=>?_)
 refine go ?_
 refine WPU.block ?_
 obtain ⟨x16,h17,hF⟩:=q00 hF
 obtain ⟨r18,h19,hF⟩:=q00 hF
 obtain ⟨h20,hF⟩:=q0a hF
 refine go ?_
 refine qxh Tryz.tb_ok [(0,9)] (by kernel_rfl) ?_
 repeat refine RD.mv rfl rfl rfl rfl ?_
 refine RD.q rfl (q0g rfl rfl (q0b (cI .u64) und103 (q04 inf191) (q19 .u64) h17 rfl)) (RD.q rfl (q0e und191 rfl rfl rfl) ?_)
 repeat refine RD.mv rfl rfl rfl rfl ?_
 refine RD.fl rfl (pC (qhp n p2 z8 r18 h19)) fn146 (RD.q rfl (q35 rfl rfl (qsq _ _ _) rfl) (RD.act (u:=.sl 1 0 1 1) (σ':=⟨[(1,.row [.int .u64 (q9k .u64 x16 r18)] 191),(0,.vec (List.map (cI .u64) l9).flatten 191 1 t10)],2⟩) rfl (q0i und103 inf191 rfl rfl rfl rfl rfl rfl rfl) rfl rfl (RD.act (u:=.vl 0 (t10+1) 0 ((l9++[(q9k .u64 x16 r18)]).length)) (σ':=⟨[(1,.row [.int .u64 (q9k .u64 x16 r18)] 191),(0,.vec (List.map (cI .u64) (l9++[(q9k .u64 x16 r18)])).flatten 191 1 (t10+1))],2⟩) rfl (q1o rfl rfl rfl rfl (q20 (cI .u64) ([(q9k .u64 x16 r18)]) und103 und103 inf191 rfl (q19 .u64) rfl (q1k (cI .u64) [(q9k .u64 x16 r18)] rfl rfl rfl rfl) h20)) rfl rfl (RD.as rfl rfl rfl rfl ?_))))
 refine RD.done ⟨by kernel_rfl,⟨q21 rfl,trivial⟩,?_⟩
 refine go ?_
 exact lC ⟨_,(l9++[(q9k .u64 x16 r18)]),(t10+1),hF,rfl,rfl⟩
 refine go ?_
 exact xC ⟨l9,t10,hF,rfl,rfl⟩
def q77 (n:Nat) (p1:List Int) (p2:List Int):Option (Bool) :=
 q03 (qel n p1 p2) fun r3 =>
 some ((r3.length:Int) == 0)
theorem q6k (n:Nat) (p1:List Int) (p2:List Int) (r:Bool) (hF:q77 n p1 p2=some r):EvU Tryz.prog 133 [.isl false (List.map (cI .u64) p1),.isl false (List.map (cI .u64) p2)] ⟨[],0⟩ (fun u _=>u = .bool r∧Bel 0 u):=by
 unfold q77 at hF
 refine bg2 10 fn133 ?_
 obtain ⟨r3,h4,hF⟩:=q00 hF
 refine go ?_
 refine RS.cl rfl (pC (qm6 n p1 p2 r3 h4) _) fn153 (RS.q rfl (q0c rfl rfl rfl (q08 (cI .u64) und103)) ?_)
 exact gx hF
def qek (n:Nat) (p1:List Int) (p2:List Int):Option (Bool) :=
 q03 (q03 (q77 n p1 p2) fun r3 =>
 cond r3
  (q03 (q77 n p2 p1) fun r6 =>
  some r6)
  (some false)) fun b8 =>
 some b8
theorem qm5 (n:Nat) (p1:List Int) (p2:List Int) (r:Bool) (hF:qek n p1 p2=some r):EvU Tryz.prog 129 [.isl false (List.map (cI .u64) p1),.isl false (List.map (cI .u64) p2)] ⟨[],0⟩ (fun u _=>u = .bool r∧Bel 0 u):=by
 unfold qek at hF
 refine bg2 13 fn129 ?_
 obtain ⟨b8,h9,hF⟩:=q00 hF
 refine gr ?_
 refine qxf (fun tm σ=>tm=fr 13 [(4,.bool b8)]∧σ=⟨[],0⟩) ?_ ?_
 rintro _ _ ⟨rfl,rfl⟩
 exact gx hF
 obtain ⟨r3,h4,h9⟩:=q00 h9
 rcases gB h9 with ⟨h5,h9⟩ | ⟨h5,h9⟩
 obtain ⟨r6,h7,h9⟩:=q00 h9
 obtain rfl:=sI h9
 refine go ?_
 refine RS.cl rfl (pC (q6k n p1 p2 r3 h4) _) fn133 ?_
 refine go ?_
 refine RS.cl rfl (pC (q6k n p2 p1 r6 h7) _) fn133 ?_
 refine go ?_
 exact xC ⟨rfl,rfl⟩
 obtain rfl:=sI h9
 refine go ?_
 refine RS.cl rfl (pC (q6k n p1 p2 r3 h4) _) fn133 ?_
 refine go ?_
 exact xC ⟨rfl,rfl⟩
def qfw (n:Nat) (p1:List Int) (p2:Int):Option (Bool) :=
 q03 (cond (decide (p2<0))
  (some true)
  (some (decide ((IntKind.i64.wrap (p2.tdiv 64)) ≥ (p1.length:Int))))) fun b5 =>
 cond b5
  (some false)
  (q03 (q13 p1 (IntKind.i64.wrap (p2.tdiv 64))) fun x9 =>
  q16 (¬ (IntKind.u64.wrap (p2.tmod 64))<0) (
  some ((qrp .u64 (x9.fdiv (2 ^ (min (IntKind.u64.wrap (p2.tmod 64)).toNat IntKind.u64.bits))) 1) == 1)))
theorem qjs (n:Nat) (p1:List Int) (p2:Int) (r:Bool) (hF:qfw n p1 p2=some r):EvU Tryz.prog 130 [.isl false (List.map (cI .u64) p1),.int .i64 p2] ⟨[],0⟩ (fun u _=>u = .bool r∧Bel 0 u):=by
 unfold qfw at hF
 refine bg2 25 fn130 ?_
 obtain ⟨b5,h6,hF⟩:=q00 hF
 refine gr ?_
 refine qxf (fun tm σ=>tm=fr 25 [(0,.iM (cI .u64) p1),(1,.i6 p2),(13,.bool b5)]∧σ=⟨[],0⟩) ?_ ?_
 rintro _ _ ⟨rfl,rfl⟩
 refine go ?_
 refine cF hF (fun h7 hF=>?_) (fun h7 hF=>?_)
 exact gx hF
 obtain ⟨x9,h10,hF⟩:=q00 hF
 obtain ⟨h12,hF⟩:=q0a hF
 refine go ?_
 refine RS.q rfl (q35 rfl rfl (qpu _ (by decide)) rfl) ?_
 refine RS.q rfl (q0g rfl rfl (q0b (cI .u64) und103 (q04 inf191) (q19 .u64) h10 rfl)) (RS.q rfl (q0e und191 rfl rfl rfl) ?_)
 refine go ?_
 refine RS.q rfl (q35 rfl rfl (qsr _ (by decide)) rfl) ?_
 refine RS.q (u:=.int .u64 (IntKind.u64.wrap (p2.tmod 64))) rfl (qp0 rfl rfl (by simp only [qn3,und3,und190]<;>rfl) rfl) ?_
 refine RS.q rfl (q35 rfl rfl (ix_shr _ h12) rfl) (RS.q rfl (q35 rfl rfl (qvv _ _ _) rfl) ?_)
 exact gx hF
 rcases gB h6 with ⟨h3,h6⟩ | ⟨h3,h6⟩
 exact gy h6
 obtain rfl:=sI h6
 refine go ?_
 refine RS.w rfl (q35 rfl rfl (qpu _ (by decide)) rfl) ?_
 refine go ?_
 refine RS.w rfl (q0c rfl rfl rfl (q08 (cI .u64) und103)) ?_
 refine go ?_
 exact xC ⟨rfl,rfl⟩
def q48 (z8:Int) (rc1:(List (List UInt8))→Int→Option ((List (List UInt8)))) (l16:List (List UInt8)):Option ((List (List UInt8))) :=
 rc1 l16 (IntKind.i64.wrap (z8+1))
def q68  (l9:List (List UInt8)):Option ((List (List UInt8))) :=
 some l9
def q2c (p1:List q05) (p2:List (List UInt8)) (n:Nat):Nat→(List (List UInt8))→Int→Option ((List (List UInt8)))
 | 0,_,_=>none
 | m1+1,l7,z8 =>
  cond (decide (z8<(p2.length:Int)))
   (q03 (q13 p2 z8) fun x11 =>
   q03 (q55 n p1 x11) fun r13 =>
   cond (decide (r13 ≥ 0))
    (q03 (q13 p2 z8) fun x17 =>
    q03 (q78 n l7 x17) fun r19 =>
    q48 z8 (q2c p1 p2 n m1) r19)
    (q48 z8 (q2c p1 p2 n m1) l7))
   (q68 l7)
def qa3 (n:Nat) (p1:List q05) (p2:List (List UInt8)):Option ((List (List UInt8))) :=
 q2c p1 p2 n n [] 0
theorem qi2 (n:Nat) (p1:List q05) (p2:List (List UInt8)) (r:(List (List UInt8))) (hF:qa3 n p1 p2=some r):EvU Tryz.prog 150 [.isl false (List.map q01 p1),.isl false (List.map cS p2)] ⟨[],0⟩ (fun u _=>u = .isl false (List.map cS r)∧Bel 0 u):=by
 unfold qa3 at hF
 refine bg2 27 fn150 ?_
 refine gr ?_
 refine gr ?_
 refine gr ?_
 refine WPU.ghost (tm':=fr 27 [(0,.iM q01 p1),(1,.iM cS p2),(5,.iM cS []),(6,.i6 0)]) (Gh.trans (Gh.sub (l':=[(0,.iM q01 p1),(1,.iM cS p2),(5,.nils),(6,.i6 0)]) ⟨rfl,rfl,rfl,rfl,trivial⟩) (Gh.wkS (l':=[(0,.iM q01 p1),(1,.iM cS p2),(5,.iM cS []),(6,.i6 0)]) (.cons (.refl _) (.cons (.refl _) (.cons (.nil false) (.cons (.refl _) .nil)))))) NZ ?_
 refine gS (l':=[(0,_),(1,_),(5,_),(6,_)]) ?_
 refine qxe (fun m tm σ=>∃ l7:List (List UInt8),∃ z8:Int,q2c p1 p2 n m l7 z8=some r∧tm=fr 27 [(0,.iM q01 p1),(1,.iM cS p2),(5,.iM cS l7),(6,.i6 z8)]∧σ=⟨[],0⟩) (fun tm σ=>∃ l9:List (List UInt8),q68 l9=some r∧tm=fr 27 [(5,.iM cS l9)]∧σ=⟨[],0⟩) n ⟨[],0,hF,rfl,rfl⟩ ?_ ?_
 rintro _ _ ⟨l9,hF,rfl,rfl⟩
 unfold q68 at hF
 exact gx hF
 rintro (_|m1) _ _ ⟨l7,z8,hF,rfl,rfl⟩
 cases hF
 unfold q2c at hF
 refine go ?_
 refine RS.q rfl (q0c rfl rfl rfl (q08 cS und80)) ?_
 refine go ?_
 refine cF hF (fun h10 hF=>?_) (fun h10 hF=>?_)
 refine go ?_
 refine WPU.block ?_
 obtain ⟨x11,h12,hF⟩:=q00 hF
 obtain ⟨r13,h14,hF⟩:=q00 hF
 refine go ?_
 refine RS.q rfl (q0g rfl rfl (q0b cS und80 (q04 inf9) q1b h12 rfl)) (RS.q rfl (q0e und9 rfl rfl rfl) (RS.cl rfl (pC (q56 n p1 x11 r13 h14) _) fn148 ?_))
 refine gn ?_
 refine qxf (fun tm σ=>∃ l16:List (List UInt8),q48 z8 (q2c p1 p2 n m1) l16=some r∧tm=fr 27 [(0,.iM q01 p1),(1,.iM cS p2),(5,.iM cS l16),(6,.i6 z8)]∧σ=⟨[],0⟩) ?_ ?_
 rintro _ _ ⟨l16,hF,rfl,rfl⟩
 unfold q48 at hF
 refine go ?_
 exact lC ⟨l16,(IntKind.i64.wrap (z8+1)),hF,rfl,rfl⟩
 refine cF hF (fun h15 hF=>?_) (fun h15 hF=>?_)
 obtain ⟨x17,h18,hF⟩:=q00 hF
 obtain ⟨r19,h20,hF⟩:=q00 hF
 refine go ?_
 refine RS.q rfl (q0g rfl rfl (q0b cS und80 (q04 inf9) q1b h18 rfl)) (RS.q rfl (q0e und9 rfl rfl rfl) (RS.cl rfl (pC (q67 n l7 x17 r19 h20) _) fn116 ?_))
 refine go ?_
 exact xC ⟨r19,hF,rfl,rfl⟩
 refine go ?_
 exact xC ⟨l7,hF,rfl,rfl⟩
 refine go ?_
 exact xC ⟨l7,hF,rfl,rfl⟩
def q9v  (l21:List (List UInt8)):Option ((List (List UInt8))) :=
 some l21
def q6m (n:Nat) (l13:List (List UInt8)):Nat→(List (List UInt8))→Int→Option ((List (List UInt8)))
 | 0,_,_=>none
 | m2+1,l19,z20 =>
  cond (decide (z20<(l13.length:Int)))
   (q03 (q13 l13 z20) fun x23 =>
   q03 (q78 n l19 x23) fun r25 =>
   (q6m n l13 m2) r25 (IntKind.i64.wrap (z20+1)))
   (q9v l19)
def q6l (z40:Int) (rc3:Int→(List (List UInt8))→Option ((List (List UInt8)))) (l51:List (List UInt8)):Option ((List (List UInt8))) :=
 rc3 (IntKind.i64.wrap (z40+1)) l51
def q9w (z10:Int) (rc1:Int→(List (List UInt8))→Option ((List (List UInt8)))) (l43:List (List UInt8)):Option ((List (List UInt8))) :=
 rc1 (IntKind.i64.wrap (z10+1)) l43
def q3i (n:Nat) (z10:Int) (rc1:Int→(List (List UInt8))→Option ((List (List UInt8)))) (x32:q05):Nat→Int→(List (List UInt8))→Option ((List (List UInt8)))
 | 0,_,_=>none
 | m3+1,z40,l41 =>
  cond (decide (z40<(x32.Supers.length:Int)))
   (q03 (q13 x32.Supers z40) fun x46 =>
   q03 (q2e n l41 x46) fun r48 =>
   cond (!r48)
    (q03 (q13 x32.Supers z40) fun x53 =>
    q16 ((l41.length+1)*16≤140737488355328∧l41.length+1≤140737488355328) (
    q6l z40 (q3i n z10 rc1 x32 m3) (l41++[x53])))
    (q6l z40 (q3i n z10 rc1 x32 m3) l41))
   (q9w z10 rc1 l41)
def q9u (n:Nat) (l13:List (List UInt8)):Option ((List (List UInt8))) :=
 q6m n l13 n [] 0
def q2u (p1:List q05) (n:Nat):Nat→Int→(List (List UInt8))→Option ((List (List UInt8)))
 | 0,_,_=>none
 | m1+1,z10,l11 =>
  cond (decide (z10<(l11.length:Int)))
   (q03 (q13 l11 z10) fun x28 =>
   q03 (q55 n p1 x28) fun r30 =>
   q03 (q13 p1 r30) fun x32 =>
   q3i n z10 (q2u p1 n m1) x32 n 0 l11)
   (q9u n l11)
def qen (n:Nat) (p1:List q05) (p2:List UInt8):Option ((List (List UInt8))) :=
 q03 (q55 n p1 p2) fun r3 =>
 cond (decide (r3<0))
  (some [])
  (q2u p1 n n 0 ([p2]))
theorem qm8 (n:Nat) (p1:List q05) (p2:List UInt8) (r:(List (List UInt8))) (hF:qen n p1 p2=some r):EvU Tryz.prog 151 [.isl false (List.map q01 p1),.str p2] ⟨[],0⟩ (fun u _=>u = .isl false (List.map cS r)∧Bel 0 u):=by
 unfold qen at hF
 refine bg2 66 fn151 ?_
 obtain ⟨r3,h4,hF⟩:=q00 hF
 refine go ?_
 refine RS.cl rfl (pC (q56 n p1 p2 r3 h4) _) fn148 ?_
 refine go ?_
 refine cF hF (fun h5 hF=>?_) (fun h5 hF=>?_)
 refine go ?_
 obtain rfl:=sI hF
 exact rT (us:=[.nils]) (u:=.isl false []) (q2j rfl (q33)) wR
 refine go ?_
 refine qxq (u:=.vl 0 0 0 ([p2].length)) (σ':=⟨[(0,.vec (List.map cS ([p2])).flatten 9 1 0)],1⟩) rfl (qc9.bslv (cs:=(List.map cS [p2]).flatten) Tryz.tb_ok rfl und80 inf9 rfl rfl rfl rfl rfl rfl rfl rfl) rfl rfl ?_
 refine go ?_
 refine gS (l':=[(0,_),(5,_),(6,_)]) ?_
 refine qxe (fun m tm σ=>∃ z10:Int,∃ l11:List (List UInt8),∃ t12:Nat,q2u p1 n m z10 l11=some r∧tm=fr 66 [(0,.iM q01 p1),(5,.vl 0 t12 0 l11.length),(6,.i6 z10)]∧σ=⟨[(0,.vec (List.map cS l11).flatten 9 1 t12)],1⟩) (fun tm σ=>∃ l13:List (List UInt8),∃ t14:Nat,q9u n l13=some r∧tm=fr 66 [(5,.vl 0 t14 0 l13.length)]∧σ=⟨[(0,.vec (List.map cS l13).flatten 9 1 t14)],1⟩) n ⟨0,[p2],0,hF,rfl,rfl⟩ ?_ ?_
 rintro _ _ ⟨l13,t14,hF,rfl,rfl⟩
 unfold q9u at hF
 refine gr ?_
 refine gr ?_
 refine WPU.ghost (tm':=fr 66 [(5,.vl 0 t14 0 l13.length),(9,.iM cS []),(10,.i6 0)]) (Gh.trans (Gh.sub (l':=[(5,.vl 0 t14 0 l13.length),(9,.nils),(10,.i6 0)]) ⟨rfl,rfl,rfl,trivial⟩) (Gh.wkS (l':=[(5,.vl 0 t14 0 l13.length),(9,.iM cS []),(10,.i6 0)]) (.cons (.refl _) (.cons (.nil false) (.cons (.refl _) .nil))))) NZ ?_
 refine gS (l':=[(5,_),(9,_),(10,_)]) ?_
 refine qxe (fun m tm σ=>∃ l19:List (List UInt8),∃ z20:Int,q6m n l13 m l19 z20=some r∧tm=fr 66 [(5,.vl 0 t14 0 l13.length),(9,.iM cS l19),(10,.i6 z20)]∧σ=⟨[(0,.vec (List.map cS l13).flatten 9 1 t14)],1⟩) (fun tm σ=>∃ l21:List (List UInt8),q9v l21=some r∧tm=fr 66 [(9,.iM cS l21)]∧σ=⟨[(0,.vec (List.map cS l13).flatten 9 1 t14)],1⟩) n ⟨[],0,hF,rfl,rfl⟩ ?_ ?_
 rintro _ _ ⟨l21,hF,rfl,rfl⟩
 unfold q9v at hF
 exact gx hF
 rintro (_|m2) _ _ ⟨l19,z20,hF,rfl,rfl⟩
 cases hF
 unfold q6m at hF
 refine go ?_
 refine RS.q rfl (q0c rfl rfl rfl (qe3 und80 rfl)) ?_
 refine go ?_
 refine cF hF (fun h22 hF=>?_) (fun h22 hF=>?_)
 refine go ?_
 refine WPU.block ?_
 obtain ⟨x23,h24,hF⟩:=q00 hF
 obtain ⟨r25,h26,hF⟩:=q00 hF
 refine go ?_
 refine RS.q rfl (q0g rfl rfl (qhy cS und80 (q04 inf9) (by decide) q1b (vo rfl) h24)) ?_
 refine RS.q rfl (q8l cS (fun x=>.str x) und9 rfl (fun _=>rfl) rfl rfl h24) (RS.cl rfl (pC (q67 n l19 x23 r25 h26) _) fn116 ?_)
 refine go ?_
 exact lC ⟨r25,(IntKind.i64.wrap (z20+1)),hF,rfl,rfl⟩
 refine go ?_
 exact xC ⟨l19,hF,rfl,rfl⟩
 rintro (_|m1) _ _ ⟨z10,l11,t12,hF,rfl,rfl⟩
 cases hF
 unfold q2u at hF
 refine go ?_
 refine RS.q rfl (q0c rfl rfl rfl (qe3 und80 rfl)) ?_
 refine go ?_
 refine cF hF (fun h27 hF=>?_) (fun h27 hF=>?_)
 refine go ?_
 refine WPU.block ?_
 obtain ⟨x28,h29,hF⟩:=q00 hF
 obtain ⟨r30,h31,hF⟩:=q00 hF
 obtain ⟨x32,h33,hF⟩:=q00 hF
 refine go ?_
 refine RS.q rfl (q0g rfl rfl (qhy cS und80 (q04 inf9) (by decide) q1b (vo rfl) h29)) ?_
 refine RS.q rfl (q8l cS (fun x=>.str x) und9 rfl (fun _=>rfl) rfl rfl h29) (RS.cl rfl (pC (q56 n p1 x28 r30 h31) _) fn148 (RS.q rfl (q0g rfl rfl (q0b q01 und38 (q04 inf127) q0h h33 rfl)) (RS.q rfl (q1y und127 rfl (q04 inf80) rfl rfl) (RS.q rfl (q0e und80 rfl rfl rfl) ?_))))
 refine go ?_
 refine gS (l':=[(0,_),(5,_),(6,_),(7,_),(8,_)]) ?_
 refine qxe (fun m tm σ=>∃ z40:Int,∃ l41:List (List UInt8),∃ t42:Nat,q3i n z10 (q2u p1 n m1) x32 m z40 l41=some r∧tm=fr 66 [(0,.iM q01 p1),(5,.vl 0 t42 0 l41.length),(6,.i6 z10),(7,.iM cS x32.Supers),(8,.i6 z40)]∧σ=⟨[(0,.vec (List.map cS l41).flatten 9 1 t42)],1⟩) (fun tm σ=>∃ l43:List (List UInt8),∃ t44:Nat,q9w z10 (q2u p1 n m1) l43=some r∧tm=fr 66 [(0,.iM q01 p1),(5,.vl 0 t44 0 l43.length),(6,.i6 z10)]∧σ=⟨[(0,.vec (List.map cS l43).flatten 9 1 t44)],1⟩) n ⟨0,l11,t12,hF,rfl,rfl⟩ ?_ ?_
 rintro _ _ ⟨l43,t44,hF,rfl,rfl⟩
 unfold q9w at hF
 refine go ?_
 exact lC ⟨_,l43,t44,hF,rfl,rfl⟩
 rintro (_|m3) _ _ ⟨z40,l41,t42,hF,rfl,rfl⟩
 cases hF
 unfold q3i at hF
 refine go ?_
 refine RS.q rfl (q0c rfl rfl rfl (q08 cS und80)) ?_
 refine go ?_
 refine cF hF (fun h45 hF=>?_) (fun h45 hF=>?_)
 refine go ?_
 refine WPU.block ?_
 obtain ⟨x46,h47,hF⟩:=q00 hF
 obtain ⟨r48,h49,hF⟩:=q00 hF
 refine go ?_
 refine RS.q rfl (q0g rfl rfl (q0b cS und80 (q04 inf9) q1b h47 rfl)) (RS.q rfl (q0e und9 rfl rfl rfl) (RS.cl rfl (vw (q1s n l41 x46 r48 h49) (qxg 0 1)) fn126 ?_))
 refine gn ?_
 refine qxf (fun tm σ=>∃ l51:List (List UInt8),∃ t52:Nat,q6l z40 (q3i n z10 (q2u p1 n m1) x32 m3) l51=some r∧tm=fr 66 [(0,.iM q01 p1),(5,.vl 0 t52 0 l51.length),(6,.i6 z10),(7,.iM cS x32.Supers),(8,.i6 z40)]∧σ=⟨[(0,.vec (List.map cS l51).flatten 9 1 t52)],1⟩) ?_ ?_
 rintro _ _ ⟨l51,t52,hF,rfl,rfl⟩
 unfold q6l at hF
 refine go ?_
 exact lC ⟨_,l51,t52,hF,rfl,rfl⟩
 refine cF hF (fun h50 hF=>?_) (fun h50 hF=>?_)
 obtain ⟨x53,h54,hF⟩:=q00 hF
 obtain ⟨h55,hF⟩:=q0a hF
 refine go ?_
 refine RS.q rfl (q0g rfl rfl (q0b cS und80 (q04 inf9) q1b h54 rfl)) (RS.q rfl (q0e und9 rfl rfl rfl) (RS.q (u:=.sl 1 0 1 1) (σ':=⟨[(1,.row [.str x53] 9),(0,.vec (List.map cS l41).flatten 9 1 t42)],2⟩) rfl (q0i und80 inf9 rfl rfl rfl rfl rfl rfl rfl) (RS.q (u:=.vl 0 (t42+1) 0 ((l41++[x53]).length)) (σ':=⟨[(1,.row [.str x53] 9),(0,.vec (List.map cS (l41++[x53])).flatten 9 1 (t42+1))],2⟩) rfl (q1o rfl rfl rfl rfl (q20 cS ([x53]) und80 und80 inf9 rfl q1b rfl (q1k cS [x53] rfl rfl rfl rfl) h55)) ?_)))
 refine go ?_
 exact xC ⟨(l41++[x53]),(t42+1),hF,rfl,rfl⟩
 refine go ?_
 exact xC ⟨l41,t42,hF,rfl,rfl⟩
 refine go ?_
 exact xC ⟨l41,t42,hF,rfl,rfl⟩
 refine go ?_
 exact xC ⟨l11,t12,hF,rfl,rfl⟩
def q4m (z10:Int) (rc1:Int→(List (List UInt8))→Option ((List (List UInt8)))) (l32:List (List UInt8)):Option ((List (List UInt8))) :=
 rc1 (IntKind.i64.wrap (z10+1)) l32
def q7e (r3:(List (List UInt8))) (z10:Int) (l11:List (List UInt8)) (rc1:Int→(List (List UInt8))→Option ((List (List UInt8)))) (b30:Bool):Option ((List (List UInt8))) :=
 cond b30
  (q03 (q13 r3 z10) fun x34 =>
  q16 ((l11.length+1)*16≤140737488355328∧l11.length+1≤140737488355328) (
  q4m z10 rc1 (l11++[x34])))
  (q4m z10 rc1 l11)
def q4n (n:Nat) (r3:(List (List UInt8))) (z10:Int) (l11:List (List UInt8)) (rc1:Int→(List (List UInt8))→Option ((List (List UInt8)))) (r18:(List (List UInt8))):Nat→Bool→Int→Option ((List (List UInt8)))
 | 0,_,_=>none
 | m2+1,b28,z29 =>
  cond (decide (z29<(r3.length:Int)))
   (q03 (cond b28
    (cond (z29 == z10)
     (some true)
     (q03 (q13 r3 z29) fun x40 =>
     q03 (q2e n r18 x40) fun r42 =>
     some (!r42)))
    (some false)) fun b44 =>
   (q4n n r3 z10 l11 rc1 r18 m2) b44 (IntKind.i64.wrap (z29+1)))
   (q7e r3 z10 l11 rc1 b28)
def q7d  (l13:List (List UInt8)):Option ((List (List UInt8))) :=
 some l13
def q25 (p1:List q05) (n:Nat) (r3:(List (List UInt8))):Nat→Int→(List (List UInt8))→Option ((List (List UInt8)))
 | 0,_,_=>none
 | m1+1,z10,l11 =>
  cond (decide (z10<(r3.length:Int)))
   (q03 (q13 r3 z10) fun x16 =>
   q03 (qen n p1 x16) fun r18 =>
   q4n n r3 z10 l11 (q25 p1 n r3 m1) r18 n true 0)
   (q7d l11)
def q81 (n:Nat) (p1:List q05) (p2:List (List UInt8)):Option ((List (List UInt8))) :=
 q03 (qa3 n p1 p2) fun r3 =>
 q25 p1 n r3 n 0 ([]:List (List UInt8))
theorem qcs (n:Nat) (p1:List q05) (p2:List (List UInt8)) (r:(List (List UInt8))) (hF:q81 n p1 p2=some r):EvU Tryz.prog 131 [.isl false (List.map q01 p1),.isl false (List.map cS p2)] ⟨[],0⟩ (fun u _=>u = .isl false (List.map cS r)∧Bel 0 u):=by
 unfold q81 at hF
 refine bg2 56 fn131 ?_
 obtain ⟨r3,h4,hF⟩:=q00 hF
 refine go ?_
 refine RS.cl rfl (pC (qi2 n p1 p2 r3 h4) _) fn150 ?_
 refine gr ?_
 refine WPU.ghost (tm':=fr 56 [(0,.iM q01 p1),(5,.vl 0 0 0 (([]:List (List UInt8)).length)),(6,.iM cS r3),(7,.i6 0)]) (σ':=⟨[(0,.vec (List.map cS ([]:List (List UInt8))).flatten 9 1 0)],1⟩) (Gh.trans (qxl 5 9 1 (by decide) NZ rfl rfl) (qxk ⟨rfl,rfl,rfl,rfl,trivial⟩ rfl)) NZ ?_
 refine gS (l':=[(0,_),(5,_),(6,_),(7,_)]) ?_
 refine qxe (fun m tm σ=>∃ z10:Int,∃ l11:List (List UInt8),∃ t12:Nat,q25 p1 n r3 m z10 l11=some r∧tm=fr 56 [(0,.iM q01 p1),(5,.vl 0 t12 0 l11.length),(6,.iM cS r3),(7,.i6 z10)]∧σ=⟨[(0,.vec (List.map cS l11).flatten 9 1 t12)],1⟩) (fun tm σ=>∃ l13:List (List UInt8),∃ t14:Nat,q7d l13=some r∧tm=fr 56 [(5,.vl 0 t14 0 l13.length)]∧σ=⟨[(0,.vec (List.map cS l13).flatten 9 1 t14)],1⟩) n ⟨0,([]:List (List UInt8)),0,hF,rfl,rfl⟩ ?_ ?_
 rintro _ _ ⟨l13,t14,hF,rfl,rfl⟩
 unfold q7d at hF
 refine go ?_
 obtain rfl:=sI hF
 exact rT (us:=[.vl 0 t14 0 l13.length]) (u:=.iM cS l13) (q2j rfl (q33)) (fR 0 1)
 rintro (_|m1) _ _ ⟨z10,l11,t12,hF,rfl,rfl⟩
 cases hF
 unfold q25 at hF
 refine go ?_
 refine RS.q rfl (q0c rfl rfl rfl (q08 cS und80)) ?_
 refine go ?_
 refine cF hF (fun h15 hF=>?_) (fun h15 hF=>?_)
 refine go ?_
 refine WPU.block ?_
 obtain ⟨x16,h17,hF⟩:=q00 hF
 obtain ⟨r18,h19,hF⟩:=q00 hF
 refine go ?_
 refine RS.q rfl (q0g rfl rfl (q0b cS und80 (q04 inf9) q1b h17 rfl)) (RS.q rfl (q0e und9 rfl rfl rfl) (RS.cl rfl (pC (qm8 n p1 x16 r18 h19) _) fn151 ?_))
 refine go ?_
 refine gS (l':=[(0,_),(5,_),(6,_),(7,_),(8,_),(9,_),(10,_)]) ?_
 refine qxe (fun m tm σ=>∃ b28:Bool,∃ z29:Int,q4n n r3 z10 l11 (q25 p1 n r3 m1) r18 m b28 z29=some r∧tm=fr 56 [(0,.iM q01 p1),(5,.vl 0 t12 0 l11.length),(6,.iM cS r3),(7,.i6 z10),(8,.iM cS r18),(9,.bool b28),(10,.i6 z29)]∧σ=⟨[(0,.vec (List.map cS l11).flatten 9 1 t12)],1⟩) (fun tm σ=>∃ b30:Bool,q7e r3 z10 l11 (q25 p1 n r3 m1) b30=some r∧tm=fr 56 [(0,.iM q01 p1),(5,.vl 0 t12 0 l11.length),(6,.iM cS r3),(7,.i6 z10),(9,.bool b30)]∧σ=⟨[(0,.vec (List.map cS l11).flatten 9 1 t12)],1⟩) n ⟨true,0,hF,rfl,rfl⟩ ?_ ?_
 rintro _ _ ⟨b30,hF,rfl,rfl⟩
 unfold q7e at hF
 refine gr ?_
 refine qxf (fun tm σ=>∃ l32:List (List UInt8),∃ t33:Nat,q4m z10 (q25 p1 n r3 m1) l32=some r∧tm=fr 56 [(0,.iM q01 p1),(5,.vl 0 t33 0 l32.length),(6,.iM cS r3),(7,.i6 z10)]∧σ=⟨[(0,.vec (List.map cS l32).flatten 9 1 t33)],1⟩) ?_ ?_
 rintro _ _ ⟨l32,t33,hF,rfl,rfl⟩
 unfold q4m at hF
 refine go ?_
 exact lC ⟨_,l32,t33,hF,rfl,rfl⟩
 refine cF hF (fun h31 hF=>?_) (fun h31 hF=>?_)
 obtain ⟨x34,h35,hF⟩:=q00 hF
 obtain ⟨h36,hF⟩:=q0a hF
 refine go ?_
 refine RS.q rfl (q0g rfl rfl (q0b cS und80 (q04 inf9) q1b h35 rfl)) (RS.q rfl (q0e und9 rfl rfl rfl) (RS.q (u:=.sl 1 0 1 1) (σ':=⟨[(1,.row [.str x34] 9),(0,.vec (List.map cS l11).flatten 9 1 t12)],2⟩) rfl (q0i und80 inf9 rfl rfl rfl rfl rfl rfl rfl) (RS.q (u:=.vl 0 (t12+1) 0 ((l11++[x34]).length)) (σ':=⟨[(1,.row [.str x34] 9),(0,.vec (List.map cS (l11++[x34])).flatten 9 1 (t12+1))],2⟩) rfl (q1o rfl rfl rfl rfl (q20 cS ([x34]) und80 und80 inf9 rfl q1b rfl (q1k cS [x34] rfl rfl rfl rfl) h36)) ?_)))
 refine go ?_
 exact xC ⟨(l11++[x34]),(t12+1),hF,rfl,rfl⟩
 refine go ?_
 exact xC ⟨l11,t12,hF,rfl,rfl⟩
 rintro (_|m2) _ _ ⟨b28,z29,hF,rfl,rfl⟩
 cases hF
 unfold q4n at hF
 refine go ?_
 refine RS.q rfl (q0c rfl rfl rfl (q08 cS und80)) ?_
 refine go ?_
 refine cF hF (fun h37 hF=>?_) (fun h37 hF=>?_)
 refine go ?_
 refine WPU.block ?_
 obtain ⟨b44,h45,hF⟩:=q00 hF
 refine gn ?_
 refine qxf (fun tm σ=>tm=fr 56 [(0,.iM q01 p1),(5,.vl 0 t12 0 l11.length),(6,.iM cS r3),(7,.i6 z10),(8,.iM cS r18),(9,.bool b44),(10,.i6 z29)]∧σ=⟨[(0,.vec (List.map cS l11).flatten 9 1 t12)],1⟩) ?_ ?_
 rintro _ _ ⟨rfl,rfl⟩
 refine go ?_
 exact lC ⟨b44,(IntKind.i64.wrap (z29+1)),hF,rfl,rfl⟩
 rcases gB h45 with ⟨h38,h45⟩ | ⟨h38,h45⟩
 rcases gB h45 with ⟨h39,h45⟩ | ⟨h39,h45⟩
 exact gy h45
 obtain ⟨x40,h41,h45⟩:=q00 h45
 obtain ⟨r42,h43,h45⟩:=q00 h45
 obtain rfl:=sI h45
 refine go ?_
 refine RS.w rfl (q0g rfl rfl (q0b cS und80 (q04 inf9) q1b h41 rfl)) (RS.w rfl (q0e und9 rfl rfl rfl) (RS.cl rfl (pC (q1s n r18 x40 r42 h43) _) fn126 ?_))
 refine go ?_
 exact xC ⟨rfl,rfl⟩
 obtain rfl:=sI h45
 refine go ?_
 repeat refine RS.no (qku rfl rfl rfl) rfl rfl ?_
 refine go ?_
 exact xC ⟨rfl,rfl⟩
 refine go ?_
 exact xC ⟨b28,hF,rfl,rfl⟩
 refine go ?_
 exact xC ⟨l11,t12,hF,rfl,rfl⟩
def q86 (r17:(List (List UInt8))) (z23:Int) (rc2:(List UInt8)→Int→Option ((List UInt8))) (s27:List UInt8):Option ((List UInt8)) :=
 q03 (q13 r17 z23) fun x28 =>
 q16 (s27.length+x28.length≤9223372036854775807) (
 rc2 (s27++x28) (IntKind.i64.wrap (z23+1)))
def qbs  (s24:List UInt8):Option ((List UInt8)) :=
 some s24
def q4b (r17:(List (List UInt8))):Nat→(List UInt8)→Int→Option ((List UInt8))
 | 0,_,_=>none
 | m2+1,s22,z23 =>
  cond (decide (z23<(r17.length:Int)))
   (cond (decide (z23 > 0))
    (q16 (s22.length+([38]).length≤9223372036854775807) (
    q86 r17 z23 (q4b r17 m2) (s22++[38])))
    (q86 r17 z23 (q4b r17 m2) s22))
   (qbs s22)
def q87 (z12:Int) (rc1:Int→(List (List UInt8))→Option ((List UInt8))) (l43:List (List UInt8)):Option ((List UInt8)) :=
 rc1 (IntKind.i64.wrap (z12+1)) l43
def qbr (p1:List q05) (n:Nat) (l15:List (List UInt8)):Option ((List UInt8)) :=
 q03 (q81 n p1 l15) fun r17 =>
 q4b r17 n [] 0
def q4a (p1:List q05) (p2:List (List UInt8)) (p3:List (List Int)) (p4:List Int) (n:Nat):Nat→Int→(List (List UInt8))→Option ((List UInt8))
 | 0,_,_=>none
 | m1+1,z12,l13 =>
  cond (decide (z12<(p2.length:Int)))
   (q03 (q13 p3 z12) fun x33 =>
   q03 (qek n x33 p4) fun r35 =>
   cond r35
    (q03 (q13 p2 z12) fun x38 =>
    some x38)
    (q03 (qfw n p4 z12) fun r40 =>
    cond r40
     (q03 (q13 p2 z12) fun x45 =>
     q16 ((l13.length+1)*16≤140737488355328∧l13.length+1≤140737488355328) (
     q87 z12 (q4a p1 p2 p3 p4 n m1) (l13++[x45])))
     (q87 z12 (q4a p1 p2 p3 p4 n m1) l13)))
   (qbr p1 n l13)
def qh7 (n:Nat) (p1:List q05) (p2:List (List UInt8)) (p3:List (List Int)) (p4:List Int):Option ((List UInt8)) :=
 q4a p1 p2 p3 p4 n n 0 ([]:List (List UInt8))
theorem qo0 (n:Nat) (p1:List q05) (p2:List (List UInt8)) (p3:List (List Int)) (p4:List Int) (r:(List UInt8)) (hF:qh7 n p1 p2 p3 p4=some r):EvU Tryz.prog 98 [.isl false (List.map q01 p1),.isl false (List.map cS p2),.isl false (List.map (cL (cI .u64)) p3),.isl false (List.map (cI .u64) p4)] ⟨[],0⟩ (fun u _=>u = .str r∧Bel 0 u):=by
 unfold qh7 at hF
 refine bg4 59 fn98 ?_
 refine gr ?_
 refine gr ?_
 refine gr ?_
 refine WPU.ghost (tm':=fr 59 [(0,.iM q01 p1),(1,.iM cS p2),(2,.iM (cL (cI .u64)) p3),(3,.iM (cI .u64) p4),(9,.vl 0 0 0 (([]:List (List UInt8)).length)),(10,.i6 0)]) (σ':=⟨[(0,.vec (List.map cS ([]:List (List UInt8))).flatten 9 1 0)],1⟩) (Gh.trans (qxl 9 9 1 (by decide) NZ rfl rfl) (qxk ⟨rfl,rfl,rfl,rfl,rfl,rfl,trivial⟩ rfl)) NZ ?_
 refine gS (l':=[(0,_),(1,_),(2,_),(3,_),(9,_),(10,_)]) ?_
 refine qxe (fun m tm σ=>∃ z12:Int,∃ l13:List (List UInt8),∃ t14:Nat,q4a p1 p2 p3 p4 n m z12 l13=some r∧tm=fr 59 [(0,.iM q01 p1),(1,.iM cS p2),(2,.iM (cL (cI .u64)) p3),(3,.iM (cI .u64) p4),(9,.vl 0 t14 0 l13.length),(10,.i6 z12)]∧σ=⟨[(0,.vec (List.map cS l13).flatten 9 1 t14)],1⟩) (fun tm σ=>∃ l15:List (List UInt8),∃ t16:Nat,qbr p1 n l15=some r∧tm=fr 59 [(0,.iM q01 p1),(9,.vl 0 t16 0 l15.length)]∧σ=⟨[(0,.vec (List.map cS l15).flatten 9 1 t16)],1⟩) n ⟨0,([]:List (List UInt8)),0,hF,rfl,rfl⟩ ?_ ?_
 rintro _ _ ⟨l15,t16,hF,rfl,rfl⟩
 unfold qbr at hF
 refine gn ?_
 refine WPU.ghost (tm':=fr 59 [(0,.iM q01 p1),(9,.iM cS l15)]) (σ':=⟨[],1⟩) (Gh.trans (Gh.sub (l':=[(0,.iM q01 p1),(9,.vl 0 t16 0 l15.length)]) ⟨rfl,rfl,trivial⟩) (qxt 0 1)) NZ ?_
 obtain ⟨r17,h18,hF⟩:=q00 hF
 refine go ?_
 refine RS.cl rfl (pC (qcs n p1 l15 r17 h18) _) fn131 ?_
 refine go ?_
 refine gS (l':=[(9,_),(11,_),(12,_)]) ?_
 refine qxe (fun m tm σ=>∃ s22:List UInt8,∃ z23:Int,q4b r17 m s22 z23=some r∧tm=fr 59 [(9,.iM cS r17),(11,.str s22),(12,.i6 z23)]∧σ=⟨[],1⟩) (fun tm σ=>∃ s24:List UInt8,qbs s24=some r∧tm=fr 59 [(11,.str s24)]∧σ=⟨[],1⟩) n ⟨[],0,hF,rfl,rfl⟩ ?_ ?_
 rintro _ _ ⟨s24,hF,rfl,rfl⟩
 unfold qbs at hF
 exact gx hF
 rintro (_|m2) _ _ ⟨s22,z23,hF,rfl,rfl⟩
 cases hF
 unfold q4b at hF
 refine go ?_
 refine RS.q rfl (q0c rfl rfl rfl (q08 cS und80)) ?_
 refine go ?_
 refine cF hF (fun h25 hF=>?_) (fun h25 hF=>?_)
 refine go ?_
 refine WPU.block ?_
 refine gr ?_
 refine qxf (fun tm σ=>∃ s27:List UInt8,q86 r17 z23 (q4b r17 m2) s27=some r∧tm=fr 59 [(9,.iM cS r17),(11,.str s27),(12,.i6 z23)]∧σ=⟨[],1⟩) ?_ ?_
 rintro _ _ ⟨s27,hF,rfl,rfl⟩
 unfold q86 at hF
 obtain ⟨x28,h29,hF⟩:=q00 hF
 obtain ⟨h30,hF⟩:=q0a hF
 refine go ?_
 refine RS.q rfl (q0g rfl rfl (q0b cS und80 (q04 inf9) q1b h29 rfl)) (RS.q rfl (q0e und9 rfl rfl rfl) (RS.q (u:=.str (s27++x28)) rfl (q50 rfl rfl (qli h30) rfl) ?_))
 refine go ?_
 exact lC ⟨(s27++x28),(IntKind.i64.wrap (z23+1)),hF,rfl,rfl⟩
 refine cF hF (fun h26 hF=>?_) (fun h26 hF=>?_)
 obtain ⟨h31,hF⟩:=q0a hF
 refine go ?_
 refine RS.q (u:=.str (s22++[38])) rfl (q50 rfl rfl (qli h31) rfl) ?_
 refine go ?_
 exact xC ⟨(s22++[38]),hF,rfl,rfl⟩
 refine go ?_
 exact xC ⟨s22,hF,rfl,rfl⟩
 refine go ?_
 exact xC ⟨s22,hF,rfl,rfl⟩
 rintro (_|m1) _ _ ⟨z12,l13,t14,hF,rfl,rfl⟩
 cases hF
 unfold q4a at hF
 refine go ?_
 refine RS.q rfl (q0c rfl rfl rfl (q08 cS und80)) ?_
 refine go ?_
 refine cF hF (fun h32 hF=>?_) (fun h32 hF=>?_)
 refine go ?_
 refine WPU.block ?_
 obtain ⟨x33,h34,hF⟩:=q00 hF
 obtain ⟨r35,h36,hF⟩:=q00 hF
 refine go ?_
 refine RS.q rfl (q0g rfl rfl (q0b (cL (cI .u64)) und148 (q04 inf103) (q3c (cI .u64)) h34 rfl)) (RS.q rfl (q0e und103 rfl rfl rfl) ?_)
 refine go ?_
 refine RS.cl rfl (pC (qm5 n x33 p4 r35 h36) _) fn129 ?_
 refine go ?_
 refine cF hF (fun h37 hF=>?_) (fun h37 hF=>?_)
 obtain ⟨x38,h39,hF⟩:=q00 hF
 refine go ?_
 refine RS.q rfl (q0g rfl rfl (q0b cS und80 (q04 inf9) q1b h39 rfl)) (RS.q rfl (q0e und9 rfl rfl rfl) ?_)
 exact gx hF
 obtain ⟨r40,h41,hF⟩:=q00 hF
 refine go ?_
 refine RS.cl rfl (pC (qjs n p4 z12 r40 h41) _) fn130 ?_
 refine gn ?_
 refine qxf (fun tm σ=>∃ l43:List (List UInt8),∃ t44:Nat,q87 z12 (q4a p1 p2 p3 p4 n m1) l43=some r∧tm=fr 59 [(0,.iM q01 p1),(1,.iM cS p2),(2,.iM (cL (cI .u64)) p3),(3,.iM (cI .u64) p4),(9,.vl 0 t44 0 l43.length),(10,.i6 z12)]∧σ=⟨[(0,.vec (List.map cS l43).flatten 9 1 t44)],1⟩) ?_ ?_
 rintro _ _ ⟨l43,t44,hF,rfl,rfl⟩
 unfold q87 at hF
 refine go ?_
 exact lC ⟨_,l43,t44,hF,rfl,rfl⟩
 refine cF hF (fun h42 hF=>?_) (fun h42 hF=>?_)
 obtain ⟨x45,h46,hF⟩:=q00 hF
 obtain ⟨h47,hF⟩:=q0a hF
 refine go ?_
 refine RS.q rfl (q0g rfl rfl (q0b cS und80 (q04 inf9) q1b h46 rfl)) (RS.q rfl (q0e und9 rfl rfl rfl) (RS.q (u:=.sl 1 0 1 1) (σ':=⟨[(1,.row [.str x45] 9),(0,.vec (List.map cS l13).flatten 9 1 t14)],2⟩) rfl (q0i und80 inf9 rfl rfl rfl rfl rfl rfl rfl) (RS.q (u:=.vl 0 (t14+1) 0 ((l13++[x45]).length)) (σ':=⟨[(1,.row [.str x45] 9),(0,.vec (List.map cS (l13++[x45])).flatten 9 1 (t14+1))],2⟩) rfl (q1o rfl rfl rfl rfl (q20 cS ([x45]) und80 und80 inf9 rfl q1b rfl (q1k cS [x45] rfl rfl rfl rfl) h47)) ?_)))
 refine go ?_
 exact xC ⟨(l13++[x45]),(t14+1),hF,rfl,rfl⟩
 refine go ?_
 exact xC ⟨l13,t14,hF,rfl,rfl⟩
 refine go ?_
 exact xC ⟨l13,t14,hF,rfl,rfl⟩
def q7z (z6:Int) (rc1:Int→(List Int)→Option ((List Int))) (l15:List Int):Option ((List Int)) :=
 rc1 (IntKind.i64.wrap (z6+1)) l15
def qbj  (l9:List Int):Option ((List Int)) :=
 some l9
def q46 (p1:List Int) (n:Nat):Nat→Int→(List Int)→Option ((List Int))
 | 0,_,_=>none
 | m1+1,z6,l7 =>
  cond (decide (z6<(IntKind.i64.wrap (64*(p1.length:Int)))))
   (q03 (qfw n p1 z6) fun r12 =>
   cond r12
    (q16 ((l7.length+1)*8≤140737488355328∧l7.length+1≤140737488355328) (
    q7z z6 (q46 p1 n m1) (l7++[z6])))
    (q7z z6 (q46 p1 n m1) l7))
   (qbj l7)
def qh4 (n:Nat) (p1:List Int):Option ((List Int)) :=
 q46 p1 n n 0 ([]:List Int)
theorem qnx (n:Nat) (p1:List Int) (r:(List Int)) (hF:qh4 n p1=some r):EvU Tryz.prog 152 [.isl false (List.map (cI .u64) p1)] ⟨[],0⟩ (fun u _=>u = .isl false (List.map (cI .i64) r)∧Bel 0 u):=by
 unfold qh4 at hF
 refine bg1 20 fn152 ?_
 refine gr ?_
 refine gr ?_
 refine gr ?_
 refine WPU.ghost (tm':=fr 20 [(0,.iM (cI .u64) p1),(3,.vl 0 0 0 (([]:List Int).length)),(4,.i6 0)]) (σ':=⟨[(0,.vec (List.map (cI .i64) ([]:List Int)).flatten 3 1 0)],1⟩) (Gh.trans (qxl 3 3 1 (by decide) NZ rfl rfl) (qxk ⟨rfl,rfl,rfl,trivial⟩ rfl)) NZ ?_
 refine gS (l':=[(0,_),(3,_),(4,_)]) ?_
 refine qxe (fun m tm σ=>∃ z6:Int,∃ l7:List Int,∃ t8:Nat,q46 p1 n m z6 l7=some r∧tm=fr 20 [(0,.iM (cI .u64) p1),(3,.vl 0 t8 0 l7.length),(4,.i6 z6)]∧σ=⟨[(0,.vec (List.map (cI .i64) l7).flatten 3 1 t8)],1⟩) (fun tm σ=>∃ l9:List Int,∃ t10:Nat,qbj l9=some r∧tm=fr 20 [(3,.vl 0 t10 0 l9.length)]∧σ=⟨[(0,.vec (List.map (cI .i64) l9).flatten 3 1 t10)],1⟩) n ⟨0,([]:List Int),0,hF,rfl,rfl⟩ ?_ ?_
 rintro _ _ ⟨l9,t10,hF,rfl,rfl⟩
 unfold qbj at hF
 refine go ?_
 obtain rfl:=sI hF
 exact rT (us:=[.vl 0 t10 0 l9.length]) (u:=.iM (cI .i64) l9) (q2j rfl (q33)) (fR 0 1)
 rintro (_|m1) _ _ ⟨z6,l7,t8,hF,rfl,rfl⟩
 cases hF
 unfold q46 at hF
 refine go ?_
 refine RS.q rfl (q0c rfl rfl rfl (q08 (cI .u64) und103)) ?_
 refine go ?_
 refine cF hF (fun h11 hF=>?_) (fun h11 hF=>?_)
 refine go ?_
 refine WPU.block ?_
 obtain ⟨r12,h13,hF⟩:=q00 hF
 refine go ?_
 refine RS.cl rfl (pC (qjs n p1 z6 r12 h13) _) fn130 ?_
 refine gn ?_
 refine qxf (fun tm σ=>∃ l15:List Int,∃ t16:Nat,q7z z6 (q46 p1 n m1) l15=some r∧tm=fr 20 [(0,.iM (cI .u64) p1),(3,.vl 0 t16 0 l15.length),(4,.i6 z6)]∧σ=⟨[(0,.vec (List.map (cI .i64) l15).flatten 3 1 t16)],1⟩) ?_ ?_
 rintro _ _ ⟨l15,t16,hF,rfl,rfl⟩
 unfold q7z at hF
 refine go ?_
 exact lC ⟨_,l15,t16,hF,rfl,rfl⟩
 refine cF hF (fun h14 hF=>?_) (fun h14 hF=>?_)
 obtain ⟨h17,hF⟩:=q0a hF
 refine go ?_
 refine RS.q (u:=.sl 1 0 1 1) (σ':=⟨[(1,.row [.i6 z6] 3),(0,.vec (List.map (cI .i64) l7).flatten 3 1 t8)],2⟩) rfl (q0i und33 inf3 rfl rfl rfl rfl rfl rfl rfl) (RS.q (u:=.vl 0 (t8+1) 0 ((l7++[z6]).length)) (σ':=⟨[(1,.row [.i6 z6] 3),(0,.vec (List.map (cI .i64) (l7++[z6])).flatten 3 1 (t8+1))],2⟩) rfl (q1o rfl rfl rfl rfl (q20 (cI .i64) ([z6]) und33 und33 inf3 rfl (q19 .i64) rfl (q1k (cI .i64) [z6] rfl rfl rfl rfl) h17)) ?_)
 refine go ?_
 exact xC ⟨(l7++[z6]),(t8+1),hF,rfl,rfl⟩
 refine go ?_
 exact xC ⟨l7,t8,hF,rfl,rfl⟩
 refine go ?_
 exact xC ⟨l7,t8,hF,rfl,rfl⟩
def qbi (n:Nat) (p1:List Int):Option (Int) :=
 q03 (qh4 n p1) fun r2 =>
 some (r2.length:Int)
theorem qfv (n:Nat) (p1:List Int) (r:Int) (hF:qbi n p1=some r):EvU Tryz.prog 132 [.isl false (List.map (cI .u64) p1)] ⟨[],0⟩ (fun u _=>u = .int .i64 r∧Bel 0 u):=by
 unfold qbi at hF
 refine bg1 6 fn132 ?_
 obtain ⟨r2,h3,hF⟩:=q00 hF
 refine go ?_
 refine RS.cl rfl (pC (qnx n p1 r2 h3) _) fn152 (RS.q rfl (q0c rfl rfl rfl (q08 (cI .i64) und33)) ?_)
 exact gx hF
def qcx (n:Nat) (p1:q0s) (p2:q0s):Option (Bool) :=
 q03 (qbi n p1.Code) fun r3 =>
 q03 (qbi n p2.Code) fun r5 =>
 q03 (cond (decide (r3 > r5))
  (some true)
  (cond (r3 == r5)
   (some (q4t p1.Name p2.Name))
   (some false))) fun b9 =>
 some b9
theorem qko (n:Nat) (p1:q0s) (p2:q0s) (r:Bool) (hF:qcx n p1 p2=some r):EvU Tryz.prog 99 [.agg (q0f p1),.agg (q0f p2)] ⟨[],0⟩ (fun u _=>u = .bool r∧Bel 0 u):=by
 unfold qcx at hF
 refine bg2 28 fn99 ?_
 refine go ?_
 refine RS.q (u:=.ptr 0 0 0) (σ':=⟨[(0,.row (q0f p1) 105)],1⟩) rfl (q5i rfl rfl rfl) (RS.q (u:=.ptr 1 0 0) (σ':=⟨[(1,.row (q0f p2) 105),(0,.row (q0f p1) 105)],2⟩) rfl (q5i rfl rfl rfl) ?_)
 obtain ⟨r3,h4,hF⟩:=q00 hF
 refine go ?_
 refine RS.q rfl (q1t und105 rfl (q04 inf103) rfl rfl rfl) (RS.q rfl (q18 und103 rfl rfl rfl rfl) (RS.cl rfl (pC (qfv n p1.Code r3 h4) _) fn132 ?_))
 obtain ⟨r5,h6,hF⟩:=q00 hF
 refine go ?_
 refine RS.q rfl (q1t und105 rfl (q04 inf103) rfl rfl rfl) (RS.q rfl (q18 und103 rfl rfl rfl rfl) (RS.cl rfl (pC (qfv n p2.Code r5 h6) _) fn132 ?_))
 obtain ⟨b9,h10,hF⟩:=q00 hF
 refine gn ?_
 refine qxf (fun tm σ=>tm=fr 28 [(4,.bool b9)]∧σ=⟨[(1,.row (q0f p2) 105),(0,.row (q0f p1) 105)],2⟩) ?_ ?_
 rintro _ _ ⟨rfl,rfl⟩
 exact gx hF
 rcases gB h10 with ⟨h7,h10⟩ | ⟨h7,h10⟩
 obtain rfl:=sI h10
 refine go ?_
 repeat refine RS.no (qku rfl rfl rfl) rfl rfl ?_
 refine go ?_
 exact xC ⟨rfl,rfl⟩
 rcases gB h10 with ⟨h8,h10⟩ | ⟨h8,h10⟩
 obtain rfl:=sI h10
 refine go ?_
 refine RS.w rfl (q1t und105 rfl (q04 inf9) rfl rfl rfl) (RS.w rfl (q18 und9 rfl rfl rfl rfl) (RS.w rfl (q1t und105 rfl (q04 inf9) rfl rfl rfl) (RS.w rfl (q18 und9 rfl rfl rfl rfl) (RS.w (u:=.bool (q4t p1.Name p2.Name)) rfl (q50 rfl rfl rfl rfl) ?_))))
 refine go ?_
 exact xC ⟨rfl,rfl⟩
 exact gy h10
def qa9 (z27:Int) (l28:List q0s) (rc2:Int→(List q0s)→Option ((List q0s)×Int)) (r35:(List UInt8)) (x37:List Int) (z50:Int):Option ((List q0s)×Int) :=
 q16 ((0:Int)≤z50∧z50≤((l28.length:Nat):Int)) (
 q16 (0+z50.toNat≤l28.length) (
 q16 (((l28.drop 0).take z50.toNat).length*40≤140737488355328∧((l28.drop 0).take z50.toNat).length≤140737488355328) (
 q16 ((((l28.drop 0).take z50.toNat).length+1)*40≤140737488355328∧((l28.drop 0).take z50.toNat).length+1≤140737488355328) (
 q16 ((0:Int)≤z50∧z50≤((l28.length:Nat):Int)) (
 q16 ((0+z50.toNat)+(l28.length - z50.toNat)≤l28.length) (
 q16 (((((l28.drop 0).take z50.toNat)++[(q0s.mk r35 x37)]).length+((l28.drop (0+z50.toNat)).take (l28.length - z50.toNat)).length)*40≤140737488355328∧(((l28.drop 0).take z50.toNat)++[(q0s.mk r35 x37)]).length+((l28.drop (0+z50.toNat)).take (l28.length - z50.toNat)).length≤140737488355328) (
 rc2 (IntKind.i64.wrap (z27+1)) ((((l28.drop 0).take z50.toNat)++[(q0s.mk r35 x37)])++((l28.drop (0+z50.toNat)).take (l28.length - z50.toNat))))))))))
def q6w (n:Nat) (z27:Int) (l28:List q0s) (rc2:Int→(List q0s)→Option ((List q0s)×Int)) (r35:(List UInt8)) (x37:List Int):Nat→Int→Option ((List q0s)×Int)
 | 0,_=>none
 | m3+1,z49 =>
  q03 (cond (decide (z49 > 0))
   (q03 (q13 l28 (IntKind.i64.wrap (z49 - 1))) fun x59 =>
   q03 (qcx n (q0s.mk r35 x37) x59) fun r61 =>
   some r61)
   (some false)) fun b63 =>
  cond b63
   ((q6w n z27 l28 rc2 r35 x37 m3) (IntKind.i64.wrap (z49 - 1)))
   (qa9 z27 l28 rc2 r35 x37 z49)
def qa8  (l30:List q0s):Option ((List q0s)×Int) :=
 some (l30,0)
def q3l (p1:List q05) (n:Nat) (r5:(List (List UInt8))) (l15:List (List Int)) (r17:(List (List Int))):Nat→Int→(List q0s)→Option ((List q0s)×Int)
 | 0,_,_=>none
 | m2+1,z27,l28 =>
  cond (decide (z27<(r17.length:Int)))
   (q03 (q13 r17 z27) fun x33 =>
   q03 (qh7 n p1 r5 l15 x33) fun r35 =>
   q03 (q13 r17 z27) fun x37 =>
   q6w n z27 l28 (q3l p1 n r5 l15 r17 m2) r35 x37 n (l28.length:Int))
   (qa8 l28)
def qa7 (p1:List q05) (n:Nat) (r5:(List (List UInt8))) (l15:List (List Int)):Option ((List q0s)×Int) :=
 q03 (qcy n l15) fun r17 =>
 cond (decide ((r17.length:Int) > 256))
  (some ([],7))
  (q3l p1 n r5 l15 r17 n 0 ([]:List q0s))
def q6v (p1:List q05) (n:Nat) (r5:(List (List UInt8))):Nat→Int→(List (List Int))→Option ((List q0s)×Int)
 | 0,_,_=>none
 | m1+1,z12,l13 =>
  cond (decide (z12<(r5.length:Int)))
   (q03 (q13 r5 z12) fun x67 =>
   q03 (qh6 n p1 r5 x67) fun r69 =>
   q16 ((l13.length+1)*24≤140737488355328∧l13.length+1≤140737488355328) (
   (q6v p1 n r5 m1) (IntKind.i64.wrap (z12+1)) (l13++[r69])))
   (qa7 p1 n r5 l13)
def q69 (n:Nat) (p1:List q05):Option ((List q0s)×Int) :=
 q03 (qep n p1) fun r2 =>
 cond (r2 != 0)
  (some ([],r2))
  (q03 (qbm n p1) fun r5 =>
  q6v p1 n r5 n 0 ([]:List (List Int)))
theorem q83 (n:Nat) (p1:List q05) (r:(List q0s)×Int) (hF:q69 n p1=some r):EvU Tryz.prog 72 [.isl false (List.map q01 p1)] ⟨[],0⟩ (fun u _=>u = .tup [.isl false (List.map q0f r.1),.int .i64 r.2]∧Bel 0 u):=by
 unfold q69 at hF
 refine bg1 92 fn72 ?_
 obtain ⟨r2,h3,hF⟩:=q00 hF
 refine go ?_
 refine RS.cl rfl (pC (qma n p1 r2 h3) _) fn94 ?_
 refine go ?_
 refine cF hF (fun h4 hF=>?_) (fun h4 hF=>?_)
 refine go ?_
 obtain rfl:=sI hF
 exact rT (us:=[.nils,.i6 r2]) (u:=.tup [.isl false [],.i6 r2]) (q2j rfl (q2j rfl (q33))) wR
 obtain ⟨r5,h6,hF⟩:=q00 hF
 refine go ?_
 refine RS.cl rfl (pC (qfx n p1 r5 h6) _) fn95 ?_
 refine gr ?_
 refine gr ?_
 refine WPU.ghost (tm':=fr 92 [(0,.iM q01 p1),(5,.iM cS r5),(6,.vl 0 0 0 (([]:List (List Int)).length)),(7,.i6 0)]) (σ':=⟨[(0,.vec (List.map (cL (cI .u64)) ([]:List (List Int))).flatten 103 1 0)],1⟩) (Gh.trans (qxl 6 103 1 (by decide) NZ rfl rfl) (qxk ⟨rfl,rfl,rfl,rfl,trivial⟩ rfl)) NZ ?_
 refine gS (l':=[(0,_),(5,_),(6,_),(7,_)]) ?_
 refine qxe (fun m tm σ=>∃ z12:Int,∃ l13:List (List Int),∃ t14:Nat,q6v p1 n r5 m z12 l13=some r∧tm=fr 92 [(0,.iM q01 p1),(5,.iM cS r5),(6,.vl 0 t14 0 l13.length),(7,.i6 z12)]∧σ=⟨[(0,.vec (List.map (cL (cI .u64)) l13).flatten 103 1 t14)],1⟩) (fun tm σ=>∃ l15:List (List Int),∃ t16:Nat,qa7 p1 n r5 l15=some r∧tm=fr 92 [(0,.iM q01 p1),(5,.iM cS r5),(6,.vl 0 t16 0 l15.length)]∧σ=⟨[(0,.vec (List.map (cL (cI .u64)) l15).flatten 103 1 t16)],1⟩) n ⟨0,([]:List (List Int)),0,hF,rfl,rfl⟩ ?_ ?_
 rintro _ _ ⟨l15,t16,hF,rfl,rfl⟩
 unfold qa7 at hF
 refine gn ?_
 refine WPU.ghost (tm':=fr 92 [(0,.iM q01 p1),(5,.iM cS r5),(6,.iM (cL (cI .u64)) l15)]) (σ':=⟨[],1⟩) (Gh.trans (Gh.sub (l':=[(0,.iM q01 p1),(5,.iM cS r5),(6,.vl 0 t16 0 l15.length)]) ⟨rfl,rfl,rfl,trivial⟩) (qxt 0 1)) NZ ?_
 obtain ⟨r17,h18,hF⟩:=q00 hF
 refine go ?_
 refine RS.cl rfl (pC (qkp n l15 r17 h18) _) fn97 ?_
 refine go ?_
 refine RS.q rfl (q0c rfl rfl rfl (q08 (cL (cI .u64)) und148)) ?_
 refine go ?_
 refine cF hF (fun h19 hF=>?_) (fun h19 hF=>?_)
 refine go ?_
 obtain rfl:=sI hF
 exact rT (us:=[.nils,.i6 7]) (u:=.tup [.isl false [],.i6 7]) (q2j rfl (q2j rfl (q33))) wR
 refine gr ?_
 refine gr ?_
 refine WPU.ghost (tm':=fr 92 [(0,.iM q01 p1),(5,.iM cS r5),(6,.iM (cL (cI .u64)) l15),(8,.iM (cL (cI .u64)) r17),(9,.vl 1 0 0 (([]:List q0s).length)),(10,.i6 0)]) (σ':=⟨[(1,.vec (List.map q0f ([]:List q0s)).flatten 105 2 0)],2⟩) (Gh.trans (qxl 9 105 2 (by decide) NZ rfl rfl) (qxk ⟨rfl,rfl,rfl,rfl,rfl,rfl,trivial⟩ rfl)) NZ ?_
 refine gS (l':=[(0,_),(5,_),(6,_),(8,_),(9,_),(10,_)]) ?_
 refine qxe (fun m tm σ=>∃ z27:Int,∃ l28:List q0s,∃ t29:Nat,q3l p1 n r5 l15 r17 m z27 l28=some r∧tm=fr 92 [(0,.iM q01 p1),(5,.iM cS r5),(6,.iM (cL (cI .u64)) l15),(8,.iM (cL (cI .u64)) r17),(9,.vl 1 t29 0 l28.length),(10,.i6 z27)]∧σ=⟨[(1,.vec (List.map q0f l28).flatten 105 2 t29)],2⟩) (fun tm σ=>∃ l30:List q0s,∃ t31:Nat,qa8 l30=some r∧tm=fr 92 [(9,.vl 1 t31 0 l30.length)]∧σ=⟨[(1,.vec (List.map q0f l30).flatten 105 2 t31)],2⟩) n ⟨0,([]:List q0s),0,hF,rfl,rfl⟩ ?_ ?_
 rintro _ _ ⟨l30,t31,hF,rfl,rfl⟩
 unfold qa8 at hF
 refine go ?_
 obtain rfl:=sI hF
 exact rT (us:=[.vl 1 t31 0 l30.length,.i6 0]) (u:=.tup [.iM q0f l30,.i6 0]) (q2j rfl (q2j rfl (q33))) (fR 1 2)
 rintro (_|m2) _ _ ⟨z27,l28,t29,hF,rfl,rfl⟩
 cases hF
 unfold q3l at hF
 refine go ?_
 refine RS.q rfl (q0c rfl rfl rfl (q08 (cL (cI .u64)) und148)) ?_
 refine go ?_
 refine cF hF (fun h32 hF=>?_) (fun h32 hF=>?_)
 refine go ?_
 refine WPU.block ?_
 obtain ⟨x33,h34,hF⟩:=q00 hF
 obtain ⟨r35,h36,hF⟩:=q00 hF
 obtain ⟨x37,h38,hF⟩:=q00 hF
 refine go ?_
 refine qxh Tryz.tb_ok [(0,13),(1,13),(2,13),(3,13),(4,13),(5,13),(6,13),(8,13),(9,13),(10,13),(11,13),(12,13)] (by kernel_rfl) ?_
 repeat refine RD.mv rfl rfl rfl rfl ?_
 refine RD.q rfl (q0g rfl rfl (q0b (cL (cI .u64)) und148 (q04 inf103) (q3c (cI .u64)) h34 rfl)) (RD.q rfl (q0e und103 rfl rfl rfl) (RD.fl rfl (pC (qo0 n p1 r5 l15 x33 r35 h36)) fn98 ?_))
 repeat refine RD.mv rfl rfl rfl rfl ?_
 refine RD.q rfl (q0g rfl rfl (q0b (cL (cI .u64)) und148 (q04 inf103) (q3c (cI .u64)) h38 rfl)) (RD.q rfl (q0e und103 rfl rfl rfl) (RD.q (u:=.agg [.str r35,.iM (cI .u64) x37]) rfl (q3y bd105 rfl rfl rfl) (RD.act (u:=.ptr 2 0 0) (σ':=⟨[(2,.row [.str [],.nils] 105),(1,.vec (List.map q0f l28).flatten 105 2 t29)],3⟩) rfl (q1h inf105 rfl rfl) rfl rfl ?_)))
 refine qxr (u:=.junk) (σ':=⟨[(2,.row [.str r35,.iM (cI .u64) x37] 105),(1,.vec (List.map q0f l28).flatten 105 2 t29)],3⟩) rfl (q11 (q04 inf105) rfl rfl rfl rfl rfl rfl rfl rfl) rfl ?_
 refine RD.done ⟨by kernel_rfl,⟨q21 rfl,⟨q21 rfl,⟨q21 rfl,⟨q21 rfl,⟨q21 rfl,⟨q0g rfl rfl (q0b (cL (cI .u64)) und148 (q04 inf103) (q3c (cI .u64)) h34 rfl),⟨q0e und103 rfl rfl rfl,⟨q21 rfl,⟨q21 rfl,⟨q0g rfl rfl (q0b (cL (cI .u64)) und148 (q04 inf103) (q3c (cI .u64)) h38 rfl),⟨q0e und103 rfl rfl rfl,⟨q3y bd105 rfl rfl rfl,trivial⟩⟩⟩⟩⟩⟩⟩⟩⟩⟩⟩⟩,?_⟩
 refine go ?_
 refine RS.q rfl (q0c rfl rfl rfl (qe3 und99 rfl)) ?_
 refine go ?_
 refine gS (l':=[(0,_),(5,_),(6,_),(8,_),(9,_),(10,_),(11,_),(12,_)]) ?_
 refine qxe (fun m tm σ=>∃ z49:Int,q6w n z27 l28 (q3l p1 n r5 l15 r17 m2) r35 x37 m z49=some r∧tm=fr 92 [(0,.iM q01 p1),(5,.iM cS r5),(6,.iM (cL (cI .u64)) l15),(8,.iM (cL (cI .u64)) r17),(9,.vl 1 t29 0 l28.length),(10,.i6 z27),(11,.ptr 2 0 0),(12,.i6 z49)]∧σ=⟨[(2,.row [.str r35,.iM (cI .u64) x37] 105),(1,.vec (List.map q0f l28).flatten 105 2 t29)],3⟩) (fun tm σ=>∃ z50:Int,qa9 z27 l28 (q3l p1 n r5 l15 r17 m2) r35 x37 z50=some r∧tm=fr 92 [(0,.iM q01 p1),(5,.iM cS r5),(6,.iM (cL (cI .u64)) l15),(8,.iM (cL (cI .u64)) r17),(9,.vl 1 t29 0 l28.length),(10,.i6 z27),(11,.ptr 2 0 0),(12,.i6 z50)]∧σ=⟨[(2,.row [.str r35,.iM (cI .u64) x37] 105),(1,.vec (List.map q0f l28).flatten 105 2 t29)],3⟩) n ⟨(l28.length:Int),hF,rfl,rfl⟩ ?_ ?_
 rintro _ _ ⟨z50,hF,rfl,rfl⟩
 unfold qa9 at hF
 obtain ⟨h51,hF⟩:=q0a hF
 obtain ⟨h52,hF⟩:=q0a hF
 obtain ⟨h53,hF⟩:=q0a hF
 refine go ?_
 refine RS.q (u:=.vl 1 t29 0 z50.toNat) rfl (qdh rfl qrj (em_s rfl) qrj (sl_vp q0f und99 (q04 inf105) q1d (vo rfl) (Nat.le_of_eq (Nat.zero_add _)) (qvm h51.1 h51.2))) (RS.q (u:=.vl 3 0 0 (((l28.drop 0).take z50.toNat).length)) (σ':=⟨[(3,.vec (List.map q0f ((l28.drop 0).take z50.toNat)).flatten 105 2 0),(2,.row [.str r35,.iM (cI .u64) x37] 105),(1,.vec (List.map q0f l28).flatten 105 2 t29)],4⟩) rfl (q1o rfl rfl rfl rfl (qrq q0f ((l28.drop 0).take z50.toNat) und99 und99 inf105 rfl (qw7 q0f q1d (vo rfl) h52) h53)) ?_)
 obtain ⟨h54,hF⟩:=q0a hF
 refine go ?_
 refine RS.q (u:=.agg [.str r35,.iM (cI .u64) x37]) rfl (q1f und105 rfl (q04 inf105) rfl rfl rfl) (RS.q (u:=.sl 4 0 1 1) (σ':=⟨[(4,.row [.str r35,.iM (cI .u64) x37] 105),(3,.vec (List.map q0f ((l28.drop 0).take z50.toNat)).flatten 105 2 0),(2,.row [.str r35,.iM (cI .u64) x37] 105),(1,.vec (List.map q0f l28).flatten 105 2 t29)],5⟩) rfl (q0i und99 inf105 rfl rfl rfl rfl rfl rfl rfl) (RS.q (u:=.vl 3 1 0 ((((l28.drop 0).take z50.toNat)++[(q0s.mk r35 x37)]).length)) (σ':=⟨[(4,.row [.str r35,.iM (cI .u64) x37] 105),(3,.vec (List.map q0f (((l28.drop 0).take z50.toNat)++[(q0s.mk r35 x37)])).flatten 105 2 1),(2,.row [.str r35,.iM (cI .u64) x37] 105),(1,.vec (List.map q0f l28).flatten 105 2 t29)],5⟩) rfl (q1o rfl rfl rfl rfl (q20 q0f ([(q0s.mk r35 x37)]) und99 und99 inf105 rfl q1d rfl (q1k q0f [(q0s.mk r35 x37)] rfl rfl rfl rfl) h54)) ?_))
 obtain ⟨h55,hF⟩:=q0a hF
 obtain ⟨h56,hF⟩:=q0a hF
 obtain ⟨h57,hF⟩:=q0a hF
 refine go ?_
 refine RS.q (u:=.vl 1 t29 (0+z50.toNat) (l28.length - z50.toNat)) rfl (qdh rfl (em_s rfl) qrj qrj (sl_vp q0f und99 (q04 inf105) q1d (vo rfl) (Nat.le_of_eq (Nat.zero_add _)) (qvn h55.1 h55.2))) (RS.q (u:=.vl 3 2 0 (((((l28.drop 0).take z50.toNat)++[(q0s.mk r35 x37)])++((l28.drop (0+z50.toNat)).take (l28.length - z50.toNat))).length)) (σ':=⟨[(4,.row [.str r35,.iM (cI .u64) x37] 105),(3,.vec (List.map q0f ((((l28.drop 0).take z50.toNat)++[(q0s.mk r35 x37)])++((l28.drop (0+z50.toNat)).take (l28.length - z50.toNat)))).flatten 105 2 2),(2,.row [.str r35,.iM (cI .u64) x37] 105),(1,.vec (List.map q0f l28).flatten 105 2 t29)],5⟩) rfl (q1o rfl rfl rfl rfl (q20 q0f ((l28.drop (0+z50.toNat)).take (l28.length - z50.toNat)) und99 und99 inf105 rfl q1d rfl (qw7 q0f q1d (vo rfl) h56) h57)) ?_)
 refine go ?_
 exact ⟨m2,_,_,Nat.lt_succ_self _,⟨(IntKind.i64.wrap (z27+1)),((((l28.drop 0).take z50.toNat)++[(q0s.mk r35 x37)])++((l28.drop (0+z50.toNat)).take (l28.length - z50.toNat))),2,hF,rfl,rfl⟩,NZ,Gh.trans (Gh.sub (l':=[(0,.iM q01 p1),(5,.iM cS r5),(6,.iM (cL (cI .u64)) l15),(8,.iM (cL (cI .u64)) r17),(9,.vl 3 2 0 (((((l28.drop 0).take z50.toNat)++[(q0s.mk r35 x37)])++((l28.drop (0+z50.toNat)).take (l28.length - z50.toNat))).length)),(10,.i6 (IntKind.i64.wrap (z27+1)))]) ⟨rfl,rfl,rfl,rfl,rfl,rfl,trivial⟩) (Gh.trans (Gh.mv (l':=[(0,.iM q01 p1),(5,.iM cS r5),(6,.iM (cL (cI .u64)) l15),(8,.iM (cL (cI .u64)) r17),(9,.vl 1 2 0 (((((l28.drop 0).take z50.toNat)++[(q0s.mk r35 x37)])++((l28.drop (0+z50.toNat)).take (l28.length - z50.toNat))).length)),(10,.i6 (IntKind.i64.wrap (z27+1)))]) (h':=[(4,.row [.str r35,.iM (cI .u64) x37] 105),(1,.vec (List.map q0f ((((l28.drop 0).take z50.toNat)++[(q0s.mk r35 x37)])++((l28.drop (0+z50.toNat)).take (l28.length - z50.toNat)))).flatten 105 2 2),(2,.row [.str r35,.iM (cI .u64) x37] 105)]) 1 3 NZ rfl rfl (by simp only [rS,rU,rUL,qh1,mvN,Nat.beq,cond_true,cond_false]) rfl (by simp only [avH,rB,qnu,rUL,rU,qh1,qta,mvN,Nat.beq,cond_true,cond_false,and_self])) (Gh.toC (n1:=2) ⟨rfl,rfl,rfl,rfl,rfl,rfl,trivial⟩ rfl NZ (by simp)))⟩
 rintro (_|m3) _ _ ⟨z49,hF,rfl,rfl⟩
 cases hF
 unfold q6w at hF
 obtain ⟨b63,h64,hF⟩:=q00 hF
 refine gn ?_
 refine qxf (fun tm σ=>tm=fr 92 [(0,.iM q01 p1),(5,.iM cS r5),(6,.iM (cL (cI .u64)) l15),(8,.iM (cL (cI .u64)) r17),(9,.vl 1 t29 0 l28.length),(10,.i6 z27),(11,.ptr 2 0 0),(12,.i6 z49),(73,.bool b63)]∧σ=⟨[(2,.row [.str r35,.iM (cI .u64) x37] 105),(1,.vec (List.map q0f l28).flatten 105 2 t29)],3⟩) ?_ ?_
 rintro _ _ ⟨rfl,rfl⟩
 refine go ?_
 refine cF hF (fun h65 hF=>?_) (fun h65 hF=>?_)
 refine go ?_
 refine WPU.block ?_
 refine go ?_
 exact lC ⟨_,hF,rfl,rfl⟩
 refine go ?_
 exact xC ⟨z49,hF,rfl,rfl⟩
 rcases gB h64 with ⟨h58,h64⟩ | ⟨h58,h64⟩
 obtain ⟨x59,h60,h64⟩:=q00 h64
 obtain ⟨r61,h62,h64⟩:=q00 h64
 obtain rfl:=sI h64
 refine qxh Tryz.tb_ok [] (by kernel_rfl) ?_
 refine RD.mv rfl rfl rfl rfl (RD.q rfl (q35 rfl rfl (qpt _ _ _) rfl) (RD.mv rfl rfl rfl rfl (RD.w (u:=.agg [.str r35,.iM (cI .u64) x37]) rfl (q1f und105 rfl (q04 inf105) rfl rfl rfl) (RD.w rfl (q21 rfl) (RD.w rfl (q21 rfl) (RD.w rfl (q35 rfl rfl (qvx _ _ _) rfl) ?_))))))
 refine RD.w rfl (q0g rfl rfl (qhy q0f und99 (q04 inf105) (by decide) q1d (vo rfl) h60)) ?_
 refine RD.w (u:=.agg (q0f x59)) rfl (ld_vec q0f und105 rfl (q04 inf105) q1d rfl rfl h60 rfl) (RD.fl rfl (pC (qko n (q0s.mk r35 x37) x59 r61 h62)) fn99 (RD.q rfl (qid rfl h58 rfl) ?_))
 refine RD.done ⟨by kernel_rfl,trivial,?_⟩
 refine go ?_
 exact xC ⟨rfl,rfl⟩
 obtain rfl:=sI h64
 refine qxh Tryz.tb_ok [] (by kernel_rfl) ?_
 refine RD.mv rfl rfl rfl rfl (RD.q rfl (q35 rfl rfl (qpt _ _ _) rfl) (RD.mv rfl rfl rfl rfl ?_))
 repeat refine RD.no (qu0 rfl rfl rfl h58) rfl rfl ?_
 refine RD.q rfl (qic rfl h58 rfl) ?_
 refine RD.done ⟨by kernel_rfl,trivial,?_⟩
 refine go ?_
 exact xC ⟨rfl,rfl⟩
 refine go ?_
 exact xC ⟨l28,t29,hF,rfl,rfl⟩
 rintro (_|m1) _ _ ⟨z12,l13,t14,hF,rfl,rfl⟩
 cases hF
 unfold q6v at hF
 refine go ?_
 refine RS.q rfl (q0c rfl rfl rfl (q08 cS und80)) ?_
 refine go ?_
 refine cF hF (fun h66 hF=>?_) (fun h66 hF=>?_)
 refine go ?_
 refine WPU.block ?_
 obtain ⟨x67,h68,hF⟩:=q00 hF
 obtain ⟨r69,h70,hF⟩:=q00 hF
 obtain ⟨h71,hF⟩:=q0a hF
 refine go ?_
 refine RS.q rfl (q0g rfl rfl (q0b cS und80 (q04 inf9) q1b h68 rfl)) (RS.q rfl (q0e und9 rfl rfl rfl) (RS.cl rfl (pC (qnz n p1 r5 x67 r69 h70) _) fn96 (RS.q (u:=.sl 1 0 1 1) (σ':=⟨[(1,.row [.iM (cI .u64) r69] 103),(0,.vec (List.map (cL (cI .u64)) l13).flatten 103 1 t14)],2⟩) rfl (q0i und148 inf103 rfl rfl rfl rfl rfl rfl rfl) (RS.q (u:=.vl 0 (t14+1) 0 ((l13++[r69]).length)) (σ':=⟨[(1,.row [.iM (cI .u64) r69] 103),(0,.vec (List.map (cL (cI .u64)) (l13++[r69])).flatten 103 1 (t14+1))],2⟩) rfl (q1o rfl rfl rfl rfl (q20 (cL (cI .u64)) ([r69]) und148 und148 inf103 rfl (q3c (cI .u64)) rfl (q1k (cL (cI .u64)) [r69] rfl rfl rfl rfl) h71)) ?_))))
 refine go ?_
 exact lC ⟨_,(l13++[r69]),(t14+1),hF,rfl,rfl⟩
 refine go ?_
 exact xC ⟨l13,t14,hF,rfl,rfl⟩
def qai   : Option ((List UInt8)×Bool) :=
 some ([],false)
def q71 (p1:q05) (p2:List UInt8):Nat→Int→Option ((List UInt8)×Bool)
 | 0,_=>none
 | m1+1,z8 =>
  cond (decide (z8<(p1.Feats.length:Int)))
   (q03 (q13 p1.Feats z8) fun x10 =>
   cond (q1c x10.Feat p2)
    (q03 (q13 p1.Feats z8) fun x13 =>
    some (x13.Value,true))
    ((q71 p1 p2 m1) (IntKind.i64.wrap (z8+1))))
   (qai)
def qbw (n:Nat) (p1:q05) (p2:List UInt8):Option ((List UInt8)×Bool) :=
 q71 p1 p2 n 0
theorem qg0 (n:Nat) (p1:q05) (p2:List UInt8) (r:(List UInt8)×Bool) (hF:qbw n p1 p2=some r):EvU Tryz.prog 117 [.agg (q01 p1),.str p2] ⟨[],0⟩ (fun u _=>u = .tup [.str r.1,.bool r.2]∧Bel 0 u):=by
 unfold qbw at hF
 refine bg2 28 fn117 ?_
 refine go ?_
 refine RS.q (u:=.ptr 0 0 0) (σ':=⟨[(0,.row (q01 p1) 127)],1⟩) rfl (q5i rfl rfl rfl) ?_
 refine go ?_
 refine gS (l':=[(1,_),(2,_),(6,_)]) ?_
 refine qxe (fun m tm σ=>∃ z8:Int,q71 p1 p2 m z8=some r∧tm=fr 28 [(1,.str p2),(2,.ptr 0 0 0),(6,.i6 z8)]∧σ=⟨[(0,.row (q01 p1) 127)],1⟩) (fun tm σ=>qai=some r∧tm=fr 28 []∧σ=⟨[(0,.row (q01 p1) 127)],1⟩) n ⟨0,hF,rfl,rfl⟩ ?_ ?_
 rintro _ _ ⟨hF,rfl,rfl⟩
 unfold qai at hF
 refine go ?_
 obtain rfl:=sI hF
 exact rt2 rfl rfl rfl rfl rfl
 rintro (_|m1) _ _ ⟨z8,hF,rfl,rfl⟩
 cases hF
 unfold q71 at hF
 refine go ?_
 refine RS.q rfl (q1t und127 rfl (q04 inf125) rfl rfl rfl) (RS.q rfl (q18 und125 rfl rfl rfl rfl) (RS.q rfl (q0c rfl rfl rfl (q08 q0d und125)) ?_))
 refine go ?_
 refine cF hF (fun h9 hF=>?_) (fun h9 hF=>?_)
 refine go ?_
 refine WPU.block ?_
 obtain ⟨x10,h11,hF⟩:=q00 hF
 refine go ?_
 refine RS.q rfl (q1t und127 rfl (q04 inf125) rfl rfl rfl) (RS.q rfl (q18 und125 rfl rfl rfl rfl) ?_)
 refine go ?_
 refine RS.q rfl (q0g rfl rfl (q0b q0d und125 (q04 inf162) q1q h11 rfl)) (RS.q rfl (q1y und162 rfl (q04 inf9) rfl rfl) (RS.q rfl (q0e und9 rfl rfl rfl) ?_))
 refine go ?_
 refine RS.q (u:=.bool (q1c x10.Feat p2)) rfl (q50 rfl rfl rfl rfl) ?_
 refine go ?_
 refine cF hF (fun h12 hF=>?_) (fun h12 hF=>?_)
 obtain ⟨x13,h14,hF⟩:=q00 hF
 refine go ?_
 refine RS.q rfl (q1t und127 rfl (q04 inf125) rfl rfl rfl) (RS.q rfl (q18 und125 rfl rfl rfl rfl) ?_)
 refine go ?_
 refine RS.q rfl (q0g rfl rfl (q0b q0d und125 (q04 inf162) q1q h14 rfl)) (RS.q rfl (q1y und162 rfl (q04 inf9) rfl rfl) (RS.q rfl (q0e und9 rfl rfl rfl) ?_))
 refine go ?_
 obtain rfl:=sI hF
 exact rt2 rfl rfl rfl rfl rfl
 refine go ?_
 exact lC ⟨_,hF,rfl,rfl⟩
 refine go ?_
 exact xC ⟨hF,rfl,rfl⟩
def q70 (z8:Int) (rc1:(List (List UInt8))→Int→Option ((List UInt8)×Bool)) (l21:List (List UInt8)):Option ((List UInt8)×Bool) :=
 rc1 l21 (IntKind.i64.wrap (z8+1))
def qag (p1:List q05) (n:Nat) (l9:List (List UInt8)):Option ((List UInt8)×Bool) :=
 q03 (q81 n p1 l9) fun r10 =>
 cond ((r10.length:Int) != 1)
  (some ([],false))
  (q03 (q13 r10 0) fun x13 =>
  some (x13,true))
def q3p (p1:List q05) (p2:List UInt8) (n:Nat):Nat→(List (List UInt8))→Int→Option ((List UInt8)×Bool)
 | 0,_,_=>none
 | m1+1,l7,z8 =>
  cond (decide (z8<(p1.length:Int)))
   (q03 (q13 p1 z8) fun x16 =>
   q03 (qbw n x16 p2) fun r18 =>
   cond r18.2
    (q03 (q13 p1 z8) fun x22 =>
    q03 (q78 n l7 x22.Name) fun r24 =>
    q70 z8 (q3p p1 p2 n m1) r24)
    (q70 z8 (q3p p1 p2 n m1) l7))
   (qag p1 n l7)
def qbv (n:Nat) (p1:List q05) (p2:List UInt8):Option ((List UInt8)×Bool) :=
 q3p p1 p2 n n [] 0
theorem qfz (n:Nat) (p1:List q05) (p2:List UInt8) (r:(List UInt8)×Bool) (hF:qbv n p1 p2=some r):EvU Tryz.prog 101 [.isl false (List.map q01 p1),.str p2] ⟨[],0⟩ (fun u _=>u = .tup [.str r.1,.bool r.2]∧Bel 0 u):=by
 unfold qbv at hF
 refine bg2 43 fn101 ?_
 refine gr ?_
 refine gr ?_
 refine gr ?_
 refine WPU.ghost (tm':=fr 43 [(0,.iM q01 p1),(1,.str p2),(6,.iM cS []),(7,.i6 0)]) (Gh.trans (Gh.sub (l':=[(0,.iM q01 p1),(1,.str p2),(6,.nils),(7,.i6 0)]) ⟨rfl,rfl,rfl,rfl,trivial⟩) (Gh.wkS (l':=[(0,.iM q01 p1),(1,.str p2),(6,.iM cS []),(7,.i6 0)]) (.cons (.refl _) (.cons (.refl _) (.cons (.nil false) (.cons (.refl _) .nil)))))) NZ ?_
 refine gS (l':=[(0,_),(1,_),(6,_),(7,_)]) ?_
 refine qxe (fun m tm σ=>∃ l7:List (List UInt8),∃ z8:Int,q3p p1 p2 n m l7 z8=some r∧tm=fr 43 [(0,.iM q01 p1),(1,.str p2),(6,.iM cS l7),(7,.i6 z8)]∧σ=⟨[],0⟩) (fun tm σ=>∃ l9:List (List UInt8),qag p1 n l9=some r∧tm=fr 43 [(0,.iM q01 p1),(6,.iM cS l9)]∧σ=⟨[],0⟩) n ⟨[],0,hF,rfl,rfl⟩ ?_ ?_
 rintro _ _ ⟨l9,hF,rfl,rfl⟩
 unfold qag at hF
 obtain ⟨r10,h11,hF⟩:=q00 hF
 refine go ?_
 refine RS.cl rfl (pC (qcs n p1 l9 r10 h11) _) fn131 ?_
 refine go ?_
 refine RS.q rfl (q0c rfl rfl rfl (q08 cS und80)) ?_
 refine go ?_
 refine cF hF (fun h12 hF=>?_) (fun h12 hF=>?_)
 refine go ?_
 obtain rfl:=sI hF
 exact rt2 rfl rfl rfl rfl rfl
 obtain ⟨x13,h14,hF⟩:=q00 hF
 refine go ?_
 refine RS.q rfl (q0g rfl rfl (q0b cS und80 (q04 inf9) q1b h14 rfl)) (RS.q rfl (q0e und9 rfl rfl rfl) ?_)
 refine go ?_
 obtain rfl:=sI hF
 exact rt2 rfl rfl rfl rfl rfl
 rintro (_|m1) _ _ ⟨l7,z8,hF,rfl,rfl⟩
 cases hF
 unfold q3p at hF
 refine go ?_
 refine RS.q rfl (q0c rfl rfl rfl (q08 q01 und38)) ?_
 refine go ?_
 refine cF hF (fun h15 hF=>?_) (fun h15 hF=>?_)
 refine go ?_
 refine WPU.block ?_
 obtain ⟨x16,h17,hF⟩:=q00 hF
 obtain ⟨r18,h19,hF⟩:=q00 hF
 refine go ?_
 refine RS.q rfl (q0g rfl rfl (q0b q01 und38 (q04 inf127) q0h h17 rfl)) (RS.q (u:=.agg (q01 x16)) rfl (qe4 und127 rfl (q04 inf127) rfl rfl) ?_)
 refine go ?_
 refine RS.cl rfl (pC (qg0 n x16 p2 r18 h19) _) fn117 ?_
 refine gr ?_
 refine qxf (fun tm σ=>∃ l21:List (List UInt8),q70 z8 (q3p p1 p2 n m1) l21=some r∧tm=fr 43 [(0,.iM q01 p1),(1,.str p2),(6,.iM cS l21),(7,.i6 z8)]∧σ=⟨[],0⟩) ?_ ?_
 rintro _ _ ⟨l21,hF,rfl,rfl⟩
 unfold q70 at hF
 refine go ?_
 exact lC ⟨l21,(IntKind.i64.wrap (z8+1)),hF,rfl,rfl⟩
 refine cF hF (fun h20 hF=>?_) (fun h20 hF=>?_)
 obtain ⟨x22,h23,hF⟩:=q00 hF
 obtain ⟨r24,h25,hF⟩:=q00 hF
 refine go ?_
 refine RS.q rfl (q0g rfl rfl (q0b q01 und38 (q04 inf127) q0h h23 rfl)) (RS.q rfl (q1y und127 rfl (q04 inf9) rfl rfl) (RS.q rfl (q0e und9 rfl rfl rfl) (RS.cl rfl (pC (q67 n l7 x22.Name r24 h25) _) fn116 ?_)))
 refine go ?_
 exact xC ⟨r24,hF,rfl,rfl⟩
 refine go ?_
 exact xC ⟨l7,hF,rfl,rfl⟩
 refine go ?_
 exact xC ⟨l7,hF,rfl,rfl⟩
def q41 (n:Nat) (r2:(List (List UInt8))) (x9:q05) (z16:Int) (rc2:Int→Option (Int))  : Option (Int) :=
 q03 (q13 x9.Feats z16) fun x30 =>
 q03 (q2e n r2 x30.Value) fun r32 =>
 cond (!r32)
  (some 5)
  (rc2 (IntKind.i64.wrap (z16+1)))
def q2r (n:Nat) (r2:(List (List UInt8))) (x9:q05) (z16:Int) (rc2:Int→Option (Int)):Nat→Int→Option (Int)
 | 0,_=>none
 | m3+1,z29 =>
  cond (decide (z29<z16))
   (q03 (q13 x9.Feats z29) fun x36 =>
   q03 (q13 x9.Feats z16) fun x38 =>
   cond (q1c x36.Feat x38.Feat)
    (some 4)
    ((q2r n r2 x9 z16 rc2 m3) (IntKind.i64.wrap (z29+1))))
   (q41 n r2 x9 z16 rc2)
def q40 (z7:Int) (rc1:Int→Option (Int))  : Option (Int) :=
 rc1 (IntKind.i64.wrap (z7+1))
def q1m (n:Nat) (r2:(List (List UInt8))) (z7:Int) (rc1:Int→Option (Int)) (x9:q05):Nat→Int→Option (Int)
 | 0,_=>none
 | m2+1,z16 =>
  cond (decide (z16<(x9.Feats.length:Int)))
   (q03 (q13 x9.Feats z16) fun x18 =>
   q03 (qbd n x18.Feat) fun r20 =>
   cond (!r20)
    (some 1)
    (q2r n r2 x9 z16 (q1m n r2 z7 rc1 x9 m2) n 0))
   (q40 z7 rc1)
def q3z   : Option (Int) :=
 some 0
def q15 (p1:List q05) (n:Nat) (r2:(List (List UInt8))):Nat→Int→Option (Int)
 | 0,_=>none
 | m1+1,z7 =>
  cond (decide (z7<(p1.length:Int)))
   (q03 (q13 p1 z7) fun x9 =>
   q1m n r2 z7 (q15 p1 n r2 m1) x9 n 0)
   (q3z)
def q5s (n:Nat) (p1:List q05):Option (Int) :=
 q03 (qbm n p1) fun r2 =>
 q15 p1 n r2 n 0
theorem qdu (n:Nat) (p1:List q05) (r:Int) (hF:q5s n p1=some r):EvU Tryz.prog 115 [.isl false (List.map q01 p1)] ⟨[],0⟩ (fun u _=>u = .int .i64 r∧Bel 0 u):=by
 unfold q5s at hF
 refine bg1 58 fn115 ?_
 obtain ⟨r2,h3,hF⟩:=q00 hF
 refine go ?_
 refine RS.cl rfl (pC (qfx n p1 r2 h3) _) fn95 ?_
 refine go ?_
 refine gS (l':=[(0,_),(3,_),(4,_)]) ?_
 refine qxe (fun m tm σ=>∃ z7:Int,q15 p1 n r2 m z7=some r∧tm=fr 58 [(0,.iM q01 p1),(3,.iM cS r2),(4,.i6 z7)]∧σ=⟨[],0⟩) (fun tm σ=>q3z=some r∧tm=fr 58 []∧σ=⟨[],0⟩) n ⟨0,hF,rfl,rfl⟩ ?_ ?_
 rintro _ _ ⟨hF,rfl,rfl⟩
 unfold q3z at hF
 exact gx hF
 rintro (_|m1) _ _ ⟨z7,hF,rfl,rfl⟩
 cases hF
 unfold q15 at hF
 refine go ?_
 refine RS.q rfl (q0c rfl rfl rfl (q08 q01 und38)) ?_
 refine go ?_
 refine cF hF (fun h8 hF=>?_) (fun h8 hF=>?_)
 refine go ?_
 refine WPU.block ?_
 obtain ⟨x9,h10,hF⟩:=q00 hF
 refine go ?_
 refine RS.q rfl (q0g rfl rfl (q0b q01 und38 (q04 inf127) q0h h10 rfl)) (RS.q rfl (q1y und127 rfl (q04 inf125) rfl rfl) (RS.q rfl (q0e und125 rfl rfl rfl) ?_))
 refine go ?_
 refine gS (l':=[(0,_),(3,_),(4,_),(5,_),(6,_)]) ?_
 refine qxe (fun m tm σ=>∃ z16:Int,q1m n r2 z7 (q15 p1 n r2 m1) x9 m z16=some r∧tm=fr 58 [(0,.iM q01 p1),(3,.iM cS r2),(4,.i6 z7),(5,.iM q0d x9.Feats),(6,.i6 z16)]∧σ=⟨[],0⟩) (fun tm σ=>q40 z7 (q15 p1 n r2 m1)=some r∧tm=fr 58 [(0,.iM q01 p1),(3,.iM cS r2),(4,.i6 z7)]∧σ=⟨[],0⟩) n ⟨0,hF,rfl,rfl⟩ ?_ ?_
 rintro _ _ ⟨hF,rfl,rfl⟩
 unfold q40 at hF
 refine go ?_
 exact lC ⟨_,hF,rfl,rfl⟩
 rintro (_|m2) _ _ ⟨z16,hF,rfl,rfl⟩
 cases hF
 unfold q1m at hF
 refine go ?_
 refine RS.q rfl (q0c rfl rfl rfl (q08 q0d und125)) ?_
 refine go ?_
 refine cF hF (fun h17 hF=>?_) (fun h17 hF=>?_)
 refine go ?_
 refine WPU.block ?_
 obtain ⟨x18,h19,hF⟩:=q00 hF
 obtain ⟨r20,h21,hF⟩:=q00 hF
 refine go ?_
 refine RS.q rfl (q0g rfl rfl (q0b q0d und125 (q04 inf162) q1q h19 rfl)) (RS.q rfl (q1y und162 rfl (q04 inf9) rfl rfl) (RS.q rfl (q0e und9 rfl rfl rfl) (RS.cl rfl (pC (qjq n x18.Feat r20 h21) _) fn57 ?_)))
 refine go ?_
 refine cF hF (fun h22 hF=>?_) (fun h22 hF=>?_)
 exact gx hF
 refine go ?_
 refine gS (l':=[(0,_),(3,_),(4,_),(5,_),(6,_),(7,_)]) ?_
 refine qxe (fun m tm σ=>∃ z29:Int,q2r n r2 x9 z16 (q1m n r2 z7 (q15 p1 n r2 m1) x9 m2) m z29=some r∧tm=fr 58 [(0,.iM q01 p1),(3,.iM cS r2),(4,.i6 z7),(5,.iM q0d x9.Feats),(6,.i6 z16),(7,.i6 z29)]∧σ=⟨[],0⟩) (fun tm σ=>q41 n r2 x9 z16 (q1m n r2 z7 (q15 p1 n r2 m1) x9 m2)=some r∧tm=fr 58 [(0,.iM q01 p1),(3,.iM cS r2),(4,.i6 z7),(5,.iM q0d x9.Feats),(6,.i6 z16)]∧σ=⟨[],0⟩) n ⟨0,hF,rfl,rfl⟩ ?_ ?_
 rintro _ _ ⟨hF,rfl,rfl⟩
 unfold q41 at hF
 obtain ⟨x30,h31,hF⟩:=q00 hF
 obtain ⟨r32,h33,hF⟩:=q00 hF
 refine go ?_
 refine RS.q rfl (q0g rfl rfl (q0b q0d und125 (q04 inf162) q1q h31 rfl)) (RS.q rfl (q1y und162 rfl (q04 inf9) rfl rfl) (RS.q rfl (q0e und9 rfl rfl rfl) (RS.cl rfl (pC (q1s n r2 x30.Value r32 h33) _) fn126 ?_)))
 refine go ?_
 refine cF hF (fun h34 hF=>?_) (fun h34 hF=>?_)
 exact gx hF
 refine go ?_
 exact lC ⟨_,hF,rfl,rfl⟩
 rintro (_|m3) _ _ ⟨z29,hF,rfl,rfl⟩
 cases hF
 unfold q2r at hF
 refine go ?_
 refine cF hF (fun h35 hF=>?_) (fun h35 hF=>?_)
 refine go ?_
 refine WPU.block ?_
 obtain ⟨x36,h37,hF⟩:=q00 hF
 obtain ⟨x38,h39,hF⟩:=q00 hF
 refine go ?_
 refine qxh Tryz.tb_ok [] (by kernel_rfl) ?_
 repeat refine RD.mv rfl rfl rfl rfl ?_
 refine RD.q rfl (q0g rfl rfl (q0b q0d und125 (q04 inf162) q1q h37 rfl)) (RD.q rfl (q1y und162 rfl (q04 inf9) rfl rfl) (RD.q rfl (q0e und9 rfl rfl rfl) ?_))
 repeat refine RD.mv rfl rfl rfl rfl ?_
 refine RD.q rfl (q0g rfl rfl (q0b q0d und125 (q04 inf162) q1q h39 rfl)) (RD.q rfl (q1y und162 rfl (q04 inf9) rfl rfl) (RD.q rfl (q0e und9 rfl rfl rfl) (RD.q (u:=.bool (q1c x36.Feat x38.Feat)) rfl (q50 rfl rfl rfl rfl) ?_)))
 refine RD.done ⟨by kernel_rfl,trivial,?_⟩
 refine go ?_
 refine cF hF (fun h40 hF=>?_) (fun h40 hF=>?_)
 exact gx hF
 refine go ?_
 exact lC ⟨_,hF,rfl,rfl⟩
 refine go ?_
 exact xC ⟨hF,rfl,rfl⟩
 refine go ?_
 exact xC ⟨hF,rfl,rfl⟩
 refine go ?_
 exact xC ⟨hF,rfl,rfl⟩
def qaf (z6:Int) (rc1:(List (List UInt8))→Int→Option ((List (List UInt8)))) (l15:List (List UInt8)):Option ((List (List UInt8))) :=
 rc1 l15 (IntKind.i64.wrap (z6+1))
def q6z (p1:List q05) (n:Nat) (z6:Int) (rc1:(List (List UInt8))→Int→Option ((List (List UInt8)))):Nat→(List (List UInt8))→Int→Option ((List (List UInt8)))
 | 0,_,_=>none
 | m2+1,l13,z14 =>
  q03 (q13 p1 z6) fun x16 =>
  cond (decide (z14<(x16.Feats.length:Int)))
   (q03 (q13 p1 z6) fun x19 =>
   q03 (q13 x19.Feats z14) fun x21 =>
   q03 (q78 n l13 x21.Feat) fun r23 =>
   (q6z p1 n z6 rc1 m2) r23 (IntKind.i64.wrap (z14+1)))
   (qaf z6 rc1 l13)
def qae  (l7:List (List UInt8)):Option ((List (List UInt8))) :=
 some l7
def q3o (p1:List q05) (n:Nat):Nat→(List (List UInt8))→Int→Option ((List (List UInt8)))
 | 0,_,_=>none
 | m1+1,l5,z6 =>
  cond (decide (z6<(p1.length:Int)))
   (q6z p1 n z6 (q3o p1 n m1) n l5 0)
   (qae l5)
def q8y (n:Nat) (p1:List q05):Option ((List (List UInt8))) :=
 q3o p1 n n [] 0
theorem qbu (n:Nat) (p1:List q05) (r:(List (List UInt8))) (hF:q8y n p1=some r):EvU Tryz.prog 91 [.isl false (List.map q01 p1)] ⟨[],0⟩ (fun u _=>u = .isl false (List.map cS r)∧Bel 0 u):=by
 unfold q8y at hF
 refine bg1 34 fn91 ?_
 refine gr ?_
 refine gr ?_
 refine gr ?_
 refine WPU.ghost (tm':=fr 34 [(0,.iM q01 p1),(3,.iM cS []),(4,.i6 0)]) (Gh.trans (Gh.sub (l':=[(0,.iM q01 p1),(3,.nils),(4,.i6 0)]) ⟨rfl,rfl,rfl,trivial⟩) (Gh.wkS (l':=[(0,.iM q01 p1),(3,.iM cS []),(4,.i6 0)]) (.cons (.refl _) (.cons (.nil false) (.cons (.refl _) .nil))))) NZ ?_
 refine gS (l':=[(0,_),(3,_),(4,_)]) ?_
 refine qxe (fun m tm σ=>∃ l5:List (List UInt8),∃ z6:Int,q3o p1 n m l5 z6=some r∧tm=fr 34 [(0,.iM q01 p1),(3,.iM cS l5),(4,.i6 z6)]∧σ=⟨[],0⟩) (fun tm σ=>∃ l7:List (List UInt8),qae l7=some r∧tm=fr 34 [(3,.iM cS l7)]∧σ=⟨[],0⟩) n ⟨[],0,hF,rfl,rfl⟩ ?_ ?_
 rintro _ _ ⟨l7,hF,rfl,rfl⟩
 unfold qae at hF
 exact gx hF
 rintro (_|m1) _ _ ⟨l5,z6,hF,rfl,rfl⟩
 cases hF
 unfold q3o at hF
 refine go ?_
 refine RS.q rfl (q0c rfl rfl rfl (q08 q01 und38)) ?_
 refine go ?_
 refine cF hF (fun h8 hF=>?_) (fun h8 hF=>?_)
 refine go ?_
 refine WPU.block ?_
 refine go ?_
 refine gS (l':=[(0,_),(3,_),(4,_),(5,_)]) ?_
 refine qxe (fun m tm σ=>∃ l13:List (List UInt8),∃ z14:Int,q6z p1 n z6 (q3o p1 n m1) m l13 z14=some r∧tm=fr 34 [(0,.iM q01 p1),(3,.iM cS l13),(4,.i6 z6),(5,.i6 z14)]∧σ=⟨[],0⟩) (fun tm σ=>∃ l15:List (List UInt8),qaf z6 (q3o p1 n m1) l15=some r∧tm=fr 34 [(0,.iM q01 p1),(3,.iM cS l15),(4,.i6 z6)]∧σ=⟨[],0⟩) n ⟨l5,0,hF,rfl,rfl⟩ ?_ ?_
 rintro _ _ ⟨l15,hF,rfl,rfl⟩
 unfold qaf at hF
 refine go ?_
 exact lC ⟨l15,(IntKind.i64.wrap (z6+1)),hF,rfl,rfl⟩
 rintro (_|m2) _ _ ⟨l13,z14,hF,rfl,rfl⟩
 cases hF
 unfold q6z at hF
 obtain ⟨x16,h17,hF⟩:=q00 hF
 refine go ?_
 refine RS.q rfl (q0g rfl rfl (q0b q01 und38 (q04 inf127) q0h h17 rfl)) (RS.q rfl (q1y und127 rfl (q04 inf125) rfl rfl) (RS.q rfl (q0e und125 rfl rfl rfl) (RS.q rfl (q0c rfl rfl rfl (q08 q0d und125)) ?_)))
 refine go ?_
 refine cF hF (fun h18 hF=>?_) (fun h18 hF=>?_)
 refine go ?_
 refine WPU.block ?_
 obtain ⟨x19,h20,hF⟩:=q00 hF
 obtain ⟨x21,h22,hF⟩:=q00 hF
 obtain ⟨r23,h24,hF⟩:=q00 hF
 refine go ?_
 refine RS.q rfl (q0g rfl rfl (q0b q01 und38 (q04 inf127) q0h h20 rfl)) (RS.q rfl (q1y und127 rfl (q04 inf125) rfl rfl) (RS.q rfl (q0e und125 rfl rfl rfl) ?_))
 refine go ?_
 refine RS.q rfl (q0g rfl rfl (q0b q0d und125 (q04 inf162) q1q h22 rfl)) (RS.q rfl (q1y und162 rfl (q04 inf9) rfl rfl) (RS.q rfl (q0e und9 rfl rfl rfl) (RS.cl rfl (pC (q67 n l13 x21.Feat r23 h24) _) fn116 ?_)))
 refine go ?_
 exact lC ⟨r23,(IntKind.i64.wrap (z14+1)),hF,rfl,rfl⟩
 refine go ?_
 exact xC ⟨l13,hF,rfl,rfl⟩
 refine go ?_
 exact xC ⟨l5,hF,rfl,rfl⟩
def q3m (n:Nat) (p1:List q0s) (p2:Int) (p3:Int):Option (Bool) :=
 q03 (q13 p1 p3) fun x4 =>
 q03 (q13 p1 p2) fun x6 =>
 q03 (q77 n x4.Code x6.Code) fun r8 =>
 some r8
theorem q3e (n:Nat) (p1:List q0s) (p2:Int) (p3:Int) (r:Bool) (hF:q3m n p1 p2 p3=some r):EvU Tryz.prog 100 [.isl false (List.map q0f p1),.int .i64 p2,.int .i64 p3] ⟨[],0⟩ (fun u _=>u = .bool r∧Bel 0 u):=by
 unfold q3m at hF
 refine bg3 18 fn100 ?_
 obtain ⟨x4,h5,hF⟩:=q00 hF
 obtain ⟨x6,h7,hF⟩:=q00 hF
 obtain ⟨r8,h9,hF⟩:=q00 hF
 refine go ?_
 refine qxh Tryz.tb_ok [] (by kernel_rfl) ?_
 repeat refine RD.mv rfl rfl rfl rfl ?_
 refine RD.q rfl (q0g rfl rfl (q0b q0f und99 (q04 inf105) q1d h5 rfl)) (RD.q rfl (q1y und105 rfl (q04 inf103) rfl rfl) (RD.q rfl (q0e und103 rfl rfl rfl) ?_))
 repeat refine RD.mv rfl rfl rfl rfl ?_
 refine RD.q rfl (q0g rfl rfl (q0b q0f und99 (q04 inf105) q1d h7 rfl)) (RD.q rfl (q1y und105 rfl (q04 inf103) rfl rfl) (RD.q rfl (q0e und103 rfl rfl rfl) (RD.fl rfl (pC (q6k n x4.Code x6.Code r8 h9)) fn133 (RD.as rfl rfl rfl rfl ?_))))
 refine RD.done ⟨by kernel_rfl,trivial,?_⟩
 exact gx hF
def q8z   : Option (Int) :=
 some (-1)
def q5v (p1:List q0s) (p2:List UInt8):Nat→Int→Option (Int)
 | 0,_=>none
 | m1+1,z6 =>
  cond (decide (z6<(p1.length:Int)))
   (q03 (q13 p1 z6) fun x8 =>
   cond (q1c x8.Name p2)
    (some z6)
    ((q5v p1 p2 m1) (IntKind.i64.wrap (z6+1))))
   (q8z)
def q79 (n:Nat) (p1:List q0s) (p2:List UInt8):Option (Int) :=
 q5v p1 p2 n 0
theorem qah (n:Nat) (p1:List q0s) (p2:List UInt8) (r:Int) (hF:q79 n p1 p2=some r):EvU Tryz.prog 102 [.isl false (List.map q0f p1),.str p2] ⟨[],0⟩ (fun u _=>u = .int .i64 r∧Bel 0 u):=by
 unfold q79 at hF
 refine bg2 20 fn102 ?_
 refine go ?_
 refine gS (l':=[(0,_),(1,_),(5,_)]) ?_
 refine qxe (fun m tm σ=>∃ z6:Int,q5v p1 p2 m z6=some r∧tm=fr 20 [(0,.iM q0f p1),(1,.str p2),(5,.i6 z6)]∧σ=⟨[],0⟩) (fun tm σ=>q8z=some r∧tm=fr 20 []∧σ=⟨[],0⟩) n ⟨0,hF,rfl,rfl⟩ ?_ ?_
 rintro _ _ ⟨hF,rfl,rfl⟩
 unfold q8z at hF
 exact gx hF
 rintro (_|m1) _ _ ⟨z6,hF,rfl,rfl⟩
 cases hF
 unfold q5v at hF
 refine go ?_
 refine RS.q rfl (q0c rfl rfl rfl (q08 q0f und99)) ?_
 refine go ?_
 refine cF hF (fun h7 hF=>?_) (fun h7 hF=>?_)
 refine go ?_
 refine WPU.block ?_
 obtain ⟨x8,h9,hF⟩:=q00 hF
 refine go ?_
 refine RS.q rfl (q0g rfl rfl (q0b q0f und99 (q04 inf105) q1d h9 rfl)) (RS.q rfl (q1y und105 rfl (q04 inf9) rfl rfl) (RS.q rfl (q0e und9 rfl rfl rfl) ?_))
 refine go ?_
 refine RS.q (u:=.bool (q1c x8.Name p2)) rfl (q50 rfl rfl rfl rfl) ?_
 refine go ?_
 refine cF hF (fun h10 hF=>?_) (fun h10 hF=>?_)
 exact gx hF
 refine go ?_
 exact lC ⟨_,hF,rfl,rfl⟩
 refine go ?_
 exact xC ⟨hF,rfl,rfl⟩
def q5u  (b17:Bool) (l18:List Int):Option ((List Int)×Bool) :=
 some (l18,b17)
def q2s (p1:List q05) (p2:List q0s) (p3:Int) (p4:List UInt8) (n:Nat):Nat→Bool→(List Int)→Int→Option ((List Int)×Bool)
 | 0,_,_,_=>none
 | m1+1,b14,l15,z16 =>
  cond (decide (z16<(p1.length:Int)))
   (q03 (q13 p1 z16) fun x20 =>
   q03 (qbw n x20 p4) fun r22 =>
   q03 (cond (!r22.2)
    (some true)
    (q03 (q13 p1 z16) fun x25 =>
    q03 (q79 n p2 x25.Name) fun r27 =>
    q03 (q3m n p2 r27 p3) fun r29 =>
    some (!r29))) fun b31 =>
   cond b31
    ((q2s p1 p2 p3 p4 n m1) b14 l15 (IntKind.i64.wrap (z16+1)))
    (q03 (q79 n p2 r22.1) fun r34 =>
    q03 (q13 p2 r34) fun x36 =>
    q03 (qfu n l15 x36.Code) fun r38 =>
    (q2s p1 p2 p3 p4 n m1) true r38 (IntKind.i64.wrap (z16+1))))
   (q5u b14 l15)
def q5t (n:Nat) (p1:List q05) (p2:List q0s) (p3:Int) (p4:List UInt8):Option ((List Int)×Bool) :=
 q03 (q13 p2 0) fun x5 =>
 q2s p1 p2 p3 p4 n n false x5.Code 0
theorem qao (n:Nat) (p1:List q05) (p2:List q0s) (p3:Int) (p4:List UInt8) (r:(List Int)×Bool) (hF:q5t n p1 p2 p3 p4=some r):EvU Tryz.prog 92 [.isl false (List.map q01 p1),.isl false (List.map q0f p2),.int .i64 p3,.str p4] ⟨[],0⟩ (fun u _=>u = .tup [.isl false (List.map (cI .u64) r.1),.bool r.2]∧Bel 0 u):=by
 unfold q5t at hF
 refine bg4 60 fn92 ?_
 obtain ⟨x5,h6,hF⟩:=q00 hF
 refine go ?_
 refine RS.q rfl (q0g rfl rfl (q0b q0f und99 (q04 inf105) q1d h6 rfl)) (RS.q rfl (q1y und105 rfl (q04 inf103) rfl rfl) (RS.q rfl (q0e und103 rfl rfl rfl) ?_))
 refine go ?_
 refine gS (l':=[(0,_),(1,_),(2,_),(3,_),(10,_),(11,_),(12,_)]) ?_
 refine qxe (fun m tm σ=>∃ b14:Bool,∃ l15:List Int,∃ z16:Int,q2s p1 p2 p3 p4 n m b14 l15 z16=some r∧tm=fr 60 [(0,.iM q01 p1),(1,.iM q0f p2),(2,.i6 p3),(3,.str p4),(10,.bool b14),(11,.iM (cI .u64) l15),(12,.i6 z16)]∧σ=⟨[],0⟩) (fun tm σ=>∃ b17:Bool,∃ l18:List Int,q5u b17 l18=some r∧tm=fr 60 [(10,.bool b17),(11,.iM (cI .u64) l18)]∧σ=⟨[],0⟩) n ⟨false,x5.Code,0,hF,rfl,rfl⟩ ?_ ?_
 rintro _ _ ⟨b17,l18,hF,rfl,rfl⟩
 unfold q5u at hF
 refine go ?_
 obtain rfl:=sI hF
 exact rt2 rfl rfl rfl rfl rfl
 rintro (_|m1) _ _ ⟨b14,l15,z16,hF,rfl,rfl⟩
 cases hF
 unfold q2s at hF
 refine go ?_
 refine RS.q rfl (q0c rfl rfl rfl (q08 q01 und38)) ?_
 refine go ?_
 refine cF hF (fun h19 hF=>?_) (fun h19 hF=>?_)
 refine go ?_
 refine WPU.block ?_
 obtain ⟨x20,h21,hF⟩:=q00 hF
 obtain ⟨r22,h23,hF⟩:=q00 hF
 refine go ?_
 refine RS.q rfl (q0g rfl rfl (q0b q01 und38 (q04 inf127) q0h h21 rfl)) (RS.q (u:=.agg (q01 x20)) rfl (qe4 und127 rfl (q04 inf127) rfl rfl) ?_)
 refine go ?_
 refine RS.cl rfl (pC (qg0 n x20 p4 r22 h23) _) fn117 ?_
 obtain ⟨b31,h32,hF⟩:=q00 hF
 refine gn ?_
 refine qxf (fun tm σ=>tm=fr 60 [(0,.iM q01 p1),(1,.iM q0f p2),(2,.i6 p3),(3,.str p4),(10,.bool b14),(11,.iM (cI .u64) l15),(12,.i6 z16),(13,.str r22.1),(48,.bool b31)]∧σ=⟨[],0⟩) ?_ ?_
 rintro _ _ ⟨rfl,rfl⟩
 refine go ?_
 refine cF hF (fun h33 hF=>?_) (fun h33 hF=>?_)
 refine go ?_
 exact lC ⟨b14,l15,(IntKind.i64.wrap (z16+1)),hF,rfl,rfl⟩
 obtain ⟨r34,h35,hF⟩:=q00 hF
 obtain ⟨x36,h37,hF⟩:=q00 hF
 obtain ⟨r38,h39,hF⟩:=q00 hF
 refine go ?_
 refine RS.cl rfl (pC (qah n p2 r22.1 r34 h35) _) fn102 (RS.q rfl (q0g rfl rfl (q0b q0f und99 (q04 inf105) q1d h37 rfl)) (RS.q rfl (q1y und105 rfl (q04 inf103) rfl rfl) (RS.q rfl (q0e und103 rfl rfl rfl) (RS.cl rfl (pC (qjr n l15 x36.Code r38 h39) _) fn118 ?_))))
 refine go ?_
 exact lC ⟨true,r38,(IntKind.i64.wrap (z16+1)),hF,rfl,rfl⟩
 rcases gB h32 with ⟨h24,h32⟩ | ⟨h24,h32⟩
 exact gy h32
 obtain ⟨x25,h26,h32⟩:=q00 h32
 obtain ⟨r27,h28,h32⟩:=q00 h32
 obtain ⟨r29,h30,h32⟩:=q00 h32
 obtain rfl:=sI h32
 refine go ?_
 refine RS.w rfl (q0g rfl rfl (q0b q01 und38 (q04 inf127) q0h h26 rfl)) (RS.w rfl (q1y und127 rfl (q04 inf9) rfl rfl) (RS.w rfl (q0e und9 rfl rfl rfl) (RS.cl rfl (pC (qah n p2 x25.Name r27 h28) _) fn102 ?_)))
 refine go ?_
 refine RS.cl rfl (pC (q3e n p2 r27 p3 r29 h30) _) fn100 ?_
 refine go ?_
 exact xC ⟨rfl,rfl⟩
 refine go ?_
 exact xC ⟨b14,l15,hF,rfl,rfl⟩
def qac (z20:Int) (rc2:Int→Option (Int))  : Option (Int) :=
 rc2 (IntKind.i64.wrap (z20+1))
def q6y (p1:List q05) (n:Nat) (r2:(List q0s)×Int) (r5:(List (List UInt8))) (z20:Int) (rc2:Int→Option (Int)):Nat→Int→Option (Int)
 | 0,_=>none
 | m3+1,z27 =>
  cond (decide (z27<(r5.length:Int)))
   (q03 (q13 r5 z27) fun x29 =>
   q03 (q5t n p1 r2.1 z20 x29) fun r31 =>
   q03 (cond r31.2
    (some ((r31.1.length:Int) == 0))
    (some false)) fun b34 =>
   cond b34
    (some 11)
    ((q6y p1 n r2 r5 z20 rc2 m3) (IntKind.i64.wrap (z27+1))))
   (qac z20 rc2)
def qab   : Option (Int) :=
 some 0
def q3n (p1:List q05) (n:Nat) (r2:(List q0s)×Int) (r5:(List (List UInt8))):Nat→Int→Option (Int)
 | 0,_=>none
 | m2+1,z20 =>
  cond (decide (z20<(r2.1.length:Int)))
   (q6y p1 n r2 r5 z20 (q3n p1 n r2 r5 m2) n 0)
   (qab)
def qaa (p1:List q05) (n:Nat) (r2:(List q0s)×Int) (r5:(List (List UInt8)))  : Option (Int) :=
 q3n p1 n r2 r5 n 0
def q6x (p1:List q05) (n:Nat) (r2:(List q0s)×Int) (r5:(List (List UInt8))):Nat→Int→Option (Int)
 | 0,_=>none
 | m1+1,z15 =>
  cond (decide (z15<(r5.length:Int)))
   (q03 (q13 r5 z15) fun x38 =>
   q03 (qbv n p1 x38) fun r40 =>
   cond (!r40.2)
    (some 10)
    ((q6x p1 n r2 r5 m1) (IntKind.i64.wrap (z15+1))))
   (qaa p1 n r2 r5)
def qbt (n:Nat) (p1:List q05):Option (Int) :=
 q03 (q69 n p1) fun r2 =>
 cond (r2.2 != 0)
  (some r2.2)
  (q03 (q8y n p1) fun r5 =>
  cond (decide ((r5.length:Int) > 64))
   (some 7)
   (q03 (q5s n p1) fun r8 =>
   cond (r8 != 0)
    (some r8)
    (q6x p1 n r2 r5 n 0)))
theorem qfy (n:Nat) (p1:List q05) (r:Int) (hF:qbt n p1=some r):EvU Tryz.prog 90 [.isl false (List.map q01 p1)] ⟨[],0⟩ (fun u _=>u = .int .i64 r∧Bel 0 u):=by
 unfold qbt at hF
 refine bg1 78 fn90 ?_
 obtain ⟨r2,h3,hF⟩:=q00 hF
 refine go ?_
 refine RS.cl rfl (pC (q83 n p1 r2 h3) _) fn72 ?_
 refine go ?_
 refine cF hF (fun h4 hF=>?_) (fun h4 hF=>?_)
 exact gx hF
 obtain ⟨r5,h6,hF⟩:=q00 hF
 refine go ?_
 refine RS.cl rfl (pC (qbu n p1 r5 h6) _) fn91 ?_
 refine go ?_
 refine RS.q rfl (q0c rfl rfl rfl (q08 cS und80)) ?_
 refine go ?_
 refine cF hF (fun h7 hF=>?_) (fun h7 hF=>?_)
 exact gx hF
 obtain ⟨r8,h9,hF⟩:=q00 hF
 refine go ?_
 refine RS.cl rfl (pC (qdu n p1 r8 h9) _) fn115 ?_
 refine go ?_
 refine cF hF (fun h10 hF=>?_) (fun h10 hF=>?_)
 exact gx hF
 refine go ?_
 refine gS (l':=[(0,_),(3,_),(5,_),(7,_)]) ?_
 refine qxe (fun m tm σ=>∃ z15:Int,q6x p1 n r2 r5 m z15=some r∧tm=fr 78 [(0,.iM q01 p1),(3,.iM q0f r2.1),(5,.iM cS r5),(7,.i6 z15)]∧σ=⟨[],0⟩) (fun tm σ=>qaa p1 n r2 r5=some r∧tm=fr 78 [(0,.iM q01 p1),(3,.iM q0f r2.1),(5,.iM cS r5)]∧σ=⟨[],0⟩) n ⟨0,hF,rfl,rfl⟩ ?_ ?_
 rintro _ _ ⟨hF,rfl,rfl⟩
 unfold qaa at hF
 refine go ?_
 refine gS (l':=[(0,_),(3,_),(5,_),(10,_)]) ?_
 refine qxe (fun m tm σ=>∃ z20:Int,q3n p1 n r2 r5 m z20=some r∧tm=fr 78 [(0,.iM q01 p1),(3,.iM q0f r2.1),(5,.iM cS r5),(10,.i6 z20)]∧σ=⟨[],0⟩) (fun tm σ=>qab=some r∧tm=fr 78 []∧σ=⟨[],0⟩) n ⟨0,hF,rfl,rfl⟩ ?_ ?_
 rintro _ _ ⟨hF,rfl,rfl⟩
 unfold qab at hF
 exact gx hF
 rintro (_|m2) _ _ ⟨z20,hF,rfl,rfl⟩
 cases hF
 unfold q3n at hF
 refine go ?_
 refine RS.q rfl (q0c rfl rfl rfl (q08 q0f und99)) ?_
 refine go ?_
 refine cF hF (fun h21 hF=>?_) (fun h21 hF=>?_)
 refine go ?_
 refine WPU.block ?_
 refine go ?_
 refine gS (l':=[(0,_),(3,_),(5,_),(10,_),(11,_)]) ?_
 refine qxe (fun m tm σ=>∃ z27:Int,q6y p1 n r2 r5 z20 (q3n p1 n r2 r5 m2) m z27=some r∧tm=fr 78 [(0,.iM q01 p1),(3,.iM q0f r2.1),(5,.iM cS r5),(10,.i6 z20),(11,.i6 z27)]∧σ=⟨[],0⟩) (fun tm σ=>qac z20 (q3n p1 n r2 r5 m2)=some r∧tm=fr 78 [(0,.iM q01 p1),(3,.iM q0f r2.1),(5,.iM cS r5),(10,.i6 z20)]∧σ=⟨[],0⟩) n ⟨0,hF,rfl,rfl⟩ ?_ ?_
 rintro _ _ ⟨hF,rfl,rfl⟩
 unfold qac at hF
 refine go ?_
 exact lC ⟨_,hF,rfl,rfl⟩
 rintro (_|m3) _ _ ⟨z27,hF,rfl,rfl⟩
 cases hF
 unfold q6y at hF
 refine go ?_
 refine RS.q rfl (q0c rfl rfl rfl (q08 cS und80)) ?_
 refine go ?_
 refine cF hF (fun h28 hF=>?_) (fun h28 hF=>?_)
 refine go ?_
 refine WPU.block ?_
 obtain ⟨x29,h30,hF⟩:=q00 hF
 obtain ⟨r31,h32,hF⟩:=q00 hF
 refine go ?_
 refine RS.q rfl (q0g rfl rfl (q0b cS und80 (q04 inf9) q1b h30 rfl)) (RS.q rfl (q0e und9 rfl rfl rfl) (RS.cl rfl (pC (qao n p1 r2.1 z20 x29 r31 h32) _) fn92 ?_))
 obtain ⟨b34,h35,hF⟩:=q00 hF
 refine gn ?_
 refine qxf (fun tm σ=>tm=fr 78 [(0,.iM q01 p1),(3,.iM q0f r2.1),(5,.iM cS r5),(10,.i6 z20),(11,.i6 z27),(77,.bool b34)]∧σ=⟨[],0⟩) ?_ ?_
 rintro _ _ ⟨rfl,rfl⟩
 refine go ?_
 refine cF hF (fun h36 hF=>?_) (fun h36 hF=>?_)
 exact gx hF
 refine go ?_
 exact lC ⟨_,hF,rfl,rfl⟩
 rcases gB h35 with ⟨h33,h35⟩ | ⟨h33,h35⟩
 obtain rfl:=sI h35
 refine go ?_
 refine RS.w rfl (q0c rfl rfl rfl (q08 (cI .u64) und103)) ?_
 refine go ?_
 exact xC ⟨rfl,rfl⟩
 exact gy h35
 refine go ?_
 exact xC ⟨hF,rfl,rfl⟩
 refine go ?_
 exact xC ⟨hF,rfl,rfl⟩
 rintro (_|m1) _ _ ⟨z15,hF,rfl,rfl⟩
 cases hF
 unfold q6x at hF
 refine go ?_
 refine RS.q rfl (q0c rfl rfl rfl (q08 cS und80)) ?_
 refine go ?_
 refine cF hF (fun h37 hF=>?_) (fun h37 hF=>?_)
 refine go ?_
 refine WPU.block ?_
 obtain ⟨x38,h39,hF⟩:=q00 hF
 obtain ⟨r40,h41,hF⟩:=q00 hF
 refine go ?_
 refine RS.q rfl (q0g rfl rfl (q0b cS und80 (q04 inf9) q1b h39 rfl)) (RS.q rfl (q0e und9 rfl rfl rfl) (RS.cl rfl (pC (qfz n p1 x38 r40 h41) _) fn101 ?_))
 refine go ?_
 refine cF hF (fun h42 hF=>?_) (fun h42 hF=>?_)
 exact gx hF
 refine go ?_
 exact lC ⟨_,hF,rfl,rfl⟩
 refine go ?_
 exact xC ⟨hF,rfl,rfl⟩
def qbo   : Option (Int) :=
 some (-1)
def q84 (p1:List q0s) (n:Nat) (r3:(List Int)):Nat→Int→Option (Int)
 | 0,_=>none
 | m1+1,z8 =>
  cond (decide (z8<(p1.length:Int)))
   (q03 (q13 p1 z8) fun x10 =>
   q03 (qdk n x10.Code r3) fun r12 =>
   cond r12
    (some z8)
    ((q84 p1 n r3 m1) (IntKind.i64.wrap (z8+1))))
   (qbo)
def qh5 (n:Nat) (p1:List q0s) (p2:List Int):Option (Int) :=
 q03 (q54 n p2) fun r3 =>
 q84 p1 n r3 n 0
theorem qny (n:Nat) (p1:List q0s) (p2:List Int) (r:Int) (hF:qh5 n p1 p2=some r):EvU Tryz.prog 93 [.isl false (List.map q0f p1),.isl false (List.map (cI .u64) p2)] ⟨[],0⟩ (fun u _=>u = .int .i64 r∧Bel 0 u):=by
 unfold qh5 at hF
 refine bg2 23 fn93 ?_
 obtain ⟨r3,h4,hF⟩:=q00 hF
 refine go ?_
 refine RS.cl rfl (pC (q6i n p2 r3 h4) _) fn119 ?_
 refine go ?_
 refine gS (l':=[(0,_),(5,_),(6,_)]) ?_
 refine qxe (fun m tm σ=>∃ z8:Int,q84 p1 n r3 m z8=some r∧tm=fr 23 [(0,.iM q0f p1),(5,.iM (cI .u64) r3),(6,.i6 z8)]∧σ=⟨[],0⟩) (fun tm σ=>qbo=some r∧tm=fr 23 []∧σ=⟨[],0⟩) n ⟨0,hF,rfl,rfl⟩ ?_ ?_
 rintro _ _ ⟨hF,rfl,rfl⟩
 unfold qbo at hF
 exact gx hF
 rintro (_|m1) _ _ ⟨z8,hF,rfl,rfl⟩
 cases hF
 unfold q84 at hF
 refine go ?_
 refine RS.q rfl (q0c rfl rfl rfl (q08 q0f und99)) ?_
 refine go ?_
 refine cF hF (fun h9 hF=>?_) (fun h9 hF=>?_)
 refine go ?_
 refine WPU.block ?_
 obtain ⟨x10,h11,hF⟩:=q00 hF
 obtain ⟨r12,h13,hF⟩:=q00 hF
 refine go ?_
 refine RS.q rfl (q0g rfl rfl (q0b q0f und99 (q04 inf105) q1d h11 rfl)) (RS.q rfl (q1y und105 rfl (q04 inf103) rfl rfl) (RS.q rfl (q0e und103 rfl rfl rfl) ?_))
 refine go ?_
 refine RS.cl rfl (pC (qho n x10.Code r3 r12 h13) _) fn120 ?_
 refine go ?_
 refine cF hF (fun h14 hF=>?_) (fun h14 hF=>?_)
 exact gx hF
 refine go ?_
 exact lC ⟨_,hF,rfl,rfl⟩
 refine go ?_
 exact xC ⟨hF,rfl,rfl⟩
def q5r (z30:Int) (rc2:Int→(List q0x)→Option ((List (List q0x))×Int)) (l42:List q0x):Option ((List (List q0x))×Int) :=
 rc2 (IntKind.i64.wrap (z30+1)) l42
def q8x (z15:Int) (l16:List (List q0x)) (rc1:Int→(List (List q0x))→Option ((List (List q0x))×Int)) (l33:List q0x):Option ((List (List q0x))×Int) :=
 q16 ((l16.length+1)*24≤140737488355328∧l16.length+1≤140737488355328) (
 rc1 (IntKind.i64.wrap (z15+1)) (l16++[l33]))
def q32 (p1:List q05) (n:Nat) (r5:(List q0s)×Int) (r7:(List (List UInt8))) (z15:Int) (l16:List (List q0x)) (rc1:Int→(List (List q0x))→Option ((List (List q0x))×Int)):Nat→Int→(List q0x)→Option ((List (List q0x))×Int)
 | 0,_,_=>none
 | m2+1,z30,l31 =>
  cond (decide (z30<(r7.length:Int)))
   (q03 (q13 r7 z30) fun x37 =>
   q03 (q5t n p1 r5.1 z15 x37) fun r39 =>
   cond r39.2
    (q03 (qh5 n r5.1 r39.1) fun r44 =>
    q16 ((l31.length+1)*16≤140737488355328∧l31.length+1≤140737488355328) (
    q5r z30 (q32 p1 n r5 r7 z15 l16 rc1 m2) (l31++[(q0x.mk z30 r44)])))
    (q5r z30 (q32 p1 n r5 r7 z15 l16 rc1 m2) l31))
   (q8x z15 l16 rc1 l31)
def q8w  (l18:List (List q0x)):Option ((List (List q0x))×Int) :=
 some (l18,0)
def q2h (p1:List q05) (n:Nat) (r5:(List q0s)×Int) (r7:(List (List UInt8))):Nat→Int→(List (List q0x))→Option ((List (List q0x))×Int)
 | 0,_,_=>none
 | m1+1,z15,l16 =>
  cond (decide (z15<(r5.1.length:Int)))
   (q32 p1 n r5 r7 z15 l16 (q2h p1 n r5 r7 m1) n 0 ([]:List q0x))
   (q8w l16)
def qcz (n:Nat) (p1:List q05):Option ((List (List q0x))×Int) :=
 q03 (qbt n p1) fun r2 =>
 cond (r2 != 0)
  (some ([],r2))
  (q03 (q69 n p1) fun r5 =>
  q03 (q8y n p1) fun r7 =>
  q2h p1 n r5 r7 n 0 ([]:List (List q0x)))
theorem qkq (n:Nat) (p1:List q05) (r:(List (List q0x))×Int) (hF:qcz n p1=some r):EvU Tryz.prog 71 [.isl false (List.map q01 p1)] ⟨[],0⟩ (fun u _=>u = .tup [.isl false (List.map (cL q0p) r.1),.int .i64 r.2]∧Bel 0 u):=by
 unfold qcz at hF
 refine bg1 63 fn71 ?_
 obtain ⟨r2,h3,hF⟩:=q00 hF
 refine go ?_
 refine RS.cl rfl (pC (qfy n p1 r2 h3) _) fn90 ?_
 refine go ?_
 refine cF hF (fun h4 hF=>?_) (fun h4 hF=>?_)
 refine go ?_
 obtain rfl:=sI hF
 exact rT (us:=[.nils,.i6 r2]) (u:=.tup [.isl false [],.i6 r2]) (q2j rfl (q2j rfl (q33))) wR
 obtain ⟨r5,h6,hF⟩:=q00 hF
 refine go ?_
 refine RS.cl rfl (pC (q83 n p1 r5 h6) _) fn72 ?_
 obtain ⟨r7,h8,hF⟩:=q00 hF
 refine go ?_
 refine RS.cl rfl (pC (qbu n p1 r7 h8) _) fn91 ?_
 refine gr ?_
 refine gr ?_
 refine WPU.ghost (tm':=fr 63 [(0,.iM q01 p1),(5,.iM q0f r5.1),(7,.iM cS r7),(8,.vl 0 0 0 (([]:List (List q0x)).length)),(9,.i6 0)]) (σ':=⟨[(0,.vec (List.map (cL q0p) ([]:List (List q0x))).flatten 107 1 0)],1⟩) (Gh.trans (qxl 8 107 1 (by decide) NZ rfl rfl) (qxk ⟨rfl,rfl,rfl,rfl,rfl,trivial⟩ rfl)) NZ ?_
 refine gS (l':=[(0,_),(5,_),(7,_),(8,_),(9,_)]) ?_
 refine qxe (fun m tm σ=>∃ z15:Int,∃ l16:List (List q0x),∃ t17:Nat,q2h p1 n r5 r7 m z15 l16=some r∧tm=fr 63 [(0,.iM q01 p1),(5,.iM q0f r5.1),(7,.iM cS r7),(8,.vl 0 t17 0 l16.length),(9,.i6 z15)]∧σ=⟨[(0,.vec (List.map (cL q0p) l16).flatten 107 1 t17)],1⟩) (fun tm σ=>∃ l18:List (List q0x),∃ t19:Nat,q8w l18=some r∧tm=fr 63 [(8,.vl 0 t19 0 l18.length)]∧σ=⟨[(0,.vec (List.map (cL q0p) l18).flatten 107 1 t19)],1⟩) n ⟨0,([]:List (List q0x)),0,hF,rfl,rfl⟩ ?_ ?_
 rintro _ _ ⟨l18,t19,hF,rfl,rfl⟩
 unfold q8w at hF
 refine go ?_
 obtain rfl:=sI hF
 exact rT (us:=[.vl 0 t19 0 l18.length,.i6 0]) (u:=.tup [.iM (cL q0p) l18,.i6 0]) (q2j rfl (q2j rfl (q33))) (fR 0 1)
 rintro (_|m1) _ _ ⟨z15,l16,t17,hF,rfl,rfl⟩
 cases hF
 unfold q2h at hF
 refine go ?_
 refine RS.q rfl (q0c rfl rfl rfl (q08 q0f und99)) ?_
 refine go ?_
 refine cF hF (fun h20 hF=>?_) (fun h20 hF=>?_)
 refine go ?_
 refine WPU.block ?_
 refine gr ?_
 refine gr ?_
 refine WPU.ghost (tm':=fr 63 [(0,.iM q01 p1),(5,.iM q0f r5.1),(7,.iM cS r7),(8,.vl 0 t17 0 l16.length),(9,.i6 z15),(10,.vl 1 0 0 (([]:List q0x).length)),(11,.i6 0)]) (σ':=⟨[(1,.vec (List.map q0p ([]:List q0x)).flatten 147 2 0),(0,.vec (List.map (cL q0p) l16).flatten 107 1 t17)],2⟩) (Gh.trans (qxl 10 147 2 (by decide) NZ rfl rfl) (qxk ⟨rfl,rfl,rfl,rfl,rfl,rfl,rfl,trivial⟩ rfl)) NZ ?_
 refine gS (l':=[(0,_),(5,_),(7,_),(8,_),(9,_),(10,_),(11,_)]) ?_
 refine qxe (fun m tm σ=>∃ z30:Int,∃ l31:List q0x,∃ t32:Nat,q32 p1 n r5 r7 z15 l16 (q2h p1 n r5 r7 m1) m z30 l31=some r∧tm=fr 63 [(0,.iM q01 p1),(5,.iM q0f r5.1),(7,.iM cS r7),(8,.vl 0 t17 0 l16.length),(9,.i6 z15),(10,.vl 1 t32 0 l31.length),(11,.i6 z30)]∧σ=⟨[(1,.vec (List.map q0p l31).flatten 147 2 t32),(0,.vec (List.map (cL q0p) l16).flatten 107 1 t17)],2⟩) (fun tm σ=>∃ l33:List q0x,∃ t34:Nat,q8x z15 l16 (q2h p1 n r5 r7 m1) l33=some r∧tm=fr 63 [(0,.iM q01 p1),(5,.iM q0f r5.1),(7,.iM cS r7),(8,.vl 0 t17 0 l16.length),(9,.i6 z15),(10,.vl 1 t34 0 l33.length)]∧σ=⟨[(1,.vec (List.map q0p l33).flatten 147 2 t34),(0,.vec (List.map (cL q0p) l16).flatten 107 1 t17)],2⟩) n ⟨0,([]:List q0x),0,hF,rfl,rfl⟩ ?_ ?_
 rintro _ _ ⟨l33,t34,hF,rfl,rfl⟩
 unfold q8x at hF
 refine gn ?_
 refine WPU.ghost (tm':=fr 63 [(0,.iM q01 p1),(5,.iM q0f r5.1),(7,.iM cS r7),(8,.vl 0 t17 0 l16.length),(9,.i6 z15),(10,.iM q0p l33)]) (σ':=⟨[(0,.vec (List.map (cL q0p) l16).flatten 107 1 t17)],2⟩) (Gh.trans (Gh.sub (l':=[(0,.iM q01 p1),(5,.iM q0f r5.1),(7,.iM cS r7),(8,.vl 0 t17 0 l16.length),(9,.i6 z15),(10,.vl 1 t34 0 l33.length)]) ⟨rfl,rfl,rfl,rfl,rfl,rfl,trivial⟩) (qxt 1 2)) NZ ?_
 obtain ⟨h35,hF⟩:=q0a hF
 refine go ?_
 refine RS.q (u:=.sl 2 0 1 1) (σ':=⟨[(2,.row [.iM q0p l33] 107),(0,.vec (List.map (cL q0p) l16).flatten 107 1 t17)],3⟩) rfl (q0i und96 inf107 rfl rfl rfl rfl rfl rfl rfl) (RS.q (u:=.vl 0 (t17+1) 0 ((l16++[l33]).length)) (σ':=⟨[(2,.row [.iM q0p l33] 107),(0,.vec (List.map (cL q0p) (l16++[l33])).flatten 107 1 (t17+1))],3⟩) rfl (q1o rfl rfl rfl rfl (q20 (cL q0p) ([l33]) und96 und96 inf107 rfl (q3c q0p) rfl (q1k (cL q0p) [l33] rfl rfl rfl rfl) h35)) ?_)
 refine go ?_
 exact lC ⟨_,(l16++[l33]),(t17+1),hF,rfl,rfl⟩
 rintro (_|m2) _ _ ⟨z30,l31,t32,hF,rfl,rfl⟩
 cases hF
 unfold q32 at hF
 refine go ?_
 refine RS.q rfl (q0c rfl rfl rfl (q08 cS und80)) ?_
 refine go ?_
 refine cF hF (fun h36 hF=>?_) (fun h36 hF=>?_)
 refine go ?_
 refine WPU.block ?_
 obtain ⟨x37,h38,hF⟩:=q00 hF
 obtain ⟨r39,h40,hF⟩:=q00 hF
 refine go ?_
 refine RS.q rfl (q0g rfl rfl (q0b cS und80 (q04 inf9) q1b h38 rfl)) (RS.q rfl (q0e und9 rfl rfl rfl) (RS.cl rfl (pC (qao n p1 r5.1 z15 x37 r39 h40) _) fn92 ?_))
 refine gr ?_
 refine qxf (fun tm σ=>∃ l42:List q0x,∃ t43:Nat,q5r z30 (q32 p1 n r5 r7 z15 l16 (q2h p1 n r5 r7 m1) m2) l42=some r∧tm=fr 63 [(0,.iM q01 p1),(5,.iM q0f r5.1),(7,.iM cS r7),(8,.vl 0 t17 0 l16.length),(9,.i6 z15),(10,.vl 1 t43 0 l42.length),(11,.i6 z30)]∧σ=⟨[(1,.vec (List.map q0p l42).flatten 147 2 t43),(0,.vec (List.map (cL q0p) l16).flatten 107 1 t17)],2⟩) ?_ ?_
 rintro _ _ ⟨l42,t43,hF,rfl,rfl⟩
 unfold q5r at hF
 refine go ?_
 exact lC ⟨_,l42,t43,hF,rfl,rfl⟩
 refine cF hF (fun h41 hF=>?_) (fun h41 hF=>?_)
 obtain ⟨r44,h45,hF⟩:=q00 hF
 obtain ⟨h46,hF⟩:=q0a hF
 refine go ?_
 refine RS.cl rfl (pC (qny n r5.1 r39.1 r44 h45) _) fn93 (RS.q (u:=.agg [.i6 z30,.i6 r44]) rfl (q3y bd147 rfl rfl rfl) (RS.q (u:=.sl 2 0 1 1) (σ':=⟨[(2,.row [.i6 z30,.i6 r44] 147),(1,.vec (List.map q0p l31).flatten 147 2 t32),(0,.vec (List.map (cL q0p) l16).flatten 107 1 t17)],3⟩) rfl (q0i und107 inf147 rfl rfl rfl rfl rfl rfl rfl) (RS.q (u:=.vl 1 (t32+1) 0 ((l31++[(q0x.mk z30 r44)]).length)) (σ':=⟨[(2,.row [.i6 z30,.i6 r44] 147),(1,.vec (List.map q0p (l31++[(q0x.mk z30 r44)])).flatten 147 2 (t32+1)),(0,.vec (List.map (cL q0p) l16).flatten 107 1 t17)],3⟩) rfl (q1o rfl rfl rfl rfl (q20 q0p ([(q0x.mk z30 r44)]) und107 und107 inf147 rfl qhm rfl (q1k q0p [(q0x.mk z30 r44)] rfl rfl rfl rfl) h46)) ?_)))
 refine go ?_
 exact xC ⟨(l31++[(q0x.mk z30 r44)]),(t32+1),hF,rfl,rfl⟩
 refine go ?_
 exact xC ⟨l31,t32,hF,rfl,rfl⟩
 refine go ?_
 exact xC ⟨l31,t32,hF,rfl,rfl⟩
 refine go ?_
 exact xC ⟨l16,t17,hF,rfl,rfl⟩
def q5o (z8:Int) (rc1:Int→(List Int)→Option ((List Int))) (l31:List Int):Option ((List Int)) :=
 rc1 (IntKind.i64.wrap (z8+1)) l31
def q8t (z8:Int) (l9:List Int) (rc1:Int→(List Int)→Option ((List Int))) (b29:Bool):Option ((List Int)) :=
 cond b29
  (q16 ((l9.length+1)*8≤140737488355328∧l9.length+1≤140737488355328) (
  q5o z8 rc1 (l9++[z8])))
  (q5o z8 rc1 l9)
def q5p (p1:List q0s) (p2:Int) (n:Nat) (z8:Int) (l9:List Int) (rc1:Int→(List Int)→Option ((List Int))):Nat→Bool→Int→Option ((List Int))
 | 0,_,_=>none
 | m2+1,b27,z28 =>
  cond (decide (z28<(p1.length:Int)))
   (q03 (cond b27
    (cond (z28 == p2)
     (some true)
     (cond (z28 == z8)
      (some true)
      (q03 (q3m n p1 z8 z28) fun r38 =>
      cond (!r38)
       (some true)
       (q03 (q3m n p1 z28 p2) fun r41 =>
       some (!r41)))))
    (some false)) fun b43 =>
   (q5p p1 p2 n z8 l9 rc1 m2) b43 (IntKind.i64.wrap (z28+1)))
   (q8t z8 l9 rc1 b27)
def q8s  (l11:List Int):Option ((List Int)) :=
 some l11
def q23 (p1:List q0s) (p2:Int) (n:Nat):Nat→Int→(List Int)→Option ((List Int))
 | 0,_,_=>none
 | m1+1,z8,l9 =>
  cond (decide (z8<(p1.length:Int)))
   (q03 (cond (z8 == p2)
    (some true)
    (q03 (q3m n p1 z8 p2) fun r15 =>
    some (!r15))) fun b17 =>
   cond b17
    ((q23 p1 p2 n m1) (IntKind.i64.wrap (z8+1)) l9)
    (q5p p1 p2 n z8 l9 (q23 p1 p2 n m1) n true 0))
   (q8s l9)
def qcw (n:Nat) (p1:List q0s) (p2:Int):Option ((List Int)) :=
 q23 p1 p2 n n 0 ([]:List Int)
theorem qkn (n:Nat) (p1:List q0s) (p2:Int) (r:(List Int)) (hF:qcw n p1 p2=some r):EvU Tryz.prog 73 [.isl false (List.map q0f p1),.int .i64 p2] ⟨[],0⟩ (fun u _=>u = .isl false (List.map (cI .i64) r)∧Bel 0 u):=by
 unfold qcw at hF
 refine bg2 62 fn73 ?_
 refine gr ?_
 refine gr ?_
 refine gr ?_
 refine WPU.ghost (tm':=fr 62 [(0,.iM q0f p1),(1,.i6 p2),(5,.vl 0 0 0 (([]:List Int).length)),(6,.i6 0)]) (σ':=⟨[(0,.vec (List.map (cI .i64) ([]:List Int)).flatten 3 1 0)],1⟩) (Gh.trans (qxl 5 3 1 (by decide) NZ rfl rfl) (qxk ⟨rfl,rfl,rfl,rfl,trivial⟩ rfl)) NZ ?_
 refine gS (l':=[(0,_),(1,_),(5,_),(6,_)]) ?_
 refine qxe (fun m tm σ=>∃ z8:Int,∃ l9:List Int,∃ t10:Nat,q23 p1 p2 n m z8 l9=some r∧tm=fr 62 [(0,.iM q0f p1),(1,.i6 p2),(5,.vl 0 t10 0 l9.length),(6,.i6 z8)]∧σ=⟨[(0,.vec (List.map (cI .i64) l9).flatten 3 1 t10)],1⟩) (fun tm σ=>∃ l11:List Int,∃ t12:Nat,q8s l11=some r∧tm=fr 62 [(5,.vl 0 t12 0 l11.length)]∧σ=⟨[(0,.vec (List.map (cI .i64) l11).flatten 3 1 t12)],1⟩) n ⟨0,([]:List Int),0,hF,rfl,rfl⟩ ?_ ?_
 rintro _ _ ⟨l11,t12,hF,rfl,rfl⟩
 unfold q8s at hF
 refine go ?_
 obtain rfl:=sI hF
 exact rT (us:=[.vl 0 t12 0 l11.length]) (u:=.iM (cI .i64) l11) (q2j rfl (q33)) (fR 0 1)
 rintro (_|m1) _ _ ⟨z8,l9,t10,hF,rfl,rfl⟩
 cases hF
 unfold q23 at hF
 refine go ?_
 refine RS.q rfl (q0c rfl rfl rfl (q08 q0f und99)) ?_
 refine go ?_
 refine cF hF (fun h13 hF=>?_) (fun h13 hF=>?_)
 refine go ?_
 refine WPU.block ?_
 obtain ⟨b17,h18,hF⟩:=q00 hF
 refine gn ?_
 refine qxf (fun tm σ=>tm=fr 62 [(0,.iM q0f p1),(1,.i6 p2),(5,.vl 0 t10 0 l9.length),(6,.i6 z8),(24,.bool b17)]∧σ=⟨[(0,.vec (List.map (cI .i64) l9).flatten 3 1 t10)],1⟩) ?_ ?_
 rintro _ _ ⟨rfl,rfl⟩
 refine go ?_
 refine cF hF (fun h19 hF=>?_) (fun h19 hF=>?_)
 refine go ?_
 exact lC ⟨_,l9,t10,hF,rfl,rfl⟩
 refine go ?_
 refine gS (l':=[(0,_),(1,_),(5,_),(6,_),(7,_),(8,_)]) ?_
 refine qxe (fun m tm σ=>∃ b27:Bool,∃ z28:Int,q5p p1 p2 n z8 l9 (q23 p1 p2 n m1) m b27 z28=some r∧tm=fr 62 [(0,.iM q0f p1),(1,.i6 p2),(5,.vl 0 t10 0 l9.length),(6,.i6 z8),(7,.bool b27),(8,.i6 z28)]∧σ=⟨[(0,.vec (List.map (cI .i64) l9).flatten 3 1 t10)],1⟩) (fun tm σ=>∃ b29:Bool,q8t z8 l9 (q23 p1 p2 n m1) b29=some r∧tm=fr 62 [(0,.iM q0f p1),(1,.i6 p2),(5,.vl 0 t10 0 l9.length),(6,.i6 z8),(7,.bool b29)]∧σ=⟨[(0,.vec (List.map (cI .i64) l9).flatten 3 1 t10)],1⟩) n ⟨true,0,hF,rfl,rfl⟩ ?_ ?_
 rintro _ _ ⟨b29,hF,rfl,rfl⟩
 unfold q8t at hF
 refine gr ?_
 refine qxf (fun tm σ=>∃ l31:List Int,∃ t32:Nat,q5o z8 (q23 p1 p2 n m1) l31=some r∧tm=fr 62 [(0,.iM q0f p1),(1,.i6 p2),(5,.vl 0 t32 0 l31.length),(6,.i6 z8)]∧σ=⟨[(0,.vec (List.map (cI .i64) l31).flatten 3 1 t32)],1⟩) ?_ ?_
 rintro _ _ ⟨l31,t32,hF,rfl,rfl⟩
 unfold q5o at hF
 refine go ?_
 exact lC ⟨_,l31,t32,hF,rfl,rfl⟩
 refine cF hF (fun h30 hF=>?_) (fun h30 hF=>?_)
 obtain ⟨h33,hF⟩:=q0a hF
 refine go ?_
 refine RS.q (u:=.sl 1 0 1 1) (σ':=⟨[(1,.row [.i6 z8] 3),(0,.vec (List.map (cI .i64) l9).flatten 3 1 t10)],2⟩) rfl (q0i und33 inf3 rfl rfl rfl rfl rfl rfl rfl) (RS.q (u:=.vl 0 (t10+1) 0 ((l9++[z8]).length)) (σ':=⟨[(1,.row [.i6 z8] 3),(0,.vec (List.map (cI .i64) (l9++[z8])).flatten 3 1 (t10+1))],2⟩) rfl (q1o rfl rfl rfl rfl (q20 (cI .i64) ([z8]) und33 und33 inf3 rfl (q19 .i64) rfl (q1k (cI .i64) [z8] rfl rfl rfl rfl) h33)) ?_)
 refine go ?_
 exact xC ⟨(l9++[z8]),(t10+1),hF,rfl,rfl⟩
 refine go ?_
 exact xC ⟨l9,t10,hF,rfl,rfl⟩
 rintro (_|m2) _ _ ⟨b27,z28,hF,rfl,rfl⟩
 cases hF
 unfold q5p at hF
 refine go ?_
 refine RS.q rfl (q0c rfl rfl rfl (q08 q0f und99)) ?_
 refine go ?_
 refine cF hF (fun h34 hF=>?_) (fun h34 hF=>?_)
 refine go ?_
 refine WPU.block ?_
 obtain ⟨b43,h44,hF⟩:=q00 hF
 refine gn ?_
 refine qxf (fun tm σ=>tm=fr 62 [(0,.iM q0f p1),(1,.i6 p2),(5,.vl 0 t10 0 l9.length),(6,.i6 z8),(7,.bool b43),(8,.i6 z28)]∧σ=⟨[(0,.vec (List.map (cI .i64) l9).flatten 3 1 t10)],1⟩) ?_ ?_
 rintro _ _ ⟨rfl,rfl⟩
 refine go ?_
 exact lC ⟨b43,(IntKind.i64.wrap (z28+1)),hF,rfl,rfl⟩
 rcases gB h44 with ⟨h35,h44⟩ | ⟨h35,h44⟩
 rcases gB h44 with ⟨h36,h44⟩ | ⟨h36,h44⟩
 exact gy h44
 rcases gB h44 with ⟨h37,h44⟩ | ⟨h37,h44⟩
 exact gy h44
 obtain ⟨r38,h39,h44⟩:=q00 h44
 rcases gB h44 with ⟨h40,h44⟩ | ⟨h40,h44⟩
 obtain rfl:=sI h44
 refine go ?_
 refine RS.cl rfl (pC (q3e n p1 z8 z28 r38 h39) _) fn100 ?_
 refine go ?_
 exact xC ⟨rfl,rfl⟩
 obtain ⟨r41,h42,h44⟩:=q00 h44
 obtain rfl:=sI h44
 refine go ?_
 refine RS.cl rfl (pC (q3e n p1 z8 z28 r38 h39) _) fn100 ?_
 refine go ?_
 refine RS.cl rfl (pC (q3e n p1 z28 p2 r41 h42) _) fn100 ?_
 refine go ?_
 exact xC ⟨rfl,rfl⟩
 obtain rfl:=sI h44
 refine go ?_
 repeat refine RS.no (qku rfl rfl rfl) rfl rfl ?_
 refine go ?_
 repeat refine RS.no (qku rfl rfl rfl) rfl rfl ?_
 refine go ?_
 repeat refine RS.no (qku rfl rfl rfl) rfl rfl ?_
 refine go ?_
 exact xC ⟨rfl,rfl⟩
 refine go ?_
 exact xC ⟨b27,hF,rfl,rfl⟩
 rcases gB h18 with ⟨h14,h18⟩ | ⟨h14,h18⟩
 exact gy h18
 obtain ⟨r15,h16,h18⟩:=q00 h18
 obtain rfl:=sI h18
 refine go ?_
 refine RS.cl rfl (pC (q3e n p1 z8 p2 r15 h16) _) fn100 ?_
 refine go ?_
 exact xC ⟨rfl,rfl⟩
 refine go ?_
 exact xC ⟨l9,t10,hF,rfl,rfl⟩
def q6a  (l18:List q1a):Option ((List q1a)×Int) :=
 some (l18,0)
def q4c (p1:List q05) (n:Nat) (r5:(List q0s)×Int) (r7:(List (List UInt8))):Nat→Int→(List q1a)→Option ((List q1a)×Int)
 | 0,_,_=>none
 | m1+1,z15,l16 =>
  cond (decide (z15<(r7.length:Int)))
   (q03 (q13 r7 z15) fun x21 =>
   q03 (qbv n p1 x21) fun r23 =>
   q03 (q13 r7 z15) fun x25 =>
   q03 (q79 n r5.1 r23.1) fun r27 =>
   q16 ((l16.length+1)*24≤140737488355328∧l16.length+1≤140737488355328) (
   (q4c p1 n r5 r7 m1) (IntKind.i64.wrap (z15+1)) (l16++[(q1a.mk x25 r27)])))
   (q6a l16)
def qad (n:Nat) (p1:List q05):Option ((List q1a)×Int) :=
 q03 (qbt n p1) fun r2 =>
 cond (r2 != 0)
  (some ([],r2))
  (q03 (q69 n p1) fun r5 =>
  q03 (q8y n p1) fun r7 =>
  q4c p1 n r5 r7 n 0 ([]:List q1a))
theorem qi3 (n:Nat) (p1:List q05) (r:(List q1a)×Int) (hF:qad n p1=some r):EvU Tryz.prog 74 [.isl false (List.map q01 p1)] ⟨[],0⟩ (fun u _=>u = .tup [.isl false (List.map q12 r.1),.int .i64 r.2]∧Bel 0 u):=by
 unfold qad at hF
 refine bg1 51 fn74 ?_
 obtain ⟨r2,h3,hF⟩:=q00 hF
 refine go ?_
 refine RS.cl rfl (pC (qfy n p1 r2 h3) _) fn90 ?_
 refine go ?_
 refine cF hF (fun h4 hF=>?_) (fun h4 hF=>?_)
 refine go ?_
 obtain rfl:=sI hF
 exact rT (us:=[.nils,.i6 r2]) (u:=.tup [.isl false [],.i6 r2]) (q2j rfl (q2j rfl (q33))) wR
 obtain ⟨r5,h6,hF⟩:=q00 hF
 refine go ?_
 refine RS.cl rfl (pC (q83 n p1 r5 h6) _) fn72 ?_
 obtain ⟨r7,h8,hF⟩:=q00 hF
 refine go ?_
 refine RS.cl rfl (pC (qbu n p1 r7 h8) _) fn91 ?_
 refine gr ?_
 refine gr ?_
 refine WPU.ghost (tm':=fr 51 [(0,.iM q01 p1),(5,.iM q0f r5.1),(7,.iM cS r7),(8,.vl 0 0 0 (([]:List q1a).length)),(9,.i6 0)]) (σ':=⟨[(0,.vec (List.map q12 ([]:List q1a)).flatten 82 2 0)],1⟩) (Gh.trans (qxl 8 82 2 (by decide) NZ rfl rfl) (qxk ⟨rfl,rfl,rfl,rfl,rfl,trivial⟩ rfl)) NZ ?_
 refine gS (l':=[(0,_),(5,_),(7,_),(8,_),(9,_)]) ?_
 refine qxe (fun m tm σ=>∃ z15:Int,∃ l16:List q1a,∃ t17:Nat,q4c p1 n r5 r7 m z15 l16=some r∧tm=fr 51 [(0,.iM q01 p1),(5,.iM q0f r5.1),(7,.iM cS r7),(8,.vl 0 t17 0 l16.length),(9,.i6 z15)]∧σ=⟨[(0,.vec (List.map q12 l16).flatten 82 2 t17)],1⟩) (fun tm σ=>∃ l18:List q1a,∃ t19:Nat,q6a l18=some r∧tm=fr 51 [(8,.vl 0 t19 0 l18.length)]∧σ=⟨[(0,.vec (List.map q12 l18).flatten 82 2 t19)],1⟩) n ⟨0,([]:List q1a),0,hF,rfl,rfl⟩ ?_ ?_
 rintro _ _ ⟨l18,t19,hF,rfl,rfl⟩
 unfold q6a at hF
 refine go ?_
 obtain rfl:=sI hF
 exact rT (us:=[.vl 0 t19 0 l18.length,.i6 0]) (u:=.tup [.iM q12 l18,.i6 0]) (q2j rfl (q2j rfl (q33))) (fR 0 2)
 rintro (_|m1) _ _ ⟨z15,l16,t17,hF,rfl,rfl⟩
 cases hF
 unfold q4c at hF
 refine go ?_
 refine RS.q rfl (q0c rfl rfl rfl (q08 cS und80)) ?_
 refine go ?_
 refine cF hF (fun h20 hF=>?_) (fun h20 hF=>?_)
 refine go ?_
 refine WPU.block ?_
 obtain ⟨x21,h22,hF⟩:=q00 hF
 obtain ⟨r23,h24,hF⟩:=q00 hF
 refine go ?_
 refine RS.q rfl (q0g rfl rfl (q0b cS und80 (q04 inf9) q1b h22 rfl)) (RS.q rfl (q0e und9 rfl rfl rfl) (RS.cl rfl (pC (qfz n p1 x21 r23 h24) _) fn101 ?_))
 obtain ⟨x25,h26,hF⟩:=q00 hF
 obtain ⟨r27,h28,hF⟩:=q00 hF
 obtain ⟨h29,hF⟩:=q0a hF
 refine go ?_
 refine qxh Tryz.tb_ok [(0,9)] (by kernel_rfl) ?_
 repeat refine RD.mv rfl rfl rfl rfl ?_
 refine RD.q rfl (q0g rfl rfl (q0b cS und80 (q04 inf9) q1b h26 rfl)) (RD.q rfl (q0e und9 rfl rfl rfl) ?_)
 repeat refine RD.mv rfl rfl rfl rfl ?_
 refine RD.fl rfl (pC (qah n r5.1 r23.1 r27 h28)) fn102 (RD.q (u:=.agg [.str x25,.i6 r27]) rfl (q3y bd82 rfl rfl rfl) (RD.act (u:=.sl 1 0 1 1) (σ':=⟨[(1,.row [.str x25,.i6 r27] 82),(0,.vec (List.map q12 l16).flatten 82 2 t17)],2⟩) rfl (q0i und41 inf82 rfl rfl rfl rfl rfl rfl rfl) rfl rfl (RD.act (u:=.vl 0 (t17+1) 0 ((l16++[(q1a.mk x25 r27)]).length)) (σ':=⟨[(1,.row [.str x25,.i6 r27] 82),(0,.vec (List.map q12 (l16++[(q1a.mk x25 r27)])).flatten 82 2 (t17+1))],2⟩) rfl (q1o rfl rfl rfl rfl (q20 q12 ([(q1a.mk x25 r27)]) und41 und41 inf82 rfl q7s rfl (q1k q12 [(q1a.mk x25 r27)] rfl rfl rfl rfl) h29)) rfl rfl (RD.as rfl rfl rfl rfl ?_))))
 refine RD.done ⟨by kernel_rfl,⟨q21 rfl,trivial⟩,?_⟩
 refine go ?_
 exact lC ⟨_,(l16++[(q1a.mk x25 r27)]),(t17+1),hF,rfl,rfl⟩
 refine go ?_
 exact xC ⟨l16,t17,hF,rfl,rfl⟩
def q7f (p1:List q05) (n:Nat) (l16:List q8g):Option (q0w×Int) :=
 q03 (qad n p1) fun r18 =>
 some ((q0w.mk l16 r18.1),0)
def q4o (p1:List q05) (n:Nat) (r2:(List (List q0x))×Int) (r5:(List q0s)×Int):Nat→Int→(List q8g)→Option (q0w×Int)
 | 0,_,_=>none
 | m1+1,z13,l14 =>
  cond (decide (z13<(r5.1.length:Int)))
   (q03 (q13 r5.1 z13) fun x21 =>
   q03 (q13 r5.1 z13) fun x23 =>
   q03 (qcw n r5.1 z13) fun r25 =>
   q03 (q13 r2.1 z13) fun x27 =>
   q16 ((l14.length+1)*88≤140737488355328∧l14.length+1≤140737488355328) (
   (q4o p1 n r2 r5 m1) (IntKind.i64.wrap (z13+1)) (l14++[(q8g.mk x21.Name x23.Code r25 x27)])))
   (q7f p1 n l14)
def qbx (n:Nat) (p1:List q05):Option (q0w×Int) :=
 q03 (qcz n p1) fun r2 =>
 cond (r2.2 != 0)
  (some ((q0w.mk [] []),r2.2))
  (q03 (q69 n p1) fun r5 =>
  q4o p1 n r2 r5 n 0 ([]:List q8g))
theorem qjt (n:Nat) (p1:List q05) (r:q0w×Int) (hF:qbx n p1=some r):EvU Tryz.prog 51 [.isl false (List.map q01 p1)] ⟨[],0⟩ (fun u _=>u = .tup [.agg (q06 r.1),.int .i64 r.2]∧Bel 0 u):=by
 unfold qbx at hF
 refine bg1 63 fn51 ?_
 refine go ?_
 refine RS.q (u:=.ptr 0 0 0) (σ':=⟨[(0,.row [.nils,.nils] 43)],1⟩) rfl (q1h inf43 rfl rfl) ?_
 obtain ⟨r2,h3,hF⟩:=q00 hF
 refine go ?_
 refine RS.cl rfl (pC (qkq n p1 r2 h3) _) fn71 ?_
 refine go ?_
 refine cF hF (fun h4 hF=>?_) (fun h4 hF=>?_)
 refine go ?_
 refine RS.q (u:=.agg [.nils,.nils]) rfl (q3y bd43 rfl rfl rfl) ?_
 refine go ?_
 refine qxi (u:=.junk) (σ':=⟨[(0,.row [.nils,.nils] 43)],1⟩) rfl (q11 (q04 inf43) rfl rfl rfl rfl rfl rfl rfl rfl) rfl ?_
 refine go ?_
 obtain rfl:=sI hF
 exact rT (us:=[.agg [.nils,.nils],.i6 r2.2]) (u:=.tup [.agg [.isl false [],.isl false []],.i6 r2.2]) (qml (q1f und43 rfl (q04 inf43) rfl rfl rfl) (q2j rfl (q33))) wR
 obtain ⟨r5,h6,hF⟩:=q00 hF
 refine go ?_
 refine RS.cl rfl (pC (q83 n p1 r5 h6) _) fn72 ?_
 refine go ?_
 refine RS.q (u:=.ptr 1 0 0) (σ':=⟨[(1,.row [.nils,.nils] 43),(0,.row [.nils,.nils] 43)],2⟩) rfl (q1h inf43 rfl rfl) ?_
 refine gr ?_
 refine WPU.ghost (tm':=fr 63 [(0,.iM q01 p1),(2,.ptr 0 0 0),(4,.iM (cL q0p) r2.1),(6,.iM q0f r5.1),(8,.ptr 1 0 0),(9,.i6 0)]) (σ':=⟨[(2,.vec (List.map q75 ([]:List q8g)).flatten 109 4 0),(1,.row [.vl 2 0 0 (([]:List q8g).length),.nils] 43),(0,.row [.nils,.nils] 43)],3⟩) (Gh.trans (qxs 1 0 109 4 (by decide) NZ rfl rfl) (qxk ⟨rfl,rfl,rfl,rfl,rfl,rfl,trivial⟩ rfl)) NZ ?_
 refine gS (l':=[(0,_),(2,_),(4,_),(6,_),(8,_),(9,_)]) ?_
 refine qxe (fun m tm σ=>∃ z13:Int,∃ l14:List q8g,∃ t15:Nat,q4o p1 n r2 r5 m z13 l14=some r∧tm=fr 63 [(0,.iM q01 p1),(2,.ptr 0 0 0),(4,.iM (cL q0p) r2.1),(6,.iM q0f r5.1),(8,.ptr 1 0 0),(9,.i6 z13)]∧σ=⟨[(2,.vec (List.map q75 l14).flatten 109 4 t15),(1,.row [.vl 2 t15 0 l14.length,.nils] 43),(0,.row [.nils,.nils] 43)],3⟩) (fun tm σ=>∃ l16:List q8g,∃ t17:Nat,q7f p1 n l16=some r∧tm=fr 63 [(0,.iM q01 p1),(2,.ptr 0 0 0),(8,.ptr 1 0 0)]∧σ=⟨[(2,.vec (List.map q75 l16).flatten 109 4 t17),(1,.row [.vl 2 t17 0 l16.length,.nils] 43),(0,.row [.nils,.nils] 43)],3⟩) n ⟨0,([]:List q8g),0,hF,rfl,rfl⟩ ?_ ?_
 rintro _ _ ⟨l16,t17,hF,rfl,rfl⟩
 unfold q7f at hF
 obtain ⟨r18,h19,hF⟩:=q00 hF
 refine go ?_
 refine RS.cl rfl (pC (qi3 n p1 r18 h19) _) fn74 ?_
 refine go ?_
 refine RS.q rfl (q1t und43 rfl (q04 inf41) rfl rfl rfl) ?_
 refine qxi (u:=.junk) (σ':=⟨[(2,.vec (List.map q75 l16).flatten 109 4 t17),(1,.row [.vl 2 t17 0 l16.length,.iM q12 r18.1] 43),(0,.row [.nils,.nils] 43)],3⟩) rfl (q11 (q04 inf41) rfl rfl rfl rfl rfl rfl rfl rfl) rfl ?_
 refine go ?_
 refine RS.q (u:=.agg [.vl 2 t17 0 l16.length,.iM q12 r18.1]) rfl (q1f und43 rfl (q04 inf43) rfl rfl rfl) ?_
 refine qxi (u:=.junk) (σ':=⟨[(2,.vec (List.map q75 l16).flatten 109 4 t17),(1,.row [.vl 2 t17 0 l16.length,.iM q12 r18.1] 43),(0,.row [.vl 2 t17 0 l16.length,.iM q12 r18.1] 43)],3⟩) rfl (q11 (q04 inf43) rfl rfl rfl rfl rfl rfl rfl rfl) rfl ?_
 refine go ?_
 obtain rfl:=sI hF
 exact rT (us:=[.agg [.vl 2 t17 0 l16.length,.iM q12 r18.1],.i6 0]) (u:=.tup [.agg [.iM q75 l16,.iM q12 r18.1],.i6 0]) (qml (q1f und43 rfl (q04 inf43) rfl rfl rfl) (q2j rfl (q33))) (fR 2 4)
 rintro (_|m1) _ _ ⟨z13,l14,t15,hF,rfl,rfl⟩
 cases hF
 unfold q4o at hF
 refine go ?_
 refine RS.q rfl (q0c rfl rfl rfl (q08 q0f und99)) ?_
 refine go ?_
 refine cF hF (fun h20 hF=>?_) (fun h20 hF=>?_)
 refine go ?_
 refine WPU.block ?_
 obtain ⟨x21,h22,hF⟩:=q00 hF
 obtain ⟨x23,h24,hF⟩:=q00 hF
 obtain ⟨r25,h26,hF⟩:=q00 hF
 obtain ⟨x27,h28,hF⟩:=q00 hF
 obtain ⟨h29,hF⟩:=q0a hF
 refine go ?_
 refine qxh Tryz.tb_ok [(0,20),(1,20)] (by kernel_rfl) ?_
 refine RD.q rfl (q1t und43 rfl (q04 inf40) rfl rfl rfl) (RD.q rfl (q18 und40 rfl rfl rfl rfl) ?_)
 repeat refine RD.mv rfl rfl rfl rfl ?_
 refine RD.q rfl (q0g rfl rfl (q0b q0f und99 (q04 inf105) q1d h22 rfl)) (RD.q rfl (q1y und105 rfl (q04 inf9) rfl rfl) (RD.q rfl (q0e und9 rfl rfl rfl) ?_))
 repeat refine RD.mv rfl rfl rfl rfl ?_
 refine RD.q rfl (q0g rfl rfl (q0b q0f und99 (q04 inf105) q1d h24 rfl)) (RD.q rfl (q1y und105 rfl (q04 inf103) rfl rfl) (RD.q rfl (q0e und103 rfl rfl rfl) ?_))
 repeat refine RD.mv rfl rfl rfl rfl ?_
 refine RD.fl rfl (pC (qkn n r5.1 z13 r25 h26)) fn73 ?_
 repeat refine RD.mv rfl rfl rfl rfl ?_
 refine RD.q rfl (q0g rfl rfl (q0b (cL q0p) und96 (q04 inf107) (q3c q0p) h28 rfl)) (RD.q rfl (q0e und107 rfl rfl rfl) (RD.q (u:=.agg [.str x21.Name,.iM (cI .u64) x23.Code,.iM (cI .i64) r25,.iM q0p x27]) rfl (q3y bd109 rfl rfl rfl) (RD.act (u:=.sl 3 0 1 1) (σ':=⟨[(3,.row [.str x21.Name,.iM (cI .u64) x23.Code,.iM (cI .i64) r25,.iM q0p x27] 109),(2,.vec (List.map q75 l14).flatten 109 4 t15),(1,.row [.vl 2 t15 0 l14.length,.nils] 43),(0,.row [.nils,.nils] 43)],4⟩) rfl (q0i und40 inf109 rfl rfl rfl rfl rfl rfl rfl) rfl rfl (RD.act (u:=.vl 2 (t15+1) 0 ((l14++[(q8g.mk x21.Name x23.Code r25 x27)]).length)) (σ':=⟨[(3,.row [.str x21.Name,.iM (cI .u64) x23.Code,.iM (cI .i64) r25,.iM q0p x27] 109),(2,.vec (List.map q75 (l14++[(q8g.mk x21.Name x23.Code r25 x27)])).flatten 109 4 (t15+1)),(1,.row [.vl 2 t15 0 l14.length,.nils] 43),(0,.row [.nils,.nils] 43)],4⟩) rfl (q1o rfl rfl rfl rfl (q20 q75 ([(q8g.mk x21.Name x23.Code r25 x27)]) und40 und40 inf109 rfl qlb rfl (q1k q75 [(q8g.mk x21.Name x23.Code r25 x27)] rfl rfl rfl rfl) h29)) rfl rfl (RD.q rfl (q1t und43 rfl (q04 inf40) rfl rfl rfl) ?_)))))
 refine qxr (u:=.junk) (σ':=⟨[(3,.row [.str x21.Name,.iM (cI .u64) x23.Code,.iM (cI .i64) r25,.iM q0p x27] 109),(2,.vec (List.map q75 (l14++[(q8g.mk x21.Name x23.Code r25 x27)])).flatten 109 4 (t15+1)),(1,.row [.vl 2 (t15+1) 0 ((l14++[(q8g.mk x21.Name x23.Code r25 x27)]).length),.nils] 43),(0,.row [.nils,.nils] 43)],4⟩) rfl (q11 (q04 inf40) rfl rfl rfl rfl rfl rfl rfl rfl) rfl ?_
 refine RD.done ⟨by kernel_rfl,⟨q1t und43 rfl (q04 inf40) rfl rfl rfl,⟨q18 und40 rfl rfl rfl rfl,trivial⟩⟩,?_⟩
 refine go ?_
 exact lC ⟨_,(l14++[(q8g.mk x21.Name x23.Code r25 x27)]),(t15+1),hF,rfl,rfl⟩
 refine go ?_
 exact xC ⟨l14,t15,hF,rfl,rfl⟩
def qbz (p1:List UInt8) (p2:List UInt8) (l15:List q0n):Option (q05) :=
 some (q05.mk p1 ([p2]) l15)
def q88 (p1:List UInt8) (p2:List UInt8) (p3:List (List UInt8)):Nat→Int→(List q0n)→Option (q05)
 | 0,_,_=>none
 | m1+1,z12,l13 =>
  cond (decide ((IntKind.i64.wrap (z12+1))<(p3.length:Int)))
   (q03 (q13 p3 z12) fun x18 =>
   q03 (q13 p3 (IntKind.i64.wrap (z12+1))) fun x20 =>
   q16 ((l13.length+1)*32≤140737488355328∧l13.length+1≤140737488355328) (
   (q88 p1 p2 p3 m1) (IntKind.i64.wrap (z12+2)) (l13++[(q0n.mk x18 x20)])))
   (qbz p1 p2 l13)
def qc0 (p1:List UInt8) (l32:List q0n):Option (q05) :=
 some (q05.mk p1 [] l32)
def q89 (p1:List UInt8) (p3:List (List UInt8)):Nat→Int→(List q0n)→Option (q05)
 | 0,_,_=>none
 | m2+1,z29,l30 =>
  cond (decide ((IntKind.i64.wrap (z29+1))<(p3.length:Int)))
   (q03 (q13 p3 z29) fun x35 =>
   q03 (q13 p3 (IntKind.i64.wrap (z29+1))) fun x37 =>
   q16 ((l30.length+1)*32≤140737488355328∧l30.length+1≤140737488355328) (
   (q89 p1 p3 m2) (IntKind.i64.wrap (z29+2)) (l30++[(q0n.mk x35 x37)])))
   (qc0 p1 l30)
def q1x (n:Nat) (p1:List UInt8) (p2:List UInt8) (p3:List (List UInt8)):Option (q05) :=
 cond (!q1c p2 [])
  (q88 p1 p2 p3 n 0 ([]:List q0n))
  (q89 p1 p3 n 0 ([]:List q0n))
theorem q1n (n:Nat) (p1:List UInt8) (p2:List UInt8) (p3:List (List UInt8)) (r:q05) (hF:q1x n p1 p2 p3=some r):EvU Tryz.prog 82 [.str p1,.str p2,.isl false (List.map cS p3)] ⟨[],0⟩ (fun u _=>u = .agg (q01 r)∧Bel 0 u):=by
 unfold q1x at hF
 refine bg3 39 fn82 ?_
 refine go ?_
 refine RS.q (u:=.ptr 0 0 0) (σ':=⟨[(0,.row [.str [],.nils,.nils] 127)],1⟩) rfl (q1h inf127 rfl rfl) ?_
 refine go ?_
 refine RS.q (u:=.agg [.str p1,.nils,.nils]) rfl (q3y bd127 rfl rfl rfl) (RS.q (u:=.ptr 1 0 0) (σ':=⟨[(1,.row [.str [],.nils,.nils] 127),(0,.row [.str [],.nils,.nils] 127)],2⟩) rfl (q1h inf127 rfl rfl) ?_)
 refine qxi (u:=.junk) (σ':=⟨[(1,.row [.str p1,.nils,.nils] 127),(0,.row [.str [],.nils,.nils] 127)],2⟩) rfl (q11 (q04 inf127) rfl rfl rfl rfl rfl rfl rfl rfl) rfl ?_
 refine go ?_
 refine RS.q (u:=.bool (!q1c p2 [])) rfl (q50 rfl rfl rfl rfl) ?_
 refine go ?_
 refine cF hF (fun h4 hF=>?_) (fun h4 hF=>?_)
 refine go ?_
 refine RS.q (u:=.sl 2 0 1 1) (σ':=⟨[(2,.row [.str p2] 9),(1,.row [.str p1,.nils,.nils] 127),(0,.row [.str [],.nils,.nils] 127)],3⟩) rfl (q0i und80 inf9 rfl rfl rfl rfl rfl rfl rfl) (RS.q rfl (q1t und127 rfl (q04 inf80) rfl rfl rfl) ?_)
 refine qxi (u:=.junk) (σ':=⟨[(2,.row [.str p2] 9),(1,.row [.str p1,.sl 2 0 1 1,.nils] 127),(0,.row [.str [],.nils,.nils] 127)],3⟩) rfl (q11 (q04 inf80) rfl rfl rfl rfl rfl rfl rfl rfl) rfl ?_
 refine gr ?_
 refine WPU.ghost (tm':=fr 39 [(2,.iM cS p3),(6,.ptr 0 0 0),(7,.ptr 1 0 0),(8,.i6 0)]) (σ':=⟨[(3,.vec (List.map q0d ([]:List q0n)).flatten 162 2 0),(2,.row [.str p2] 9),(1,.row [.str p1,.sl 2 0 1 1,.vl 3 0 0 (([]:List q0n).length)] 127),(0,.row [.str [],.nils,.nils] 127)],4⟩) (Gh.trans (qxs 1 2 162 2 (by decide) NZ rfl rfl) (qxk ⟨rfl,rfl,rfl,rfl,trivial⟩ rfl)) NZ ?_
 refine gS (l':=[(2,_),(6,_),(7,_),(8,_)]) ?_
 refine qxe (fun m tm σ=>∃ z12:Int,∃ l13:List q0n,∃ t14:Nat,q88 p1 p2 p3 m z12 l13=some r∧tm=fr 39 [(2,.iM cS p3),(6,.ptr 0 0 0),(7,.ptr 1 0 0),(8,.i6 z12)]∧σ=⟨[(3,.vec (List.map q0d l13).flatten 162 2 t14),(2,.row [.str p2] 9),(1,.row [.str p1,.sl 2 0 1 1,.vl 3 t14 0 l13.length] 127),(0,.row [.str [],.nils,.nils] 127)],4⟩) (fun tm σ=>∃ l15:List q0n,∃ t16:Nat,qbz p1 p2 l15=some r∧tm=fr 39 [(6,.ptr 0 0 0),(7,.ptr 1 0 0)]∧σ=⟨[(3,.vec (List.map q0d l15).flatten 162 2 t16),(2,.row [.str p2] 9),(1,.row [.str p1,.sl 2 0 1 1,.vl 3 t16 0 l15.length] 127),(0,.row [.str [],.nils,.nils] 127)],4⟩) n ⟨0,([]:List q0n),0,hF,rfl,rfl⟩ ?_ ?_
 rintro _ _ ⟨l15,t16,hF,rfl,rfl⟩
 unfold qbz at hF
 refine go ?_
 refine RS.q (u:=.agg [.str p1,.sl 2 0 1 1,.vl 3 t16 0 l15.length]) rfl (q1f und127 rfl (q04 inf127) rfl rfl rfl) ?_
 refine qxi (u:=.junk) (σ':=⟨[(3,.vec (List.map q0d l15).flatten 162 2 t16),(2,.row [.str p2] 9),(1,.row [.str p1,.sl 2 0 1 1,.vl 3 t16 0 l15.length] 127),(0,.row [.str p1,.sl 2 0 1 1,.vl 3 t16 0 l15.length] 127)],4⟩) rfl (q11 (q04 inf127) rfl rfl rfl rfl rfl rfl rfl rfl) rfl ?_
 refine go ?_
 obtain rfl:=sI hF
 exact ⟨.inr rfl,[.agg [.str p1,.sl 2 0 1 1,.vl 3 t16 0 l15.length]],qml (q1f und127 rfl (q04 inf127) rfl rfl rfl) (q33),.agg [.str p1,.iM cS ([p2]),.iM q0d l15],⟨[],0⟩,Nat.le_refl _,Gh.trans (qxg 2 1) (Gh.trans (qxg 3 2) (qxp (.agg [.str p1,.iM cS ([p2]),.iM q0d l15]) rfl)),rfl,BU.h⟩
 rintro (_|m1) _ _ ⟨z12,l13,t14,hF,rfl,rfl⟩
 cases hF
 unfold q88 at hF
 refine go ?_
 refine RS.q rfl (q0c rfl rfl rfl (q08 cS und80)) ?_
 refine go ?_
 refine cF hF (fun h17 hF=>?_) (fun h17 hF=>?_)
 refine go ?_
 refine WPU.block ?_
 obtain ⟨x18,h19,hF⟩:=q00 hF
 obtain ⟨x20,h21,hF⟩:=q00 hF
 obtain ⟨h22,hF⟩:=q0a hF
 refine go ?_
 refine qxh Tryz.tb_ok [(0,12),(1,12)] (by kernel_rfl) ?_
 refine RD.q rfl (q1t und127 rfl (q04 inf125) rfl rfl rfl) (RD.q rfl (q18 und125 rfl rfl rfl rfl) ?_)
 repeat refine RD.mv rfl rfl rfl rfl ?_
 refine RD.q rfl (q0g rfl rfl (q0b cS und80 (q04 inf9) q1b h19 rfl)) (RD.q rfl (q0e und9 rfl rfl rfl) ?_)
 repeat refine RD.mv rfl rfl rfl rfl ?_
 refine RD.q rfl (q35 rfl rfl (qps _ _ _) rfl) (RD.q rfl (q0g rfl rfl (q0b cS und80 (q04 inf9) q1b h21 rfl)) (RD.q rfl (q0e und9 rfl rfl rfl) (RD.q (u:=.agg [.str x18,.str x20]) rfl (q3y bd162 rfl rfl rfl) (RD.act (u:=.sl 4 0 1 1) (σ':=⟨[(4,.row [.str x18,.str x20] 162),(3,.vec (List.map q0d l13).flatten 162 2 t14),(2,.row [.str p2] 9),(1,.row [.str p1,.sl 2 0 1 1,.vl 3 t14 0 l13.length] 127),(0,.row [.str [],.nils,.nils] 127)],5⟩) rfl (q0i und125 inf162 rfl rfl rfl rfl rfl rfl rfl) rfl rfl (RD.act (u:=.vl 3 (t14+1) 0 ((l13++[(q0n.mk x18 x20)]).length)) (σ':=⟨[(4,.row [.str x18,.str x20] 162),(3,.vec (List.map q0d (l13++[(q0n.mk x18 x20)])).flatten 162 2 (t14+1)),(2,.row [.str p2] 9),(1,.row [.str p1,.sl 2 0 1 1,.vl 3 t14 0 l13.length] 127),(0,.row [.str [],.nils,.nils] 127)],5⟩) rfl (q1o rfl rfl rfl rfl (q20 q0d ([(q0n.mk x18 x20)]) und125 und125 inf162 rfl q1q rfl (q1k q0d [(q0n.mk x18 x20)] rfl rfl rfl rfl) h22)) rfl rfl (RD.q rfl (q1t und127 rfl (q04 inf125) rfl rfl rfl) ?_))))))
 refine qxr (u:=.junk) (σ':=⟨[(4,.row [.str x18,.str x20] 162),(3,.vec (List.map q0d (l13++[(q0n.mk x18 x20)])).flatten 162 2 (t14+1)),(2,.row [.str p2] 9),(1,.row [.str p1,.sl 2 0 1 1,.vl 3 (t14+1) 0 ((l13++[(q0n.mk x18 x20)]).length)] 127),(0,.row [.str [],.nils,.nils] 127)],5⟩) rfl (q11 (q04 inf125) rfl rfl rfl rfl rfl rfl rfl rfl) rfl ?_
 refine RD.done ⟨by kernel_rfl,⟨q1t und127 rfl (q04 inf125) rfl rfl rfl,⟨q18 und125 rfl rfl rfl rfl,trivial⟩⟩,?_⟩
 refine go ?_
 exact lC ⟨_,(l13++[(q0n.mk x18 x20)]),(t14+1),hF,rfl,rfl⟩
 refine go ?_
 exact xC ⟨l13,t14,hF,rfl,rfl⟩
 refine gr ?_
 refine WPU.ghost (tm':=fr 39 [(2,.iM cS p3),(6,.ptr 0 0 0),(7,.ptr 1 0 0),(8,.i6 0)]) (σ':=⟨[(2,.vec (List.map q0d ([]:List q0n)).flatten 162 2 0),(1,.row [.str p1,.nils,.vl 2 0 0 (([]:List q0n).length)] 127),(0,.row [.str [],.nils,.nils] 127)],3⟩) (Gh.trans (qxs 1 2 162 2 (by decide) NZ rfl rfl) (qxk ⟨rfl,rfl,rfl,rfl,trivial⟩ rfl)) NZ ?_
 refine gS (l':=[(2,_),(6,_),(7,_),(8,_)]) ?_
 refine qxe (fun m tm σ=>∃ z29:Int,∃ l30:List q0n,∃ t31:Nat,q89 p1 p3 m z29 l30=some r∧tm=fr 39 [(2,.iM cS p3),(6,.ptr 0 0 0),(7,.ptr 1 0 0),(8,.i6 z29)]∧σ=⟨[(2,.vec (List.map q0d l30).flatten 162 2 t31),(1,.row [.str p1,.nils,.vl 2 t31 0 l30.length] 127),(0,.row [.str [],.nils,.nils] 127)],3⟩) (fun tm σ=>∃ l32:List q0n,∃ t33:Nat,qc0 p1 l32=some r∧tm=fr 39 [(6,.ptr 0 0 0),(7,.ptr 1 0 0)]∧σ=⟨[(2,.vec (List.map q0d l32).flatten 162 2 t33),(1,.row [.str p1,.nils,.vl 2 t33 0 l32.length] 127),(0,.row [.str [],.nils,.nils] 127)],3⟩) n ⟨0,([]:List q0n),0,hF,rfl,rfl⟩ ?_ ?_
 rintro _ _ ⟨l32,t33,hF,rfl,rfl⟩
 unfold qc0 at hF
 refine go ?_
 refine RS.q (u:=.agg [.str p1,.nils,.vl 2 t33 0 l32.length]) rfl (q1f und127 rfl (q04 inf127) rfl rfl rfl) ?_
 refine qxi (u:=.junk) (σ':=⟨[(2,.vec (List.map q0d l32).flatten 162 2 t33),(1,.row [.str p1,.nils,.vl 2 t33 0 l32.length] 127),(0,.row [.str p1,.nils,.vl 2 t33 0 l32.length] 127)],3⟩) rfl (q11 (q04 inf127) rfl rfl rfl rfl rfl rfl rfl rfl) rfl ?_
 refine go ?_
 obtain rfl:=sI hF
 exact ⟨.inr rfl,[.agg [.str p1,.nils,.vl 2 t33 0 l32.length]],qml (q1f und127 rfl (q04 inf127) rfl rfl rfl) (q33),.agg [.str p1,.isl false [],.iM q0d l32],⟨[],0⟩,Nat.le_refl _,Gh.trans (qxg 2 2) (Gh.trans (Gh.wk (.cons (.agg (.cons (.refl _) (.cons (.nil false) (.cons (.refl _) .nil)))) .nil)) (qxp (.agg [.str p1,.isl false [],.iM q0d l32]) rfl)),rfl,BU.h⟩
 rintro (_|m2) _ _ ⟨z29,l30,t31,hF,rfl,rfl⟩
 cases hF
 unfold q89 at hF
 refine go ?_
 refine RS.q rfl (q0c rfl rfl rfl (q08 cS und80)) ?_
 refine go ?_
 refine cF hF (fun h34 hF=>?_) (fun h34 hF=>?_)
 refine go ?_
 refine WPU.block ?_
 obtain ⟨x35,h36,hF⟩:=q00 hF
 obtain ⟨x37,h38,hF⟩:=q00 hF
 obtain ⟨h39,hF⟩:=q0a hF
 refine go ?_
 refine qxh Tryz.tb_ok [(0,12),(1,12)] (by kernel_rfl) ?_
 refine RD.q rfl (q1t und127 rfl (q04 inf125) rfl rfl rfl) (RD.q rfl (q18 und125 rfl rfl rfl rfl) ?_)
 repeat refine RD.mv rfl rfl rfl rfl ?_
 refine RD.q rfl (q0g rfl rfl (q0b cS und80 (q04 inf9) q1b h36 rfl)) (RD.q rfl (q0e und9 rfl rfl rfl) ?_)
 repeat refine RD.mv rfl rfl rfl rfl ?_
 refine RD.q rfl (q35 rfl rfl (qps _ _ _) rfl) (RD.q rfl (q0g rfl rfl (q0b cS und80 (q04 inf9) q1b h38 rfl)) (RD.q rfl (q0e und9 rfl rfl rfl) (RD.q (u:=.agg [.str x35,.str x37]) rfl (q3y bd162 rfl rfl rfl) (RD.act (u:=.sl 3 0 1 1) (σ':=⟨[(3,.row [.str x35,.str x37] 162),(2,.vec (List.map q0d l30).flatten 162 2 t31),(1,.row [.str p1,.nils,.vl 2 t31 0 l30.length] 127),(0,.row [.str [],.nils,.nils] 127)],4⟩) rfl (q0i und125 inf162 rfl rfl rfl rfl rfl rfl rfl) rfl rfl (RD.act (u:=.vl 2 (t31+1) 0 ((l30++[(q0n.mk x35 x37)]).length)) (σ':=⟨[(3,.row [.str x35,.str x37] 162),(2,.vec (List.map q0d (l30++[(q0n.mk x35 x37)])).flatten 162 2 (t31+1)),(1,.row [.str p1,.nils,.vl 2 t31 0 l30.length] 127),(0,.row [.str [],.nils,.nils] 127)],4⟩) rfl (q1o rfl rfl rfl rfl (q20 q0d ([(q0n.mk x35 x37)]) und125 und125 inf162 rfl q1q rfl (q1k q0d [(q0n.mk x35 x37)] rfl rfl rfl rfl) h39)) rfl rfl (RD.q rfl (q1t und127 rfl (q04 inf125) rfl rfl rfl) ?_))))))
 refine qxr (u:=.junk) (σ':=⟨[(3,.row [.str x35,.str x37] 162),(2,.vec (List.map q0d (l30++[(q0n.mk x35 x37)])).flatten 162 2 (t31+1)),(1,.row [.str p1,.nils,.vl 2 (t31+1) 0 ((l30++[(q0n.mk x35 x37)]).length)] 127),(0,.row [.str [],.nils,.nils] 127)],4⟩) rfl (q11 (q04 inf125) rfl rfl rfl rfl rfl rfl rfl rfl) rfl ?_
 refine RD.done ⟨by kernel_rfl,⟨q1t und127 rfl (q04 inf125) rfl rfl rfl,⟨q18 und125 rfl rfl rfl rfl,trivial⟩⟩,?_⟩
 refine go ?_
 exact lC ⟨_,(l30++[(q0n.mk x35 x37)]),(t31+1),hF,rfl,rfl⟩
 refine go ?_
 exact xC ⟨l30,t31,hF,rfl,rfl⟩
def qby (n:Nat)  : Option ((List q05)) :=
 q03 (q1x n ([116,111,112]) [] []) fun r1 =>
 q03 (q1x n ([108,105,115,116]) ([116,111,112]) []) fun r3 =>
 q03 (q1x n ([99,111,110,115]) ([108,105,115,116]) ([[70,73,82,83,84],[116,111,112],[82,69,83,84],[108,105,115,116]])) fun r5 =>
 q03 (q1x n ([110,117,108,108]) ([108,105,115,116]) []) fun r7 =>
 q03 (q1x n ([100,108,105,115,116]) ([116,111,112]) ([[76,73,83,84],[108,105,115,116],[76,65,83,84],[108,105,115,116]])) fun r9 =>
 q03 (q1x n ([105,110,100,101,120]) ([116,111,112]) []) fun r11 =>
 q03 (q1x n ([104,97,110,100,108,101]) ([105,110,100,101,120]) []) fun r13 =>
 q03 (q1x n ([101,118,101,110,116]) ([105,110,100,101,120]) []) fun r15 =>
 q03 (q1x n ([101,110,116,105,116,121]) ([105,110,100,101,120]) []) fun r17 =>
 q03 (q1x n ([114,101,108]) ([116,111,112]) ([[76,65,66,69,76],[104,97,110,100,108,101]])) fun r19 =>
 q03 (q1x n ([113,101,113]) ([116,111,112]) ([[72,73,71,72],[104,97,110,100,108,101],[76,79,87],[104,97,110,100,108,101]])) fun r21 =>
 q03 (q1x n ([115,101,109]) ([116,111,112]) ([[84,79,80],[104,97,110,100,108,101],[73,78,68,69,88],[105,110,100,101,120],[82,69,76,83],[100,108,105,115,116],[67,79,78,83],[100,108,105,115,116]])) fun r23 =>
 q03 (q1x n ([115,105,103,110]) ([116,111,112]) ([[83,69,77],[115,101,109],[65,82,71,83],[108,105,115,116]])) fun r25 =>
 some ([r1,r3,r5,r7,r9,r11,r13,r15,r17,r19,r21,r23,r25])
theorem qju (n:Nat)  (r:(List q05)) (hF:qby n  = some r):EvU Tryz.prog 60 [] ⟨[],0⟩ (fun u _=>u = .isl false (List.map q01 r)∧Bel 0 u):=by
 unfold qby at hF
 refine bg0 21 fn60 ?_
 obtain ⟨r1,h2,hF⟩:=q00 hF
 obtain ⟨r3,h4,hF⟩:=q00 hF
 obtain ⟨r5,h6,hF⟩:=q00 hF
 obtain ⟨r7,h8,hF⟩:=q00 hF
 obtain ⟨r9,h10,hF⟩:=q00 hF
 obtain ⟨r11,h12,hF⟩:=q00 hF
 obtain ⟨r13,h14,hF⟩:=q00 hF
 obtain ⟨r15,h16,hF⟩:=q00 hF
 obtain ⟨r17,h18,hF⟩:=q00 hF
 obtain ⟨r19,h20,hF⟩:=q00 hF
 obtain ⟨r21,h22,hF⟩:=q00 hF
 obtain ⟨r23,h24,hF⟩:=q00 hF
 obtain ⟨r25,h26,hF⟩:=q00 hF
 refine go ?_
 refine RS.cl rfl (qxm (args':=[.str ([116,111,112]),.str [],.isl false []]) (.cons (.refl _) (.cons (.refl _) (.cons (.nil false) .nil))) (pC (q1n n ([116,111,112]) [] [] r1 h2)) _) fn82 (RS.cl rfl (qxm (args':=[.str ([108,105,115,116]),.str ([116,111,112]),.isl false []]) (.cons (.refl _) (.cons (.refl _) (.cons (.nil false) .nil))) (pC (q1n n ([108,105,115,116]) ([116,111,112]) [] r3 h4)) _) fn82 (RS.q (u:=.sl 0 0 4 4) (σ':=⟨[(0,.row [.str ([70,73,82,83,84]),.str ([116,111,112]),.str ([82,69,83,84]),.str ([108,105,115,116])] 9)],1⟩) rfl (q0i und80 inf9 rfl rfl rfl rfl rfl rfl rfl) ?_))
 refine qxj rfl (qxg 0 1) (pC (q1n n ([99,111,110,115]) ([108,105,115,116]) ([[70,73,82,83,84],[116,111,112],[82,69,83,84],[108,105,115,116]]) r5 h6) _) fn82 ?_
 refine RS.cl rfl (qxm (args':=[.str ([110,117,108,108]),.str ([108,105,115,116]),.isl false []]) (.cons (.refl _) (.cons (.refl _) (.cons (.nil false) .nil))) (pC (q1n n ([110,117,108,108]) ([108,105,115,116]) [] r7 h8)) _) fn82 (RS.q (u:=.sl 1 0 4 4) (σ':=⟨[(1,.row [.str ([76,73,83,84]),.str ([108,105,115,116]),.str ([76,65,83,84]),.str ([108,105,115,116])] 9)],2⟩) rfl (q0i und80 inf9 rfl rfl rfl rfl rfl rfl rfl) ?_)
 refine qxj rfl (qxg 1 1) (pC (q1n n ([100,108,105,115,116]) ([116,111,112]) ([[76,73,83,84],[108,105,115,116],[76,65,83,84],[108,105,115,116]]) r9 h10) _) fn82 ?_
 refine RS.cl rfl (qxm (args':=[.str ([105,110,100,101,120]),.str ([116,111,112]),.isl false []]) (.cons (.refl _) (.cons (.refl _) (.cons (.nil false) .nil))) (pC (q1n n ([105,110,100,101,120]) ([116,111,112]) [] r11 h12)) _) fn82 (RS.cl rfl (qxm (args':=[.str ([104,97,110,100,108,101]),.str ([105,110,100,101,120]),.isl false []]) (.cons (.refl _) (.cons (.refl _) (.cons (.nil false) .nil))) (pC (q1n n ([104,97,110,100,108,101]) ([105,110,100,101,120]) [] r13 h14)) _) fn82 (RS.cl rfl (qxm (args':=[.str ([101,118,101,110,116]),.str ([105,110,100,101,120]),.isl false []]) (.cons (.refl _) (.cons (.refl _) (.cons (.nil false) .nil))) (pC (q1n n ([101,118,101,110,116]) ([105,110,100,101,120]) [] r15 h16)) _) fn82 (RS.cl rfl (qxm (args':=[.str ([101,110,116,105,116,121]),.str ([105,110,100,101,120]),.isl false []]) (.cons (.refl _) (.cons (.refl _) (.cons (.nil false) .nil))) (pC (q1n n ([101,110,116,105,116,121]) ([105,110,100,101,120]) [] r17 h18)) _) fn82 (RS.q (u:=.sl 2 0 2 2) (σ':=⟨[(2,.row [.str ([76,65,66,69,76]),.str ([104,97,110,100,108,101])] 9)],3⟩) rfl (q0i und80 inf9 rfl rfl rfl rfl rfl rfl rfl) ?_))))
 refine qxj rfl (qxg 2 1) (pC (q1n n ([114,101,108]) ([116,111,112]) ([[76,65,66,69,76],[104,97,110,100,108,101]]) r19 h20) _) fn82 ?_
 refine RS.q (u:=.sl 3 0 4 4) (σ':=⟨[(3,.row [.str ([72,73,71,72]),.str ([104,97,110,100,108,101]),.str ([76,79,87]),.str ([104,97,110,100,108,101])] 9)],4⟩) rfl (q0i und80 inf9 rfl rfl rfl rfl rfl rfl rfl) ?_
 refine qxj rfl (qxg 3 1) (pC (q1n n ([113,101,113]) ([116,111,112]) ([[72,73,71,72],[104,97,110,100,108,101],[76,79,87],[104,97,110,100,108,101]]) r21 h22) _) fn82 ?_
 refine RS.q (u:=.sl 4 0 8 8) (σ':=⟨[(4,.row [.str ([84,79,80]),.str ([104,97,110,100,108,101]),.str ([73,78,68,69,88]),.str ([105,110,100,101,120]),.str ([82,69,76,83]),.str ([100,108,105,115,116]),.str ([67,79,78,83]),.str ([100,108,105,115,116])] 9)],5⟩) rfl (q0i und80 inf9 rfl rfl rfl rfl rfl rfl rfl) ?_
 refine qxj rfl (qxg 4 1) (pC (q1n n ([115,101,109]) ([116,111,112]) ([[84,79,80],[104,97,110,100,108,101],[73,78,68,69,88],[105,110,100,101,120],[82,69,76,83],[100,108,105,115,116],[67,79,78,83],[100,108,105,115,116]]) r23 h24) _) fn82 ?_
 refine RS.q (u:=.sl 5 0 4 4) (σ':=⟨[(5,.row [.str ([83,69,77]),.str ([115,101,109]),.str ([65,82,71,83]),.str ([108,105,115,116])] 9)],6⟩) rfl (q0i und80 inf9 rfl rfl rfl rfl rfl rfl rfl) ?_
 refine qxj rfl (qxg 5 1) (pC (q1n n ([115,105,103,110]) ([116,111,112]) ([[83,69,77],[115,101,109],[65,82,71,83],[108,105,115,116]]) r25 h26) _) fn82 ?_
 refine RS.q (u:=.sl 6 0 13 13) (σ':=⟨[(6,.row [.str r1.Name,.iM cS r1.Supers,.iM q0d r1.Feats,.str r3.Name,.iM cS r3.Supers,.iM q0d r3.Feats,.str r5.Name,.iM cS r5.Supers,.iM q0d r5.Feats,.str r7.Name,.iM cS r7.Supers,.iM q0d r7.Feats,.str r9.Name,.iM cS r9.Supers,.iM q0d r9.Feats,.str r11.Name,.iM cS r11.Supers,.iM q0d r11.Feats,.str r13.Name,.iM cS r13.Supers,.iM q0d r13.Feats,.str r15.Name,.iM cS r15.Supers,.iM q0d r15.Feats,.str r17.Name,.iM cS r17.Supers,.iM q0d r17.Feats,.str r19.Name,.iM cS r19.Supers,.iM q0d r19.Feats,.str r21.Name,.iM cS r21.Supers,.iM q0d r21.Feats,.str r23.Name,.iM cS r23.Supers,.iM q0d r23.Feats,.str r25.Name,.iM cS r25.Supers,.iM q0d r25.Feats] 127)],7⟩) rfl (q0i und38 inf127 rfl rfl rfl rfl rfl rfl rfl) ?_
 refine go ?_
 obtain rfl:=sI hF
 exact rT (us:=[.sl 6 0 13 13]) (u:=.iM q01 ([r1,r3,r5,r7,r9,r11,r13,r15,r17,r19,r21,r23,r25])) (q2j rfl (q33)) (fR 6 3)
def q37 (n:Nat)  : Option (q0w) :=
 q03 (qby n) fun r1 =>
 q03 (qbx n r1) fun r3 =>
 some (q0w.mk r3.1.Types r3.1.Feats)
theorem qci (n:Nat)  (r:q0w) (hF:q37 n  = some r):EvU Tryz.prog 31 [] ⟨[],0⟩ (fun u _=>u = .agg (q06 r)∧Bel 0 u):=by
 unfold q37 at hF
 refine bg0 9 fn31 ?_
 refine go ?_
 refine RS.q (u:=.ptr 0 0 0) (σ':=⟨[(0,.row [.nils,.nils] 43)],1⟩) rfl (q1h inf43 rfl rfl) ?_
 obtain ⟨r1,h2,hF⟩:=q00 hF
 obtain ⟨r3,h4,hF⟩:=q00 hF
 refine go ?_
 refine RS.cl rfl (pC (qju n r1 h2) _) fn60 (RS.cl rfl (pC (qjt n r1 r3 h4) _) fn51 ?_)
 refine go ?_
 refine RS.q (u:=.ptr 1 0 0) (σ':=⟨[(1,.row [.nils,.nils] 43),(0,.row [.nils,.nils] 43)],2⟩) rfl (q1h inf43 rfl rfl) ?_
 refine qxi (u:=.junk) (σ':=⟨[(1,.row (q06 r3.1) 43),(0,.row [.nils,.nils] 43)],2⟩) rfl (q11 (q04 inf43) rfl rfl rfl rfl rfl rfl rfl rfl) rfl ?_
 refine go ?_
 refine RS.q (u:=.agg (q06 r3.1)) rfl (q1f und43 rfl (q04 inf43) rfl rfl rfl) ?_
 refine qxi (u:=.junk) (σ':=⟨[(1,.row (q06 r3.1) 43),(0,.row (q06 r3.1) 43)],2⟩) rfl (q11 (q04 inf43) rfl rfl rfl rfl rfl rfl rfl rfl) rfl ?_
 refine go ?_
 obtain rfl:=sI hF
 exact rT (qml (q1f und43 rfl (q04 inf43) rfl rfl rfl) (q33)) (qxp _ rfl)
def q8k  (s9:List UInt8):Option ((List UInt8)) :=
 some s9
def q5g (p1:List UInt8) (p2:Int):Nat→(List UInt8)→Int→Option ((List UInt8))
 | 0,_,_=>none
 | m1+1,s7,z8 =>
  cond (decide (z8<p2))
   (q16 (s7.length+p1.length≤9223372036854775807) (
   (q5g p1 p2 m1) (s7++p1) (IntKind.i64.wrap (z8+1))))
   (q8k s7)
def q34 (n:Nat) (p1:List UInt8) (p2:Int):Option ((List UInt8)) :=
 q5g p1 p2 n [] 0
theorem q9o (n:Nat) (p1:List UInt8) (p2:Int) (r:(List UInt8)) (hF:q34 n p1 p2=some r):EvU Tryz.prog 32 [.str p1,.int .i64 p2] ⟨[],0⟩ (fun u _=>u = .str r∧Bel 0 u):=by
 unfold q34 at hF
 refine bg2 16 fn32 ?_
 refine go ?_
 refine gS (l':=[(0,_),(1,_),(5,_),(6,_)]) ?_
 refine qxe (fun m tm σ=>∃ s7:List UInt8,∃ z8:Int,q5g p1 p2 m s7 z8=some r∧tm=fr 16 [(0,.str p1),(1,.i6 p2),(5,.str s7),(6,.i6 z8)]∧σ=⟨[],0⟩) (fun tm σ=>∃ s9:List UInt8,q8k s9=some r∧tm=fr 16 [(5,.str s9)]∧σ=⟨[],0⟩) n ⟨[],0,hF,rfl,rfl⟩ ?_ ?_
 rintro _ _ ⟨s9,hF,rfl,rfl⟩
 unfold q8k at hF
 exact gx hF
 rintro (_|m1) _ _ ⟨s7,z8,hF,rfl,rfl⟩
 cases hF
 unfold q5g at hF
 refine go ?_
 refine cF hF (fun h10 hF=>?_) (fun h10 hF=>?_)
 refine go ?_
 refine WPU.block ?_
 obtain ⟨h11,hF⟩:=q0a hF
 refine go ?_
 refine RS.q (u:=.str (s7++p1)) rfl (q50 rfl rfl (qli h11) rfl) ?_
 refine go ?_
 exact lC ⟨(s7++p1),(IntKind.i64.wrap (z8+1)),hF,rfl,rfl⟩
 refine go ?_
 exact xC ⟨s7,hF,rfl,rfl⟩
def qfl (n:Nat) (p1:List q0y):Option (GFS) :=
 some (GFS.mk p1)
theorem q4y (n:Nat) (p1:List q0y) (r:GFS) (hF:qfl n p1=some r):EvU Tryz.prog 43 [.isl false (List.map q02 p1)] ⟨[],0⟩ (fun u _=>u = .agg [.isl false (List.map q02 r.Nodes)]∧Bel 0 u):=by
 unfold qfl at hF
 refine bg1 5 fn43 ?_
 refine go ?_
 refine RS.q (u:=.ptr 0 0 0) (σ':=⟨[(0,.row [.nils] 24)],1⟩) rfl (q1h inf24 rfl rfl) ?_
 refine go ?_
 refine RS.q (u:=.agg [.iM q02 p1]) rfl (q3y bd24 rfl rfl rfl) ?_
 refine qxi (u:=.junk) (σ':=⟨[(0,.row [.iM q02 p1] 24)],1⟩) rfl (q11 (q04 inf24) rfl rfl rfl rfl rfl rfl rfl rfl) rfl ?_
 refine go ?_
 obtain rfl:=sI hF
 exact rT (qml (q1f und24 rfl (q04 inf24) rfl rfl rfl) (q33)) (qxp _ rfl)
def qat (p1:Int) (l12:List q28):Option (q0y) :=
 some (q0y.mk p1 l12)
def q7r (p1:Int) (p2:List Int):Nat→Int→(List q28)→Option (q0y)
 | 0,_,_=>none
 | m1+1,z9,l10 =>
  cond (decide ((IntKind.i64.wrap (z9+1))<(p2.length:Int)))
   (q03 (q13 p2 z9) fun x15 =>
   q03 (q13 p2 (IntKind.i64.wrap (z9+1))) fun x17 =>
   q16 ((l10.length+1)*16≤140737488355328∧l10.length+1≤140737488355328) (
   (q7r p1 p2 m1) (IntKind.i64.wrap (z9+2)) (l10++[(q28.mk x15 x17)])))
   (qat p1 l10)
def q43 (n:Nat) (p1:Int) (p2:List Int):Option (q0y) :=
 q7r p1 p2 n 0 ([]:List q28)
theorem q0t (n:Nat) (p1:Int) (p2:List Int) (r:q0y) (hF:q43 n p1 p2=some r):EvU Tryz.prog 44 [.int .i64 p1,.isl false (List.map (cI .i64) p2)] ⟨[],0⟩ (fun u _=>u = .agg (q02 r)∧Bel 0 u):=by
 unfold q43 at hF
 refine bg2 32 fn44 ?_
 refine go ?_
 refine RS.q (u:=.ptr 0 0 0) (σ':=⟨[(0,.row [.i6 0,.nils] 54)],1⟩) rfl (q1h inf54 rfl rfl) ?_
 refine go ?_
 refine RS.q (u:=.agg [.i6 p1,.nils]) rfl (q3y bd54 rfl rfl rfl) (RS.q (u:=.ptr 1 0 0) (σ':=⟨[(1,.row [.i6 0,.nils] 54),(0,.row [.i6 0,.nils] 54)],2⟩) rfl (q1h inf54 rfl rfl) ?_)
 refine qxi (u:=.junk) (σ':=⟨[(1,.row [.i6 p1,.nils] 54),(0,.row [.i6 0,.nils] 54)],2⟩) rfl (q11 (q04 inf54) rfl rfl rfl rfl rfl rfl rfl rfl) rfl ?_
 refine gr ?_
 refine WPU.ghost (tm':=fr 32 [(1,.iM (cI .i64) p2),(4,.ptr 0 0 0),(5,.ptr 1 0 0),(6,.i6 0)]) (σ':=⟨[(2,.vec (List.map q0o ([]:List q28)).flatten 66 2 0),(1,.row [.i6 p1,.vl 2 0 0 (([]:List q28).length)] 54),(0,.row [.i6 0,.nils] 54)],3⟩) (Gh.trans (qxs 1 1 66 2 (by decide) NZ rfl rfl) (qxk ⟨rfl,rfl,rfl,rfl,trivial⟩ rfl)) NZ ?_
 refine gS (l':=[(1,_),(4,_),(5,_),(6,_)]) ?_
 refine qxe (fun m tm σ=>∃ z9:Int,∃ l10:List q28,∃ t11:Nat,q7r p1 p2 m z9 l10=some r∧tm=fr 32 [(1,.iM (cI .i64) p2),(4,.ptr 0 0 0),(5,.ptr 1 0 0),(6,.i6 z9)]∧σ=⟨[(2,.vec (List.map q0o l10).flatten 66 2 t11),(1,.row [.i6 p1,.vl 2 t11 0 l10.length] 54),(0,.row [.i6 0,.nils] 54)],3⟩) (fun tm σ=>∃ l12:List q28,∃ t13:Nat,qat p1 l12=some r∧tm=fr 32 [(4,.ptr 0 0 0),(5,.ptr 1 0 0)]∧σ=⟨[(2,.vec (List.map q0o l12).flatten 66 2 t13),(1,.row [.i6 p1,.vl 2 t13 0 l12.length] 54),(0,.row [.i6 0,.nils] 54)],3⟩) n ⟨0,([]:List q28),0,hF,rfl,rfl⟩ ?_ ?_
 rintro _ _ ⟨l12,t13,hF,rfl,rfl⟩
 unfold qat at hF
 refine go ?_
 refine RS.q (u:=.agg [.i6 p1,.vl 2 t13 0 l12.length]) rfl (q1f und54 rfl (q04 inf54) rfl rfl rfl) ?_
 refine qxi (u:=.junk) (σ':=⟨[(2,.vec (List.map q0o l12).flatten 66 2 t13),(1,.row [.i6 p1,.vl 2 t13 0 l12.length] 54),(0,.row [.i6 p1,.vl 2 t13 0 l12.length] 54)],3⟩) rfl (q11 (q04 inf54) rfl rfl rfl rfl rfl rfl rfl rfl) rfl ?_
 refine go ?_
 obtain rfl:=sI hF
 exact rT (us:=[.agg [.i6 p1,.vl 2 t13 0 l12.length]]) (u:=.agg [.i6 p1,.iM q0o l12]) (qml (q1f und54 rfl (q04 inf54) rfl rfl rfl) (q33)) (fR 2 2)
 rintro (_|m1) _ _ ⟨z9,l10,t11,hF,rfl,rfl⟩
 cases hF
 unfold q7r at hF
 refine go ?_
 refine RS.q rfl (q0c rfl rfl rfl (q08 (cI .i64) und33)) ?_
 refine go ?_
 refine cF hF (fun h14 hF=>?_) (fun h14 hF=>?_)
 refine go ?_
 refine WPU.block ?_
 obtain ⟨x15,h16,hF⟩:=q00 hF
 obtain ⟨x17,h18,hF⟩:=q00 hF
 obtain ⟨h19,hF⟩:=q0a hF
 refine go ?_
 refine qxh Tryz.tb_ok [(0,12),(1,12)] (by kernel_rfl) ?_
 refine RD.q rfl (q1t und54 rfl (q04 inf52) rfl rfl rfl) (RD.q rfl (q18 und52 rfl rfl rfl rfl) ?_)
 repeat refine RD.mv rfl rfl rfl rfl ?_
 refine RD.q rfl (q0g rfl rfl (q0b (cI .i64) und33 (q04 inf3) (q19 .i64) h16 rfl)) (RD.q rfl (q0e und3 rfl rfl rfl) ?_)
 repeat refine RD.mv rfl rfl rfl rfl ?_
 refine RD.q rfl (q35 rfl rfl (qps _ _ _) rfl) (RD.q rfl (q0g rfl rfl (q0b (cI .i64) und33 (q04 inf3) (q19 .i64) h18 rfl)) (RD.q rfl (q0e und3 rfl rfl rfl) (RD.q (u:=.agg [.i6 x15,.i6 x17]) rfl (q3y bd66 rfl rfl rfl) (RD.act (u:=.sl 3 0 1 1) (σ':=⟨[(3,.row [.i6 x15,.i6 x17] 66),(2,.vec (List.map q0o l10).flatten 66 2 t11),(1,.row [.i6 p1,.vl 2 t11 0 l10.length] 54),(0,.row [.i6 0,.nils] 54)],4⟩) rfl (q0i und52 inf66 rfl rfl rfl rfl rfl rfl rfl) rfl rfl (RD.act (u:=.vl 2 (t11+1) 0 ((l10++[(q28.mk x15 x17)]).length)) (σ':=⟨[(3,.row [.i6 x15,.i6 x17] 66),(2,.vec (List.map q0o (l10++[(q28.mk x15 x17)])).flatten 66 2 (t11+1)),(1,.row [.i6 p1,.vl 2 t11 0 l10.length] 54),(0,.row [.i6 0,.nils] 54)],4⟩) rfl (q1o rfl rfl rfl rfl (q20 q0o ([(q28.mk x15 x17)]) und52 und52 inf66 rfl q5h rfl (q1k q0o [(q28.mk x15 x17)] rfl rfl rfl rfl) h19)) rfl rfl (RD.q rfl (q1t und54 rfl (q04 inf52) rfl rfl rfl) ?_))))))
 refine qxr (u:=.junk) (σ':=⟨[(3,.row [.i6 x15,.i6 x17] 66),(2,.vec (List.map q0o (l10++[(q28.mk x15 x17)])).flatten 66 2 (t11+1)),(1,.row [.i6 p1,.vl 2 (t11+1) 0 ((l10++[(q28.mk x15 x17)]).length)] 54),(0,.row [.i6 0,.nils] 54)],4⟩) rfl (q11 (q04 inf52) rfl rfl rfl rfl rfl rfl rfl rfl) rfl ?_
 refine RD.done ⟨by kernel_rfl,⟨q1t und54 rfl (q04 inf52) rfl rfl rfl,⟨q18 und52 rfl rfl rfl rfl,trivial⟩⟩,?_⟩
 refine go ?_
 exact lC ⟨_,(l10++[(q28.mk x15 x17)]),(t11+1),hF,rfl,rfl⟩
 refine go ?_
 exact xC ⟨l10,t11,hF,rfl,rfl⟩
def qh8 (n:Nat) (p1:Int):Option (GFS) :=
 some (GFS.mk ([(q0y.mk p1 [])]))
theorem q57 (n:Nat) (p1:Int) (r:GFS) (hF:qh8 n p1=some r):EvU Tryz.prog 45 [.int .i64 p1] ⟨[],0⟩ (fun u _=>u = .agg [.isl false (List.map q02 r.Nodes)]∧Bel 0 u):=by
 unfold qh8 at hF
 refine bg1 7 fn45 ?_
 refine go ?_
 refine RS.q (u:=.ptr 0 0 0) (σ':=⟨[(0,.row [.nils] 24)],1⟩) rfl (q1h inf24 rfl rfl) ?_
 refine go ?_
 refine RS.q (u:=.agg [.i6 p1,.nils]) rfl (q3y bd54 rfl rfl rfl) (RS.q (u:=.sl 1 0 1 1) (σ':=⟨[(1,.row [.i6 p1,.nils] 54),(0,.row [.nils] 24)],2⟩) rfl (q0i und22 inf54 rfl rfl rfl rfl rfl rfl rfl) (RS.q (u:=.agg [.sl 1 0 1 1]) rfl (q3y bd24 rfl rfl rfl) ?_))
 refine qxi (u:=.junk) (σ':=⟨[(1,.row [.i6 p1,.nils] 54),(0,.row [.sl 1 0 1 1] 24)],2⟩) rfl (q11 (q04 inf24) rfl rfl rfl rfl rfl rfl rfl rfl) rfl ?_
 refine go ?_
 obtain rfl:=sI hF
 exact ⟨.inr rfl,[.agg [.sl 1 0 1 1]],qml (q1f und24 rfl (q04 inf24) rfl rfl rfl) (q33),.agg [.iM q02 ([(q0y.mk p1 [])])],⟨[],0⟩,Nat.le_refl _,Gh.trans (Gh.trans (qxu 1) (qxg 1 2)) (qxp (.agg [.iM q02 ([(q0y.mk p1 [])])]) rfl),rfl,BU.h⟩
def q24 (n:Nat)  : Option (Bool) :=
 q03 (q43 n 1 ([0,1,1,2])) fun r1 =>
 q03 (q43 n 3 ([0,2])) fun r3 =>
 q03 (q43 n 2 []) fun r5 =>
 q03 (qfl n ([r1,r3,r5])) fun r7 =>
 q03 (q03 (qdj n r7) fun r9 =>
 q03 (q8n n r9 ([[],[0],[1]])) fun r11 =>
 cond (!r11)
  (some true)
  (q03 (qb7 n r7) fun r14 =>
  q03 (q4r n r14 ([(q0j.mk ([1]) ([0,0]))])) fun r16 =>
  cond (!r16)
   (some true)
   (q03 (q43 n 1 ([5,0])) fun r19 =>
   q03 (qfl n ([r19])) fun r21 =>
   q03 (qb7 n r21) fun r23 =>
   q03 (q4r n r23 ([(q0j.mk [] ([5]))])) fun r25 =>
   some (!r25)))) fun b27 =>
 cond b27
  (some false)
  (q03 (qjn n r7 ([0,0])) fun r30 =>
  q03 (qm2 n r7 ([0,1])) fun r32 =>
  q03 (q37 n) fun r34 =>
  q03 (q2y n r34 ([82,69,83,84,46,70,73,82,83,84])) fun r36 =>
  q03 (q2y n r34 ([70,46])) fun r38 =>
  q03 (q2y n r34 ([70,73,82,83,84,46,71])) fun r40 =>
  q03 (cond (r30.1 == 2)
   (cond r30.2
    (cond (!r32.2)
     (q03 (qh8 n 7) fun r45 =>
     q03 (qgy n ([3,4]) r45) fun r47 =>
     q03 (q43 n 0 ([3,1])) fun r49 =>
     q03 (q43 n 0 ([4,2])) fun r51 =>
     q03 (q43 n 7 []) fun r53 =>
     q03 (qfl n ([r49,r51,r53])) fun r55 =>
     q03 (qeu n r47 r55) fun r57 =>
     cond r57
      (cond (r36.2 == 0)
       (q03 (q6j n r36.1 ([10,2])) fun r61 =>
       cond r61
        (q03 (qgx n r34 r36.1) fun r64 =>
        cond (q1c r64 ([82,69,83,84,46,70,73,82,83,84]))
         (cond (r38.2 == 8)
          (some (r40.2 == 5))
          (some false))
         (some false))
        (some false))
       (some false))
      (some false))
     (some false))
    (some false))
   (some false)) fun b68 =>
  some b68)
theorem q7n (n:Nat)  (r:Bool) (hF:q24 n  = some r):EvU Tryz.prog 13 [] ⟨[],0⟩ (fun u _=>u = .bool r∧Bel 0 u):=by
 unfold q24 at hF
 refine bg0 122 fn13 ?_
 obtain ⟨r1,h2,hF⟩:=q00 hF
 obtain ⟨r3,h4,hF⟩:=q00 hF
 obtain ⟨r5,h6,hF⟩:=q00 hF
 obtain ⟨r7,h8,hF⟩:=q00 hF
 refine go ?_
 refine RS.q (u:=.sl 0 0 4 4) (σ':=⟨[(0,.row [.i6 0,.i6 1,.i6 1,.i6 2] 3)],1⟩) rfl (q0i und33 inf3 rfl rfl rfl rfl rfl rfl rfl) ?_
 refine qxj rfl (qxg 0 1) (pC (q0t n 1 ([0,1,1,2]) r1 h2) _) fn44 ?_
 refine RS.q (u:=.sl 1 0 2 2) (σ':=⟨[(1,.row [.i6 0,.i6 2] 3)],2⟩) rfl (q0i und33 inf3 rfl rfl rfl rfl rfl rfl rfl) ?_
 refine qxj rfl (qxg 1 1) (pC (q0t n 3 ([0,2]) r3 h4) _) fn44 ?_
 refine RS.cl rfl (qxm (args':=[.i6 2,.isl false []]) (.cons (.refl _) (.cons (.nil false) .nil)) (pC (q0t n 2 [] r5 h6)) _) fn44 (RS.q (u:=.sl 2 0 3 3) (σ':=⟨[(2,.row [.i6 r1.Typex,.iM q0o r1.Arcs,.i6 r3.Typex,.iM q0o r3.Arcs,.i6 r5.Typex,.iM q0o r5.Arcs] 54)],3⟩) rfl (q0i und22 inf54 rfl rfl rfl rfl rfl rfl rfl) ?_)
 refine qxj rfl (qxg 2 2) (pC (q4y n ([r1,r3,r5]) r7 h8) _) fn43 ?_
 refine RS.q (u:=.ptr 3 0 0) (σ':=⟨[(3,.row [.nils] 24)],4⟩) rfl (q1h inf24 rfl rfl) ?_
 refine qxi (u:=.junk) (σ':=⟨[(3,.row [.iM q02 r7.Nodes] 24)],4⟩) rfl (q11 (q04 inf24) rfl rfl rfl rfl rfl rfl rfl rfl) rfl ?_
 obtain ⟨b27,h28,hF⟩:=q00 hF
 refine gn ?_
 refine qxf (fun tm σ=>tm=fr 122 [(1,.ptr 3 0 0),(48,.bool b27)]∧σ=⟨[(6,.row [.nils,.sl 4 0 1 1,.sl 5 0 1 1] 33),(5,.row [.i6 1] 3),(4,.row [.i6 0] 3),(3,.row [.iM q02 r7.Nodes] 24)],7⟩) ?_ ?_
 rintro _ _ ⟨rfl,rfl⟩
 refine go ?_
 refine cF hF (fun h29 hF=>?_) (fun h29 hF=>?_)
 exact gx hF
 obtain ⟨r30,h31,hF⟩:=q00 hF
 refine go ?_
 refine RS.q (u:=.agg [.iM q02 r7.Nodes]) rfl (q1f und24 rfl (q04 inf24) rfl rfl rfl) (RS.q (u:=.sl 7 0 2 2) (σ':=⟨[(7,.row [.i6 0,.i6 0] 3),(6,.row [.nils,.sl 4 0 1 1,.sl 5 0 1 1] 33),(5,.row [.i6 1] 3),(4,.row [.i6 0] 3),(3,.row [.iM q02 r7.Nodes] 24)],8⟩) rfl (q0i und33 inf3 rfl rfl rfl rfl rfl rfl rfl) ?_)
 refine RS.cl rfl (EvU.viewT (qp2 n r7 ([0,0]) r30 h31) BUL.h (by simp only [toV,qmv,okL,okC,cond_true]<;>rfl) (fun m=>by simp [ren,q0z]) (qxg 7 1)) fn36 ?_
 obtain ⟨r32,h33,hF⟩:=q00 hF
 refine go ?_
 refine RS.q (u:=.agg [.iM q02 r7.Nodes]) rfl (q1f und24 rfl (q04 inf24) rfl rfl rfl) (RS.q (u:=.sl 8 0 2 2) (σ':=⟨[(8,.row [.i6 0,.i6 1] 3),(7,.row [.i6 0,.i6 0] 3),(6,.row [.nils,.sl 4 0 1 1,.sl 5 0 1 1] 33),(5,.row [.i6 1] 3),(4,.row [.i6 0] 3),(3,.row [.iM q02 r7.Nodes] 24)],9⟩) rfl (q0i und33 inf3 rfl rfl rfl rfl rfl rfl rfl) ?_)
 refine RS.cl rfl (EvU.viewT (qnr n r7 ([0,1]) r32 h33) BUL.h (by simp only [toV,qmv,okL,okC,cond_true]<;>rfl) (fun m=>by simp [ren,q0z]) (qxg 8 1)) fn30 ?_
 obtain ⟨r34,h35,hF⟩:=q00 hF
 refine go ?_
 refine RS.cl rfl (pC (qci n r34 h35) _) fn31 (RS.q (u:=.ptr 9 0 0) (σ':=⟨[(9,.row [.nils,.nils] 43),(8,.row [.i6 0,.i6 1] 3),(7,.row [.i6 0,.i6 0] 3),(6,.row [.nils,.sl 4 0 1 1,.sl 5 0 1 1] 33),(5,.row [.i6 1] 3),(4,.row [.i6 0] 3),(3,.row [.iM q02 r7.Nodes] 24)],10⟩) rfl (q1h inf43 rfl rfl) ?_)
 refine qxi (u:=.junk) (σ':=⟨[(9,.row (q06 r34) 43),(8,.row [.i6 0,.i6 1] 3),(7,.row [.i6 0,.i6 0] 3),(6,.row [.nils,.sl 4 0 1 1,.sl 5 0 1 1] 33),(5,.row [.i6 1] 3),(4,.row [.i6 0] 3),(3,.row [.iM q02 r7.Nodes] 24)],10⟩) rfl (q11 (q04 inf43) rfl rfl rfl rfl rfl rfl rfl rfl) rfl ?_
 obtain ⟨r36,h37,hF⟩:=q00 hF
 refine go ?_
 refine RS.q (u:=.agg (q06 r34)) rfl (q1f und43 rfl (q04 inf43) rfl rfl rfl) (RS.cl rfl (pC (q51 n r34 ([82,69,83,84,46,70,73,82,83,84]) r36 h37) _) fn26 ?_)
 obtain ⟨r38,h39,hF⟩:=q00 hF
 refine go ?_
 refine RS.q (u:=.agg (q06 r34)) rfl (q1f und43 rfl (q04 inf43) rfl rfl rfl) (RS.cl rfl (pC (q51 n r34 ([70,46]) r38 h39) _) fn26 ?_)
 obtain ⟨r40,h41,hF⟩:=q00 hF
 refine go ?_
 refine RS.q (u:=.agg (q06 r34)) rfl (q1f und43 rfl (q04 inf43) rfl rfl rfl) (RS.cl rfl (pC (q51 n r34 ([70,73,82,83,84,46,71]) r40 h41) _) fn26 ?_)
 obtain ⟨b68,h69,hF⟩:=q00 hF
 refine gn ?_
 refine qxf (fun tm σ=>tm=fr 122 [(0,.bool b68)]∧σ=⟨[(9,.row (q06 r34) 43),(8,.row [.i6 0,.i6 1] 3),(7,.row [.i6 0,.i6 0] 3),(6,.row [.nils,.sl 4 0 1 1,.sl 5 0 1 1] 33),(5,.row [.i6 1] 3),(4,.row [.i6 0] 3),(3,.row [.iM q02 r7.Nodes] 24)],10⟩) ?_ ?_
 rintro _ _ ⟨rfl,rfl⟩
 exact gx hF
 rcases gB h69 with ⟨h42,h69⟩ | ⟨h42,h69⟩
 rcases gB h69 with ⟨h43,h69⟩ | ⟨h43,h69⟩
 rcases gB h69 with ⟨h44,h69⟩ | ⟨h44,h69⟩
 obtain ⟨r45,h46,h69⟩:=q00 h69
 obtain ⟨r47,h48,h69⟩:=q00 h69
 obtain ⟨r49,h50,h69⟩:=q00 h69
 obtain ⟨r51,h52,h69⟩:=q00 h69
 obtain ⟨r53,h54,h69⟩:=q00 h69
 obtain ⟨r55,h56,h69⟩:=q00 h69
 obtain ⟨r57,h58,h69⟩:=q00 h69
 rcases gB h69 with ⟨h59,h69⟩ | ⟨h59,h69⟩
 rcases gB h69 with ⟨h60,h69⟩ | ⟨h60,h69⟩
 obtain ⟨r61,h62,h69⟩:=q00 h69
 rcases gB h69 with ⟨h63,h69⟩ | ⟨h63,h69⟩
 obtain ⟨r64,h65,h69⟩:=q00 h69
 rcases gB h69 with ⟨h66,h69⟩ | ⟨h66,h69⟩
 rcases gB h69 with ⟨h67,h69⟩ | ⟨h67,h69⟩
 obtain rfl:=sI h69
 refine go ?_
 refine RS.w (u:=.sl 10 0 2 2) (σ':=⟨[(10,.row [.i6 3,.i6 4] 3),(9,.row (q06 r34) 43),(8,.row [.i6 0,.i6 1] 3),(7,.row [.i6 0,.i6 0] 3),(6,.row [.nils,.sl 4 0 1 1,.sl 5 0 1 1] 33),(5,.row [.i6 1] 3),(4,.row [.i6 0] 3),(3,.row [.iM q02 r7.Nodes] 24)],11⟩) rfl (q0i und33 inf3 rfl rfl rfl rfl rfl rfl rfl) (RS.cl rfl (pC (q57 n 7 r45 h46) _) fn45 ?_)
 refine qxj rfl (qxg 10 1) (pC (q52 n ([3,4]) r45 r47 h48) _) fn22 ?_
 refine RS.w (u:=.sl 11 0 2 2) (σ':=⟨[(11,.row [.i6 3,.i6 1] 3),(9,.row (q06 r34) 43),(8,.row [.i6 0,.i6 1] 3),(7,.row [.i6 0,.i6 0] 3),(6,.row [.nils,.sl 4 0 1 1,.sl 5 0 1 1] 33),(5,.row [.i6 1] 3),(4,.row [.i6 0] 3),(3,.row [.iM q02 r7.Nodes] 24)],12⟩) rfl (q0i und33 inf3 rfl rfl rfl rfl rfl rfl rfl) ?_
 refine qxj rfl (qxg 11 1) (pC (q0t n 0 ([3,1]) r49 h50) _) fn44 ?_
 refine RS.w (u:=.sl 12 0 2 2) (σ':=⟨[(12,.row [.i6 4,.i6 2] 3),(9,.row (q06 r34) 43),(8,.row [.i6 0,.i6 1] 3),(7,.row [.i6 0,.i6 0] 3),(6,.row [.nils,.sl 4 0 1 1,.sl 5 0 1 1] 33),(5,.row [.i6 1] 3),(4,.row [.i6 0] 3),(3,.row [.iM q02 r7.Nodes] 24)],13⟩) rfl (q0i und33 inf3 rfl rfl rfl rfl rfl rfl rfl) ?_
 refine qxj rfl (qxg 12 1) (pC (q0t n 0 ([4,2]) r51 h52) _) fn44 ?_
 refine RS.cl rfl (qxm (args':=[.i6 7,.isl false []]) (.cons (.refl _) (.cons (.nil false) .nil)) (pC (q0t n 7 [] r53 h54)) _) fn44 (RS.w (u:=.sl 13 0 3 3) (σ':=⟨[(13,.row [.i6 r49.Typex,.iM q0o r49.Arcs,.i6 r51.Typex,.iM q0o r51.Arcs,.i6 r53.Typex,.iM q0o r53.Arcs] 54),(9,.row (q06 r34) 43),(8,.row [.i6 0,.i6 1] 3),(7,.row [.i6 0,.i6 0] 3),(6,.row [.nils,.sl 4 0 1 1,.sl 5 0 1 1] 33),(5,.row [.i6 1] 3),(4,.row [.i6 0] 3),(3,.row [.iM q02 r7.Nodes] 24)],14⟩) rfl (q0i und22 inf54 rfl rfl rfl rfl rfl rfl rfl) ?_)
 refine qxj rfl (qxg 13 2) (pC (q4y n ([r49,r51,r53]) r55 h56) _) fn43 ?_
 refine RS.cl rfl (pC (q4d n r47 r55 r57 h58) _) fn21 ?_
 refine go ?_
 refine RS.w (u:=.sl 14 0 2 2) (σ':=⟨[(14,.row [.i6 10,.i6 2] 3),(9,.row (q06 r34) 43),(8,.row [.i6 0,.i6 1] 3),(7,.row [.i6 0,.i6 0] 3),(6,.row [.nils,.sl 4 0 1 1,.sl 5 0 1 1] 33),(5,.row [.i6 1] 3),(4,.row [.i6 0] 3),(3,.row [.iM q02 r7.Nodes] 24)],15⟩) rfl (q0i und33 inf3 rfl rfl rfl rfl rfl rfl rfl) (RS.cl rfl (vw (q3d n r36.1 ([10,2]) r61 h62) (qxg 14 1)) fn28 ?_)
 refine go ?_
 refine RS.w (u:=.agg (q06 r34)) rfl (q1f und43 rfl (q04 inf43) rfl rfl rfl) ?_
 refine go ?_
 refine RS.cl rfl (pC (qcp n r34 r36.1 r64 h65) _) fn25 (RS.w (u:=.bool (q1c r64 ([82,69,83,84,46,70,73,82,83,84]))) rfl (q50 rfl rfl rfl rfl) ?_)
 refine go ?_
 exact xC ⟨rfl,rfl⟩
 obtain rfl:=sI h69
 refine go ?_
 refine RS.w (u:=.sl 10 0 2 2) (σ':=⟨[(10,.row [.i6 3,.i6 4] 3),(9,.row (q06 r34) 43),(8,.row [.i6 0,.i6 1] 3),(7,.row [.i6 0,.i6 0] 3),(6,.row [.nils,.sl 4 0 1 1,.sl 5 0 1 1] 33),(5,.row [.i6 1] 3),(4,.row [.i6 0] 3),(3,.row [.iM q02 r7.Nodes] 24)],11⟩) rfl (q0i und33 inf3 rfl rfl rfl rfl rfl rfl rfl) (RS.cl rfl (pC (q57 n 7 r45 h46) _) fn45 ?_)
 refine qxj rfl (qxg 10 1) (pC (q52 n ([3,4]) r45 r47 h48) _) fn22 ?_
 refine RS.w (u:=.sl 11 0 2 2) (σ':=⟨[(11,.row [.i6 3,.i6 1] 3),(9,.row (q06 r34) 43),(8,.row [.i6 0,.i6 1] 3),(7,.row [.i6 0,.i6 0] 3),(6,.row [.nils,.sl 4 0 1 1,.sl 5 0 1 1] 33),(5,.row [.i6 1] 3),(4,.row [.i6 0] 3),(3,.row [.iM q02 r7.Nodes] 24)],12⟩) rfl (q0i und33 inf3 rfl rfl rfl rfl rfl rfl rfl) ?_
 refine qxj rfl (qxg 11 1) (pC (q0t n 0 ([3,1]) r49 h50) _) fn44 ?_
 refine RS.w (u:=.sl 12 0 2 2) (σ':=⟨[(12,.row [.i6 4,.i6 2] 3),(9,.row (q06 r34) 43),(8,.row [.i6 0,.i6 1] 3),(7,.row [.i6 0,.i6 0] 3),(6,.row [.nils,.sl 4 0 1 1,.sl 5 0 1 1] 33),(5,.row [.i6 1] 3),(4,.row [.i6 0] 3),(3,.row [.iM q02 r7.Nodes] 24)],13⟩) rfl (q0i und33 inf3 rfl rfl rfl rfl rfl rfl rfl) ?_
 refine qxj rfl (qxg 12 1) (pC (q0t n 0 ([4,2]) r51 h52) _) fn44 ?_
 refine RS.cl rfl (qxm (args':=[.i6 7,.isl false []]) (.cons (.refl _) (.cons (.nil false) .nil)) (pC (q0t n 7 [] r53 h54)) _) fn44 (RS.w (u:=.sl 13 0 3 3) (σ':=⟨[(13,.row [.i6 r49.Typex,.iM q0o r49.Arcs,.i6 r51.Typex,.iM q0o r51.Arcs,.i6 r53.Typex,.iM q0o r53.Arcs] 54),(9,.row (q06 r34) 43),(8,.row [.i6 0,.i6 1] 3),(7,.row [.i6 0,.i6 0] 3),(6,.row [.nils,.sl 4 0 1 1,.sl 5 0 1 1] 33),(5,.row [.i6 1] 3),(4,.row [.i6 0] 3),(3,.row [.iM q02 r7.Nodes] 24)],14⟩) rfl (q0i und22 inf54 rfl rfl rfl rfl rfl rfl rfl) ?_)
 refine qxj rfl (qxg 13 2) (pC (q4y n ([r49,r51,r53]) r55 h56) _) fn43 ?_
 refine RS.cl rfl (pC (q4d n r47 r55 r57 h58) _) fn21 ?_
 refine go ?_
 refine RS.w (u:=.sl 14 0 2 2) (σ':=⟨[(14,.row [.i6 10,.i6 2] 3),(9,.row (q06 r34) 43),(8,.row [.i6 0,.i6 1] 3),(7,.row [.i6 0,.i6 0] 3),(6,.row [.nils,.sl 4 0 1 1,.sl 5 0 1 1] 33),(5,.row [.i6 1] 3),(4,.row [.i6 0] 3),(3,.row [.iM q02 r7.Nodes] 24)],15⟩) rfl (q0i und33 inf3 rfl rfl rfl rfl rfl rfl rfl) (RS.cl rfl (vw (q3d n r36.1 ([10,2]) r61 h62) (qxg 14 1)) fn28 ?_)
 refine go ?_
 refine RS.w (u:=.agg (q06 r34)) rfl (q1f und43 rfl (q04 inf43) rfl rfl rfl) ?_
 refine go ?_
 refine RS.cl rfl (pC (qcp n r34 r36.1 r64 h65) _) fn25 (RS.w (u:=.bool (q1c r64 ([82,69,83,84,46,70,73,82,83,84]))) rfl (q50 rfl rfl rfl rfl) ?_)
 refine go ?_
 exact xC ⟨rfl,rfl⟩
 obtain rfl:=sI h69
 refine go ?_
 refine RS.w (u:=.sl 10 0 2 2) (σ':=⟨[(10,.row [.i6 3,.i6 4] 3),(9,.row (q06 r34) 43),(8,.row [.i6 0,.i6 1] 3),(7,.row [.i6 0,.i6 0] 3),(6,.row [.nils,.sl 4 0 1 1,.sl 5 0 1 1] 33),(5,.row [.i6 1] 3),(4,.row [.i6 0] 3),(3,.row [.iM q02 r7.Nodes] 24)],11⟩) rfl (q0i und33 inf3 rfl rfl rfl rfl rfl rfl rfl) (RS.cl rfl (pC (q57 n 7 r45 h46) _) fn45 ?_)
 refine qxj rfl (qxg 10 1) (pC (q52 n ([3,4]) r45 r47 h48) _) fn22 ?_
 refine RS.w (u:=.sl 11 0 2 2) (σ':=⟨[(11,.row [.i6 3,.i6 1] 3),(9,.row (q06 r34) 43),(8,.row [.i6 0,.i6 1] 3),(7,.row [.i6 0,.i6 0] 3),(6,.row [.nils,.sl 4 0 1 1,.sl 5 0 1 1] 33),(5,.row [.i6 1] 3),(4,.row [.i6 0] 3),(3,.row [.iM q02 r7.Nodes] 24)],12⟩) rfl (q0i und33 inf3 rfl rfl rfl rfl rfl rfl rfl) ?_
 refine qxj rfl (qxg 11 1) (pC (q0t n 0 ([3,1]) r49 h50) _) fn44 ?_
 refine RS.w (u:=.sl 12 0 2 2) (σ':=⟨[(12,.row [.i6 4,.i6 2] 3),(9,.row (q06 r34) 43),(8,.row [.i6 0,.i6 1] 3),(7,.row [.i6 0,.i6 0] 3),(6,.row [.nils,.sl 4 0 1 1,.sl 5 0 1 1] 33),(5,.row [.i6 1] 3),(4,.row [.i6 0] 3),(3,.row [.iM q02 r7.Nodes] 24)],13⟩) rfl (q0i und33 inf3 rfl rfl rfl rfl rfl rfl rfl) ?_
 refine qxj rfl (qxg 12 1) (pC (q0t n 0 ([4,2]) r51 h52) _) fn44 ?_
 refine RS.cl rfl (qxm (args':=[.i6 7,.isl false []]) (.cons (.refl _) (.cons (.nil false) .nil)) (pC (q0t n 7 [] r53 h54)) _) fn44 (RS.w (u:=.sl 13 0 3 3) (σ':=⟨[(13,.row [.i6 r49.Typex,.iM q0o r49.Arcs,.i6 r51.Typex,.iM q0o r51.Arcs,.i6 r53.Typex,.iM q0o r53.Arcs] 54),(9,.row (q06 r34) 43),(8,.row [.i6 0,.i6 1] 3),(7,.row [.i6 0,.i6 0] 3),(6,.row [.nils,.sl 4 0 1 1,.sl 5 0 1 1] 33),(5,.row [.i6 1] 3),(4,.row [.i6 0] 3),(3,.row [.iM q02 r7.Nodes] 24)],14⟩) rfl (q0i und22 inf54 rfl rfl rfl rfl rfl rfl rfl) ?_)
 refine qxj rfl (qxg 13 2) (pC (q4y n ([r49,r51,r53]) r55 h56) _) fn43 ?_
 refine RS.cl rfl (pC (q4d n r47 r55 r57 h58) _) fn21 ?_
 refine go ?_
 refine RS.w (u:=.sl 14 0 2 2) (σ':=⟨[(14,.row [.i6 10,.i6 2] 3),(9,.row (q06 r34) 43),(8,.row [.i6 0,.i6 1] 3),(7,.row [.i6 0,.i6 0] 3),(6,.row [.nils,.sl 4 0 1 1,.sl 5 0 1 1] 33),(5,.row [.i6 1] 3),(4,.row [.i6 0] 3),(3,.row [.iM q02 r7.Nodes] 24)],15⟩) rfl (q0i und33 inf3 rfl rfl rfl rfl rfl rfl rfl) (RS.cl rfl (vw (q3d n r36.1 ([10,2]) r61 h62) (qxg 14 1)) fn28 ?_)
 refine go ?_
 refine RS.w (u:=.agg (q06 r34)) rfl (q1f und43 rfl (q04 inf43) rfl rfl rfl) ?_
 refine go ?_
 refine RS.cl rfl (pC (qcp n r34 r36.1 r64 h65) _) fn25 (RS.w (u:=.bool (q1c r64 ([82,69,83,84,46,70,73,82,83,84]))) rfl (q50 rfl rfl rfl rfl) ?_)
 refine go ?_
 exact xC ⟨rfl,rfl⟩
 obtain rfl:=sI h69
 refine go ?_
 refine RS.w (u:=.sl 10 0 2 2) (σ':=⟨[(10,.row [.i6 3,.i6 4] 3),(9,.row (q06 r34) 43),(8,.row [.i6 0,.i6 1] 3),(7,.row [.i6 0,.i6 0] 3),(6,.row [.nils,.sl 4 0 1 1,.sl 5 0 1 1] 33),(5,.row [.i6 1] 3),(4,.row [.i6 0] 3),(3,.row [.iM q02 r7.Nodes] 24)],11⟩) rfl (q0i und33 inf3 rfl rfl rfl rfl rfl rfl rfl) (RS.cl rfl (pC (q57 n 7 r45 h46) _) fn45 ?_)
 refine qxj rfl (qxg 10 1) (pC (q52 n ([3,4]) r45 r47 h48) _) fn22 ?_
 refine RS.w (u:=.sl 11 0 2 2) (σ':=⟨[(11,.row [.i6 3,.i6 1] 3),(9,.row (q06 r34) 43),(8,.row [.i6 0,.i6 1] 3),(7,.row [.i6 0,.i6 0] 3),(6,.row [.nils,.sl 4 0 1 1,.sl 5 0 1 1] 33),(5,.row [.i6 1] 3),(4,.row [.i6 0] 3),(3,.row [.iM q02 r7.Nodes] 24)],12⟩) rfl (q0i und33 inf3 rfl rfl rfl rfl rfl rfl rfl) ?_
 refine qxj rfl (qxg 11 1) (pC (q0t n 0 ([3,1]) r49 h50) _) fn44 ?_
 refine RS.w (u:=.sl 12 0 2 2) (σ':=⟨[(12,.row [.i6 4,.i6 2] 3),(9,.row (q06 r34) 43),(8,.row [.i6 0,.i6 1] 3),(7,.row [.i6 0,.i6 0] 3),(6,.row [.nils,.sl 4 0 1 1,.sl 5 0 1 1] 33),(5,.row [.i6 1] 3),(4,.row [.i6 0] 3),(3,.row [.iM q02 r7.Nodes] 24)],13⟩) rfl (q0i und33 inf3 rfl rfl rfl rfl rfl rfl rfl) ?_
 refine qxj rfl (qxg 12 1) (pC (q0t n 0 ([4,2]) r51 h52) _) fn44 ?_
 refine RS.cl rfl (qxm (args':=[.i6 7,.isl false []]) (.cons (.refl _) (.cons (.nil false) .nil)) (pC (q0t n 7 [] r53 h54)) _) fn44 (RS.w (u:=.sl 13 0 3 3) (σ':=⟨[(13,.row [.i6 r49.Typex,.iM q0o r49.Arcs,.i6 r51.Typex,.iM q0o r51.Arcs,.i6 r53.Typex,.iM q0o r53.Arcs] 54),(9,.row (q06 r34) 43),(8,.row [.i6 0,.i6 1] 3),(7,.row [.i6 0,.i6 0] 3),(6,.row [.nils,.sl 4 0 1 1,.sl 5 0 1 1] 33),(5,.row [.i6 1] 3),(4,.row [.i6 0] 3),(3,.row [.iM q02 r7.Nodes] 24)],14⟩) rfl (q0i und22 inf54 rfl rfl rfl rfl rfl rfl rfl) ?_)
 refine qxj rfl (qxg 13 2) (pC (q4y n ([r49,r51,r53]) r55 h56) _) fn43 ?_
 refine RS.cl rfl (pC (q4d n r47 r55 r57 h58) _) fn21 ?_
 refine go ?_
 refine RS.w (u:=.sl 14 0 2 2) (σ':=⟨[(14,.row [.i6 10,.i6 2] 3),(9,.row (q06 r34) 43),(8,.row [.i6 0,.i6 1] 3),(7,.row [.i6 0,.i6 0] 3),(6,.row [.nils,.sl 4 0 1 1,.sl 5 0 1 1] 33),(5,.row [.i6 1] 3),(4,.row [.i6 0] 3),(3,.row [.iM q02 r7.Nodes] 24)],15⟩) rfl (q0i und33 inf3 rfl rfl rfl rfl rfl rfl rfl) (RS.cl rfl (vw (q3d n r36.1 ([10,2]) r61 h62) (qxg 14 1)) fn28 ?_)
 refine go ?_
 exact xC ⟨rfl,rfl⟩
 obtain rfl:=sI h69
 refine go ?_
 refine RS.w (u:=.sl 10 0 2 2) (σ':=⟨[(10,.row [.i6 3,.i6 4] 3),(9,.row (q06 r34) 43),(8,.row [.i6 0,.i6 1] 3),(7,.row [.i6 0,.i6 0] 3),(6,.row [.nils,.sl 4 0 1 1,.sl 5 0 1 1] 33),(5,.row [.i6 1] 3),(4,.row [.i6 0] 3),(3,.row [.iM q02 r7.Nodes] 24)],11⟩) rfl (q0i und33 inf3 rfl rfl rfl rfl rfl rfl rfl) (RS.cl rfl (pC (q57 n 7 r45 h46) _) fn45 ?_)
 refine qxj rfl (qxg 10 1) (pC (q52 n ([3,4]) r45 r47 h48) _) fn22 ?_
 refine RS.w (u:=.sl 11 0 2 2) (σ':=⟨[(11,.row [.i6 3,.i6 1] 3),(9,.row (q06 r34) 43),(8,.row [.i6 0,.i6 1] 3),(7,.row [.i6 0,.i6 0] 3),(6,.row [.nils,.sl 4 0 1 1,.sl 5 0 1 1] 33),(5,.row [.i6 1] 3),(4,.row [.i6 0] 3),(3,.row [.iM q02 r7.Nodes] 24)],12⟩) rfl (q0i und33 inf3 rfl rfl rfl rfl rfl rfl rfl) ?_
 refine qxj rfl (qxg 11 1) (pC (q0t n 0 ([3,1]) r49 h50) _) fn44 ?_
 refine RS.w (u:=.sl 12 0 2 2) (σ':=⟨[(12,.row [.i6 4,.i6 2] 3),(9,.row (q06 r34) 43),(8,.row [.i6 0,.i6 1] 3),(7,.row [.i6 0,.i6 0] 3),(6,.row [.nils,.sl 4 0 1 1,.sl 5 0 1 1] 33),(5,.row [.i6 1] 3),(4,.row [.i6 0] 3),(3,.row [.iM q02 r7.Nodes] 24)],13⟩) rfl (q0i und33 inf3 rfl rfl rfl rfl rfl rfl rfl) ?_
 refine qxj rfl (qxg 12 1) (pC (q0t n 0 ([4,2]) r51 h52) _) fn44 ?_
 refine RS.cl rfl (qxm (args':=[.i6 7,.isl false []]) (.cons (.refl _) (.cons (.nil false) .nil)) (pC (q0t n 7 [] r53 h54)) _) fn44 (RS.w (u:=.sl 13 0 3 3) (σ':=⟨[(13,.row [.i6 r49.Typex,.iM q0o r49.Arcs,.i6 r51.Typex,.iM q0o r51.Arcs,.i6 r53.Typex,.iM q0o r53.Arcs] 54),(9,.row (q06 r34) 43),(8,.row [.i6 0,.i6 1] 3),(7,.row [.i6 0,.i6 0] 3),(6,.row [.nils,.sl 4 0 1 1,.sl 5 0 1 1] 33),(5,.row [.i6 1] 3),(4,.row [.i6 0] 3),(3,.row [.iM q02 r7.Nodes] 24)],14⟩) rfl (q0i und22 inf54 rfl rfl rfl rfl rfl rfl rfl) ?_)
 refine qxj rfl (qxg 13 2) (pC (q4y n ([r49,r51,r53]) r55 h56) _) fn43 ?_
 refine RS.cl rfl (pC (q4d n r47 r55 r57 h58) _) fn21 ?_
 refine go ?_
 exact xC ⟨rfl,rfl⟩
 obtain rfl:=sI h69
 refine go ?_
 refine RS.w (u:=.sl 10 0 2 2) (σ':=⟨[(10,.row [.i6 3,.i6 4] 3),(9,.row (q06 r34) 43),(8,.row [.i6 0,.i6 1] 3),(7,.row [.i6 0,.i6 0] 3),(6,.row [.nils,.sl 4 0 1 1,.sl 5 0 1 1] 33),(5,.row [.i6 1] 3),(4,.row [.i6 0] 3),(3,.row [.iM q02 r7.Nodes] 24)],11⟩) rfl (q0i und33 inf3 rfl rfl rfl rfl rfl rfl rfl) (RS.cl rfl (pC (q57 n 7 r45 h46) _) fn45 ?_)
 refine qxj rfl (qxg 10 1) (pC (q52 n ([3,4]) r45 r47 h48) _) fn22 ?_
 refine RS.w (u:=.sl 11 0 2 2) (σ':=⟨[(11,.row [.i6 3,.i6 1] 3),(9,.row (q06 r34) 43),(8,.row [.i6 0,.i6 1] 3),(7,.row [.i6 0,.i6 0] 3),(6,.row [.nils,.sl 4 0 1 1,.sl 5 0 1 1] 33),(5,.row [.i6 1] 3),(4,.row [.i6 0] 3),(3,.row [.iM q02 r7.Nodes] 24)],12⟩) rfl (q0i und33 inf3 rfl rfl rfl rfl rfl rfl rfl) ?_
 refine qxj rfl (qxg 11 1) (pC (q0t n 0 ([3,1]) r49 h50) _) fn44 ?_
 refine RS.w (u:=.sl 12 0 2 2) (σ':=⟨[(12,.row [.i6 4,.i6 2] 3),(9,.row (q06 r34) 43),(8,.row [.i6 0,.i6 1] 3),(7,.row [.i6 0,.i6 0] 3),(6,.row [.nils,.sl 4 0 1 1,.sl 5 0 1 1] 33),(5,.row [.i6 1] 3),(4,.row [.i6 0] 3),(3,.row [.iM q02 r7.Nodes] 24)],13⟩) rfl (q0i und33 inf3 rfl rfl rfl rfl rfl rfl rfl) ?_
 refine qxj rfl (qxg 12 1) (pC (q0t n 0 ([4,2]) r51 h52) _) fn44 ?_
 refine RS.cl rfl (qxm (args':=[.i6 7,.isl false []]) (.cons (.refl _) (.cons (.nil false) .nil)) (pC (q0t n 7 [] r53 h54)) _) fn44 (RS.w (u:=.sl 13 0 3 3) (σ':=⟨[(13,.row [.i6 r49.Typex,.iM q0o r49.Arcs,.i6 r51.Typex,.iM q0o r51.Arcs,.i6 r53.Typex,.iM q0o r53.Arcs] 54),(9,.row (q06 r34) 43),(8,.row [.i6 0,.i6 1] 3),(7,.row [.i6 0,.i6 0] 3),(6,.row [.nils,.sl 4 0 1 1,.sl 5 0 1 1] 33),(5,.row [.i6 1] 3),(4,.row [.i6 0] 3),(3,.row [.iM q02 r7.Nodes] 24)],14⟩) rfl (q0i und22 inf54 rfl rfl rfl rfl rfl rfl rfl) ?_)
 refine qxj rfl (qxg 13 2) (pC (q4y n ([r49,r51,r53]) r55 h56) _) fn43 ?_
 refine RS.cl rfl (pC (q4d n r47 r55 r57 h58) _) fn21 ?_
 refine go ?_
 exact xC ⟨rfl,rfl⟩
 exact gy h69
 exact gy h69
 exact gy h69
 obtain ⟨r9,h10,h28⟩:=q00 h28
 obtain ⟨r11,h12,h28⟩:=q00 h28
 rcases gB h28 with ⟨h13,h28⟩ | ⟨h13,h28⟩
 obtain rfl:=sI h28
 refine go ?_
 refine RS.q (u:=.agg [.iM q02 r7.Nodes]) rfl (q1f und24 rfl (q04 inf24) rfl rfl rfl) (RS.cl rfl (pC (q9e n r7 r9 h10) _) fn15 (RS.q (u:=.sl 4 0 1 1) (σ':=⟨[(4,.row [.i6 0] 3),(3,.row [.iM q02 r7.Nodes] 24)],5⟩) rfl (q0i und33 inf3 rfl rfl rfl rfl rfl rfl rfl) (RS.q (u:=.sl 5 0 1 1) (σ':=⟨[(5,.row [.i6 1] 3),(4,.row [.i6 0] 3),(3,.row [.iM q02 r7.Nodes] 24)],6⟩) rfl (q0i und33 inf3 rfl rfl rfl rfl rfl rfl rfl) (RS.q (u:=.sl 6 0 3 3) (σ':=⟨[(6,.row [.nils,.sl 4 0 1 1,.sl 5 0 1 1] 33),(5,.row [.i6 1] 3),(4,.row [.i6 0] 3),(3,.row [.iM q02 r7.Nodes] 24)],7⟩) rfl (q0i und28 inf33 rfl rfl rfl rfl rfl rfl rfl) (RS.cl rfl (vw (q66 n r9 ([[],[0],[1]]) r11 h12) (Gh.trans (qxg 4 1) (Gh.trans (qxg 5 1) (Gh.trans (qxu 6) (qxg 6 1))))) fn14 ?_)))))
 refine go ?_
 exact xC ⟨rfl,rfl⟩
 obtain ⟨r14,h15,h28⟩:=q00 h28
 obtain ⟨r16,h17,h28⟩:=q00 h28
 rcases gB h28 with ⟨h18,h28⟩ | ⟨h18,h28⟩
 obtain rfl:=sI h28
 refine go ?_
 refine RS.q (u:=.agg [.iM q02 r7.Nodes]) rfl (q1f und24 rfl (q04 inf24) rfl rfl rfl) (RS.cl rfl (pC (q9e n r7 r9 h10) _) fn15 (RS.q (u:=.sl 4 0 1 1) (σ':=⟨[(4,.row [.i6 0] 3),(3,.row [.iM q02 r7.Nodes] 24)],5⟩) rfl (q0i und33 inf3 rfl rfl rfl rfl rfl rfl rfl) (RS.q (u:=.sl 5 0 1 1) (σ':=⟨[(5,.row [.i6 1] 3),(4,.row [.i6 0] 3),(3,.row [.iM q02 r7.Nodes] 24)],6⟩) rfl (q0i und33 inf3 rfl rfl rfl rfl rfl rfl rfl) (RS.q (u:=.sl 6 0 3 3) (σ':=⟨[(6,.row [.nils,.sl 4 0 1 1,.sl 5 0 1 1] 33),(5,.row [.i6 1] 3),(4,.row [.i6 0] 3),(3,.row [.iM q02 r7.Nodes] 24)],7⟩) rfl (q0i und28 inf33 rfl rfl rfl rfl rfl rfl rfl) (RS.cl rfl (vw (q66 n r9 ([[],[0],[1]]) r11 h12) (Gh.trans (qxg 4 1) (Gh.trans (qxg 5 1) (Gh.trans (qxu 6) (qxg 6 1))))) fn14 ?_)))))
 refine go ?_
 refine RS.w (u:=.agg [.iM q02 r7.Nodes]) rfl (q1f und24 rfl (q04 inf24) rfl rfl rfl) (RS.cl rfl (pC (qb8 n r7 r14 h15) _) fn18 (RS.w (u:=.sl 7 0 1 1) (σ':=⟨[(7,.row [.i6 1] 3),(6,.row [.nils,.sl 4 0 1 1,.sl 5 0 1 1] 33),(5,.row [.i6 1] 3),(4,.row [.i6 0] 3),(3,.row [.iM q02 r7.Nodes] 24)],8⟩) rfl (q0i und33 inf3 rfl rfl rfl rfl rfl rfl rfl) (RS.w (u:=.sl 8 0 2 2) (σ':=⟨[(8,.row [.i6 0,.i6 0] 3),(7,.row [.i6 1] 3),(6,.row [.nils,.sl 4 0 1 1,.sl 5 0 1 1] 33),(5,.row [.i6 1] 3),(4,.row [.i6 0] 3),(3,.row [.iM q02 r7.Nodes] 24)],9⟩) rfl (q0i und33 inf3 rfl rfl rfl rfl rfl rfl rfl) (RS.w (u:=.agg [.sl 7 0 1 1,.sl 8 0 2 2]) rfl (q3y bd56 rfl rfl rfl) (RS.w (u:=.sl 9 0 1 1) (σ':=⟨[(9,.row [.sl 7 0 1 1,.sl 8 0 2 2] 56),(8,.row [.i6 0,.i6 0] 3),(7,.row [.i6 1] 3),(6,.row [.nils,.sl 4 0 1 1,.sl 5 0 1 1] 33),(5,.row [.i6 1] 3),(4,.row [.i6 0] 3),(3,.row [.iM q02 r7.Nodes] 24)],10⟩) rfl (q0i und31 inf56 rfl rfl rfl rfl rfl rfl rfl) (RS.cl rfl (vw (q5w n r14 ([(q0j.mk ([1]) ([0,0]))]) r16 h17) (Gh.trans (qxg 7 1) (Gh.trans (qxg 8 1) (qxg 9 2)))) fn17 ?_))))))
 refine go ?_
 exact xC ⟨rfl,rfl⟩
 obtain ⟨r19,h20,h28⟩:=q00 h28
 obtain ⟨r21,h22,h28⟩:=q00 h28
 obtain ⟨r23,h24,h28⟩:=q00 h28
 obtain ⟨r25,h26,h28⟩:=q00 h28
 obtain rfl:=sI h28
 refine go ?_
 refine RS.q (u:=.agg [.iM q02 r7.Nodes]) rfl (q1f und24 rfl (q04 inf24) rfl rfl rfl) (RS.cl rfl (pC (q9e n r7 r9 h10) _) fn15 (RS.q (u:=.sl 4 0 1 1) (σ':=⟨[(4,.row [.i6 0] 3),(3,.row [.iM q02 r7.Nodes] 24)],5⟩) rfl (q0i und33 inf3 rfl rfl rfl rfl rfl rfl rfl) (RS.q (u:=.sl 5 0 1 1) (σ':=⟨[(5,.row [.i6 1] 3),(4,.row [.i6 0] 3),(3,.row [.iM q02 r7.Nodes] 24)],6⟩) rfl (q0i und33 inf3 rfl rfl rfl rfl rfl rfl rfl) (RS.q (u:=.sl 6 0 3 3) (σ':=⟨[(6,.row [.nils,.sl 4 0 1 1,.sl 5 0 1 1] 33),(5,.row [.i6 1] 3),(4,.row [.i6 0] 3),(3,.row [.iM q02 r7.Nodes] 24)],7⟩) rfl (q0i und28 inf33 rfl rfl rfl rfl rfl rfl rfl) (RS.cl rfl (vw (q66 n r9 ([[],[0],[1]]) r11 h12) (Gh.trans (qxg 4 1) (Gh.trans (qxg 5 1) (Gh.trans (qxu 6) (qxg 6 1))))) fn14 ?_)))))
 refine go ?_
 refine RS.w (u:=.agg [.iM q02 r7.Nodes]) rfl (q1f und24 rfl (q04 inf24) rfl rfl rfl) (RS.cl rfl (pC (qb8 n r7 r14 h15) _) fn18 (RS.w (u:=.sl 7 0 1 1) (σ':=⟨[(7,.row [.i6 1] 3),(6,.row [.nils,.sl 4 0 1 1,.sl 5 0 1 1] 33),(5,.row [.i6 1] 3),(4,.row [.i6 0] 3),(3,.row [.iM q02 r7.Nodes] 24)],8⟩) rfl (q0i und33 inf3 rfl rfl rfl rfl rfl rfl rfl) (RS.w (u:=.sl 8 0 2 2) (σ':=⟨[(8,.row [.i6 0,.i6 0] 3),(7,.row [.i6 1] 3),(6,.row [.nils,.sl 4 0 1 1,.sl 5 0 1 1] 33),(5,.row [.i6 1] 3),(4,.row [.i6 0] 3),(3,.row [.iM q02 r7.Nodes] 24)],9⟩) rfl (q0i und33 inf3 rfl rfl rfl rfl rfl rfl rfl) (RS.w (u:=.agg [.sl 7 0 1 1,.sl 8 0 2 2]) rfl (q3y bd56 rfl rfl rfl) (RS.w (u:=.sl 9 0 1 1) (σ':=⟨[(9,.row [.sl 7 0 1 1,.sl 8 0 2 2] 56),(8,.row [.i6 0,.i6 0] 3),(7,.row [.i6 1] 3),(6,.row [.nils,.sl 4 0 1 1,.sl 5 0 1 1] 33),(5,.row [.i6 1] 3),(4,.row [.i6 0] 3),(3,.row [.iM q02 r7.Nodes] 24)],10⟩) rfl (q0i und31 inf56 rfl rfl rfl rfl rfl rfl rfl) (RS.cl rfl (vw (q5w n r14 ([(q0j.mk ([1]) ([0,0]))]) r16 h17) (Gh.trans (qxg 7 1) (Gh.trans (qxg 8 1) (qxg 9 2)))) fn17 ?_))))))
 refine go ?_
 refine RS.w (u:=.sl 10 0 2 2) (σ':=⟨[(10,.row [.i6 5,.i6 0] 3),(9,.row [.sl 7 0 1 1,.sl 8 0 2 2] 56),(8,.row [.i6 0,.i6 0] 3),(7,.row [.i6 1] 3),(6,.row [.nils,.sl 4 0 1 1,.sl 5 0 1 1] 33),(5,.row [.i6 1] 3),(4,.row [.i6 0] 3),(3,.row [.iM q02 r7.Nodes] 24)],11⟩) rfl (q0i und33 inf3 rfl rfl rfl rfl rfl rfl rfl) ?_
 refine qxj rfl (qxg 10 1) (pC (q0t n 1 ([5,0]) r19 h20) _) fn44 ?_
 refine RS.w (u:=.sl 11 0 1 1) (σ':=⟨[(11,.row (q02 r19) 54),(9,.row [.sl 7 0 1 1,.sl 8 0 2 2] 56),(8,.row [.i6 0,.i6 0] 3),(7,.row [.i6 1] 3),(6,.row [.nils,.sl 4 0 1 1,.sl 5 0 1 1] 33),(5,.row [.i6 1] 3),(4,.row [.i6 0] 3),(3,.row [.iM q02 r7.Nodes] 24)],12⟩) rfl (q0i und22 inf54 rfl rfl rfl rfl rfl rfl rfl) ?_
 refine qxj rfl (qxg 11 2) (pC (q4y n ([r19]) r21 h22) _) fn43 ?_
 refine RS.cl rfl (pC (qb8 n r21 r23 h24) _) fn18 (RS.w (u:=.sl 12 0 1 1) (σ':=⟨[(12,.row [.i6 5] 3),(9,.row [.sl 7 0 1 1,.sl 8 0 2 2] 56),(8,.row [.i6 0,.i6 0] 3),(7,.row [.i6 1] 3),(6,.row [.nils,.sl 4 0 1 1,.sl 5 0 1 1] 33),(5,.row [.i6 1] 3),(4,.row [.i6 0] 3),(3,.row [.iM q02 r7.Nodes] 24)],13⟩) rfl (q0i und33 inf3 rfl rfl rfl rfl rfl rfl rfl) (RS.w (u:=.agg [.nils,.sl 12 0 1 1]) rfl (q3y bd56 rfl rfl rfl) (RS.w (u:=.sl 13 0 1 1) (σ':=⟨[(13,.row [.nils,.sl 12 0 1 1] 56),(12,.row [.i6 5] 3),(9,.row [.sl 7 0 1 1,.sl 8 0 2 2] 56),(8,.row [.i6 0,.i6 0] 3),(7,.row [.i6 1] 3),(6,.row [.nils,.sl 4 0 1 1,.sl 5 0 1 1] 33),(5,.row [.i6 1] 3),(4,.row [.i6 0] 3),(3,.row [.iM q02 r7.Nodes] 24)],14⟩) rfl (q0i und31 inf56 rfl rfl rfl rfl rfl rfl rfl) (RS.cl rfl (vw (q5w n r23 ([(q0j.mk [] ([5]))]) r25 h26) (Gh.trans (qxg 12 1) (Gh.trans (qxu 13) (qxg 13 2)))) fn17 ?_))))
 refine go ?_
 exact xC ⟨rfl,rfl⟩
def q3b (n:Nat) (p1:Int):Option (Bool) :=
 q03 (q37 n) fun r2 =>
 q03 (q34 n ([82,69,83,84,46]) (IntKind.i64.wrap ((IntKind.i64.wrap (1+((IntKind.i64.wrap p1).tmod 100))) - 1))) fun r5 =>
 q16 (r5.length+([70,73,82,83,84]).length≤9223372036854775807) (
 q03 (q2y n r2 (r5++[70,73,82,83,84])) fun r8 =>
 q03 (q34 n ([46]) 64) fun r10 =>
 q16 (([120]).length+r10.length≤9223372036854775807) (
 q03 (q2y n r2 ([120]++r10)) fun r13 =>
 q03 (q34 n ([46]) 63) fun r15 =>
 q16 (([120]).length+r15.length≤9223372036854775807) (
 q03 (q2y n r2 ([120]++r15)) fun r18 =>
 q03 (cond (r13.2 != 7)
  (some true)
  (some (r18.2 != 8))) fun b21 =>
 cond b21
  (some false)
  (cond (decide ((IntKind.i64.wrap (1+((IntKind.i64.wrap p1).tmod 100))) > 64))
   (q03 (cond (r8.2 == 7)
    (cond ((r8.1.length:Int) == 0)
     (q03 (q24 n) fun r27 =>
     some r27)
     (some false))
    (some false)) fun b29 =>
   some b29)
   (q03 (cond (r8.2 == 0)
    (cond ((r8.1.length:Int) == (IntKind.i64.wrap (1+((IntKind.i64.wrap p1).tmod 100))))
     (q03 (q24 n) fun r33 =>
     some r33)
     (some false))
    (some false)) fun b35 =>
   some b35)))))
end Go.Proofs
end
