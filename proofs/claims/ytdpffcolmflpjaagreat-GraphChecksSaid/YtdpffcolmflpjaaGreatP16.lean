/-
  Texts of the walk: H4z.
-/
import Derived.Test.YtdpffcolmflpjaaGreatP15
set_option linter.unusedSimpArgs false
set_option linter.unusedVariables false
section
namespace Go.Proofs
open Go Go.Rx Go.Vx Tryz
set_option maxRecDepth 20000
set_option maxHeartbeats 4000000
set_option synthInstance.maxSize 4000
set_option synthInstance.maxHeartbeats 200000
instance {a b:Int}:DeC q08 [.int .i64 a,.int .i64 b] (q0m.mk a b):=⟨rfl⟩
structure q0d where
 Typex:Int
 Arcs:List q0m
def q01 (x:q0d):List U:=[.int .i64 x.Typex,.isl false (List.map q08 x.Arcs)]
instance {a0:Int} {a1:List q0m}:DeC q01 [.int .i64 a0,.isl false (List.map q08 a1)] (q0d.mk a0 a1):=⟨rfl⟩
theorem qf3 (n:Nat) (x:q0d):q1t n (q01 x):=by
 simp only [q01,q1t,Bel,true_and,and_true]
 exact q7m _ (fun q=>qgm _ q) _
theorem qfa (x:q0d):(q01 x).length=2:=rfl
instance:qm7 q01 2:=⟨qfa⟩
instance:BF q01:=⟨qf3⟩
instance (n:Nat) (x:q0d):BUL n (q01 x):=⟨qf3 n x⟩
structure GFS where
 Nodes:List q0d
def cGFS (x:GFS):List U:=[.isl false (List.map q01 x.Nodes)]
structure q14 where
 Feat:Int
 Value:Int
def q2a (x:q14):List U:=[.int .i64 x.Feat,.int .i64 x.Value]
instance {a0:Int} {a1:Int}:DeC q2a [.int .i64 a0,.int .i64 a1] (q14.mk a0 a1):=⟨rfl⟩
theorem qip (n:Nat) (x:q14):q1t n (q2a x):=by
 simp only [q2a,q1t,Bel,true_and,and_true]
theorem qpk (x:q14):(q2a x).length=2:=rfl
instance:qm7 q2a 2:=⟨qpk⟩
instance:BF q2a:=⟨qip⟩
structure qde where
 Name:List UInt8
 Code:List Int
 Supers:List Int
 Feats:List q14
def qcz (x:qde):List U:=[.str x.Name,.isl false (List.map (cI .u64) x.Code),.isl false (List.map (cI .i64) x.Supers),.isl false (List.map q2a x.Feats)]
instance {a0:List UInt8} {a1:List Int} {a2:List Int} {a3:List q14}:DeC qcz [.str a0,.isl false (List.map (cI .u64) a1),.isl false (List.map (cI .i64) a2),.isl false (List.map q2a a3)] (qde.mk a0 a1 a2 a3):=⟨rfl⟩
theorem qmc (n:Nat) (x:qde):q1t n (qcz x):=by
 simp only [qcz,q1t,Bel,true_and,and_true]
 exact ⟨q7m _ (fun q=>qk5 _ .u64 q) _,q7m _ (fun q=>qk5 _ .i64 q) _,q7m _ (fun q=>qip _ q) _⟩
theorem qud (x:qde):(qcz x).length=4:=rfl
instance:qm7 qcz 4:=⟨qud⟩
instance:BF qcz:=⟨qmc⟩
structure q29 where
 Name:List UInt8
 Intro:Int
def q3n (x:q29):List U:=[.str x.Name,.int .i64 x.Intro]
instance {a0:List UInt8} {a1:Int}:DeC q3n [.str a0,.int .i64 a1] (q29.mk a0 a1):=⟨rfl⟩
theorem qgn (n:Nat) (x:q29):q1t n (q3n x):=by
 simp only [q3n,q1t,Bel,true_and,and_true]
theorem qnn (x:q29):(q3n x).length=2:=rfl
instance:qm7 q3n 2:=⟨qnn⟩
instance:BF q3n:=⟨qgn⟩
structure q0n where
 Types:List qde
 Feats:List q29
def q20 (x:q0n):List U:=[.isl false (List.map qcz x.Types),.isl false (List.map q3n x.Feats)]
theorem qk4 (n:Nat) (x:q0n):q1t n (q20 x):=by
 simp only [q20,q1t,Bel,true_and,and_true]
 exact ⟨q7m _ (fun q=>qmc _ q) _,q7m _ (fun q=>qgn _ q) _⟩
theorem qkv (x:q0n):(q20 x).length=2:=rfl
instance:qm7 q20 2:=⟨qkv⟩
instance (n:Nat) (x:q0n):BUL n (q20 x):=⟨qk4 n x⟩
structure q13 where
 Feat:List UInt8
 Value:List UInt8
def q0f (x:q13):List U:=[.str x.Feat,.str x.Value]
instance {a0:List UInt8} {a1:List UInt8}:DeC q0f [.str a0,.str a1] (q13.mk a0 a1):=⟨rfl⟩
theorem qfr (n:Nat) (x:q13):q1t n (q0f x):=by
 simp only [q0f,q1t,Bel,true_and,and_true]
theorem qlw (x:q13):(q0f x).length=2:=rfl
instance:qm7 q0f 2:=⟨qlw⟩
instance:BF q0f:=⟨qfr⟩
structure q02 where
 Name:List UInt8
 Supers:List (List UInt8)
 Feats:List q13
def q03 (x:q02):List U:=[.str x.Name,.isl false (List.map cS x.Supers),.isl false (List.map q0f x.Feats)]
theorem qfs (n:Nat) (x:q02):q1t n (q03 x):=by
 simp only [q03,q1t,Bel,true_and,and_true]
 exact ⟨q7m _ (fun q=>z0u _ q) _,q7m _ (fun q=>qfr _ q) _⟩
theorem qlx (x:q02):(q03 x).length=3:=rfl
instance:qm7 q03 3:=⟨qlx⟩
instance:BF q03:=⟨qfs⟩
instance (n:Nat) (x:q02):BUL n (q03 x):=⟨qfs n x⟩
structure q0c where
 Name:List UInt8
 Code:List Int
instance:Inhabited q0c:=⟨.mk default default⟩
def q0e (x:q0c):List U:=[.str x.Name,.isl false (List.map (cI .u64) x.Code)]
instance {a0:List UInt8} {a1:List Int}:DeC q0e [.str a0,.isl false (List.map (cI .u64) a1)] (q0c.mk a0 a1):=⟨rfl⟩
theorem qk3 (n:Nat) (x:q0c):q1t n (q0e x):=by
 simp only [q0e,q1t,Bel,true_and,and_true]
 exact q7m _ (fun q=>qk5 _ .u64 q) _
theorem q6b (x:q0c):(q0e x).length=2:=rfl
instance:qm7 q0e 2:=⟨q6b⟩
instance:BF q0e:=⟨qk3⟩
instance (n:Nat) (x:q0c):BUL n (q0e x):=⟨qk3 n x⟩
instance Tryz.bd25:BdC Tryz.tb 25 [.nils] [(0,1)]:=⟨bdT un25.h if25.h rfl (by kernel_rfl)⟩
instance Tryz.bd31:BdC Tryz.tb 31 [.nils,.nils] [(0,1),(1,1)]:=⟨bdT un31.h if31.h rfl (by kernel_rfl)⟩
instance Tryz.bd40:BdC Tryz.tb 40 [.int .i64 0,.nils] [(0,1),(1,1)]:=⟨bdT un40.h if40.h rfl (by kernel_rfl)⟩
instance Tryz.bd58:BdC Tryz.tb 58 [.str [],.nils] [(0,1),(1,1)]:=⟨bdT un58.h if58.h rfl (by kernel_rfl)⟩
instance Tryz.bd63:BdC Tryz.tb 63 [.str [],.nils,.nils,.nils] [(0,1),(1,1),(2,1),(3,1)]:=⟨bdT un63.h if63.h rfl (by kernel_rfl)⟩
instance Tryz.bd69:BdC Tryz.tb 69 [.str [],.nils,.nils] [(0,1),(1,1),(2,1)]:=⟨bdT un69.h if69.h rfl (by kernel_rfl)⟩
instance Tryz.bd72:BdC Tryz.tb 72 [.int .i64 0,.int .i64 0] [(0,1),(1,1)]:=⟨bdT un72.h if72.h rfl (by kernel_rfl)⟩
instance Tryz.bd85:BdC Tryz.tb 85 [.int .i64 0,.int .i64 0] [(0,1),(1,1)]:=⟨bdT un85.h if85.h rfl (by kernel_rfl)⟩
instance Tryz.bd96:BdC Tryz.tb 96 [.str [],.int .i64 0] [(0,1),(1,1)]:=⟨bdT un96.h if96.h rfl (by kernel_rfl)⟩
instance Tryz.bd98:BdC Tryz.tb 98 [.str [],.str []] [(0,1),(1,1)]:=⟨bdT un98.h if98.h rfl (by kernel_rfl)⟩
instance Tryz.bd128:BdC Tryz.tb 128 [.nils,.nils,.nils] [(0,1),(1,1),(2,1)]:=⟨bdT un128.h if128.h rfl (by kernel_rfl)⟩
def q2x (z7:Int) (l8:List q0m) (rc2:Int→(List q0m)→Option ((List q0m))) (x13:q0m)  : Option ((List q0m)) :=
 rc2 (IntKind.i64.wrap (z7+1)) (l8++[x13])
def q2w  (l10:List q0m):Option ((List q0m)) :=
 some l10
def q0w (p1:List q0m):Nat→Int→(List q0m)→Option ((List q0m))
 | 0,_,_=>none
 | m2+1,z7,l8 =>
  cond (decide (z7<(p1.length:Int)))
   (q05 (q11 p1 z7) fun x13 =>
   q1m ((l8.length+1)*16≤140737488355328∧l8.length+1≤140737488355328) (
   q2x z7 l8 (q0w p1 m2) x13))
   (q2w l8)
def q3y (n:Nat) (p1:List q0m):Option ((List q0m)) :=
 q0w p1 n 0 ([]:List q0m)
theorem qcx (n:Nat) (p1:List q0m) (r:(List q0m)) (hF:q3y n p1=some r):EvU Tryz.prog 90 [.nils,.fn (.func 80) [] [.iptr [.isl false (List.map q08 p1)]]] ⟨[],0⟩ (fun u σ'=>∃ t:Nat→Nat,u = .vl 1 (t 0) 0 r.length∧σ'=⟨[(1,.vec (List.map q08 r).flatten 72 2 (t 0))],2⟩):=by
 unfold q3y at hF
 refine EvU.of_bodyM Tryz.tb_ok fn90 rfl ?_
 refine WPU.ghost (tm':=fr 13 [(0,.nils),(1,.fn (.func 80) [] [.iptr [.iM q08 p1]])]) (z4k NL) (Nat.le_refl _) ?_
 refine go ?_
 refine WPU.block ?_
 refine gn ?_
 refine gS (l':=[(2,_),(6,_)]) ?_
 refine WPU.range Tryz.tb_ok rfl (fun _ h=>h) (q2g rfl) fn80 rfl rfl ?_
 intro ly1 fn1 tp1 D1
 refine WPU.ghost (tm':=fr 16 [(0,.fn (.yield ly1) [] []),(1,.iptr [.iM q08 p1])]) (z4k NL) (Nat.le_refl _) ?_
 refine gr ?_
 refine WPU.ghost (tm':=fr 16 [(0,.fn (.yield ly1) [] []),(5,.iM q08 p1),(6,.i6 (p1.length:Int)),(7,.i6 0)]) (σ':=⟨[(1,.vec (List.map q08 ([]:List q0m)).flatten 72 2 0),(0,.row [.vl 1 0 0 (([]:List q0m).length)] 38)],2⟩) (Gh.trans (z4l 0 0 72 2 (by decide) NL rfl rfl) (z4e ⟨rfl,rfl,rfl,rfl,trivial⟩ rfl)) NL ?_
 refine gS (l':=[(0,_),(5,_),(6,_),(7,_)]) ?_
 refine z44 (fun m tm σ=>∃ z7:Int,∃ l8:List q0m,∃ t9:Nat,q0w p1 m z7 l8=some r∧tm=fr 16 [(0,.fn (.yield ly1) [] []),(5,.iM q08 p1),(6,.i6 (p1.length:Int)),(7,.i6 z7)]∧σ=⟨[(1,.vec (List.map q08 l8).flatten 72 2 t9),(0,.row [.vl 1 t9 0 l8.length] 38)],2⟩) (fun tm σ=>∃ l10:List q0m,∃ t11:Nat,q2w l10=some r∧tm=fr 16 []∧σ=⟨[(1,.vec (List.map q08 l10).flatten 72 2 t11),(0,.row [.vl 1 t11 0 l10.length] 38)],2⟩) n ⟨0,([]:List q0m),0,hF,rfl,rfl⟩ ?_ ?_
 rintro _ _ ⟨l10,t11,hF,rfl,rfl⟩
 unfold q2w at hF
 refine gn ?_
 refine ⟨.inl rfl,?_⟩
 refine go ?_
 obtain rfl:=sI hF
 exact ⟨.inr rfl,[.vl 1 t11 0 l10.length],q4e rfl (q3x),.vl 1 t11 0 l10.length,⟨[(1,.vec (List.map q08 l10).flatten 72 2 t11)],2⟩,NL,Gh.trans (z4q (fun k=>qwj [1] k)) (z4p (n1:=2) [] rfl rfl NL NL BUL.h BH.h),stF [t11],rfl,rfl⟩
 rintro (_|m2) _ _ ⟨z7,l8,t9,hF,rfl,rfl⟩
 cases hF
 unfold q0w at hF
 refine go ?_
 refine cF hF (fun h12 hF=>?_) (fun h12 hF=>?_)
 refine go ?_
 refine WPU.block ?_
 obtain ⟨x13,h14,hF⟩:=q00 hF
 refine go ?_
 refine RS.ix h14 ?_
 refine go ?_
 refine RS.yield (tmx:=fr 13 [(2,.ptr 0 0 0),(6,.fn (.func 80) [] [.iptr [.iM q08 p1]]),(7,.agg (q08 x13))]) rfl rfl rfl rfl rfl rfl rfl rfl (setP1 rfl) rfl rfl ?_
 refine gr ?_
 refine z47 (fun tm σ=>q2x z7 l8 (q0w p1 m2) x13=some r∧tm=fr 13 []∧σ=⟨[(2,.row (q08 x13) 72),(1,.vec (List.map q08 (l8++[x13])).flatten 72 2 (t9+1)),(0,.row [.vl 1 (t9+1) 0 ((l8++[x13]).length)] 38)],3⟩) ?_ ?_
 rintro _ _ ⟨hF,rfl,rfl⟩
 unfold q2x at hF
 refine ⟨rfl,?_⟩
 refine go ?_
 refine z4m (t:=false) rfl (fun hc=>by cases hc) (fun _=>?_)
 refine go ?_
 exact lC ⟨_,(l8++[x13]),(t9+1),hF,rfl,rfl⟩
 refine go ?_
 refine WPU.block ?_
 obtain ⟨h15,hF⟩:=q09 hF
 refine go ?_
 refine RS.q (u:=.sl 4 0 1 1) (σ':=⟨[(4,.row (q08 x13) 72),(3,.row (q08 x13) 72),(2,.row (q08 x13) 72),(1,.vec (List.map q08 l8).flatten 72 2 t9),(0,.row [.vl 1 t9 0 l8.length] 38)],5⟩) rfl (q56 un38.h if72.h rfl rfl rfl rfl rfl rfl rfl) ?_
 refine RS.g ?_
 refine go ?_
 exact xC ⟨hF,rfl,rfl⟩
 refine go ?_
 exact xC ⟨l8,t9,hF,rfl,rfl⟩
def q4n (n:Nat) (p1:List q0m):Option ((List q0m)) :=
 q05 (q3y n p1) fun r2 =>
 some r2
theorem qe3 (n:Nat) (p1:List q0m) (r:(List q0m)) (hF:q4n n p1=some r):EvU Tryz.prog 78 [.fn (.func 80) [] [.iptr [.isl false (List.map q08 p1)]]] ⟨[],0⟩ (fun u σ'=>∃ t:Nat→Nat,u = .vl 1 (t 0) 0 r.length∧σ'=⟨[(1,.vec (List.map q08 r).flatten 72 2 (t 0))],2⟩):=by
 unfold q4n at hF
 refine bg1 5 fn78 ?_
 obtain ⟨r2,h3,hF⟩:=q00 hF
 refine go ?_
 refine z4d (R:=fun u σ'=>∃ t4:Nat→Nat,u = .vl 1 (t4 0) 0 r2.length∧σ'=⟨[(1,.vec (List.map q08 r2).flatten 72 2 (t4 0))],2⟩) (args:=[.nils,.fn (.func 80) [] [.iptr [.iM q08 p1]]]) rfl (q12 rfl rfl fn90 hb90 rfl rfl) (EvU.st [] (qcx n p1 r2 h3 )) rfl rfl ?_
 rintro _ _ ⟨t4,rfl,rfl⟩
 refine go ?_
 obtain rfl:=sI hF
 exact ⟨.inr rfl,[.vl 1 (t4 0) 0 r2.length],q4e rfl (q3x),.vl 1 (t4 0) 0 r2.length,⟨[(1,.vec (List.map q08 r2).flatten 72 2 (t4 0))],2⟩,NL,Gh.trans (z4q (fun k=>qwj [1] k)) (z4p (n1:=2) [] rfl rfl NL NL BUL.h BH.h),stF [(t4 0)],rfl,rfl⟩
def q1o (n:Nat) (p1:List q0m):Option ((List q0m)) :=
 q05 (q4n n p1) fun r2 =>
 q05 (qqi eqA (fun a b=>q1q n a b ) r2) fun r6 =>
 some r6
theorem q74 (n:Nat) (p1:List q0m) (r:(List q0m)) (hF:q1o n p1=some r):EvU Tryz.prog 48 [.fn (.func 80) [] [.iptr [.isl false (List.map q08 p1)]],.fn (.func 50) [] []] ⟨[],0⟩ (fun u σ'=>∃ t:Nat→Nat,u = .vl 1 (t 0) 0 r.length∧σ'=⟨[(1,.vec (List.map q08 r).flatten 72 2 (t 0))],2⟩):=by
 unfold q1o at hF
 refine bg2 12 fn48 ?_
 obtain ⟨r2,h3,hF⟩:=q00 hF
 refine go ?_
 refine z4d (R:=fun u σ'=>∃ t4:Nat→Nat,u = .vl 1 (t4 0) 0 r2.length∧σ'=⟨[(1,.vec (List.map q08 r2).flatten 72 2 (t4 0))],2⟩) (args:=[.fn (.func 80) [] [.iptr [.iM q08 p1]]]) rfl (q12 rfl rfl fn78 hb78 rfl rfl) (EvU.st [] (qe3 n p1 r2 h3 )) rfl rfl ?_
 rintro _ _ ⟨t4,rfl,rfl⟩
 obtain ⟨r6,h5,hF⟩:=q00 hF
 refine gn ?_
 refine z47 (fun tm σ=>tm=fr 12 [(5,.vl 1 (t4 0) 0 r6.length)]∧σ=⟨[(1,.vec (List.map q08 r6).flatten 72 2 (t4 0))],2⟩) ?_ ?_
 rintro _ _ ⟨rfl,rfl⟩
 refine go ?_
 obtain rfl:=sI hF
 exact ⟨.inr rfl,[.vl 1 (t4 0) 0 r6.length],q4e rfl (q3x),.vl 1 (t4 0) 0 r6.length,⟨[(1,.vec (List.map q08 r6).flatten 72 2 (t4 0))],2⟩,NL,Gh.trans (z4q (fun k=>qwj [1] k)) (z4p (n1:=2) [] rfl rfl NL NL BUL.h BH.h),stF [(t4 0)],rfl,rfl⟩
 refine go ?_
 refine z4d (args:=[.vl 1 (t4 0) 0 r2.length,.fn (.func 50) [] []]) rfl (q12 rfl rfl fn79 hb79 rfl rfl) (z3u  (fun a b r h=>qi8 n a b  r h) r2 r6 h5 _ rfl rfl) rfl rfl ?_
 rintro _ _ ⟨rfl,rfl⟩
 refine go ?_
 exact ⟨_,_,⟨rfl,rfl⟩,NZ,z4e ⟨(by simp only [qy6 h5]; rfl),trivial⟩ rfl⟩
def q2t (n:Nat) (p1:List q0m):Option ((List q0m)) :=
 some p1
theorem q94 (n:Nat) (p1:List q0m) (r:(List q0m)) (hF:q2t n p1=some r):EvU Tryz.prog 49 [.isl false (List.map q08 p1)] ⟨[],0⟩ (fun u σ'=>∃ t:Nat→Nat,u = .fn (.func 80) [] [.iptr [.isl false (List.map q08 r)]]∧σ'=⟨[],0⟩):=by
 unfold q2t at hF
 refine bg1 4 fn49 ?_
 refine go ?_
 refine RS.q rfl (qxf rfl rfl) ?_
 refine go ?_
 obtain rfl:=sI hF
 exact ⟨.inr rfl,[.fn (.func 80) [] [.ptr 0 0 0]],q4e rfl (q3x),.fn (.func 80) [] [.iptr [.iM q08 p1]],⟨[],0⟩,NL,Gh.trans (z4b 0 1) (z4p (n1:=0) [] rfl rfl NL NL BUL.h BH.h),stF [],rfl,rfl⟩
def q1u (z24:Int) (rc1:Int→(List Int)→(q7l Int Int)→Option ((List Int)×(q7l Int Int))) (l35:List Int) (w37:q7l Int Int):Option ((List Int)×(q7l Int Int)) :=
 rc1 (IntKind.i64.wrap (z24+1)) l35 w37
def q3p  (l28:List Int) (w30:q7l Int Int):Option ((List Int)×(q7l Int Int)) :=
 some (l28,w30)
def q0y (p2:List q0d) (r12:(List q0m)) (self:Int→(List q0d)→(List Int)→(q7l Int Int)→Option ((List Int)×(q7l Int Int))):Nat→Int→(List Int)→(q7l Int Int)→Option ((List Int)×(q7l Int Int))
 | 0,_,_,_=>none
 | m1+1,z24,l25,w27 =>
  cond (decide (z24<(r12.length:Int)))
   (q05 (q11 r12 z24) fun x32 =>
   cond (!((qms (fun a b=>a == b) w27 x32.To).isSome))
    (q05 (self x32.To p2 l25 w27) fun r38 =>
    q1u z24 (q0y p2 r12 self m1) r38.1 r38.2)
    (q1u z24 (q0y p2 r12 self m1) l25 w27))
   (q3p l25 w27)
def q4a (n:Nat) (self:Int→(List q0d)→(List Int)→(q7l Int Int)→Option ((List Int)×(q7l Int Int))) (p1:Int) (p2:List q0d) (p3:List Int) (p5:q7l Int Int):Option ((List Int)×(q7l Int Int)) :=
 q1m ((p3.length+1)*8≤140737488355328∧p3.length+1≤140737488355328) (
 q05 (q11 p2 p1) fun x7 =>
 q05 (q2t n x7.Arcs) fun r9 =>
 q05 (q1o n r9) fun r12 =>
 q0y p2 r12 self n 0 (p3++[p1]) (qmt (fun a b=>a == b) p5 p1 (p3.length:Int)))
def q16:Nat→Int→(List q0d)→(List Int)→(q7l Int Int)→Option ((List Int)×(q7l Int Int))
 | 0,_,_,_,_=>none
 | n+1,p1,p2,p3,p5=>q4a n (q16 n) p1 p2 p3 p5
theorem q93:∀ (n:Nat) (p1:Int) (p2:List q0d) (p3:List Int) (p5:q7l Int Int) (r:(List Int)×(q7l Int Int)),q16 n p1 p2 p3 p5=some r→∀ t4:Nat,EvU Tryz.prog 47 [.int .i64 p1,.ptr 0 0 0,.ptr 1 0 0,.ptr 2 0 0,.ptr 3 0 0] ⟨[(0,.row [.vl 4 t4 0 p3.length] 59),(1,.row [.map 5] 101),(2,.row [.isl false (List.map q01 p2)] 25),(3,.row [.fn (.func 47) [] [.ptr 0 0 0,.ptr 1 0 0,.ptr 2 0 0,.ptr 3 0 0]] 102),(4,.vec (List.map (cI .i64) p3).flatten 3 1 t4),(5,.map (List.map (mE (fun x=>.int .i64 x) (fun x=>.int .i64 x)) p5.es) p5.cl)],6⟩ (fun u σ'=>∃ t:Nat→Nat,u = .tup []∧σ'=⟨[(0,.row [.vl 4 (t 0) 0 r.1.length] 59),(1,.row [.map 5] 101),(2,.row [.isl false (List.map q01 p2)] 25),(3,.row [.fn (.func 47) [] [.ptr 0 0 0,.ptr 1 0 0,.ptr 2 0 0,.ptr 3 0 0]] 102),(4,.vec (List.map (cI .i64) r.1).flatten 3 1 (t 0)),(5,.map (List.map (mE (fun x=>.int .i64 x) (fun x=>.int .i64 x)) r.2.es) r.2.cl)],6⟩)
 | 0,p1,p2,p3,p5,r,hF=>by cases hF
 | n+1,p1,p2,p3,p5,r,hF=>by
  have ih:=q93 n
  unfold q16 q4a at hF
  intro t4
  refine bg5 45 fn47 ?_
  refine go ?_
  refine RS.opn (u:=.junk) (σ':=⟨[(0,.row [.vl 4 t4 0 p3.length] 59),(1,.row [.map 5] 101),(2,.row [.iM q01 p2] 25),(3,.row [.fn (.func 47) [] [.ptr 0 0 0,.ptr 1 0 0,.ptr 2 0 0,.ptr 3 0 0]] 102),(4,.vec (List.map (cI .i64) p3).flatten 3 1 t4),(5,.map (List.map (mE (fun x=>.i6 x) (fun x=>.i6 x)) (qmt (fun a b=>a == b) p5 p1 (p3.length:Int)).es) (qmt (fun a b=>a == b) p5 p1 (p3.length:Int)).cl)],6⟩) rfl (z1q (kU:=(fun x=>.i6 x)) (vU:=(fun x=>.i6 x)) (m:=p5) (k:=p1) (v:=(p3.length:Int)) (qku un3.h) un101.h rfl rfl rfl rfl rfl) rfl ?_
  obtain ⟨h6,hF⟩:=q09 hF
  refine go ?_
  refine RS.g ?_
  refine RS.g ?_
  obtain ⟨x7,h8,hF⟩:=q00 hF
  obtain ⟨r9,h10,hF⟩:=q00 hF
  obtain ⟨r12,h13,hF⟩:=q00 hF
  refine go ?_
  refine RS.ix h8 ?_
  refine go ?_
  refine z4d (R:=fun u σ'=>∃ t11:Nat→Nat,u = .fn (.func 80) [] [.iptr [.iM q08 r9]]∧σ'=⟨[(6,.row [.i6 p1] 3),(0,.row [.vl 4 (t4+1) 0 ((p3++[p1]).length)] 59),(1,.row [.map 5] 101),(2,.row [.iM q01 p2] 25),(3,.row [.fn (.func 47) [] [.ptr 0 0 0,.ptr 1 0 0,.ptr 2 0 0,.ptr 3 0 0]] 102),(4,.vec (List.map (cI .i64) (p3++[p1])).flatten 3 1 (t4+1)),(5,.map (List.map (mE (fun x=>.i6 x) (fun x=>.i6 x)) (qmt (fun a b=>a == b) p5 p1 (p3.length:Int)).es) (qmt (fun a b=>a == b) p5 p1 (p3.length:Int)).cl)],7⟩) (args:=[.iM q08 x7.Arcs]) rfl (q12 rfl rfl fn49 hb49 rfl rfl) (EvU.st [] (q94 n x7.Arcs r9 h10 )) rfl rfl ?_
  rintro _ _ ⟨t11,rfl,rfl⟩
  refine z4d (R:=fun u σ'=>∃ t14:Nat→Nat,u = .vl 8 (t14 0) 0 r12.length∧σ'=⟨[(8,.vec (List.map q08 r12).flatten 72 2 (t14 0)),(6,.row [.i6 p1] 3),(0,.row [.vl 4 (t4+1) 0 ((p3++[p1]).length)] 59),(1,.row [.map 5] 101),(2,.row [.iM q01 p2] 25),(3,.row [.fn (.func 47) [] [.ptr 0 0 0,.ptr 1 0 0,.ptr 2 0 0,.ptr 3 0 0]] 102),(4,.vec (List.map (cI .i64) (p3++[p1])).flatten 3 1 (t4+1)),(5,.map (List.map (mE (fun x=>.i6 x) (fun x=>.i6 x)) (qmt (fun a b=>a == b) p5 p1 (p3.length:Int)).es) (qmt (fun a b=>a == b) p5 p1 (p3.length:Int)).cl)],9⟩) (args:=[.fn (.func 80) [] [.iptr [.iM q08 r9]],.fn (.func 50) [] []]) rfl (q12 rfl rfl fn48 hb48 rfl rfl) (EvU.st [] (q74 n r9 r12 h13 )) rfl rfl ?_
  rintro _ _ ⟨t14,rfl,rfl⟩
  refine go ?_
  refine gS (l':=[(2,_),(4,_),(25,_),(26,_),(27,_)]) ?_
  refine z44 (fun m tm σ=>∃ z24:Int,∃ l25:List Int,∃ t26:Nat,∃ w27:q7l Int Int,q0y p2 r12 (q16 n) m z24 l25 w27=some r∧tm=fr 45 [(2,.ptr 1 0 0),(4,.ptr 3 0 0),(25,.vl 8 (t14 0) 0 r12.length),(26,.i6 (r12.length:Int)),(27,.i6 z24)]∧σ=⟨[(8,.vec (List.map q08 r12).flatten 72 2 (t14 0)),(6,.row [.i6 p1] 3),(0,.row [.vl 4 t26 0 l25.length] 59),(1,.row [.map 5] 101),(2,.row [.iM q01 p2] 25),(3,.row [.fn (.func 47) [] [.ptr 0 0 0,.ptr 1 0 0,.ptr 2 0 0,.ptr 3 0 0]] 102),(4,.vec (List.map (cI .i64) l25).flatten 3 1 t26),(5,.map (List.map (mE (fun x=>.i6 x) (fun x=>.i6 x)) w27.es) w27.cl)],9⟩) (fun tm σ=>∃ l28:List Int,∃ t29:Nat,∃ w30:q7l Int Int,q3p l28 w30=some r∧tm=fr 45 []∧σ=⟨[(8,.vec (List.map q08 r12).flatten 72 2 (t14 0)),(6,.row [.i6 p1] 3),(0,.row [.vl 4 t29 0 l28.length] 59),(1,.row [.map 5] 101),(2,.row [.iM q01 p2] 25),(3,.row [.fn (.func 47) [] [.ptr 0 0 0,.ptr 1 0 0,.ptr 2 0 0,.ptr 3 0 0]] 102),(4,.vec (List.map (cI .i64) l28).flatten 3 1 t29),(5,.map (List.map (mE (fun x=>.i6 x) (fun x=>.i6 x)) w30.es) w30.cl)],9⟩) n ⟨0,(p3++[p1]),(t4+1),(qmt (fun a b=>a == b) p5 p1 (p3.length:Int)),hF,rfl,rfl⟩ ?_ ?_
  rintro _ _ ⟨l28,t29,w30,hF,rfl,rfl⟩
  unfold q3p at hF
  refine go ?_
  obtain rfl:=sI hF
  exact ⟨.inl rfl,[],q3x,.tup [],⟨[(0,.row [.vl 4 t29 0 l28.length] 59),(1,.row [.map 5] 101),(2,.row [.iM q01 p2] 25),(3,.row [.fn (.func 47) [] [.ptr 0 0 0,.ptr 1 0 0,.ptr 2 0 0,.ptr 3 0 0]] 102),(4,.vec (List.map (cI .i64) l28).flatten 3 1 t29),(5,.map (List.map (mE (fun x=>.i6 x) (fun x=>.i6 x)) w30.es) w30.cl)],6⟩,NL,z4p (n1:=6) [] rfl rfl NL NL BUL.h BH.h,stF [t29],rfl,rfl⟩
  rintro (_|m1) _ _ ⟨z24,l25,t26,w27,hF,rfl,rfl⟩
  cases hF
  unfold q0y at hF
  refine go ?_
  refine cF hF (fun h31 hF=>?_) (fun h31 hF=>?_)
  refine go ?_
  refine WPU.block ?_
  obtain ⟨x32,h33,hF⟩:=q00 hF
  refine go ?_
  refine RS.q rfl (q4o rfl rfl (qal q08 un38.h (q0q if72.h) (by decide) q1f (vo rfl) h33)) ?_
  refine RS.q (u:=.agg (q08 x32)) rfl (z1i q08 un72.h rfl (q0q if72.h) q1f rfl rfl h33 rfl) ?_
  refine go ?_
  refine RS.q (u:=.tup [.i6 ((qms (fun a b=>a == b) w27 x32.To).getD 0),.bool ((qms (fun a b=>a == b) w27 x32.To).isSome)]) rfl (z05 (kU:=(fun x=>.i6 x)) (vU:=(fun x=>.i6 x)) (m:=w27) (k:=x32.To) (zv:=0) (qku un3.h) un101.h rfl rfl rfl if3.h rfl) ?_
  refine gr ?_
  refine z47 (fun tm σ=>∃ l35:List Int,∃ t36:Nat,∃ w37:q7l Int Int,q1u z24 (q0y p2 r12 (q16 n) m1) l35 w37=some r∧tm=fr 45 [(2,.ptr 1 0 0),(4,.ptr 3 0 0),(25,.vl 8 (t14 0) 0 r12.length),(26,.i6 (r12.length:Int)),(27,.i6 z24)]∧σ=⟨[(9,.row (q08 x32) 72),(8,.vec (List.map q08 r12).flatten 72 2 (t14 0)),(6,.row [.i6 p1] 3),(0,.row [.vl 4 t36 0 l35.length] 59),(1,.row [.map 5] 101),(2,.row [.iM q01 p2] 25),(3,.row [.fn (.func 47) [] [.ptr 0 0 0,.ptr 1 0 0,.ptr 2 0 0,.ptr 3 0 0]] 102),(4,.vec (List.map (cI .i64) l35).flatten 3 1 t36),(5,.map (List.map (mE (fun x=>.i6 x) (fun x=>.i6 x)) w37.es) w37.cl)],10⟩) ?_ ?_
  rintro _ _ ⟨l35,t36,w37,hF,rfl,rfl⟩
  unfold q1u at hF
  refine go ?_
  exact lC ⟨_,l35,t36,w37,hF,rfl,rfl⟩
  refine cF hF (fun h34 hF=>?_) (fun h34 hF=>?_)
  obtain ⟨r38,h39,hF⟩:=q00 hF
  refine go ?_
  refine z4d (R:=fun u σ'=>∃ t40:Nat→Nat,u = .tup []∧σ'=⟨[(9,.row (q08 x32) 72),(8,.vec (List.map q08 r12).flatten 72 2 (t14 0)),(6,.row [.i6 p1] 3),(0,.row [.vl 4 (t40 0) 0 r38.1.length] 59),(1,.row [.map 5] 101),(2,.row [.iM q01 p2] 25),(3,.row [.fn (.func 47) [] [.ptr 0 0 0,.ptr 1 0 0,.ptr 2 0 0,.ptr 3 0 0]] 102),(4,.vec (List.map (cI .i64) r38.1).flatten 3 1 (t40 0)),(5,.map (List.map (mE (fun x=>.i6 x) (fun x=>.i6 x)) r38.2.es) r38.2.cl)],10⟩) (args:=[.i6 x32.To,.ptr 0 0 0,.ptr 1 0 0,.ptr 2 0 0,.ptr 3 0 0]) rfl (q12 rfl rfl fn47 hb47 rfl rfl) (EvU.st [0,1,2,3,4,5] (ih x32.To p2 l25 w27 r38 h39 t26)) rfl rfl ?_
  rintro _ _ ⟨t40,rfl,rfl⟩
  refine go ?_
  exact xC ⟨r38.1,(t40 0),r38.2,hF,rfl,rfl⟩
  refine go ?_
  exact xC ⟨l25,t26,w27,hF,rfl,rfl⟩
  refine go ?_
  exact xC ⟨l25,t26,w27,hF,rfl,rfl⟩
def q4h (p1:GFS) (r3:(List Int)×(q7l Int Int)) (z14:Int) (l15:List q0d) (rc1:Int→(List q0d)→Option (GFS)) (x19:Int) (l44:List q0m):Option (GFS) :=
 q05 (q11 p1.Nodes x19) fun x45 =>
 q05 (qls l15 0 ((r3.1.length:Int).toNat) z14) fun x47 =>
 rc1 (IntKind.i64.wrap (z14+1)) (l15.set z14.toNat (q0d.mk x45.Typex l44))
def q2m (p1:GFS) (r3:(List Int)×(q7l Int Int)) (z14:Int) (l15:List q0d) (rc1:Int→(List q0d)→Option (GFS)) (x19:Int) (r26:(List q0m)):Nat→Int→(List q0m)→Option (GFS)
 | 0,_,_=>none
 | m2+1,z42,l43 =>
  cond (decide (z42<(r26.length:Int)))
   (q05 (q11 l43 z42) fun x50 =>
   q05 (q11 l43 z42) fun x52 =>
   (q2m p1 r3 z14 l15 rc1 x19 r26 m2) (IntKind.i64.wrap (z42+1)) (l43.set (0+z42.toNat) (q0m.mk x52.Feat ((qms (fun a b=>a == b) r3.2 x50.To).getD 0))))
   (q4h p1 r3 z14 l15 rc1 x19 l43)
def q61 (r3:(List Int)×(q7l Int Int)) (l16:List q0d):Option (GFS) :=
 q1m ((r3.1.length:Int).toNat=l16.length) (
 some (GFS.mk l16))
def q1k (p1:GFS) (n:Nat) (r3:(List Int)×(q7l Int Int)):Nat→Int→(List q0d)→Option (GFS)
 | 0,_,_=>none
 | m1+1,z14,l15 =>
  cond (decide (z14<(r3.1.length:Int)))
   (q05 (q11 r3.1 z14) fun x19 =>
   q05 (q11 p1.Nodes x19) fun x21 =>
   q05 (q2t n x21.Arcs) fun r23 =>
   q05 (q1o n r23) fun r26 =>
   q2m p1 r3 z14 l15 (q1k p1 n r3 m1) x19 r26 n 0 r26)
   (q61 r3 l15)
def q55 (n:Nat) (p1:GFS) (p2:Int):Option (GFS) :=
 q05 (q16 n p2 p1.Nodes ([]:List Int) (qlt:q7l Int Int)) fun r3 =>
 q1m (0≤(r3.1.length:Int)∧32*(r3.1.length:Int).toNat≤281474976710656∧(r3.1.length:Int)≤281474976710656) (
 q1k p1 n r3 n 0 (List.replicate (r3.1.length:Int).toNat (q0d.mk 0 [])))
theorem qd1 (n:Nat) (p1:GFS) (p2:Int) (r:GFS) (hF:q55 n p1 p2=some r):EvU Tryz.prog 26 [.agg [.isl false (List.map q01 p1.Nodes)],.int .i64 p2] ⟨[],0⟩ (fun u _=>u = .agg [.isl false (List.map q01 r.Nodes)]∧Bel 0 u):=by
 unfold q55 at hF
 refine bg2 68 fn26 ?_
 refine go ?_
 refine RS.q (u:=.map 2) (σ':=⟨[(2,.map (List.map (mE (fun x=>.i6 x) (fun x=>.i6 x)) (qlt:q7l Int Int).es) (qlt:q7l Int Int).cl),(1,.row [.nils] 25),(0,.row [.iM q01 p1.Nodes] 25)],3⟩) rfl (qxh) ?_
 refine go ?_
 refine RS.q rfl (qxf rfl rfl) ?_
 refine gn ?_
 refine WPU.ghost (tm':=fr 68 [(1,.i6 p2),(2,.ptr 0 0 0),(4,.ptr 1 0 0),(5,.ptr 3 0 0),(6,.ptr 4 0 0),(7,.ptr 5 0 0)]) (σ':=⟨[(6,.vec (List.map (cI .i64) ([]:List Int)).flatten 3 1 0),(5,.row [.fn (.func 47) [] [.ptr 4 0 0,.ptr 3 0 0,.ptr 0 0 0,.ptr 5 0 0]] 102),(4,.row [.vl 6 0 0 (([]:List Int).length)] 59),(3,.row [.map 2] 101),(2,.map (List.map (mE (fun x=>.i6 x) (fun x=>.i6 x)) (qlt:q7l Int Int).es) (qlt:q7l Int Int).cl),(1,.row [.nils] 25),(0,.row [.iM q01 p1.Nodes] 25)],7⟩) (Gh.trans (z4l 4 0 3 1 (by decide) NZ rfl rfl) (z4e ⟨rfl,rfl,rfl,rfl,rfl,rfl,trivial⟩ rfl)) NZ ?_
 obtain ⟨r3,h4,hF⟩:=q00 hF
 refine go ?_
 refine z4d (R:=fun u σ'=>∃ t5:Nat→Nat,u = .tup []∧σ'=⟨[(6,.vec (List.map (cI .i64) r3.1).flatten 3 1 (t5 0)),(5,.row [.fn (.func 47) [] [.ptr 4 0 0,.ptr 3 0 0,.ptr 0 0 0,.ptr 5 0 0]] 102),(4,.row [.vl 6 (t5 0) 0 r3.1.length] 59),(3,.row [.map 2] 101),(2,.map (List.map (mE (fun x=>.i6 x) (fun x=>.i6 x)) r3.2.es) r3.2.cl),(1,.row [.nils] 25),(0,.row [.iM q01 p1.Nodes] 25)],7⟩) (args:=[.i6 p2,.ptr 4 0 0,.ptr 3 0 0,.ptr 0 0 0,.ptr 5 0 0]) rfl (q12 rfl rfl fn47 hb47 rfl rfl) (EvU.st [4,3,0,5,6,2] (q93 n p2 p1.Nodes ([]:List Int) (qlt:q7l Int Int) r3 h4 0)) rfl rfl ?_
 rintro _ _ ⟨t5,rfl,rfl⟩
 obtain ⟨h6,hF⟩:=q09 hF
 refine go ?_
 refine RS.q (u:=.sl 7 0 ((r3.1.length:Int).toNat) ((r3.1.length:Int).toNat)) (σ':=⟨[(7,.row (List.map q01 (List.replicate (r3.1.length:Int).toNat (q0d.mk 0 []))).flatten 40),(6,.vec (List.map (cI .i64) r3.1).flatten 3 1 (t5 0)),(5,.row [.fn (.func 47) [] [.ptr 4 0 0,.ptr 3 0 0,.ptr 0 0 0,.ptr 5 0 0]] 102),(4,.row [.vl 6 (t5 0) 0 r3.1.length] 59),(3,.row [.map 2] 101),(2,.map (List.map (mE (fun x=>.i6 x) (fun x=>.i6 x)) r3.2.es) r3.2.cl),(1,.row [.nils] 25),(0,.row [.iM q01 p1.Nodes] 25)],8⟩) rfl (qt0 q01 (q0d.mk 0 []) rfl rfl un23.h if40.h rfl rfl rfl rfl h6) ?_
 refine go ?_
 refine gS (l':=[(2,_),(4,_),(5,_),(8,_),(22,_),(23,_),(24,_)]) ?_
 refine z44 (fun m tm σ=>∃ z14:Int,∃ l15:List q0d,q1k p1 n r3 m z14 l15=some r∧tm=fr 68 [(2,.ptr 0 0 0),(4,.ptr 1 0 0),(5,.ptr 3 0 0),(8,.ptr 8 0 0),(22,.vl 6 (t5 0) 0 r3.1.length),(23,.i6 (r3.1.length:Int)),(24,.i6 z14)]∧σ=⟨[(8,.row [.sl 7 0 ((r3.1.length:Int).toNat) ((r3.1.length:Int).toNat)] 25),(7,.row (List.map q01 l15).flatten 40),(6,.vec (List.map (cI .i64) r3.1).flatten 3 1 (t5 0)),(5,.row [.fn (.func 47) [] [.ptr 4 0 0,.ptr 3 0 0,.ptr 0 0 0,.ptr 5 0 0]] 102),(4,.row [.vl 6 (t5 0) 0 r3.1.length] 59),(3,.row [.map 2] 101),(2,.map (List.map (mE (fun x=>.i6 x) (fun x=>.i6 x)) r3.2.es) r3.2.cl),(1,.row [.nils] 25),(0,.row [.iM q01 p1.Nodes] 25)],9⟩) (fun tm σ=>∃ l16:List q0d,q61 r3 l16=some r∧tm=fr 68 [(4,.ptr 1 0 0),(8,.ptr 8 0 0)]∧σ=⟨[(8,.row [.sl 7 0 ((r3.1.length:Int).toNat) ((r3.1.length:Int).toNat)] 25),(7,.row (List.map q01 l16).flatten 40),(6,.vec (List.map (cI .i64) r3.1).flatten 3 1 (t5 0)),(5,.row [.fn (.func 47) [] [.ptr 4 0 0,.ptr 3 0 0,.ptr 0 0 0,.ptr 5 0 0]] 102),(4,.row [.vl 6 (t5 0) 0 r3.1.length] 59),(3,.row [.map 2] 101),(2,.map (List.map (mE (fun x=>.i6 x) (fun x=>.i6 x)) r3.2.es) r3.2.cl),(1,.row [.nils] 25),(0,.row [.iM q01 p1.Nodes] 25)],9⟩) n ⟨0,(List.replicate (r3.1.length:Int).toNat (q0d.mk 0 [])),hF,rfl,rfl⟩ ?_ ?_
 rintro _ _ ⟨l16,hF,rfl,rfl⟩
 unfold q61 at hF
 obtain ⟨h17,hF⟩:=q09 hF
 refine go ?_
 obtain rfl:=sI hF
 exact ⟨.inr rfl,[.agg [.sl 7 0 ((r3.1.length:Int).toNat) ((r3.1.length:Int).toNat)]],qfq (q6a un25.h rfl (q0q if25.h) rfl rfl rfl) (q3x),.agg [.iM q01 l16],⟨[],0⟩,Nat.le_refl _,Gh.trans (Gh.fz (tm':=[.agg [.iM q01 l16]]) 7 (.row (List.map q01 l16).flatten 40) 2 rfl (by simp) (by simp only [qjn,qem,q9k,qkl,qi4,qkn,qg9,qi7,qi6,qi5,qg8,qkm,qmm,qkk,qko,qpf,qlv,z37 qfa h17,qak (show Nat.beq 0 7=false from rfl),qaz (show Nat.beq 0 7=false from rfl),qaj (show Nat.beq 0 7=false from rfl),qak (show Nat.beq 2 7=false from rfl),qaz (show Nat.beq 2 7=false from rfl),qaj (show Nat.beq 2 7=false from rfl),qak (show Nat.beq 3 7=false from rfl),qaz (show Nat.beq 3 7=false from rfl),qaj (show Nat.beq 3 7=false from rfl),qak (show Nat.beq 4 7=false from rfl),qaz (show Nat.beq 4 7=false from rfl),qaj (show Nat.beq 4 7=false from rfl),qak (show Nat.beq 5 7=false from rfl),qaz (show Nat.beq 5 7=false from rfl),qaj (show Nat.beq 5 7=false from rfl),qak (show Nat.beq 6 7=false from rfl),qaz (show Nat.beq 6 7=false from rfl),qaj (show Nat.beq 6 7=false from rfl),q75 _ _ _ (q8a 7 (fun q=>qk5 _ .i64 q) r3.1),z36]) rfl) (z4j (.agg [.iM q01 l16]) rfl),rfl,BU.h⟩
 rintro (_|m1) _ _ ⟨z14,l15,hF,rfl,rfl⟩
 cases hF
 unfold q1k at hF
 refine go ?_
 refine cF hF (fun h18 hF=>?_) (fun h18 hF=>?_)
 refine go ?_
 refine WPU.block ?_
 obtain ⟨x19,h20,hF⟩:=q00 hF
 refine go ?_
 refine RS.q rfl (q4o rfl rfl (qal (cI .i64) un59.h (q0q if3.h) (by decide) (q8f .i64) (vo rfl) h20)) ?_
 refine RS.q rfl (q77 (cI .i64) (fun x=>.i6 x) un3.h rfl (fun _=>rfl) rfl rfl h20) ?_
 obtain ⟨x21,h22,hF⟩:=q00 hF
 obtain ⟨r23,h24,hF⟩:=q00 hF
 obtain ⟨r26,h27,hF⟩:=q00 hF
 refine go ?_
 refine RS.ix h22 ?_
 refine go ?_
 refine z4d (R:=fun u σ'=>∃ t25:Nat→Nat,u = .fn (.func 80) [] [.iptr [.iM q08 r23]]∧σ'=⟨[(8,.row [.sl 7 0 ((r3.1.length:Int).toNat) ((r3.1.length:Int).toNat)] 25),(7,.row (List.map q01 l15).flatten 40),(6,.vec (List.map (cI .i64) r3.1).flatten 3 1 (t5 0)),(5,.row [.fn (.func 47) [] [.ptr 4 0 0,.ptr 3 0 0,.ptr 0 0 0,.ptr 5 0 0]] 102),(4,.row [.vl 6 (t5 0) 0 r3.1.length] 59),(3,.row [.map 2] 101),(2,.map (List.map (mE (fun x=>.i6 x) (fun x=>.i6 x)) r3.2.es) r3.2.cl),(1,.row [.nils] 25),(0,.row [.iM q01 p1.Nodes] 25)],9⟩) (args:=[.iM q08 x21.Arcs]) rfl (q12 rfl rfl fn49 hb49 rfl rfl) (EvU.st [] (q94 n x21.Arcs r23 h24 )) rfl rfl ?_
 rintro _ _ ⟨t25,rfl,rfl⟩
 refine z4d (R:=fun u σ'=>∃ t28:Nat→Nat,u = .vl 10 (t28 0) 0 r26.length∧σ'=⟨[(10,.vec (List.map q08 r26).flatten 72 2 (t28 0)),(8,.row [.sl 7 0 ((r3.1.length:Int).toNat) ((r3.1.length:Int).toNat)] 25),(7,.row (List.map q01 l15).flatten 40),(6,.vec (List.map (cI .i64) r3.1).flatten 3 1 (t5 0)),(5,.row [.fn (.func 47) [] [.ptr 4 0 0,.ptr 3 0 0,.ptr 0 0 0,.ptr 5 0 0]] 102),(4,.row [.vl 6 (t5 0) 0 r3.1.length] 59),(3,.row [.map 2] 101),(2,.map (List.map (mE (fun x=>.i6 x) (fun x=>.i6 x)) r3.2.es) r3.2.cl),(1,.row [.nils] 25),(0,.row [.iM q01 p1.Nodes] 25)],11⟩) (args:=[.fn (.func 80) [] [.iptr [.iM q08 r23]],.fn (.func 50) [] []]) rfl (q12 rfl rfl fn48 hb48 rfl rfl) (EvU.st [] (q74 n r23 r26 h27 )) rfl rfl ?_
 rintro _ _ ⟨t28,rfl,rfl⟩
 refine go ?_
 refine gS (l':=[(2,_),(4,_),(5,_),(8,_),(9,_),(10,_),(11,_),(22,_),(23,_),(24,_),(38,_),(39,_)]) ?_
 refine z44 (fun m tm σ=>∃ z42:Int,∃ l43:List q0m,q2m p1 r3 z14 l15 (q1k p1 n r3 m1) x19 r26 m z42 l43=some r∧tm=fr 68 [(2,.ptr 0 0 0),(4,.ptr 1 0 0),(5,.ptr 3 0 0),(8,.ptr 8 0 0),(9,.i6 z14),(10,.i6 x19),(11,.vl 10 (t28 0) 0 l43.length),(22,.vl 6 (t5 0) 0 r3.1.length),(23,.i6 (r3.1.length:Int)),(24,.i6 z14),(38,.i6 (r26.length:Int)),(39,.i6 z42)]∧σ=⟨[(10,.vec (List.map q08 l43).flatten 72 2 (t28 0)),(8,.row [.sl 7 0 ((r3.1.length:Int).toNat) ((r3.1.length:Int).toNat)] 25),(7,.row (List.map q01 l15).flatten 40),(6,.vec (List.map (cI .i64) r3.1).flatten 3 1 (t5 0)),(5,.row [.fn (.func 47) [] [.ptr 4 0 0,.ptr 3 0 0,.ptr 0 0 0,.ptr 5 0 0]] 102),(4,.row [.vl 6 (t5 0) 0 r3.1.length] 59),(3,.row [.map 2] 101),(2,.map (List.map (mE (fun x=>.i6 x) (fun x=>.i6 x)) r3.2.es) r3.2.cl),(1,.row [.nils] 25),(0,.row [.iM q01 p1.Nodes] 25)],11⟩) (fun tm σ=>∃ l44:List q0m,q4h p1 r3 z14 l15 (q1k p1 n r3 m1) x19 l44=some r∧tm=fr 68 [(2,.ptr 0 0 0),(4,.ptr 1 0 0),(5,.ptr 3 0 0),(8,.ptr 8 0 0),(9,.i6 z14),(10,.i6 x19),(11,.vl 10 (t28 0) 0 l44.length),(22,.vl 6 (t5 0) 0 r3.1.length),(23,.i6 (r3.1.length:Int)),(24,.i6 z14)]∧σ=⟨[(10,.vec (List.map q08 l44).flatten 72 2 (t28 0)),(8,.row [.sl 7 0 ((r3.1.length:Int).toNat) ((r3.1.length:Int).toNat)] 25),(7,.row (List.map q01 l15).flatten 40),(6,.vec (List.map (cI .i64) r3.1).flatten 3 1 (t5 0)),(5,.row [.fn (.func 47) [] [.ptr 4 0 0,.ptr 3 0 0,.ptr 0 0 0,.ptr 5 0 0]] 102),(4,.row [.vl 6 (t5 0) 0 r3.1.length] 59),(3,.row [.map 2] 101),(2,.map (List.map (mE (fun x=>.i6 x) (fun x=>.i6 x)) r3.2.es) r3.2.cl),(1,.row [.nils] 25),(0,.row [.iM q01 p1.Nodes] 25)],11⟩) n ⟨0,r26,hF,rfl,rfl⟩ ?_ ?_
 rintro _ _ ⟨l44,hF,rfl,rfl⟩
 unfold q4h at hF
 refine gn ?_
 refine WPU.ghost (tm':=fr 68 [(2,.ptr 0 0 0),(4,.ptr 1 0 0),(5,.ptr 3 0 0),(8,.ptr 8 0 0),(9,.i6 z14),(10,.i6 x19),(11,.iM q08 l44),(22,.vl 6 (t5 0) 0 r3.1.length),(23,.i6 (r3.1.length:Int)),(24,.i6 z14)]) (σ':=⟨[(8,.row [.sl 7 0 ((r3.1.length:Int).toNat) ((r3.1.length:Int).toNat)] 25),(7,.row (List.map q01 l15).flatten 40),(6,.vec (List.map (cI .i64) r3.1).flatten 3 1 (t5 0)),(5,.row [.fn (.func 47) [] [.ptr 4 0 0,.ptr 3 0 0,.ptr 0 0 0,.ptr 5 0 0]] 102),(4,.row [.vl 6 (t5 0) 0 r3.1.length] 59),(3,.row [.map 2] 101),(2,.map (List.map (mE (fun x=>.i6 x) (fun x=>.i6 x)) r3.2.es) r3.2.cl),(1,.row [.nils] 25),(0,.row [.iM q01 p1.Nodes] 25)],11⟩) (Gh.trans (Gh.sub (l':=[(2,.ptr 0 0 0),(4,.ptr 1 0 0),(5,.ptr 3 0 0),(8,.ptr 8 0 0),(9,.i6 z14),(10,.i6 x19),(11,.vl 10 (t28 0) 0 l44.length),(22,.vl 6 (t5 0) 0 r3.1.length),(23,.i6 (r3.1.length:Int)),(24,.i6 z14)]) ⟨rfl,rfl,rfl,rfl,rfl,rfl,rfl,rfl,rfl,rfl,trivial⟩) (Gh.fzS (l':=[(2,.ptr 0 0 0),(4,.ptr 1 0 0),(5,.ptr 3 0 0),(8,.ptr 8 0 0),(9,.i6 z14),(10,.i6 x19),(11,.iM q08 l44),(22,.vl 6 (t5 0) 0 r3.1.length),(23,.i6 (r3.1.length:Int)),(24,.i6 z14)]) (h':=[(8,.row [.sl 7 0 ((r3.1.length:Int).toNat) ((r3.1.length:Int).toNat)] 25),(7,.row (List.map q01 l15).flatten 40),(6,.vec (List.map (cI .i64) r3.1).flatten 3 1 (t5 0)),(5,.row [.fn (.func 47) [] [.ptr 4 0 0,.ptr 3 0 0,.ptr 0 0 0,.ptr 5 0 0]] 102),(4,.row [.vl 6 (t5 0) 0 r3.1.length] 59),(3,.row [.map 2] 101),(2,.map (List.map (mE (fun x=>.i6 x) (fun x=>.i6 x)) r3.2.es) r3.2.cl),(1,.row [.nils] 25),(0,.row [.iM q01 p1.Nodes] 25)]) 10 (.vec (List.map q08 l44).flatten 72 2 (t28 0)) 2 rfl (by simp) (by simp only [fzS,qjn,qem,q9k,qkl,qi4,qkn,qg9,qi7,qi6,qi5,qg8,qkm,qmm,qkk,qko,qpf,qlv,qzp q1f,qak (show Nat.beq 0 10=false from rfl),qaz (show Nat.beq 0 10=false from rfl),qaj (show Nat.beq 0 10=false from rfl),qak (show Nat.beq 1 10=false from rfl),qaz (show Nat.beq 1 10=false from rfl),qaj (show Nat.beq 1 10=false from rfl),qak (show Nat.beq 2 10=false from rfl),qaz (show Nat.beq 2 10=false from rfl),qaj (show Nat.beq 2 10=false from rfl),qak (show Nat.beq 3 10=false from rfl),qaz (show Nat.beq 3 10=false from rfl),qaj (show Nat.beq 3 10=false from rfl),qak (show Nat.beq 4 10=false from rfl),qaz (show Nat.beq 4 10=false from rfl),qaj (show Nat.beq 4 10=false from rfl),qak (show Nat.beq 5 10=false from rfl),qaz (show Nat.beq 5 10=false from rfl),qaj (show Nat.beq 5 10=false from rfl),qak (show Nat.beq 6 10=false from rfl),qaz (show Nat.beq 6 10=false from rfl),qaj (show Nat.beq 6 10=false from rfl),qak (show Nat.beq 7 10=false from rfl),qaz (show Nat.beq 7 10=false from rfl),qaj (show Nat.beq 7 10=false from rfl),qak (show Nat.beq 8 10=false from rfl),qaz (show Nat.beq 8 10=false from rfl),qaj (show Nat.beq 8 10=false from rfl),q75 _ _ _ (q8a 10 (fun q=>qf3 _ q) l15),q75 _ _ _ (q8a 10 (fun q=>qk5 _ .i64 q) r3.1),z36]) (by simp only [fzH,fzB,ug,Nat.beq,cond_true,cond_false,qjn,qem,q9k,qkl,qi4,qkn,qg9,qi7,qi6,qi5,qg8,qkm,qmm,qkk,qko,qpf,qlv,qzp q1f,qak (show Nat.beq 0 10=false from rfl),qaz (show Nat.beq 0 10=false from rfl),qaj (show Nat.beq 0 10=false from rfl),qak (show Nat.beq 1 10=false from rfl),qaz (show Nat.beq 1 10=false from rfl),qaj (show Nat.beq 1 10=false from rfl),qak (show Nat.beq 2 10=false from rfl),qaz (show Nat.beq 2 10=false from rfl),qaj (show Nat.beq 2 10=false from rfl),qak (show Nat.beq 3 10=false from rfl),qaz (show Nat.beq 3 10=false from rfl),qaj (show Nat.beq 3 10=false from rfl),qak (show Nat.beq 4 10=false from rfl),qaz (show Nat.beq 4 10=false from rfl),qaj (show Nat.beq 4 10=false from rfl),qak (show Nat.beq 5 10=false from rfl),qaz (show Nat.beq 5 10=false from rfl),qaj (show Nat.beq 5 10=false from rfl),qak (show Nat.beq 6 10=false from rfl),qaz (show Nat.beq 6 10=false from rfl),qaj (show Nat.beq 6 10=false from rfl),qak (show Nat.beq 7 10=false from rfl),qaz (show Nat.beq 7 10=false from rfl),qaj (show Nat.beq 7 10=false from rfl),qak (show Nat.beq 8 10=false from rfl),qaz (show Nat.beq 8 10=false from rfl),qaj (show Nat.beq 8 10=false from rfl),q75 _ _ _ (q8a 10 (fun q=>qf3 _ q) l15),q75 _ _ _ (q8a 10 (fun q=>qk5 _ .i64 q) r3.1),z36]))) NZ ?_
 obtain ⟨x45,h46,hF⟩:=q00 hF
 obtain ⟨x47,h48,hF⟩:=q00 hF
 refine go ?_
 refine z48 Tryz.tb_ok [] (by kernel_rfl) ?_
 refine gd ?_
 refine RD.ix h46 ?_
 refine gd ?_
 refine RD.q rfl (q4o rfl rfl (qia un23.h (q0q if40.h) rfl h48)) (RD.actn (u:=.junk) (σ':=⟨[(8,.row [.sl 7 0 ((r3.1.length:Int).toNat) ((r3.1.length:Int).toNat)] 25),(7,.row (List.map q01 (l15.set z14.toNat (q0d.mk x45.Typex l44))).flatten 40),(6,.vec (List.map (cI .i64) r3.1).flatten 3 1 (t5 0)),(5,.row [.fn (.func 47) [] [.ptr 4 0 0,.ptr 3 0 0,.ptr 0 0 0,.ptr 5 0 0]] 102),(4,.row [.vl 6 (t5 0) 0 r3.1.length] 59),(3,.row [.map 2] 101),(2,.map (List.map (mE (fun x=>.i6 x) (fun x=>.i6 x)) r3.2.es) r3.2.cl),(1,.row [.nils] 25),(0,.row [.iM q01 p1.Nodes] 25)],11⟩) rfl (qyb q01 (q0q if40.h) qfa rfl rfl rfl rfl rfl rfl h48 rfl) rfl ?_)
 refine RD.done ⟨by kernel_rfl,trivial,?_⟩
 refine go ?_
 exact lC ⟨_,(l15.set z14.toNat (q0d.mk x45.Typex l44)),hF,rfl,rfl⟩
 rintro (_|m2) _ _ ⟨z42,l43,hF,rfl,rfl⟩
 cases hF
 unfold q2m at hF
 refine go ?_
 refine cF hF (fun h49 hF=>?_) (fun h49 hF=>?_)
 refine go ?_
 refine WPU.block ?_
 obtain ⟨x50,h51,hF⟩:=q00 hF
 obtain ⟨x52,h53,hF⟩:=q00 hF
 refine gr ?_
 refine z47 (fun tm σ=>tm=fr 68 [(2,.ptr 0 0 0),(4,.ptr 1 0 0),(5,.ptr 3 0 0),(8,.ptr 8 0 0),(9,.i6 z14),(10,.i6 x19),(11,.vl 10 (t28 0) 0 ((l43.set (0+z42.toNat) (q0m.mk x52.Feat ((qms (fun a b=>a == b) r3.2 x50.To).getD 0))).length)),(22,.vl 6 (t5 0) 0 r3.1.length),(23,.i6 (r3.1.length:Int)),(24,.i6 z14),(38,.i6 (r26.length:Int)),(39,.i6 z42)]∧σ=⟨[(10,.vec (List.map q08 (l43.set (0+z42.toNat) (q0m.mk x52.Feat ((qms (fun a b=>a == b) r3.2 x50.To).getD 0)))).flatten 72 2 (t28 0)),(8,.row [.sl 7 0 ((r3.1.length:Int).toNat) ((r3.1.length:Int).toNat)] 25),(7,.row (List.map q01 l15).flatten 40),(6,.vec (List.map (cI .i64) r3.1).flatten 3 1 (t5 0)),(5,.row [.fn (.func 47) [] [.ptr 4 0 0,.ptr 3 0 0,.ptr 0 0 0,.ptr 5 0 0]] 102),(4,.row [.vl 6 (t5 0) 0 r3.1.length] 59),(3,.row [.map 2] 101),(2,.map (List.map (mE (fun x=>.i6 x) (fun x=>.i6 x)) r3.2.es) r3.2.cl),(1,.row [.nils] 25),(0,.row [.iM q01 p1.Nodes] 25)],11⟩) ?_ ?_
 rintro _ _ ⟨rfl,rfl⟩
 refine go ?_
 exact lC ⟨_,(l43.set (0+z42.toNat) (q0m.mk x52.Feat ((qms (fun a b=>a == b) r3.2 x50.To).getD 0))),hF,rfl,rfl⟩
 refine z48 Tryz.tb_ok [] (by kernel_rfl) ?_
 refine gd ?_
 refine RD.q rfl (q4o rfl rfl (qal q08 un38.h (q0q if72.h) (by decide) q1f (vo rfl) h51)) ?_
 refine RD.q rfl (qdq un72.h rfl (q0q if3.h) rfl (qkw rfl) rfl) (RD.q (u:=.i6 x50.To) rfl (qwp q08 un3.h rfl q1f rfl rfl (qiv h51) rfl) (RD.q (u:=.i6 ((qms (fun a b=>a == b) r3.2 x50.To).getD 0)) rfl (qxg (kU:=(fun x=>.i6 x)) (vU:=(fun x=>.i6 x)) (m:=r3.2) (k:=x50.To) (zv:=0) (qku un3.h) un101.h rfl rfl rfl if3.h rfl) ?_))
 refine RD.q rfl (q4o rfl rfl (qal q08 un38.h (q0q if72.h) (by decide) q1f (vo rfl) h53)) ?_
 refine RD.q rfl (qdq un72.h rfl (q0q if3.h) rfl (qkw rfl) rfl) (RD.actn (u:=.junk) (σ':=⟨[(10,.vec (List.map q08 (l43.set (0+z42.toNat) (q0m.mk x52.Feat ((qms (fun a b=>a == b) r3.2 x50.To).getD 0)))).flatten 72 2 (t28 0)),(8,.row [.sl 7 0 ((r3.1.length:Int).toNat) ((r3.1.length:Int).toNat)] 25),(7,.row (List.map q01 l15).flatten 40),(6,.vec (List.map (cI .i64) r3.1).flatten 3 1 (t5 0)),(5,.row [.fn (.func 47) [] [.ptr 4 0 0,.ptr 3 0 0,.ptr 0 0 0,.ptr 5 0 0]] 102),(4,.row [.vl 6 (t5 0) 0 r3.1.length] 59),(3,.row [.map 2] 101),(2,.map (List.map (mE (fun x=>.i6 x) (fun x=>.i6 x)) r3.2.es) r3.2.cl),(1,.row [.nils] 25),(0,.row [.iM q01 p1.Nodes] 25)],11⟩) rfl (st_vf (y:=(q0m.mk x52.Feat ((qms (fun a b=>a == b) r3.2 x50.To).getD 0))) q08 (q0q if3.h) q1f rfl rfl rfl rfl rfl rfl (qiv h53) rfl rfl) rfl ?_)
 refine RD.done ⟨by kernel_rfl,trivial,?_⟩
 refine go ?_
 exact ⟨_,_,⟨rfl,rfl⟩,NZ,z4e ⟨rfl,rfl,rfl,rfl,rfl,rfl,(by simp only [List.length_set]; rfl),rfl,rfl,rfl,rfl,rfl,trivial⟩ rfl⟩
 refine go ?_
 exact xC ⟨l43,hF,rfl,rfl⟩
 refine go ?_
 exact xC ⟨l15,hF,rfl,rfl⟩
def q5a (p1:List q0m) (z6:Int) (l7:List q0m) (rc1:Int→(List q0m)→Option ((List q0m))) (z18:Int):Option ((List q0m)) :=
 q1m ((0:Int)≤z18∧z18≤((l7.length:Nat):Int)) (
 q1m (0+z18.toNat≤l7.length) (
 q1m (((l7.drop 0).take z18.toNat).length*16≤140737488355328∧((l7.drop 0).take z18.toNat).length≤140737488355328) (
 q05 (q11 p1 z6) fun x22 =>
 q1m ((((l7.drop 0).take z18.toNat).length+1)*16≤140737488355328∧((l7.drop 0).take z18.toNat).length+1≤140737488355328) (
 q1m ((0:Int)≤z18∧z18≤((l7.length:Nat):Int)) (
 q1m ((0+z18.toNat)+(l7.length - z18.toNat)≤l7.length) (
 q1m (((((l7.drop 0).take z18.toNat)++[x22]).length+((l7.drop (0+z18.toNat)).take (l7.length - z18.toNat)).length)*16≤140737488355328∧(((l7.drop 0).take z18.toNat)++[x22]).length+((l7.drop (0+z18.toNat)).take (l7.length - z18.toNat)).length≤140737488355328) (
 rc1 (IntKind.i64.wrap (z6+1)) ((((l7.drop 0).take z18.toNat)++[x22])++((l7.drop (0+z18.toNat)).take (l7.length - z18.toNat))))))))))
def q5b (p1:List q0m) (z6:Int) (l7:List q0m) (rc1:Int→(List q0m)→Option ((List q0m))):Nat→Int→Option ((List q0m))
 | 0,_=>none
 | m2+1,z17 =>
  q05 (cond (decide (z17 > 0))
   (q05 (q11 l7 (IntKind.i64.wrap (z17 - 1))) fun x29 =>
   q05 (q11 p1 z6) fun x31 =>
   some (decide (x29.Feat > x31.Feat)))
   (some false)) fun b33 =>
  cond b33
   ((q5b p1 z6 l7 rc1 m2) (IntKind.i64.wrap (z17 - 1)))
   (q5a p1 z6 l7 rc1 z17)
def q8x  (l9:List q0m):Option ((List q0m)) :=
 some l9
def q2r (p1:List q0m) (n:Nat):Nat→Int→(List q0m)→Option ((List q0m))
 | 0,_,_=>none
 | m1+1,z6,l7 =>
  cond (decide (z6<(p1.length:Int)))
   (q5b p1 z6 l7 (q2r p1 n m1) n (l7.length:Int))
   (q8x l7)
def qat (n:Nat) (p1:List q0m):Option ((List q0m)) :=
 q2r p1 n n 0 ([]:List q0m)
theorem qfw (n:Nat) (p1:List q0m) (r:(List q0m)) (hF:qat n p1=some r):EvU Tryz.prog 77 [.isl false (List.map q08 p1)] ⟨[],0⟩ (fun u σ'=>∃ t,u = .vl 0 t 0 r.length∧σ'=⟨[(0,.vec (List.map q08 r).flatten 72 2 t)],0+1⟩):=by
 unfold qat at hF
 refine bg1 52 fn77 ?_
 refine gr ?_
 refine gr ?_
 refine gr ?_
 refine WPU.ghost (tm':=fr 52 [(0,.iM q08 p1),(3,.vl 0 0 0 (([]:List q0m).length)),(4,.i6 0)]) (σ':=⟨[(0,.vec (List.map q08 ([]:List q0m)).flatten 72 2 0)],1⟩) (Gh.trans (z4g 3 72 2 (by decide) NZ rfl rfl) (z4e ⟨rfl,rfl,rfl,trivial⟩ rfl)) NZ ?_
 refine gS (l':=[(0,_),(3,_),(4,_)]) ?_
 refine z44 (fun m tm σ=>∃ z6:Int,∃ l7:List q0m,∃ t8:Nat,q2r p1 n m z6 l7=some r∧tm=fr 52 [(0,.iM q08 p1),(3,.vl 0 t8 0 l7.length),(4,.i6 z6)]∧σ=⟨[(0,.vec (List.map q08 l7).flatten 72 2 t8)],1⟩) (fun tm σ=>∃ l9:List q0m,∃ t10:Nat,q8x l9=some r∧tm=fr 52 [(3,.vl 0 t10 0 l9.length)]∧σ=⟨[(0,.vec (List.map q08 l9).flatten 72 2 t10)],1⟩) n ⟨0,([]:List q0m),0,hF,rfl,rfl⟩ ?_ ?_
 rintro _ _ ⟨l9,t10,hF,rfl,rfl⟩
 unfold q8x at hF
 refine go ?_
 obtain rfl:=sI hF
 exact ⟨.inr rfl,[.vl 0 t10 0 l9.length],q4e rfl q3x,.vl 0 t10 0 l9.length,⟨[(0,.vec (List.map q08 l9).flatten 72 2 t10)],1⟩,NZ,Gh.trans (z4q (fun k=>Nat.beq k 0)) (z4p (n1:=1) [] rfl rfl NZ NL BUL.h BH.h),t10,rfl,rfl⟩
 rintro (_|m1) _ _ ⟨z6,l7,t8,hF,rfl,rfl⟩
 cases hF
 unfold q2r at hF
 refine go ?_
 refine cF hF (fun h11 hF=>?_) (fun h11 hF=>?_)
 refine go ?_
 refine WPU.block ?_
 refine go ?_
 refine gS (l':=[(0,_),(3,_),(4,_),(5,_)]) ?_
 refine z44 (fun m tm σ=>∃ z17:Int,q5b p1 z6 l7 (q2r p1 n m1) m z17=some r∧tm=fr 52 [(0,.iM q08 p1),(3,.vl 0 t8 0 l7.length),(4,.i6 z6),(5,.i6 z17)]∧σ=⟨[(0,.vec (List.map q08 l7).flatten 72 2 t8)],1⟩) (fun tm σ=>∃ z18:Int,q5a p1 z6 l7 (q2r p1 n m1) z18=some r∧tm=fr 52 [(0,.iM q08 p1),(3,.vl 0 t8 0 l7.length),(4,.i6 z6),(5,.i6 z18)]∧σ=⟨[(0,.vec (List.map q08 l7).flatten 72 2 t8)],1⟩) n ⟨(l7.length:Int),hF,rfl,rfl⟩ ?_ ?_
 rintro _ _ ⟨z18,hF,rfl,rfl⟩
 unfold q5a at hF
 obtain ⟨h19,hF⟩:=q09 hF
 obtain ⟨h20,hF⟩:=q09 hF
 obtain ⟨h21,hF⟩:=q09 hF
 refine go ?_
 refine RS.q (u:=.vl 0 t8 0 z18.toNat) rfl (qck rfl qqo (z0w rfl) qqo (z0d q08 un38.h (q0q if72.h) q1f (vo rfl) (Nat.le_of_eq (Nat.zero_add _)) (qvh h19.1 h19.2))) (RS.q (u:=.vl 1 0 0 (((l7.drop 0).take z18.toNat).length)) (σ':=⟨[(1,.vec (List.map q08 ((l7.drop 0).take z18.toNat)).flatten 72 2 0),(0,.vec (List.map q08 l7).flatten 72 2 t8)],2⟩) rfl (qet rfl rfl rfl rfl (qqt q08 ((l7.drop 0).take z18.toNat) un38.h un38.h if72.h rfl (qtl q08 q1f (vo rfl) h20) h21)) ?_)
 obtain ⟨x22,h23,hF⟩:=q00 hF
 obtain ⟨h24,hF⟩:=q09 hF
 refine go ?_
 refine RS.ix h23 ?_
 refine go ?_
 refine RS.q (u:=.sl 2 0 1 1) (σ':=⟨[(2,.row (q08 x22) 72),(1,.vec (List.map q08 ((l7.drop 0).take z18.toNat)).flatten 72 2 0),(0,.vec (List.map q08 l7).flatten 72 2 t8)],3⟩) rfl (q56 un38.h if72.h rfl rfl rfl rfl rfl rfl rfl) ?_
 refine RS.g ?_
 obtain ⟨h25,hF⟩:=q09 hF
 obtain ⟨h26,hF⟩:=q09 hF
 obtain ⟨h27,hF⟩:=q09 hF
 refine go ?_
 refine RS.q (u:=.vl 0 t8 (0+z18.toNat) (l7.length - z18.toNat)) rfl (qck rfl (z0w rfl) qqo qqo (z0d q08 un38.h (q0q if72.h) q1f (vo rfl) (Nat.le_of_eq (Nat.zero_add _)) (qvi h25.1 h25.2))) (RS.q (u:=.vl 1 2 0 (((((l7.drop 0).take z18.toNat)++[x22])++((l7.drop (0+z18.toNat)).take (l7.length - z18.toNat))).length)) (σ':=⟨[(2,.row (q08 x22) 72),(1,.vec (List.map q08 ((((l7.drop 0).take z18.toNat)++[x22])++((l7.drop (0+z18.toNat)).take (l7.length - z18.toNat)))).flatten 72 2 2),(0,.vec (List.map q08 l7).flatten 72 2 t8)],3⟩) rfl (qet rfl rfl rfl rfl (qma q08 ((l7.drop (0+z18.toNat)).take (l7.length - z18.toNat)) un38.h un38.h if72.h rfl q1f rfl (qtl q08 q1f (vo rfl) h26) h27)) ?_)
 refine go ?_
 exact ⟨m1,_,_,Nat.lt_succ_self _,⟨(IntKind.i64.wrap (z6+1)),((((l7.drop 0).take z18.toNat)++[x22])++((l7.drop (0+z18.toNat)).take (l7.length - z18.toNat))),2,hF,rfl,rfl⟩,NZ,Gh.trans (Gh.sub (l':=[(0,.iM q08 p1),(3,.vl 1 2 0 (((((l7.drop 0).take z18.toNat)++[x22])++((l7.drop (0+z18.toNat)).take (l7.length - z18.toNat))).length)),(4,.i6 (IntKind.i64.wrap (z6+1)))]) ⟨rfl,rfl,rfl,trivial⟩) (Gh.trans (Gh.mv (l':=[(0,.iM q08 p1),(3,.vl 0 2 0 (((((l7.drop 0).take z18.toNat)++[x22])++((l7.drop (0+z18.toNat)).take (l7.length - z18.toNat))).length)),(4,.i6 (IntKind.i64.wrap (z6+1)))]) (h':=[(2,.row (q08 x22) 72),(0,.vec (List.map q08 ((((l7.drop 0).take z18.toNat)++[x22])++((l7.drop (0+z18.toNat)).take (l7.length - z18.toNat)))).flatten 72 2 2)]) 0 1 NZ rfl rfl (by simp only [rS,rU,rUL,qeu,mvN,Nat.beq,cond_true,cond_false]) rfl (by simp only [avH,rB,qmy,rUL,rU,qeu,qt6,mvN,Nat.beq,cond_true,cond_false,and_self])) (Gh.toC (n1:=1) ⟨rfl,rfl,rfl,trivial⟩ rfl NZ (by simp)))⟩
 rintro (_|m2) _ _ ⟨z17,hF,rfl,rfl⟩
 cases hF
 unfold q5b at hF
 obtain ⟨b33,h34,hF⟩:=q00 hF
 refine gn ?_
 refine z47 (fun tm σ=>tm=fr 52 [(0,.iM q08 p1),(3,.vl 0 t8 0 l7.length),(4,.i6 z6),(5,.i6 z17),(30,.bool b33)]∧σ=⟨[(0,.vec (List.map q08 l7).flatten 72 2 t8)],1⟩) ?_ ?_
 rintro _ _ ⟨rfl,rfl⟩
 refine go ?_
 refine cF hF (fun h35 hF=>?_) (fun h35 hF=>?_)
 refine go ?_
 refine WPU.block ?_
 refine go ?_
 exact lC ⟨_,hF,rfl,rfl⟩
 refine go ?_
 exact xC ⟨z17,hF,rfl,rfl⟩
 rcases gB h34 with ⟨h28,h34⟩ | ⟨h28,h34⟩
 obtain ⟨x29,h30,h34⟩:=q00 h34
 obtain ⟨x31,h32,h34⟩:=q00 h34
 obtain rfl:=sI h34
 refine z48 Tryz.tb_ok [] (by kernel_rfl) ?_
 refine gd ?_
 refine RD.w rfl (q4o rfl rfl (qal q08 un38.h (q0q if72.h) (by decide) q1f (vo rfl) h30)) ?_
 refine RD.w rfl (qdq un72.h rfl (q0q if3.h) rfl (qkw rfl) rfl) (RD.w (u:=.i6 x29.Feat) rfl (qwp q08 un3.h rfl q1f rfl rfl (qiv h30) rfl) ?_)
 refine gd ?_
 refine RD.ix h32 ?_
 refine gd ?_
 refine RD.done ⟨by kernel_rfl,trivial,?_⟩
 refine go ?_
 exact xC ⟨rfl,rfl⟩
 obtain rfl:=sI h34
 refine z48 Tryz.tb_ok [] (by kernel_rfl) ?_
 refine gd ?_
 refine RD.done ⟨by kernel_rfl,trivial,?_⟩
 refine go ?_
 exact xC ⟨rfl,rfl⟩
 refine go ?_
 exact xC ⟨l7,t8,hF,rfl,rfl⟩
def q24 (z23:Int) (rc1:Int→(List Int)→(List Int)→Option ((List Int)×(List Int))) (l36:List Int) (l37:List Int):Option ((List Int)×(List Int)) :=
 rc1 (IntKind.i64.wrap (z23+1)) l36 l37
def q4b  (l27:List Int) (l28:List Int):Option ((List Int)×(List Int)) :=
 some (l27,l28)
def q15 (p2:List q0d) (r12:List q0m) (self:Int→(List q0d)→(List Int)→(List Int)→Option ((List Int)×(List Int))):Nat→Int→(List Int)→(List Int)→Option ((List Int)×(List Int))
 | 0,_,_,_=>none
 | m1+1,z23,l24,l25 =>
  cond (decide (z23<(r12.length:Int)))
   (q05 (q11 r12 z23) fun x31 =>
   q05 (q11 l24 x31.To) fun x33 =>
   cond (decide (x33<0))
    (q05 (q11 r12 z23) fun x39 =>
    q05 (self x39.To p2 l24 l25) fun r41 =>
    q24 z23 (q15 p2 r12 self m1) r41.1 r41.2)
    (q24 z23 (q15 p2 r12 self m1) l24 l25))
   (q4b l24 l25)
def q4m (n:Nat) (self:Int→(List q0d)→(List Int)→(List Int)→Option ((List Int)×(List Int))) (p1:Int) (p2:List q0d) (p3:List Int) (p5:List Int):Option ((List Int)×(List Int)) :=
 q05 (q11 p3 p1) fun x7 =>
 q1m ((p5.length+1)*8≤140737488355328∧p5.length+1≤140737488355328) (
 q05 (q11 p2 p1) fun x10 =>
 q05 (qat n x10.Arcs) fun r12 =>
 q15 p2 r12 self n 0 (p3.set (0+p1.toNat) (p5.length:Int)) (p5++[p1]))
def q1d:Nat→Int→(List q0d)→(List Int)→(List Int)→Option ((List Int)×(List Int))
 | 0,_,_,_,_=>none
 | n+1,p1,p2,p3,p5=>q4m n (q1d n) p1 p2 p3 p5
theorem qau:∀ (n:Nat) (p1:Int) (p2:List q0d) (p3:List Int) (p5:List Int) (r:(List Int)×(List Int)),q1d n p1 p2 p3 p5=some r→∀ t4 t6:Nat,EvU Tryz.prog 76 [.ptr 0 0 0,.int .i64 p1] ⟨[(0,.row [.isl false (List.map q01 p2),.vl 1 t4 0 p3.length,.vl 2 t6 0 p5.length] 128),(1,.vec (List.map (cI .i64) p3).flatten 3 1 t4),(2,.vec (List.map (cI .i64) p5).flatten 3 1 t6)],3⟩ (fun u σ'=>∃ t:Nat→Nat,u = .tup []∧σ'=⟨[(0,.row [.isl false (List.map q01 p2),.vl 1 t4 0 r.1.length,.vl 2 (t 0) 0 r.2.length] 128),(1,.vec (List.map (cI .i64) r.1).flatten 3 1 t4),(2,.vec (List.map (cI .i64) r.2).flatten 3 1 (t 0))],3⟩)
 | 0,p1,p2,p3,p5,r,hF=>by cases hF
 | n+1,p1,p2,p3,p5,r,hF=>by
  have ih:=qau n
  unfold q1d q4m at hF
  intro t4 t6
  refine bg2 62 fn76 ?_
  obtain ⟨x7,h8,hF⟩:=q00 hF
  refine gn ?_
  refine z47 (fun tm σ=>tm=fr 62 [(0,.ptr 0 0 0),(1,.i6 p1)]∧σ=⟨[(0,.row [.iM q01 p2,.vl 1 t4 0 ((p3.set (0+p1.toNat) (p5.length:Int)).length),.vl 2 t6 0 p5.length] 128),(1,.vec (List.map (cI .i64) (p3.set (0+p1.toNat) (p5.length:Int))).flatten 3 1 t4),(2,.vec (List.map (cI .i64) p5).flatten 3 1 t6)],3⟩) ?_ ?_
  rintro _ _ ⟨rfl,rfl⟩
  obtain ⟨h9,hF⟩:=q09 hF
  refine go ?_
  refine RS.q (u:=.ptr 0 0 0) rfl (qe9 rfl rfl) ?_
  refine go ?_
  refine RS.g ?_
  refine RS.g ?_
  refine RS.q (u:=.ptr 0 0 0) rfl (qe9 rfl rfl) ?_
  obtain ⟨x10,h11,hF⟩:=q00 hF
  obtain ⟨r12,h13,hF⟩:=q00 hF
  refine go ?_
  refine RS.q (u:=.ptr 0 0 0) rfl (qe9 rfl rfl) ?_
  refine go ?_
  refine RS.ix h11 ?_
  refine go ?_
  refine z4d (R:=fun u σ'=>u = .vl 4 0 0 r12.length∧σ'=⟨[(4,.vec (List.map q08 r12).flatten 72 2 0),(3,.row [.i6 p1] 3),(0,.row [.iM q01 p2,.vl 1 t4 0 ((p3.set (0+p1.toNat) (p5.length:Int)).length),.vl 2 (t6+1) 0 ((p5++[p1]).length)] 128),(1,.vec (List.map (cI .i64) (p3.set (0+p1.toNat) (p5.length:Int))).flatten 3 1 t4),(2,.vec (List.map (cI .i64) (p5++[p1])).flatten 3 1 (t6+1))],5⟩) (args:=[.iM q08 x10.Arcs]) rfl (q12 rfl rfl fn77 hb77 rfl rfl) (z4o q08 (qfw n x10.Arcs r12 h13) _ 4 rfl) rfl rfl ?_
  rintro _ _ ⟨rfl,rfl⟩
  refine go ?_
  refine gS (l':=[(0,_),(4,_),(5,_)]) ?_
  refine z44 (fun m tm σ=>∃ z23:Int,∃ l24:List Int,∃ l25:List Int,∃ t26:Nat,q15 p2 r12 (q1d n) m z23 l24 l25=some r∧tm=fr 62 [(0,.ptr 0 0 0),(4,.vl 4 0 0 r12.length),(5,.i6 z23)]∧σ=⟨[(4,.vec (List.map q08 r12).flatten 72 2 0),(3,.row [.i6 p1] 3),(0,.row [.iM q01 p2,.vl 1 t4 0 l24.length,.vl 2 t26 0 l25.length] 128),(1,.vec (List.map (cI .i64) l24).flatten 3 1 t4),(2,.vec (List.map (cI .i64) l25).flatten 3 1 t26)],5⟩) (fun tm σ=>∃ l27:List Int,∃ l28:List Int,∃ t29:Nat,q4b l27 l28=some r∧tm=fr 62 []∧σ=⟨[(4,.vec (List.map q08 r12).flatten 72 2 0),(3,.row [.i6 p1] 3),(0,.row [.iM q01 p2,.vl 1 t4 0 l27.length,.vl 2 t29 0 l28.length] 128),(1,.vec (List.map (cI .i64) l27).flatten 3 1 t4),(2,.vec (List.map (cI .i64) l28).flatten 3 1 t29)],5⟩) n ⟨0,(p3.set (0+p1.toNat) (p5.length:Int)),(p5++[p1]),(t6+1),hF,rfl,rfl⟩ ?_ ?_
  rintro _ _ ⟨l27,l28,t29,hF,rfl,rfl⟩
  unfold q4b at hF
  refine go ?_
  obtain rfl:=sI hF
  exact ⟨.inl rfl,[],q3x,.tup [],⟨[(0,.row [.iM q01 p2,.vl 1 t4 0 l27.length,.vl 2 t29 0 l28.length] 128),(1,.vec (List.map (cI .i64) l27).flatten 3 1 t4),(2,.vec (List.map (cI .i64) l28).flatten 3 1 t29)],3⟩,NL,z4p (n1:=3) [] rfl rfl NL NL BUL.h BH.h,stF [t29],rfl,rfl⟩
  rintro (_|m1) _ _ ⟨z23,l24,l25,t26,hF,rfl,rfl⟩
  cases hF
  unfold q15 at hF
  refine go ?_
  refine cF hF (fun h30 hF=>?_) (fun h30 hF=>?_)
  refine go ?_
  refine WPU.block ?_
  obtain ⟨x31,h32,hF⟩:=q00 hF
  obtain ⟨x33,h34,hF⟩:=q00 hF
  refine go ?_
  refine z48 Tryz.tb_ok [] (by kernel_rfl) ?_
  refine gd ?_
  refine RD.q (u:=.ptr 0 0 0) rfl (qe9 rfl rfl) ?_
  refine gd ?_
  refine RD.q rfl (q4o rfl rfl (qal q08 un38.h (q0q if72.h) (by decide) q1f (vo rfl) h32)) ?_
  refine RD.q rfl (qdq un72.h rfl (q0q if3.h) rfl (qkw rfl) rfl) (RD.q (u:=.i6 x31.To) rfl (qwp q08 un3.h rfl q1f rfl rfl (qiv h32) rfl) ?_)
  refine RD.q rfl (q4o rfl rfl (qal (cI .i64) un59.h (q0q if3.h) (by decide) (q8f .i64) (vo rfl) h34)) ?_
  refine RD.q rfl (q77 (cI .i64) (fun x=>.i6 x) un3.h rfl (fun _=>rfl) rfl rfl h34) ?_
  refine gd ?_
  refine RD.done ⟨by kernel_rfl,trivial,?_⟩
  refine gn ?_
  refine z47 (fun tm σ=>∃ l36:List Int,∃ l37:List Int,∃ t38:Nat,q24 z23 (q15 p2 r12 (q1d n) m1) l36 l37=some r∧tm=fr 62 [(0,.ptr 0 0 0),(4,.vl 4 0 0 r12.length),(5,.i6 z23)]∧σ=⟨[(4,.vec (List.map q08 r12).flatten 72 2 0),(3,.row [.i6 p1] 3),(0,.row [.iM q01 p2,.vl 1 t4 0 l36.length,.vl 2 t38 0 l37.length] 128),(1,.vec (List.map (cI .i64) l36).flatten 3 1 t4),(2,.vec (List.map (cI .i64) l37).flatten 3 1 t38)],5⟩) ?_ ?_
  rintro _ _ ⟨l36,l37,t38,hF,rfl,rfl⟩
  unfold q24 at hF
  refine go ?_
  exact lC ⟨_,l36,l37,t38,hF,rfl,rfl⟩
  refine cF hF (fun h35 hF=>?_) (fun h35 hF=>?_)
  obtain ⟨x39,h40,hF⟩:=q00 hF
  obtain ⟨r41,h42,hF⟩:=q00 hF
  refine go ?_
  refine RS.q rfl (q4o rfl rfl (qal q08 un38.h (q0q if72.h) (by decide) q1f (vo rfl) h40)) ?_
  refine RS.q rfl (qdq un72.h rfl (q0q if3.h) rfl (qkw rfl) rfl) (RS.q (u:=.i6 x39.To) rfl (qwp q08 un3.h rfl q1f rfl rfl (qiv h40) rfl) ?_)
  refine z4d (R:=fun u σ'=>∃ t43:Nat→Nat,u = .tup []∧σ'=⟨[(4,.vec (List.map q08 r12).flatten 72 2 0),(3,.row [.i6 p1] 3),(0,.row [.iM q01 p2,.vl 1 t4 0 r41.1.length,.vl 2 (t43 0) 0 r41.2.length] 128),(1,.vec (List.map (cI .i64) r41.1).flatten 3 1 t4),(2,.vec (List.map (cI .i64) r41.2).flatten 3 1 (t43 0))],5⟩) (args:=[.ptr 0 0 0,.i6 x39.To]) rfl (q12 rfl rfl fn76 hb76 rfl rfl) (EvU.st [0,1,2] (ih x39.To p2 l24 l25 r41 h42 t4 t26)) rfl rfl ?_
  rintro _ _ ⟨t43,rfl,rfl⟩
  refine go ?_
  exact xC ⟨r41.1,r41.2,(t43 0),hF,rfl,rfl⟩
  refine go ?_
  exact xC ⟨l24,l25,t26,hF,rfl,rfl⟩
  refine go ?_
  exact xC ⟨l24,l25,t26,hF,rfl,rfl⟩
  refine z48 Tryz.tb_ok [] (by kernel_rfl) ?_
  refine gd ?_
  refine RD.q (u:=.ptr 0 0 0) rfl (qe9 rfl rfl) ?_
  refine gd ?_
  refine RD.q (u:=.ptr 0 0 0) rfl (qe9 rfl rfl) ?_
  refine gd ?_
  refine RD.q rfl (q4o rfl rfl (qal (cI .i64) un59.h (q0q if3.h) (by decide) (q8f .i64) (vo rfl) h8)) ?_
  refine RD.actn (u:=.junk) (σ':=⟨[(0,.row [.iM q01 p2,.vl 1 t4 0 p3.length,.vl 2 t6 0 p5.length] 128),(1,.vec (List.map (cI .i64) (p3.set (0+p1.toNat) (p5.length:Int))).flatten 3 1 t4),(2,.vec (List.map (cI .i64) p5).flatten 3 1 t6)],3⟩) rfl (st_vp (cI .i64) (q0q if3.h) (q8f .i64) rfl rfl rfl rfl rfl rfl rfl (qiv h8) rfl) rfl ?_
  refine RD.done ⟨by kernel_rfl,trivial,?_⟩
  refine go ?_
  exact ⟨_,_,⟨rfl,rfl⟩,NL,z4e ⟨rfl,rfl,trivial⟩ (by simp only [List.length_set])⟩
def q8w (z26:Int) (l27:List q0d) (rc2:Int→(List q0d)→Option (GFS)) (x34:q0d) (l54:List q0m):Option (GFS) :=
 q1m ((l27.length+1)*32≤140737488355328∧l27.length+1≤140737488355328) (
 rc2 (IntKind.i64.wrap (z26+1)) (l27++[(q0d.mk x34.Typex l54)]))
def q5j (r14:(List Int)×(List Int)) (z26:Int) (l27:List q0d) (rc2:Int→(List q0d)→Option (GFS)) (x34:q0d):Nat→Int→(List q0m)→Option (GFS)
 | 0,_,_=>none
 | m3+1,z52,l53 =>
  cond (decide (z52<(l53.length:Int)))
   (q05 (q11 l53 z52) fun x57 =>
   q05 (q11 r14.1 x57.To) fun x59 =>
   q05 (q11 l53 z52) fun x61 =>
   (q5j r14 z26 l27 rc2 x34 m3) (IntKind.i64.wrap (z52+1)) (l53.set (0+z52.toNat) (q0m.mk x61.Feat x59)))
   (q8w z26 l27 rc2 x34 l53)
def qbl  (l29:List q0d):Option (GFS) :=
 some (GFS.mk l29)
def q3v (p1:GFS) (n:Nat) (r14:(List Int)×(List Int)):Nat→Int→(List q0d)→Option (GFS)
 | 0,_,_=>none
 | m2+1,z26,l27 =>
  cond (decide (z26<(r14.2.length:Int)))
   (q05 (q11 r14.2 z26) fun x32 =>
   q05 (q11 p1.Nodes x32) fun x34 =>
   q05 (qat n x34.Arcs) fun r36 =>
   q5j r14 z26 l27 (q3v p1 n r14 m2) x34 n 0 r36)
   (qbl l27)
def q8v (p1:GFS) (p2:Int) (n:Nat) (l12:List Int):Option (GFS) :=
 q05 (q1d n p2 p1.Nodes l12 ([]:List Int)) fun r14 =>
 q3v p1 n r14 n 0 ([]:List q0d)
def q6z (p1:GFS) (p2:Int) (n:Nat):Nat→Int→(List Int)→Option (GFS)
 | 0,_,_=>none
 | m1+1,z9,l10 =>
  cond (decide (z9<(p1.Nodes.length:Int)))
   (q1m ((l10.length+1)*8≤140737488355328∧l10.length+1≤140737488355328) (
   (q6z p1 p2 n m1) (IntKind.i64.wrap (z9+1)) (l10++[(-1)])))
   (q8v p1 p2 n l10)
def qdb (n:Nat) (p1:GFS) (p2:Int):Option (GFS) :=
 q6z p1 p2 n n 0 ([]:List Int)
theorem qq6 (n:Nat) (p1:GFS) (p2:Int) (r:GFS) (hF:qdb n p1 p2=some r):EvU Tryz.prog 46 [.agg [.isl false (List.map q01 p1.Nodes)],.int .i64 p2] ⟨[],0⟩ (fun u _=>u = .agg [.isl false (List.map q01 r.Nodes)]∧Bel 0 u):=by
 unfold qdb at hF
 refine bg2 88 fn46 ?_
 refine gr ?_
 refine gr ?_
 refine gr ?_
 refine WPU.ghost (tm':=fr 88 [(1,.i6 p2),(2,.ptr 0 0 0),(4,.ptr 1 0 0),(5,.ptr 2 0 0),(6,.i6 0)]) (σ':=⟨[(3,.vec (List.map (cI .i64) ([]:List Int)).flatten 3 1 0),(2,.row [.iM q01 p1.Nodes,.vl 3 0 0 (([]:List Int).length),.nils] 128),(1,.row [.nils] 25),(0,.row [.iM q01 p1.Nodes] 25)],4⟩) (Gh.trans (z4l 2 1 3 1 (by decide) NZ rfl rfl) (z4e ⟨rfl,rfl,rfl,rfl,rfl,trivial⟩ rfl)) NZ ?_
 refine gS (l':=[(1,_),(2,_),(4,_),(5,_),(6,_)]) ?_
 refine z44 (fun m tm σ=>∃ z9:Int,∃ l10:List Int,∃ t11:Nat,q6z p1 p2 n m z9 l10=some r∧tm=fr 88 [(1,.i6 p2),(2,.ptr 0 0 0),(4,.ptr 1 0 0),(5,.ptr 2 0 0),(6,.i6 z9)]∧σ=⟨[(3,.vec (List.map (cI .i64) l10).flatten 3 1 t11),(2,.row [.iM q01 p1.Nodes,.vl 3 t11 0 l10.length,.nils] 128),(1,.row [.nils] 25),(0,.row [.iM q01 p1.Nodes] 25)],4⟩) (fun tm σ=>∃ l12:List Int,∃ t13:Nat,q8v p1 p2 n l12=some r∧tm=fr 88 [(1,.i6 p2),(2,.ptr 0 0 0),(4,.ptr 1 0 0),(5,.ptr 2 0 0)]∧σ=⟨[(3,.vec (List.map (cI .i64) l12).flatten 3 1 t13),(2,.row [.iM q01 p1.Nodes,.vl 3 t13 0 l12.length,.nils] 128),(1,.row [.nils] 25),(0,.row [.iM q01 p1.Nodes] 25)],4⟩) n ⟨0,([]:List Int),0,hF,rfl,rfl⟩ ?_ ?_
 rintro _ _ ⟨l12,t13,hF,rfl,rfl⟩
 unfold q8v at hF
 refine gn ?_
 refine WPU.ghost (tm':=fr 88 [(1,.i6 p2),(2,.ptr 0 0 0),(4,.ptr 1 0 0),(5,.ptr 2 0 0)]) (σ':=⟨[(4,.vec (List.map (cI .i64) ([]:List Int)).flatten 3 1 0),(3,.vec (List.map (cI .i64) l12).flatten 3 1 t13),(2,.row [.iM q01 p1.Nodes,.vl 3 t13 0 l12.length,.vl 4 0 0 (([]:List Int).length)] 128),(1,.row [.nils] 25),(0,.row [.iM q01 p1.Nodes] 25)],5⟩) (Gh.trans (z4l 2 2 3 1 (by decide) NZ rfl rfl) (z4e ⟨rfl,rfl,rfl,rfl,trivial⟩ rfl)) NZ ?_
 obtain ⟨r14,h15,hF⟩:=q00 hF
 refine go ?_
 refine z4d (R:=fun u σ'=>∃ t16:Nat→Nat,u = .tup []∧σ'=⟨[(4,.vec (List.map (cI .i64) r14.2).flatten 3 1 (t16 0)),(3,.vec (List.map (cI .i64) r14.1).flatten 3 1 t13),(2,.row [.iM q01 p1.Nodes,.vl 3 t13 0 r14.1.length,.vl 4 (t16 0) 0 r14.2.length] 128),(1,.row [.nils] 25),(0,.row [.iM q01 p1.Nodes] 25)],5⟩) (args:=[.ptr 2 0 0,.i6 p2]) rfl (q12 rfl rfl fn76 hb76 rfl rfl) (EvU.st [2,3,4] (qau n p2 p1.Nodes l12 ([]:List Int) r14 h15 t13 0)) rfl rfl ?_
 rintro _ _ ⟨t16,rfl,rfl⟩
 refine gr ?_
 refine gr ?_
 refine WPU.ghost (tm':=fr 88 [(2,.ptr 0 0 0),(4,.ptr 1 0 0),(5,.ptr 2 0 0),(7,.ptr 5 0 0),(8,.i6 0)]) (σ':=⟨[(6,.vec (List.map q01 ([]:List q0d)).flatten 40 2 0),(5,.row [.vl 6 0 0 (([]:List q0d).length)] 25),(4,.vec (List.map (cI .i64) r14.2).flatten 3 1 (t16 0)),(3,.vec (List.map (cI .i64) r14.1).flatten 3 1 t13),(2,.row [.iM q01 p1.Nodes,.vl 3 t13 0 r14.1.length,.vl 4 (t16 0) 0 r14.2.length] 128),(1,.row [.nils] 25),(0,.row [.iM q01 p1.Nodes] 25)],7⟩) (Gh.trans (z4l 5 0 40 2 (by decide) NZ rfl rfl) (z4e ⟨rfl,rfl,rfl,rfl,rfl,trivial⟩ rfl)) NZ ?_
 refine gS (l':=[(2,_),(4,_),(5,_),(7,_),(8,_)]) ?_
 refine z44 (fun m tm σ=>∃ z26:Int,∃ l27:List q0d,∃ t28:Nat,q3v p1 n r14 m z26 l27=some r∧tm=fr 88 [(2,.ptr 0 0 0),(4,.ptr 1 0 0),(5,.ptr 2 0 0),(7,.ptr 5 0 0),(8,.i6 z26)]∧σ=⟨[(6,.vec (List.map q01 l27).flatten 40 2 t28),(5,.row [.vl 6 t28 0 l27.length] 25),(4,.vec (List.map (cI .i64) r14.2).flatten 3 1 (t16 0)),(3,.vec (List.map (cI .i64) r14.1).flatten 3 1 t13),(2,.row [.iM q01 p1.Nodes,.vl 3 t13 0 r14.1.length,.vl 4 (t16 0) 0 r14.2.length] 128),(1,.row [.nils] 25),(0,.row [.iM q01 p1.Nodes] 25)],7⟩) (fun tm σ=>∃ l29:List q0d,∃ t30:Nat,qbl l29=some r∧tm=fr 88 [(4,.ptr 1 0 0),(7,.ptr 5 0 0)]∧σ=⟨[(6,.vec (List.map q01 l29).flatten 40 2 t30),(5,.row [.vl 6 t30 0 l29.length] 25),(4,.vec (List.map (cI .i64) r14.2).flatten 3 1 (t16 0)),(3,.vec (List.map (cI .i64) r14.1).flatten 3 1 t13),(2,.row [.iM q01 p1.Nodes,.vl 3 t13 0 r14.1.length,.vl 4 (t16 0) 0 r14.2.length] 128),(1,.row [.nils] 25),(0,.row [.iM q01 p1.Nodes] 25)],7⟩) n ⟨0,([]:List q0d),0,hF,rfl,rfl⟩ ?_ ?_
 rintro _ _ ⟨l29,t30,hF,rfl,rfl⟩
 unfold qbl at hF
 refine go ?_
 obtain rfl:=sI hF
 exact rT (us:=[.agg [.vl 6 t30 0 l29.length]]) (u:=.agg [.iM q01 l29]) (qfq (q6a un25.h rfl (q0q if25.h) rfl rfl rfl) (q3x)) (fR 6 2)
 rintro (_|m2) _ _ ⟨z26,l27,t28,hF,rfl,rfl⟩
 cases hF
 unfold q3v at hF
 refine go ?_
 refine RS.q (u:=.ptr 2 0 0) rfl (qe9 rfl rfl) ?_
 refine go ?_
 refine cF hF (fun h31 hF=>?_) (fun h31 hF=>?_)
 refine go ?_
 refine WPU.block ?_
 obtain ⟨x32,h33,hF⟩:=q00 hF
 obtain ⟨x34,h35,hF⟩:=q00 hF
 refine go ?_
 refine z48 Tryz.tb_ok [(0,11),(1,11),(2,11),(3,11),(4,11),(5,11),(6,11),(7,11),(8,11),(9,11),(10,11)] (by kernel_rfl) ?_
 refine gd ?_
 refine RD.q (u:=.ptr 2 0 0) rfl (qe9 rfl rfl) ?_
 refine gd ?_
 refine RD.q rfl (q4o rfl rfl (qal (cI .i64) un59.h (q0q if3.h) (by decide) (q8f .i64) (vo rfl) h33)) ?_
 refine RD.q rfl (q77 (cI .i64) (fun x=>.i6 x) un3.h rfl (fun _=>rfl) rfl rfl h33) ?_
 refine RD.ix h35 ?_
 refine gd ?_
 refine RD.g ?_
 refine RD.gz ?_
 refine RD.done ⟨by kernel_rfl,⟨qdq un25.h rfl (q0q if23.h) rfl rfl rfl,⟨qd3 un23.h rfl rfl rfl rfl,⟨q60 rfl,⟨qe9 rfl rfl,⟨qdq un128.h rfl (q0q if59.h) rfl rfl rfl,⟨qd3 un59.h rfl rfl rfl rfl,⟨q60 rfl,⟨q4o rfl rfl (qal (cI .i64) un59.h (q0q if3.h) (by decide) (q8f .i64) (vo rfl) h33),⟨q77 (cI .i64) (fun x=>.i6 x) un3.h rfl (fun _=>rfl) rfl rfl h33,⟨q4o rfl rfl (qsg q01 un23.h (q0q if40.h) qfa h35 rfl),⟨z1j un40.h rfl (q0q if40.h) rfl rfl,trivial⟩⟩⟩⟩⟩⟩⟩⟩⟩⟩⟩,?_⟩
 obtain ⟨r36,h37,hF⟩:=q00 hF
 refine go ?_
 refine z4d (R:=fun u σ'=>u = .vl 8 0 0 r36.length∧σ'=⟨[(8,.vec (List.map q08 r36).flatten 72 2 0),(7,.row (q01 x34) 40),(6,.vec (List.map q01 l27).flatten 40 2 t28),(5,.row [.vl 6 t28 0 l27.length] 25),(4,.vec (List.map (cI .i64) r14.2).flatten 3 1 (t16 0)),(3,.vec (List.map (cI .i64) r14.1).flatten 3 1 t13),(2,.row [.iM q01 p1.Nodes,.vl 3 t13 0 r14.1.length,.vl 4 (t16 0) 0 r14.2.length] 128),(1,.row [.nils] 25),(0,.row [.iM q01 p1.Nodes] 25)],9⟩) (args:=[.iM q08 x34.Arcs]) rfl (q12 rfl rfl fn77 hb77 rfl rfl) (z4o q08 (qfw n x34.Arcs r36 h37) _ 8 rfl) rfl rfl ?_
 rintro _ _ ⟨rfl,rfl⟩
 refine go ?_
 refine gS (l':=[(2,_),(4,_),(5,_),(7,_),(8,_),(9,_),(10,_),(11,_)]) ?_
 refine z44 (fun m tm σ=>∃ z52:Int,∃ l53:List q0m,q5j r14 z26 l27 (q3v p1 n r14 m2) x34 m z52 l53=some r∧tm=fr 88 [(2,.ptr 0 0 0),(4,.ptr 1 0 0),(5,.ptr 2 0 0),(7,.ptr 5 0 0),(8,.i6 z26),(9,.ptr 7 0 0),(10,.vl 8 0 0 l53.length),(11,.i6 z52)]∧σ=⟨[(8,.vec (List.map q08 l53).flatten 72 2 0),(7,.row (q01 x34) 40),(6,.vec (List.map q01 l27).flatten 40 2 t28),(5,.row [.vl 6 t28 0 l27.length] 25),(4,.vec (List.map (cI .i64) r14.2).flatten 3 1 (t16 0)),(3,.vec (List.map (cI .i64) r14.1).flatten 3 1 t13),(2,.row [.iM q01 p1.Nodes,.vl 3 t13 0 r14.1.length,.vl 4 (t16 0) 0 r14.2.length] 128),(1,.row [.nils] 25),(0,.row [.iM q01 p1.Nodes] 25)],9⟩) (fun tm σ=>∃ l54:List q0m,q8w z26 l27 (q3v p1 n r14 m2) x34 l54=some r∧tm=fr 88 [(2,.ptr 0 0 0),(4,.ptr 1 0 0),(5,.ptr 2 0 0),(7,.ptr 5 0 0),(8,.i6 z26),(9,.ptr 7 0 0),(10,.vl 8 0 0 l54.length)]∧σ=⟨[(8,.vec (List.map q08 l54).flatten 72 2 0),(7,.row (q01 x34) 40),(6,.vec (List.map q01 l27).flatten 40 2 t28),(5,.row [.vl 6 t28 0 l27.length] 25),(4,.vec (List.map (cI .i64) r14.2).flatten 3 1 (t16 0)),(3,.vec (List.map (cI .i64) r14.1).flatten 3 1 t13),(2,.row [.iM q01 p1.Nodes,.vl 3 t13 0 r14.1.length,.vl 4 (t16 0) 0 r14.2.length] 128),(1,.row [.nils] 25),(0,.row [.iM q01 p1.Nodes] 25)],9⟩) n ⟨0,r36,hF,rfl,rfl⟩ ?_ ?_
 rintro _ _ ⟨l54,hF,rfl,rfl⟩
 unfold q8w at hF
 refine gn ?_
 refine WPU.ghost (tm':=fr 88 [(2,.ptr 0 0 0),(4,.ptr 1 0 0),(5,.ptr 2 0 0),(7,.ptr 5 0 0),(8,.i6 z26),(9,.ptr 7 0 0),(10,.iM q08 l54)]) (σ':=⟨[(7,.row (q01 x34) 40),(6,.vec (List.map q01 l27).flatten 40 2 t28),(5,.row [.vl 6 t28 0 l27.length] 25),(4,.vec (List.map (cI .i64) r14.2).flatten 3 1 (t16 0)),(3,.vec (List.map (cI .i64) r14.1).flatten 3 1 t13),(2,.row [.iM q01 p1.Nodes,.vl 3 t13 0 r14.1.length,.vl 4 (t16 0) 0 r14.2.length] 128),(1,.row [.nils] 25),(0,.row [.iM q01 p1.Nodes] 25)],9⟩) (Gh.trans (Gh.sub (l':=[(2,.ptr 0 0 0),(4,.ptr 1 0 0),(5,.ptr 2 0 0),(7,.ptr 5 0 0),(8,.i6 z26),(9,.ptr 7 0 0),(10,.vl 8 0 0 l54.length)]) ⟨rfl,rfl,rfl,rfl,rfl,rfl,rfl,trivial⟩) (z4r 8 2)) NZ ?_
 obtain ⟨h55,hF⟩:=q09 hF
 refine go ?_
 refine RS.g ?_
 refine RS.g ?_
 refine go ?_
 exact lC ⟨_,(l27++[(q0d.mk x34.Typex l54)]),(t28+1),hF,rfl,rfl⟩
 rintro (_|m3) _ _ ⟨z52,l53,hF,rfl,rfl⟩
 cases hF
 unfold q5j at hF
 refine go ?_
 refine cF hF (fun h56 hF=>?_) (fun h56 hF=>?_)
 refine go ?_
 refine WPU.block ?_
 obtain ⟨x57,h58,hF⟩:=q00 hF
 obtain ⟨x59,h60,hF⟩:=q00 hF
 obtain ⟨x61,h62,hF⟩:=q00 hF
 refine gn ?_
 refine z47 (fun tm σ=>tm=fr 88 [(2,.ptr 0 0 0),(4,.ptr 1 0 0),(5,.ptr 2 0 0),(7,.ptr 5 0 0),(8,.i6 z26),(9,.ptr 7 0 0),(10,.vl 8 0 0 ((l53.set (0+z52.toNat) (q0m.mk x61.Feat x59)).length)),(11,.i6 z52)]∧σ=⟨[(8,.vec (List.map q08 (l53.set (0+z52.toNat) (q0m.mk x61.Feat x59))).flatten 72 2 0),(7,.row (q01 x34) 40),(6,.vec (List.map q01 l27).flatten 40 2 t28),(5,.row [.vl 6 t28 0 l27.length] 25),(4,.vec (List.map (cI .i64) r14.2).flatten 3 1 (t16 0)),(3,.vec (List.map (cI .i64) r14.1).flatten 3 1 t13),(2,.row [.iM q01 p1.Nodes,.vl 3 t13 0 r14.1.length,.vl 4 (t16 0) 0 r14.2.length] 128),(1,.row [.nils] 25),(0,.row [.iM q01 p1.Nodes] 25)],9⟩) ?_ ?_
 rintro _ _ ⟨rfl,rfl⟩
 refine go ?_
 exact lC ⟨_,(l53.set (0+z52.toNat) (q0m.mk x61.Feat x59)),hF,rfl,rfl⟩
 refine z48 Tryz.tb_ok [] (by kernel_rfl) ?_
 refine gd ?_
 refine RD.q (u:=.ptr 2 0 0) rfl (qe9 rfl rfl) ?_
 refine gd ?_
 refine RD.q rfl (q4o rfl rfl (qal q08 un38.h (q0q if72.h) (by decide) q1f (vo rfl) h58)) ?_
 refine RD.q rfl (qdq un72.h rfl (q0q if3.h) rfl (qkw rfl) rfl) (RD.q (u:=.i6 x57.To) rfl (qwp q08 un3.h rfl q1f rfl rfl (qiv h58) rfl) ?_)
 refine RD.q rfl (q4o rfl rfl (qal (cI .i64) un59.h (q0q if3.h) (by decide) (q8f .i64) (vo rfl) h60)) ?_
 refine RD.q rfl (q77 (cI .i64) (fun x=>.i6 x) un3.h rfl (fun _=>rfl) rfl rfl h60) ?_
 refine RD.q rfl (q4o rfl rfl (qal q08 un38.h (q0q if72.h) (by decide) q1f (vo rfl) h62)) ?_
 refine RD.q rfl (qdq un72.h rfl (q0q if3.h) rfl (qkw rfl) rfl) (RD.actn (u:=.junk) (σ':=⟨[(8,.vec (List.map q08 (l53.set (0+z52.toNat) (q0m.mk x61.Feat x59))).flatten 72 2 0),(7,.row (q01 x34) 40),(6,.vec (List.map q01 l27).flatten 40 2 t28),(5,.row [.vl 6 t28 0 l27.length] 25),(4,.vec (List.map (cI .i64) r14.2).flatten 3 1 (t16 0)),(3,.vec (List.map (cI .i64) r14.1).flatten 3 1 t13),(2,.row [.iM q01 p1.Nodes,.vl 3 t13 0 r14.1.length,.vl 4 (t16 0) 0 r14.2.length] 128),(1,.row [.nils] 25),(0,.row [.iM q01 p1.Nodes] 25)],9⟩) rfl (st_vf (y:=(q0m.mk x61.Feat x59)) q08 (q0q if3.h) q1f rfl rfl rfl rfl rfl rfl (qiv h62) rfl rfl) rfl ?_)
 refine RD.done ⟨by kernel_rfl,trivial,?_⟩
 refine go ?_
 exact ⟨_,_,⟨rfl,rfl⟩,NZ,z4e ⟨rfl,rfl,rfl,rfl,rfl,rfl,(by simp only [List.length_set]; rfl),rfl,trivial⟩ rfl⟩
 refine go ?_
 exact xC ⟨l53,hF,rfl,rfl⟩
 refine go ?_
 exact xC ⟨l27,t28,hF,rfl,rfl⟩
 rintro (_|m1) _ _ ⟨z9,l10,t11,hF,rfl,rfl⟩
 cases hF
 unfold q6z at hF
 refine go ?_
 refine cF hF (fun h63 hF=>?_) (fun h63 hF=>?_)
 refine go ?_
 refine WPU.block ?_
 obtain ⟨h64,hF⟩:=q09 hF
 refine go ?_
 refine RS.q (u:=.ptr 2 0 0) rfl (qe9 rfl rfl) ?_
 refine go ?_
 refine RS.g ?_
 refine RS.g ?_
 refine RS.q (u:=.ptr 2 0 0) rfl (qe9 rfl rfl) ?_
 refine go ?_
 exact lC ⟨_,(l10++[(-1)]),(t11+1),hF,rfl,rfl⟩
 refine go ?_
 exact xC ⟨l10,t11,hF,rfl,rfl⟩
def q76 (p1:Int) (p2:Nat) (p4:Nat) (l21:List Bool) (l22:List Bool):Option (Bool×(List Bool)×(List Bool)) :=
 q05 (qls l21 0 p2 p1) fun x23 =>
 q05 (qls l22 0 p4 p1) fun x25 =>
 some (false,(l21.set p1.toNat false),(l22.set p1.toNat true))
def q51 (p1:Int) (p2:Nat) (p3:List q0d) (p4:Nat) (x9:q0d) (self:Int→Nat→(List q0d)→Nat→(List Bool)→(List Bool)→Option (Bool×(List Bool)×(List Bool))):Nat→Int→(List Bool)→(List Bool)→Option (Bool×(List Bool)×(List Bool))
 | 0,_,_,_=>none
 | m1+1,z18,l19,l20 =>
  cond (decide (z18<(x9.Arcs.length:Int)))
   (q05 (q11 x9.Arcs z18) fun x28 =>
   q05 (q05 (qls l19 0 p2 x28.To) fun x30 =>
   cond x30
    (some (true,l19,l20))
    (q05 (qls l20 0 p4 x28.To) fun x33 =>
    cond (!x33)
     (q05 (self x28.To p2 p3 p4 l19 l20) fun r36 =>
     some (r36.1,r36.2.1,r36.2.2))
     (some (false,l19,l20)))) fun j43 =>
   cond j43.1
    (some (true,j43.2.1,j43.2.2))
    ((q51 p1 p2 p3 p4 x9 self m1) (IntKind.i64.wrap (z18+1)) j43.2.1 j43.2.2))
   (q76 p1 p2 p4 l19 l20)
def qbu (n:Nat) (self:Int→Nat→(List q0d)→Nat→(List Bool)→(List Bool)→Option (Bool×(List Bool)×(List Bool))) (p1:Int) (p2:Nat) (p3:List q0d) (p4:Nat) (p5:List Bool) (p6:List Bool):Option (Bool×(List Bool)×(List Bool)) :=
 q05 (qls p5 0 p2 p1) fun x7 =>
 q05 (q11 p3 p1) fun x9 =>
 q51 p1 p2 p3 p4 x9 self n 0 (p5.set p1.toNat true) p6
def q54:Nat→Int→Nat→(List q0d)→Nat→(List Bool)→(List Bool)→Option (Bool×(List Bool)×(List Bool))
 | 0,_,_,_,_,_,_=>none
 | n+1,p1,p2,p3,p4,p5,p6=>qbu n (q54 n) p1 p2 p3 p4 p5 p6
theorem qbt:∀ (n:Nat) (p1:Int) (p2:Nat) (p3:List q0d) (p4:Nat) (p5:List Bool) (p6:List Bool) (r:Bool×(List Bool)×(List Bool)),q54 n p1 p2 p3 p4 p5 p6=some r→EvU Tryz.prog 28 [.int .i64 p1,.ptr 0 0 0,.ptr 1 0 0,.ptr 2 0 0,.ptr 3 0 0] ⟨[(0,.row [.sl 4 0 p2 p2] 74),(1,.row [.isl false (List.map q01 p3)] 25),(2,.row [.sl 5 0 p4 p4] 74),(3,.row [.fn (.func 28) [] [.ptr 0 0 0,.ptr 1 0 0,.ptr 2 0 0,.ptr 3 0 0]] 75),(4,.row (List.map cB p5).flatten 4),(5,.row (List.map cB p6).flatten 4)],6⟩ (fun u σ'=>∃ t:Nat→Nat,u = .bool r.1∧σ'=⟨[(0,.row [.sl 4 0 p2 p2] 74),(1,.row [.isl false (List.map q01 p3)] 25),(2,.row [.sl 5 0 p4 p4] 74),(3,.row [.fn (.func 28) [] [.ptr 0 0 0,.ptr 1 0 0,.ptr 2 0 0,.ptr 3 0 0]] 75),(4,.row (List.map cB r.2.1).flatten 4),(5,.row (List.map cB r.2.2).flatten 4)],6⟩)
 | 0,p1,p2,p3,p4,p5,p6,r,hF=>by cases hF
 | n+1,p1,p2,p3,p4,p5,p6,r,hF=>by
  have ih:=qbt n
  unfold q54 qbu at hF
  refine bg5 49 fn28 ?_
  obtain ⟨x7,h8,hF⟩:=q00 hF
  refine go ?_
  refine RS.q rfl (q4o rfl rfl (qia un74.h (q0q if4.h) rfl h8)) (RS.opn (u:=.junk) (σ':=⟨[(0,.row [.sl 4 0 p2 p2] 74),(1,.row [.iM q01 p3] 25),(2,.row [.sl 5 0 p4 p4] 74),(3,.row [.fn (.func 28) [] [.ptr 0 0 0,.ptr 1 0 0,.ptr 2 0 0,.ptr 3 0 0]] 75),(4,.row (List.map cB (p5.set p1.toNat true)).flatten 4),(5,.row (List.map cB p6).flatten 4)],6⟩) rfl (qyb cB (q0q if4.h) qwr rfl rfl rfl rfl rfl rfl h8 rfl) rfl ?_)
  obtain ⟨x9,h10,hF⟩:=q00 hF
  refine go ?_
  refine RS.ix h10 ?_
  refine go ?_
  refine gS (l':=[(0,_),(1,_),(3,_),(4,_),(17,_),(18,_),(19,_)]) ?_
  refine z44 (fun m tm σ=>∃ z18:Int,∃ l19:List Bool,∃ l20:List Bool,q51 p1 p2 p3 p4 x9 (q54 n) m z18 l19 l20=some r∧tm=fr 49 [(0,.i6 p1),(1,.ptr 0 0 0),(3,.ptr 2 0 0),(4,.ptr 3 0 0),(17,.iM q08 x9.Arcs),(18,.i6 (x9.Arcs.length:Int)),(19,.i6 z18)]∧σ=⟨[(0,.row [.sl 4 0 p2 p2] 74),(1,.row [.iM q01 p3] 25),(2,.row [.sl 5 0 p4 p4] 74),(3,.row [.fn (.func 28) [] [.ptr 0 0 0,.ptr 1 0 0,.ptr 2 0 0,.ptr 3 0 0]] 75),(4,.row (List.map cB l19).flatten 4),(5,.row (List.map cB l20).flatten 4)],6⟩) (fun tm σ=>∃ l21:List Bool,∃ l22:List Bool,q76 p1 p2 p4 l21 l22=some r∧tm=fr 49 [(0,.i6 p1),(1,.ptr 0 0 0),(3,.ptr 2 0 0)]∧σ=⟨[(0,.row [.sl 4 0 p2 p2] 74),(1,.row [.iM q01 p3] 25),(2,.row [.sl 5 0 p4 p4] 74),(3,.row [.fn (.func 28) [] [.ptr 0 0 0,.ptr 1 0 0,.ptr 2 0 0,.ptr 3 0 0]] 75),(4,.row (List.map cB l21).flatten 4),(5,.row (List.map cB l22).flatten 4)],6⟩) n ⟨0,(p5.set p1.toNat true),p6,hF,rfl,rfl⟩ ?_ ?_
  rintro _ _ ⟨l21,l22,hF,rfl,rfl⟩
  unfold q76 at hF
  obtain ⟨x23,h24,hF⟩:=q00 hF
  obtain ⟨x25,h26,hF⟩:=q00 hF
  refine go ?_
  refine z48 Tryz.tb_ok [(2,5),(3,5)] (by kernel_rfl) ?_
  refine gd ?_
  refine RD.q rfl (q4o rfl rfl (qia un74.h (q0q if4.h) rfl h24)) (RD.actn (u:=.junk) (σ':=⟨[(0,.row [.sl 4 0 p2 p2] 74),(1,.row [.iM q01 p3] 25),(2,.row [.sl 5 0 p4 p4] 74),(3,.row [.fn (.func 28) [] [.ptr 0 0 0,.ptr 1 0 0,.ptr 2 0 0,.ptr 3 0 0]] 75),(4,.row (List.map cB (l21.set p1.toNat false)).flatten 4),(5,.row (List.map cB l22).flatten 4)],6⟩) rfl (qyb cB (q0q if4.h) qwr rfl rfl rfl rfl rfl rfl h24 rfl) rfl (RD.q rfl (q4o rfl rfl (qia un74.h (q0q if4.h) rfl h26)) (RD.actn (u:=.junk) (σ':=⟨[(0,.row [.sl 4 0 p2 p2] 74),(1,.row [.iM q01 p3] 25),(2,.row [.sl 5 0 p4 p4] 74),(3,.row [.fn (.func 28) [] [.ptr 0 0 0,.ptr 1 0 0,.ptr 2 0 0,.ptr 3 0 0]] 75),(4,.row (List.map cB (l21.set p1.toNat false)).flatten 4),(5,.row (List.map cB (l22.set p1.toNat true)).flatten 4)],6⟩) rfl (qyb cB (q0q if4.h) qwr rfl rfl rfl rfl rfl rfl h26 rfl) rfl ?_)))
  refine RD.done ⟨by kernel_rfl,⟨qd3 un74.h rfl rfl rfl rfl,⟨q60 rfl,trivial⟩⟩,?_⟩
  refine go ?_
  obtain rfl:=sI hF
  exact ⟨.inr rfl,[.bool false],q4e rfl (q3x),.bool false,⟨[(0,.row [.sl 4 0 p2 p2] 74),(1,.row [.iM q01 p3] 25),(2,.row [.sl 5 0 p4 p4] 74),(3,.row [.fn (.func 28) [] [.ptr 0 0 0,.ptr 1 0 0,.ptr 2 0 0,.ptr 3 0 0]] 75),(4,.row (List.map cB (l21.set p1.toNat false)).flatten 4),(5,.row (List.map cB (l22.set p1.toNat true)).flatten 4)],6⟩,NL,z4p (n1:=6) [] rfl rfl NL NL BUL.h BH.h,stF [],rfl,rfl⟩
  rintro (_|m1) _ _ ⟨z18,l19,l20,hF,rfl,rfl⟩
  cases hF
  unfold q51 at hF
  refine go ?_
  refine cF hF (fun h27 hF=>?_) (fun h27 hF=>?_)
  refine go ?_
  refine WPU.block ?_
  obtain ⟨x28,h29,hF⟩:=q00 hF
  refine go ?_
  refine RS.ix h29 ?_
  obtain ⟨j43,h42,hF⟩:=q00 hF
  refine gn ?_
  refine z47 (fun tm σ=>tm=fr 49 [(0,.i6 p1),(1,.ptr 0 0 0),(3,.ptr 2 0 0),(4,.ptr 3 0 0),(17,.iM q08 x9.Arcs),(18,.i6 (x9.Arcs.length:Int)),(19,.i6 z18),(41,.bool j43.1)]∧σ=⟨[(6,.row (q08 x28) 72),(0,.row [.sl 4 0 p2 p2] 74),(1,.row [.iM q01 p3] 25),(2,.row [.sl 5 0 p4 p4] 74),(3,.row [.fn (.func 28) [] [.ptr 0 0 0,.ptr 1 0 0,.ptr 2 0 0,.ptr 3 0 0]] 75),(4,.row (List.map cB j43.2.1).flatten 4),(5,.row (List.map cB j43.2.2).flatten 4)],7⟩) ?_ ?_
  rintro _ _ ⟨rfl,rfl⟩
  refine go ?_
  refine cF hF (fun h44 hF=>?_) (fun h44 hF=>?_)
  refine go ?_
  obtain rfl:=sI hF
  exact ⟨.inr rfl,[.bool true],q4e rfl (q3x),.bool true,⟨[(0,.row [.sl 4 0 p2 p2] 74),(1,.row [.iM q01 p3] 25),(2,.row [.sl 5 0 p4 p4] 74),(3,.row [.fn (.func 28) [] [.ptr 0 0 0,.ptr 1 0 0,.ptr 2 0 0,.ptr 3 0 0]] 75),(4,.row (List.map cB j43.2.1).flatten 4),(5,.row (List.map cB j43.2.2).flatten 4)],6⟩,NL,z4p (n1:=6) [] rfl rfl NL NL BUL.h BH.h,stF [],rfl,rfl⟩
  refine go ?_
  exact lC ⟨_,j43.2.1,j43.2.2,hF,rfl,rfl⟩
  obtain ⟨x30,h31,h42⟩:=q00 h42
  rcases gB h42 with ⟨h32,h42⟩ | ⟨h32,h42⟩
  obtain rfl:=sI h42
  refine go ?_
  refine RS.q rfl (q4o rfl rfl (qia un74.h (q0q if4.h) rfl h31)) (RS.q (u:=.bool x30) rfl (qix cB (fun x=>.bool x) un4.h rfl (fun _=>rfl) rfl rfl h31) ?_)
  refine go ?_
  repeat refine RS.no (qll rfl rfl rfl) rfl rfl ?_
  refine go ?_
  exact xC ⟨rfl,rfl⟩
  obtain ⟨x33,h34,h42⟩:=q00 h42
  rcases gB h42 with ⟨h35,h42⟩ | ⟨h35,h42⟩
  obtain ⟨r36,h37,h42⟩:=q00 h42
  obtain rfl:=sI h42
  refine go ?_
  refine RS.q rfl (q4o rfl rfl (qia un74.h (q0q if4.h) rfl h31)) (RS.q (u:=.bool x30) rfl (qix cB (fun x=>.bool x) un4.h rfl (fun _=>rfl) rfl rfl h31) ?_)
  refine go ?_
  refine RS.w rfl (q4o rfl rfl (qia un74.h (q0q if4.h) rfl h34)) (RS.w (u:=.bool x33) rfl (qix cB (fun x=>.bool x) un4.h rfl (fun _=>rfl) rfl rfl h34) ?_)
  refine go ?_
  refine z4d (R:=fun u σ'=>∃ t38:Nat→Nat,u = .bool r36.1∧σ'=⟨[(6,.row (q08 x28) 72),(0,.row [.sl 4 0 p2 p2] 74),(1,.row [.iM q01 p3] 25),(2,.row [.sl 5 0 p4 p4] 74),(3,.row [.fn (.func 28) [] [.ptr 0 0 0,.ptr 1 0 0,.ptr 2 0 0,.ptr 3 0 0]] 75),(4,.row (List.map cB r36.2.1).flatten 4),(5,.row (List.map cB r36.2.2).flatten 4)],7⟩) (args:=[.i6 x28.To,.ptr 0 0 0,.ptr 1 0 0,.ptr 2 0 0,.ptr 3 0 0]) (q2y rfl rfl rfl h35) (q12 rfl rfl fn28 hb28 rfl rfl) (EvU.st [0,1,2,3,4,5] (ih x28.To p2 p3 p4 l19 l20 r36 h37 )) rfl rfl ?_
  rintro _ _ ⟨t38,rfl,rfl⟩
  refine go ?_
  exact xC ⟨rfl,rfl⟩
  obtain rfl:=sI h42
  refine go ?_
  refine RS.q rfl (q4o rfl rfl (qia un74.h (q0q if4.h) rfl h31)) (RS.q (u:=.bool x30) rfl (qix cB (fun x=>.bool x) un4.h rfl (fun _=>rfl) rfl rfl h31) ?_)
  refine go ?_
  refine RS.w rfl (q4o rfl rfl (qia un74.h (q0q if4.h) rfl h34)) (RS.w (u:=.bool x33) rfl (qix cB (fun x=>.bool x) un4.h rfl (fun _=>rfl) rfl rfl h34) ?_)
  refine go ?_
  exact xC ⟨rfl,rfl⟩
  refine go ?_
  exact xC ⟨l19,l20,hF,rfl,rfl⟩
def qbv  (l12:List Bool) (l13:List Bool):Option (Bool) :=
 some false
def q8e (p1:GFS) (n:Nat):Nat→Int→(List Bool)→(List Bool)→Option (Bool)
 | 0,_,_,_=>none
 | m1+1,z9,l10,l11 =>
  cond (decide (z9<(p1.Nodes.length:Int)))
   (q05 (q05 (qls l10 0 ((p1.Nodes.length:Int).toNat) z9) fun x15 =>
   cond (!x15)
    (q05 (q54 n z9 ((p1.Nodes.length:Int).toNat) p1.Nodes ((p1.Nodes.length:Int).toNat) l11 l10) fun r18 =>
    some (r18.1,r18.2.2,r18.2.1))
    (some (false,l10,l11))) fun j25 =>
   cond j25.1
    (some true)
    ((q8e p1 n m1) (IntKind.i64.wrap (z9+1)) j25.2.1 j25.2.2))
   (qbv l10 l11)
def qcf (n:Nat) (p1:GFS):Option (Bool) :=
 q1m (0≤(p1.Nodes.length:Int)∧1*(p1.Nodes.length:Int).toNat≤281474976710656∧(p1.Nodes.length:Int)≤281474976710656) (
 q1m (0≤(p1.Nodes.length:Int)∧1*(p1.Nodes.length:Int).toNat≤281474976710656∧(p1.Nodes.length:Int)≤281474976710656) (
 q8e p1 n n 0 (List.replicate (p1.Nodes.length:Int).toNat false) (List.replicate (p1.Nodes.length:Int).toNat false)))
theorem q35 (n:Nat) (p1:GFS) (r:Bool) (hF:qcf n p1=some r):EvU Tryz.prog 15 [.agg [.isl false (List.map q01 p1.Nodes)]] ⟨[],0⟩ (fun u _=>u = .bool r∧Bel 0 u):=by
 unfold qcf at hF
 refine bg1 33 fn15 ?_
 obtain ⟨h2,hF⟩:=q09 hF
 obtain ⟨h3,hF⟩:=q09 hF
 refine go ?_
 refine WPU.drawQ Tryz.tb_ok [(3,some ((p1.Nodes.length:Int).toNat),(List.map cB (List.replicate (p1.Nodes.length:Int).toNat false)).flatten,4),(7,some ((p1.Nodes.length:Int).toNat),(List.map cB (List.replicate (p1.Nodes.length:Int).toNat false)).flatten,4),(8,none,[.nils],74),(9,none,[.nils],74)] [(4,10),(5,10),(6,10)] (nb:=1) (σe:=⟨[(0,.row [.iM q01 p1.Nodes] 25)],5⟩) (σ1:=⟨[(4,.row [.nils] 74),(3,.row [.nils] 74),(2,.row (List.map cB (List.replicate (p1.Nodes.length:Int).toNat false)).flatten 4),(1,.row (List.map cB (List.replicate (p1.Nodes.length:Int).toNat false)).flatten 4),(0,.row [.iM q01 p1.Nodes] 25)],5⟩) (q:=[⟨3,1,some ((p1.Nodes.length:Int).toNat),(List.map cB (List.replicate (p1.Nodes.length:Int).toNat false)).flatten,4⟩,⟨7,2,some ((p1.Nodes.length:Int).toNat),(List.map cB (List.replicate (p1.Nodes.length:Int).toNat false)).flatten,4⟩,⟨8,3,none,[.nils],74⟩,⟨9,4,none,[.nils],74⟩]) (by kernel_rfl) (List.cons_ne_nil _ _) ⟨(q8a 0 (fun q=>qvf _ q) (List.replicate (p1.Nodes.length:Int).toNat false)),(q8a 0 (fun q=>qvf _ q) (List.replicate (p1.Nodes.length:Int).toNat false)),BUL.h,BUL.h,trivial⟩ rfl rfl rfl rfl ?_
 refine RQ.early (u:=.ptr 0 0 0) rfl (qdq un25.h rfl (q0q if23.h) rfl rfl rfl) (qdq un25.h rfl (q0q if23.h) rfl rfl rfl) rfl BU.h rfl rfl ?_
 refine RQ.early (u:=.iM q01 p1.Nodes) rfl (qd3 un23.h rfl rfl rfl rfl) (qd3 un23.h rfl rfl rfl rfl) rfl BU.h rfl rfl ?_
 refine RQ.early (u:=.i6 (p1.Nodes.length:Int)) rfl (qbx rfl rfl rfl (qib q01 un23.h)) (qbx rfl rfl rfl (qib q01 un23.h)) rfl BU.h rfl rfl ?_
 refine RQ.alloc rfl (fun s=>qt0 cB false rfl rfl un74.h if4.h rfl rfl rfl rfl h2) rfl rfl rfl ?_
 refine RQ.early (u:=.ptr 0 0 0) rfl (qdq un25.h rfl (q0q if23.h) rfl rfl rfl) (qdq un25.h rfl (q0q if23.h) rfl rfl rfl) rfl BU.h rfl rfl ?_
 refine RQ.early (u:=.iM q01 p1.Nodes) rfl (qd3 un23.h rfl rfl rfl rfl) (qd3 un23.h rfl rfl rfl rfl) rfl BU.h rfl rfl ?_
 refine RQ.early (u:=.i6 (p1.Nodes.length:Int)) rfl (qbx rfl rfl rfl (qib q01 un23.h)) (qbx rfl rfl rfl (qib q01 un23.h)) rfl BU.h rfl rfl ?_
 refine RQ.alloc rfl (fun s=>qt0 cB false rfl rfl un74.h if4.h rfl rfl rfl rfl h3) rfl rfl rfl ?_
 refine RQ.alloc rfl (fun s=>qnr if74.h rfl rfl) rfl rfl rfl ?_
 refine RQ.alloc rfl (fun s=>qnr if74.h rfl rfl) rfl rfl rfl ?_
 refine RQ.loc (mk:=783) (σ':=⟨[(4,.row [.nils] 74),(3,.row [.sl 1 0 ((p1.Nodes.length:Int).toNat) ((p1.Nodes.length:Int).toNat)] 74),(2,.row (List.map cB (List.replicate (p1.Nodes.length:Int).toNat false)).flatten 4),(1,.row (List.map cB (List.replicate (p1.Nodes.length:Int).toNat false)).flatten 4),(0,.row [.iM q01 p1.Nodes] 25)],5⟩) rfl (qyc (q0q if74.h) rfl rfl rfl rfl rfl rfl) (by kernel_rfl) rfl rfl rfl rfl ⟨.inl (show Nat.testBit 783 3=true by decide),⟨.inr ⟨show (2:Nat)≠3 by decide,BUL.h⟩,⟨.inl (show Nat.testBit 783 8=true by decide),⟨.inl (show Nat.testBit 783 9=true by decide),trivial⟩⟩⟩⟩ ?_
 refine RQ.actn (u:=.junk) (σ':=⟨[(4,.row [.sl 2 0 ((p1.Nodes.length:Int).toNat) ((p1.Nodes.length:Int).toNat)] 74),(3,.row [.sl 1 0 ((p1.Nodes.length:Int).toNat) ((p1.Nodes.length:Int).toNat)] 74),(2,.row (List.map cB (List.replicate (p1.Nodes.length:Int).toNat false)).flatten 4),(1,.row (List.map cB (List.replicate (p1.Nodes.length:Int).toNat false)).flatten 4),(0,.row [.iM q01 p1.Nodes] 25)],5⟩) rfl (qnt (q0q if74.h) rfl rfl rfl rfl rfl rfl rfl rfl) rfl ?_
 refine RQ.done ⟨by kernel_rfl,by kernel_rfl,⟨qdq un25.h rfl (q0q if23.h) rfl rfl rfl,⟨qd3 un23.h rfl rfl rfl rfl,⟨qbx rfl rfl rfl (qib q01 un23.h),trivial⟩⟩⟩,?_⟩
 refine go ?_
 refine RS.q rfl (qxf rfl rfl) ?_
 refine go ?_
 refine gS (l':=[(4,_),(5,_),(18,_),(19,_)]) ?_
 refine z44 (fun m tm σ=>∃ z9:Int,∃ l10:List Bool,∃ l11:List Bool,q8e p1 n m z9 l10 l11=some r∧tm=fr 33 [(4,.ptr 4 0 0),(5,.ptr 5 0 0),(18,.i6 (p1.Nodes.length:Int)),(19,.i6 z9)]∧σ=⟨[(5,.row [.fn (.func 28) [] [.ptr 3 0 0,.ptr 0 0 0,.ptr 4 0 0,.ptr 5 0 0]] 75),(4,.row [.sl 2 0 ((p1.Nodes.length:Int).toNat) ((p1.Nodes.length:Int).toNat)] 74),(3,.row [.sl 1 0 ((p1.Nodes.length:Int).toNat) ((p1.Nodes.length:Int).toNat)] 74),(2,.row (List.map cB l10).flatten 4),(1,.row (List.map cB l11).flatten 4),(0,.row [.iM q01 p1.Nodes] 25)],6⟩) (fun tm σ=>∃ l12:List Bool,∃ l13:List Bool,qbv l12 l13=some r∧tm=fr 33 []∧σ=⟨[(5,.row [.fn (.func 28) [] [.ptr 3 0 0,.ptr 0 0 0,.ptr 4 0 0,.ptr 5 0 0]] 75),(4,.row [.sl 2 0 ((p1.Nodes.length:Int).toNat) ((p1.Nodes.length:Int).toNat)] 74),(3,.row [.sl 1 0 ((p1.Nodes.length:Int).toNat) ((p1.Nodes.length:Int).toNat)] 74),(2,.row (List.map cB l12).flatten 4),(1,.row (List.map cB l13).flatten 4),(0,.row [.iM q01 p1.Nodes] 25)],6⟩) n ⟨0,(List.replicate (p1.Nodes.length:Int).toNat false),(List.replicate (p1.Nodes.length:Int).toNat false),hF,rfl,rfl⟩ ?_ ?_
 rintro _ _ ⟨l12,l13,hF,rfl,rfl⟩
 unfold qbv at hF
 exact gx hF
 rintro (_|m1) _ _ ⟨z9,l10,l11,hF,rfl,rfl⟩
 cases hF
 unfold q8e at hF
 refine go ?_
 refine cF hF (fun h14 hF=>?_) (fun h14 hF=>?_)
 refine go ?_
 refine WPU.block ?_
 obtain ⟨j25,h24,hF⟩:=q00 hF
 refine gr ?_
 refine z47 (fun tm σ=>tm=fr 33 [(4,.ptr 4 0 0),(5,.ptr 5 0 0),(18,.i6 (p1.Nodes.length:Int)),(19,.i6 z9),(31,.bool j25.1)]∧σ=⟨[(5,.row [.fn (.func 28) [] [.ptr 3 0 0,.ptr 0 0 0,.ptr 4 0 0,.ptr 5 0 0]] 75),(4,.row [.sl 2 0 ((p1.Nodes.length:Int).toNat) ((p1.Nodes.length:Int).toNat)] 74),(3,.row [.sl 1 0 ((p1.Nodes.length:Int).toNat) ((p1.Nodes.length:Int).toNat)] 74),(2,.row (List.map cB j25.2.1).flatten 4),(1,.row (List.map cB j25.2.2).flatten 4),(0,.row [.iM q01 p1.Nodes] 25)],6⟩) ?_ ?_
 rintro _ _ ⟨rfl,rfl⟩
 refine go ?_
 refine cF hF (fun h26 hF=>?_) (fun h26 hF=>?_)
 exact gx hF
 refine go ?_
 exact lC ⟨_,j25.2.1,j25.2.2,hF,rfl,rfl⟩
 obtain ⟨x15,h16,h24⟩:=q00 h24
 rcases gB h24 with ⟨h17,h24⟩ | ⟨h17,h24⟩
 obtain ⟨r18,h19,h24⟩:=q00 h24
 obtain rfl:=sI h24
 refine go ?_
 refine RS.q rfl (q4o rfl rfl (qia un74.h (q0q if4.h) rfl h16)) (RS.q (u:=.bool x15) rfl (qix cB (fun x=>.bool x) un4.h rfl (fun _=>rfl) rfl rfl h16) ?_)
 refine go ?_
 refine z4d (R:=fun u σ'=>∃ t20:Nat→Nat,u = .bool r18.1∧σ'=⟨[(5,.row [.fn (.func 28) [] [.ptr 3 0 0,.ptr 0 0 0,.ptr 4 0 0,.ptr 5 0 0]] 75),(4,.row [.sl 2 0 ((p1.Nodes.length:Int).toNat) ((p1.Nodes.length:Int).toNat)] 74),(3,.row [.sl 1 0 ((p1.Nodes.length:Int).toNat) ((p1.Nodes.length:Int).toNat)] 74),(2,.row (List.map cB r18.2.2).flatten 4),(1,.row (List.map cB r18.2.1).flatten 4),(0,.row [.iM q01 p1.Nodes] 25)],6⟩) (args:=[.i6 z9,.ptr 3 0 0,.ptr 0 0 0,.ptr 4 0 0,.ptr 5 0 0]) (q2y rfl rfl rfl h17) (q12 rfl rfl fn28 hb28 rfl rfl) (EvU.st [3,0,4,5,1,2] (qbt n z9 ((p1.Nodes.length:Int).toNat) p1.Nodes ((p1.Nodes.length:Int).toNat) l11 l10 r18 h19 )) rfl rfl ?_
 rintro _ _ ⟨t20,rfl,rfl⟩
 refine go ?_
 exact xC ⟨rfl,rfl⟩
 obtain rfl:=sI h24
 refine go ?_
 refine RS.q rfl (q4o rfl rfl (qia un74.h (q0q if4.h) rfl h16)) (RS.q (u:=.bool x15) rfl (qix cB (fun x=>.bool x) un4.h rfl (fun _=>rfl) rfl rfl h16) ?_)
 refine go ?_
 exact xC ⟨rfl,rfl⟩
 refine go ?_
 exact xC ⟨l10,l11,hF,rfl,rfl⟩
def q0z (p1:List q0d) (p2:List q0d)  : Option (Int) :=
 cond (decide ((p1.length:Int)<(p2.length:Int)))
  (some (-1))
  (some 0)
def q0i (p1:List q0d) (p2:List q0d) (f2:q0d→q0d→Option (Int)):Nat→Int→Option (Int)
 | 0,_=>none
 | m1+1,z8 =>
  cond (decide (z8<(p1.length:Int)))
   (q05 (q11 p1 z8) fun x11 =>
   cond (decide (z8 ≥ (p2.length:Int)))
    (some 1)
    (q05 (q11 p2 z8) fun x14 =>
    q05 (f2 x11 x14) fun r16 =>
    cond (r16 != 0)
     (some r16)
     ((q0i p1 p2 f2 m1) (IntKind.i64.wrap (z8+1)))))
   (q0z p1 p2)
def q19 (f2:q0d→q0d→Option (Int)) (n:Nat) (p1:List q0d) (p2:List q0d):Option (Int) :=
 q0i p1 p2 f2 n 0
theorem q73 (f2:q0d→q0d→Option (Int)) (hf2:∀ (a0:q0d) (a1:q0d) (r:Int),f2 a0 a1=some r→EvU Tryz.prog 31 [.agg (q01 a0),.agg (q01 a1)] ⟨[],0⟩ (fun u _=>u = .int .i64 r∧Bel 0 u)) (n:Nat) (p1:List q0d) (p2:List q0d) (r:Int) (hF:q19 f2 n p1 p2=some r):EvU Tryz.prog 30 [.isl false (List.map q01 p1),.isl false (List.map q01 p2),.fn (.func 31) [] []] ⟨[],0⟩ (fun u _=>u = .int .i64 r∧Bel 0 u):=by
 unfold q19 at hF
 have hf2S:∀ (a0:q0d) (a1:q0d) (r:Int),f2 a0 a1=some r→∀ σ,EvU Tryz.prog 31 [.agg (q01 a0),.agg (q01 a1)] σ (fun u σ'=>u = .i6 r∧σ'=σ):=fun a0 a1 r h σ=>z4i (hf2 a0 a1 r h) σ
 refine bg3 39 fn30 ?_
 refine go ?_
 refine gS (l':=[(0,_),(1,_),(2,_),(11,_),(12,_),(13,_)]) ?_
 refine z44 (fun m tm σ=>∃ z8:Int,q0i p1 p2 f2 m z8=some r∧tm=fr 39 [(0,.iM q01 p1),(1,.iM q01 p2),(2,.fn (.func 31) [] []),(11,.iM q01 p1),(12,.i6 (p1.length:Int)),(13,.i6 z8)]∧σ=⟨[],0⟩) (fun tm σ=>q0z p1 p2=some r∧tm=fr 39 [(0,.iM q01 p1),(1,.iM q01 p2)]∧σ=⟨[],0⟩) n ⟨0,hF,rfl,rfl⟩ ?_ ?_
 rintro _ _ ⟨hF,rfl,rfl⟩
 unfold q0z at hF
 refine go ?_
 refine cF hF (fun h9 hF=>?_) (fun h9 hF=>?_)
 exact gx hF
 exact gx hF
 rintro (_|m1) _ _ ⟨z8,hF,rfl,rfl⟩
 cases hF
 unfold q0i at hF
 refine go ?_
 refine cF hF (fun h10 hF=>?_) (fun h10 hF=>?_)
 refine go ?_
 refine WPU.block ?_
 obtain ⟨x11,h12,hF⟩:=q00 hF
 refine go ?_
 refine RS.ix h12 ?_
 refine go ?_
 refine cF hF (fun h13 hF=>?_) (fun h13 hF=>?_)
 exact gx hF
 obtain ⟨x14,h15,hF⟩:=q00 hF
 refine go ?_
 refine RS.ix h15 ?_
 obtain ⟨r16,h17,hF⟩:=q00 hF
 refine go ?_
 refine RS.cl rfl (hf2S x11 x14 r16 h17 _) fn31 ?_
 refine go ?_
 refine cF hF (fun h18 hF=>?_) (fun h18 hF=>?_)
 exact gx hF
 refine go ?_
 exact lC ⟨_,hF,rfl,rfl⟩
 refine go ?_
 exact xC ⟨hF,rfl,rfl⟩
def q6p   : Option (Int) :=
 some 0
def q5c (p1:List Int):Nat→Int→Option (Int)
 | 0,_=>none
 | m1+1,z6 =>
  cond (decide (z6<(p1.length:Int)))
   (q05 (q11 p1 z6) fun x8 =>
   cond (x8 != 0)
    (some x8)
    ((q5c p1 m1) (IntKind.i64.wrap (z6+1))))
   (q6p)
def q7x (n:Nat) (p1:List Int):Option (Int) :=
 q5c p1 n 0
theorem qir (n:Nat) (p1:List Int) (r:Int) (hF:q7x n p1=some r):EvU Tryz.prog 53 [.isl false (List.map (cI .i64) p1)] ⟨[],0⟩ (fun u _=>u = .int .i64 r∧Bel 0 u):=by
 unfold q7x at hF
 refine bg1 18 fn53 ?_
 refine go ?_
 refine gS (l':=[(3,_),(6,_),(7,_),(8,_)]) ?_
 refine z44 (fun m tm σ=>∃ z6:Int,q5c p1 m z6=some r∧tm=fr 18 [(3,.i6 0),(6,.iM (cI .i64) p1),(7,.i6 (p1.length:Int)),(8,.i6 z6)]∧σ=⟨[],0⟩) (fun tm σ=>q6p=some r∧tm=fr 18 [(3,.i6 0)]∧σ=⟨[],0⟩) n ⟨0,hF,rfl,rfl⟩ ?_ ?_
 rintro _ _ ⟨hF,rfl,rfl⟩
 unfold q6p at hF
 exact gx hF
 rintro (_|m1) _ _ ⟨z6,hF,rfl,rfl⟩
 cases hF
 unfold q5c at hF
 refine go ?_
 refine cF hF (fun h7 hF=>?_) (fun h7 hF=>?_)
 refine go ?_
 refine WPU.block ?_
 obtain ⟨x8,h9,hF⟩:=q00 hF
 refine go ?_
 refine RS.ix h9 ?_
 refine go ?_
 refine cF hF (fun h10 hF=>?_) (fun h10 hF=>?_)
 exact gx hF
 refine go ?_
 exact lC ⟨_,hF,rfl,rfl⟩
 refine go ?_
 exact xC ⟨hF,rfl,rfl⟩
def q0v (p1:List q0m) (p2:List q0m)  : Option (Int) :=
 cond (decide ((p1.length:Int)<(p2.length:Int)))
  (some (-1))
  (some 0)
def q0g (p1:List q0m) (p2:List q0m) (f2:q0m→q0m→Option (Int)):Nat→Int→Option (Int)
 | 0,_=>none
 | m1+1,z8 =>
  cond (decide (z8<(p1.length:Int)))
   (q05 (q11 p1 z8) fun x11 =>
   cond (decide (z8 ≥ (p2.length:Int)))
    (some 1)
    (q05 (q11 p2 z8) fun x14 =>
    q05 (f2 x11 x14) fun r16 =>
    cond (r16 != 0)
     (some r16)
     ((q0g p1 p2 f2 m1) (IntKind.i64.wrap (z8+1)))))
   (q0v p1 p2)
def q17 (f2:q0m→q0m→Option (Int)) (n:Nat) (p1:List q0m) (p2:List q0m):Option (Int) :=
 q0g p1 p2 f2 n 0
theorem q6m (f2:q0m→q0m→Option (Int)) (hf2:∀ (a0:q0m) (a1:q0m) (r:Int),f2 a0 a1=some r→EvU Tryz.prog 55 [.agg (q08 a0),.agg (q08 a1)] ⟨[],0⟩ (fun u _=>u = .int .i64 r∧Bel 0 u)) (n:Nat) (p1:List q0m) (p2:List q0m) (r:Int) (hF:q17 f2 n p1 p2=some r):EvU Tryz.prog 54 [.isl false (List.map q08 p1),.isl false (List.map q08 p2),.fn (.func 55) [] []] ⟨[],0⟩ (fun u _=>u = .int .i64 r∧Bel 0 u):=by
 unfold q17 at hF
 have hf2S:∀ (a0:q0m) (a1:q0m) (r:Int),f2 a0 a1=some r→∀ σ,EvU Tryz.prog 55 [.agg (q08 a0),.agg (q08 a1)] σ (fun u σ'=>u = .i6 r∧σ'=σ):=fun a0 a1 r h σ=>z4i (hf2 a0 a1 r h) σ
 refine bg3 39 fn54 ?_
 refine go ?_
 refine gS (l':=[(0,_),(1,_),(2,_),(11,_),(12,_),(13,_)]) ?_
 refine z44 (fun m tm σ=>∃ z8:Int,q0g p1 p2 f2 m z8=some r∧tm=fr 39 [(0,.iM q08 p1),(1,.iM q08 p2),(2,.fn (.func 55) [] []),(11,.iM q08 p1),(12,.i6 (p1.length:Int)),(13,.i6 z8)]∧σ=⟨[],0⟩) (fun tm σ=>q0v p1 p2=some r∧tm=fr 39 [(0,.iM q08 p1),(1,.iM q08 p2)]∧σ=⟨[],0⟩) n ⟨0,hF,rfl,rfl⟩ ?_ ?_
 rintro _ _ ⟨hF,rfl,rfl⟩
 unfold q0v at hF
 refine go ?_
 refine cF hF (fun h9 hF=>?_) (fun h9 hF=>?_)
 exact gx hF
 exact gx hF
 rintro (_|m1) _ _ ⟨z8,hF,rfl,rfl⟩
 cases hF
 unfold q0g at hF
 refine go ?_
 refine cF hF (fun h10 hF=>?_) (fun h10 hF=>?_)
 refine go ?_
 refine WPU.block ?_
 obtain ⟨x11,h12,hF⟩:=q00 hF
 refine go ?_
 refine RS.ix h12 ?_
 refine go ?_
 refine cF hF (fun h13 hF=>?_) (fun h13 hF=>?_)
 exact gx hF
 obtain ⟨x14,h15,hF⟩:=q00 hF
 refine go ?_
 refine RS.ix h15 ?_
 obtain ⟨r16,h17,hF⟩:=q00 hF
 refine go ?_
 refine RS.cl rfl (hf2S x11 x14 r16 h17 _) fn55 ?_
 refine go ?_
 refine cF hF (fun h18 hF=>?_) (fun h18 hF=>?_)
 exact gx hF
 refine go ?_
 exact lC ⟨_,hF,rfl,rfl⟩
 refine go ?_
 exact xC ⟨hF,rfl,rfl⟩
def q21 (n:Nat) (p1:q0m) (p2:q0m):Option (Int) :=
 q05 (q1p n p1.Feat p2.Feat) fun r3 =>
 q05 (q1p n p1.To p2.To) fun r5 =>
 q05 (q7x n ([r3,r5])) fun r7 =>
 some r7
theorem qed (n:Nat) (p1:q0m) (p2:q0m) (r:Int) (hF:q21 n p1 p2=some r):EvU Tryz.prog 55 [.agg (q08 p1),.agg (q08 p2)] ⟨[],0⟩ (fun u _=>u = .int .i64 r∧Bel 0 u):=by
 unfold q21 at hF
 refine bg2 17 fn55 ?_
 obtain ⟨r3,h4,hF⟩:=q00 hF
 obtain ⟨r5,h6,hF⟩:=q00 hF
 obtain ⟨r7,h8,hF⟩:=q00 hF
 refine go ?_
 refine z48 Tryz.tb_ok [] (by kernel_rfl) ?_
 refine gd ?_
 refine z4a rfl (fun s=>pC (q45 n p1.Feat p2.Feat r3 h4) s) fn29 ?_
 refine gd ?_
 refine z4a rfl (fun s=>pC (q45 n p1.To p2.To r5 h6) s) fn29 ?_
 refine RD.g ?_
 refine RD.call (u:=.i6 r7) (args:=[.sl 2 0 2 2]) rfl (q12 rfl rfl fn53 hb53 rfl rfl) (vw (qir n ([r3,r5]) r7 h8) (z4b 2 1)) rfl rfl ?_
 refine gd ?_
 refine RD.done ⟨by kernel_rfl,trivial,?_⟩
 exact gx hF
def q2n (n:Nat) (p1:q0d) (p2:q0d):Option (Int) :=
 q05 (q1p n p1.Typex p2.Typex) fun r3 =>
 q05 (q1p n (p1.Arcs.length:Int) (p2.Arcs.length:Int)) fun r5 =>
 q05 (q7x n ([r3,r5])) fun r7 =>
 cond (r7 != 0)
  (some r7)
  (q05 (q17 (q21 n) n p1.Arcs p2.Arcs) fun r10 =>
  some r10)
theorem qfn (n:Nat) (p1:q0d) (p2:q0d) (r:Int) (hF:q2n n p1 p2=some r):EvU Tryz.prog 31 [.agg (q01 p1),.agg (q01 p2)] ⟨[],0⟩ (fun u _=>u = .int .i64 r∧Bel 0 u):=by
 unfold q2n at hF
 refine bg2 28 fn31 ?_
 obtain ⟨r3,h4,hF⟩:=q00 hF
 obtain ⟨r5,h6,hF⟩:=q00 hF
 obtain ⟨r7,h8,hF⟩:=q00 hF
 refine go ?_
 refine z48 Tryz.tb_ok [] (by kernel_rfl) ?_
 refine gd ?_
 refine z4a rfl (fun s=>pC (q45 n p1.Typex p2.Typex r3 h4) s) fn29 ?_
 refine gd ?_
 refine z4a rfl (fun s=>pC (q45 n (p1.Arcs.length:Int) (p2.Arcs.length:Int) r5 h6) s) fn29 ?_
 refine RD.g ?_
 refine RD.call (u:=.i6 r7) (args:=[.sl 2 0 2 2]) rfl (q12 rfl rfl fn53 hb53 rfl rfl) (vw (qir n ([r3,r5]) r7 h8) (z4b 2 1)) rfl rfl ?_
 refine gd ?_
 refine RD.done ⟨by kernel_rfl,trivial,?_⟩
 refine go ?_
 refine cF hF (fun h9 hF=>?_) (fun h9 hF=>?_)
 exact gx hF
 obtain ⟨r10,h11,hF⟩:=q00 hF
 refine go ?_
 refine RS.cl rfl (pC (q6m (q21 n) (qed n) n p1.Arcs p2.Arcs r10 h11) _) fn54 ?_
 exact gx hF
def q6r (n:Nat) (p1:GFS) (p2:GFS):Option (Int) :=
 q05 (q1p n (p1.Nodes.length:Int) (p2.Nodes.length:Int)) fun r3 =>
 cond (r3 != 0)
  (some r3)
  (q05 (q19 (q2n n) n p1.Nodes p2.Nodes) fun r6 =>
  some r6)
theorem qen (n:Nat) (p1:GFS) (p2:GFS) (r:Int) (hF:q6r n p1 p2=some r):EvU Tryz.prog 18 [.agg [.isl false (List.map q01 p1.Nodes)],.agg [.isl false (List.map q01 p2.Nodes)]] ⟨[],0⟩ (fun u _=>u = .int .i64 r∧Bel 0 u):=by
 unfold q6r at hF
 refine bg2 21 fn18 ?_
 obtain ⟨r3,h4,hF⟩:=q00 hF
 refine go ?_
 refine RS.cl rfl (pC (q45 n (p1.Nodes.length:Int) (p2.Nodes.length:Int) r3 h4) _) fn29 ?_
 refine go ?_
 refine cF hF (fun h5 hF=>?_) (fun h5 hF=>?_)
 exact gx hF
 obtain ⟨r6,h7,hF⟩:=q00 hF
 refine go ?_
 refine RS.cl rfl (pC (q73 (q2n n) (qfn n) n p1.Nodes p2.Nodes r6 h7) _) fn30 ?_
 exact gx hF
def q7s (z6:Int) (rc1:Int→(List Int)→Option ((List Int))) (l28:List Int):Option ((List Int)) :=
 rc1 (IntKind.i64.wrap (z6+1)) l28
def q4g (z6:Int) (rc1:Int→(List Int)→Option ((List Int))) (x12:q0d):Nat→Int→(List Int)→Option ((List Int))
 | 0,_,_=>none
 | m2+1,z25,l26 =>
  cond (decide (z25<(x12.Arcs.length:Int)))
   (q05 (q11 x12.Arcs z25) fun x31 =>
   q05 (q11 x12.Arcs z25) fun x33 =>
   q1m ((l26.length+2)*8≤140737488355328∧l26.length+2≤140737488355328) (
   (q4g z6 rc1 x12 m2) (IntKind.i64.wrap (z25+1)) (l26++[x31.Feat,x33.To])))
   (q7s z6 rc1 l26)
def q7r  (l9:List Int):Option ((List Int)) :=
 some l9
def q2b (p1:GFS) (n:Nat):Nat→Int→(List Int)→Option ((List Int))
 | 0,_,_=>none
 | m1+1,z6,l7 =>
  cond (decide (z6<(p1.Nodes.length:Int)))
   (q05 (q11 p1.Nodes z6) fun x12 =>
   q05 (q11 p1.Nodes z6) fun x14 =>
   q1m ((l7.length+2)*8≤140737488355328∧l7.length+2≤140737488355328) (
   q4g z6 (q2b p1 n m1) x12 n 0 (l7++[x14.Typex,(x12.Arcs.length:Int)])))
   (q7r l7)
def q72 (n:Nat) (p1:GFS):Option ((List Int)) :=
 q2b p1 n n 0 ([(p1.Nodes.length:Int)])
theorem qex (n:Nat) (p1:GFS) (r:(List Int)) (hF:q72 n p1=some r):EvU Tryz.prog 51 [.agg [.isl false (List.map q01 p1.Nodes)]] ⟨[],0⟩ (fun u σ'=>∃ t,u = .vl 1 t 0 r.length∧σ'=⟨[(1,.vec (List.map (cI .i64) r).flatten 3 1 t)],1+1⟩):=by
 unfold q72 at hF
 refine bg1 55 fn51 ?_
 refine go ?_
 refine RS.step (u:=.vl 1 0 0 ([(p1.Nodes.length:Int)].length)) (σ':=⟨[(1,.vec (List.map (cI .i64) ([(p1.Nodes.length:Int)])).flatten 3 1 0),(0,.row [.iM q01 p1.Nodes] 25)],2⟩) rfl (qhv.bslv (cs:=(List.map (cI .i64) [(p1.Nodes.length:Int)]).flatten) Tryz.tb_ok rfl un59.h if3.h rfl rfl rfl rfl rfl rfl rfl rfl) rfl rfl ?_
 refine go ?_
 refine gS (l':=[(1,_),(3,_),(4,_)]) ?_
 refine z44 (fun m tm σ=>∃ z6:Int,∃ l7:List Int,∃ t8:Nat,q2b p1 n m z6 l7=some r∧tm=fr 55 [(1,.ptr 0 0 0),(3,.vl 1 t8 0 l7.length),(4,.i6 z6)]∧σ=⟨[(1,.vec (List.map (cI .i64) l7).flatten 3 1 t8),(0,.row [.iM q01 p1.Nodes] 25)],2⟩) (fun tm σ=>∃ l9:List Int,∃ t10:Nat,q7r l9=some r∧tm=fr 55 [(3,.vl 1 t10 0 l9.length)]∧σ=⟨[(1,.vec (List.map (cI .i64) l9).flatten 3 1 t10),(0,.row [.iM q01 p1.Nodes] 25)],2⟩) n ⟨0,[(p1.Nodes.length:Int)],0,hF,rfl,rfl⟩ ?_ ?_
 rintro _ _ ⟨l9,t10,hF,rfl,rfl⟩
 unfold q7r at hF
 refine go ?_
 obtain rfl:=sI hF
 exact ⟨.inr rfl,[.vl 1 t10 0 l9.length],q4e rfl q3x,.vl 1 t10 0 l9.length,⟨[(1,.vec (List.map (cI .i64) l9).flatten 3 1 t10)],2⟩,NZ,Gh.trans (z4q (fun k=>Nat.beq k 1)) (z4p (n1:=2) [] rfl rfl NZ NL BUL.h BH.h),t10,rfl,rfl⟩
 rintro (_|m1) _ _ ⟨z6,l7,t8,hF,rfl,rfl⟩
 cases hF
 unfold q2b at hF
 refine go ?_
 refine cF hF (fun h11 hF=>?_) (fun h11 hF=>?_)
 refine go ?_
 refine WPU.block ?_
 obtain ⟨x12,h13,hF⟩:=q00 hF
 refine go ?_
 refine RS.ix h13 ?_
 obtain ⟨x14,h15,hF⟩:=q00 hF
 obtain ⟨h16,hF⟩:=q09 hF
 refine go ?_
 refine RS.ix h15 ?_
 refine go ?_
 refine RS.g ?_
 refine RS.q (u:=.vl 1 (t8+1) 0 ((l7++[x14.Typex,(x12.Arcs.length:Int)]).length)) (σ':=⟨[(2,.row [.i6 x14.Typex,.i6 (x12.Arcs.length:Int)] 3),(1,.vec (List.map (cI .i64) (l7++[x14.Typex,(x12.Arcs.length:Int)])).flatten 3 1 (t8+1)),(0,.row [.iM q01 p1.Nodes] 25)],3⟩) rfl (qet rfl rfl rfl rfl (qma (cI .i64) ([x14.Typex,(x12.Arcs.length:Int)]) un59.h un59.h if3.h rfl (q8f .i64) rfl (qrp (cI .i64) [x14.Typex,(x12.Arcs.length:Int)] rfl rfl rfl rfl) h16)) ?_
 refine go ?_
 refine gS (l':=[(1,_),(3,_),(4,_),(5,_),(6,_)]) ?_
 refine z44 (fun m tm σ=>∃ z25:Int,∃ l26:List Int,∃ t27:Nat,q4g z6 (q2b p1 n m1) x12 m z25 l26=some r∧tm=fr 55 [(1,.ptr 0 0 0),(3,.vl 1 t27 0 l26.length),(4,.i6 z6),(5,.iM q08 x12.Arcs),(6,.i6 z25)]∧σ=⟨[(2,.row [.i6 x14.Typex,.i6 (x12.Arcs.length:Int)] 3),(1,.vec (List.map (cI .i64) l26).flatten 3 1 t27),(0,.row [.iM q01 p1.Nodes] 25)],3⟩) (fun tm σ=>∃ l28:List Int,∃ t29:Nat,q7s z6 (q2b p1 n m1) l28=some r∧tm=fr 55 [(1,.ptr 0 0 0),(3,.vl 1 t29 0 l28.length),(4,.i6 z6)]∧σ=⟨[(2,.row [.i6 x14.Typex,.i6 (x12.Arcs.length:Int)] 3),(1,.vec (List.map (cI .i64) l28).flatten 3 1 t29),(0,.row [.iM q01 p1.Nodes] 25)],3⟩) n ⟨0,(l7++[x14.Typex,(x12.Arcs.length:Int)]),(t8+1),hF,rfl,rfl⟩ ?_ ?_
 rintro _ _ ⟨l28,t29,hF,rfl,rfl⟩
 unfold q7s at hF
 refine go ?_
 exact lC ⟨_,l28,t29,hF,rfl,rfl⟩
 rintro (_|m2) _ _ ⟨z25,l26,t27,hF,rfl,rfl⟩
 cases hF
 unfold q4g at hF
 refine go ?_
 refine cF hF (fun h30 hF=>?_) (fun h30 hF=>?_)
 refine go ?_
 refine WPU.block ?_
 obtain ⟨x31,h32,hF⟩:=q00 hF
 obtain ⟨x33,h34,hF⟩:=q00 hF
 obtain ⟨h35,hF⟩:=q09 hF
 refine go ?_
 refine z48 Tryz.tb_ok [(0,11)] (by kernel_rfl) ?_
 refine gd ?_
 refine RD.ix h32 ?_
 refine gd ?_
 refine RD.ix h34 ?_
 refine gd ?_
 refine RD.g ?_
 refine RD.act (u:=.vl 1 (t27+1) 0 ((l26++[x31.Feat,x33.To]).length)) (σ':=⟨[(3,.row [.i6 x31.Feat,.i6 x33.To] 3),(2,.row [.i6 x14.Typex,.i6 (x12.Arcs.length:Int)] 3),(1,.vec (List.map (cI .i64) (l26++[x31.Feat,x33.To])).flatten 3 1 (t27+1)),(0,.row [.iM q01 p1.Nodes] 25)],4⟩) rfl (qet rfl rfl rfl rfl (qma (cI .i64) ([x31.Feat,x33.To]) un59.h un59.h if3.h rfl (q8f .i64) rfl (qrp (cI .i64) [x31.Feat,x33.To] rfl rfl rfl rfl) h35)) rfl rfl ?_
 refine gd ?_
 refine RD.done ⟨by kernel_rfl,⟨q60 rfl,trivial⟩,?_⟩
 refine go ?_
 exact lC ⟨_,(l26++[x31.Feat,x33.To]),(t27+1),hF,rfl,rfl⟩
 refine go ?_
 exact xC ⟨l26,t27,hF,rfl,rfl⟩
 refine go ?_
 exact xC ⟨l7,t8,hF,rfl,rfl⟩
def q5o   : Option (Int) :=
 some 0
def q4f (r3:List Int) (r5:List Int):Nat→Int→Option (Int)
 | 0,_=>none
 | m1+1,z14 =>
  q05 (cond (decide (z14<(r3.length:Int)))
   (some (decide (z14<(r5.length:Int))))
   (some false)) fun b16 =>
  cond b16
   (q05 (q11 r3 z14) fun x19 =>
   q05 (q11 r5 z14) fun x21 =>
   cond (decide (x19<x21))
    (some (-1))
    (q05 (q11 r3 z14) fun x24 =>
    q05 (q11 r5 z14) fun x26 =>
    cond (decide (x24 > x26))
     (some 1)
     ((q4f r3 r5 m1) (IntKind.i64.wrap (z14+1)))))
   (q5o)
def q8u (n:Nat) (p1:GFS) (p2:GFS):Option (Int) :=
 q05 (q72 n p1) fun r3 =>
 q05 (q72 n p2) fun r5 =>
 q4f r3 r5 n 0
theorem qlb (n:Nat) (p1:GFS) (p2:GFS) (r:Int) (hF:q8u n p1 p2=some r):EvU Tryz.prog 27 [.agg [.isl false (List.map q01 p1.Nodes)],.agg [.isl false (List.map q01 p2.Nodes)]] ⟨[],0⟩ (fun u _=>u = .int .i64 r∧Bel 0 u):=by
 unfold q8u at hF
 refine bg2 42 fn27 ?_
 obtain ⟨r3,h4,hF⟩:=q00 hF
 refine go ?_
 refine z4d (R:=fun u σ'=>u = .vl 3 0 0 r3.length∧σ'=⟨[(3,.vec (List.map (cI .i64) r3).flatten 3 1 0),(1,.row [.iM q01 p2.Nodes] 25),(0,.row [.iM q01 p1.Nodes] 25)],4⟩) (args:=[.agg [.iM q01 p1.Nodes]]) rfl (q12 rfl rfl fn51 hb51 rfl rfl) (z4o (cI .i64) (qex n p1 r3 h4) _ 3 rfl) rfl rfl ?_
 rintro _ _ ⟨rfl,rfl⟩
 obtain ⟨r5,h6,hF⟩:=q00 hF
 refine go ?_
 refine z4d (R:=fun u σ'=>u = .vl 5 0 0 r5.length∧σ'=⟨[(5,.vec (List.map (cI .i64) r5).flatten 3 1 0),(3,.vec (List.map (cI .i64) r3).flatten 3 1 0),(1,.row [.iM q01 p2.Nodes] 25),(0,.row [.iM q01 p1.Nodes] 25)],6⟩) (args:=[.agg [.iM q01 p2.Nodes]]) rfl (q12 rfl rfl fn51 hb51 rfl rfl) (z4o (cI .i64) (qex n p2 r5 h6) _ 5 rfl) rfl rfl ?_
 rintro _ _ ⟨rfl,rfl⟩
 refine go ?_
 refine gS (l':=[(5,_),(6,_),(7,_)]) ?_
 refine z44 (fun m tm σ=>∃ z14:Int,q4f r3 r5 m z14=some r∧tm=fr 42 [(5,.vl 3 0 0 r3.length),(6,.vl 5 0 0 r5.length),(7,.i6 z14)]∧σ=⟨[(5,.vec (List.map (cI .i64) r5).flatten 3 1 0),(3,.vec (List.map (cI .i64) r3).flatten 3 1 0),(1,.row [.iM q01 p2.Nodes] 25),(0,.row [.iM q01 p1.Nodes] 25)],6⟩) (fun tm σ=>q5o=some r∧tm=fr 42 []∧σ=⟨[(5,.vec (List.map (cI .i64) r5).flatten 3 1 0),(3,.vec (List.map (cI .i64) r3).flatten 3 1 0),(1,.row [.iM q01 p2.Nodes] 25),(0,.row [.iM q01 p1.Nodes] 25)],6⟩) n ⟨0,hF,rfl,rfl⟩ ?_ ?_
 rintro _ _ ⟨hF,rfl,rfl⟩
 unfold q5o at hF
 exact gx hF
 rintro (_|m1) _ _ ⟨z14,hF,rfl,rfl⟩
 cases hF
 unfold q4f at hF
 obtain ⟨b16,h17,hF⟩:=q00 hF
 refine gn ?_
 refine z47 (fun tm σ=>tm=fr 42 [(5,.vl 3 0 0 r3.length),(6,.vl 5 0 0 r5.length),(7,.i6 z14),(21,.bool b16)]∧σ=⟨[(5,.vec (List.map (cI .i64) r5).flatten 3 1 0),(3,.vec (List.map (cI .i64) r3).flatten 3 1 0),(1,.row [.iM q01 p2.Nodes] 25),(0,.row [.iM q01 p1.Nodes] 25)],6⟩) ?_ ?_
 rintro _ _ ⟨rfl,rfl⟩
 refine go ?_
 refine cF hF (fun h18 hF=>?_) (fun h18 hF=>?_)
 refine go ?_
 refine WPU.block ?_
 obtain ⟨x19,h20,hF⟩:=q00 hF
 obtain ⟨x21,h22,hF⟩:=q00 hF
 refine go ?_
 refine z48 Tryz.tb_ok [] (by kernel_rfl) ?_
 refine gd ?_
 refine RD.q rfl (q4o rfl rfl (qal (cI .i64) un59.h (q0q if3.h) (by decide) (q8f .i64) (vo rfl) h20)) ?_
 refine RD.q rfl (q77 (cI .i64) (fun x=>.i6 x) un3.h rfl (fun _=>rfl) rfl rfl h20) ?_
 refine gd ?_
 refine RD.q rfl (q4o rfl rfl (qal (cI .i64) un59.h (q0q if3.h) (by decide) (q8f .i64) (vo rfl) h22)) ?_
 refine RD.q rfl (q77 (cI .i64) (fun x=>.i6 x) un3.h rfl (fun _=>rfl) rfl rfl h22) ?_
 refine gd ?_
 refine RD.done ⟨by kernel_rfl,trivial,?_⟩
 refine go ?_
 refine cF hF (fun h23 hF=>?_) (fun h23 hF=>?_)
 exact gx hF
 obtain ⟨x24,h25,hF⟩:=q00 hF
 obtain ⟨x26,h27,hF⟩:=q00 hF
 refine go ?_
 refine z48 Tryz.tb_ok [] (by kernel_rfl) ?_
 refine gd ?_
 refine RD.q rfl (q4o rfl rfl (qal (cI .i64) un59.h (q0q if3.h) (by decide) (q8f .i64) (vo rfl) h25)) ?_
 refine RD.q rfl (q77 (cI .i64) (fun x=>.i6 x) un3.h rfl (fun _=>rfl) rfl rfl h25) ?_
 refine gd ?_
 refine RD.q rfl (q4o rfl rfl (qal (cI .i64) un59.h (q0q if3.h) (by decide) (q8f .i64) (vo rfl) h27)) ?_
 refine RD.q rfl (q77 (cI .i64) (fun x=>.i6 x) un3.h rfl (fun _=>rfl) rfl rfl h27) ?_
 refine gd ?_
 refine RD.done ⟨by kernel_rfl,trivial,?_⟩
 refine go ?_
 refine cF hF (fun h28 hF=>?_) (fun h28 hF=>?_)
 exact gx hF
 refine go ?_
 exact lC ⟨_,hF,rfl,rfl⟩
 refine go ?_
 exact xC ⟨hF,rfl,rfl⟩
 rcases gB h17 with ⟨h15,h17⟩ | ⟨h15,h17⟩
 exact gy h17
 exact gy h17
def q97 (n:Nat) (p1:GFS) (p2:GFS):Option (Bool) :=
 q05 (q6r n p1 p2) fun r3 =>
 some (r3 == 0)
theorem qdh (n:Nat) (p1:GFS) (p2:GFS) (r:Bool) (hF:q97 n p1 p2=some r):EvU Tryz.prog 17 [.agg [.isl false (List.map q01 p1.Nodes)],.agg [.isl false (List.map q01 p2.Nodes)]] ⟨[],0⟩ (fun u _=>u = .bool r∧Bel 0 u):=by
 unfold q97 at hF
 refine bg2 9 fn17 ?_
 obtain ⟨r3,h4,hF⟩:=q00 hF
 refine go ?_
 refine RS.cl rfl (pC (qen n p1 p2 r3 h4) _) fn18 ?_
 exact gx hF
def qf9 (n:Nat) (p1:Int):Option (GFS) :=
 some (GFS.mk ([(q0d.mk p1 [])]))
theorem qce (n:Nat) (p1:Int) (r:GFS) (hF:qf9 n p1=some r):EvU Tryz.prog 16 [.int .i64 p1] ⟨[],0⟩ (fun u _=>u = .agg [.isl false (List.map q01 r.Nodes)]∧Bel 0 u):=by
 unfold qf9 at hF
 refine bg1 7 fn16 ?_
 refine go ?_
 refine RS.g ?_
 refine go ?_
 obtain rfl:=sI hF
 exact ⟨.inr rfl,[.agg [.sl 1 0 1 1]],qfq (q6a un25.h rfl (q0q if25.h) rfl rfl rfl) (q3x),.agg [.iM q01 ([(q0d.mk p1 [])])],⟨[],0⟩,Nat.le_refl _,Gh.trans (Gh.trans (Gh.rowC 1) (z4b 1 2)) (z4j (.agg [.iM q01 ([(q0d.mk p1 [])])]) rfl),rfl,BU.h⟩
def q62  (w13:q7l Int Bool):Option (Int) :=
 some 0
def q3h (p1:q0d) (p2:Int):Nat→Int→(q7l Int Bool)→Option (Int)
 | 0,_,_=>none
 | m1+1,z11,w12 =>
  cond (decide (z11<(p1.Arcs.length:Int)))
   (q05 (q11 p1.Arcs z11) fun x15 =>
   q05 (cond (decide (x15.Feat<0))
    (some true)
    (cond (decide (x15.To<0))
     (some true)
     (some (decide (x15.To ≥ p2))))) fun b19 =>
   cond b19
    (some 2)
    (cond ((qms (fun a b=>a == b) w12 x15.Feat).getD false)
     (some 4)
     ((q3h p1 p2 m1) (IntKind.i64.wrap (z11+1)) (qmt (fun a b=>a == b) w12 x15.Feat true))))
   (q62 w12)
def q69 (n:Nat) (p1:q0d) (p2:Int):Option (Int) :=
 cond (decide (p1.Typex<0))
  (some 2)
  (q3h p1 p2 n 0 (qlt:q7l Int Bool))
theorem qi9 (n:Nat) (p1:q0d) (p2:Int) (r:Int) (hF:q69 n p1 p2=some r):EvU Tryz.prog 25 [.agg (q01 p1),.int .i64 p2] ⟨[],0⟩ (fun u _=>u = .int .i64 r∧Bel 0 u):=by
 unfold q69 at hF
 refine bg2 41 fn25 ?_
 refine go ?_
 refine cF hF (fun h3 hF=>?_) (fun h3 hF=>?_)
 exact gx hF
 refine go ?_
 refine RS.q (u:=.map 1) (σ':=⟨[(1,.map (List.map (mE (fun x=>.i6 x) (fun x=>.bool x)) (qlt:q7l Int Bool).es) (qlt:q7l Int Bool).cl),(0,.row (q01 p1) 40)],2⟩) rfl (qxh) ?_
 refine go ?_
 refine gS (l':=[(1,_),(5,_),(13,_),(14,_),(15,_)]) ?_
 refine z44 (fun m tm σ=>∃ z11:Int,∃ w12:q7l Int Bool,q3h p1 p2 m z11 w12=some r∧tm=fr 41 [(1,.i6 p2),(5,.map 1),(13,.iM q08 p1.Arcs),(14,.i6 (p1.Arcs.length:Int)),(15,.i6 z11)]∧σ=⟨[(1,.map (List.map (mE (fun x=>.i6 x) (fun x=>.bool x)) w12.es) w12.cl),(0,.row (q01 p1) 40)],2⟩) (fun tm σ=>∃ w13:q7l Int Bool,q62 w13=some r∧tm=fr 41 []∧σ=⟨[(1,.map (List.map (mE (fun x=>.i6 x) (fun x=>.bool x)) w13.es) w13.cl),(0,.row (q01 p1) 40)],2⟩) n ⟨0,(qlt:q7l Int Bool),hF,rfl,rfl⟩ ?_ ?_
 rintro _ _ ⟨w13,hF,rfl,rfl⟩
 unfold q62 at hF
 exact gx hF
 rintro (_|m1) _ _ ⟨z11,w12,hF,rfl,rfl⟩
 cases hF
 unfold q3h at hF
 refine go ?_
 refine cF hF (fun h14 hF=>?_) (fun h14 hF=>?_)
 refine go ?_
 refine WPU.block ?_
 obtain ⟨x15,h16,hF⟩:=q00 hF
 refine go ?_
 refine RS.ix h16 ?_
 obtain ⟨b19,h20,hF⟩:=q00 hF
 refine gn ?_
 refine z47 (fun tm σ=>tm=fr 41 [(1,.i6 p2),(5,.map 1),(7,.ptr 2 0 0),(13,.iM q08 p1.Arcs),(14,.i6 (p1.Arcs.length:Int)),(15,.i6 z11),(32,.bool b19)]∧σ=⟨[(2,.row (q08 x15) 72),(1,.map (List.map (mE (fun x=>.i6 x) (fun x=>.bool x)) w12.es) w12.cl),(0,.row (q01 p1) 40)],3⟩) ?_ ?_
 rintro _ _ ⟨rfl,rfl⟩
 refine go ?_
 refine cF hF (fun h21 hF=>?_) (fun h21 hF=>?_)
 exact gx hF
 refine go ?_
 refine RS.q (u:=.bool ((qms (fun a b=>a == b) w12 x15.Feat).getD false)) rfl (qxg (kU:=(fun x=>.i6 x)) (vU:=(fun x=>.bool x)) (m:=w12) (k:=x15.Feat) (zv:=false) (qku un3.h) un100.h rfl rfl rfl if4.h rfl) ?_
 refine go ?_
 refine cF hF (fun h22 hF=>?_) (fun h22 hF=>?_)
 exact gx hF
 refine go ?_
 refine RS.opn (u:=.junk) (σ':=⟨[(2,.row (q08 x15) 72),(1,.map (List.map (mE (fun x=>.i6 x) (fun x=>.bool x)) (qmt (fun a b=>a == b) w12 x15.Feat true).es) (qmt (fun a b=>a == b) w12 x15.Feat true).cl),(0,.row (q01 p1) 40)],3⟩) rfl (z1q (kU:=(fun x=>.i6 x)) (vU:=(fun x=>.bool x)) (m:=w12) (k:=x15.Feat) (v:=true) (qku un3.h) un100.h rfl rfl rfl rfl rfl) rfl ?_
 refine go ?_
 exact lC ⟨_,(qmt (fun a b=>a == b) w12 x15.Feat true),hF,rfl,rfl⟩
 rcases gB h20 with ⟨h17,h20⟩ | ⟨h17,h20⟩
 exact gy h20
 rcases gB h20 with ⟨h18,h20⟩ | ⟨h18,h20⟩
 exact gy h20
 exact gy h20
 refine go ?_
 exact xC ⟨w12,hF,rfl,rfl⟩
def q9l (p1:GFS) (n:Nat)  : Option (GFS×Int) :=
 q05 (q55 n p1 0) fun r9 =>
 some (r9,0)
def q5r (p1:GFS) (n:Nat):Nat→Int→Option (GFS×Int)
 | 0,_=>none
 | m1+1,z8 =>
  cond (decide (z8<(p1.Nodes.length:Int)))
   (q05 (q11 p1.Nodes z8) fun x12 =>
   q05 (q69 n x12 (p1.Nodes.length:Int)) fun r14 =>
   cond (r14 != 0)
    (some ((GFS.mk []),r14))
    ((q5r p1 n m1) (IntKind.i64.wrap (z8+1))))
   (q9l p1 n)
def q68 (n:Nat) (p1:GFS):Option (GFS×Int) :=
 cond ((p1.Nodes.length:Int) == 0)
  (some ((GFS.mk []),1))
  (cond (decide ((p1.Nodes.length:Int) > 4096))
   (some ((GFS.mk []),7))
   (q5r p1 n n 0))
theorem qb8 (n:Nat) (p1:GFS) (r:GFS×Int) (hF:q68 n p1=some r):EvU Tryz.prog 10 [.agg [.isl false (List.map q01 p1.Nodes)]] ⟨[],0⟩ (fun u _=>u = .tup [.agg [.isl false (List.map q01 r.1.Nodes)],.int .i64 r.2]∧Bel 0 u):=by
 unfold q68 at hF
 refine bg1 36 fn10 ?_
 refine go ?_
 refine cF hF (fun h2 hF=>?_) (fun h2 hF=>?_)
 refine go ?_
 obtain rfl:=sI hF
 exact rT (us:=[.agg [.nils],.i6 1]) (u:=.tup [.agg [.isl false []],.i6 1]) (qfq (q6a un25.h rfl (q0q if25.h) rfl rfl rfl) (q4e rfl (q3x))) wR
 refine go ?_
 refine cF hF (fun h3 hF=>?_) (fun h3 hF=>?_)
 refine go ?_
 obtain rfl:=sI hF
 exact rT (us:=[.agg [.nils],.i6 7]) (u:=.tup [.agg [.isl false []],.i6 7]) (qfq (q6a un25.h rfl (q0q if25.h) rfl rfl rfl) (q4e rfl (q3x))) wR
 refine go ?_
 refine gS (l':=[(1,_),(2,_),(18,_),(19,_),(20,_)]) ?_
 refine z44 (fun m tm σ=>∃ z8:Int,q5r p1 n m z8=some r∧tm=fr 36 [(1,.ptr 0 0 0),(2,.ptr 1 0 0),(18,.iM q01 p1.Nodes),(19,.i6 (p1.Nodes.length:Int)),(20,.i6 z8)]∧σ=⟨[(1,.row [.nils] 25),(0,.row [.iM q01 p1.Nodes] 25)],2⟩) (fun tm σ=>q9l p1 n=some r∧tm=fr 36 [(1,.ptr 0 0 0),(2,.ptr 1 0 0)]∧σ=⟨[(1,.row [.nils] 25),(0,.row [.iM q01 p1.Nodes] 25)],2⟩) n ⟨0,hF,rfl,rfl⟩ ?_ ?_
 rintro _ _ ⟨hF,rfl,rfl⟩
 unfold q9l at hF
 obtain ⟨r9,h10,hF⟩:=q00 hF
 refine go ?_
 refine RS.cl rfl (pC (qd1 n p1 0 r9 h10) _) fn26 ?_
 refine go ?_
 obtain rfl:=sI hF
 exact rT (qfq (q6a un25.h rfl (q0q if25.h) rfl rfl rfl) (q4e rfl (q3x))) (z4j _ rfl)
 rintro (_|m1) _ _ ⟨z8,hF,rfl,rfl⟩
 cases hF
 unfold q5r at hF
 refine go ?_
 refine cF hF (fun h11 hF=>?_) (fun h11 hF=>?_)
 refine go ?_
 refine WPU.block ?_
 obtain ⟨x12,h13,hF⟩:=q00 hF
 refine go ?_
 refine RS.ix h13 ?_
 obtain ⟨r14,h15,hF⟩:=q00 hF
 refine go ?_
 refine RS.cl rfl (pC (qi9 n x12 (p1.Nodes.length:Int) r14 h15) _) fn25 ?_
 refine go ?_
 refine cF hF (fun h16 hF=>?_) (fun h16 hF=>?_)
 refine go ?_
 obtain rfl:=sI hF
 exact rT (us:=[.agg [.nils],.i6 r14]) (u:=.tup [.agg [.isl false []],.i6 r14]) (qfq (q6a un25.h rfl (q0q if25.h) rfl rfl rfl) (q4e rfl (q3x))) wR
 refine go ?_
 exact lC ⟨_,hF,rfl,rfl⟩
 refine go ?_
 exact xC ⟨hF,rfl,rfl⟩
def q5i (n:Nat) (p1:GFS) (p2:GFS):Option (Bool) :=
 q05 (q8u n p1 p2) fun r3 =>
 some (r3 == 0)
theorem q1x (n:Nat) (p1:GFS) (p2:GFS) (r:Bool) (hF:q5i n p1 p2=some r):EvU Tryz.prog 13 [.agg [.isl false (List.map q01 p1.Nodes)],.agg [.isl false (List.map q01 p2.Nodes)]] ⟨[],0⟩ (fun u _=>u = .bool r∧Bel 0 u):=by
 unfold q5i at hF
 refine bg2 9 fn13 ?_
 obtain ⟨r3,h4,hF⟩:=q00 hF
 refine go ?_
 refine RS.cl rfl (pC (qlb n p1 p2 r3 h4) _) fn27 ?_
 exact gx hF
def qae   : Option (Bool) :=
 some true
def q5x (p1:GFS):Nat→Int→Option (Bool)
 | 0,_=>none
 | m1+1,z5 =>
  cond (decide (z5<(p1.Nodes.length:Int)))
   (q05 (q11 p1.Nodes z5) fun x7 =>
   cond (decide ((x7.Arcs.length:Int) > 12))
    (some false)
    ((q5x p1 m1) (IntKind.i64.wrap (z5+1))))
   (qae)
def qca (n:Nat) (p1:GFS):Option (Bool) :=
 cond (decide ((p1.Nodes.length:Int) > 12))
  (some false)
  (q5x p1 n 0)
theorem qo7 (n:Nat) (p1:GFS) (r:Bool) (hF:qca n p1=some r):EvU Tryz.prog 4 [.agg [.isl false (List.map q01 p1.Nodes)]] ⟨[],0⟩ (fun u _=>u = .bool r∧Bel 0 u):=by
 unfold qca at hF
 refine bg1 23 fn4 ?_
 refine go ?_
 refine cF hF (fun h2 hF=>?_) (fun h2 hF=>?_)
 exact gx hF
 refine go ?_
 refine gS (l':=[(1,_),(3,_)]) ?_
 refine z44 (fun m tm σ=>∃ z5:Int,q5x p1 m z5=some r∧tm=fr 23 [(1,.ptr 0 0 0),(3,.i6 z5)]∧σ=⟨[(0,.row [.iM q01 p1.Nodes] 25)],1⟩) (fun tm σ=>qae=some r∧tm=fr 23 []∧σ=⟨[(0,.row [.iM q01 p1.Nodes] 25)],1⟩) n ⟨0,hF,rfl,rfl⟩ ?_ ?_
 rintro _ _ ⟨hF,rfl,rfl⟩
 unfold qae at hF
 exact gx hF
 rintro (_|m1) _ _ ⟨z5,hF,rfl,rfl⟩
 cases hF
 unfold q5x at hF
 refine go ?_
 refine cF hF (fun h6 hF=>?_) (fun h6 hF=>?_)
 refine go ?_
 refine WPU.block ?_
 obtain ⟨x7,h8,hF⟩:=q00 hF
 refine go ?_
 refine RS.ix h8 ?_
 refine go ?_
 refine cF hF (fun h9 hF=>?_) (fun h9 hF=>?_)
 exact gx hF
 refine go ?_
 exact lC ⟨_,hF,rfl,rfl⟩
 refine go ?_
 exact xC ⟨hF,rfl,rfl⟩
def qbn (z6:Int) (rc1:Int→Option (Int))  : Option (Int) :=
 rc1 (IntKind.i64.wrap (z6+1))
def q70 (p1:List q0m) (z6:Int) (rc1:Int→Option (Int)):Nat→Int→Option (Int)
 | 0,_=>none
 | m2+1,z23 =>
  cond (decide (z23<z6))
   (q05 (q11 p1 z23) fun x25 =>
   q05 (q11 p1 z6) fun x27 =>
   cond (x25.Feat == x27.Feat)
    (some 4)
    ((q70 p1 z6 rc1 m2) (IntKind.i64.wrap (z23+1))))
   (qbn z6 rc1)
def qbm   : Option (Int) :=
 some 0
def q3w (p1:List q0m) (p2:Int) (n:Nat):Nat→Int→Option (Int)
 | 0,_=>none
 | m1+1,z6 =>
  cond (decide (z6<(p1.length:Int)))
   (q05 (q05 (q11 p1 z6) fun x8 =>
   cond (decide (x8.Feat<0))
    (some true)
    (q05 (q11 p1 z6) fun x11 =>
    cond (decide (x11.To<0))
     (some true)
     (q05 (q11 p1 z6) fun x14 =>
     some (decide (x14.To ≥ p2))))) fun b16 =>
   cond b16
    (some 2)
    (q70 p1 z6 (q3w p1 p2 n m1) n 0))
   (qbm)
def qff (n:Nat) (p1:List q0m) (p2:Int):Option (Int) :=
 q3w p1 p2 n n 0
theorem qq7 (n:Nat) (p1:List q0m) (p2:Int) (r:Int) (hF:qff n p1 p2=some r):EvU Tryz.prog 75 [.isl false (List.map q08 p1),.int .i64 p2] ⟨[],0⟩ (fun u _=>u = .int .i64 r∧Bel 0 u):=by
 unfold qff at hF
 refine bg2 52 fn75 ?_
 refine go ?_
 refine gS (l':=[(0,_),(1,_),(5,_)]) ?_
 refine z44 (fun m tm σ=>∃ z6:Int,q3w p1 p2 n m z6=some r∧tm=fr 52 [(0,.iM q08 p1),(1,.i6 p2),(5,.i6 z6)]∧σ=⟨[],0⟩) (fun tm σ=>qbm=some r∧tm=fr 52 []∧σ=⟨[],0⟩) n ⟨0,hF,rfl,rfl⟩ ?_ ?_
 rintro _ _ ⟨hF,rfl,rfl⟩
 unfold qbm at hF
 exact gx hF
 rintro (_|m1) _ _ ⟨z6,hF,rfl,rfl⟩
 cases hF
 unfold q3w at hF
 refine go ?_
 refine cF hF (fun h7 hF=>?_) (fun h7 hF=>?_)
 refine go ?_
 refine WPU.block ?_
 obtain ⟨b16,h17,hF⟩:=q00 hF
 refine gn ?_
 refine z47 (fun tm σ=>tm=fr 52 [(0,.iM q08 p1),(1,.i6 p2),(5,.i6 z6),(35,.bool b16)]∧σ=⟨[],0⟩) ?_ ?_
 rintro _ _ ⟨rfl,rfl⟩
 refine go ?_
 refine cF hF (fun h18 hF=>?_) (fun h18 hF=>?_)
 exact gx hF
 refine go ?_
 refine gS (l':=[(0,_),(1,_),(5,_),(6,_)]) ?_
 refine z44 (fun m tm σ=>∃ z23:Int,q70 p1 z6 (q3w p1 p2 n m1) m z23=some r∧tm=fr 52 [(0,.iM q08 p1),(1,.i6 p2),(5,.i6 z6),(6,.i6 z23)]∧σ=⟨[],0⟩) (fun tm σ=>qbn z6 (q3w p1 p2 n m1)=some r∧tm=fr 52 [(0,.iM q08 p1),(1,.i6 p2),(5,.i6 z6)]∧σ=⟨[],0⟩) n ⟨0,hF,rfl,rfl⟩ ?_ ?_
 rintro _ _ ⟨hF,rfl,rfl⟩
 unfold qbn at hF
 refine go ?_
 exact lC ⟨_,hF,rfl,rfl⟩
 rintro (_|m2) _ _ ⟨z23,hF,rfl,rfl⟩
 cases hF
 unfold q70 at hF
 refine go ?_
 refine cF hF (fun h24 hF=>?_) (fun h24 hF=>?_)
 refine go ?_
 refine WPU.block ?_
 obtain ⟨x25,h26,hF⟩:=q00 hF
 obtain ⟨x27,h28,hF⟩:=q00 hF
 refine go ?_
 refine z48 Tryz.tb_ok [] (by kernel_rfl) ?_
 refine gd ?_
 refine RD.ix h26 ?_
 refine gd ?_
 refine RD.ix h28 ?_
 refine gd ?_
 refine RD.done ⟨by kernel_rfl,trivial,?_⟩
 refine go ?_
 refine cF hF (fun h29 hF=>?_) (fun h29 hF=>?_)
 exact gx hF
 refine go ?_
 exact lC ⟨_,hF,rfl,rfl⟩
 refine go ?_
 exact xC ⟨hF,rfl,rfl⟩
 obtain ⟨x8,h9,h17⟩:=q00 h17
 rcases gB h17 with ⟨h10,h17⟩ | ⟨h10,h17⟩
 obtain rfl:=sI h17
 refine go ?_
 refine RS.ix h9 ?_
 refine go ?_
 exact xC ⟨rfl,rfl⟩
 obtain ⟨x11,h12,h17⟩:=q00 h17
 rcases gB h17 with ⟨h13,h17⟩ | ⟨h13,h17⟩
 obtain rfl:=sI h17
 refine go ?_
 refine RS.ix h9 ?_
 refine go ?_
 refine RS.ix h12 ?_
 refine go ?_
 exact xC ⟨rfl,rfl⟩
 obtain ⟨x14,h15,h17⟩:=q00 h17
 obtain rfl:=sI h17
 refine go ?_
 refine RS.ix h9 ?_
 refine go ?_
 refine RS.ix h12 ?_
 refine go ?_
 refine RS.ix h15 ?_
 refine go ?_
 exact xC ⟨rfl,rfl⟩
 refine go ?_
 exact xC ⟨hF,rfl,rfl⟩
def qbo   : Option (Int) :=
 some 0
def q71 (p1:GFS) (n:Nat):Nat→Int→Option (Int)
 | 0,_=>none
 | m1+1,z6 =>
  cond (decide (z6<(p1.Nodes.length:Int)))
   (q05 (q11 p1.Nodes z6) fun x8 =>
   cond (decide (x8.Typex<0))
    (some 2)
    (q05 (q11 p1.Nodes z6) fun x11 =>
    q05 (qff n x11.Arcs (p1.Nodes.length:Int)) fun r13 =>
    cond (r13 != 0)
     (some r13)
     ((q71 p1 n m1) (IntKind.i64.wrap (z6+1)))))
   (qbo)
def qdc (n:Nat) (p1:GFS):Option (Int) :=
 cond ((p1.Nodes.length:Int) == 0)
  (some 1)
  (cond (decide ((p1.Nodes.length:Int) > 4096))
   (some 7)
   (q71 p1 n n 0))
theorem qq8 (n:Nat) (p1:GFS) (r:Int) (hF:qdc n p1=some r):EvU Tryz.prog 45 [.agg [.isl false (List.map q01 p1.Nodes)]] ⟨[],0⟩ (fun u _=>u = .int .i64 r∧Bel 0 u):=by
 unfold qdc at hF
 refine bg1 40 fn45 ?_
 refine go ?_
 refine cF hF (fun h2 hF=>?_) (fun h2 hF=>?_)
 exact gx hF
 refine go ?_
 refine cF hF (fun h3 hF=>?_) (fun h3 hF=>?_)
 exact gx hF
 refine go ?_
 refine gS (l':=[(1,_),(3,_)]) ?_
 refine z44 (fun m tm σ=>∃ z6:Int,q71 p1 n m z6=some r∧tm=fr 40 [(1,.ptr 0 0 0),(3,.i6 z6)]∧σ=⟨[(0,.row [.iM q01 p1.Nodes] 25)],1⟩) (fun tm σ=>qbo=some r∧tm=fr 40 []∧σ=⟨[(0,.row [.iM q01 p1.Nodes] 25)],1⟩) n ⟨0,hF,rfl,rfl⟩ ?_ ?_
 rintro _ _ ⟨hF,rfl,rfl⟩
 unfold qbo at hF
 exact gx hF
 rintro (_|m1) _ _ ⟨z6,hF,rfl,rfl⟩
 cases hF
 unfold q71 at hF
 refine go ?_
 refine cF hF (fun h7 hF=>?_) (fun h7 hF=>?_)
 refine go ?_
 refine WPU.block ?_
 obtain ⟨x8,h9,hF⟩:=q00 hF
 refine go ?_
 refine RS.ix h9 ?_
 refine go ?_
 refine cF hF (fun h10 hF=>?_) (fun h10 hF=>?_)
 exact gx hF
 obtain ⟨x11,h12,hF⟩:=q00 hF
 obtain ⟨r13,h14,hF⟩:=q00 hF
 refine go ?_
 refine z48 Tryz.tb_ok [] (by kernel_rfl) ?_
 refine gd ?_
 refine RD.ix h12 ?_
 refine gd ?_
 refine z4a rfl (pC (qq7 n x11.Arcs (p1.Nodes.length:Int) r13 h14)) fn75 ?_
 refine gd ?_
 refine RD.done ⟨by kernel_rfl,trivial,?_⟩
 refine go ?_
 refine cF hF (fun h15 hF=>?_) (fun h15 hF=>?_)
 exact gx hF
 refine go ?_
 exact lC ⟨_,hF,rfl,rfl⟩
 refine go ?_
 exact xC ⟨hF,rfl,rfl⟩
def qc9 (n:Nat) (p1:GFS):Option (GFS×Int) :=
 q05 (qdc n p1) fun r2 =>
 cond (r2 != 0)
  (some ((GFS.mk []),r2))
  (q05 (qdb n p1 0) fun r5 =>
  some (r5,0))
theorem qo6 (n:Nat) (p1:GFS) (r:GFS×Int) (hF:qc9 n p1=some r):EvU Tryz.prog 24 [.agg [.isl false (List.map q01 p1.Nodes)]] ⟨[],0⟩ (fun u _=>u = .tup [.agg [.isl false (List.map q01 r.1.Nodes)],.int .i64 r.2]∧Bel 0 u):=by
 unfold qc9 at hF
 refine bg1 13 fn24 ?_
 obtain ⟨r2,h3,hF⟩:=q00 hF
 refine go ?_
 refine RS.cl rfl (pC (qq8 n p1 r2 h3) _) fn45 ?_
 refine go ?_
 refine cF hF (fun h4 hF=>?_) (fun h4 hF=>?_)
 refine go ?_
 obtain rfl:=sI hF
 exact rT (us:=[.agg [.nils],.i6 r2]) (u:=.tup [.agg [.isl false []],.i6 r2]) (qfq (q6a un25.h rfl (q0q if25.h) rfl rfl rfl) (q4e rfl (q3x))) wR
 obtain ⟨r5,h6,hF⟩:=q00 hF
 refine go ?_
 refine RS.cl rfl (pC (qq6 n p1 0 r5 h6) _) fn46 ?_
 refine go ?_
 obtain rfl:=sI hF
 exact rT (qfq (q6a un25.h rfl (q0q if25.h) rfl rfl rfl) (q4e rfl (q3x))) (z4j _ rfl)
def qkp (n:Nat) (p1:GFS) (p2:Int):Option (GFS) :=
 q05 (q55 n p1 p2) fun r3 =>
 some r3
theorem q98 (n:Nat) (p1:GFS) (p2:Int) (r:GFS) (hF:qkp n p1 p2=some r):EvU Tryz.prog 14 [.agg [.isl false (List.map q01 p1.Nodes)],.int .i64 p2] ⟨[],0⟩ (fun u _=>u = .agg [.isl false (List.map q01 r.Nodes)]∧Bel 0 u):=by
 unfold qkp at hF
 refine bg2 8 fn14 ?_
 obtain ⟨r3,h4,hF⟩:=q00 hF
 refine go ?_
 refine RS.cl rfl (pC (qd1 n p1 p2 r3 h4) _) fn26 ?_
 refine go ?_
 obtain rfl:=sI hF
 exact rT (qfq (q6a un25.h rfl (q0q if25.h) rfl rfl rfl) (q3x)) (z4j _ rfl)
def qba (n:Nat) (p1:List q0d):Option (GFS) :=
 some (GFS.mk p1)
theorem q1v (n:Nat) (p1:List q0d) (r:GFS) (hF:qba n p1=some r):EvU Tryz.prog 11 [.isl false (List.map q01 p1)] ⟨[],0⟩ (fun u _=>u = .agg [.isl false (List.map q01 r.Nodes)]∧Bel 0 u):=by
 unfold qba at hF
 refine bg1 5 fn11 ?_
 refine go ?_
 obtain rfl:=sI hF
 exact rT (qfq (q6a un25.h rfl (q0q if25.h) rfl rfl rfl) (q3x)) (z4j _ rfl)
def qdk (p1:Int) (l12:List q0m):Option (q0d) :=
 some (q0d.mk p1 l12)
def qb9 (p1:Int) (p2:List Int):Nat→Int→(List q0m)→Option (q0d)
 | 0,_,_=>none
 | m1+1,z9,l10 =>
  cond (decide ((IntKind.i64.wrap (z9+1))<(p2.length:Int)))
   (q05 (q11 p2 z9) fun x15 =>
   q05 (q11 p2 (IntKind.i64.wrap (z9+1))) fun x17 =>
   q1m ((l10.length+1)*16≤140737488355328∧l10.length+1≤140737488355328) (
   (qb9 p1 p2 m1) (IntKind.i64.wrap (z9+2)) (l10++[(q0m.mk x15 x17)])))
   (qdk p1 l10)
def q23 (n:Nat) (p1:Int) (p2:List Int):Option (q0d) :=
 qb9 p1 p2 n 0 ([]:List q0m)
theorem q0b (n:Nat) (p1:Int) (p2:List Int) (r:q0d) (hF:q23 n p1 p2=some r):EvU Tryz.prog 12 [.int .i64 p1,.isl false (List.map (cI .i64) p2)] ⟨[],0⟩ (fun u _=>u = .agg (q01 r)∧Bel 0 u):=by
 unfold q23 at hF
 refine bg2 32 fn12 ?_
 refine gr ?_
 refine gr ?_
 refine gr ?_
 refine WPU.ghost (tm':=fr 32 [(1,.iM (cI .i64) p2),(4,.ptr 0 0 0),(5,.ptr 1 0 0),(6,.i6 0)]) (σ':=⟨[(2,.vec (List.map q08 ([]:List q0m)).flatten 72 2 0),(1,.row [.i6 p1,.vl 2 0 0 (([]:List q0m).length)] 40),(0,.row [.i6 0,.nils] 40)],3⟩) (Gh.trans (z4l 1 1 72 2 (by decide) NZ rfl rfl) (z4e ⟨rfl,rfl,rfl,rfl,trivial⟩ rfl)) NZ ?_
 refine gS (l':=[(1,_),(4,_),(5,_),(6,_)]) ?_
 refine z44 (fun m tm σ=>∃ z9:Int,∃ l10:List q0m,∃ t11:Nat,qb9 p1 p2 m z9 l10=some r∧tm=fr 32 [(1,.iM (cI .i64) p2),(4,.ptr 0 0 0),(5,.ptr 1 0 0),(6,.i6 z9)]∧σ=⟨[(2,.vec (List.map q08 l10).flatten 72 2 t11),(1,.row [.i6 p1,.vl 2 t11 0 l10.length] 40),(0,.row [.i6 0,.nils] 40)],3⟩) (fun tm σ=>∃ l12:List q0m,∃ t13:Nat,qdk p1 l12=some r∧tm=fr 32 [(4,.ptr 0 0 0),(5,.ptr 1 0 0)]∧σ=⟨[(2,.vec (List.map q08 l12).flatten 72 2 t13),(1,.row [.i6 p1,.vl 2 t13 0 l12.length] 40),(0,.row [.i6 0,.nils] 40)],3⟩) n ⟨0,([]:List q0m),0,hF,rfl,rfl⟩ ?_ ?_
 rintro _ _ ⟨l12,t13,hF,rfl,rfl⟩
 unfold qdk at hF
 refine go ?_
 obtain rfl:=sI hF
 exact rT (us:=[.agg [.i6 p1,.vl 2 t13 0 l12.length]]) (u:=.agg [.i6 p1,.iM q08 l12]) (qfq (q6a un40.h rfl (q0q if40.h) rfl rfl rfl) (q3x)) (fR 2 2)
 rintro (_|m1) _ _ ⟨z9,l10,t11,hF,rfl,rfl⟩
 cases hF
 unfold qb9 at hF
 refine go ?_
 refine cF hF (fun h14 hF=>?_) (fun h14 hF=>?_)
 refine go ?_
 refine WPU.block ?_
 obtain ⟨x15,h16,hF⟩:=q00 hF
 obtain ⟨x17,h18,hF⟩:=q00 hF
 obtain ⟨h19,hF⟩:=q09 hF
 refine go ?_
 refine z48 Tryz.tb_ok [(0,12),(1,12)] (by kernel_rfl) ?_
 refine gd ?_
 refine RD.ix h16 ?_
 refine gd ?_
 refine RD.ix h18 ?_
 refine gd ?_
 refine RD.g ?_
 refine RD.g ?_
 refine gd ?_
 refine RD.gz ?_
 refine RD.done ⟨by kernel_rfl,⟨qdq un40.h rfl (q0q if38.h) rfl rfl rfl,⟨qd3 un38.h rfl rfl rfl rfl,trivial⟩⟩,?_⟩
 refine go ?_
 exact lC ⟨_,(l10++[(q0m.mk x15 x17)]),(t11+1),hF,rfl,rfl⟩
 refine go ?_
 exact xC ⟨l10,t11,hF,rfl,rfl⟩
def q3i (n:Nat)  : Option (Bool) :=
 q05 (q23 n 1 ([0,2,1,1])) fun r1 =>
 q05 (q23 n 2 []) fun r3 =>
 q05 (q23 n 3 ([0,1])) fun r5 =>
 q05 (qba n ([r1,r3,r5])) fun r7 =>
 q05 (q68 n r7) fun r9 =>
 q05 (q23 n 4 ([7,2,3,1])) fun r11 =>
 q05 (q23 n 5 []) fun r13 =>
 q05 (q23 n 6 ([2,0])) fun r15 =>
 q05 (qba n ([r11,r13,r15])) fun r17 =>
 q05 (q68 n r17) fun r19 =>
 q05 (cond (r9.2 != 0)
  (some true)
  (cond (r19.2 != 0)
   (some true)
   (q05 (q23 n 1 ([0,1,1,2])) fun r23 =>
   q05 (q23 n 3 ([0,2])) fun r25 =>
   q05 (q23 n 2 []) fun r27 =>
   q05 (qba n ([r23,r25,r27])) fun r29 =>
   q05 (q5i n (GFS.mk r9.1.Nodes) r29) fun r31 =>
   cond (!r31)
    (some true)
    (q05 (q23 n 4 ([3,1,7,2])) fun r34 =>
    q05 (q23 n 5 []) fun r36 =>
    q05 (q23 n 6 ([2,0])) fun r38 =>
    q05 (qba n ([r34,r36,r38])) fun r40 =>
    q05 (q5i n (GFS.mk r19.1.Nodes) r40) fun r42 =>
    some (!r42))))) fun b44 =>
 cond b44
  (some false)
  (q05 (q68 n (GFS.mk [])) fun r47 =>
  q05 (cond (r47.2 == 1)
   (q05 (qkp n (GFS.mk r9.1.Nodes) 1) fun r50 =>
   q05 (q23 n 3 ([0,1])) fun r52 =>
   q05 (q23 n 2 []) fun r54 =>
   q05 (qba n ([r52,r54])) fun r56 =>
   q05 (q5i n r50 r56) fun r58 =>
   cond r58
    (q05 (q23 n 1 ([5,0])) fun r61 =>
    q05 (qba n ([r61])) fun r63 =>
    q05 (qcf n r63) fun r65 =>
    cond r65
     (q05 (qcf n (GFS.mk r9.1.Nodes)) fun r68 =>
     cond (!r68)
      (q05 (qf9 n 4) fun r71 =>
      q05 (q23 n 4 []) fun r73 =>
      q05 (qba n ([r73])) fun r75 =>
      q05 (q5i n r71 r75) fun r77 =>
      cond r77
       (q05 (q97 n (GFS.mk r9.1.Nodes) (GFS.mk r9.1.Nodes)) fun r80 =>
       cond r80
        (q05 (qf9 n 9) fun r83 =>
        q05 (q6r n r83 (GFS.mk r9.1.Nodes)) fun r85 =>
        some (r85 == (-1)))
        (some false))
       (some false))
      (some false))
     (some false))
    (some false))
   (some false)) fun b87 =>
  some b87)
theorem qb3 (n:Nat)  (r:Bool) (hF:q3i n  = some r):EvU Tryz.prog 5 [] ⟨[],0⟩ (fun u _=>u = .bool r∧Bel 0 u):=by
 unfold q3i at hF
 refine bg0 106 fn5 ?_
 obtain ⟨r1,h2,hF⟩:=q00 hF
 obtain ⟨r3,h4,hF⟩:=q00 hF
 obtain ⟨r5,h6,hF⟩:=q00 hF
 obtain ⟨r7,h8,hF⟩:=q00 hF
 obtain ⟨r9,h10,hF⟩:=q00 hF
 refine go ?_
 refine RS.g ?_
 refine z4n rfl (z4b 0 1) (pC (q0b n 1 ([0,2,1,1]) r1 h2) _) fn12 (RS.cl rfl (z4c (args':=[.i6 2,.isl false []]) (.cons (.refl _) (.cons (.nil false) .nil)) (pC (q0b n 2 [] r3 h4)) _) fn12 ?_)
 refine RS.g ?_
 refine z4n rfl (z4b 1 1) (pC (q0b n 3 ([0,1]) r5 h6) _) fn12 (RS.q (u:=.sl 2 0 3 3) (σ':=⟨[(2,.row [.i6 r1.Typex,.iM q08 r1.Arcs,.i6 r3.Typex,.iM q08 r3.Arcs,.i6 r5.Typex,.iM q08 r5.Arcs] 40)],3⟩) rfl (q56 un23.h if40.h rfl rfl rfl rfl rfl rfl rfl) (z4n rfl (z4b 2 2) (pC (q1v n ([r1,r3,r5]) r7 h8) _) fn11 (RS.cl rfl (pC (qb8 n r7 r9 h10) _) fn10 ?_)))
 obtain ⟨r11,h12,hF⟩:=q00 hF
 obtain ⟨r13,h14,hF⟩:=q00 hF
 obtain ⟨r15,h16,hF⟩:=q00 hF
 obtain ⟨r17,h18,hF⟩:=q00 hF
 obtain ⟨r19,h20,hF⟩:=q00 hF
 refine go ?_
 refine RS.g ?_
 refine z4n rfl (z4b 4 1) (pC (q0b n 4 ([7,2,3,1]) r11 h12) _) fn12 (RS.cl rfl (z4c (args':=[.i6 5,.isl false []]) (.cons (.refl _) (.cons (.nil false) .nil)) (pC (q0b n 5 [] r13 h14)) _) fn12 ?_)
 refine RS.g ?_
 refine z4n rfl (z4b 5 1) (pC (q0b n 6 ([2,0]) r15 h16) _) fn12 (RS.q (u:=.sl 6 0 3 3) (σ':=⟨[(6,.row [.i6 r11.Typex,.iM q08 r11.Arcs,.i6 r13.Typex,.iM q08 r13.Arcs,.i6 r15.Typex,.iM q08 r15.Arcs] 40),(3,.row [.iM q01 r9.1.Nodes] 25)],7⟩) rfl (q56 un23.h if40.h rfl rfl rfl rfl rfl rfl rfl) (z4n rfl (z4b 6 2) (pC (q1v n ([r11,r13,r15]) r17 h18) _) fn11 (RS.cl rfl (pC (qb8 n r17 r19 h20) _) fn10 ?_)))
 obtain ⟨b44,h45,hF⟩:=q00 hF
 refine gn ?_
 refine z47 (fun tm σ=>tm=fr 106 [(1,.ptr 3 0 0),(58,.bool b44)]∧σ=⟨[(7,.row [.iM q01 r19.1.Nodes] 25),(3,.row [.iM q01 r9.1.Nodes] 25)],8⟩) ?_ ?_
 rintro _ _ ⟨rfl,rfl⟩
 refine go ?_
 refine cF hF (fun h46 hF=>?_) (fun h46 hF=>?_)
 exact gx hF
 obtain ⟨r47,h48,hF⟩:=q00 hF
 refine go ?_
 refine RS.cl rfl (z4c (args':=[.agg [.isl false []]]) (.cons (.agg (.cons (.nil false) .nil)) .nil) (pC (qb8 n (GFS.mk []) r47 h48)) _) fn10 ?_
 obtain ⟨b87,h88,hF⟩:=q00 hF
 refine gn ?_
 refine z47 (fun tm σ=>tm=fr 106 [(0,.bool b87)]∧σ=⟨[(8,.row [.iM q01 r47.1.Nodes] 25),(7,.row [.iM q01 r19.1.Nodes] 25),(3,.row [.iM q01 r9.1.Nodes] 25)],9⟩) ?_ ?_
 rintro _ _ ⟨rfl,rfl⟩
 exact gx hF
 rcases gB h88 with ⟨h49,h88⟩ | ⟨h49,h88⟩
 obtain ⟨r50,h51,h88⟩:=q00 h88
 obtain ⟨r52,h53,h88⟩:=q00 h88
 obtain ⟨r54,h55,h88⟩:=q00 h88
 obtain ⟨r56,h57,h88⟩:=q00 h88
 obtain ⟨r58,h59,h88⟩:=q00 h88
 rcases gB h88 with ⟨h60,h88⟩ | ⟨h60,h88⟩
 obtain ⟨r61,h62,h88⟩:=q00 h88
 obtain ⟨r63,h64,h88⟩:=q00 h88
 obtain ⟨r65,h66,h88⟩:=q00 h88
 rcases gB h88 with ⟨h67,h88⟩ | ⟨h67,h88⟩
 obtain ⟨r68,h69,h88⟩:=q00 h88
 rcases gB h88 with ⟨h70,h88⟩ | ⟨h70,h88⟩
 obtain ⟨r71,h72,h88⟩:=q00 h88
 obtain ⟨r73,h74,h88⟩:=q00 h88
 obtain ⟨r75,h76,h88⟩:=q00 h88
 obtain ⟨r77,h78,h88⟩:=q00 h88
 rcases gB h88 with ⟨h79,h88⟩ | ⟨h79,h88⟩
 obtain ⟨r80,h81,h88⟩:=q00 h88
 rcases gB h88 with ⟨h82,h88⟩ | ⟨h82,h88⟩
 obtain ⟨r83,h84,h88⟩:=q00 h88
 obtain ⟨r85,h86,h88⟩:=q00 h88
 obtain rfl:=sI h88
 refine z48 Tryz.tb_ok [] (by kernel_rfl) ?_
 refine gd ?_
 refine z4a rfl (pC (q98 n (GFS.mk r9.1.Nodes) 1 r50 h51)) fn14 (z4f (u:=.iM (cI .i64) ([0,1])) (q2y rfl rfl rfl h49) (q95.bs (cs:=[.i6 0,.i6 1]) un59.h if3.h rfl rfl rfl rfl rfl rfl rfl rfl rfl) rfl rfl (z4a rfl (pC (q0b n 3 ([0,1]) r52 h53)) fn12 (z4a rfl (fun s=>z4c (args':=[.i6 2,.isl false []]) (.cons (.refl _) (.cons (.nil false) .nil)) (pC (q0b n 2 [] r54 h55)) s) fn12 (RD.act (u:=.sl 9 0 2 2) (σ':=⟨[(9,.row [.i6 r52.Typex,.iM q08 r52.Arcs,.i6 r54.Typex,.iM q08 r54.Arcs] 40),(8,.row [.iM q01 r47.1.Nodes] 25),(7,.row [.iM q01 r19.1.Nodes] 25),(3,.row [.iM q01 r9.1.Nodes] 25)],10⟩) (q2y rfl rfl rfl h49) (q56 un23.h if40.h rfl rfl rfl rfl rfl rfl rfl) rfl rfl (RD.fcall (u:=.agg [.iM q01 r56.Nodes]) (args:=[.sl 9 0 2 2]) (σ1:=⟨[(8,.row [.iM q01 r47.1.Nodes] 25),(7,.row [.iM q01 r19.1.Nodes] 25),(3,.row [.iM q01 r9.1.Nodes] 25)],10⟩) (q2y rfl rfl rfl h49) (q12 rfl rfl fn11 hb11 rfl rfl) (z4b 9 2) NL (pC (q1v n ([r52,r54]) r56 h57) _) rfl rfl (z4a rfl (pC (q1x n r50 r56 r58 h59)) fn13 ?_))))))
 refine gd ?_
 refine RD.g ?_
 refine RD.fcall (u:=.agg (q01 r61)) (args:=[.i6 1,.sl 10 0 2 2]) (σ1:=⟨[(8,.row [.iM q01 r47.1.Nodes] 25),(7,.row [.iM q01 r19.1.Nodes] 25),(3,.row [.iM q01 r9.1.Nodes] 25)],11⟩) (q2y rfl rfl rfl h60) (q12 rfl rfl fn12 hb12 rfl rfl) (z4b 10 1) NL (pC (q0b n 1 ([5,0]) r61 h62) _) rfl rfl (RD.act (u:=.sl 11 0 1 1) (σ':=⟨[(11,.row (q01 r61) 40),(8,.row [.iM q01 r47.1.Nodes] 25),(7,.row [.iM q01 r19.1.Nodes] 25),(3,.row [.iM q01 r9.1.Nodes] 25)],12⟩) (q2y rfl rfl rfl h60) (q56 un23.h if40.h rfl rfl rfl rfl rfl rfl rfl) rfl rfl (RD.fcall (u:=.agg [.iM q01 r63.Nodes]) (args:=[.sl 11 0 1 1]) (σ1:=⟨[(8,.row [.iM q01 r47.1.Nodes] 25),(7,.row [.iM q01 r19.1.Nodes] 25),(3,.row [.iM q01 r9.1.Nodes] 25)],12⟩) (q2y rfl rfl rfl h60) (q12 rfl rfl fn11 hb11 rfl rfl) (z4b 11 2) NL (pC (q1v n ([r61]) r63 h64) _) rfl rfl (z4a rfl (pC (q35 n r63 r65 h66)) fn15 ?_)))
 refine gd ?_
 refine z4a rfl (pC (q35 n (GFS.mk r9.1.Nodes) r68 h69)) fn15 ?_
 refine gd ?_
 refine z4a rfl (pC (qce n 4 r71 h72)) fn16 (z4a rfl (fun s=>z4c (args':=[.i6 4,.isl false []]) (.cons (.refl _) (.cons (.nil false) .nil)) (pC (q0b n 4 [] r73 h74)) s) fn12 (RD.act (u:=.sl 12 0 1 1) (σ':=⟨[(12,.row (q01 r73) 40),(8,.row [.iM q01 r47.1.Nodes] 25),(7,.row [.iM q01 r19.1.Nodes] 25),(3,.row [.iM q01 r9.1.Nodes] 25)],13⟩) (q2y rfl rfl rfl h70) (q56 un23.h if40.h rfl rfl rfl rfl rfl rfl rfl) rfl rfl (RD.fcall (u:=.agg [.iM q01 r75.Nodes]) (args:=[.sl 12 0 1 1]) (σ1:=⟨[(8,.row [.iM q01 r47.1.Nodes] 25),(7,.row [.iM q01 r19.1.Nodes] 25),(3,.row [.iM q01 r9.1.Nodes] 25)],13⟩) (q2y rfl rfl rfl h70) (q12 rfl rfl fn11 hb11 rfl rfl) (z4b 12 2) NL (pC (q1v n ([r73]) r75 h76) _) rfl rfl (z4a rfl (pC (q1x n r71 r75 r77 h78)) fn13 ?_))))
 refine gd ?_
 refine z4a rfl (pC (qdh n (GFS.mk r9.1.Nodes) (GFS.mk r9.1.Nodes) r80 h81)) fn17 ?_
 refine gd ?_
 refine z4a rfl (pC (qce n 9 r83 h84)) fn16 ?_
 refine gd ?_
 refine z4a rfl (pC (qen n r83 (GFS.mk r9.1.Nodes) r85 h86)) fn18 ?_
 refine gd ?_
 refine RD.done ⟨by kernel_rfl,trivial,?_⟩
 refine go ?_
 exact xC ⟨rfl,rfl⟩
 obtain rfl:=sI h88
 refine z48 Tryz.tb_ok [] (by kernel_rfl) ?_
 refine gd ?_
 refine z4a rfl (pC (q98 n (GFS.mk r9.1.Nodes) 1 r50 h51)) fn14 (z4f (u:=.iM (cI .i64) ([0,1])) (q2y rfl rfl rfl h49) (q95.bs (cs:=[.i6 0,.i6 1]) un59.h if3.h rfl rfl rfl rfl rfl rfl rfl rfl rfl) rfl rfl (z4a rfl (pC (q0b n 3 ([0,1]) r52 h53)) fn12 (z4a rfl (fun s=>z4c (args':=[.i6 2,.isl false []]) (.cons (.refl _) (.cons (.nil false) .nil)) (pC (q0b n 2 [] r54 h55)) s) fn12 (RD.act (u:=.sl 9 0 2 2) (σ':=⟨[(9,.row [.i6 r52.Typex,.iM q08 r52.Arcs,.i6 r54.Typex,.iM q08 r54.Arcs] 40),(8,.row [.iM q01 r47.1.Nodes] 25),(7,.row [.iM q01 r19.1.Nodes] 25),(3,.row [.iM q01 r9.1.Nodes] 25)],10⟩) (q2y rfl rfl rfl h49) (q56 un23.h if40.h rfl rfl rfl rfl rfl rfl rfl) rfl rfl (RD.fcall (u:=.agg [.iM q01 r56.Nodes]) (args:=[.sl 9 0 2 2]) (σ1:=⟨[(8,.row [.iM q01 r47.1.Nodes] 25),(7,.row [.iM q01 r19.1.Nodes] 25),(3,.row [.iM q01 r9.1.Nodes] 25)],10⟩) (q2y rfl rfl rfl h49) (q12 rfl rfl fn11 hb11 rfl rfl) (z4b 9 2) NL (pC (q1v n ([r52,r54]) r56 h57) _) rfl rfl (z4a rfl (pC (q1x n r50 r56 r58 h59)) fn13 ?_))))))
 refine gd ?_
 refine RD.g ?_
 refine RD.fcall (u:=.agg (q01 r61)) (args:=[.i6 1,.sl 10 0 2 2]) (σ1:=⟨[(8,.row [.iM q01 r47.1.Nodes] 25),(7,.row [.iM q01 r19.1.Nodes] 25),(3,.row [.iM q01 r9.1.Nodes] 25)],11⟩) (q2y rfl rfl rfl h60) (q12 rfl rfl fn12 hb12 rfl rfl) (z4b 10 1) NL (pC (q0b n 1 ([5,0]) r61 h62) _) rfl rfl (RD.act (u:=.sl 11 0 1 1) (σ':=⟨[(11,.row (q01 r61) 40),(8,.row [.iM q01 r47.1.Nodes] 25),(7,.row [.iM q01 r19.1.Nodes] 25),(3,.row [.iM q01 r9.1.Nodes] 25)],12⟩) (q2y rfl rfl rfl h60) (q56 un23.h if40.h rfl rfl rfl rfl rfl rfl rfl) rfl rfl (RD.fcall (u:=.agg [.iM q01 r63.Nodes]) (args:=[.sl 11 0 1 1]) (σ1:=⟨[(8,.row [.iM q01 r47.1.Nodes] 25),(7,.row [.iM q01 r19.1.Nodes] 25),(3,.row [.iM q01 r9.1.Nodes] 25)],12⟩) (q2y rfl rfl rfl h60) (q12 rfl rfl fn11 hb11 rfl rfl) (z4b 11 2) NL (pC (q1v n ([r61]) r63 h64) _) rfl rfl (z4a rfl (pC (q35 n r63 r65 h66)) fn15 ?_)))
 refine gd ?_
 refine z4a rfl (pC (q35 n (GFS.mk r9.1.Nodes) r68 h69)) fn15 ?_
 refine gd ?_
 refine z4a rfl (pC (qce n 4 r71 h72)) fn16 (z4a rfl (fun s=>z4c (args':=[.i6 4,.isl false []]) (.cons (.refl _) (.cons (.nil false) .nil)) (pC (q0b n 4 [] r73 h74)) s) fn12 (RD.act (u:=.sl 12 0 1 1) (σ':=⟨[(12,.row (q01 r73) 40),(8,.row [.iM q01 r47.1.Nodes] 25),(7,.row [.iM q01 r19.1.Nodes] 25),(3,.row [.iM q01 r9.1.Nodes] 25)],13⟩) (q2y rfl rfl rfl h70) (q56 un23.h if40.h rfl rfl rfl rfl rfl rfl rfl) rfl rfl (RD.fcall (u:=.agg [.iM q01 r75.Nodes]) (args:=[.sl 12 0 1 1]) (σ1:=⟨[(8,.row [.iM q01 r47.1.Nodes] 25),(7,.row [.iM q01 r19.1.Nodes] 25),(3,.row [.iM q01 r9.1.Nodes] 25)],13⟩) (q2y rfl rfl rfl h70) (q12 rfl rfl fn11 hb11 rfl rfl) (z4b 12 2) NL (pC (q1v n ([r73]) r75 h76) _) rfl rfl (z4a rfl (pC (q1x n r71 r75 r77 h78)) fn13 ?_))))
 refine gd ?_
 refine z4a rfl (pC (qdh n (GFS.mk r9.1.Nodes) (GFS.mk r9.1.Nodes) r80 h81)) fn17 ?_
 refine gd ?_
 refine RD.done ⟨by kernel_rfl,trivial,?_⟩
 refine go ?_
 exact xC ⟨rfl,rfl⟩
 obtain rfl:=sI h88
 refine z48 Tryz.tb_ok [] (by kernel_rfl) ?_
 refine gd ?_
 refine z4a rfl (pC (q98 n (GFS.mk r9.1.Nodes) 1 r50 h51)) fn14 (z4f (u:=.iM (cI .i64) ([0,1])) (q2y rfl rfl rfl h49) (q95.bs (cs:=[.i6 0,.i6 1]) un59.h if3.h rfl rfl rfl rfl rfl rfl rfl rfl rfl) rfl rfl (z4a rfl (pC (q0b n 3 ([0,1]) r52 h53)) fn12 (z4a rfl (fun s=>z4c (args':=[.i6 2,.isl false []]) (.cons (.refl _) (.cons (.nil false) .nil)) (pC (q0b n 2 [] r54 h55)) s) fn12 (RD.act (u:=.sl 9 0 2 2) (σ':=⟨[(9,.row [.i6 r52.Typex,.iM q08 r52.Arcs,.i6 r54.Typex,.iM q08 r54.Arcs] 40),(8,.row [.iM q01 r47.1.Nodes] 25),(7,.row [.iM q01 r19.1.Nodes] 25),(3,.row [.iM q01 r9.1.Nodes] 25)],10⟩) (q2y rfl rfl rfl h49) (q56 un23.h if40.h rfl rfl rfl rfl rfl rfl rfl) rfl rfl (RD.fcall (u:=.agg [.iM q01 r56.Nodes]) (args:=[.sl 9 0 2 2]) (σ1:=⟨[(8,.row [.iM q01 r47.1.Nodes] 25),(7,.row [.iM q01 r19.1.Nodes] 25),(3,.row [.iM q01 r9.1.Nodes] 25)],10⟩) (q2y rfl rfl rfl h49) (q12 rfl rfl fn11 hb11 rfl rfl) (z4b 9 2) NL (pC (q1v n ([r52,r54]) r56 h57) _) rfl rfl (z4a rfl (pC (q1x n r50 r56 r58 h59)) fn13 ?_))))))
 refine gd ?_
 refine RD.g ?_
 refine RD.fcall (u:=.agg (q01 r61)) (args:=[.i6 1,.sl 10 0 2 2]) (σ1:=⟨[(8,.row [.iM q01 r47.1.Nodes] 25),(7,.row [.iM q01 r19.1.Nodes] 25),(3,.row [.iM q01 r9.1.Nodes] 25)],11⟩) (q2y rfl rfl rfl h60) (q12 rfl rfl fn12 hb12 rfl rfl) (z4b 10 1) NL (pC (q0b n 1 ([5,0]) r61 h62) _) rfl rfl (RD.act (u:=.sl 11 0 1 1) (σ':=⟨[(11,.row (q01 r61) 40),(8,.row [.iM q01 r47.1.Nodes] 25),(7,.row [.iM q01 r19.1.Nodes] 25),(3,.row [.iM q01 r9.1.Nodes] 25)],12⟩) (q2y rfl rfl rfl h60) (q56 un23.h if40.h rfl rfl rfl rfl rfl rfl rfl) rfl rfl (RD.fcall (u:=.agg [.iM q01 r63.Nodes]) (args:=[.sl 11 0 1 1]) (σ1:=⟨[(8,.row [.iM q01 r47.1.Nodes] 25),(7,.row [.iM q01 r19.1.Nodes] 25),(3,.row [.iM q01 r9.1.Nodes] 25)],12⟩) (q2y rfl rfl rfl h60) (q12 rfl rfl fn11 hb11 rfl rfl) (z4b 11 2) NL (pC (q1v n ([r61]) r63 h64) _) rfl rfl (z4a rfl (pC (q35 n r63 r65 h66)) fn15 ?_)))
 refine gd ?_
 refine z4a rfl (pC (q35 n (GFS.mk r9.1.Nodes) r68 h69)) fn15 ?_
 refine gd ?_
 refine z4a rfl (pC (qce n 4 r71 h72)) fn16 (z4a rfl (fun s=>z4c (args':=[.i6 4,.isl false []]) (.cons (.refl _) (.cons (.nil false) .nil)) (pC (q0b n 4 [] r73 h74)) s) fn12 (RD.act (u:=.sl 12 0 1 1) (σ':=⟨[(12,.row (q01 r73) 40),(8,.row [.iM q01 r47.1.Nodes] 25),(7,.row [.iM q01 r19.1.Nodes] 25),(3,.row [.iM q01 r9.1.Nodes] 25)],13⟩) (q2y rfl rfl rfl h70) (q56 un23.h if40.h rfl rfl rfl rfl rfl rfl rfl) rfl rfl (RD.fcall (u:=.agg [.iM q01 r75.Nodes]) (args:=[.sl 12 0 1 1]) (σ1:=⟨[(8,.row [.iM q01 r47.1.Nodes] 25),(7,.row [.iM q01 r19.1.Nodes] 25),(3,.row [.iM q01 r9.1.Nodes] 25)],13⟩) (q2y rfl rfl rfl h70) (q12 rfl rfl fn11 hb11 rfl rfl) (z4b 12 2) NL (pC (q1v n ([r73]) r75 h76) _) rfl rfl (z4a rfl (pC (q1x n r71 r75 r77 h78)) fn13 ?_))))
 refine gd ?_
 refine RD.done ⟨by kernel_rfl,trivial,?_⟩
 refine go ?_
 exact xC ⟨rfl,rfl⟩
 obtain rfl:=sI h88
 refine z48 Tryz.tb_ok [] (by kernel_rfl) ?_
 refine gd ?_
 refine z4a rfl (pC (q98 n (GFS.mk r9.1.Nodes) 1 r50 h51)) fn14 (z4f (u:=.iM (cI .i64) ([0,1])) (q2y rfl rfl rfl h49) (q95.bs (cs:=[.i6 0,.i6 1]) un59.h if3.h rfl rfl rfl rfl rfl rfl rfl rfl rfl) rfl rfl (z4a rfl (pC (q0b n 3 ([0,1]) r52 h53)) fn12 (z4a rfl (fun s=>z4c (args':=[.i6 2,.isl false []]) (.cons (.refl _) (.cons (.nil false) .nil)) (pC (q0b n 2 [] r54 h55)) s) fn12 (RD.act (u:=.sl 9 0 2 2) (σ':=⟨[(9,.row [.i6 r52.Typex,.iM q08 r52.Arcs,.i6 r54.Typex,.iM q08 r54.Arcs] 40),(8,.row [.iM q01 r47.1.Nodes] 25),(7,.row [.iM q01 r19.1.Nodes] 25),(3,.row [.iM q01 r9.1.Nodes] 25)],10⟩) (q2y rfl rfl rfl h49) (q56 un23.h if40.h rfl rfl rfl rfl rfl rfl rfl) rfl rfl (RD.fcall (u:=.agg [.iM q01 r56.Nodes]) (args:=[.sl 9 0 2 2]) (σ1:=⟨[(8,.row [.iM q01 r47.1.Nodes] 25),(7,.row [.iM q01 r19.1.Nodes] 25),(3,.row [.iM q01 r9.1.Nodes] 25)],10⟩) (q2y rfl rfl rfl h49) (q12 rfl rfl fn11 hb11 rfl rfl) (z4b 9 2) NL (pC (q1v n ([r52,r54]) r56 h57) _) rfl rfl (z4a rfl (pC (q1x n r50 r56 r58 h59)) fn13 ?_))))))
 refine gd ?_
 refine RD.g ?_
 refine RD.fcall (u:=.agg (q01 r61)) (args:=[.i6 1,.sl 10 0 2 2]) (σ1:=⟨[(8,.row [.iM q01 r47.1.Nodes] 25),(7,.row [.iM q01 r19.1.Nodes] 25),(3,.row [.iM q01 r9.1.Nodes] 25)],11⟩) (q2y rfl rfl rfl h60) (q12 rfl rfl fn12 hb12 rfl rfl) (z4b 10 1) NL (pC (q0b n 1 ([5,0]) r61 h62) _) rfl rfl (RD.act (u:=.sl 11 0 1 1) (σ':=⟨[(11,.row (q01 r61) 40),(8,.row [.iM q01 r47.1.Nodes] 25),(7,.row [.iM q01 r19.1.Nodes] 25),(3,.row [.iM q01 r9.1.Nodes] 25)],12⟩) (q2y rfl rfl rfl h60) (q56 un23.h if40.h rfl rfl rfl rfl rfl rfl rfl) rfl rfl (RD.fcall (u:=.agg [.iM q01 r63.Nodes]) (args:=[.sl 11 0 1 1]) (σ1:=⟨[(8,.row [.iM q01 r47.1.Nodes] 25),(7,.row [.iM q01 r19.1.Nodes] 25),(3,.row [.iM q01 r9.1.Nodes] 25)],12⟩) (q2y rfl rfl rfl h60) (q12 rfl rfl fn11 hb11 rfl rfl) (z4b 11 2) NL (pC (q1v n ([r61]) r63 h64) _) rfl rfl (z4a rfl (pC (q35 n r63 r65 h66)) fn15 ?_)))
 refine gd ?_
 refine z4a rfl (pC (q35 n (GFS.mk r9.1.Nodes) r68 h69)) fn15 ?_
 refine gd ?_
 refine RD.done ⟨by kernel_rfl,trivial,?_⟩
 refine go ?_
 exact xC ⟨rfl,rfl⟩
 obtain rfl:=sI h88
 refine z48 Tryz.tb_ok [] (by kernel_rfl) ?_
 refine gd ?_
 refine z4a rfl (pC (q98 n (GFS.mk r9.1.Nodes) 1 r50 h51)) fn14 (z4f (u:=.iM (cI .i64) ([0,1])) (q2y rfl rfl rfl h49) (q95.bs (cs:=[.i6 0,.i6 1]) un59.h if3.h rfl rfl rfl rfl rfl rfl rfl rfl rfl) rfl rfl (z4a rfl (pC (q0b n 3 ([0,1]) r52 h53)) fn12 (z4a rfl (fun s=>z4c (args':=[.i6 2,.isl false []]) (.cons (.refl _) (.cons (.nil false) .nil)) (pC (q0b n 2 [] r54 h55)) s) fn12 (RD.act (u:=.sl 9 0 2 2) (σ':=⟨[(9,.row [.i6 r52.Typex,.iM q08 r52.Arcs,.i6 r54.Typex,.iM q08 r54.Arcs] 40),(8,.row [.iM q01 r47.1.Nodes] 25),(7,.row [.iM q01 r19.1.Nodes] 25),(3,.row [.iM q01 r9.1.Nodes] 25)],10⟩) (q2y rfl rfl rfl h49) (q56 un23.h if40.h rfl rfl rfl rfl rfl rfl rfl) rfl rfl (RD.fcall (u:=.agg [.iM q01 r56.Nodes]) (args:=[.sl 9 0 2 2]) (σ1:=⟨[(8,.row [.iM q01 r47.1.Nodes] 25),(7,.row [.iM q01 r19.1.Nodes] 25),(3,.row [.iM q01 r9.1.Nodes] 25)],10⟩) (q2y rfl rfl rfl h49) (q12 rfl rfl fn11 hb11 rfl rfl) (z4b 9 2) NL (pC (q1v n ([r52,r54]) r56 h57) _) rfl rfl (z4a rfl (pC (q1x n r50 r56 r58 h59)) fn13 ?_))))))
 refine gd ?_
 refine RD.g ?_
 refine RD.fcall (u:=.agg (q01 r61)) (args:=[.i6 1,.sl 10 0 2 2]) (σ1:=⟨[(8,.row [.iM q01 r47.1.Nodes] 25),(7,.row [.iM q01 r19.1.Nodes] 25),(3,.row [.iM q01 r9.1.Nodes] 25)],11⟩) (q2y rfl rfl rfl h60) (q12 rfl rfl fn12 hb12 rfl rfl) (z4b 10 1) NL (pC (q0b n 1 ([5,0]) r61 h62) _) rfl rfl (RD.act (u:=.sl 11 0 1 1) (σ':=⟨[(11,.row (q01 r61) 40),(8,.row [.iM q01 r47.1.Nodes] 25),(7,.row [.iM q01 r19.1.Nodes] 25),(3,.row [.iM q01 r9.1.Nodes] 25)],12⟩) (q2y rfl rfl rfl h60) (q56 un23.h if40.h rfl rfl rfl rfl rfl rfl rfl) rfl rfl (RD.fcall (u:=.agg [.iM q01 r63.Nodes]) (args:=[.sl 11 0 1 1]) (σ1:=⟨[(8,.row [.iM q01 r47.1.Nodes] 25),(7,.row [.iM q01 r19.1.Nodes] 25),(3,.row [.iM q01 r9.1.Nodes] 25)],12⟩) (q2y rfl rfl rfl h60) (q12 rfl rfl fn11 hb11 rfl rfl) (z4b 11 2) NL (pC (q1v n ([r61]) r63 h64) _) rfl rfl (z4a rfl (pC (q35 n r63 r65 h66)) fn15 ?_)))
 refine gd ?_
 refine RD.done ⟨by kernel_rfl,trivial,?_⟩
 refine go ?_
 exact xC ⟨rfl,rfl⟩
 obtain rfl:=sI h88
 refine z48 Tryz.tb_ok [] (by kernel_rfl) ?_
 refine gd ?_
 refine z4a rfl (pC (q98 n (GFS.mk r9.1.Nodes) 1 r50 h51)) fn14 (z4f (u:=.iM (cI .i64) ([0,1])) (q2y rfl rfl rfl h49) (q95.bs (cs:=[.i6 0,.i6 1]) un59.h if3.h rfl rfl rfl rfl rfl rfl rfl rfl rfl) rfl rfl (z4a rfl (pC (q0b n 3 ([0,1]) r52 h53)) fn12 (z4a rfl (fun s=>z4c (args':=[.i6 2,.isl false []]) (.cons (.refl _) (.cons (.nil false) .nil)) (pC (q0b n 2 [] r54 h55)) s) fn12 (RD.act (u:=.sl 9 0 2 2) (σ':=⟨[(9,.row [.i6 r52.Typex,.iM q08 r52.Arcs,.i6 r54.Typex,.iM q08 r54.Arcs] 40),(8,.row [.iM q01 r47.1.Nodes] 25),(7,.row [.iM q01 r19.1.Nodes] 25),(3,.row [.iM q01 r9.1.Nodes] 25)],10⟩) (q2y rfl rfl rfl h49) (q56 un23.h if40.h rfl rfl rfl rfl rfl rfl rfl) rfl rfl (RD.fcall (u:=.agg [.iM q01 r56.Nodes]) (args:=[.sl 9 0 2 2]) (σ1:=⟨[(8,.row [.iM q01 r47.1.Nodes] 25),(7,.row [.iM q01 r19.1.Nodes] 25),(3,.row [.iM q01 r9.1.Nodes] 25)],10⟩) (q2y rfl rfl rfl h49) (q12 rfl rfl fn11 hb11 rfl rfl) (z4b 9 2) NL (pC (q1v n ([r52,r54]) r56 h57) _) rfl rfl (z4a rfl (pC (q1x n r50 r56 r58 h59)) fn13 ?_))))))
 refine gd ?_
 refine RD.done ⟨by kernel_rfl,trivial,?_⟩
 refine go ?_
 exact xC ⟨rfl,rfl⟩
 obtain rfl:=sI h88
 refine z48 Tryz.tb_ok [] (by kernel_rfl) ?_
 refine gd ?_
 refine RD.done ⟨by kernel_rfl,trivial,?_⟩
 refine go ?_
 exact xC ⟨rfl,rfl⟩
 rcases gB h45 with ⟨h21,h45⟩ | ⟨h21,h45⟩
 obtain rfl:=sI h45
 refine z48 Tryz.tb_ok [] (by kernel_rfl) ?_
 refine gd ?_
 refine RD.done ⟨by kernel_rfl,trivial,?_⟩
 refine go ?_
 exact xC ⟨rfl,rfl⟩
 rcases gB h45 with ⟨h22,h45⟩ | ⟨h22,h45⟩
 obtain rfl:=sI h45
 refine z48 Tryz.tb_ok [] (by kernel_rfl) ?_
 refine gd ?_
 refine RD.done ⟨by kernel_rfl,trivial,?_⟩
 refine go ?_
 exact xC ⟨rfl,rfl⟩
 obtain ⟨r23,h24,h45⟩:=q00 h45
 obtain ⟨r25,h26,h45⟩:=q00 h45
 obtain ⟨r27,h28,h45⟩:=q00 h45
 obtain ⟨r29,h30,h45⟩:=q00 h45
 obtain ⟨r31,h32,h45⟩:=q00 h45
 rcases gB h45 with ⟨h33,h45⟩ | ⟨h33,h45⟩
 obtain rfl:=sI h45
 refine z48 Tryz.tb_ok [(7,13),(7,14)] (by kernel_rfl) ?_
 refine gd ?_
 refine z4f (u:=.iM (cI .i64) ([0,1,1,2])) (q2y rfl rfl rfl h22) (q95.bs (cs:=[.i6 0,.i6 1,.i6 1,.i6 2]) un59.h if3.h rfl rfl rfl rfl rfl rfl rfl rfl rfl) rfl rfl (z4a rfl (pC (q0b n 1 ([0,1,1,2]) r23 h24)) fn12 (z4f (u:=.iM (cI .i64) ([0,2])) (q2y rfl rfl rfl h22) (q95.bs (cs:=[.i6 0,.i6 2]) un59.h if3.h rfl rfl rfl rfl rfl rfl rfl rfl rfl) rfl rfl (z4a rfl (pC (q0b n 3 ([0,2]) r25 h26)) fn12 (z4a rfl (fun s=>z4c (args':=[.i6 2,.isl false []]) (.cons (.refl _) (.cons (.nil false) .nil)) (pC (q0b n 2 [] r27 h28)) s) fn12 (RD.act (u:=.sl 8 0 3 3) (σ':=⟨[(8,.row [.i6 r23.Typex,.iM q08 r23.Arcs,.i6 r25.Typex,.iM q08 r25.Arcs,.i6 r27.Typex,.iM q08 r27.Arcs] 40),(7,.row [.iM q01 r19.1.Nodes] 25),(3,.row [.iM q01 r9.1.Nodes] 25)],9⟩) (q2y rfl rfl rfl h22) (q56 un23.h if40.h rfl rfl rfl rfl rfl rfl rfl) rfl rfl (RD.fcall (u:=.agg [.iM q01 r29.Nodes]) (args:=[.sl 8 0 3 3]) (σ1:=⟨[(7,.row [.iM q01 r19.1.Nodes] 25),(3,.row [.iM q01 r9.1.Nodes] 25)],9⟩) (q2y rfl rfl rfl h22) (q12 rfl rfl fn11 hb11 rfl rfl) (z4b 8 2) NL (pC (q1v n ([r23,r25,r27]) r29 h30) _) rfl rfl (z4a rfl (pC (q1x n (GFS.mk r9.1.Nodes) r29 r31 h32)) fn13 ?_)))))))
 refine gd ?_
 refine RD.done ⟨by kernel_rfl,⟨q6a un25.h rfl (q0q if25.h) rfl rfl rfl,⟨q6a un25.h rfl (q0q if25.h) rfl rfl rfl,trivial⟩⟩,?_⟩
 refine go ?_
 exact xC ⟨rfl,rfl⟩
 obtain ⟨r34,h35,h45⟩:=q00 h45
 obtain ⟨r36,h37,h45⟩:=q00 h45
 obtain ⟨r38,h39,h45⟩:=q00 h45
 obtain ⟨r40,h41,h45⟩:=q00 h45
 obtain ⟨r42,h43,h45⟩:=q00 h45
 obtain rfl:=sI h45
 refine z48 Tryz.tb_ok [(7,13),(7,14),(19,25),(19,26)] (by kernel_rfl) ?_
 refine gd ?_
 refine z4f (u:=.iM (cI .i64) ([0,1,1,2])) (q2y rfl rfl rfl h22) (q95.bs (cs:=[.i6 0,.i6 1,.i6 1,.i6 2]) un59.h if3.h rfl rfl rfl rfl rfl rfl rfl rfl rfl) rfl rfl (z4a rfl (pC (q0b n 1 ([0,1,1,2]) r23 h24)) fn12 (z4f (u:=.iM (cI .i64) ([0,2])) (q2y rfl rfl rfl h22) (q95.bs (cs:=[.i6 0,.i6 2]) un59.h if3.h rfl rfl rfl rfl rfl rfl rfl rfl rfl) rfl rfl (z4a rfl (pC (q0b n 3 ([0,2]) r25 h26)) fn12 (z4a rfl (fun s=>z4c (args':=[.i6 2,.isl false []]) (.cons (.refl _) (.cons (.nil false) .nil)) (pC (q0b n 2 [] r27 h28)) s) fn12 (RD.act (u:=.sl 8 0 3 3) (σ':=⟨[(8,.row [.i6 r23.Typex,.iM q08 r23.Arcs,.i6 r25.Typex,.iM q08 r25.Arcs,.i6 r27.Typex,.iM q08 r27.Arcs] 40),(7,.row [.iM q01 r19.1.Nodes] 25),(3,.row [.iM q01 r9.1.Nodes] 25)],9⟩) (q2y rfl rfl rfl h22) (q56 un23.h if40.h rfl rfl rfl rfl rfl rfl rfl) rfl rfl (RD.fcall (u:=.agg [.iM q01 r29.Nodes]) (args:=[.sl 8 0 3 3]) (σ1:=⟨[(7,.row [.iM q01 r19.1.Nodes] 25),(3,.row [.iM q01 r9.1.Nodes] 25)],9⟩) (q2y rfl rfl rfl h22) (q12 rfl rfl fn11 hb11 rfl rfl) (z4b 8 2) NL (pC (q1v n ([r23,r25,r27]) r29 h30) _) rfl rfl (z4a rfl (pC (q1x n (GFS.mk r9.1.Nodes) r29 r31 h32)) fn13 ?_)))))))
 refine gd ?_
 refine z4f (u:=.iM (cI .i64) ([3,1,7,2])) (q2y rfl rfl rfl h33) (q95.bs (cs:=[.i6 3,.i6 1,.i6 7,.i6 2]) un59.h if3.h rfl rfl rfl rfl rfl rfl rfl rfl rfl) rfl rfl (z4a rfl (pC (q0b n 4 ([3,1,7,2]) r34 h35)) fn12 (z4a rfl (fun s=>z4c (args':=[.i6 5,.isl false []]) (.cons (.refl _) (.cons (.nil false) .nil)) (pC (q0b n 5 [] r36 h37)) s) fn12 (z4f (u:=.iM (cI .i64) ([2,0])) (q2y rfl rfl rfl h33) (q95.bs (cs:=[.i6 2,.i6 0]) un59.h if3.h rfl rfl rfl rfl rfl rfl rfl rfl rfl) rfl rfl (z4a rfl (pC (q0b n 6 ([2,0]) r38 h39)) fn12 (RD.act (u:=.sl 9 0 3 3) (σ':=⟨[(9,.row [.i6 r34.Typex,.iM q08 r34.Arcs,.i6 r36.Typex,.iM q08 r36.Arcs,.i6 r38.Typex,.iM q08 r38.Arcs] 40),(7,.row [.iM q01 r19.1.Nodes] 25),(3,.row [.iM q01 r9.1.Nodes] 25)],10⟩) (q2y rfl rfl rfl h33) (q56 un23.h if40.h rfl rfl rfl rfl rfl rfl rfl) rfl rfl (RD.fcall (u:=.agg [.iM q01 r40.Nodes]) (args:=[.sl 9 0 3 3]) (σ1:=⟨[(7,.row [.iM q01 r19.1.Nodes] 25),(3,.row [.iM q01 r9.1.Nodes] 25)],10⟩) (q2y rfl rfl rfl h33) (q12 rfl rfl fn11 hb11 rfl rfl) (z4b 9 2) NL (pC (q1v n ([r34,r36,r38]) r40 h41) _) rfl rfl (z4a rfl (pC (q1x n (GFS.mk r19.1.Nodes) r40 r42 h43)) fn13 ?_)))))))
 refine gd ?_
 refine RD.done ⟨by kernel_rfl,⟨q6a un25.h rfl (q0q if25.h) rfl rfl rfl,⟨q6a un25.h rfl (q0q if25.h) rfl rfl rfl,⟨q6a un25.h rfl (q0q if25.h) rfl rfl rfl,⟨q6a un25.h rfl (q0q if25.h) rfl rfl rfl,trivial⟩⟩⟩⟩,?_⟩
 refine go ?_
 exact xC ⟨rfl,rfl⟩
def q7b (z13:Int) (rc1:Int→Option (Int))  : Option (Int) :=
 rc1 (IntKind.i64.wrap (z13+1))
def q40 (p1:q0n) (z13:Int) (rc1:Int→Option (Int)) (x18:q0d):Nat→Int→Option (Int)
 | 0,_=>none
 | m2+1,z33 =>
  cond (decide (z33<(x18.Arcs.length:Int)))
   (q05 (q11 x18.Arcs z33) fun x35 =>
   cond (decide (x35.Feat ≥ (p1.Feats.length:Int)))
    (some 2)
    ((q40 p1 z13 rc1 x18 m2) (IntKind.i64.wrap (z33+1))))
   (q7b z13 rc1)
def q34 (p2:GFS) (n:Nat) (r3:GFS×Int)  : Option (Int) :=
 q05 (q97 n p2 (GFS.mk r3.1.Nodes)) fun r14 =>
 cond (!r14)
  (some 3)
  (some 0)
def q25 (p1:q0n) (p2:GFS) (n:Nat) (r3:GFS×Int):Nat→Int→Option (Int)
 | 0,_=>none
 | m1+1,z13 =>
  cond (decide (z13<(p2.Nodes.length:Int)))
   (q05 (q11 p2.Nodes z13) fun x18 =>
   cond (decide (x18.Typex ≥ (p1.Types.length:Int)))
    (some 2)
    (q40 p1 z13 (q25 p1 p2 n r3 m1) x18 n 0))
   (q34 p2 n r3)
def q96 (n:Nat) (p1:q0n) (p2:GFS):Option (Int) :=
 q05 (q68 n p2) fun r3 =>
 cond (r3.2 != 0)
  (some r3.2)
  (q25 p1 p2 n r3 n 0)
theorem qh0 (n:Nat) (p1:q0n) (p2:GFS) (r:Int) (hF:q96 n p1 p2=some r):EvU Tryz.prog 8 [.agg (q20 p1),.agg [.isl false (List.map q01 p2.Nodes)]] ⟨[],0⟩ (fun u _=>u = .int .i64 r∧Bel 0 u):=by
 unfold q96 at hF
 refine bg2 51 fn8 ?_
 obtain ⟨r3,h4,hF⟩:=q00 hF
 refine go ?_
 refine RS.cl rfl (pC (qb8 n p2 r3 h4) _) fn10 ?_
 refine go ?_
 refine cF hF (fun h5 hF=>?_) (fun h5 hF=>?_)
 exact gx hF
 refine go ?_
 refine gS (l':=[(2,_),(3,_),(5,_),(20,_),(21,_),(22,_)]) ?_
 refine z44 (fun m tm σ=>∃ z13:Int,q25 p1 p2 n r3 m z13=some r∧tm=fr 51 [(2,.ptr 0 0 0),(3,.ptr 1 0 0),(5,.ptr 2 0 0),(20,.iM q01 p2.Nodes),(21,.i6 (p2.Nodes.length:Int)),(22,.i6 z13)]∧σ=⟨[(2,.row [.iM q01 r3.1.Nodes] 25),(1,.row [.iM q01 p2.Nodes] 25),(0,.row (q20 p1) 31)],3⟩) (fun tm σ=>q34 p2 n r3=some r∧tm=fr 51 [(3,.ptr 1 0 0),(5,.ptr 2 0 0)]∧σ=⟨[(2,.row [.iM q01 r3.1.Nodes] 25),(1,.row [.iM q01 p2.Nodes] 25),(0,.row (q20 p1) 31)],3⟩) n ⟨0,hF,rfl,rfl⟩ ?_ ?_
 rintro _ _ ⟨hF,rfl,rfl⟩
 unfold q34 at hF
 obtain ⟨r14,h15,hF⟩:=q00 hF
 refine go ?_
 refine RS.cl rfl (pC (qdh n p2 (GFS.mk r3.1.Nodes) r14 h15) _) fn17 ?_
 refine go ?_
 refine cF hF (fun h16 hF=>?_) (fun h16 hF=>?_)
 exact gx hF
 exact gx hF
 rintro (_|m1) _ _ ⟨z13,hF,rfl,rfl⟩
 cases hF
 unfold q25 at hF
 refine go ?_
 refine cF hF (fun h17 hF=>?_) (fun h17 hF=>?_)
 refine go ?_
 refine WPU.block ?_
 obtain ⟨x18,h19,hF⟩:=q00 hF
 refine go ?_
 refine RS.ix h19 ?_
 refine go ?_
 refine cF hF (fun h20 hF=>?_) (fun h20 hF=>?_)
 exact gx hF
 refine go ?_
 refine gS (l':=[(2,_),(3,_),(5,_),(20,_),(21,_),(22,_),(33,_),(34,_),(35,_)]) ?_
 refine z44 (fun m tm σ=>∃ z33:Int,q40 p1 z13 (q25 p1 p2 n r3 m1) x18 m z33=some r∧tm=fr 51 [(2,.ptr 0 0 0),(3,.ptr 1 0 0),(5,.ptr 2 0 0),(20,.iM q01 p2.Nodes),(21,.i6 (p2.Nodes.length:Int)),(22,.i6 z13),(33,.iM q08 x18.Arcs),(34,.i6 (x18.Arcs.length:Int)),(35,.i6 z33)]∧σ=⟨[(3,.row (q01 x18) 40),(2,.row [.iM q01 r3.1.Nodes] 25),(1,.row [.iM q01 p2.Nodes] 25),(0,.row (q20 p1) 31)],4⟩) (fun tm σ=>q7b z13 (q25 p1 p2 n r3 m1)=some r∧tm=fr 51 [(2,.ptr 0 0 0),(3,.ptr 1 0 0),(5,.ptr 2 0 0),(20,.iM q01 p2.Nodes),(21,.i6 (p2.Nodes.length:Int)),(22,.i6 z13)]∧σ=⟨[(3,.row (q01 x18) 40),(2,.row [.iM q01 r3.1.Nodes] 25),(1,.row [.iM q01 p2.Nodes] 25),(0,.row (q20 p1) 31)],4⟩) n ⟨0,hF,rfl,rfl⟩ ?_ ?_
 rintro _ _ ⟨hF,rfl,rfl⟩
 unfold q7b at hF
 refine go ?_
 exact lC ⟨_,hF,rfl,rfl⟩
 rintro (_|m2) _ _ ⟨z33,hF,rfl,rfl⟩
 cases hF
 unfold q40 at hF
 refine go ?_
 refine cF hF (fun h34 hF=>?_) (fun h34 hF=>?_)
 refine go ?_
 refine WPU.block ?_
 obtain ⟨x35,h36,hF⟩:=q00 hF
 refine go ?_
 refine RS.ix h36 ?_
 refine go ?_
 refine cF hF (fun h37 hF=>?_) (fun h37 hF=>?_)
 exact gx hF
 refine go ?_
 exact lC ⟨_,hF,rfl,rfl⟩
 refine go ?_
 exact xC ⟨hF,rfl,rfl⟩
 refine go ?_
 exact xC ⟨hF,rfl,rfl⟩
def qad (z11:Int) (rc1:Int→Option (Int))  : Option (Int) :=
 rc1 (IntKind.i64.wrap (z11+1))
def q5w (p1:q0n) (z11:Int) (rc1:Int→Option (Int)) (x16:q0d):Nat→Int→Option (Int)
 | 0,_=>none
 | m2+1,z27 =>
  cond (decide (z27<(x16.Arcs.length:Int)))
   (q05 (q11 x16.Arcs z27) fun x29 =>
   cond (decide (x29.Feat ≥ (p1.Feats.length:Int)))
    (some 2)
    ((q5w p1 z11 rc1 x16 m2) (IntKind.i64.wrap (z27+1))))
   (qad z11 rc1)
def q5v (p2:GFS) (n:Nat) (r3:GFS×Int)  : Option (Int) :=
 q05 (q5i n p2 (GFS.mk r3.1.Nodes)) fun r12 =>
 cond (!r12)
  (some 3)
  (some 0)
def q3c (p1:q0n) (p2:GFS) (n:Nat) (r3:GFS×Int):Nat→Int→Option (Int)
 | 0,_=>none
 | m1+1,z11 =>
  cond (decide (z11<(p2.Nodes.length:Int)))
   (q05 (q11 p2.Nodes z11) fun x16 =>
   cond (decide (x16.Typex ≥ (p1.Types.length:Int)))
    (some 2)
    (q5w p1 z11 (q3c p1 p2 n r3 m1) x16 n 0))
   (q5v p2 n r3)
def q9g (n:Nat) (p1:q0n) (p2:GFS):Option (Int) :=
 q05 (qc9 n p2) fun r3 =>
 cond (r3.2 != 0)
  (some r3.2)
  (q3c p1 p2 n r3 n 0)
theorem qhk (n:Nat) (p1:q0n) (p2:GFS) (r:Int) (hF:q9g n p1 p2=some r):EvU Tryz.prog 9 [.agg (q20 p1),.agg [.isl false (List.map q01 p2.Nodes)]] ⟨[],0⟩ (fun u _=>u = .int .i64 r∧Bel 0 u):=by
 unfold q9g at hF
 refine bg2 57 fn9 ?_
 obtain ⟨r3,h4,hF⟩:=q00 hF
 refine go ?_
 refine RS.cl rfl (pC (qo6 n p2 r3 h4) _) fn24 ?_
 refine go ?_
 refine cF hF (fun h5 hF=>?_) (fun h5 hF=>?_)
 exact gx hF
 refine go ?_
 refine gS (l':=[(2,_),(3,_),(5,_),(7,_)]) ?_
 refine z44 (fun m tm σ=>∃ z11:Int,q3c p1 p2 n r3 m z11=some r∧tm=fr 57 [(2,.ptr 0 0 0),(3,.ptr 1 0 0),(5,.ptr 2 0 0),(7,.i6 z11)]∧σ=⟨[(2,.row [.iM q01 r3.1.Nodes] 25),(1,.row [.iM q01 p2.Nodes] 25),(0,.row (q20 p1) 31)],3⟩) (fun tm σ=>q5v p2 n r3=some r∧tm=fr 57 [(3,.ptr 1 0 0),(5,.ptr 2 0 0)]∧σ=⟨[(2,.row [.iM q01 r3.1.Nodes] 25),(1,.row [.iM q01 p2.Nodes] 25),(0,.row (q20 p1) 31)],3⟩) n ⟨0,hF,rfl,rfl⟩ ?_ ?_
 rintro _ _ ⟨hF,rfl,rfl⟩
 unfold q5v at hF
 obtain ⟨r12,h13,hF⟩:=q00 hF
 refine go ?_
 refine RS.cl rfl (pC (q1x n p2 (GFS.mk r3.1.Nodes) r12 h13) _) fn13 ?_
 refine go ?_
 refine cF hF (fun h14 hF=>?_) (fun h14 hF=>?_)
 exact gx hF
 exact gx hF
 rintro (_|m1) _ _ ⟨z11,hF,rfl,rfl⟩
 cases hF
 unfold q3c at hF
 refine go ?_
 refine cF hF (fun h15 hF=>?_) (fun h15 hF=>?_)
 refine go ?_
 refine WPU.block ?_
 obtain ⟨x16,h17,hF⟩:=q00 hF
 refine go ?_
 refine RS.ix h17 ?_
 refine go ?_
 refine cF hF (fun h18 hF=>?_) (fun h18 hF=>?_)
 exact gx hF
 refine go ?_
 refine gS (l':=[(2,_),(3,_),(5,_),(7,_),(8,_),(9,_)]) ?_
 refine z44 (fun m tm σ=>∃ z27:Int,q5w p1 z11 (q3c p1 p2 n r3 m1) x16 m z27=some r∧tm=fr 57 [(2,.ptr 0 0 0),(3,.ptr 1 0 0),(5,.ptr 2 0 0),(7,.i6 z11),(8,.ptr 3 0 0),(9,.i6 z27)]∧σ=⟨[(3,.row (q01 x16) 40),(2,.row [.iM q01 r3.1.Nodes] 25),(1,.row [.iM q01 p2.Nodes] 25),(0,.row (q20 p1) 31)],4⟩) (fun tm σ=>qad z11 (q3c p1 p2 n r3 m1)=some r∧tm=fr 57 [(2,.ptr 0 0 0),(3,.ptr 1 0 0),(5,.ptr 2 0 0),(7,.i6 z11)]∧σ=⟨[(3,.row (q01 x16) 40),(2,.row [.iM q01 r3.1.Nodes] 25),(1,.row [.iM q01 p2.Nodes] 25),(0,.row (q20 p1) 31)],4⟩) n ⟨0,hF,rfl,rfl⟩ ?_ ?_
 rintro _ _ ⟨hF,rfl,rfl⟩
 unfold qad at hF
 refine go ?_
 exact lC ⟨_,hF,rfl,rfl⟩
 rintro (_|m2) _ _ ⟨z27,hF,rfl,rfl⟩
 cases hF
 unfold q5w at hF
 refine go ?_
 refine cF hF (fun h28 hF=>?_) (fun h28 hF=>?_)
 refine go ?_
 refine WPU.block ?_
 obtain ⟨x29,h30,hF⟩:=q00 hF
 refine go ?_
 refine z48 Tryz.tb_ok [] (by kernel_rfl) ?_
 refine gd ?_
 refine RD.ix h30 ?_
 refine gd ?_
 refine RD.done ⟨by kernel_rfl,trivial,?_⟩
 refine go ?_
 refine cF hF (fun h31 hF=>?_) (fun h31 hF=>?_)
 exact gx hF
 refine go ?_
 exact lC ⟨_,hF,rfl,rfl⟩
 refine go ?_
 exact xC ⟨hF,rfl,rfl⟩
 refine go ?_
 exact xC ⟨hF,rfl,rfl⟩
def qa3   : Option (Int) :=
 some 0
def q4t (p1:List q02):Nat→Int→Option (Int)
 | 0,_=>none
 | m1+1,z5 =>
  cond (decide (z5<(p1.length:Int)))
   (q05 (q05 (q11 p1 z5) fun x7 =>
   cond (decide ((x7.Supers.length:Int) > 256))
    (some true)
    (q05 (q11 p1 z5) fun x10 =>
    some (decide ((x10.Feats.length:Int) > 256)))) fun b12 =>
   cond b12
    (some 7)
    ((q4t p1 m1) (IntKind.i64.wrap (z5+1))))
   (qa3)
def qc6 (n:Nat) (p1:List q02):Option (Int) :=
 cond (decide ((p1.length:Int) > 256))
  (some 7)
  (q4t p1 n 0)
theorem qo5 (n:Nat) (p1:List q02) (r:Int) (hF:qc6 n p1=some r):EvU Tryz.prog 62 [.isl false (List.map q03 p1)] ⟨[],0⟩ (fun u _=>u = .int .i64 r∧Bel 0 u):=by
 unfold qc6 at hF
 refine bg1 29 fn62 ?_
 refine go ?_
 refine cF hF (fun h2 hF=>?_) (fun h2 hF=>?_)
 exact gx hF
 refine go ?_
 refine gS (l':=[(0,_),(3,_)]) ?_
 refine z44 (fun m tm σ=>∃ z5:Int,q4t p1 m z5=some r∧tm=fr 29 [(0,.iM q03 p1),(3,.i6 z5)]∧σ=⟨[],0⟩) (fun tm σ=>qa3=some r∧tm=fr 29 []∧σ=⟨[],0⟩) n ⟨0,hF,rfl,rfl⟩ ?_ ?_
 rintro _ _ ⟨hF,rfl,rfl⟩
 unfold qa3 at hF
 exact gx hF
 rintro (_|m1) _ _ ⟨z5,hF,rfl,rfl⟩
 cases hF
 unfold q4t at hF
 refine go ?_
 refine cF hF (fun h6 hF=>?_) (fun h6 hF=>?_)
 refine go ?_
 refine WPU.block ?_
 obtain ⟨b12,h13,hF⟩:=q00 hF
 refine gn ?_
 refine z47 (fun tm σ=>tm=fr 29 [(0,.iM q03 p1),(3,.i6 z5),(28,.bool b12)]∧σ=⟨[],0⟩) ?_ ?_
 rintro _ _ ⟨rfl,rfl⟩
 refine go ?_
 refine cF hF (fun h14 hF=>?_) (fun h14 hF=>?_)
 exact gx hF
 refine go ?_
 exact lC ⟨_,hF,rfl,rfl⟩
 obtain ⟨x7,h8,h13⟩:=q00 h13
 rcases gB h13 with ⟨h9,h13⟩ | ⟨h9,h13⟩
 obtain rfl:=sI h13
 refine go ?_
 refine RS.ix h8 ?_
 refine go ?_
 exact xC ⟨rfl,rfl⟩
 obtain ⟨x10,h11,h13⟩:=q00 h13
 obtain rfl:=sI h13
 refine go ?_
 refine RS.ix h8 ?_
 refine go ?_
 refine RS.ix h11 ?_
 refine go ?_
 exact xC ⟨rfl,rfl⟩
 refine go ?_
 exact xC ⟨hF,rfl,rfl⟩
def q7t (n:Nat) (p1:Int):Option (Bool) :=
 q05 (cond (decide (p1 ≥ 48))
  (some (decide (p1≤57)))
  (some false)) fun b3 =>
 some b3
theorem q3q (n:Nat) (p1:Int) (r:Bool) (hF:q7t n p1=some r):EvU Tryz.prog 104 [.int .u8 p1] ⟨[],0⟩ (fun u _=>u = .bool r∧Bel 0 u):=by
 unfold q7t at hF
 refine bg1 9 fn104 ?_
 obtain ⟨b3,h4,hF⟩:=q00 hF
 refine gr ?_
 refine z47 (fun tm σ=>tm=fr 9 [(2,.bool b3)]∧σ=⟨[],0⟩) ?_ ?_
 rintro _ _ ⟨rfl,rfl⟩
 exact gx hF
 rcases gB h4 with ⟨h2,h4⟩ | ⟨h2,h4⟩
 exact gy h4
 exact gy h4
def qdt (n:Nat) (p1:Int):Option (Bool) :=
 q05 (cond (decide (p1 ≥ 65))
  (some (decide (p1≤90)))
  (some false)) fun b3 =>
 some b3
theorem qdu (n:Nat) (p1:Int) (r:Bool) (hF:qdt n p1=some r):EvU Tryz.prog 111 [.int .u8 p1] ⟨[],0⟩ (fun u _=>u = .bool r∧Bel 0 u):=by
 unfold qdt at hF
 refine bg1 9 fn111 ?_
 obtain ⟨b3,h4,hF⟩:=q00 hF
 refine gr ?_
 refine z47 (fun tm σ=>tm=fr 9 [(2,.bool b3)]∧σ=⟨[],0⟩) ?_ ?_
 rintro _ _ ⟨rfl,rfl⟩
 exact gx hF
 rcases gB h4 with ⟨h2,h4⟩ | ⟨h2,h4⟩
 exact gy h4
 exact gy h4
def qbz (n:Nat) (p1:Int):Option (Bool) :=
 q05 (cond (decide (p1 ≥ 97))
  (some (decide (p1≤122)))
  (some false)) fun b3 =>
 some b3
theorem qhc (n:Nat) (p1:Int) (r:Bool) (hF:qbz n p1=some r):EvU Tryz.prog 112 [.int .u8 p1] ⟨[],0⟩ (fun u _=>u = .bool r∧Bel 0 u):=by
 unfold qbz at hF
 refine bg1 9 fn112 ?_
 obtain ⟨b3,h4,hF⟩:=q00 hF
 refine gr ?_
 refine z47 (fun tm σ=>tm=fr 9 [(2,.bool b3)]∧σ=⟨[],0⟩) ?_ ?_
 rintro _ _ ⟨rfl,rfl⟩
 exact gx hF
 rcases gB h4 with ⟨h2,h4⟩ | ⟨h2,h4⟩
 exact gy h4
 exact gy h4
def qd5 (n:Nat) (p1:Int) (p2:Bool):Option (Bool) :=
 q05 (q05 (q7t n p1) fun r3 =>
 cond r3
  (some true)
  (cond (p1 == 45)
   (some true)
   (cond p2
    (q05 (qdt n p1) fun r8 =>
    cond r8
     (some true)
     (cond (!p2)
      (q05 (qbz n p1) fun r12 =>
      some r12)
      (some false)))
    (cond (!p2)
     (q05 (qbz n p1) fun r15 =>
     some r15)
     (some false))))) fun b17 =>
 some b17
theorem qq1 (n:Nat) (p1:Int) (p2:Bool) (r:Bool) (hF:qd5 n p1 p2=some r):EvU Tryz.prog 105 [.int .u8 p1,.bool p2] ⟨[],0⟩ (fun u _=>u = .bool r∧Bel 0 u):=by
 unfold qd5 at hF
 refine bg2 26 fn105 ?_
 obtain ⟨b17,h18,hF⟩:=q00 hF
 refine gr ?_
 refine z47 (fun tm σ=>tm=fr 26 [(4,.bool b17)]∧σ=⟨[],0⟩) ?_ ?_
 rintro _ _ ⟨rfl,rfl⟩
 exact gx hF
 obtain ⟨r3,h4,h18⟩:=q00 h18
 rcases gB h18 with ⟨h5,h18⟩ | ⟨h5,h18⟩
 obtain rfl:=sI h18
 refine go ?_
 refine RS.cl rfl (pC (q3q n p1 r3 h4) _) fn104 ?_
 refine go ?_
 repeat refine RS.no (qll rfl rfl rfl) rfl rfl ?_
 refine go ?_
 repeat refine RS.no (qll rfl rfl rfl) rfl rfl ?_
 refine go ?_
 exact xC ⟨rfl,rfl⟩
 rcases gB h18 with ⟨h6,h18⟩ | ⟨h6,h18⟩
 obtain rfl:=sI h18
 refine go ?_
 refine RS.cl rfl (pC (q3q n p1 r3 h4) _) fn104 ?_
 refine go ?_
 repeat refine RS.no (qll rfl rfl rfl) rfl rfl ?_
 refine go ?_
 repeat refine RS.no (qll rfl rfl rfl) rfl rfl ?_
 refine go ?_
 exact xC ⟨rfl,rfl⟩
 rcases gB h18 with ⟨h7,h18⟩ | ⟨h7,h18⟩
 obtain ⟨r8,h9,h18⟩:=q00 h18
 rcases gB h18 with ⟨h10,h18⟩ | ⟨h10,h18⟩
 obtain rfl:=sI h18
 refine go ?_
 refine RS.cl rfl (pC (q3q n p1 r3 h4) _) fn104 ?_
 refine go ?_
 refine RS.cl rfl (pC (qdu n p1 r8 h9) _) fn111 ?_
 refine go ?_
 repeat refine RS.no (qll rfl rfl rfl) rfl rfl ?_
 refine go ?_
 exact xC ⟨rfl,rfl⟩
 rcases gB h18 with ⟨h11,h18⟩ | ⟨h11,h18⟩
 obtain ⟨r12,h13,h18⟩:=q00 h18
 obtain rfl:=sI h18
 refine go ?_
 refine RS.cl rfl (pC (q3q n p1 r3 h4) _) fn104 ?_
 refine go ?_
 refine RS.cl rfl (pC (qdu n p1 r8 h9) _) fn111 ?_
 refine go ?_
 refine RS.cl rfl (pC (qhc n p1 r12 h13) _) fn112 ?_
 refine go ?_
 exact xC ⟨rfl,rfl⟩
 obtain rfl:=sI h18
 refine go ?_
 refine RS.cl rfl (pC (q3q n p1 r3 h4) _) fn104 ?_
 refine go ?_
 refine RS.cl rfl (pC (qdu n p1 r8 h9) _) fn111 ?_
 refine go ?_
 exact xC ⟨rfl,rfl⟩
 rcases gB h18 with ⟨h14,h18⟩ | ⟨h14,h18⟩
 obtain ⟨r15,h16,h18⟩:=q00 h18
 obtain rfl:=sI h18
 refine go ?_
 refine RS.cl rfl (pC (q3q n p1 r3 h4) _) fn104 ?_
 refine go ?_
 refine RS.cl rfl (pC (qhc n p1 r15 h16) _) fn112 ?_
 refine go ?_
 exact xC ⟨rfl,rfl⟩
 obtain rfl:=sI h18
 refine go ?_
 refine RS.cl rfl (pC (q3q n p1 r3 h4) _) fn104 ?_
 refine go ?_
 exact xC ⟨rfl,rfl⟩
def q9o   : Option (Bool) :=
 some true
def q4p (p1:List UInt8) (p2:Bool) (n:Nat):Nat→Int→Option (Bool)
 | 0,_=>none
 | m1+1,z18 =>
  cond (decide (z18<(p1.length:Int)))
   (q05 (qrq p1 z18) fun x20 =>
   q05 (qd5 n x20 p2) fun r22 =>
   cond (!r22)
    (some false)
    ((q4p p1 p2 n m1) (IntKind.i64.wrap (z18+1))))
   (q9o)
def q9b (n:Nat) (p1:List UInt8) (p2:Bool):Option (Bool) :=
 q05 (cond (decide ((p1.length:Int)<1))
  (some true)
  (cond (decide ((p1.length:Int) > 32))
   (some true)
   (q05 (qrq p1 0) fun x5 =>
   q05 (q7t n x5) fun r7 =>
   cond r7
    (some true)
    (q05 (qrq p1 0) fun x10 =>
    some (x10 == 45))))) fun b12 =>
 cond b12
  (some false)
  (q4p p1 p2 n n 0)
theorem qhd (n:Nat) (p1:List UInt8) (p2:Bool) (r:Bool) (hF:q9b n p1 p2=some r):EvU Tryz.prog 93 [.str p1,.bool p2] ⟨[],0⟩ (fun u _=>u = .bool r∧Bel 0 u):=by
 unfold q9b at hF
 refine bg2 36 fn93 ?_
 obtain ⟨b12,h13,hF⟩:=q00 hF
 refine gr ?_
 refine z47 (fun tm σ=>tm=fr 36 [(0,.str p1),(1,.bool p2),(23,.bool b12)]∧σ=⟨[],0⟩) ?_ ?_
 rintro _ _ ⟨rfl,rfl⟩
 refine go ?_
 refine cF hF (fun h14 hF=>?_) (fun h14 hF=>?_)
 exact gx hF
 refine go ?_
 refine gS (l':=[(0,_),(1,_),(5,_)]) ?_
 refine z44 (fun m tm σ=>∃ z18:Int,q4p p1 p2 n m z18=some r∧tm=fr 36 [(0,.str p1),(1,.bool p2),(5,.i6 z18)]∧σ=⟨[],0⟩) (fun tm σ=>q9o=some r∧tm=fr 36 []∧σ=⟨[],0⟩) n ⟨0,hF,rfl,rfl⟩ ?_ ?_
 rintro _ _ ⟨hF,rfl,rfl⟩
 unfold q9o at hF
 exact gx hF
 rintro (_|m1) _ _ ⟨z18,hF,rfl,rfl⟩
 cases hF
 unfold q4p at hF
 refine go ?_
 refine RS.q (u:=.i6 (p1.length:Int)) rfl (qbx rfl rfl rfl (by simp only [qnm,un9.h])) ?_
 refine go ?_
 refine cF hF (fun h19 hF=>?_) (fun h19 hF=>?_)
 refine go ?_
 refine WPU.block ?_
 obtain ⟨x20,h21,hF⟩:=q00 hF
 obtain ⟨r22,h23,hF⟩:=q00 hF
 refine go ?_
 refine RS.q (u:=.int .u8 x20) rfl (qns un9.h rfl rfl h21) ?_
 refine go ?_
 refine RS.cl rfl (pC (qq1 n x20 p2 r22 h23) _) fn105 ?_
 refine go ?_
 refine cF hF (fun h24 hF=>?_) (fun h24 hF=>?_)
 exact gx hF
 refine go ?_
 exact lC ⟨_,hF,rfl,rfl⟩
 refine go ?_
 exact xC ⟨hF,rfl,rfl⟩
 rcases gB h13 with ⟨h3,h13⟩ | ⟨h3,h13⟩
 obtain rfl:=sI h13
 refine go ?_
 refine RS.q (u:=.i6 (p1.length:Int)) rfl (qbx rfl rfl rfl (by simp only [qnm,un9.h])) ?_
 refine go ?_
 exact xC ⟨rfl,rfl⟩
 rcases gB h13 with ⟨h4,h13⟩ | ⟨h4,h13⟩
 obtain rfl:=sI h13
 refine go ?_
 refine RS.q (u:=.i6 (p1.length:Int)) rfl (qbx rfl rfl rfl (by simp only [qnm,un9.h])) ?_
 refine go ?_
 refine RS.w (u:=.i6 (p1.length:Int)) rfl (qbx rfl rfl rfl (by simp only [qnm,un9.h])) ?_
 refine go ?_
 exact xC ⟨rfl,rfl⟩
 obtain ⟨x5,h6,h13⟩:=q00 h13
 obtain ⟨r7,h8,h13⟩:=q00 h13
 rcases gB h13 with ⟨h9,h13⟩ | ⟨h9,h13⟩
 obtain rfl:=sI h13
 refine go ?_
 refine RS.q (u:=.i6 (p1.length:Int)) rfl (qbx rfl rfl rfl (by simp only [qnm,un9.h])) ?_
 refine go ?_
 refine RS.w (u:=.i6 (p1.length:Int)) rfl (qbx rfl rfl rfl (by simp only [qnm,un9.h])) ?_
 refine go ?_
 refine RS.w (u:=.int .u8 x5) rfl (qns un9.h rfl rfl h6) (RS.cl rfl (pC (q3q n x5 r7 h8) _) fn104 ?_)
 refine go ?_
 exact xC ⟨rfl,rfl⟩
 obtain ⟨x10,h11,h13⟩:=q00 h13
 obtain rfl:=sI h13
 refine go ?_
 refine RS.q (u:=.i6 (p1.length:Int)) rfl (qbx rfl rfl rfl (by simp only [qnm,un9.h])) ?_
 refine go ?_
 refine RS.w (u:=.i6 (p1.length:Int)) rfl (qbx rfl rfl rfl (by simp only [qnm,un9.h])) ?_
 refine go ?_
 refine RS.w (u:=.int .u8 x5) rfl (qns un9.h rfl rfl h6) (RS.cl rfl (pC (q3q n x5 r7 h8) _) fn104 ?_)
 refine go ?_
 refine RS.w (u:=.int .u8 x10) rfl (qns un9.h rfl rfl h11) ?_
 refine go ?_
 exact xC ⟨rfl,rfl⟩
def qd4 (n:Nat) (p1:List UInt8):Option (Bool) :=
 q05 (q9b n p1 false) fun r2 =>
 some r2
theorem qq0 (n:Nat) (p1:List UInt8) (r:Bool) (hF:qd4 n p1=some r):EvU Tryz.prog 83 [.str p1] ⟨[],0⟩ (fun u _=>u = .bool r∧Bel 0 u):=by
 unfold qd4 at hF
 refine bg1 5 fn83 ?_
 obtain ⟨r2,h3,hF⟩:=q00 hF
 refine go ?_
 refine RS.cl rfl (pC (qhd n p1 false r2 h3) _) fn93 ?_
 exact gx hF
def qbd   : Option (Int) :=
 some (-1)
def q5f (p1:List q02) (p2:List UInt8):Nat→Int→Option (Int)
 | 0,_=>none
 | m1+1,z6 =>
  cond (decide (z6<(p1.length:Int)))
   (q05 (q11 p1 z6) fun x8 =>
   cond (q1l x8.Name p2)
    (some z6)
    ((q5f p1 p2 m1) (IntKind.i64.wrap (z6+1))))
   (qbd)
def q58 (n:Nat) (p1:List q02) (p2:List UInt8):Option (Int) :=
 q5f p1 p2 n 0
theorem q83 (n:Nat) (p1:List q02) (p2:List UInt8) (r:Int) (hF:q58 n p1 p2=some r):EvU Tryz.prog 84 [.isl false (List.map q03 p1),.str p2] ⟨[],0⟩ (fun u _=>u = .int .i64 r∧Bel 0 u):=by
 unfold q58 at hF
 refine bg2 20 fn84 ?_
 refine go ?_
 refine gS (l':=[(0,_),(1,_),(5,_)]) ?_
 refine z44 (fun m tm σ=>∃ z6:Int,q5f p1 p2 m z6=some r∧tm=fr 20 [(0,.iM q03 p1),(1,.str p2),(5,.i6 z6)]∧σ=⟨[],0⟩) (fun tm σ=>qbd=some r∧tm=fr 20 []∧σ=⟨[],0⟩) n ⟨0,hF,rfl,rfl⟩ ?_ ?_
 rintro _ _ ⟨hF,rfl,rfl⟩
 unfold qbd at hF
 exact gx hF
 rintro (_|m1) _ _ ⟨z6,hF,rfl,rfl⟩
 cases hF
 unfold q5f at hF
 refine go ?_
 refine cF hF (fun h7 hF=>?_) (fun h7 hF=>?_)
 refine go ?_
 refine WPU.block ?_
 obtain ⟨x8,h9,hF⟩:=q00 hF
 refine go ?_
 refine RS.ix h9 ?_
 refine go ?_
 refine RS.q (u:=.bool (q1l x8.Name p2)) rfl (qea rfl rfl rfl rfl) ?_
 refine go ?_
 refine cF hF (fun h10 hF=>?_) (fun h10 hF=>?_)
 exact gx hF
 refine go ?_
 exact lC ⟨_,hF,rfl,rfl⟩
 refine go ?_
 exact xC ⟨hF,rfl,rfl⟩
def qa1   : Option (Int) :=
 some 0
def q4r (p1:List q02) (n:Nat):Nat→Int→Option (Int)
 | 0,_=>none
 | m1+1,z4 =>
  cond (decide (z4<(p1.length:Int)))
   (q05 (q11 p1 z4) fun x6 =>
   q05 (qd4 n x6.Name) fun r8 =>
   cond (!r8)
    (some 1)
    (q05 (q11 p1 z4) fun x11 =>
    q05 (q58 n p1 x11.Name) fun r13 =>
    cond (decide (r13<z4))
     (some 4)
     ((q4r p1 n m1) (IntKind.i64.wrap (z4+1)))))
   (qa1)
def qdx (n:Nat) (p1:List q02):Option (Int) :=
 q4r p1 n n 0
theorem qo3 (n:Nat) (p1:List q02) (r:Int) (hF:qdx n p1=some r):EvU Tryz.prog 63 [.isl false (List.map q03 p1)] ⟨[],0⟩ (fun u _=>u = .int .i64 r∧Bel 0 u):=by
 unfold qdx at hF
 refine bg1 26 fn63 ?_
 refine go ?_
 refine gS (l':=[(0,_),(3,_)]) ?_
 refine z44 (fun m tm σ=>∃ z4:Int,q4r p1 n m z4=some r∧tm=fr 26 [(0,.iM q03 p1),(3,.i6 z4)]∧σ=⟨[],0⟩) (fun tm σ=>qa1=some r∧tm=fr 26 []∧σ=⟨[],0⟩) n ⟨0,hF,rfl,rfl⟩ ?_ ?_
 rintro _ _ ⟨hF,rfl,rfl⟩
 unfold qa1 at hF
 exact gx hF
 rintro (_|m1) _ _ ⟨z4,hF,rfl,rfl⟩
 cases hF
 unfold q4r at hF
 refine go ?_
 refine cF hF (fun h5 hF=>?_) (fun h5 hF=>?_)
 refine go ?_
 refine WPU.block ?_
 obtain ⟨x6,h7,hF⟩:=q00 hF
 obtain ⟨r8,h9,hF⟩:=q00 hF
 refine go ?_
 refine RS.ix h7 ?_
 refine go ?_
 refine RS.cl rfl (pC (qq0 n x6.Name r8 h9) _) fn83 ?_
 refine go ?_
 refine cF hF (fun h10 hF=>?_) (fun h10 hF=>?_)
 exact gx hF
 obtain ⟨x11,h12,hF⟩:=q00 hF
 obtain ⟨r13,h14,hF⟩:=q00 hF
 refine go ?_
 refine RS.ix h12 ?_
 refine go ?_
 refine RS.cl rfl (pC (q83 n p1 x11.Name r13 h14) _) fn84 ?_
 refine go ?_
 refine cF hF (fun h15 hF=>?_) (fun h15 hF=>?_)
 exact gx hF
 refine go ?_
 exact lC ⟨_,hF,rfl,rfl⟩
 refine go ?_
 exact xC ⟨hF,rfl,rfl⟩
def q9u   : Option (Bool) :=
 some false
def q5t (p1:List (List UInt8)) (p2:List UInt8):Nat→Int→Option (Bool)
 | 0,_=>none
 | m1+1,z6 =>
  cond (decide (z6<(p1.length:Int)))
   (q05 (q11 p1 z6) fun x8 =>
   cond (q1l x8 p2)
    (some true)
    ((q5t p1 p2 m1) (IntKind.i64.wrap (z6+1))))
   (q9u)
def q3j (n:Nat) (p1:List (List UInt8)) (p2:List UInt8):Option (Bool) :=
 q5t p1 p2 n 0
theorem q2p (n:Nat) (p1:List (List UInt8)) (p2:List UInt8) (r:Bool) (hF:q3j n p1 p2=some r):EvU Tryz.prog 67 [.isl false (List.map cS p1),.str p2] ⟨[],0⟩ (fun u _=>u = .bool r∧Bel 0 u):=by
 unfold q3j at hF
 refine bg2 18 fn67 ?_
 refine go ?_
 refine gS (l':=[(0,_),(1,_),(5,_)]) ?_
 refine z44 (fun m tm σ=>∃ z6:Int,q5t p1 p2 m z6=some r∧tm=fr 18 [(0,.iM cS p1),(1,.str p2),(5,.i6 z6)]∧σ=⟨[],0⟩) (fun tm σ=>q9u=some r∧tm=fr 18 []∧σ=⟨[],0⟩) n ⟨0,hF,rfl,rfl⟩ ?_ ?_
 rintro _ _ ⟨hF,rfl,rfl⟩
 unfold q9u at hF
 exact gx hF
 rintro (_|m1) _ _ ⟨z6,hF,rfl,rfl⟩
 cases hF
 unfold q5t at hF
 refine go ?_
 refine cF hF (fun h7 hF=>?_) (fun h7 hF=>?_)
 refine go ?_
 refine WPU.block ?_
 obtain ⟨x8,h9,hF⟩:=q00 hF
 refine go ?_
 refine RS.ix h9 ?_
 refine go ?_
 refine RS.q (u:=.bool (q1l x8 p2)) rfl (qea rfl rfl rfl rfl) ?_
 refine go ?_
 refine cF hF (fun h10 hF=>?_) (fun h10 hF=>?_)
 exact gx hF
 refine go ?_
 exact lC ⟨_,hF,rfl,rfl⟩
 refine go ?_
 exact xC ⟨hF,rfl,rfl⟩
def q8l (z4:Int) (rc1:Int→Option (Int))  : Option (Int) :=
 rc1 (IntKind.i64.wrap (z4+1))
def q46 (p1:List q02) (n:Nat) (z4:Int) (rc1:Int→Option (Int)) (x6:q02):Nat→Int→Option (Int)
 | 0,_=>none
 | m2+1,z12 =>
  cond (decide (z12<(x6.Supers.length:Int)))
   (q05 (q11 x6.Supers z12) fun x14 =>
   q05 (q58 n p1 x14) fun r16 =>
   cond (decide (r16<0))
    (some 5)
    (q05 (qs6 x6.Supers 0 z12) fun l19 =>
    q05 (q11 x6.Supers z12) fun x23 =>
    q05 (q3j n l19 x23) fun r25 =>
    cond r25
     (some 4)
     ((q46 p1 n z4 rc1 x6 m2) (IntKind.i64.wrap (z12+1)))))
   (q8l z4 rc1)
def q8k   : Option (Int) :=
 some 0
def q27 (p1:List q02) (n:Nat):Nat→Int→Option (Int)
 | 0,_=>none
 | m1+1,z4 =>
  cond (decide (z4<(p1.length:Int)))
   (q05 (q11 p1 z4) fun x6 =>
   q46 p1 n z4 (q27 p1 n m1) x6 n 0)
   (q8k)
def qcn (n:Nat) (p1:List q02):Option (Int) :=
 q27 p1 n n 0
theorem qm1 (n:Nat) (p1:List q02) (r:Int) (hF:qcn n p1=some r):EvU Tryz.prog 64 [.isl false (List.map q03 p1)] ⟨[],0⟩ (fun u _=>u = .int .i64 r∧Bel 0 u):=by
 unfold qcn at hF
 refine bg1 38 fn64 ?_
 refine go ?_
 refine gS (l':=[(0,_),(3,_)]) ?_
 refine z44 (fun m tm σ=>∃ z4:Int,q27 p1 n m z4=some r∧tm=fr 38 [(0,.iM q03 p1),(3,.i6 z4)]∧σ=⟨[],0⟩) (fun tm σ=>q8k=some r∧tm=fr 38 []∧σ=⟨[],0⟩) n ⟨0,hF,rfl,rfl⟩ ?_ ?_
 rintro _ _ ⟨hF,rfl,rfl⟩
 unfold q8k at hF
 exact gx hF
 rintro (_|m1) _ _ ⟨z4,hF,rfl,rfl⟩
 cases hF
 unfold q27 at hF
 refine go ?_
 refine cF hF (fun h5 hF=>?_) (fun h5 hF=>?_)
 refine go ?_
 refine WPU.block ?_
 obtain ⟨x6,h7,hF⟩:=q00 hF
 refine go ?_
 refine RS.ix h7 ?_
 refine go ?_
 refine gS (l':=[(0,_),(3,_),(4,_),(5,_)]) ?_
 refine z44 (fun m tm σ=>∃ z12:Int,q46 p1 n z4 (q27 p1 n m1) x6 m z12=some r∧tm=fr 38 [(0,.iM q03 p1),(3,.i6 z4),(4,.iM cS x6.Supers),(5,.i6 z12)]∧σ=⟨[],0⟩) (fun tm σ=>q8l z4 (q27 p1 n m1)=some r∧tm=fr 38 [(0,.iM q03 p1),(3,.i6 z4)]∧σ=⟨[],0⟩) n ⟨0,hF,rfl,rfl⟩ ?_ ?_
 rintro _ _ ⟨hF,rfl,rfl⟩
 unfold q8l at hF
 refine go ?_
 exact lC ⟨_,hF,rfl,rfl⟩
 rintro (_|m2) _ _ ⟨z12,hF,rfl,rfl⟩
 cases hF
 unfold q46 at hF
 refine go ?_
 refine cF hF (fun h13 hF=>?_) (fun h13 hF=>?_)
 refine go ?_
 refine WPU.block ?_
 obtain ⟨x14,h15,hF⟩:=q00 hF
 obtain ⟨r16,h17,hF⟩:=q00 hF
 refine go ?_
 refine RS.ix h15 ?_
 refine go ?_
 refine RS.cl rfl (pC (q83 n p1 x14 r16 h17) _) fn84 ?_
 refine go ?_
 refine cF hF (fun h18 hF=>?_) (fun h18 hF=>?_)
 exact gx hF
 obtain ⟨l19,h20,hF⟩:=q00 hF
 obtain ⟨h21,h22⟩:=qvu cS .i64 h20
 obtain ⟨x23,h24,hF⟩:=q00 hF
 obtain ⟨r25,h26,hF⟩:=q00 hF
 refine go ?_
 refine z48 Tryz.tb_ok [] (by kernel_rfl) ?_
 refine gd ?_
 refine RD.q (u:=.iM cS l19) rfl (qck rfl qqo (z0w rfl) qqo (qtk cS un66.h (q0q if9.h) qfv h21 h22)) ?_
 refine gd ?_
 refine RD.ix h24 ?_
 refine gd ?_
 refine z4a rfl (pC (q2p n l19 x23 r25 h26)) fn67 ?_
 refine RD.done ⟨by kernel_rfl,trivial,?_⟩
 refine go ?_
 refine cF hF (fun h27 hF=>?_) (fun h27 hF=>?_)
 exact gx hF
 refine go ?_
 exact lC ⟨_,hF,rfl,rfl⟩
 refine go ?_
 exact xC ⟨hF,rfl,rfl⟩
 refine go ?_
 exact xC ⟨hF,rfl,rfl⟩
def qa2   : Option (Bool) :=
 some true
def q4s (p1:q02) (p2:List (List UInt8)) (n:Nat):Nat→Int→Option (Bool)
 | 0,_=>none
 | m1+1,z8 =>
  cond (decide (z8<(p1.Supers.length:Int)))
   (q05 (q11 p1.Supers z8) fun x10 =>
   q05 (q3j n p2 x10) fun r12 =>
   cond (!r12)
    (some false)
    ((q4s p1 p2 n m1) (IntKind.i64.wrap (z8+1))))
   (qa2)
def qdy (n:Nat) (p1:q02) (p2:List (List UInt8)):Option (Bool) :=
 q4s p1 p2 n n 0
theorem qo4 (n:Nat) (p1:q02) (p2:List (List UInt8)) (r:Bool) (hF:qdy n p1 p2=some r):EvU Tryz.prog 85 [.agg (q03 p1),.isl false (List.map cS p2)] ⟨[],0⟩ (fun u _=>u = .bool r∧Bel 0 u):=by
 unfold qdy at hF
 refine bg2 21 fn85 ?_
 refine go ?_
 refine gS (l':=[(1,_),(2,_),(5,_)]) ?_
 refine z44 (fun m tm σ=>∃ z8:Int,q4s p1 p2 n m z8=some r∧tm=fr 21 [(1,.iM cS p2),(2,.ptr 0 0 0),(5,.i6 z8)]∧σ=⟨[(0,.row (q03 p1) 69)],1⟩) (fun tm σ=>qa2=some r∧tm=fr 21 []∧σ=⟨[(0,.row (q03 p1) 69)],1⟩) n ⟨0,hF,rfl,rfl⟩ ?_ ?_
 rintro _ _ ⟨hF,rfl,rfl⟩
 unfold qa2 at hF
 exact gx hF
 rintro (_|m1) _ _ ⟨z8,hF,rfl,rfl⟩
 cases hF
 unfold q4s at hF
 refine go ?_
 refine cF hF (fun h9 hF=>?_) (fun h9 hF=>?_)
 refine go ?_
 refine WPU.block ?_
 obtain ⟨x10,h11,hF⟩:=q00 hF
 obtain ⟨r12,h13,hF⟩:=q00 hF
 refine go ?_
 refine RS.ix h11 ?_
 refine go ?_
 refine RS.cl rfl (pC (q2p n p2 x10 r12 h13) _) fn67 ?_
 refine go ?_
 refine cF hF (fun h14 hF=>?_) (fun h14 hF=>?_)
 exact gx hF
 refine go ?_
 exact lC ⟨_,hF,rfl,rfl⟩
 refine go ?_
 exact xC ⟨hF,rfl,rfl⟩
def q6e (rc1:Bool→(List (List UInt8))→Option ((List (List UInt8)))) (b21:Bool) (l24:List (List UInt8)):Option ((List (List UInt8))) :=
 rc1 b21 l24
def q6f (z20:Int) (rc2:Bool→(List UInt8)→Int→Option ((List (List UInt8)))) (s46:List UInt8):Option ((List (List UInt8))) :=
 rc2 true s46 (IntKind.i64.wrap (z20+1))
def q8j (l7:List (List UInt8)) (rc1:Bool→(List (List UInt8))→Option ((List (List UInt8)))) (b21:Bool) (s22:List UInt8):Option ((List (List UInt8))) :=
 cond b21
  (q1m ((l7.length+1)*16≤140737488355328∧l7.length+1≤140737488355328) (
  q6e rc1 b21 (l7++[s22])))
  (q6e rc1 b21 l7)
def q26 (p1:List q02) (n:Nat) (l7:List (List UInt8)) (rc1:Bool→(List (List UInt8))→Option ((List (List UInt8)))):Nat→Bool→(List UInt8)→Int→Option ((List (List UInt8)))
 | 0,_,_,_=>none
 | m2+1,b18,s19,z20 =>
  cond (decide (z20<(p1.length:Int)))
   (q05 (q05 (q11 p1 z20) fun x28 =>
   q05 (q3j n l7 x28.Name) fun r30 =>
   cond r30
    (some true)
    (q05 (q11 p1 z20) fun x33 =>
    q05 (qdy n x33 l7) fun r35 =>
    some (!r35))) fun b37 =>
   cond b37
    ((q26 p1 n l7 rc1 m2) b18 s19 (IntKind.i64.wrap (z20+1)))
    (q05 (cond (!b18)
     (some true)
     (q05 (q11 p1 z20) fun x41 =>
     some (q1e x41.Name s19))) fun b43 =>
    cond b43
     (q05 (q11 p1 z20) fun x47 =>
     q6f z20 (q26 p1 n l7 rc1 m2) x47.Name)
     (q6f z20 (q26 p1 n l7 rc1 m2) s19)))
   (q8j l7 rc1 b18 s19)
def q8i  (l9:List (List UInt8)):Option ((List (List UInt8))) :=
 some l9
def q1r (p1:List q02) (n:Nat):Nat→Bool→(List (List UInt8))→Option ((List (List UInt8)))
 | 0,_,_=>none
 | m1+1,b6,l7 =>
  cond b6
   (q26 p1 n l7 (q1r p1 n m1) n false [] 0)
   (q8i l7)
def qcm (n:Nat) (p1:List q02):Option ((List (List UInt8))) :=
 q1r p1 n n true ([]:List (List UInt8))
end Go.Proofs
end
