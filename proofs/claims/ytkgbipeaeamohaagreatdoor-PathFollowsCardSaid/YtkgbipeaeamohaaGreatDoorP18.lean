/-
  Texts of the walk: H4.
-/
import Derived.Test.YtkgbipeaeamohaaGreatDoorP17
set_option linter.unusedSimpArgs false
set_option linter.unusedVariables false
section
namespace Go.Proofs
open Go Go.Rx Go.Vx Tryz
set_option maxRecDepth 20000
set_option maxHeartbeats 4000000
set_option synthInstance.maxSize 4000
set_option synthInstance.maxHeartbeats 200000
structure q0n where
 Typex:Int
 Arcs:List q0s
def q01 (x:q0n):List U:=[.int .i64 x.Typex,.isl false (List.map q05 x.Arcs)]
theorem qfr (n:Nat) (x:q0n):q24 n (q01 x):=by
 simp only [q01,q24,Bel,true_and,and_true]
 exact q52 _ (fun q=>qhp _ q) _
theorem q1b (x:q0n):(q01 x).length=2:=rfl
instance:qv0 q01 2:=⟨q1b⟩
instance:BF q01:=⟨qfr⟩
instance (n:Nat) (x:q0n):BUL n (q01 x):=⟨qfr n x⟩
structure GFS where
 Nodes:List q0n
def cGFS (x:GFS):List U:=[.isl false (List.map q01 x.Nodes)]
structure q0q where
 A:List Int
 B:List Int
def q0r (x:q0q):List U:=[.isl false (List.map (cI .i64) x.A),.isl false (List.map (cI .i64) x.B)]
theorem qos (n:Nat) (x:q0q):q24 n (q0r x):=by
 simp only [q0r,q24,Bel,true_and,and_true]
 exact ⟨q52 _ (fun q=>qck _ .i64 q) _,q52 _ (fun q=>qck _ .i64 q) _⟩
theorem q3r (x:q0q):(q0r x).length=2:=rfl
instance:qv0 q0r 2:=⟨q3r⟩
instance:BF q0r:=⟨qos⟩
structure q1c where
 Feat:Int
 Value:Int
def q0y (x:q1c):List U:=[.int .i64 x.Feat,.int .i64 x.Value]
theorem qkc (n:Nat) (x:q1c):q24 n (q0y x):=by
 simp only [q0y,q24,Bel,true_and,and_true]
theorem qkk (x:q1c):(q0y x).length=2:=rfl
instance:qv0 q0y 2:=⟨qkk⟩
instance:BF q0y:=⟨qkc⟩
structure qcj where
 Name:List UInt8
 Code:List Int
 Supers:List Int
 Feats:List q1c
def q8v (x:qcj):List U:=[.str x.Name,.isl false (List.map (cI .u64) x.Code),.isl false (List.map (cI .i64) x.Supers),.isl false (List.map q0y x.Feats)]
theorem qo2 (n:Nat) (x:qcj):q24 n (q8v x):=by
 simp only [q8v,q24,Bel,true_and,and_true]
 exact ⟨q52 _ (fun q=>qck _ .u64 q) _,q52 _ (fun q=>qck _ .i64 q) _,q52 _ (fun q=>qkc _ q) _⟩
theorem qoc (x:qcj):(q8v x).length=4:=rfl
instance:qv0 q8v 4:=⟨qoc⟩
instance:BF q8v:=⟨qo2⟩
structure q1w where
 Name:List UInt8
 Intro:Int
def q1f (x:q1w):List U:=[.str x.Name,.int .i64 x.Intro]
theorem qhq (n:Nat) (x:q1w):q24 n (q1f x):=by
 simp only [q1f,q24,Bel,true_and,and_true]
theorem q9q (x:q1w):(q1f x).length=2:=rfl
instance:qv0 q1f 2:=⟨q9q⟩
instance:BF q1f:=⟨qhq⟩
def qcn (x y:q1w):Bool:=(q1x x.Name y.Name&&(x.Intro == y.Intro))
structure q1a where
 Types:List qcj
 Feats:List q1w
def q07 (x:q1a):List U:=[.isl false (List.map q8v x.Types),.isl false (List.map q1f x.Feats)]
theorem qls (n:Nat) (x:q1a):q24 n (q07 x):=by
 simp only [q07,q24,Bel,true_and,and_true]
 exact ⟨q52 _ (fun q=>qo2 _ q) _,q52 _ (fun q=>qhq _ q) _⟩
instance (n:Nat) (x:q1a):BUL n (q07 x):=⟨qls n x⟩
structure q0x where
 Feat:List UInt8
 Value:List UInt8
def q0e (x:q0x):List U:=[.str x.Feat,.str x.Value]
theorem qgl (n:Nat) (x:q0x):q24 n (q0e x):=by
 simp only [q0e,q24,Bel,true_and,and_true]
theorem q2h (x:q0x):(q0e x).length=2:=rfl
instance:qv0 q0e 2:=⟨q2h⟩
instance:BF q0e:=⟨qgl⟩
structure q06 where
 Name:List UInt8
 Supers:List (List UInt8)
 Feats:List q0x
def q02 (x:q06):List U:=[.str x.Name,.isl false (List.map cS x.Supers),.isl false (List.map q0e x.Feats)]
theorem qgm (n:Nat) (x:q06):q24 n (q02 x):=by
 simp only [q02,q24,Bel,true_and,and_true]
 exact ⟨q52 _ (fun q=>z1n _ q) _,q52 _ (fun q=>qgl _ q) _⟩
theorem q0m (x:q06):(q02 x).length=3:=rfl
instance:BF q02:=⟨qgm⟩
instance (n:Nat) (x:q06):BUL n (q02 x):=⟨qgm n x⟩
structure q13 where
 Name:List UInt8
 Code:List Int
def q0h (x:q13):List U:=[.str x.Name,.isl false (List.map (cI .u64) x.Code)]
theorem qlr (n:Nat) (x:q13):q24 n (q0h x):=by
 simp only [q0h,q24,Bel,true_and,and_true]
 exact q52 _ (fun q=>qck _ .u64 q) _
theorem q1z (x:q13):(q0h x).length=2:=rfl
instance:qv0 q0h 2:=⟨q1z⟩
instance:BF q0h:=⟨qlr⟩
instance (n:Nat) (x:q13):BUL n (q0h x):=⟨qlr n x⟩
theorem Tryz.eqs82:Tryz.tb.eqs 82=true:=by kernel_rfl
theorem eqv82 (x y:q1w):eqv Tryz.tb 50 82 (.agg ⟨[.string ⟨⟨x.Name⟩⟩,.int .i64 x.Intro]⟩) (.agg ⟨[.string ⟨⟨y.Name⟩⟩,.int .i64 y.Intro]⟩)=some (qcn x y):=by
 simp only [eqv,cond_true,cond_false,z3e,qjr,q65,nth,q11,List.drop,List.take,List.toList_toArray,qcn,ne_eq,String.reduceEq,not_false_eq_true,if_true,und3,und9,und82,eqs82,inf82]
 cases q1x x.Name y.Name<;>cases (x.Intro == y.Intro)<;>rfl
theorem qwv (x y:q1w):g2 (qge Tryz.tb .eql 82) (.agg [.str x.Name,.int .i64 x.Intro]) (.agg [.str y.Name,.int .i64 y.Intro])=some (.bool (qcn x y)):=by
 simp only [g2,toV,qon,okL,okC,cond_true,qge,q45,eqs82,eqv82,ofV]
theorem Tryz.bd24:BdT Tryz.tb 24 [.nils] [(0,1)]:=bdT und24 inf24 rfl (by kernel_rfl)
theorem Tryz.bd43:BdT Tryz.tb 43 [.nils,.nils] [(0,1),(1,1)]:=bdT und43 inf43 rfl (by kernel_rfl)
theorem Tryz.bd54:BdT Tryz.tb 54 [.int .i64 0,.nils] [(0,1),(1,1)]:=bdT und54 inf54 rfl (by kernel_rfl)
theorem Tryz.bd56:BdT Tryz.tb 56 [.nils,.nils] [(0,1),(1,1)]:=bdT und56 inf56 rfl (by kernel_rfl)
theorem Tryz.bd66:BdT Tryz.tb 66 [.int .i64 0,.int .i64 0] [(0,1),(1,1)]:=bdT und66 inf66 rfl (by kernel_rfl)
theorem Tryz.bd82:BdT Tryz.tb 82 [.str [],.int .i64 0] [(0,1),(1,1)]:=bdT und82 inf82 rfl (by kernel_rfl)
theorem Tryz.bd105:BdT Tryz.tb 105 [.str [],.nils] [(0,1),(1,1)]:=bdT und105 inf105 rfl (by kernel_rfl)
theorem Tryz.bd109:BdT Tryz.tb 109 [.str [],.nils,.nils,.nils] [(0,1),(1,1),(2,1),(3,1)]:=bdT und109 inf109 rfl (by kernel_rfl)
theorem Tryz.bd127:BdT Tryz.tb 127 [.str [],.nils,.nils] [(0,1),(1,1),(2,1)]:=bdT und127 inf127 rfl (by kernel_rfl)
theorem Tryz.bd139:BdT Tryz.tb 139 [.nils,.nils,.nils] [(0,1),(1,1),(2,1)]:=bdT und139 inf139 rfl (by kernel_rfl)
theorem Tryz.bd147:BdT Tryz.tb 147 [.int .i64 0,.int .i64 0] [(0,1),(1,1)]:=bdT und147 inf147 rfl (by kernel_rfl)
theorem Tryz.bd162:BdT Tryz.tb 162 [.str [],.str []] [(0,1),(1,1)]:=bdT und162 inf162 rfl (by kernel_rfl)
def qi7  (w13:q67 Int Bool):Option (Int) :=
 some 0
def qb8 (p1:q0n) (p2:Int):Nat→Int→(q67 Int Bool)→Option (Int)
 | 0,_,_=>none
 | m1+1,z11,w12 =>
  cond (decide (z11<(p1.Arcs.length:Int)))
   (q04 (q15 p1.Arcs z11) fun x15 =>
   q04 (cond (decide (x15.Feat<0))
    (some true)
    (cond (decide (x15.To<0))
     (some true)
     (some (decide (x15.To ≥ p2))))) fun b19 =>
   cond b19
    (some 2)
    (cond ((qq1 (fun a b=>a == b) w12 x15.Feat).getD false)
     (some 4)
     ((qb8 p1 p2 m1) (IntKind.i64.wrap (z11+1)) (qne (fun a b=>a == b) w12 x15.Feat true))))
   (qi7 w12)
def qm7 (n:Nat) (p1:q0n) (p2:Int):Option (Int) :=
 cond (decide (p1.Typex<0))
  (some 2)
  (qb8 p1 p2 n 0 (qmh:q67 Int Bool))
def q2s (z7:Int) (l8:List q0s) (rc2:Int→(List q0s)→Option ((List q0s))) (x13:q0s)  : Option ((List q0s)) :=
 rc2 (IntKind.i64.wrap (z7+1)) (l8++[x13])
def q2r  (l10:List q0s):Option ((List q0s)) :=
 some l10
def q19 (p1:List q0s):Nat→Int→(List q0s)→Option ((List q0s))
 | 0,_,_=>none
 | m2+1,z7,l8 =>
  cond (decide (z7<(p1.length:Int)))
   (q04 (q15 p1 z7) fun x13 =>
   q1i ((l8.length+1)*16≤140737488355328∧l8.length+1≤140737488355328) (
   q2s z7 l8 (q19 p1 m2) x13))
   (q2r l8)
def q37 (n:Nat) (p1:List q0s):Option ((List q0s)) :=
 q19 p1 n 0 ([]:List q0s)
theorem qci (n:Nat) (p1:List q0s) (r:(List q0s)) (hF:q37 n p1=some r):EvU Tryz.prog 142 [.nils,.fn (.func 113) [] [.iptr [.isl false (List.map q05 p1)]]] ⟨[],0⟩ (fun u σ'=>∃ t:Nat→Nat,u = .vl 1 (t 0) 0 r.length∧σ'=⟨[(1,.vec (List.map q05 r).flatten 66 2 (t 0))],2⟩):=by
 unfold q37 at hF
 refine z56 Tryz.tb_ok fn142 rfl ?_
 refine WPU.ghost (tm':=fr 13 [(0,.nils),(1,.fn (.func 113) [] [.iptr [.iM q05 p1]])]) (z4s NL) (Nat.le_refl _) ?_
 refine go ?_
 refine RS.q (u:=.ptr 0 0 0) (σ':=⟨[(0,.row [.nils] 52)],1⟩) rfl (q2p rfl rfl rfl) ?_
 refine go ?_
 refine WPU.block ?_
 refine gn ?_
 refine gS (l':=[(2,_),(6,_)]) ?_
 refine WPU.range Tryz.tb_ok rfl (fun _ h=>h) (q2c rfl) fn113 rfl rfl ?_
 intro ly1 fn1 tp1 D1
 refine WPU.ghost (tm':=fr 16 [(0,.fn (.yield ly1) [] []),(1,.iptr [.iM q05 p1])]) (z4s NL) (Nat.le_refl _) ?_
 refine go ?_
 refine RS.q rfl (q0d und52 rfl rfl rfl) (RS.q rfl (q0c rfl rfl rfl (q08 q05 und52)) ?_)
 refine gn ?_
 refine WPU.ghost (tm':=fr 16 [(0,.fn (.yield ly1) [] []),(5,.iM q05 p1),(6,.i6 (p1.length:Int)),(7,.i6 0)]) (σ':=⟨[(1,.vec (List.map q05 ([]:List q0s)).flatten 66 2 0),(0,.row [.vl 1 0 0 (([]:List q0s).length)] 52)],2⟩) (Gh.trans (z4u 0 0 66 2 (by decide) NL rfl rfl) (z4l ⟨rfl,rfl,rfl,rfl,trivial⟩ rfl)) NL ?_
 refine gS (l':=[(0,_),(5,_),(6,_),(7,_)]) ?_
 refine z4g (fun m tm σ=>∃ z7:Int,∃ l8:List q0s,∃ t9:Nat,q19 p1 m z7 l8=some r∧tm=fr 16 [(0,.fn (.yield ly1) [] []),(5,.iM q05 p1),(6,.i6 (p1.length:Int)),(7,.i6 z7)]∧σ=⟨[(1,.vec (List.map q05 l8).flatten 66 2 t9),(0,.row [.vl 1 t9 0 l8.length] 52)],2⟩) (fun tm σ=>∃ l10:List q0s,∃ t11:Nat,q2r l10=some r∧tm=fr 16 []∧σ=⟨[(1,.vec (List.map q05 l10).flatten 66 2 t11),(0,.row [.vl 1 t11 0 l10.length] 52)],2⟩) n ⟨0,([]:List q0s),0,hF,rfl,rfl⟩ ?_ ?_
 rintro _ _ ⟨l10,t11,hF,rfl,rfl⟩
 unfold q2r at hF
 refine gn ?_
 refine ⟨.inl rfl,?_⟩
 refine go ?_
 refine RS.q rfl (q0i und52 rfl rfl rfl rfl) ?_
 refine go ?_
 obtain rfl:=sI hF
 exact ⟨.inr rfl,[.vl 1 t11 0 l10.length],q2o rfl (q2g),.vl 1 t11 0 l10.length,⟨[(1,.vec (List.map q05 l10).flatten 66 2 t11)],2⟩,NL,Gh.trans (z4y (fun k=>qxi [1] k)) (z58 (n1:=2) [] rfl rfl NL NL BUL.h BH.h),stF [t11],rfl,rfl⟩
 rintro (_|m2) _ _ ⟨z7,l8,t9,hF,rfl,rfl⟩
 cases hF
 unfold q19 at hF
 refine go ?_
 refine cF hF (fun h12 hF=>?_) (fun h12 hF=>?_)
 refine go ?_
 refine WPU.block ?_
 obtain ⟨x13,h14,hF⟩:=q00 hF
 refine go ?_
 refine RS.q rfl (q0f rfl rfl (q0a q05 und52 (q03 inf66) q0k h14 rfl)) (RS.q (u:=.agg (q05 x13)) rfl (qam und66 rfl (q03 inf66) rfl rfl) (RS.q (u:=.ptr 2 0 0) (σ':=⟨[(2,.row [.i6 0,.i6 0] 66),(1,.vec (List.map q05 l8).flatten 66 2 t9),(0,.row [.vl 1 t9 0 l8.length] 52)],3⟩) rfl (q0v inf66 rfl rfl) ?_))
 refine z4k (u:=.junk) (σ':=⟨[(2,.row (q05 x13) 66),(1,.vec (List.map q05 l8).flatten 66 2 t9),(0,.row [.vl 1 t9 0 l8.length] 52)],3⟩) rfl (q0l (q03 inf66) rfl rfl rfl rfl rfl rfl rfl rfl) rfl ?_
 refine go ?_
 refine RS.q (u:=.agg (q05 x13)) rfl (q0p und66 rfl (q03 inf66) rfl rfl rfl) (RS.yield (tmx:=fr 13 [(2,.ptr 0 0 0),(6,.fn (.func 113) [] [.iptr [.iM q05 p1]]),(7,.agg (q05 x13))]) rfl rfl rfl rfl rfl rfl rfl rfl (setP1 rfl) rfl rfl ?_)
 refine go ?_
 refine RS.q (u:=.ptr 3 0 0) (σ':=⟨[(3,.row [.i6 0,.i6 0] 66),(2,.row (q05 x13) 66),(1,.vec (List.map q05 l8).flatten 66 2 t9),(0,.row [.vl 1 t9 0 l8.length] 52)],4⟩) rfl (q0v inf66 rfl rfl) ?_
 refine z4k (u:=.junk) (σ':=⟨[(3,.row (q05 x13) 66),(2,.row (q05 x13) 66),(1,.vec (List.map q05 l8).flatten 66 2 t9),(0,.row [.vl 1 t9 0 l8.length] 52)],4⟩) rfl (q0l (q03 inf66) rfl rfl rfl rfl rfl rfl rfl rfl) rfl ?_
 refine gn ?_
 refine z4h (fun tm σ=>q2s z7 l8 (q19 p1 m2) x13=some r∧tm=fr 13 []∧σ=⟨[(2,.row (q05 x13) 66),(1,.vec (List.map q05 (l8++[x13])).flatten 66 2 (t9+1)),(0,.row [.vl 1 (t9+1) 0 ((l8++[x13]).length)] 52)],3⟩) ?_ ?_
 rintro _ _ ⟨hF,rfl,rfl⟩
 unfold q2s at hF
 refine ⟨rfl,?_⟩
 refine go ?_
 refine z4v (t:=false) rfl (fun hc=>by cases hc) (fun _=>?_)
 refine go ?_
 exact lC ⟨_,(l8++[x13]),(t9+1),hF,rfl,rfl⟩
 refine go ?_
 refine WPU.block ?_
 obtain ⟨h15,hF⟩:=q0b hF
 refine go ?_
 refine RS.q rfl (q0i und52 rfl rfl rfl rfl) (RS.q (u:=.agg (q05 x13)) rfl (q0p und66 rfl (q03 inf66) rfl rfl rfl) (RS.q (u:=.sl 4 0 1 1) (σ':=⟨[(4,.row (q05 x13) 66),(3,.row (q05 x13) 66),(2,.row (q05 x13) 66),(1,.vec (List.map q05 l8).flatten 66 2 t9),(0,.row [.vl 1 t9 0 l8.length] 52)],5⟩) rfl (q0j und52 inf66 rfl rfl rfl rfl rfl rfl rfl) (RS.q (u:=.vl 1 (t9+1) 0 ((l8++[x13]).length)) (σ':=⟨[(4,.row (q05 x13) 66),(3,.row (q05 x13) 66),(2,.row (q05 x13) 66),(1,.vec (List.map q05 (l8++[x13])).flatten 66 2 (t9+1)),(0,.row [.vl 1 t9 0 l8.length] 52)],5⟩) rfl (q1u rfl rfl rfl rfl (q2a q05 ([x13]) und52 und52 inf66 rfl q0k rfl (q1q q05 [x13] rfl rfl rfl rfl) h15)) ?_)))
 refine z4k (u:=.junk) (σ':=⟨[(4,.row (q05 x13) 66),(3,.row (q05 x13) 66),(2,.row (q05 x13) 66),(1,.vec (List.map q05 (l8++[x13])).flatten 66 2 (t9+1)),(0,.row [.vl 1 (t9+1) 0 ((l8++[x13]).length)] 52)],5⟩) rfl (q0l (q03 inf52) rfl rfl rfl rfl rfl rfl rfl rfl) rfl ?_
 refine go ?_
 exact xC ⟨hF,rfl,rfl⟩
 refine go ?_
 exact xC ⟨l8,t9,hF,rfl,rfl⟩
def q3w (n:Nat) (p1:List q0s):Option ((List q0s)) :=
 q04 (q37 n p1) fun r2 =>
 some r2
theorem qej (n:Nat) (p1:List q0s) (r:(List q0s)) (hF:q3w n p1=some r):EvU Tryz.prog 111 [.fn (.func 113) [] [.iptr [.isl false (List.map q05 p1)]]] ⟨[],0⟩ (fun u σ'=>∃ t:Nat→Nat,u = .vl 1 (t 0) 0 r.length∧σ'=⟨[(1,.vec (List.map q05 r).flatten 66 2 (t 0))],2⟩):=by
 unfold q3w at hF
 refine bg1 5 fn111 ?_
 obtain ⟨r2,h3,hF⟩:=q00 hF
 refine go ?_
 refine z4m (R:=fun u σ'=>∃ t4:Nat→Nat,u = .vl 1 (t4 0) 0 r2.length∧σ'=⟨[(1,.vec (List.map q05 r2).flatten 66 2 (t4 0))],2⟩) (args:=[.nils,.fn (.func 113) [] [.iptr [.iM q05 p1]]]) rfl (q50 rfl rfl fn142 hb142 rfl rfl) (EvU.st [] (qci n p1 r2 h3 )) rfl rfl ?_
 rintro _ _ ⟨t4,rfl,rfl⟩
 refine go ?_
 obtain rfl:=sI hF
 exact ⟨.inr rfl,[.vl 1 (t4 0) 0 r2.length],q2o rfl (q2g),.vl 1 (t4 0) 0 r2.length,⟨[(1,.vec (List.map q05 r2).flatten 66 2 (t4 0))],2⟩,NL,Gh.trans (z4y (fun k=>qxi [1] k)) (z58 (n1:=2) [] rfl rfl NL NL BUL.h BH.h),stF [(t4 0)],rfl,rfl⟩
def q1v (n:Nat) (p1:List q0s):Option ((List q0s)) :=
 q04 (q3w n p1) fun r2 =>
 q04 (qrr eqA (fun a b=>q1y n a b ) r2) fun r6 =>
 some r6
theorem q5z (n:Nat) (p1:List q0s) (r:(List q0s)) (hF:q1v n p1=some r):EvU Tryz.prog 84 [.fn (.func 113) [] [.iptr [.isl false (List.map q05 p1)]],.fn (.func 86) [] []] ⟨[],0⟩ (fun u σ'=>∃ t:Nat→Nat,u = .vl 1 (t 0) 0 r.length∧σ'=⟨[(1,.vec (List.map q05 r).flatten 66 2 (t 0))],2⟩):=by
 unfold q1v at hF
 refine bg2 12 fn84 ?_
 obtain ⟨r2,h3,hF⟩:=q00 hF
 refine go ?_
 refine z4m (R:=fun u σ'=>∃ t4:Nat→Nat,u = .vl 1 (t4 0) 0 r2.length∧σ'=⟨[(1,.vec (List.map q05 r2).flatten 66 2 (t4 0))],2⟩) (args:=[.fn (.func 113) [] [.iptr [.iM q05 p1]]]) rfl (q50 rfl rfl fn111 hb111 rfl rfl) (EvU.st [] (qej n p1 r2 h3 )) rfl rfl ?_
 rintro _ _ ⟨t4,rfl,rfl⟩
 obtain ⟨r6,h5,hF⟩:=q00 hF
 refine gn ?_
 refine z4h (fun tm σ=>tm=fr 12 [(5,.vl 1 (t4 0) 0 r6.length)]∧σ=⟨[(1,.vec (List.map q05 r6).flatten 66 2 (t4 0))],2⟩) ?_ ?_
 rintro _ _ ⟨rfl,rfl⟩
 refine go ?_
 obtain rfl:=sI hF
 exact ⟨.inr rfl,[.vl 1 (t4 0) 0 r6.length],q2o rfl (q2g),.vl 1 (t4 0) 0 r6.length,⟨[(1,.vec (List.map q05 r6).flatten 66 2 (t4 0))],2⟩,NL,Gh.trans (z4y (fun k=>qxi [1] k)) (z58 (n1:=2) [] rfl rfl NL NL BUL.h BH.h),stF [(t4 0)],rfl,rfl⟩
 refine go ?_
 refine z4m (args:=[.vl 1 (t4 0) 0 r2.length,.fn (.func 86) [] []]) rfl (q50 rfl rfl fn112 hb112 rfl rfl) (z43  (fun a b r h=>qjl n a b  r h) r2 r6 h5 _ rfl rfl) rfl rfl ?_
 rintro _ _ ⟨rfl,rfl⟩
 refine go ?_
 exact ⟨_,_,⟨rfl,rfl⟩,NZ,z4l ⟨(by simp only [qyx h5]; rfl),trivial⟩ rfl⟩
def q2m (n:Nat) (p1:List q0s):Option ((List q0s)) :=
 some p1
theorem q7p (n:Nat) (p1:List q0s) (r:(List q0s)) (hF:q2m n p1=some r):EvU Tryz.prog 85 [.isl false (List.map q05 p1)] ⟨[],0⟩ (fun u σ'=>∃ t:Nat→Nat,u = .fn (.func 113) [] [.iptr [.isl false (List.map q05 r)]]∧σ'=⟨[],0⟩):=by
 unfold q2m at hF
 refine bg1 4 fn85 ?_
 refine go ?_
 refine RS.q (u:=.ptr 0 0 0) (σ':=⟨[(0,.row [.iM q05 p1] 52)],1⟩) rfl (q2p rfl rfl rfl) ?_
 refine go ?_
 refine RS.q rfl (qya rfl rfl) ?_
 refine go ?_
 obtain rfl:=sI hF
 exact ⟨.inr rfl,[.fn (.func 113) [] [.ptr 0 0 0]],q2o rfl (q2g),.fn (.func 113) [] [.iptr [.iM q05 p1]],⟨[],0⟩,NL,Gh.trans (z4j 0 1) (z58 (n1:=0) [] rfl rfl NL NL BUL.h BH.h),stF [],rfl,rfl⟩
def q20 (z24:Int) (rc1:Int→(List Int)→(q67 Int Int)→Option ((List Int)×(q67 Int Int))) (l35:List Int) (w37:q67 Int Int):Option ((List Int)×(q67 Int Int)) :=
 rc1 (IntKind.i64.wrap (z24+1)) l35 w37
def q33  (l28:List Int) (w30:q67 Int Int):Option ((List Int)×(q67 Int Int)) :=
 some (l28,w30)
def q1d (p2:List q0n) (r12:(List q0s)) (self:Int→(List q0n)→(List Int)→(q67 Int Int)→Option ((List Int)×(q67 Int Int))):Nat→Int→(List Int)→(q67 Int Int)→Option ((List Int)×(q67 Int Int))
 | 0,_,_,_=>none
 | m1+1,z24,l25,w27 =>
  cond (decide (z24<(r12.length:Int)))
   (q04 (q15 r12 z24) fun x32 =>
   cond (!((qq1 (fun a b=>a == b) w27 x32.To).isSome))
    (q04 (self x32.To p2 l25 w27) fun r38 =>
    q20 z24 (q1d p2 r12 self m1) r38.1 r38.2)
    (q20 z24 (q1d p2 r12 self m1) l25 w27))
   (q33 l25 w27)
def q3i (n:Nat) (self:Int→(List q0n)→(List Int)→(q67 Int Int)→Option ((List Int)×(q67 Int Int))) (p1:Int) (p2:List q0n) (p3:List Int) (p5:q67 Int Int):Option ((List Int)×(q67 Int Int)) :=
 q1i ((p3.length+1)*8≤140737488355328∧p3.length+1≤140737488355328) (
 q04 (q15 p2 p1) fun x7 =>
 q04 (q2m n x7.Arcs) fun r9 =>
 q04 (q1v n r9) fun r12 =>
 q1d p2 r12 self n 0 (p3++[p1]) (qne (fun a b=>a == b) p5 p1 (p3.length:Int)))
def q1h:Nat→Int→(List q0n)→(List Int)→(q67 Int Int)→Option ((List Int)×(q67 Int Int))
 | 0,_,_,_,_=>none
 | n+1,p1,p2,p3,p5=>q3i n (q1h n) p1 p2 p3 p5
theorem q7o:∀ (n:Nat) (p1:Int) (p2:List q0n) (p3:List Int) (p5:q67 Int Int) (r:(List Int)×(q67 Int Int)),q1h n p1 p2 p3 p5=some r→∀ t4:Nat,EvU Tryz.prog 83 [.int .i64 p1,.ptr 0 0 0,.ptr 1 0 0,.ptr 2 0 0,.ptr 3 0 0] ⟨[(0,.row [.vl 4 t4 0 p3.length] 33),(1,.row [.map 5] 130),(2,.row [.isl false (List.map q01 p2)] 24),(3,.row [.fn (.func 83) [] [.ptr 0 0 0,.ptr 1 0 0,.ptr 2 0 0,.ptr 3 0 0]] 115),(4,.vec (List.map (cI .i64) p3).flatten 3 1 t4),(5,.map (List.map (mE (fun x=>.int .i64 x) (fun x=>.int .i64 x)) p5.es) p5.cl)],6⟩ (fun u σ'=>∃ t:Nat→Nat,u = .tup []∧σ'=⟨[(0,.row [.vl 4 (t 0) 0 r.1.length] 33),(1,.row [.map 5] 130),(2,.row [.isl false (List.map q01 p2)] 24),(3,.row [.fn (.func 83) [] [.ptr 0 0 0,.ptr 1 0 0,.ptr 2 0 0,.ptr 3 0 0]] 115),(4,.vec (List.map (cI .i64) r.1).flatten 3 1 (t 0)),(5,.map (List.map (mE (fun x=>.int .i64 x) (fun x=>.int .i64 x)) r.2.es) r.2.cl)],6⟩)
 | 0,p1,p2,p3,p5,r,hF=>by cases hF
 | n+1,p1,p2,p3,p5,r,hF=>by
  have ih:=q7o n
  unfold q1h q3i at hF
  intro t4
  refine bg5 45 fn83 ?_
  refine go ?_
  refine RS.q rfl (q0i und130 rfl rfl rfl rfl) ?_
  refine go ?_
  refine RS.q rfl (q0i und33 rfl rfl rfl rfl) (RS.q rfl (q0c rfl rfl rfl (q6o und33 rfl)) ?_)
  refine z4k (u:=.junk) (σ':=⟨[(0,.row [.vl 4 t4 0 p3.length] 33),(1,.row [.map 5] 130),(2,.row [.iM q01 p2] 24),(3,.row [.fn (.func 83) [] [.ptr 0 0 0,.ptr 1 0 0,.ptr 2 0 0,.ptr 3 0 0]] 115),(4,.vec (List.map (cI .i64) p3).flatten 3 1 t4),(5,.map (List.map (mE (fun x=>.i6 x) (fun x=>.i6 x)) (qne (fun a b=>a == b) p5 p1 (p3.length:Int)).es) (qne (fun a b=>a == b) p5 p1 (p3.length:Int)).cl)],6⟩) rfl (op_mup (kU:=(fun x=>.i6 x)) (vU:=(fun x=>.i6 x)) (m:=p5) (k:=p1) (v:=(p3.length:Int)) (qsi und3) und130 rfl rfl rfl rfl rfl) rfl ?_
  obtain ⟨h6,hF⟩:=q0b hF
  refine go ?_
  refine RS.q rfl (q0i und33 rfl rfl rfl rfl) ?_
  refine go ?_
  refine RS.q (u:=.sl 6 0 1 1) (σ':=⟨[(6,.row [.i6 p1] 3),(0,.row [.vl 4 t4 0 p3.length] 33),(1,.row [.map 5] 130),(2,.row [.iM q01 p2] 24),(3,.row [.fn (.func 83) [] [.ptr 0 0 0,.ptr 1 0 0,.ptr 2 0 0,.ptr 3 0 0]] 115),(4,.vec (List.map (cI .i64) p3).flatten 3 1 t4),(5,.map (List.map (mE (fun x=>.i6 x) (fun x=>.i6 x)) (qne (fun a b=>a == b) p5 p1 (p3.length:Int)).es) (qne (fun a b=>a == b) p5 p1 (p3.length:Int)).cl)],7⟩) rfl (q0j und33 inf3 rfl rfl rfl rfl rfl rfl rfl) (RS.q (u:=.vl 4 (t4+1) 0 ((p3++[p1]).length)) (σ':=⟨[(6,.row [.i6 p1] 3),(0,.row [.vl 4 t4 0 p3.length] 33),(1,.row [.map 5] 130),(2,.row [.iM q01 p2] 24),(3,.row [.fn (.func 83) [] [.ptr 0 0 0,.ptr 1 0 0,.ptr 2 0 0,.ptr 3 0 0]] 115),(4,.vec (List.map (cI .i64) (p3++[p1])).flatten 3 1 (t4+1)),(5,.map (List.map (mE (fun x=>.i6 x) (fun x=>.i6 x)) (qne (fun a b=>a == b) p5 p1 (p3.length:Int)).es) (qne (fun a b=>a == b) p5 p1 (p3.length:Int)).cl)],7⟩) rfl (q1u rfl rfl rfl rfl (q2a (cI .i64) ([p1]) und33 und33 inf3 rfl (q18 .i64) rfl (q1q (cI .i64) [p1] rfl rfl rfl rfl) h6)) ?_)
  refine z4k (u:=.junk) (σ':=⟨[(6,.row [.i6 p1] 3),(0,.row [.vl 4 (t4+1) 0 ((p3++[p1]).length)] 33),(1,.row [.map 5] 130),(2,.row [.iM q01 p2] 24),(3,.row [.fn (.func 83) [] [.ptr 0 0 0,.ptr 1 0 0,.ptr 2 0 0,.ptr 3 0 0]] 115),(4,.vec (List.map (cI .i64) (p3++[p1])).flatten 3 1 (t4+1)),(5,.map (List.map (mE (fun x=>.i6 x) (fun x=>.i6 x)) (qne (fun a b=>a == b) p5 p1 (p3.length:Int)).es) (qne (fun a b=>a == b) p5 p1 (p3.length:Int)).cl)],7⟩) rfl (q0l (q03 inf33) rfl rfl rfl rfl rfl rfl rfl rfl) rfl ?_
  obtain ⟨x7,h8,hF⟩:=q00 hF
  obtain ⟨r9,h10,hF⟩:=q00 hF
  obtain ⟨r12,h13,hF⟩:=q00 hF
  refine go ?_
  refine RS.q rfl (q0w und24 rfl (q03 inf22) rfl rfl rfl) (RS.q rfl (q0i und22 rfl rfl rfl rfl) ?_)
  refine go ?_
  refine RS.q rfl (q0f rfl rfl (q0a q01 und22 (q03 inf54) q1b h8 rfl)) (RS.q rfl (q1o und54 rfl (q03 inf52) rfl rfl) (RS.q rfl (q0d und52 rfl rfl rfl) ?_))
  refine z4m (R:=fun u σ'=>∃ t11:Nat→Nat,u = .fn (.func 113) [] [.iptr [.iM q05 r9]]∧σ'=⟨[(6,.row [.i6 p1] 3),(0,.row [.vl 4 (t4+1) 0 ((p3++[p1]).length)] 33),(1,.row [.map 5] 130),(2,.row [.iM q01 p2] 24),(3,.row [.fn (.func 83) [] [.ptr 0 0 0,.ptr 1 0 0,.ptr 2 0 0,.ptr 3 0 0]] 115),(4,.vec (List.map (cI .i64) (p3++[p1])).flatten 3 1 (t4+1)),(5,.map (List.map (mE (fun x=>.i6 x) (fun x=>.i6 x)) (qne (fun a b=>a == b) p5 p1 (p3.length:Int)).es) (qne (fun a b=>a == b) p5 p1 (p3.length:Int)).cl)],7⟩) (args:=[.iM q05 x7.Arcs]) rfl (q50 rfl rfl fn85 hb85 rfl rfl) (EvU.st [] (q7p n x7.Arcs r9 h10 )) rfl rfl ?_
  rintro _ _ ⟨t11,rfl,rfl⟩
  refine z4m (R:=fun u σ'=>∃ t14:Nat→Nat,u = .vl 8 (t14 0) 0 r12.length∧σ'=⟨[(8,.vec (List.map q05 r12).flatten 66 2 (t14 0)),(6,.row [.i6 p1] 3),(0,.row [.vl 4 (t4+1) 0 ((p3++[p1]).length)] 33),(1,.row [.map 5] 130),(2,.row [.iM q01 p2] 24),(3,.row [.fn (.func 83) [] [.ptr 0 0 0,.ptr 1 0 0,.ptr 2 0 0,.ptr 3 0 0]] 115),(4,.vec (List.map (cI .i64) (p3++[p1])).flatten 3 1 (t4+1)),(5,.map (List.map (mE (fun x=>.i6 x) (fun x=>.i6 x)) (qne (fun a b=>a == b) p5 p1 (p3.length:Int)).es) (qne (fun a b=>a == b) p5 p1 (p3.length:Int)).cl)],9⟩) (args:=[.fn (.func 113) [] [.iptr [.iM q05 r9]],.fn (.func 86) [] []]) rfl (q50 rfl rfl fn84 hb84 rfl rfl) (EvU.st [] (q5z n r9 r12 h13 )) rfl rfl ?_
  rintro _ _ ⟨t14,rfl,rfl⟩
  refine RS.q rfl (q0c rfl rfl rfl (q6o und52 rfl)) ?_
  refine go ?_
  refine gS (l':=[(2,_),(4,_),(25,_),(26,_),(27,_)]) ?_
  refine z4g (fun m tm σ=>∃ z24:Int,∃ l25:List Int,∃ t26:Nat,∃ w27:q67 Int Int,q1d p2 r12 (q1h n) m z24 l25 w27=some r∧tm=fr 45 [(2,.ptr 1 0 0),(4,.ptr 3 0 0),(25,.vl 8 (t14 0) 0 r12.length),(26,.i6 (r12.length:Int)),(27,.i6 z24)]∧σ=⟨[(8,.vec (List.map q05 r12).flatten 66 2 (t14 0)),(6,.row [.i6 p1] 3),(0,.row [.vl 4 t26 0 l25.length] 33),(1,.row [.map 5] 130),(2,.row [.iM q01 p2] 24),(3,.row [.fn (.func 83) [] [.ptr 0 0 0,.ptr 1 0 0,.ptr 2 0 0,.ptr 3 0 0]] 115),(4,.vec (List.map (cI .i64) l25).flatten 3 1 t26),(5,.map (List.map (mE (fun x=>.i6 x) (fun x=>.i6 x)) w27.es) w27.cl)],9⟩) (fun tm σ=>∃ l28:List Int,∃ t29:Nat,∃ w30:q67 Int Int,q33 l28 w30=some r∧tm=fr 45 []∧σ=⟨[(8,.vec (List.map q05 r12).flatten 66 2 (t14 0)),(6,.row [.i6 p1] 3),(0,.row [.vl 4 t29 0 l28.length] 33),(1,.row [.map 5] 130),(2,.row [.iM q01 p2] 24),(3,.row [.fn (.func 83) [] [.ptr 0 0 0,.ptr 1 0 0,.ptr 2 0 0,.ptr 3 0 0]] 115),(4,.vec (List.map (cI .i64) l28).flatten 3 1 t29),(5,.map (List.map (mE (fun x=>.i6 x) (fun x=>.i6 x)) w30.es) w30.cl)],9⟩) n ⟨0,(p3++[p1]),(t4+1),(qne (fun a b=>a == b) p5 p1 (p3.length:Int)),hF,rfl,rfl⟩ ?_ ?_
  rintro _ _ ⟨l28,t29,w30,hF,rfl,rfl⟩
  unfold q33 at hF
  refine go ?_
  obtain rfl:=sI hF
  exact ⟨.inl rfl,[],q2g,.tup [],⟨[(0,.row [.vl 4 t29 0 l28.length] 33),(1,.row [.map 5] 130),(2,.row [.iM q01 p2] 24),(3,.row [.fn (.func 83) [] [.ptr 0 0 0,.ptr 1 0 0,.ptr 2 0 0,.ptr 3 0 0]] 115),(4,.vec (List.map (cI .i64) l28).flatten 3 1 t29),(5,.map (List.map (mE (fun x=>.i6 x) (fun x=>.i6 x)) w30.es) w30.cl)],6⟩,NL,z58 (n1:=6) [] rfl rfl NL NL BUL.h BH.h,stF [t29],rfl,rfl⟩
  rintro (_|m1) _ _ ⟨z24,l25,t26,w27,hF,rfl,rfl⟩
  cases hF
  unfold q1d at hF
  refine go ?_
  refine cF hF (fun h31 hF=>?_) (fun h31 hF=>?_)
  refine go ?_
  refine WPU.block ?_
  obtain ⟨x32,h33,hF⟩:=q00 hF
  refine go ?_
  refine RS.q rfl (q0f rfl rfl (q90 q05 und52 (q03 inf66) (by decide) q0k (vo rfl) h33)) ?_
  refine RS.q (u:=.agg (q05 x32)) rfl (z2d q05 und66 rfl (q03 inf66) q0k rfl rfl h33 rfl) (RS.q (u:=.ptr 9 0 0) (σ':=⟨[(9,.row [.i6 0,.i6 0] 66),(8,.vec (List.map q05 r12).flatten 66 2 (t14 0)),(6,.row [.i6 p1] 3),(0,.row [.vl 4 t26 0 l25.length] 33),(1,.row [.map 5] 130),(2,.row [.iM q01 p2] 24),(3,.row [.fn (.func 83) [] [.ptr 0 0 0,.ptr 1 0 0,.ptr 2 0 0,.ptr 3 0 0]] 115),(4,.vec (List.map (cI .i64) l25).flatten 3 1 t26),(5,.map (List.map (mE (fun x=>.i6 x) (fun x=>.i6 x)) w27.es) w27.cl)],10⟩) rfl (q0v inf66 rfl rfl) ?_)
  refine z4k (u:=.junk) (σ':=⟨[(9,.row (q05 x32) 66),(8,.vec (List.map q05 r12).flatten 66 2 (t14 0)),(6,.row [.i6 p1] 3),(0,.row [.vl 4 t26 0 l25.length] 33),(1,.row [.map 5] 130),(2,.row [.iM q01 p2] 24),(3,.row [.fn (.func 83) [] [.ptr 0 0 0,.ptr 1 0 0,.ptr 2 0 0,.ptr 3 0 0]] 115),(4,.vec (List.map (cI .i64) l25).flatten 3 1 t26),(5,.map (List.map (mE (fun x=>.i6 x) (fun x=>.i6 x)) w27.es) w27.cl)],10⟩) rfl (q0l (q03 inf66) rfl rfl rfl rfl rfl rfl rfl rfl) rfl ?_
  refine go ?_
  refine RS.q rfl (q0i und130 rfl rfl rfl rfl) (RS.q rfl (q0w und66 rfl (q03 inf3) rfl rfl rfl) (RS.q rfl (q0i und3 rfl rfl rfl rfl) (RS.q (u:=.tup [.i6 ((qq1 (fun a b=>a == b) w27 x32.To).getD 0),.bool ((qq1 (fun a b=>a == b) w27 x32.To).isSome)]) rfl (z0t (kU:=(fun x=>.i6 x)) (vU:=(fun x=>.i6 x)) (m:=w27) (k:=x32.To) (zv:=0) (qsi und3) und130 rfl rfl rfl inf3 rfl) ?_)))
  refine gr ?_
  refine z4h (fun tm σ=>∃ l35:List Int,∃ t36:Nat,∃ w37:q67 Int Int,q20 z24 (q1d p2 r12 (q1h n) m1) l35 w37=some r∧tm=fr 45 [(2,.ptr 1 0 0),(4,.ptr 3 0 0),(25,.vl 8 (t14 0) 0 r12.length),(26,.i6 (r12.length:Int)),(27,.i6 z24)]∧σ=⟨[(9,.row (q05 x32) 66),(8,.vec (List.map q05 r12).flatten 66 2 (t14 0)),(6,.row [.i6 p1] 3),(0,.row [.vl 4 t36 0 l35.length] 33),(1,.row [.map 5] 130),(2,.row [.iM q01 p2] 24),(3,.row [.fn (.func 83) [] [.ptr 0 0 0,.ptr 1 0 0,.ptr 2 0 0,.ptr 3 0 0]] 115),(4,.vec (List.map (cI .i64) l35).flatten 3 1 t36),(5,.map (List.map (mE (fun x=>.i6 x) (fun x=>.i6 x)) w37.es) w37.cl)],10⟩) ?_ ?_
  rintro _ _ ⟨l35,t36,w37,hF,rfl,rfl⟩
  unfold q20 at hF
  refine go ?_
  exact lC ⟨_,l35,t36,w37,hF,rfl,rfl⟩
  refine cF hF (fun h34 hF=>?_) (fun h34 hF=>?_)
  obtain ⟨r38,h39,hF⟩:=q00 hF
  refine go ?_
  refine RS.q rfl (q0i und115 rfl rfl rfl rfl) (RS.q rfl (q0w und66 rfl (q03 inf3) rfl rfl rfl) (RS.q rfl (q0i und3 rfl rfl rfl rfl) ?_))
  refine z4m (R:=fun u σ'=>∃ t40:Nat→Nat,u = .tup []∧σ'=⟨[(9,.row (q05 x32) 66),(8,.vec (List.map q05 r12).flatten 66 2 (t14 0)),(6,.row [.i6 p1] 3),(0,.row [.vl 4 (t40 0) 0 r38.1.length] 33),(1,.row [.map 5] 130),(2,.row [.iM q01 p2] 24),(3,.row [.fn (.func 83) [] [.ptr 0 0 0,.ptr 1 0 0,.ptr 2 0 0,.ptr 3 0 0]] 115),(4,.vec (List.map (cI .i64) r38.1).flatten 3 1 (t40 0)),(5,.map (List.map (mE (fun x=>.i6 x) (fun x=>.i6 x)) r38.2.es) r38.2.cl)],10⟩) (args:=[.i6 x32.To,.ptr 0 0 0,.ptr 1 0 0,.ptr 2 0 0,.ptr 3 0 0]) rfl (q50 rfl rfl fn83 hb83 rfl rfl) (EvU.st [0,1,2,3,4,5] (ih x32.To p2 l25 w27 r38 h39 t26)) rfl rfl ?_
  rintro _ _ ⟨t40,rfl,rfl⟩
  refine go ?_
  exact xC ⟨r38.1,(t40 0),r38.2,hF,rfl,rfl⟩
  refine go ?_
  exact xC ⟨l25,t26,w27,hF,rfl,rfl⟩
  refine go ?_
  exact xC ⟨l25,t26,w27,hF,rfl,rfl⟩
def q3q (p1:GFS) (r3:(List Int)×(q67 Int Int)) (z14:Int) (l15:List q0n) (rc1:Int→(List q0n)→Option (GFS)) (x19:Int) (l44:List q0s):Option (GFS) :=
 q04 (q15 p1.Nodes x19) fun x45 =>
 q04 (qp1 l15 0 ((r3.1.length:Int).toNat) z14) fun x47 =>
 rc1 (IntKind.i64.wrap (z14+1)) (l15.set z14.toNat (q0n.mk x45.Typex l44))
def q2j (p1:GFS) (r3:(List Int)×(q67 Int Int)) (z14:Int) (l15:List q0n) (rc1:Int→(List q0n)→Option (GFS)) (x19:Int) (r26:(List q0s)):Nat→Int→(List q0s)→Option (GFS)
 | 0,_,_=>none
 | m2+1,z42,l43 =>
  cond (decide (z42<(r26.length:Int)))
   (q04 (q15 l43 z42) fun x50 =>
   q04 (q15 l43 z42) fun x52 =>
   (q2j p1 r3 z14 l15 rc1 x19 r26 m2) (IntKind.i64.wrap (z42+1)) (l43.set (0+z42.toNat) (q0s.mk x52.Feat ((qq1 (fun a b=>a == b) r3.2 x50.To).getD 0))))
   (q3q p1 r3 z14 l15 rc1 x19 l43)
def q53 (r3:(List Int)×(q67 Int Int)) (l16:List q0n):Option (GFS) :=
 q1i ((r3.1.length:Int).toNat=l16.length) (
 some (GFS.mk l16))
def q1r (p1:GFS) (n:Nat) (r3:(List Int)×(q67 Int Int)):Nat→Int→(List q0n)→Option (GFS)
 | 0,_,_=>none
 | m1+1,z14,l15 =>
  cond (decide (z14<(r3.1.length:Int)))
   (q04 (q15 r3.1 z14) fun x19 =>
   q04 (q15 p1.Nodes x19) fun x21 =>
   q04 (q2m n x21.Arcs) fun r23 =>
   q04 (q1v n r23) fun r26 =>
   q2j p1 r3 z14 l15 (q1r p1 n r3 m1) x19 r26 n 0 r26)
   (q53 r3 l15)
def q44 (n:Nat) (p1:GFS) (p2:Int):Option (GFS) :=
 q04 (q1h n p2 p1.Nodes ([]:List Int) (qmh:q67 Int Int)) fun r3 =>
 q1i (0≤(r3.1.length:Int)∧32*(r3.1.length:Int).toNat≤281474976710656∧(r3.1.length:Int)≤281474976710656) (
 q1r p1 n r3 n 0 (List.replicate (r3.1.length:Int).toNat (q0n.mk 0 [])))
theorem qjm (n:Nat) (p1:GFS) (p2:Int) (r:GFS) (hF:q44 n p1 p2=some r):EvU Tryz.prog 65 [.agg [.isl false (List.map q01 p1.Nodes)],.int .i64 p2] ⟨[],0⟩ (fun u _=>u = .agg [.isl false (List.map q01 r.Nodes)]∧Bel 0 u):=by
 unfold q44 at hF
 refine bg2 68 fn65 ?_
 refine go ?_
 refine RS.q (u:=.ptr 0 0 0) (σ':=⟨[(0,.row [.iM q01 p1.Nodes] 24)],1⟩) rfl (q2p rfl rfl rfl) (RS.q (u:=.ptr 1 0 0) (σ':=⟨[(1,.row [.nils] 24),(0,.row [.iM q01 p1.Nodes] 24)],2⟩) rfl (q0v inf24 rfl rfl) ?_)
 refine go ?_
 refine RS.q (u:=.map 2) (σ':=⟨[(2,.map (List.map (mE (fun x=>.i6 x) (fun x=>.i6 x)) (qmh:q67 Int Int).es) (qmh:q67 Int Int).cl),(1,.row [.nils] 24),(0,.row [.iM q01 p1.Nodes] 24)],3⟩) rfl (z3p) (RS.q (u:=.ptr 3 0 0) (σ':=⟨[(3,.row [.nilm] 130),(2,.map (List.map (mE (fun x=>.i6 x) (fun x=>.i6 x)) (qmh:q67 Int Int).es) (qmh:q67 Int Int).cl),(1,.row [.nils] 24),(0,.row [.iM q01 p1.Nodes] 24)],4⟩) rfl (q0v inf130 rfl rfl) ?_)
 refine z4k (u:=.junk) (σ':=⟨[(3,.row [.map 2] 130),(2,.map (List.map (mE (fun x=>.i6 x) (fun x=>.i6 x)) (qmh:q67 Int Int).es) (qmh:q67 Int Int).cl),(1,.row [.nils] 24),(0,.row [.iM q01 p1.Nodes] 24)],4⟩) rfl (q0l (q03 inf130) rfl rfl rfl rfl rfl rfl rfl rfl) rfl ?_
 refine go ?_
 refine RS.q (u:=.ptr 4 0 0) (σ':=⟨[(4,.row [.nils] 33),(3,.row [.map 2] 130),(2,.map (List.map (mE (fun x=>.i6 x) (fun x=>.i6 x)) (qmh:q67 Int Int).es) (qmh:q67 Int Int).cl),(1,.row [.nils] 24),(0,.row [.iM q01 p1.Nodes] 24)],5⟩) rfl (q0v inf33 rfl rfl) ?_
 refine go ?_
 refine RS.q (u:=.ptr 5 0 0) (σ':=⟨[(5,.row [.nilf] 115),(4,.row [.nils] 33),(3,.row [.map 2] 130),(2,.map (List.map (mE (fun x=>.i6 x) (fun x=>.i6 x)) (qmh:q67 Int Int).es) (qmh:q67 Int Int).cl),(1,.row [.nils] 24),(0,.row [.iM q01 p1.Nodes] 24)],6⟩) rfl (q0v inf115 rfl rfl) ?_
 refine go ?_
 refine RS.q rfl (qya rfl rfl) ?_
 refine z4k (u:=.junk) (σ':=⟨[(5,.row [.fn (.func 83) [] [.ptr 4 0 0,.ptr 3 0 0,.ptr 0 0 0,.ptr 5 0 0]] 115),(4,.row [.nils] 33),(3,.row [.map 2] 130),(2,.map (List.map (mE (fun x=>.i6 x) (fun x=>.i6 x)) (qmh:q67 Int Int).es) (qmh:q67 Int Int).cl),(1,.row [.nils] 24),(0,.row [.iM q01 p1.Nodes] 24)],6⟩) rfl (q0l (q03 inf115) rfl rfl rfl rfl rfl rfl rfl rfl) rfl ?_
 refine gn ?_
 refine WPU.ghost (tm':=fr 68 [(1,.i6 p2),(2,.ptr 0 0 0),(4,.ptr 1 0 0),(5,.ptr 3 0 0),(6,.ptr 4 0 0),(7,.ptr 5 0 0)]) (σ':=⟨[(6,.vec (List.map (cI .i64) ([]:List Int)).flatten 3 1 0),(5,.row [.fn (.func 83) [] [.ptr 4 0 0,.ptr 3 0 0,.ptr 0 0 0,.ptr 5 0 0]] 115),(4,.row [.vl 6 0 0 (([]:List Int).length)] 33),(3,.row [.map 2] 130),(2,.map (List.map (mE (fun x=>.i6 x) (fun x=>.i6 x)) (qmh:q67 Int Int).es) (qmh:q67 Int Int).cl),(1,.row [.nils] 24),(0,.row [.iM q01 p1.Nodes] 24)],7⟩) (Gh.trans (z4u 4 0 3 1 (by decide) NZ rfl rfl) (z4l ⟨rfl,rfl,rfl,rfl,rfl,rfl,trivial⟩ rfl)) NZ ?_
 obtain ⟨r3,h4,hF⟩:=q00 hF
 refine go ?_
 refine RS.q rfl (q0i und115 rfl rfl rfl rfl) ?_
 refine go ?_
 refine z4m (R:=fun u σ'=>∃ t5:Nat→Nat,u = .tup []∧σ'=⟨[(6,.vec (List.map (cI .i64) r3.1).flatten 3 1 (t5 0)),(5,.row [.fn (.func 83) [] [.ptr 4 0 0,.ptr 3 0 0,.ptr 0 0 0,.ptr 5 0 0]] 115),(4,.row [.vl 6 (t5 0) 0 r3.1.length] 33),(3,.row [.map 2] 130),(2,.map (List.map (mE (fun x=>.i6 x) (fun x=>.i6 x)) r3.2.es) r3.2.cl),(1,.row [.nils] 24),(0,.row [.iM q01 p1.Nodes] 24)],7⟩) (args:=[.i6 p2,.ptr 4 0 0,.ptr 3 0 0,.ptr 0 0 0,.ptr 5 0 0]) rfl (q50 rfl rfl fn83 hb83 rfl rfl) (EvU.st [4,3,0,5,6,2] (q7o n p2 p1.Nodes ([]:List Int) (qmh:q67 Int Int) r3 h4 0)) rfl rfl ?_
 rintro _ _ ⟨t5,rfl,rfl⟩
 obtain ⟨h6,hF⟩:=q0b hF
 refine go ?_
 refine RS.q rfl (q0i und33 rfl rfl rfl rfl) (RS.q rfl (q0c rfl rfl rfl (q6o und33 rfl)) (RS.q (u:=.sl 7 0 ((r3.1.length:Int).toNat) ((r3.1.length:Int).toNat)) (σ':=⟨[(7,.row (List.map q01 (List.replicate (r3.1.length:Int).toNat (q0n.mk 0 []))).flatten 54),(6,.vec (List.map (cI .i64) r3.1).flatten 3 1 (t5 0)),(5,.row [.fn (.func 83) [] [.ptr 4 0 0,.ptr 3 0 0,.ptr 0 0 0,.ptr 5 0 0]] 115),(4,.row [.vl 6 (t5 0) 0 r3.1.length] 33),(3,.row [.map 2] 130),(2,.map (List.map (mE (fun x=>.i6 x) (fun x=>.i6 x)) r3.2.es) r3.2.cl),(1,.row [.nils] 24),(0,.row [.iM q01 p1.Nodes] 24)],8⟩) rfl (qu6 q01 (q0n.mk 0 []) rfl rfl und22 inf54 rfl rfl rfl rfl h6) (RS.q (u:=.agg [.sl 7 0 ((r3.1.length:Int).toNat) ((r3.1.length:Int).toNat)]) rfl (q3l bd24 rfl rfl rfl) (RS.q (u:=.ptr 8 0 0) (σ':=⟨[(8,.row [.nils] 24),(7,.row (List.map q01 (List.replicate (r3.1.length:Int).toNat (q0n.mk 0 []))).flatten 54),(6,.vec (List.map (cI .i64) r3.1).flatten 3 1 (t5 0)),(5,.row [.fn (.func 83) [] [.ptr 4 0 0,.ptr 3 0 0,.ptr 0 0 0,.ptr 5 0 0]] 115),(4,.row [.vl 6 (t5 0) 0 r3.1.length] 33),(3,.row [.map 2] 130),(2,.map (List.map (mE (fun x=>.i6 x) (fun x=>.i6 x)) r3.2.es) r3.2.cl),(1,.row [.nils] 24),(0,.row [.iM q01 p1.Nodes] 24)],9⟩) rfl (q0v inf24 rfl rfl) ?_))))
 refine z4k (u:=.junk) (σ':=⟨[(8,.row [.sl 7 0 ((r3.1.length:Int).toNat) ((r3.1.length:Int).toNat)] 24),(7,.row (List.map q01 (List.replicate (r3.1.length:Int).toNat (q0n.mk 0 []))).flatten 54),(6,.vec (List.map (cI .i64) r3.1).flatten 3 1 (t5 0)),(5,.row [.fn (.func 83) [] [.ptr 4 0 0,.ptr 3 0 0,.ptr 0 0 0,.ptr 5 0 0]] 115),(4,.row [.vl 6 (t5 0) 0 r3.1.length] 33),(3,.row [.map 2] 130),(2,.map (List.map (mE (fun x=>.i6 x) (fun x=>.i6 x)) r3.2.es) r3.2.cl),(1,.row [.nils] 24),(0,.row [.iM q01 p1.Nodes] 24)],9⟩) rfl (q0l (q03 inf24) rfl rfl rfl rfl rfl rfl rfl rfl) rfl ?_
 refine go ?_
 refine RS.q rfl (q0i und33 rfl rfl rfl rfl) (RS.q rfl (q0c rfl rfl rfl (q6o und33 rfl)) ?_)
 refine go ?_
 refine gS (l':=[(2,_),(4,_),(5,_),(8,_),(22,_),(23,_),(24,_)]) ?_
 refine z4g (fun m tm σ=>∃ z14:Int,∃ l15:List q0n,q1r p1 n r3 m z14 l15=some r∧tm=fr 68 [(2,.ptr 0 0 0),(4,.ptr 1 0 0),(5,.ptr 3 0 0),(8,.ptr 8 0 0),(22,.vl 6 (t5 0) 0 r3.1.length),(23,.i6 (r3.1.length:Int)),(24,.i6 z14)]∧σ=⟨[(8,.row [.sl 7 0 ((r3.1.length:Int).toNat) ((r3.1.length:Int).toNat)] 24),(7,.row (List.map q01 l15).flatten 54),(6,.vec (List.map (cI .i64) r3.1).flatten 3 1 (t5 0)),(5,.row [.fn (.func 83) [] [.ptr 4 0 0,.ptr 3 0 0,.ptr 0 0 0,.ptr 5 0 0]] 115),(4,.row [.vl 6 (t5 0) 0 r3.1.length] 33),(3,.row [.map 2] 130),(2,.map (List.map (mE (fun x=>.i6 x) (fun x=>.i6 x)) r3.2.es) r3.2.cl),(1,.row [.nils] 24),(0,.row [.iM q01 p1.Nodes] 24)],9⟩) (fun tm σ=>∃ l16:List q0n,q53 r3 l16=some r∧tm=fr 68 [(4,.ptr 1 0 0),(8,.ptr 8 0 0)]∧σ=⟨[(8,.row [.sl 7 0 ((r3.1.length:Int).toNat) ((r3.1.length:Int).toNat)] 24),(7,.row (List.map q01 l16).flatten 54),(6,.vec (List.map (cI .i64) r3.1).flatten 3 1 (t5 0)),(5,.row [.fn (.func 83) [] [.ptr 4 0 0,.ptr 3 0 0,.ptr 0 0 0,.ptr 5 0 0]] 115),(4,.row [.vl 6 (t5 0) 0 r3.1.length] 33),(3,.row [.map 2] 130),(2,.map (List.map (mE (fun x=>.i6 x) (fun x=>.i6 x)) r3.2.es) r3.2.cl),(1,.row [.nils] 24),(0,.row [.iM q01 p1.Nodes] 24)],9⟩) n ⟨0,(List.replicate (r3.1.length:Int).toNat (q0n.mk 0 [])),hF,rfl,rfl⟩ ?_ ?_
 rintro _ _ ⟨l16,hF,rfl,rfl⟩
 unfold q53 at hF
 refine go ?_
 refine RS.q (u:=.agg [.sl 7 0 ((r3.1.length:Int).toNat) ((r3.1.length:Int).toNat)]) rfl (q0p und24 rfl (q03 inf24) rfl rfl rfl) ?_
 refine z4k (u:=.junk) (σ':=⟨[(8,.row [.sl 7 0 ((r3.1.length:Int).toNat) ((r3.1.length:Int).toNat)] 24),(7,.row (List.map q01 l16).flatten 54),(6,.vec (List.map (cI .i64) r3.1).flatten 3 1 (t5 0)),(5,.row [.fn (.func 83) [] [.ptr 4 0 0,.ptr 3 0 0,.ptr 0 0 0,.ptr 5 0 0]] 115),(4,.row [.vl 6 (t5 0) 0 r3.1.length] 33),(3,.row [.map 2] 130),(2,.map (List.map (mE (fun x=>.i6 x) (fun x=>.i6 x)) r3.2.es) r3.2.cl),(1,.row [.sl 7 0 ((r3.1.length:Int).toNat) ((r3.1.length:Int).toNat)] 24),(0,.row [.iM q01 p1.Nodes] 24)],9⟩) rfl (q0l (q03 inf24) rfl rfl rfl rfl rfl rfl rfl rfl) rfl ?_
 obtain ⟨h17,hF⟩:=q0b hF
 refine go ?_
 obtain rfl:=sI hF
 exact ⟨.inr rfl,[.agg [.sl 7 0 ((r3.1.length:Int).toNat) ((r3.1.length:Int).toNat)]],qei (q0p und24 rfl (q03 inf24) rfl rfl rfl) (q2g),.agg [.iM q01 l16],⟨[],0⟩,Nat.le_refl _,Gh.trans (Gh.fz (tm':=[.agg [.iM q01 l16]]) 7 (.row (List.map q01 l16).flatten 54) 2 rfl (by simp) (by simp only [qkl,qbm,q68,qi2,qew,qi4,qd3,qez,qey,qex,qd2,qi3,qkh,qi1,qi5,qni,qkx,qxd q1b h17,q8z (show Nat.beq 0 7=false from rfl),q8y (show Nat.beq 0 7=false from rfl),q8x (show Nat.beq 0 7=false from rfl),q8z (show Nat.beq 2 7=false from rfl),q8y (show Nat.beq 2 7=false from rfl),q8x (show Nat.beq 2 7=false from rfl),q8z (show Nat.beq 3 7=false from rfl),q8y (show Nat.beq 3 7=false from rfl),q8x (show Nat.beq 3 7=false from rfl),q8z (show Nat.beq 4 7=false from rfl),q8y (show Nat.beq 4 7=false from rfl),q8x (show Nat.beq 4 7=false from rfl),q8z (show Nat.beq 5 7=false from rfl),q8y (show Nat.beq 5 7=false from rfl),q8x (show Nat.beq 5 7=false from rfl),q8z (show Nat.beq 6 7=false from rfl),q8y (show Nat.beq 6 7=false from rfl),q8x (show Nat.beq 6 7=false from rfl),q3n _ _ _ (q4b 7 (fun q=>qck _ .i64 q) r3.1),z3h]) rfl) (z4p (.agg [.iM q01 l16]) rfl),rfl,BU.h⟩
 rintro (_|m1) _ _ ⟨z14,l15,hF,rfl,rfl⟩
 cases hF
 unfold q1r at hF
 refine go ?_
 refine cF hF (fun h18 hF=>?_) (fun h18 hF=>?_)
 refine go ?_
 refine WPU.block ?_
 obtain ⟨x19,h20,hF⟩:=q00 hF
 refine go ?_
 refine RS.q rfl (q0f rfl rfl (q90 (cI .i64) und33 (q03 inf3) (by decide) (q18 .i64) (vo rfl) h20)) ?_
 refine RS.q rfl (q60 (cI .i64) (fun x=>.i6 x) und3 rfl (fun _=>rfl) rfl rfl h20) ?_
 obtain ⟨x21,h22,hF⟩:=q00 hF
 obtain ⟨r23,h24,hF⟩:=q00 hF
 obtain ⟨r26,h27,hF⟩:=q00 hF
 refine go ?_
 refine RS.q rfl (q0w und24 rfl (q03 inf22) rfl rfl rfl) (RS.q rfl (q0i und22 rfl rfl rfl rfl) ?_)
 refine go ?_
 refine RS.q rfl (q0f rfl rfl (q0a q01 und22 (q03 inf54) q1b h22 rfl)) (RS.q rfl (q1o und54 rfl (q03 inf52) rfl rfl) (RS.q rfl (q0d und52 rfl rfl rfl) ?_))
 refine z4m (R:=fun u σ'=>∃ t25:Nat→Nat,u = .fn (.func 113) [] [.iptr [.iM q05 r23]]∧σ'=⟨[(8,.row [.sl 7 0 ((r3.1.length:Int).toNat) ((r3.1.length:Int).toNat)] 24),(7,.row (List.map q01 l15).flatten 54),(6,.vec (List.map (cI .i64) r3.1).flatten 3 1 (t5 0)),(5,.row [.fn (.func 83) [] [.ptr 4 0 0,.ptr 3 0 0,.ptr 0 0 0,.ptr 5 0 0]] 115),(4,.row [.vl 6 (t5 0) 0 r3.1.length] 33),(3,.row [.map 2] 130),(2,.map (List.map (mE (fun x=>.i6 x) (fun x=>.i6 x)) r3.2.es) r3.2.cl),(1,.row [.nils] 24),(0,.row [.iM q01 p1.Nodes] 24)],9⟩) (args:=[.iM q05 x21.Arcs]) rfl (q50 rfl rfl fn85 hb85 rfl rfl) (EvU.st [] (q7p n x21.Arcs r23 h24 )) rfl rfl ?_
 rintro _ _ ⟨t25,rfl,rfl⟩
 refine z4m (R:=fun u σ'=>∃ t28:Nat→Nat,u = .vl 10 (t28 0) 0 r26.length∧σ'=⟨[(10,.vec (List.map q05 r26).flatten 66 2 (t28 0)),(8,.row [.sl 7 0 ((r3.1.length:Int).toNat) ((r3.1.length:Int).toNat)] 24),(7,.row (List.map q01 l15).flatten 54),(6,.vec (List.map (cI .i64) r3.1).flatten 3 1 (t5 0)),(5,.row [.fn (.func 83) [] [.ptr 4 0 0,.ptr 3 0 0,.ptr 0 0 0,.ptr 5 0 0]] 115),(4,.row [.vl 6 (t5 0) 0 r3.1.length] 33),(3,.row [.map 2] 130),(2,.map (List.map (mE (fun x=>.i6 x) (fun x=>.i6 x)) r3.2.es) r3.2.cl),(1,.row [.nils] 24),(0,.row [.iM q01 p1.Nodes] 24)],11⟩) (args:=[.fn (.func 113) [] [.iptr [.iM q05 r23]],.fn (.func 86) [] []]) rfl (q50 rfl rfl fn84 hb84 rfl rfl) (EvU.st [] (q5z n r23 r26 h27 )) rfl rfl ?_
 rintro _ _ ⟨t28,rfl,rfl⟩
 refine go ?_
 refine RS.q rfl (q0c rfl rfl rfl (q6o und52 rfl)) ?_
 refine go ?_
 refine gS (l':=[(2,_),(4,_),(5,_),(8,_),(9,_),(10,_),(11,_),(22,_),(23,_),(24,_),(38,_),(39,_)]) ?_
 refine z4g (fun m tm σ=>∃ z42:Int,∃ l43:List q0s,q2j p1 r3 z14 l15 (q1r p1 n r3 m1) x19 r26 m z42 l43=some r∧tm=fr 68 [(2,.ptr 0 0 0),(4,.ptr 1 0 0),(5,.ptr 3 0 0),(8,.ptr 8 0 0),(9,.i6 z14),(10,.i6 x19),(11,.vl 10 (t28 0) 0 l43.length),(22,.vl 6 (t5 0) 0 r3.1.length),(23,.i6 (r3.1.length:Int)),(24,.i6 z14),(38,.i6 (r26.length:Int)),(39,.i6 z42)]∧σ=⟨[(10,.vec (List.map q05 l43).flatten 66 2 (t28 0)),(8,.row [.sl 7 0 ((r3.1.length:Int).toNat) ((r3.1.length:Int).toNat)] 24),(7,.row (List.map q01 l15).flatten 54),(6,.vec (List.map (cI .i64) r3.1).flatten 3 1 (t5 0)),(5,.row [.fn (.func 83) [] [.ptr 4 0 0,.ptr 3 0 0,.ptr 0 0 0,.ptr 5 0 0]] 115),(4,.row [.vl 6 (t5 0) 0 r3.1.length] 33),(3,.row [.map 2] 130),(2,.map (List.map (mE (fun x=>.i6 x) (fun x=>.i6 x)) r3.2.es) r3.2.cl),(1,.row [.nils] 24),(0,.row [.iM q01 p1.Nodes] 24)],11⟩) (fun tm σ=>∃ l44:List q0s,q3q p1 r3 z14 l15 (q1r p1 n r3 m1) x19 l44=some r∧tm=fr 68 [(2,.ptr 0 0 0),(4,.ptr 1 0 0),(5,.ptr 3 0 0),(8,.ptr 8 0 0),(9,.i6 z14),(10,.i6 x19),(11,.vl 10 (t28 0) 0 l44.length),(22,.vl 6 (t5 0) 0 r3.1.length),(23,.i6 (r3.1.length:Int)),(24,.i6 z14)]∧σ=⟨[(10,.vec (List.map q05 l44).flatten 66 2 (t28 0)),(8,.row [.sl 7 0 ((r3.1.length:Int).toNat) ((r3.1.length:Int).toNat)] 24),(7,.row (List.map q01 l15).flatten 54),(6,.vec (List.map (cI .i64) r3.1).flatten 3 1 (t5 0)),(5,.row [.fn (.func 83) [] [.ptr 4 0 0,.ptr 3 0 0,.ptr 0 0 0,.ptr 5 0 0]] 115),(4,.row [.vl 6 (t5 0) 0 r3.1.length] 33),(3,.row [.map 2] 130),(2,.map (List.map (mE (fun x=>.i6 x) (fun x=>.i6 x)) r3.2.es) r3.2.cl),(1,.row [.nils] 24),(0,.row [.iM q01 p1.Nodes] 24)],11⟩) n ⟨0,r26,hF,rfl,rfl⟩ ?_ ?_
 rintro _ _ ⟨l44,hF,rfl,rfl⟩
 unfold q3q at hF
 refine gn ?_
 refine WPU.ghost (tm':=fr 68 [(2,.ptr 0 0 0),(4,.ptr 1 0 0),(5,.ptr 3 0 0),(8,.ptr 8 0 0),(9,.i6 z14),(10,.i6 x19),(11,.iM q05 l44),(22,.vl 6 (t5 0) 0 r3.1.length),(23,.i6 (r3.1.length:Int)),(24,.i6 z14)]) (σ':=⟨[(8,.row [.sl 7 0 ((r3.1.length:Int).toNat) ((r3.1.length:Int).toNat)] 24),(7,.row (List.map q01 l15).flatten 54),(6,.vec (List.map (cI .i64) r3.1).flatten 3 1 (t5 0)),(5,.row [.fn (.func 83) [] [.ptr 4 0 0,.ptr 3 0 0,.ptr 0 0 0,.ptr 5 0 0]] 115),(4,.row [.vl 6 (t5 0) 0 r3.1.length] 33),(3,.row [.map 2] 130),(2,.map (List.map (mE (fun x=>.i6 x) (fun x=>.i6 x)) r3.2.es) r3.2.cl),(1,.row [.nils] 24),(0,.row [.iM q01 p1.Nodes] 24)],11⟩) (Gh.trans (Gh.sub (l':=[(2,.ptr 0 0 0),(4,.ptr 1 0 0),(5,.ptr 3 0 0),(8,.ptr 8 0 0),(9,.i6 z14),(10,.i6 x19),(11,.vl 10 (t28 0) 0 l44.length),(22,.vl 6 (t5 0) 0 r3.1.length),(23,.i6 (r3.1.length:Int)),(24,.i6 z14)]) ⟨rfl,rfl,rfl,rfl,rfl,rfl,rfl,rfl,rfl,rfl,trivial⟩) (Gh.fzS (l':=[(2,.ptr 0 0 0),(4,.ptr 1 0 0),(5,.ptr 3 0 0),(8,.ptr 8 0 0),(9,.i6 z14),(10,.i6 x19),(11,.iM q05 l44),(22,.vl 6 (t5 0) 0 r3.1.length),(23,.i6 (r3.1.length:Int)),(24,.i6 z14)]) (h':=[(8,.row [.sl 7 0 ((r3.1.length:Int).toNat) ((r3.1.length:Int).toNat)] 24),(7,.row (List.map q01 l15).flatten 54),(6,.vec (List.map (cI .i64) r3.1).flatten 3 1 (t5 0)),(5,.row [.fn (.func 83) [] [.ptr 4 0 0,.ptr 3 0 0,.ptr 0 0 0,.ptr 5 0 0]] 115),(4,.row [.vl 6 (t5 0) 0 r3.1.length] 33),(3,.row [.map 2] 130),(2,.map (List.map (mE (fun x=>.i6 x) (fun x=>.i6 x)) r3.2.es) r3.2.cl),(1,.row [.nils] 24),(0,.row [.iM q01 p1.Nodes] 24)]) 10 (.vec (List.map q05 l44).flatten 66 2 (t28 0)) 2 rfl (by simp) (by simp only [fzS,qkl,qbm,q68,qi2,qew,qi4,qd3,qez,qey,qex,qd2,qi3,qkh,qi1,qi5,qni,qkx,z0e q0k,q8z (show Nat.beq 0 10=false from rfl),q8y (show Nat.beq 0 10=false from rfl),q8x (show Nat.beq 0 10=false from rfl),q8z (show Nat.beq 1 10=false from rfl),q8y (show Nat.beq 1 10=false from rfl),q8x (show Nat.beq 1 10=false from rfl),q8z (show Nat.beq 2 10=false from rfl),q8y (show Nat.beq 2 10=false from rfl),q8x (show Nat.beq 2 10=false from rfl),q8z (show Nat.beq 3 10=false from rfl),q8y (show Nat.beq 3 10=false from rfl),q8x (show Nat.beq 3 10=false from rfl),q8z (show Nat.beq 4 10=false from rfl),q8y (show Nat.beq 4 10=false from rfl),q8x (show Nat.beq 4 10=false from rfl),q8z (show Nat.beq 5 10=false from rfl),q8y (show Nat.beq 5 10=false from rfl),q8x (show Nat.beq 5 10=false from rfl),q8z (show Nat.beq 6 10=false from rfl),q8y (show Nat.beq 6 10=false from rfl),q8x (show Nat.beq 6 10=false from rfl),q8z (show Nat.beq 7 10=false from rfl),q8y (show Nat.beq 7 10=false from rfl),q8x (show Nat.beq 7 10=false from rfl),q8z (show Nat.beq 8 10=false from rfl),q8y (show Nat.beq 8 10=false from rfl),q8x (show Nat.beq 8 10=false from rfl),q3n _ _ _ (q4b 10 (fun q=>qfr _ q) l15),q3n _ _ _ (q4b 10 (fun q=>qck _ .i64 q) r3.1),z3h]) (by simp only [fzH,fzB,ug,Nat.beq,cond_true,cond_false,qkl,qbm,q68,qi2,qew,qi4,qd3,qez,qey,qex,qd2,qi3,qkh,qi1,qi5,qni,qkx,z0e q0k,q8z (show Nat.beq 0 10=false from rfl),q8y (show Nat.beq 0 10=false from rfl),q8x (show Nat.beq 0 10=false from rfl),q8z (show Nat.beq 1 10=false from rfl),q8y (show Nat.beq 1 10=false from rfl),q8x (show Nat.beq 1 10=false from rfl),q8z (show Nat.beq 2 10=false from rfl),q8y (show Nat.beq 2 10=false from rfl),q8x (show Nat.beq 2 10=false from rfl),q8z (show Nat.beq 3 10=false from rfl),q8y (show Nat.beq 3 10=false from rfl),q8x (show Nat.beq 3 10=false from rfl),q8z (show Nat.beq 4 10=false from rfl),q8y (show Nat.beq 4 10=false from rfl),q8x (show Nat.beq 4 10=false from rfl),q8z (show Nat.beq 5 10=false from rfl),q8y (show Nat.beq 5 10=false from rfl),q8x (show Nat.beq 5 10=false from rfl),q8z (show Nat.beq 6 10=false from rfl),q8y (show Nat.beq 6 10=false from rfl),q8x (show Nat.beq 6 10=false from rfl),q8z (show Nat.beq 7 10=false from rfl),q8y (show Nat.beq 7 10=false from rfl),q8x (show Nat.beq 7 10=false from rfl),q8z (show Nat.beq 8 10=false from rfl),q8y (show Nat.beq 8 10=false from rfl),q8x (show Nat.beq 8 10=false from rfl),q3n _ _ _ (q4b 10 (fun q=>qfr _ q) l15),q3n _ _ _ (q4b 10 (fun q=>qck _ .i64 q) r3.1),z3h]))) NZ ?_
 obtain ⟨x45,h46,hF⟩:=q00 hF
 obtain ⟨x47,h48,hF⟩:=q00 hF
 refine go ?_
 refine z4i Tryz.tb_ok [] (by kernel_rfl) ?_
 refine RD.q rfl (q0w und24 rfl (q03 inf22) rfl rfl rfl) (RD.q rfl (q0i und22 rfl rfl rfl rfl) (RD.mv rfl rfl rfl rfl (RD.q rfl (q0w und24 rfl (q03 inf22) rfl rfl rfl) (RD.q rfl (q0i und22 rfl rfl rfl rfl) (RD.mv rfl rfl rfl rfl (RD.q rfl (q0f rfl rfl (q0a q01 und22 (q03 inf54) q1b h46 rfl)) (RD.q rfl (q1o und54 rfl (q03 inf3) rfl rfl) ?_)))))))
 refine RD.q rfl (q0d und3 rfl rfl rfl) (RD.mv rfl rfl rfl rfl (RD.q (u:=.agg [.i6 x45.Typex,.iM q05 l44]) rfl (q3l bd54 rfl rfl rfl) (RD.q rfl (q0f rfl rfl (qsf und22 (q03 inf54) rfl h48)) ?_)))
 refine z4t (u:=.junk) (σ':=⟨[(8,.row [.sl 7 0 ((r3.1.length:Int).toNat) ((r3.1.length:Int).toNat)] 24),(7,.row (List.map q01 (l15.set z14.toNat (q0n.mk x45.Typex l44))).flatten 54),(6,.vec (List.map (cI .i64) r3.1).flatten 3 1 (t5 0)),(5,.row [.fn (.func 83) [] [.ptr 4 0 0,.ptr 3 0 0,.ptr 0 0 0,.ptr 5 0 0]] 115),(4,.row [.vl 6 (t5 0) 0 r3.1.length] 33),(3,.row [.map 2] 130),(2,.map (List.map (mE (fun x=>.i6 x) (fun x=>.i6 x)) r3.2.es) r3.2.cl),(1,.row [.nils] 24),(0,.row [.iM q01 p1.Nodes] 24)],11⟩) rfl (qz3 q01 (q03 inf54) q1b rfl rfl rfl rfl rfl rfl h48 rfl) rfl ?_
 refine RD.done ⟨by kernel_rfl,trivial,?_⟩
 refine go ?_
 exact lC ⟨_,(l15.set z14.toNat (q0n.mk x45.Typex l44)),hF,rfl,rfl⟩
 rintro (_|m2) _ _ ⟨z42,l43,hF,rfl,rfl⟩
 cases hF
 unfold q2j at hF
 refine go ?_
 refine cF hF (fun h49 hF=>?_) (fun h49 hF=>?_)
 refine go ?_
 refine WPU.block ?_
 obtain ⟨x50,h51,hF⟩:=q00 hF
 obtain ⟨x52,h53,hF⟩:=q00 hF
 refine gr ?_
 refine z4h (fun tm σ=>tm=fr 68 [(2,.ptr 0 0 0),(4,.ptr 1 0 0),(5,.ptr 3 0 0),(8,.ptr 8 0 0),(9,.i6 z14),(10,.i6 x19),(11,.vl 10 (t28 0) 0 ((l43.set (0+z42.toNat) (q0s.mk x52.Feat ((qq1 (fun a b=>a == b) r3.2 x50.To).getD 0))).length)),(22,.vl 6 (t5 0) 0 r3.1.length),(23,.i6 (r3.1.length:Int)),(24,.i6 z14),(38,.i6 (r26.length:Int)),(39,.i6 z42)]∧σ=⟨[(10,.vec (List.map q05 (l43.set (0+z42.toNat) (q0s.mk x52.Feat ((qq1 (fun a b=>a == b) r3.2 x50.To).getD 0)))).flatten 66 2 (t28 0)),(8,.row [.sl 7 0 ((r3.1.length:Int).toNat) ((r3.1.length:Int).toNat)] 24),(7,.row (List.map q01 l15).flatten 54),(6,.vec (List.map (cI .i64) r3.1).flatten 3 1 (t5 0)),(5,.row [.fn (.func 83) [] [.ptr 4 0 0,.ptr 3 0 0,.ptr 0 0 0,.ptr 5 0 0]] 115),(4,.row [.vl 6 (t5 0) 0 r3.1.length] 33),(3,.row [.map 2] 130),(2,.map (List.map (mE (fun x=>.i6 x) (fun x=>.i6 x)) r3.2.es) r3.2.cl),(1,.row [.nils] 24),(0,.row [.iM q01 p1.Nodes] 24)],11⟩) ?_ ?_
 rintro _ _ ⟨rfl,rfl⟩
 refine go ?_
 exact lC ⟨_,(l43.set (0+z42.toNat) (q0s.mk x52.Feat ((qq1 (fun a b=>a == b) r3.2 x50.To).getD 0))),hF,rfl,rfl⟩
 refine z4i Tryz.tb_ok [] (by kernel_rfl) ?_
 repeat refine RD.mv rfl rfl rfl rfl ?_
 refine RD.q rfl (q0i und130 rfl rfl rfl rfl) ?_
 repeat refine RD.mv rfl rfl rfl rfl ?_
 refine RD.q rfl (q0f rfl rfl (q90 q05 und52 (q03 inf66) (by decide) q0k (vo rfl) h51)) ?_
 refine RD.q rfl (q0w und66 rfl (q03 inf3) rfl (qmg rfl) rfl) (RD.q (u:=.i6 x50.To) rfl (qxq q05 und3 rfl q0k rfl rfl (qkj h51) rfl) (RD.q (u:=.i6 ((qq1 (fun a b=>a == b) r3.2 x50.To).getD 0)) rfl (z3o (kU:=(fun x=>.i6 x)) (vU:=(fun x=>.i6 x)) (m:=r3.2) (k:=x50.To) (zv:=0) (qsi und3) und130 rfl rfl rfl inf3 rfl) ?_))
 refine RD.q rfl (q0f rfl rfl (q90 q05 und52 (q03 inf66) (by decide) q0k (vo rfl) h53)) ?_
 refine RD.q rfl (q0w und66 rfl (q03 inf3) rfl (qmg rfl) rfl) ?_
 refine z4t (u:=.junk) (σ':=⟨[(10,.vec (List.map q05 (l43.set (0+z42.toNat) (q0s.mk x52.Feat ((qq1 (fun a b=>a == b) r3.2 x50.To).getD 0)))).flatten 66 2 (t28 0)),(8,.row [.sl 7 0 ((r3.1.length:Int).toNat) ((r3.1.length:Int).toNat)] 24),(7,.row (List.map q01 l15).flatten 54),(6,.vec (List.map (cI .i64) r3.1).flatten 3 1 (t5 0)),(5,.row [.fn (.func 83) [] [.ptr 4 0 0,.ptr 3 0 0,.ptr 0 0 0,.ptr 5 0 0]] 115),(4,.row [.vl 6 (t5 0) 0 r3.1.length] 33),(3,.row [.map 2] 130),(2,.map (List.map (mE (fun x=>.i6 x) (fun x=>.i6 x)) r3.2.es) r3.2.cl),(1,.row [.nils] 24),(0,.row [.iM q01 p1.Nodes] 24)],11⟩) rfl (st_vf (y:=(q0s.mk x52.Feat ((qq1 (fun a b=>a == b) r3.2 x50.To).getD 0))) q05 (q03 inf3) q0k rfl rfl rfl rfl rfl rfl (qkj h53) rfl rfl) rfl ?_
 refine RD.done ⟨by kernel_rfl,trivial,?_⟩
 refine go ?_
 exact ⟨_,_,⟨rfl,rfl⟩,NZ,z4l ⟨rfl,rfl,rfl,rfl,rfl,rfl,(by simp only [List.length_set]; rfl),rfl,rfl,rfl,rfl,rfl,trivial⟩ rfl⟩
 refine go ?_
 exact xC ⟨l43,hF,rfl,rfl⟩
 refine go ?_
 exact xC ⟨l15,hF,rfl,rfl⟩
def qnj (p1:GFS) (n:Nat)  : Option (GFS×Int) :=
 q04 (q44 n p1 0) fun r9 =>
 some (r9,0)
def qnk (p1:GFS) (n:Nat):Nat→Int→Option (GFS×Int)
 | 0,_=>none
 | m1+1,z8 =>
  cond (decide (z8<(p1.Nodes.length:Int)))
   (q04 (q15 p1.Nodes z8) fun x12 =>
   q04 (qm7 n x12 (p1.Nodes.length:Int)) fun r14 =>
   cond (r14 != 0)
    (some ((GFS.mk []),r14))
    ((qnk p1 n m1) (IntKind.i64.wrap (z8+1))))
   (qnj p1 n)
def qi6 (n:Nat) (p1:GFS) (p2:Int):Option (GFS) :=
 q04 (q44 n p1 p2) fun r3 =>
 some r3
theorem qsc (n:Nat) (p1:GFS) (p2:Int) (r:GFS) (hF:qi6 n p1 p2=some r):EvU Tryz.prog 62 [.agg [.isl false (List.map q01 p1.Nodes)],.int .i64 p2] ⟨[],0⟩ (fun u _=>u = .agg [.isl false (List.map q01 r.Nodes)]∧Bel 0 u):=by
 unfold qi6 at hF
 refine bg2 8 fn62 ?_
 refine go ?_
 refine RS.q (u:=.ptr 0 0 0) (σ':=⟨[(0,.row [.iM q01 p1.Nodes] 24)],1⟩) rfl (q2p rfl rfl rfl) (RS.q (u:=.ptr 1 0 0) (σ':=⟨[(1,.row [.nils] 24),(0,.row [.iM q01 p1.Nodes] 24)],2⟩) rfl (q0v inf24 rfl rfl) ?_)
 obtain ⟨r3,h4,hF⟩:=q00 hF
 refine go ?_
 refine RS.q (u:=.agg [.iM q01 p1.Nodes]) rfl (q0p und24 rfl (q03 inf24) rfl rfl rfl) ?_
 refine go ?_
 refine RS.cl rfl (pC (qjm n p1 p2 r3 h4) _) fn65 ?_
 refine z4k (u:=.junk) (σ':=⟨[(1,.row [.iM q01 r3.Nodes] 24),(0,.row [.iM q01 p1.Nodes] 24)],2⟩) rfl (q0l (q03 inf24) rfl rfl rfl rfl rfl rfl rfl rfl) rfl ?_
 refine go ?_
 obtain rfl:=sI hF
 exact rT (qei (q0p und24 rfl (q03 inf24) rfl rfl rfl) (q2g)) (z4p _ rfl)
def qaa (z6:Int) (rc1:Int→Option (Int))  : Option (Int) :=
 rc1 (IntKind.i64.wrap (z6+1))
def q5t (p1:List q0s) (z6:Int) (rc1:Int→Option (Int)):Nat→Int→Option (Int)
 | 0,_=>none
 | m2+1,z23 =>
  cond (decide (z23<z6))
   (q04 (q15 p1 z23) fun x25 =>
   q04 (q15 p1 z6) fun x27 =>
   cond (x25.Feat == x27.Feat)
    (some 4)
    ((q5t p1 z6 rc1 m2) (IntKind.i64.wrap (z23+1))))
   (qaa z6 rc1)
def qa9   : Option (Int) :=
 some 0
def q36 (p1:List q0s) (p2:Int) (n:Nat):Nat→Int→Option (Int)
 | 0,_=>none
 | m1+1,z6 =>
  cond (decide (z6<(p1.length:Int)))
   (q04 (q04 (q15 p1 z6) fun x8 =>
   cond (decide (x8.Feat<0))
    (some true)
    (q04 (q15 p1 z6) fun x11 =>
    cond (decide (x11.To<0))
     (some true)
     (q04 (q15 p1 z6) fun x14 =>
     some (decide (x14.To ≥ p2))))) fun b16 =>
   cond b16
    (some 2)
    (q5t p1 z6 (q36 p1 p2 n m1) n 0))
   (qa9)
def qg3 (n:Nat) (p1:List q0s) (p2:Int):Option (Int) :=
 q36 p1 p2 n n 0
theorem qrf (n:Nat) (p1:List q0s) (p2:Int) (r:Int) (hF:qg3 n p1 p2=some r):EvU Tryz.prog 87 [.isl false (List.map q05 p1),.int .i64 p2] ⟨[],0⟩ (fun u _=>u = .int .i64 r∧Bel 0 u):=by
 unfold qg3 at hF
 refine bg2 52 fn87 ?_
 refine go ?_
 refine gS (l':=[(0,_),(1,_),(5,_)]) ?_
 refine z4g (fun m tm σ=>∃ z6:Int,q36 p1 p2 n m z6=some r∧tm=fr 52 [(0,.iM q05 p1),(1,.i6 p2),(5,.i6 z6)]∧σ=⟨[],0⟩) (fun tm σ=>qa9=some r∧tm=fr 52 []∧σ=⟨[],0⟩) n ⟨0,hF,rfl,rfl⟩ ?_ ?_
 rintro _ _ ⟨hF,rfl,rfl⟩
 unfold qa9 at hF
 exact gx hF
 rintro (_|m1) _ _ ⟨z6,hF,rfl,rfl⟩
 cases hF
 unfold q36 at hF
 refine go ?_
 refine RS.q rfl (q0c rfl rfl rfl (q08 q05 und52)) ?_
 refine go ?_
 refine cF hF (fun h7 hF=>?_) (fun h7 hF=>?_)
 refine go ?_
 refine WPU.block ?_
 obtain ⟨b16,h17,hF⟩:=q00 hF
 refine gn ?_
 refine z4h (fun tm σ=>tm=fr 52 [(0,.iM q05 p1),(1,.i6 p2),(5,.i6 z6),(35,.bool b16)]∧σ=⟨[],0⟩) ?_ ?_
 rintro _ _ ⟨rfl,rfl⟩
 refine go ?_
 refine cF hF (fun h18 hF=>?_) (fun h18 hF=>?_)
 exact gx hF
 refine go ?_
 refine gS (l':=[(0,_),(1,_),(5,_),(6,_)]) ?_
 refine z4g (fun m tm σ=>∃ z23:Int,q5t p1 z6 (q36 p1 p2 n m1) m z23=some r∧tm=fr 52 [(0,.iM q05 p1),(1,.i6 p2),(5,.i6 z6),(6,.i6 z23)]∧σ=⟨[],0⟩) (fun tm σ=>qaa z6 (q36 p1 p2 n m1)=some r∧tm=fr 52 [(0,.iM q05 p1),(1,.i6 p2),(5,.i6 z6)]∧σ=⟨[],0⟩) n ⟨0,hF,rfl,rfl⟩ ?_ ?_
 rintro _ _ ⟨hF,rfl,rfl⟩
 unfold qaa at hF
 refine go ?_
 exact lC ⟨_,hF,rfl,rfl⟩
 rintro (_|m2) _ _ ⟨z23,hF,rfl,rfl⟩
 cases hF
 unfold q5t at hF
 refine go ?_
 refine cF hF (fun h24 hF=>?_) (fun h24 hF=>?_)
 refine go ?_
 refine WPU.block ?_
 obtain ⟨x25,h26,hF⟩:=q00 hF
 obtain ⟨x27,h28,hF⟩:=q00 hF
 refine go ?_
 refine z4i Tryz.tb_ok [] (by kernel_rfl) ?_
 repeat refine RD.mv rfl rfl rfl rfl ?_
 refine RD.q rfl (q0f rfl rfl (q0a q05 und52 (q03 inf66) q0k h26 rfl)) (RD.q rfl (q1o und66 rfl (q03 inf3) rfl rfl) (RD.q rfl (q0d und3 rfl rfl rfl) ?_))
 repeat refine RD.mv rfl rfl rfl rfl ?_
 refine RD.q rfl (q0f rfl rfl (q0a q05 und52 (q03 inf66) q0k h28 rfl)) (RD.q rfl (q1o und66 rfl (q03 inf3) rfl rfl) (RD.q rfl (q0d und3 rfl rfl rfl) (RD.q rfl (q3b rfl rfl (z2a _ _ _) rfl) ?_)))
 refine RD.done ⟨by kernel_rfl,trivial,?_⟩
 refine go ?_
 refine cF hF (fun h29 hF=>?_) (fun h29 hF=>?_)
 exact gx hF
 refine go ?_
 exact lC ⟨_,hF,rfl,rfl⟩
 refine go ?_
 exact xC ⟨hF,rfl,rfl⟩
 obtain ⟨x8,h9,h17⟩:=q00 h17
 rcases gB h17 with ⟨h10,h17⟩ | ⟨h10,h17⟩
 obtain rfl:=sI h17
 refine go ?_
 refine RS.q rfl (q0f rfl rfl (q0a q05 und52 (q03 inf66) q0k h9 rfl)) (RS.q rfl (q1o und66 rfl (q03 inf3) rfl rfl) (RS.q rfl (q0d und3 rfl rfl rfl) ?_))
 refine go ?_
 exact xC ⟨rfl,rfl⟩
 obtain ⟨x11,h12,h17⟩:=q00 h17
 rcases gB h17 with ⟨h13,h17⟩ | ⟨h13,h17⟩
 obtain rfl:=sI h17
 refine go ?_
 refine RS.q rfl (q0f rfl rfl (q0a q05 und52 (q03 inf66) q0k h9 rfl)) (RS.q rfl (q1o und66 rfl (q03 inf3) rfl rfl) (RS.q rfl (q0d und3 rfl rfl rfl) ?_))
 refine go ?_
 refine RS.w rfl (q0f rfl rfl (q0a q05 und52 (q03 inf66) q0k h12 rfl)) (RS.w rfl (q1o und66 rfl (q03 inf3) rfl rfl) (RS.w rfl (q0d und3 rfl rfl rfl) ?_))
 refine go ?_
 exact xC ⟨rfl,rfl⟩
 obtain ⟨x14,h15,h17⟩:=q00 h17
 obtain rfl:=sI h17
 refine go ?_
 refine RS.q rfl (q0f rfl rfl (q0a q05 und52 (q03 inf66) q0k h9 rfl)) (RS.q rfl (q1o und66 rfl (q03 inf3) rfl rfl) (RS.q rfl (q0d und3 rfl rfl rfl) ?_))
 refine go ?_
 refine RS.w rfl (q0f rfl rfl (q0a q05 und52 (q03 inf66) q0k h12 rfl)) (RS.w rfl (q1o und66 rfl (q03 inf3) rfl rfl) (RS.w rfl (q0d und3 rfl rfl rfl) ?_))
 refine go ?_
 refine RS.w rfl (q0f rfl rfl (q0a q05 und52 (q03 inf66) q0k h15 rfl)) (RS.w rfl (q1o und66 rfl (q03 inf3) rfl rfl) (RS.w rfl (q0d und3 rfl rfl rfl) ?_))
 refine go ?_
 exact xC ⟨rfl,rfl⟩
 refine go ?_
 exact xC ⟨hF,rfl,rfl⟩
def qab   : Option (Int) :=
 some 0
def q5u (p1:GFS) (n:Nat):Nat→Int→Option (Int)
 | 0,_=>none
 | m1+1,z6 =>
  cond (decide (z6<(p1.Nodes.length:Int)))
   (q04 (q15 p1.Nodes z6) fun x8 =>
   cond (decide (x8.Typex<0))
    (some 2)
    (q04 (q15 p1.Nodes z6) fun x11 =>
    q04 (qg3 n x11.Arcs (p1.Nodes.length:Int)) fun r13 =>
    cond (r13 != 0)
     (some r13)
     ((q5u p1 n m1) (IntKind.i64.wrap (z6+1)))))
   (qab)
def qcx (n:Nat) (p1:GFS):Option (Int) :=
 cond ((p1.Nodes.length:Int) == 0)
  (some 1)
  (cond (decide ((p1.Nodes.length:Int) > 4096))
   (some 7)
   (q5u p1 n n 0))
theorem qrg (n:Nat) (p1:GFS) (r:Int) (hF:qcx n p1=some r):EvU Tryz.prog 67 [.agg [.isl false (List.map q01 p1.Nodes)]] ⟨[],0⟩ (fun u _=>u = .int .i64 r∧Bel 0 u):=by
 unfold qcx at hF
 refine bg1 40 fn67 ?_
 refine go ?_
 refine RS.q (u:=.ptr 0 0 0) (σ':=⟨[(0,.row [.iM q01 p1.Nodes] 24)],1⟩) rfl (q2p rfl rfl rfl) ?_
 refine go ?_
 refine RS.q rfl (q0w und24 rfl (q03 inf22) rfl rfl rfl) (RS.q rfl (q0i und22 rfl rfl rfl rfl) (RS.q rfl (q0c rfl rfl rfl (q08 q01 und22)) ?_))
 refine go ?_
 refine cF hF (fun h2 hF=>?_) (fun h2 hF=>?_)
 exact gx hF
 refine go ?_
 refine RS.q rfl (q0w und24 rfl (q03 inf22) rfl rfl rfl) (RS.q rfl (q0i und22 rfl rfl rfl rfl) (RS.q rfl (q0c rfl rfl rfl (q08 q01 und22)) ?_))
 refine go ?_
 refine cF hF (fun h3 hF=>?_) (fun h3 hF=>?_)
 exact gx hF
 refine go ?_
 refine gS (l':=[(1,_),(3,_)]) ?_
 refine z4g (fun m tm σ=>∃ z6:Int,q5u p1 n m z6=some r∧tm=fr 40 [(1,.ptr 0 0 0),(3,.i6 z6)]∧σ=⟨[(0,.row [.iM q01 p1.Nodes] 24)],1⟩) (fun tm σ=>qab=some r∧tm=fr 40 []∧σ=⟨[(0,.row [.iM q01 p1.Nodes] 24)],1⟩) n ⟨0,hF,rfl,rfl⟩ ?_ ?_
 rintro _ _ ⟨hF,rfl,rfl⟩
 unfold qab at hF
 exact gx hF
 rintro (_|m1) _ _ ⟨z6,hF,rfl,rfl⟩
 cases hF
 unfold q5u at hF
 refine go ?_
 refine RS.q rfl (q0w und24 rfl (q03 inf22) rfl rfl rfl) (RS.q rfl (q0i und22 rfl rfl rfl rfl) (RS.q rfl (q0c rfl rfl rfl (q08 q01 und22)) ?_))
 refine go ?_
 refine cF hF (fun h7 hF=>?_) (fun h7 hF=>?_)
 refine go ?_
 refine WPU.block ?_
 obtain ⟨x8,h9,hF⟩:=q00 hF
 refine go ?_
 refine RS.q rfl (q0w und24 rfl (q03 inf22) rfl rfl rfl) (RS.q rfl (q0i und22 rfl rfl rfl rfl) ?_)
 refine go ?_
 refine RS.q rfl (q0f rfl rfl (q0a q01 und22 (q03 inf54) q1b h9 rfl)) (RS.q rfl (q1o und54 rfl (q03 inf3) rfl rfl) (RS.q rfl (q0d und3 rfl rfl rfl) ?_))
 refine go ?_
 refine cF hF (fun h10 hF=>?_) (fun h10 hF=>?_)
 exact gx hF
 obtain ⟨x11,h12,hF⟩:=q00 hF
 obtain ⟨r13,h14,hF⟩:=q00 hF
 refine go ?_
 refine z4i Tryz.tb_ok [] (by kernel_rfl) ?_
 refine RD.q rfl (q0w und24 rfl (q03 inf22) rfl rfl rfl) (RD.q rfl (q0i und22 rfl rfl rfl rfl) (RD.mv rfl rfl rfl rfl (RD.q rfl (q0f rfl rfl (q0a q01 und22 (q03 inf54) q1b h12 rfl)) (RD.q rfl (q1o und54 rfl (q03 inf52) rfl rfl) (RD.q rfl (q0d und52 rfl rfl rfl) (RD.q rfl (q0w und24 rfl (q03 inf22) rfl rfl rfl) (RD.q rfl (q0i und22 rfl rfl rfl rfl) ?_)))))))
 refine RD.q rfl (q0c rfl rfl rfl (q08 q01 und22)) ?_
 refine z4w rfl (pC (qrf n x11.Arcs (p1.Nodes.length:Int) r13 h14)) fn87 ?_
 refine RD.as rfl rfl rfl rfl ?_
 refine RD.done ⟨by kernel_rfl,trivial,?_⟩
 refine go ?_
 refine cF hF (fun h15 hF=>?_) (fun h15 hF=>?_)
 exact gx hF
 refine go ?_
 exact lC ⟨_,hF,rfl,rfl⟩
 refine go ?_
 exact xC ⟨hF,rfl,rfl⟩
def q49 (p1:List q0s) (z6:Int) (l7:List q0s) (rc1:Int→(List q0s)→Option ((List q0s))) (z18:Int):Option ((List q0s)) :=
 q1i ((0:Int)≤z18∧z18≤((l7.length:Nat):Int)) (
 q1i (0+z18.toNat≤l7.length) (
 q1i (((l7.drop 0).take z18.toNat).length*16≤140737488355328∧((l7.drop 0).take z18.toNat).length≤140737488355328) (
 q04 (q15 p1 z6) fun x22 =>
 q1i ((((l7.drop 0).take z18.toNat).length+1)*16≤140737488355328∧((l7.drop 0).take z18.toNat).length+1≤140737488355328) (
 q1i ((0:Int)≤z18∧z18≤((l7.length:Nat):Int)) (
 q1i ((0+z18.toNat)+(l7.length - z18.toNat)≤l7.length) (
 q1i (((((l7.drop 0).take z18.toNat)++[x22]).length+((l7.drop (0+z18.toNat)).take (l7.length - z18.toNat)).length)*16≤140737488355328∧(((l7.drop 0).take z18.toNat)++[x22]).length+((l7.drop (0+z18.toNat)).take (l7.length - z18.toNat)).length≤140737488355328) (
 rc1 (IntKind.i64.wrap (z6+1)) ((((l7.drop 0).take z18.toNat)++[x22])++((l7.drop (0+z18.toNat)).take (l7.length - z18.toNat))))))))))
def q4a (p1:List q0s) (z6:Int) (l7:List q0s) (rc1:Int→(List q0s)→Option ((List q0s))):Nat→Int→Option ((List q0s))
 | 0,_=>none
 | m2+1,z17 =>
  q04 (cond (decide (z17 > 0))
   (q04 (q15 l7 (IntKind.i64.wrap (z17 - 1))) fun x29 =>
   q04 (q15 p1 z6) fun x31 =>
   some (decide (x29.Feat > x31.Feat)))
   (some false)) fun b33 =>
  cond b33
   ((q4a p1 z6 l7 rc1 m2) (IntKind.i64.wrap (z17 - 1)))
   (q49 p1 z6 l7 rc1 z17)
def q7i  (l9:List q0s):Option ((List q0s)) :=
 some l9
def q2l (p1:List q0s) (n:Nat):Nat→Int→(List q0s)→Option ((List q0s))
 | 0,_,_=>none
 | m1+1,z6,l7 =>
  cond (decide (z6<(p1.length:Int)))
   (q4a p1 z6 l7 (q2l p1 n m1) n (l7.length:Int))
   (q7i l7)
def q97 (n:Nat) (p1:List q0s):Option ((List q0s)) :=
 q2l p1 n n 0 ([]:List q0s)
theorem qgo (n:Nat) (p1:List q0s) (r:(List q0s)) (hF:q97 n p1=some r):EvU Tryz.prog 89 [.isl false (List.map q05 p1)] ⟨[],0⟩ (fun u σ'=>∃ t,u = .vl 0 t 0 r.length∧σ'=⟨[(0,.vec (List.map q05 r).flatten 66 2 t)],0+1⟩):=by
 unfold q97 at hF
 refine bg1 52 fn89 ?_
 refine gr ?_
 refine gr ?_
 refine gr ?_
 refine WPU.ghost (tm':=fr 52 [(0,.iM q05 p1),(3,.vl 0 0 0 (([]:List q0s).length)),(4,.i6 0)]) (σ':=⟨[(0,.vec (List.map q05 ([]:List q0s)).flatten 66 2 0)],1⟩) (Gh.trans (z4n 3 66 2 (by decide) NZ rfl rfl) (z4l ⟨rfl,rfl,rfl,trivial⟩ rfl)) NZ ?_
 refine gS (l':=[(0,_),(3,_),(4,_)]) ?_
 refine z4g (fun m tm σ=>∃ z6:Int,∃ l7:List q0s,∃ t8:Nat,q2l p1 n m z6 l7=some r∧tm=fr 52 [(0,.iM q05 p1),(3,.vl 0 t8 0 l7.length),(4,.i6 z6)]∧σ=⟨[(0,.vec (List.map q05 l7).flatten 66 2 t8)],1⟩) (fun tm σ=>∃ l9:List q0s,∃ t10:Nat,q7i l9=some r∧tm=fr 52 [(3,.vl 0 t10 0 l9.length)]∧σ=⟨[(0,.vec (List.map q05 l9).flatten 66 2 t10)],1⟩) n ⟨0,([]:List q0s),0,hF,rfl,rfl⟩ ?_ ?_
 rintro _ _ ⟨l9,t10,hF,rfl,rfl⟩
 unfold q7i at hF
 refine go ?_
 obtain rfl:=sI hF
 exact ⟨.inr rfl,[.vl 0 t10 0 l9.length],q2o rfl q2g,.vl 0 t10 0 l9.length,⟨[(0,.vec (List.map q05 l9).flatten 66 2 t10)],1⟩,NZ,Gh.trans (z4y (fun k=>Nat.beq k 0)) (z58 (n1:=1) [] rfl rfl NZ NL BUL.h BH.h),t10,rfl,rfl⟩
 rintro (_|m1) _ _ ⟨z6,l7,t8,hF,rfl,rfl⟩
 cases hF
 unfold q2l at hF
 refine go ?_
 refine RS.q rfl (q0c rfl rfl rfl (q08 q05 und52)) ?_
 refine go ?_
 refine cF hF (fun h11 hF=>?_) (fun h11 hF=>?_)
 refine go ?_
 refine WPU.block ?_
 refine go ?_
 refine RS.q rfl (q0c rfl rfl rfl (q6o und52 rfl)) ?_
 refine go ?_
 refine gS (l':=[(0,_),(3,_),(4,_),(5,_)]) ?_
 refine z4g (fun m tm σ=>∃ z17:Int,q4a p1 z6 l7 (q2l p1 n m1) m z17=some r∧tm=fr 52 [(0,.iM q05 p1),(3,.vl 0 t8 0 l7.length),(4,.i6 z6),(5,.i6 z17)]∧σ=⟨[(0,.vec (List.map q05 l7).flatten 66 2 t8)],1⟩) (fun tm σ=>∃ z18:Int,q49 p1 z6 l7 (q2l p1 n m1) z18=some r∧tm=fr 52 [(0,.iM q05 p1),(3,.vl 0 t8 0 l7.length),(4,.i6 z6),(5,.i6 z18)]∧σ=⟨[(0,.vec (List.map q05 l7).flatten 66 2 t8)],1⟩) n ⟨(l7.length:Int),hF,rfl,rfl⟩ ?_ ?_
 rintro _ _ ⟨z18,hF,rfl,rfl⟩
 unfold q49 at hF
 obtain ⟨h19,hF⟩:=q0b hF
 obtain ⟨h20,hF⟩:=q0b hF
 obtain ⟨h21,hF⟩:=q0b hF
 refine go ?_
 refine RS.q (u:=.vl 0 t8 0 z18.toNat) rfl (qbb rfl qry (z1s rfl) qry (z0z q05 und52 (q03 inf66) q0k (vo rfl) (Nat.le_of_eq (Nat.zero_add _)) (qwd h19.1 h19.2))) (RS.q (u:=.vl 1 0 0 (((l7.drop 0).take z18.toNat).length)) (σ':=⟨[(1,.vec (List.map q05 ((l7.drop 0).take z18.toNat)).flatten 66 2 0),(0,.vec (List.map q05 l7).flatten 66 2 t8)],2⟩) rfl (q1u rfl rfl rfl rfl (qs5 q05 ((l7.drop 0).take z18.toNat) und52 und52 inf66 rfl (qus q05 q0k (vo rfl) h20) h21)) ?_)
 obtain ⟨x22,h23,hF⟩:=q00 hF
 obtain ⟨h24,hF⟩:=q0b hF
 refine go ?_
 refine RS.q rfl (q0f rfl rfl (q0a q05 und52 (q03 inf66) q0k h23 rfl)) (RS.q (u:=.agg (q05 x22)) rfl (qam und66 rfl (q03 inf66) rfl rfl) (RS.q (u:=.sl 2 0 1 1) (σ':=⟨[(2,.row (q05 x22) 66),(1,.vec (List.map q05 ((l7.drop 0).take z18.toNat)).flatten 66 2 0),(0,.vec (List.map q05 l7).flatten 66 2 t8)],3⟩) rfl (q0j und52 inf66 rfl rfl rfl rfl rfl rfl rfl) (RS.q (u:=.vl 1 1 0 ((((l7.drop 0).take z18.toNat)++[x22]).length)) (σ':=⟨[(2,.row (q05 x22) 66),(1,.vec (List.map q05 (((l7.drop 0).take z18.toNat)++[x22])).flatten 66 2 1),(0,.vec (List.map q05 l7).flatten 66 2 t8)],3⟩) rfl (q1u rfl rfl rfl rfl (q2a q05 ([x22]) und52 und52 inf66 rfl q0k rfl (q1q q05 [x22] rfl rfl rfl rfl) h24)) ?_)))
 obtain ⟨h25,hF⟩:=q0b hF
 obtain ⟨h26,hF⟩:=q0b hF
 obtain ⟨h27,hF⟩:=q0b hF
 refine go ?_
 refine RS.q (u:=.vl 0 t8 (0+z18.toNat) (l7.length - z18.toNat)) rfl (qbb rfl (z1s rfl) qry qry (z0z q05 und52 (q03 inf66) q0k (vo rfl) (Nat.le_of_eq (Nat.zero_add _)) (qwe h25.1 h25.2))) (RS.q (u:=.vl 1 2 0 (((((l7.drop 0).take z18.toNat)++[x22])++((l7.drop (0+z18.toNat)).take (l7.length - z18.toNat))).length)) (σ':=⟨[(2,.row (q05 x22) 66),(1,.vec (List.map q05 ((((l7.drop 0).take z18.toNat)++[x22])++((l7.drop (0+z18.toNat)).take (l7.length - z18.toNat)))).flatten 66 2 2),(0,.vec (List.map q05 l7).flatten 66 2 t8)],3⟩) rfl (q1u rfl rfl rfl rfl (q2a q05 ((l7.drop (0+z18.toNat)).take (l7.length - z18.toNat)) und52 und52 inf66 rfl q0k rfl (qus q05 q0k (vo rfl) h26) h27)) ?_)
 refine go ?_
 exact ⟨m1,_,_,Nat.lt_succ_self _,⟨(IntKind.i64.wrap (z6+1)),((((l7.drop 0).take z18.toNat)++[x22])++((l7.drop (0+z18.toNat)).take (l7.length - z18.toNat))),2,hF,rfl,rfl⟩,NZ,Gh.trans (Gh.sub (l':=[(0,.iM q05 p1),(3,.vl 1 2 0 (((((l7.drop 0).take z18.toNat)++[x22])++((l7.drop (0+z18.toNat)).take (l7.length - z18.toNat))).length)),(4,.i6 (IntKind.i64.wrap (z6+1)))]) ⟨rfl,rfl,rfl,trivial⟩) (Gh.trans (Gh.mv (l':=[(0,.iM q05 p1),(3,.vl 0 2 0 (((((l7.drop 0).take z18.toNat)++[x22])++((l7.drop (0+z18.toNat)).take (l7.length - z18.toNat))).length)),(4,.i6 (IntKind.i64.wrap (z6+1)))]) (h':=[(2,.row (q05 x22) 66),(0,.vec (List.map q05 ((((l7.drop 0).take z18.toNat)++[x22])++((l7.drop (0+z18.toNat)).take (l7.length - z18.toNat)))).flatten 66 2 2)]) 0 1 NZ rfl rfl (by simp only [rS,rU,rUL,qfa,mvN,Nat.beq,cond_true,cond_false]) rfl (by simp only [avH,rB,qoh,rUL,rU,qfa,qua,mvN,Nat.beq,cond_true,cond_false,and_self])) (Gh.toC (n1:=1) ⟨rfl,rfl,rfl,trivial⟩ rfl NZ (by simp)))⟩
 rintro (_|m2) _ _ ⟨z17,hF,rfl,rfl⟩
 cases hF
 unfold q4a at hF
 obtain ⟨b33,h34,hF⟩:=q00 hF
 refine gn ?_
 refine z4h (fun tm σ=>tm=fr 52 [(0,.iM q05 p1),(3,.vl 0 t8 0 l7.length),(4,.i6 z6),(5,.i6 z17),(30,.bool b33)]∧σ=⟨[(0,.vec (List.map q05 l7).flatten 66 2 t8)],1⟩) ?_ ?_
 rintro _ _ ⟨rfl,rfl⟩
 refine go ?_
 refine cF hF (fun h35 hF=>?_) (fun h35 hF=>?_)
 refine go ?_
 refine WPU.block ?_
 refine go ?_
 exact lC ⟨_,hF,rfl,rfl⟩
 refine go ?_
 exact xC ⟨z17,hF,rfl,rfl⟩
 rcases gB h34 with ⟨h28,h34⟩ | ⟨h28,h34⟩
 obtain ⟨x29,h30,h34⟩:=q00 h34
 obtain ⟨x31,h32,h34⟩:=q00 h34
 obtain rfl:=sI h34
 refine z4i Tryz.tb_ok [] (by kernel_rfl) ?_
 refine RD.mv rfl rfl rfl rfl (RD.q rfl (q3b rfl rfl (qmb _ _ _) rfl) (RD.mv rfl rfl rfl rfl (RD.w rfl (q27 rfl) (RD.w rfl (q27 rfl) (RD.w rfl (q3b rfl rfl (qxo _ _ _) rfl) ?_)))))
 refine RD.w rfl (q0f rfl rfl (q90 q05 und52 (q03 inf66) (by decide) q0k (vo rfl) h30)) ?_
 refine RD.w rfl (q0w und66 rfl (q03 inf3) rfl (qmg rfl) rfl) (RD.w (u:=.i6 x29.Feat) rfl (qxq q05 und3 rfl q0k rfl rfl (qkj h30) rfl) (RD.w rfl (q27 rfl) (RD.w rfl (q27 rfl) (RD.w rfl (q0f rfl rfl (q0a q05 und52 (q03 inf66) q0k h32 rfl)) (RD.w rfl (q1o und66 rfl (q03 inf3) rfl rfl) (RD.w rfl (q0d und3 rfl rfl rfl) (RD.w rfl (q3b rfl rfl (qmb _ _ _) rfl) ?_)))))))
 refine RD.q rfl (qil rfl h28 rfl) ?_
 refine RD.done ⟨by kernel_rfl,trivial,?_⟩
 refine go ?_
 exact xC ⟨rfl,rfl⟩
 obtain rfl:=sI h34
 refine z4i Tryz.tb_ok [] (by kernel_rfl) ?_
 refine RD.mv rfl rfl rfl rfl (RD.q rfl (q3b rfl rfl (qmb _ _ _) rfl) (RD.mv rfl rfl rfl rfl ?_))
 repeat refine RD.no (qvx rfl rfl rfl h28) rfl rfl ?_
 refine RD.q rfl (qik rfl h28 rfl) ?_
 refine RD.done ⟨by kernel_rfl,trivial,?_⟩
 refine go ?_
 exact xC ⟨rfl,rfl⟩
 refine go ?_
 exact xC ⟨l7,t8,hF,rfl,rfl⟩
def q23 (z23:Int) (rc1:Int→(List Int)→(List Int)→Option ((List Int)×(List Int))) (l36:List Int) (l37:List Int):Option ((List Int)×(List Int)) :=
 rc1 (IntKind.i64.wrap (z23+1)) l36 l37
def q3j  (l27:List Int) (l28:List Int):Option ((List Int)×(List Int)) :=
 some (l27,l28)
def q1g (p2:List q0n) (r12:List q0s) (self:Int→(List q0n)→(List Int)→(List Int)→Option ((List Int)×(List Int))):Nat→Int→(List Int)→(List Int)→Option ((List Int)×(List Int))
 | 0,_,_,_=>none
 | m1+1,z23,l24,l25 =>
  cond (decide (z23<(r12.length:Int)))
   (q04 (q15 r12 z23) fun x31 =>
   q04 (q15 l24 x31.To) fun x33 =>
   cond (decide (x33<0))
    (q04 (q15 r12 z23) fun x39 =>
    q04 (self x39.To p2 l24 l25) fun r41 =>
    q23 z23 (q1g p2 r12 self m1) r41.1 r41.2)
    (q23 z23 (q1g p2 r12 self m1) l24 l25))
   (q3j l24 l25)
def q3v (n:Nat) (self:Int→(List q0n)→(List Int)→(List Int)→Option ((List Int)×(List Int))) (p1:Int) (p2:List q0n) (p3:List Int) (p5:List Int):Option ((List Int)×(List Int)) :=
 q04 (q15 p3 p1) fun x7 =>
 q1i ((p5.length+1)*8≤140737488355328∧p5.length+1≤140737488355328) (
 q04 (q15 p2 p1) fun x10 =>
 q04 (q97 n x10.Arcs) fun r12 =>
 q1g p2 r12 self n 0 (p3.set (0+p1.toNat) (p5.length:Int)) (p5++[p1]))
def q1m:Nat→Int→(List q0n)→(List Int)→(List Int)→Option ((List Int)×(List Int))
 | 0,_,_,_,_=>none
 | n+1,p1,p2,p3,p5=>q3v n (q1m n) p1 p2 p3 p5
theorem q98:∀ (n:Nat) (p1:Int) (p2:List q0n) (p3:List Int) (p5:List Int) (r:(List Int)×(List Int)),q1m n p1 p2 p3 p5=some r→∀ t4 t6:Nat,EvU Tryz.prog 88 [.ptr 0 0 0,.int .i64 p1] ⟨[(0,.row [.isl false (List.map q01 p2),.vl 1 t4 0 p3.length,.vl 2 t6 0 p5.length] 139),(1,.vec (List.map (cI .i64) p3).flatten 3 1 t4),(2,.vec (List.map (cI .i64) p5).flatten 3 1 t6)],3⟩ (fun u σ'=>∃ t:Nat→Nat,u = .tup []∧σ'=⟨[(0,.row [.isl false (List.map q01 p2),.vl 1 t4 0 r.1.length,.vl 2 (t 0) 0 r.2.length] 139),(1,.vec (List.map (cI .i64) r.1).flatten 3 1 t4),(2,.vec (List.map (cI .i64) r.2).flatten 3 1 (t 0))],3⟩)
 | 0,p1,p2,p3,p5,r,hF=>by cases hF
 | n+1,p1,p2,p3,p5,r,hF=>by
  have ih:=q98 n
  unfold q1m q3v at hF
  intro t4 t6
  refine bg2 62 fn88 ?_
  obtain ⟨x7,h8,hF⟩:=q00 hF
  refine gn ?_
  refine z4h (fun tm σ=>tm=fr 62 [(0,.ptr 0 0 0),(1,.i6 p1)]∧σ=⟨[(0,.row [.iM q01 p2,.vl 1 t4 0 ((p3.set (0+p1.toNat) (p5.length:Int)).length),.vl 2 t6 0 p5.length] 139),(1,.vec (List.map (cI .i64) (p3.set (0+p1.toNat) (p5.length:Int))).flatten 3 1 t4),(2,.vec (List.map (cI .i64) p5).flatten 3 1 t6)],3⟩) ?_ ?_
  rintro _ _ ⟨rfl,rfl⟩
  obtain ⟨h9,hF⟩:=q0b hF
  refine go ?_
  refine RS.q (u:=.ptr 0 0 0) rfl (qen rfl rfl) (RS.q rfl (q0w und139 rfl (q03 inf33) rfl rfl rfl) (RS.q rfl (q0i und33 rfl rfl rfl rfl) ?_))
  refine go ?_
  refine RS.q (u:=.sl 3 0 1 1) (σ':=⟨[(3,.row [.i6 p1] 3),(0,.row [.iM q01 p2,.vl 1 t4 0 ((p3.set (0+p1.toNat) (p5.length:Int)).length),.vl 2 t6 0 p5.length] 139),(1,.vec (List.map (cI .i64) (p3.set (0+p1.toNat) (p5.length:Int))).flatten 3 1 t4),(2,.vec (List.map (cI .i64) p5).flatten 3 1 t6)],4⟩) rfl (q0j und33 inf3 rfl rfl rfl rfl rfl rfl rfl) (RS.q (u:=.vl 2 (t6+1) 0 ((p5++[p1]).length)) (σ':=⟨[(3,.row [.i6 p1] 3),(0,.row [.iM q01 p2,.vl 1 t4 0 ((p3.set (0+p1.toNat) (p5.length:Int)).length),.vl 2 t6 0 p5.length] 139),(1,.vec (List.map (cI .i64) (p3.set (0+p1.toNat) (p5.length:Int))).flatten 3 1 t4),(2,.vec (List.map (cI .i64) (p5++[p1])).flatten 3 1 (t6+1))],4⟩) rfl (q1u rfl rfl rfl rfl (q2a (cI .i64) ([p1]) und33 und33 inf3 rfl (q18 .i64) rfl (q1q (cI .i64) [p1] rfl rfl rfl rfl) h9)) (RS.q (u:=.ptr 0 0 0) rfl (qen rfl rfl) (RS.q rfl (q0w und139 rfl (q03 inf33) rfl rfl rfl) ?_)))
  refine z4k (u:=.junk) (σ':=⟨[(3,.row [.i6 p1] 3),(0,.row [.iM q01 p2,.vl 1 t4 0 ((p3.set (0+p1.toNat) (p5.length:Int)).length),.vl 2 (t6+1) 0 ((p5++[p1]).length)] 139),(1,.vec (List.map (cI .i64) (p3.set (0+p1.toNat) (p5.length:Int))).flatten 3 1 t4),(2,.vec (List.map (cI .i64) (p5++[p1])).flatten 3 1 (t6+1))],4⟩) rfl (q0l (q03 inf33) rfl rfl rfl rfl rfl rfl rfl rfl) rfl ?_
  obtain ⟨x10,h11,hF⟩:=q00 hF
  obtain ⟨r12,h13,hF⟩:=q00 hF
  refine go ?_
  refine RS.q (u:=.ptr 0 0 0) rfl (qen rfl rfl) (RS.q rfl (q0w und139 rfl (q03 inf24) rfl rfl rfl) (RS.q rfl (q0w und24 rfl (q03 inf22) rfl rfl rfl) (RS.q rfl (q0i und22 rfl rfl rfl rfl) ?_)))
  refine go ?_
  refine RS.q rfl (q0f rfl rfl (q0a q01 und22 (q03 inf54) q1b h11 rfl)) (RS.q rfl (q1o und54 rfl (q03 inf52) rfl rfl) (RS.q rfl (q0d und52 rfl rfl rfl) ?_))
  refine z4m (R:=fun u σ'=>u = .vl 4 0 0 r12.length∧σ'=⟨[(4,.vec (List.map q05 r12).flatten 66 2 0),(3,.row [.i6 p1] 3),(0,.row [.iM q01 p2,.vl 1 t4 0 ((p3.set (0+p1.toNat) (p5.length:Int)).length),.vl 2 (t6+1) 0 ((p5++[p1]).length)] 139),(1,.vec (List.map (cI .i64) (p3.set (0+p1.toNat) (p5.length:Int))).flatten 3 1 t4),(2,.vec (List.map (cI .i64) (p5++[p1])).flatten 3 1 (t6+1))],5⟩) (args:=[.iM q05 x10.Arcs]) rfl (q50 rfl rfl fn89 hb89 rfl rfl) (z57 q05 (qgo n x10.Arcs r12 h13) _ 4 rfl) rfl rfl ?_
  rintro _ _ ⟨rfl,rfl⟩
  refine go ?_
  refine gS (l':=[(0,_),(4,_),(5,_)]) ?_
  refine z4g (fun m tm σ=>∃ z23:Int,∃ l24:List Int,∃ l25:List Int,∃ t26:Nat,q1g p2 r12 (q1m n) m z23 l24 l25=some r∧tm=fr 62 [(0,.ptr 0 0 0),(4,.vl 4 0 0 r12.length),(5,.i6 z23)]∧σ=⟨[(4,.vec (List.map q05 r12).flatten 66 2 0),(3,.row [.i6 p1] 3),(0,.row [.iM q01 p2,.vl 1 t4 0 l24.length,.vl 2 t26 0 l25.length] 139),(1,.vec (List.map (cI .i64) l24).flatten 3 1 t4),(2,.vec (List.map (cI .i64) l25).flatten 3 1 t26)],5⟩) (fun tm σ=>∃ l27:List Int,∃ l28:List Int,∃ t29:Nat,q3j l27 l28=some r∧tm=fr 62 []∧σ=⟨[(4,.vec (List.map q05 r12).flatten 66 2 0),(3,.row [.i6 p1] 3),(0,.row [.iM q01 p2,.vl 1 t4 0 l27.length,.vl 2 t29 0 l28.length] 139),(1,.vec (List.map (cI .i64) l27).flatten 3 1 t4),(2,.vec (List.map (cI .i64) l28).flatten 3 1 t29)],5⟩) n ⟨0,(p3.set (0+p1.toNat) (p5.length:Int)),(p5++[p1]),(t6+1),hF,rfl,rfl⟩ ?_ ?_
  rintro _ _ ⟨l27,l28,t29,hF,rfl,rfl⟩
  unfold q3j at hF
  refine go ?_
  obtain rfl:=sI hF
  exact ⟨.inl rfl,[],q2g,.tup [],⟨[(0,.row [.iM q01 p2,.vl 1 t4 0 l27.length,.vl 2 t29 0 l28.length] 139),(1,.vec (List.map (cI .i64) l27).flatten 3 1 t4),(2,.vec (List.map (cI .i64) l28).flatten 3 1 t29)],3⟩,NL,z58 (n1:=3) [] rfl rfl NL NL BUL.h BH.h,stF [t29],rfl,rfl⟩
  rintro (_|m1) _ _ ⟨z23,l24,l25,t26,hF,rfl,rfl⟩
  cases hF
  unfold q1g at hF
  refine go ?_
  refine RS.q rfl (q0c rfl rfl rfl (q6o und52 rfl)) ?_
  refine go ?_
  refine cF hF (fun h30 hF=>?_) (fun h30 hF=>?_)
  refine go ?_
  refine WPU.block ?_
  obtain ⟨x31,h32,hF⟩:=q00 hF
  obtain ⟨x33,h34,hF⟩:=q00 hF
  refine go ?_
  refine z4i Tryz.tb_ok [] (by kernel_rfl) ?_
  refine RD.mv rfl rfl rfl rfl (RD.q (u:=.ptr 0 0 0) rfl (qen rfl rfl) (RD.q rfl (q0w und139 rfl (q03 inf33) rfl rfl rfl) (RD.q rfl (q0i und33 rfl rfl rfl rfl) ?_)))
  repeat refine RD.mv rfl rfl rfl rfl ?_
  refine RD.q rfl (q0f rfl rfl (q90 q05 und52 (q03 inf66) (by decide) q0k (vo rfl) h32)) ?_
  refine RD.q rfl (q0w und66 rfl (q03 inf3) rfl (qmg rfl) rfl) (RD.q (u:=.i6 x31.To) rfl (qxq q05 und3 rfl q0k rfl rfl (qkj h32) rfl) ?_)
  refine RD.q rfl (q0f rfl rfl (q90 (cI .i64) und33 (q03 inf3) (by decide) (q18 .i64) (vo rfl) h34)) ?_
  refine RD.q rfl (q60 (cI .i64) (fun x=>.i6 x) und3 rfl (fun _=>rfl) rfl rfl h34) (RD.q rfl (q3b rfl rfl (qxn _ _ _) rfl) ?_)
  refine RD.done ⟨by kernel_rfl,trivial,?_⟩
  refine gn ?_
  refine z4h (fun tm σ=>∃ l36:List Int,∃ l37:List Int,∃ t38:Nat,q23 z23 (q1g p2 r12 (q1m n) m1) l36 l37=some r∧tm=fr 62 [(0,.ptr 0 0 0),(4,.vl 4 0 0 r12.length),(5,.i6 z23)]∧σ=⟨[(4,.vec (List.map q05 r12).flatten 66 2 0),(3,.row [.i6 p1] 3),(0,.row [.iM q01 p2,.vl 1 t4 0 l36.length,.vl 2 t38 0 l37.length] 139),(1,.vec (List.map (cI .i64) l36).flatten 3 1 t4),(2,.vec (List.map (cI .i64) l37).flatten 3 1 t38)],5⟩) ?_ ?_
  rintro _ _ ⟨l36,l37,t38,hF,rfl,rfl⟩
  unfold q23 at hF
  refine go ?_
  exact lC ⟨_,l36,l37,t38,hF,rfl,rfl⟩
  refine cF hF (fun h35 hF=>?_) (fun h35 hF=>?_)
  obtain ⟨x39,h40,hF⟩:=q00 hF
  obtain ⟨r41,h42,hF⟩:=q00 hF
  refine go ?_
  refine RS.q rfl (q0f rfl rfl (q90 q05 und52 (q03 inf66) (by decide) q0k (vo rfl) h40)) ?_
  refine RS.q rfl (q0w und66 rfl (q03 inf3) rfl (qmg rfl) rfl) (RS.q (u:=.i6 x39.To) rfl (qxq q05 und3 rfl q0k rfl rfl (qkj h40) rfl) ?_)
  refine z4m (R:=fun u σ'=>∃ t43:Nat→Nat,u = .tup []∧σ'=⟨[(4,.vec (List.map q05 r12).flatten 66 2 0),(3,.row [.i6 p1] 3),(0,.row [.iM q01 p2,.vl 1 t4 0 r41.1.length,.vl 2 (t43 0) 0 r41.2.length] 139),(1,.vec (List.map (cI .i64) r41.1).flatten 3 1 t4),(2,.vec (List.map (cI .i64) r41.2).flatten 3 1 (t43 0))],5⟩) (args:=[.ptr 0 0 0,.i6 x39.To]) rfl (q50 rfl rfl fn88 hb88 rfl rfl) (EvU.st [0,1,2] (ih x39.To p2 l24 l25 r41 h42 t4 t26)) rfl rfl ?_
  rintro _ _ ⟨t43,rfl,rfl⟩
  refine go ?_
  exact xC ⟨r41.1,r41.2,(t43 0),hF,rfl,rfl⟩
  refine go ?_
  exact xC ⟨l24,l25,t26,hF,rfl,rfl⟩
  refine go ?_
  exact xC ⟨l24,l25,t26,hF,rfl,rfl⟩
  refine z4i Tryz.tb_ok [] (by kernel_rfl) ?_
  refine RD.mv rfl rfl rfl rfl (RD.q (u:=.ptr 0 0 0) rfl (qen rfl rfl) (RD.q rfl (q0w und139 rfl (q03 inf33) rfl rfl rfl) (RD.q rfl (q0i und33 rfl rfl rfl rfl) ?_)))
  repeat refine RD.mv rfl rfl rfl rfl ?_
  refine RD.q (u:=.ptr 0 0 0) rfl (qen rfl rfl) (RD.q rfl (q0w und139 rfl (q03 inf33) rfl rfl rfl) (RD.q rfl (q0i und33 rfl rfl rfl rfl) (RD.q rfl (q0c rfl rfl rfl (q6o und33 rfl)) ?_)))
  refine RD.q rfl (q0f rfl rfl (q90 (cI .i64) und33 (q03 inf3) (by decide) (q18 .i64) (vo rfl) h8)) ?_
  refine z4t (u:=.junk) (σ':=⟨[(0,.row [.iM q01 p2,.vl 1 t4 0 p3.length,.vl 2 t6 0 p5.length] 139),(1,.vec (List.map (cI .i64) (p3.set (0+p1.toNat) (p5.length:Int))).flatten 3 1 t4),(2,.vec (List.map (cI .i64) p5).flatten 3 1 t6)],3⟩) rfl (st_vp (cI .i64) (q03 inf3) (q18 .i64) rfl rfl rfl rfl rfl rfl rfl (qkj h8) rfl) rfl ?_
  refine RD.done ⟨by kernel_rfl,trivial,?_⟩
  refine go ?_
  exact ⟨_,_,⟨rfl,rfl⟩,NL,z4l ⟨rfl,rfl,trivial⟩ (by simp only [List.length_set])⟩
def q7h (z26:Int) (l27:List q0n) (rc2:Int→(List q0n)→Option (GFS)) (x34:q0n) (l54:List q0s):Option (GFS) :=
 q1i ((l27.length+1)*32≤140737488355328∧l27.length+1≤140737488355328) (
 rc2 (IntKind.i64.wrap (z26+1)) (l27++[(q0n.mk x34.Typex l54)]))
def q4c (r14:(List Int)×(List Int)) (z26:Int) (l27:List q0n) (rc2:Int→(List q0n)→Option (GFS)) (x34:q0n):Nat→Int→(List q0s)→Option (GFS)
 | 0,_,_=>none
 | m3+1,z52,l53 =>
  cond (decide (z52<(l53.length:Int)))
   (q04 (q15 l53 z52) fun x57 =>
   q04 (q15 r14.1 x57.To) fun x59 =>
   q04 (q15 l53 z52) fun x61 =>
   (q4c r14 z26 l27 rc2 x34 m3) (IntKind.i64.wrap (z52+1)) (l53.set (0+z52.toNat) (q0s.mk x61.Feat x59)))
   (q7h z26 l27 rc2 x34 l53)
def qa8  (l29:List q0n):Option (GFS) :=
 some (GFS.mk l29)
def q35 (p1:GFS) (n:Nat) (r14:(List Int)×(List Int)):Nat→Int→(List q0n)→Option (GFS)
 | 0,_,_=>none
 | m2+1,z26,l27 =>
  cond (decide (z26<(r14.2.length:Int)))
   (q04 (q15 r14.2 z26) fun x32 =>
   q04 (q15 p1.Nodes x32) fun x34 =>
   q04 (q97 n x34.Arcs) fun r36 =>
   q4c r14 z26 l27 (q35 p1 n r14 m2) x34 n 0 r36)
   (qa8 l27)
def q7g (p1:GFS) (p2:Int) (n:Nat) (l12:List Int):Option (GFS) :=
 q04 (q1m n p2 p1.Nodes l12 ([]:List Int)) fun r14 =>
 q35 p1 n r14 n 0 ([]:List q0n)
def q5s (p1:GFS) (p2:Int) (n:Nat):Nat→Int→(List Int)→Option (GFS)
 | 0,_,_=>none
 | m1+1,z9,l10 =>
  cond (decide (z9<(p1.Nodes.length:Int)))
   (q1i ((l10.length+1)*8≤140737488355328∧l10.length+1≤140737488355328) (
   (q5s p1 p2 n m1) (IntKind.i64.wrap (z9+1)) (l10++[(-1)])))
   (q7g p1 p2 n l10)
def qag (n:Nat) (p1:GFS) (p2:Int):Option (GFS) :=
 q5s p1 p2 n n 0 ([]:List Int)
theorem qkp (n:Nat) (p1:GFS) (p2:Int) (r:GFS) (hF:qag n p1 p2=some r):EvU Tryz.prog 68 [.agg [.isl false (List.map q01 p1.Nodes)],.int .i64 p2] ⟨[],0⟩ (fun u _=>u = .agg [.isl false (List.map q01 r.Nodes)]∧Bel 0 u):=by
 unfold qag at hF
 refine bg2 88 fn68 ?_
 refine go ?_
 refine RS.q (u:=.ptr 0 0 0) (σ':=⟨[(0,.row [.iM q01 p1.Nodes] 24)],1⟩) rfl (q2p rfl rfl rfl) (RS.q (u:=.ptr 1 0 0) (σ':=⟨[(1,.row [.nils] 24),(0,.row [.iM q01 p1.Nodes] 24)],2⟩) rfl (q0v inf24 rfl rfl) ?_)
 refine go ?_
 refine RS.q (u:=.agg [.iM q01 p1.Nodes]) rfl (q0p und24 rfl (q03 inf24) rfl rfl rfl) (RS.q (u:=.agg [.iM q01 p1.Nodes,.nils,.nils]) rfl (q3l bd139 rfl rfl rfl) (RS.q (u:=.ptr 2 0 0) (σ':=⟨[(2,.row [.iM q01 p1.Nodes,.nils,.nils] 139),(1,.row [.nils] 24),(0,.row [.iM q01 p1.Nodes] 24)],3⟩) rfl (q2p rfl rfl rfl) ?_))
 refine gr ?_
 refine WPU.ghost (tm':=fr 88 [(1,.i6 p2),(2,.ptr 0 0 0),(4,.ptr 1 0 0),(5,.ptr 2 0 0),(6,.i6 0)]) (σ':=⟨[(3,.vec (List.map (cI .i64) ([]:List Int)).flatten 3 1 0),(2,.row [.iM q01 p1.Nodes,.vl 3 0 0 (([]:List Int).length),.nils] 139),(1,.row [.nils] 24),(0,.row [.iM q01 p1.Nodes] 24)],4⟩) (Gh.trans (z4u 2 1 3 1 (by decide) NZ rfl rfl) (z4l ⟨rfl,rfl,rfl,rfl,rfl,trivial⟩ rfl)) NZ ?_
 refine gS (l':=[(1,_),(2,_),(4,_),(5,_),(6,_)]) ?_
 refine z4g (fun m tm σ=>∃ z9:Int,∃ l10:List Int,∃ t11:Nat,q5s p1 p2 n m z9 l10=some r∧tm=fr 88 [(1,.i6 p2),(2,.ptr 0 0 0),(4,.ptr 1 0 0),(5,.ptr 2 0 0),(6,.i6 z9)]∧σ=⟨[(3,.vec (List.map (cI .i64) l10).flatten 3 1 t11),(2,.row [.iM q01 p1.Nodes,.vl 3 t11 0 l10.length,.nils] 139),(1,.row [.nils] 24),(0,.row [.iM q01 p1.Nodes] 24)],4⟩) (fun tm σ=>∃ l12:List Int,∃ t13:Nat,q7g p1 p2 n l12=some r∧tm=fr 88 [(1,.i6 p2),(2,.ptr 0 0 0),(4,.ptr 1 0 0),(5,.ptr 2 0 0)]∧σ=⟨[(3,.vec (List.map (cI .i64) l12).flatten 3 1 t13),(2,.row [.iM q01 p1.Nodes,.vl 3 t13 0 l12.length,.nils] 139),(1,.row [.nils] 24),(0,.row [.iM q01 p1.Nodes] 24)],4⟩) n ⟨0,([]:List Int),0,hF,rfl,rfl⟩ ?_ ?_
 rintro _ _ ⟨l12,t13,hF,rfl,rfl⟩
 unfold q7g at hF
 refine gn ?_
 refine WPU.ghost (tm':=fr 88 [(1,.i6 p2),(2,.ptr 0 0 0),(4,.ptr 1 0 0),(5,.ptr 2 0 0)]) (σ':=⟨[(4,.vec (List.map (cI .i64) ([]:List Int)).flatten 3 1 0),(3,.vec (List.map (cI .i64) l12).flatten 3 1 t13),(2,.row [.iM q01 p1.Nodes,.vl 3 t13 0 l12.length,.vl 4 0 0 (([]:List Int).length)] 139),(1,.row [.nils] 24),(0,.row [.iM q01 p1.Nodes] 24)],5⟩) (Gh.trans (z4u 2 2 3 1 (by decide) NZ rfl rfl) (z4l ⟨rfl,rfl,rfl,rfl,trivial⟩ rfl)) NZ ?_
 obtain ⟨r14,h15,hF⟩:=q00 hF
 refine go ?_
 refine z4m (R:=fun u σ'=>∃ t16:Nat→Nat,u = .tup []∧σ'=⟨[(4,.vec (List.map (cI .i64) r14.2).flatten 3 1 (t16 0)),(3,.vec (List.map (cI .i64) r14.1).flatten 3 1 t13),(2,.row [.iM q01 p1.Nodes,.vl 3 t13 0 r14.1.length,.vl 4 (t16 0) 0 r14.2.length] 139),(1,.row [.nils] 24),(0,.row [.iM q01 p1.Nodes] 24)],5⟩) (args:=[.ptr 2 0 0,.i6 p2]) rfl (q50 rfl rfl fn88 hb88 rfl rfl) (EvU.st [2,3,4] (q98 n p2 p1.Nodes l12 ([]:List Int) r14 h15 t13 0)) rfl rfl ?_
 rintro _ _ ⟨t16,rfl,rfl⟩
 refine go ?_
 refine RS.q (u:=.ptr 5 0 0) (σ':=⟨[(5,.row [.nils] 24),(4,.vec (List.map (cI .i64) r14.2).flatten 3 1 (t16 0)),(3,.vec (List.map (cI .i64) r14.1).flatten 3 1 t13),(2,.row [.iM q01 p1.Nodes,.vl 3 t13 0 r14.1.length,.vl 4 (t16 0) 0 r14.2.length] 139),(1,.row [.nils] 24),(0,.row [.iM q01 p1.Nodes] 24)],6⟩) rfl (q0v inf24 rfl rfl) ?_
 refine gr ?_
 refine WPU.ghost (tm':=fr 88 [(2,.ptr 0 0 0),(4,.ptr 1 0 0),(5,.ptr 2 0 0),(7,.ptr 5 0 0),(8,.i6 0)]) (σ':=⟨[(6,.vec (List.map q01 ([]:List q0n)).flatten 54 2 0),(5,.row [.vl 6 0 0 (([]:List q0n).length)] 24),(4,.vec (List.map (cI .i64) r14.2).flatten 3 1 (t16 0)),(3,.vec (List.map (cI .i64) r14.1).flatten 3 1 t13),(2,.row [.iM q01 p1.Nodes,.vl 3 t13 0 r14.1.length,.vl 4 (t16 0) 0 r14.2.length] 139),(1,.row [.nils] 24),(0,.row [.iM q01 p1.Nodes] 24)],7⟩) (Gh.trans (z4u 5 0 54 2 (by decide) NZ rfl rfl) (z4l ⟨rfl,rfl,rfl,rfl,rfl,trivial⟩ rfl)) NZ ?_
 refine gS (l':=[(2,_),(4,_),(5,_),(7,_),(8,_)]) ?_
 refine z4g (fun m tm σ=>∃ z26:Int,∃ l27:List q0n,∃ t28:Nat,q35 p1 n r14 m z26 l27=some r∧tm=fr 88 [(2,.ptr 0 0 0),(4,.ptr 1 0 0),(5,.ptr 2 0 0),(7,.ptr 5 0 0),(8,.i6 z26)]∧σ=⟨[(6,.vec (List.map q01 l27).flatten 54 2 t28),(5,.row [.vl 6 t28 0 l27.length] 24),(4,.vec (List.map (cI .i64) r14.2).flatten 3 1 (t16 0)),(3,.vec (List.map (cI .i64) r14.1).flatten 3 1 t13),(2,.row [.iM q01 p1.Nodes,.vl 3 t13 0 r14.1.length,.vl 4 (t16 0) 0 r14.2.length] 139),(1,.row [.nils] 24),(0,.row [.iM q01 p1.Nodes] 24)],7⟩) (fun tm σ=>∃ l29:List q0n,∃ t30:Nat,qa8 l29=some r∧tm=fr 88 [(4,.ptr 1 0 0),(7,.ptr 5 0 0)]∧σ=⟨[(6,.vec (List.map q01 l29).flatten 54 2 t30),(5,.row [.vl 6 t30 0 l29.length] 24),(4,.vec (List.map (cI .i64) r14.2).flatten 3 1 (t16 0)),(3,.vec (List.map (cI .i64) r14.1).flatten 3 1 t13),(2,.row [.iM q01 p1.Nodes,.vl 3 t13 0 r14.1.length,.vl 4 (t16 0) 0 r14.2.length] 139),(1,.row [.nils] 24),(0,.row [.iM q01 p1.Nodes] 24)],7⟩) n ⟨0,([]:List q0n),0,hF,rfl,rfl⟩ ?_ ?_
 rintro _ _ ⟨l29,t30,hF,rfl,rfl⟩
 unfold qa8 at hF
 refine go ?_
 refine RS.q (u:=.agg [.vl 6 t30 0 l29.length]) rfl (q0p und24 rfl (q03 inf24) rfl rfl rfl) ?_
 refine z4k (u:=.junk) (σ':=⟨[(6,.vec (List.map q01 l29).flatten 54 2 t30),(5,.row [.vl 6 t30 0 l29.length] 24),(4,.vec (List.map (cI .i64) r14.2).flatten 3 1 (t16 0)),(3,.vec (List.map (cI .i64) r14.1).flatten 3 1 t13),(2,.row [.iM q01 p1.Nodes,.vl 3 t13 0 r14.1.length,.vl 4 (t16 0) 0 r14.2.length] 139),(1,.row [.vl 6 t30 0 l29.length] 24),(0,.row [.iM q01 p1.Nodes] 24)],7⟩) rfl (q0l (q03 inf24) rfl rfl rfl rfl rfl rfl rfl rfl) rfl ?_
 refine go ?_
 obtain rfl:=sI hF
 exact rT (us:=[.agg [.vl 6 t30 0 l29.length]]) (u:=.agg [.iM q01 l29]) (qei (q0p und24 rfl (q03 inf24) rfl rfl rfl) (q2g)) (fR 6 2)
 rintro (_|m2) _ _ ⟨z26,l27,t28,hF,rfl,rfl⟩
 cases hF
 unfold q35 at hF
 refine go ?_
 refine RS.q (u:=.ptr 2 0 0) rfl (qen rfl rfl) (RS.q rfl (q0w und139 rfl (q03 inf33) rfl rfl rfl) (RS.q rfl (q0i und33 rfl rfl rfl rfl) (RS.q rfl (q0c rfl rfl rfl (q6o und33 rfl)) ?_)))
 refine go ?_
 refine cF hF (fun h31 hF=>?_) (fun h31 hF=>?_)
 refine go ?_
 refine WPU.block ?_
 obtain ⟨x32,h33,hF⟩:=q00 hF
 obtain ⟨x34,h35,hF⟩:=q00 hF
 refine go ?_
 refine z4i Tryz.tb_ok [(0,11),(1,11),(2,11),(3,11),(4,11),(5,11),(6,11),(7,11),(8,11),(9,11),(10,11)] (by kernel_rfl) ?_
 refine RD.q rfl (q0w und24 rfl (q03 inf22) rfl rfl rfl) (RD.q rfl (q0i und22 rfl rfl rfl rfl) (RD.mv rfl rfl rfl rfl (RD.q (u:=.ptr 2 0 0) rfl (qen rfl rfl) (RD.q rfl (q0w und139 rfl (q03 inf33) rfl rfl rfl) (RD.q rfl (q0i und33 rfl rfl rfl rfl) (RD.mv rfl rfl rfl rfl ?_))))))
 refine RD.q rfl (q0f rfl rfl (q90 (cI .i64) und33 (q03 inf3) (by decide) (q18 .i64) (vo rfl) h33)) ?_
 refine RD.q rfl (q60 (cI .i64) (fun x=>.i6 x) und3 rfl (fun _=>rfl) rfl rfl h33) (RD.q rfl (q0f rfl rfl (q0a q01 und22 (q03 inf54) q1b h35 rfl)) (RD.q (u:=.agg (q01 x34)) rfl (qam und54 rfl (q03 inf54) rfl rfl) (RD.act (u:=.ptr 7 0 0) (σ':=⟨[(7,.row [.i6 0,.nils] 54),(6,.vec (List.map q01 l27).flatten 54 2 t28),(5,.row [.vl 6 t28 0 l27.length] 24),(4,.vec (List.map (cI .i64) r14.2).flatten 3 1 (t16 0)),(3,.vec (List.map (cI .i64) r14.1).flatten 3 1 t13),(2,.row [.iM q01 p1.Nodes,.vl 3 t13 0 r14.1.length,.vl 4 (t16 0) 0 r14.2.length] 139),(1,.row [.nils] 24),(0,.row [.iM q01 p1.Nodes] 24)],8⟩) rfl (q0v inf54 rfl rfl) rfl rfl ?_)))
 refine z4t (u:=.junk) (σ':=⟨[(7,.row (q01 x34) 54),(6,.vec (List.map q01 l27).flatten 54 2 t28),(5,.row [.vl 6 t28 0 l27.length] 24),(4,.vec (List.map (cI .i64) r14.2).flatten 3 1 (t16 0)),(3,.vec (List.map (cI .i64) r14.1).flatten 3 1 t13),(2,.row [.iM q01 p1.Nodes,.vl 3 t13 0 r14.1.length,.vl 4 (t16 0) 0 r14.2.length] 139),(1,.row [.nils] 24),(0,.row [.iM q01 p1.Nodes] 24)],8⟩) rfl (q0l (q03 inf54) rfl rfl rfl rfl rfl rfl rfl rfl) rfl ?_
 refine RD.done ⟨by kernel_rfl,⟨q0w und24 rfl (q03 inf22) rfl rfl rfl,⟨q0i und22 rfl rfl rfl rfl,⟨q27 rfl,⟨qen rfl rfl,⟨q0w und139 rfl (q03 inf33) rfl rfl rfl,⟨q0i und33 rfl rfl rfl rfl,⟨q27 rfl,⟨q0f rfl rfl (q90 (cI .i64) und33 (q03 inf3) (by decide) (q18 .i64) (vo rfl) h33),⟨q60 (cI .i64) (fun x=>.i6 x) und3 rfl (fun _=>rfl) rfl rfl h33,⟨q0f rfl rfl (q0a q01 und22 (q03 inf54) q1b h35 rfl),⟨qam und54 rfl (q03 inf54) rfl rfl,trivial⟩⟩⟩⟩⟩⟩⟩⟩⟩⟩⟩,?_⟩
 obtain ⟨r36,h37,hF⟩:=q00 hF
 refine go ?_
 refine RS.q rfl (q0w und54 rfl (q03 inf52) rfl rfl rfl) (RS.q rfl (q0i und52 rfl rfl rfl rfl) ?_)
 refine z4m (R:=fun u σ'=>u = .vl 8 0 0 r36.length∧σ'=⟨[(8,.vec (List.map q05 r36).flatten 66 2 0),(7,.row (q01 x34) 54),(6,.vec (List.map q01 l27).flatten 54 2 t28),(5,.row [.vl 6 t28 0 l27.length] 24),(4,.vec (List.map (cI .i64) r14.2).flatten 3 1 (t16 0)),(3,.vec (List.map (cI .i64) r14.1).flatten 3 1 t13),(2,.row [.iM q01 p1.Nodes,.vl 3 t13 0 r14.1.length,.vl 4 (t16 0) 0 r14.2.length] 139),(1,.row [.nils] 24),(0,.row [.iM q01 p1.Nodes] 24)],9⟩) (args:=[.iM q05 x34.Arcs]) rfl (q50 rfl rfl fn89 hb89 rfl rfl) (z57 q05 (qgo n x34.Arcs r36 h37) _ 8 rfl) rfl rfl ?_
 rintro _ _ ⟨rfl,rfl⟩
 refine go ?_
 refine gS (l':=[(2,_),(4,_),(5,_),(7,_),(8,_),(9,_),(10,_),(11,_)]) ?_
 refine z4g (fun m tm σ=>∃ z52:Int,∃ l53:List q0s,q4c r14 z26 l27 (q35 p1 n r14 m2) x34 m z52 l53=some r∧tm=fr 88 [(2,.ptr 0 0 0),(4,.ptr 1 0 0),(5,.ptr 2 0 0),(7,.ptr 5 0 0),(8,.i6 z26),(9,.ptr 7 0 0),(10,.vl 8 0 0 l53.length),(11,.i6 z52)]∧σ=⟨[(8,.vec (List.map q05 l53).flatten 66 2 0),(7,.row (q01 x34) 54),(6,.vec (List.map q01 l27).flatten 54 2 t28),(5,.row [.vl 6 t28 0 l27.length] 24),(4,.vec (List.map (cI .i64) r14.2).flatten 3 1 (t16 0)),(3,.vec (List.map (cI .i64) r14.1).flatten 3 1 t13),(2,.row [.iM q01 p1.Nodes,.vl 3 t13 0 r14.1.length,.vl 4 (t16 0) 0 r14.2.length] 139),(1,.row [.nils] 24),(0,.row [.iM q01 p1.Nodes] 24)],9⟩) (fun tm σ=>∃ l54:List q0s,q7h z26 l27 (q35 p1 n r14 m2) x34 l54=some r∧tm=fr 88 [(2,.ptr 0 0 0),(4,.ptr 1 0 0),(5,.ptr 2 0 0),(7,.ptr 5 0 0),(8,.i6 z26),(9,.ptr 7 0 0),(10,.vl 8 0 0 l54.length)]∧σ=⟨[(8,.vec (List.map q05 l54).flatten 66 2 0),(7,.row (q01 x34) 54),(6,.vec (List.map q01 l27).flatten 54 2 t28),(5,.row [.vl 6 t28 0 l27.length] 24),(4,.vec (List.map (cI .i64) r14.2).flatten 3 1 (t16 0)),(3,.vec (List.map (cI .i64) r14.1).flatten 3 1 t13),(2,.row [.iM q01 p1.Nodes,.vl 3 t13 0 r14.1.length,.vl 4 (t16 0) 0 r14.2.length] 139),(1,.row [.nils] 24),(0,.row [.iM q01 p1.Nodes] 24)],9⟩) n ⟨0,r36,hF,rfl,rfl⟩ ?_ ?_
 rintro _ _ ⟨l54,hF,rfl,rfl⟩
 unfold q7h at hF
 refine gn ?_
 refine WPU.ghost (tm':=fr 88 [(2,.ptr 0 0 0),(4,.ptr 1 0 0),(5,.ptr 2 0 0),(7,.ptr 5 0 0),(8,.i6 z26),(9,.ptr 7 0 0),(10,.iM q05 l54)]) (σ':=⟨[(7,.row (q01 x34) 54),(6,.vec (List.map q01 l27).flatten 54 2 t28),(5,.row [.vl 6 t28 0 l27.length] 24),(4,.vec (List.map (cI .i64) r14.2).flatten 3 1 (t16 0)),(3,.vec (List.map (cI .i64) r14.1).flatten 3 1 t13),(2,.row [.iM q01 p1.Nodes,.vl 3 t13 0 r14.1.length,.vl 4 (t16 0) 0 r14.2.length] 139),(1,.row [.nils] 24),(0,.row [.iM q01 p1.Nodes] 24)],9⟩) (Gh.trans (Gh.sub (l':=[(2,.ptr 0 0 0),(4,.ptr 1 0 0),(5,.ptr 2 0 0),(7,.ptr 5 0 0),(8,.i6 z26),(9,.ptr 7 0 0),(10,.vl 8 0 0 l54.length)]) ⟨rfl,rfl,rfl,rfl,rfl,rfl,rfl,trivial⟩) (z4z 8 2)) NZ ?_
 obtain ⟨h55,hF⟩:=q0b hF
 refine go ?_
 refine RS.q rfl (q0w und24 rfl (q03 inf22) rfl rfl rfl) (RS.q rfl (q0i und22 rfl rfl rfl rfl) (RS.q rfl (q0w und54 rfl (q03 inf3) rfl rfl rfl) (RS.q rfl (q0i und3 rfl rfl rfl rfl) ?_)))
 refine go ?_
 refine RS.q (u:=.agg [.i6 x34.Typex,.iM q05 l54]) rfl (q3l bd54 rfl rfl rfl) (RS.q (u:=.sl 9 0 1 1) (σ':=⟨[(9,.row [.i6 x34.Typex,.iM q05 l54] 54),(7,.row (q01 x34) 54),(6,.vec (List.map q01 l27).flatten 54 2 t28),(5,.row [.vl 6 t28 0 l27.length] 24),(4,.vec (List.map (cI .i64) r14.2).flatten 3 1 (t16 0)),(3,.vec (List.map (cI .i64) r14.1).flatten 3 1 t13),(2,.row [.iM q01 p1.Nodes,.vl 3 t13 0 r14.1.length,.vl 4 (t16 0) 0 r14.2.length] 139),(1,.row [.nils] 24),(0,.row [.iM q01 p1.Nodes] 24)],10⟩) rfl (q0j und22 inf54 rfl rfl rfl rfl rfl rfl rfl) (RS.q (u:=.vl 6 (t28+1) 0 ((l27++[(q0n.mk x34.Typex l54)]).length)) (σ':=⟨[(9,.row [.i6 x34.Typex,.iM q05 l54] 54),(7,.row (q01 x34) 54),(6,.vec (List.map q01 (l27++[(q0n.mk x34.Typex l54)])).flatten 54 2 (t28+1)),(5,.row [.vl 6 t28 0 l27.length] 24),(4,.vec (List.map (cI .i64) r14.2).flatten 3 1 (t16 0)),(3,.vec (List.map (cI .i64) r14.1).flatten 3 1 t13),(2,.row [.iM q01 p1.Nodes,.vl 3 t13 0 r14.1.length,.vl 4 (t16 0) 0 r14.2.length] 139),(1,.row [.nils] 24),(0,.row [.iM q01 p1.Nodes] 24)],10⟩) rfl (q1u rfl rfl rfl rfl (q2a q01 ([(q0n.mk x34.Typex l54)]) und22 und22 inf54 rfl q1b rfl (q1q q01 [(q0n.mk x34.Typex l54)] rfl rfl rfl rfl) h55)) (RS.q rfl (q0w und24 rfl (q03 inf22) rfl rfl rfl) ?_)))
 refine z4k (u:=.junk) (σ':=⟨[(9,.row [.i6 x34.Typex,.iM q05 l54] 54),(7,.row (q01 x34) 54),(6,.vec (List.map q01 (l27++[(q0n.mk x34.Typex l54)])).flatten 54 2 (t28+1)),(5,.row [.vl 6 (t28+1) 0 ((l27++[(q0n.mk x34.Typex l54)]).length)] 24),(4,.vec (List.map (cI .i64) r14.2).flatten 3 1 (t16 0)),(3,.vec (List.map (cI .i64) r14.1).flatten 3 1 t13),(2,.row [.iM q01 p1.Nodes,.vl 3 t13 0 r14.1.length,.vl 4 (t16 0) 0 r14.2.length] 139),(1,.row [.nils] 24),(0,.row [.iM q01 p1.Nodes] 24)],10⟩) rfl (q0l (q03 inf22) rfl rfl rfl rfl rfl rfl rfl rfl) rfl ?_
 refine go ?_
 exact lC ⟨_,(l27++[(q0n.mk x34.Typex l54)]),(t28+1),hF,rfl,rfl⟩
 rintro (_|m3) _ _ ⟨z52,l53,hF,rfl,rfl⟩
 cases hF
 unfold q4c at hF
 refine go ?_
 refine RS.q rfl (q0c rfl rfl rfl (q6o und52 rfl)) ?_
 refine go ?_
 refine cF hF (fun h56 hF=>?_) (fun h56 hF=>?_)
 refine go ?_
 refine WPU.block ?_
 obtain ⟨x57,h58,hF⟩:=q00 hF
 obtain ⟨x59,h60,hF⟩:=q00 hF
 obtain ⟨x61,h62,hF⟩:=q00 hF
 refine gn ?_
 refine z4h (fun tm σ=>tm=fr 88 [(2,.ptr 0 0 0),(4,.ptr 1 0 0),(5,.ptr 2 0 0),(7,.ptr 5 0 0),(8,.i6 z26),(9,.ptr 7 0 0),(10,.vl 8 0 0 ((l53.set (0+z52.toNat) (q0s.mk x61.Feat x59)).length)),(11,.i6 z52)]∧σ=⟨[(8,.vec (List.map q05 (l53.set (0+z52.toNat) (q0s.mk x61.Feat x59))).flatten 66 2 0),(7,.row (q01 x34) 54),(6,.vec (List.map q01 l27).flatten 54 2 t28),(5,.row [.vl 6 t28 0 l27.length] 24),(4,.vec (List.map (cI .i64) r14.2).flatten 3 1 (t16 0)),(3,.vec (List.map (cI .i64) r14.1).flatten 3 1 t13),(2,.row [.iM q01 p1.Nodes,.vl 3 t13 0 r14.1.length,.vl 4 (t16 0) 0 r14.2.length] 139),(1,.row [.nils] 24),(0,.row [.iM q01 p1.Nodes] 24)],9⟩) ?_ ?_
 rintro _ _ ⟨rfl,rfl⟩
 refine go ?_
 exact lC ⟨_,(l53.set (0+z52.toNat) (q0s.mk x61.Feat x59)),hF,rfl,rfl⟩
 refine z4i Tryz.tb_ok [] (by kernel_rfl) ?_
 repeat refine RD.mv rfl rfl rfl rfl ?_
 refine RD.q (u:=.ptr 2 0 0) rfl (qen rfl rfl) (RD.q rfl (q0w und139 rfl (q03 inf33) rfl rfl rfl) (RD.q rfl (q0i und33 rfl rfl rfl rfl) ?_))
 repeat refine RD.mv rfl rfl rfl rfl ?_
 refine RD.q rfl (q0f rfl rfl (q90 q05 und52 (q03 inf66) (by decide) q0k (vo rfl) h58)) ?_
 refine RD.q rfl (q0w und66 rfl (q03 inf3) rfl (qmg rfl) rfl) (RD.q (u:=.i6 x57.To) rfl (qxq q05 und3 rfl q0k rfl rfl (qkj h58) rfl) ?_)
 refine RD.q rfl (q0f rfl rfl (q90 (cI .i64) und33 (q03 inf3) (by decide) (q18 .i64) (vo rfl) h60)) ?_
 refine RD.q rfl (q60 (cI .i64) (fun x=>.i6 x) und3 rfl (fun _=>rfl) rfl rfl h60) ?_
 refine RD.q rfl (q0f rfl rfl (q90 q05 und52 (q03 inf66) (by decide) q0k (vo rfl) h62)) ?_
 refine RD.q rfl (q0w und66 rfl (q03 inf3) rfl (qmg rfl) rfl) ?_
 refine z4t (u:=.junk) (σ':=⟨[(8,.vec (List.map q05 (l53.set (0+z52.toNat) (q0s.mk x61.Feat x59))).flatten 66 2 0),(7,.row (q01 x34) 54),(6,.vec (List.map q01 l27).flatten 54 2 t28),(5,.row [.vl 6 t28 0 l27.length] 24),(4,.vec (List.map (cI .i64) r14.2).flatten 3 1 (t16 0)),(3,.vec (List.map (cI .i64) r14.1).flatten 3 1 t13),(2,.row [.iM q01 p1.Nodes,.vl 3 t13 0 r14.1.length,.vl 4 (t16 0) 0 r14.2.length] 139),(1,.row [.nils] 24),(0,.row [.iM q01 p1.Nodes] 24)],9⟩) rfl (st_vf (y:=(q0s.mk x61.Feat x59)) q05 (q03 inf3) q0k rfl rfl rfl rfl rfl rfl (qkj h62) rfl rfl) rfl ?_
 refine RD.done ⟨by kernel_rfl,trivial,?_⟩
 refine go ?_
 exact ⟨_,_,⟨rfl,rfl⟩,NZ,z4l ⟨rfl,rfl,rfl,rfl,rfl,rfl,(by simp only [List.length_set]; rfl),rfl,trivial⟩ rfl⟩
 refine go ?_
 exact xC ⟨l53,hF,rfl,rfl⟩
 refine go ?_
 exact xC ⟨l27,t28,hF,rfl,rfl⟩
 rintro (_|m1) _ _ ⟨z9,l10,t11,hF,rfl,rfl⟩
 cases hF
 unfold q5s at hF
 refine go ?_
 refine RS.q rfl (q0w und24 rfl (q03 inf22) rfl rfl rfl) (RS.q rfl (q0i und22 rfl rfl rfl rfl) (RS.q rfl (q0c rfl rfl rfl (q08 q01 und22)) ?_))
 refine go ?_
 refine cF hF (fun h63 hF=>?_) (fun h63 hF=>?_)
 refine go ?_
 refine WPU.block ?_
 obtain ⟨h64,hF⟩:=q0b hF
 refine go ?_
 refine RS.q (u:=.ptr 2 0 0) rfl (qen rfl rfl) (RS.q rfl (q0w und139 rfl (q03 inf33) rfl rfl rfl) (RS.q rfl (q0i und33 rfl rfl rfl rfl) (RS.q (u:=.sl 4 0 1 1) (σ':=⟨[(4,.row [.i6 (-1)] 3),(3,.vec (List.map (cI .i64) l10).flatten 3 1 t11),(2,.row [.iM q01 p1.Nodes,.vl 3 t11 0 l10.length,.nils] 139),(1,.row [.nils] 24),(0,.row [.iM q01 p1.Nodes] 24)],5⟩) rfl (q0j und33 inf3 rfl rfl rfl rfl rfl rfl rfl) (RS.q (u:=.vl 3 (t11+1) 0 ((l10++[(-1)]).length)) (σ':=⟨[(4,.row [.i6 (-1)] 3),(3,.vec (List.map (cI .i64) (l10++[(-1)])).flatten 3 1 (t11+1)),(2,.row [.iM q01 p1.Nodes,.vl 3 t11 0 l10.length,.nils] 139),(1,.row [.nils] 24),(0,.row [.iM q01 p1.Nodes] 24)],5⟩) rfl (q1u rfl rfl rfl rfl (q2a (cI .i64) ([(-1)]) und33 und33 inf3 rfl (q18 .i64) rfl (q1q (cI .i64) [(-1)] rfl rfl rfl rfl) h64)) (RS.q (u:=.ptr 2 0 0) rfl (qen rfl rfl) (RS.q rfl (q0w und139 rfl (q03 inf33) rfl rfl rfl) ?_))))))
 refine z4k (u:=.junk) (σ':=⟨[(4,.row [.i6 (-1)] 3),(3,.vec (List.map (cI .i64) (l10++[(-1)])).flatten 3 1 (t11+1)),(2,.row [.iM q01 p1.Nodes,.vl 3 (t11+1) 0 ((l10++[(-1)]).length),.nils] 139),(1,.row [.nils] 24),(0,.row [.iM q01 p1.Nodes] 24)],5⟩) rfl (q0l (q03 inf33) rfl rfl rfl rfl rfl rfl rfl rfl) rfl ?_
 refine go ?_
 exact lC ⟨_,(l10++[(-1)]),(t11+1),hF,rfl,rfl⟩
 refine go ?_
 exact xC ⟨l10,t11,hF,rfl,rfl⟩
def qb2 (n:Nat) (p1:GFS):Option (GFS×Int) :=
 q04 (qcx n p1) fun r2 =>
 cond (r2 != 0)
  (some ((GFS.mk []),r2))
  (q04 (qag n p1 0) fun r5 =>
  some (r5,0))
theorem qpn (n:Nat) (p1:GFS) (r:GFS×Int) (hF:qb2 n p1=some r):EvU Tryz.prog 42 [.agg [.isl false (List.map q01 p1.Nodes)]] ⟨[],0⟩ (fun u _=>u = .tup [.agg [.isl false (List.map q01 r.1.Nodes)],.int .i64 r.2]∧Bel 0 u):=by
 unfold qb2 at hF
 refine bg1 13 fn42 ?_
 refine go ?_
 refine RS.q (u:=.ptr 0 0 0) (σ':=⟨[(0,.row [.iM q01 p1.Nodes] 24)],1⟩) rfl (q2p rfl rfl rfl) (RS.q (u:=.ptr 1 0 0) (σ':=⟨[(1,.row [.nils] 24),(0,.row [.iM q01 p1.Nodes] 24)],2⟩) rfl (q0v inf24 rfl rfl) ?_)
 obtain ⟨r2,h3,hF⟩:=q00 hF
 refine go ?_
 refine RS.q (u:=.agg [.iM q01 p1.Nodes]) rfl (q0p und24 rfl (q03 inf24) rfl rfl rfl) (RS.cl rfl (pC (qrg n p1 r2 h3) _) fn67 ?_)
 refine go ?_
 refine cF hF (fun h4 hF=>?_) (fun h4 hF=>?_)
 refine go ?_
 refine RS.q (u:=.agg [.nils]) rfl (q3l bd24 rfl rfl rfl) ?_
 refine go ?_
 refine z4k (u:=.junk) (σ':=⟨[(1,.row [.nils] 24),(0,.row [.iM q01 p1.Nodes] 24)],2⟩) rfl (q0l (q03 inf24) rfl rfl rfl rfl rfl rfl rfl rfl) rfl ?_
 refine go ?_
 obtain rfl:=sI hF
 exact rT (us:=[.agg [.nils],.i6 r2]) (u:=.tup [.agg [.isl false []],.i6 r2]) (qei (q0p und24 rfl (q03 inf24) rfl rfl rfl) (q2o rfl (q2g))) wR
 obtain ⟨r5,h6,hF⟩:=q00 hF
 refine go ?_
 refine RS.q (u:=.agg [.iM q01 p1.Nodes]) rfl (q0p und24 rfl (q03 inf24) rfl rfl rfl) (RS.cl rfl (pC (qkp n p1 0 r5 h6) _) fn68 ?_)
 refine z4k (u:=.junk) (σ':=⟨[(1,.row [.iM q01 r5.Nodes] 24),(0,.row [.iM q01 p1.Nodes] 24)],2⟩) rfl (q0l (q03 inf24) rfl rfl rfl rfl rfl rfl rfl rfl) rfl ?_
 refine go ?_
 obtain rfl:=sI hF
 exact rT (qei (q0p und24 rfl (q03 inf24) rfl rfl rfl) (q2o rfl (q2g))) (z4p _ rfl)
def qiy (n:Nat) (p1:GFS) (p2:Int):Option (GFS) :=
 q04 (qag n p1 p2) fun r3 =>
 some r3
theorem qsy (n:Nat) (p1:GFS) (p2:Int) (r:GFS) (hF:qiy n p1 p2=some r):EvU Tryz.prog 63 [.agg [.isl false (List.map q01 p1.Nodes)],.int .i64 p2] ⟨[],0⟩ (fun u _=>u = .agg [.isl false (List.map q01 r.Nodes)]∧Bel 0 u):=by
 unfold qiy at hF
 refine bg2 8 fn63 ?_
 refine go ?_
 refine RS.q (u:=.ptr 0 0 0) (σ':=⟨[(0,.row [.iM q01 p1.Nodes] 24)],1⟩) rfl (q2p rfl rfl rfl) (RS.q (u:=.ptr 1 0 0) (σ':=⟨[(1,.row [.nils] 24),(0,.row [.iM q01 p1.Nodes] 24)],2⟩) rfl (q0v inf24 rfl rfl) ?_)
 obtain ⟨r3,h4,hF⟩:=q00 hF
 refine go ?_
 refine RS.q (u:=.agg [.iM q01 p1.Nodes]) rfl (q0p und24 rfl (q03 inf24) rfl rfl rfl) ?_
 refine go ?_
 refine RS.cl rfl (pC (qkp n p1 p2 r3 h4) _) fn68 ?_
 refine z4k (u:=.junk) (σ':=⟨[(1,.row [.iM q01 r3.Nodes] 24),(0,.row [.iM q01 p1.Nodes] 24)],2⟩) rfl (q0l (q03 inf24) rfl rfl rfl rfl rfl rfl rfl rfl) rfl ?_
 refine go ?_
 obtain rfl:=sI hF
 exact rT (qei (q0p und24 rfl (q03 inf24) rfl rfl rfl) (q2g)) (z4p _ rfl)
def q8s   : Option (Bool) :=
 some true
def q4y (p1:GFS):Nat→Int→Option (Bool)
 | 0,_=>none
 | m1+1,z5 =>
  cond (decide (z5<(p1.Nodes.length:Int)))
   (q04 (q15 p1.Nodes z5) fun x7 =>
   cond (decide ((x7.Arcs.length:Int) > 12))
    (some false)
    ((q4y p1 m1) (IntKind.i64.wrap (z5+1))))
   (q8s)
def qb3 (n:Nat) (p1:GFS):Option (Bool) :=
 cond (decide ((p1.Nodes.length:Int) > 12))
  (some false)
  (q4y p1 n 0)
theorem qpo (n:Nat) (p1:GFS) (r:Bool) (hF:qb3 n p1=some r):EvU Tryz.prog 41 [.agg [.isl false (List.map q01 p1.Nodes)]] ⟨[],0⟩ (fun u _=>u = .bool r∧Bel 0 u):=by
 unfold qb3 at hF
 refine bg1 23 fn41 ?_
 refine go ?_
 refine RS.q (u:=.ptr 0 0 0) (σ':=⟨[(0,.row [.iM q01 p1.Nodes] 24)],1⟩) rfl (q2p rfl rfl rfl) ?_
 refine go ?_
 refine RS.q rfl (q0w und24 rfl (q03 inf22) rfl rfl rfl) (RS.q rfl (q0i und22 rfl rfl rfl rfl) (RS.q rfl (q0c rfl rfl rfl (q08 q01 und22)) ?_))
 refine go ?_
 refine cF hF (fun h2 hF=>?_) (fun h2 hF=>?_)
 exact gx hF
 refine go ?_
 refine gS (l':=[(1,_),(3,_)]) ?_
 refine z4g (fun m tm σ=>∃ z5:Int,q4y p1 m z5=some r∧tm=fr 23 [(1,.ptr 0 0 0),(3,.i6 z5)]∧σ=⟨[(0,.row [.iM q01 p1.Nodes] 24)],1⟩) (fun tm σ=>q8s=some r∧tm=fr 23 []∧σ=⟨[(0,.row [.iM q01 p1.Nodes] 24)],1⟩) n ⟨0,hF,rfl,rfl⟩ ?_ ?_
 rintro _ _ ⟨hF,rfl,rfl⟩
 unfold q8s at hF
 exact gx hF
 rintro (_|m1) _ _ ⟨z5,hF,rfl,rfl⟩
 cases hF
 unfold q4y at hF
 refine go ?_
 refine RS.q rfl (q0w und24 rfl (q03 inf22) rfl rfl rfl) (RS.q rfl (q0i und22 rfl rfl rfl rfl) (RS.q rfl (q0c rfl rfl rfl (q08 q01 und22)) ?_))
 refine go ?_
 refine cF hF (fun h6 hF=>?_) (fun h6 hF=>?_)
 refine go ?_
 refine WPU.block ?_
 obtain ⟨x7,h8,hF⟩:=q00 hF
 refine go ?_
 refine RS.q rfl (q0w und24 rfl (q03 inf22) rfl rfl rfl) (RS.q rfl (q0i und22 rfl rfl rfl rfl) ?_)
 refine go ?_
 refine RS.q rfl (q0f rfl rfl (q0a q01 und22 (q03 inf54) q1b h8 rfl)) (RS.q rfl (q1o und54 rfl (q03 inf52) rfl rfl) (RS.q rfl (q0d und52 rfl rfl rfl) (RS.q rfl (q0c rfl rfl rfl (q08 q05 und52)) ?_)))
 refine go ?_
 refine cF hF (fun h9 hF=>?_) (fun h9 hF=>?_)
 exact gx hF
 refine go ?_
 exact lC ⟨_,hF,rfl,rfl⟩
 refine go ?_
 exact xC ⟨hF,rfl,rfl⟩
def q6f (z6:Int) (rc1:Int→(List Int)→Option ((List Int))) (l28:List Int):Option ((List Int)) :=
 rc1 (IntKind.i64.wrap (z6+1)) l28
def q3p (z6:Int) (rc1:Int→(List Int)→Option ((List Int))) (x12:q0n):Nat→Int→(List Int)→Option ((List Int))
 | 0,_,_=>none
 | m2+1,z25,l26 =>
  cond (decide (z25<(x12.Arcs.length:Int)))
   (q04 (q15 x12.Arcs z25) fun x31 =>
   q04 (q15 x12.Arcs z25) fun x33 =>
   q1i ((l26.length+2)*8≤140737488355328∧l26.length+2≤140737488355328) (
   (q3p z6 rc1 x12 m2) (IntKind.i64.wrap (z25+1)) (l26++[x31.Feat,x33.To])))
   (q6f z6 rc1 l26)
def q6e  (l9:List Int):Option ((List Int)) :=
 some l9
def q29 (p1:GFS) (n:Nat):Nat→Int→(List Int)→Option ((List Int))
 | 0,_,_=>none
 | m1+1,z6,l7 =>
  cond (decide (z6<(p1.Nodes.length:Int)))
   (q04 (q15 p1.Nodes z6) fun x12 =>
   q04 (q15 p1.Nodes z6) fun x14 =>
   q1i ((l7.length+2)*8≤140737488355328∧l7.length+2≤140737488355328) (
   q3p z6 (q29 p1 n m1) x12 n 0 (l7++[x14.Typex,(x12.Arcs.length:Int)])))
   (q6e l7)
def q5v (n:Nat) (p1:GFS):Option ((List Int)) :=
 q29 p1 n n 0 ([(p1.Nodes.length:Int)])
theorem qfk (n:Nat) (p1:GFS) (r:(List Int)) (hF:q5v n p1=some r):EvU Tryz.prog 70 [.agg [.isl false (List.map q01 p1.Nodes)]] ⟨[],0⟩ (fun u _=>u = .isl false (List.map (cI .i64) r)∧Bel 0 u):=by
 unfold q5v at hF
 refine bg1 55 fn70 ?_
 refine go ?_
 refine RS.q (u:=.ptr 0 0 0) (σ':=⟨[(0,.row [.iM q01 p1.Nodes] 24)],1⟩) rfl (q2p rfl rfl rfl) ?_
 refine go ?_
 refine RS.q rfl (q0w und24 rfl (q03 inf22) rfl rfl rfl) (RS.q rfl (q0i und22 rfl rfl rfl rfl) (RS.q rfl (q0c rfl rfl rfl (q08 q01 und22)) ?_))
 refine z54 (u:=.vl 1 0 0 ([(p1.Nodes.length:Int)].length)) (σ':=⟨[(1,.vec (List.map (cI .i64) ([(p1.Nodes.length:Int)])).flatten 3 1 0),(0,.row [.iM q01 p1.Nodes] 24)],2⟩) rfl (qeq.bslv (cs:=(List.map (cI .i64) [(p1.Nodes.length:Int)]).flatten) Tryz.tb_ok rfl und33 inf3 rfl rfl rfl rfl rfl rfl rfl rfl) rfl rfl ?_
 refine go ?_
 refine gS (l':=[(1,_),(3,_),(4,_)]) ?_
 refine z4g (fun m tm σ=>∃ z6:Int,∃ l7:List Int,∃ t8:Nat,q29 p1 n m z6 l7=some r∧tm=fr 55 [(1,.ptr 0 0 0),(3,.vl 1 t8 0 l7.length),(4,.i6 z6)]∧σ=⟨[(1,.vec (List.map (cI .i64) l7).flatten 3 1 t8),(0,.row [.iM q01 p1.Nodes] 24)],2⟩) (fun tm σ=>∃ l9:List Int,∃ t10:Nat,q6e l9=some r∧tm=fr 55 [(3,.vl 1 t10 0 l9.length)]∧σ=⟨[(1,.vec (List.map (cI .i64) l9).flatten 3 1 t10),(0,.row [.iM q01 p1.Nodes] 24)],2⟩) n ⟨0,[(p1.Nodes.length:Int)],0,hF,rfl,rfl⟩ ?_ ?_
 rintro _ _ ⟨l9,t10,hF,rfl,rfl⟩
 unfold q6e at hF
 refine go ?_
 obtain rfl:=sI hF
 exact rT (us:=[.vl 1 t10 0 l9.length]) (u:=.iM (cI .i64) l9) (q2o rfl (q2g)) (fR 1 1)
 rintro (_|m1) _ _ ⟨z6,l7,t8,hF,rfl,rfl⟩
 cases hF
 unfold q29 at hF
 refine go ?_
 refine RS.q rfl (q0w und24 rfl (q03 inf22) rfl rfl rfl) (RS.q rfl (q0i und22 rfl rfl rfl rfl) (RS.q rfl (q0c rfl rfl rfl (q08 q01 und22)) ?_))
 refine go ?_
 refine cF hF (fun h11 hF=>?_) (fun h11 hF=>?_)
 refine go ?_
 refine WPU.block ?_
 obtain ⟨x12,h13,hF⟩:=q00 hF
 refine go ?_
 refine RS.q rfl (q0w und24 rfl (q03 inf22) rfl rfl rfl) (RS.q rfl (q0i und22 rfl rfl rfl rfl) ?_)
 refine go ?_
 refine RS.q rfl (q0f rfl rfl (q0a q01 und22 (q03 inf54) q1b h13 rfl)) (RS.q rfl (q1o und54 rfl (q03 inf52) rfl rfl) (RS.q rfl (q0d und52 rfl rfl rfl) ?_))
 obtain ⟨x14,h15,hF⟩:=q00 hF
 obtain ⟨h16,hF⟩:=q0b hF
 refine go ?_
 refine RS.q rfl (q0w und24 rfl (q03 inf22) rfl rfl rfl) (RS.q rfl (q0i und22 rfl rfl rfl rfl) ?_)
 refine go ?_
 refine RS.q rfl (q0f rfl rfl (q0a q01 und22 (q03 inf54) q1b h15 rfl)) (RS.q rfl (q1o und54 rfl (q03 inf3) rfl rfl) (RS.q rfl (q0d und3 rfl rfl rfl) ?_))
 refine go ?_
 refine RS.q rfl (q0c rfl rfl rfl (q08 q05 und52)) (RS.q (u:=.sl 2 0 2 2) (σ':=⟨[(2,.row [.i6 x14.Typex,.i6 (x12.Arcs.length:Int)] 3),(1,.vec (List.map (cI .i64) l7).flatten 3 1 t8),(0,.row [.iM q01 p1.Nodes] 24)],3⟩) rfl (q0j und33 inf3 rfl rfl rfl rfl rfl rfl rfl) (RS.q (u:=.vl 1 (t8+1) 0 ((l7++[x14.Typex,(x12.Arcs.length:Int)]).length)) (σ':=⟨[(2,.row [.i6 x14.Typex,.i6 (x12.Arcs.length:Int)] 3),(1,.vec (List.map (cI .i64) (l7++[x14.Typex,(x12.Arcs.length:Int)])).flatten 3 1 (t8+1)),(0,.row [.iM q01 p1.Nodes] 24)],3⟩) rfl (q1u rfl rfl rfl rfl (q2a (cI .i64) ([x14.Typex,(x12.Arcs.length:Int)]) und33 und33 inf3 rfl (q18 .i64) rfl (q1q (cI .i64) [x14.Typex,(x12.Arcs.length:Int)] rfl rfl rfl rfl) h16)) ?_))
 refine go ?_
 refine gS (l':=[(1,_),(3,_),(4,_),(5,_),(6,_)]) ?_
 refine z4g (fun m tm σ=>∃ z25:Int,∃ l26:List Int,∃ t27:Nat,q3p z6 (q29 p1 n m1) x12 m z25 l26=some r∧tm=fr 55 [(1,.ptr 0 0 0),(3,.vl 1 t27 0 l26.length),(4,.i6 z6),(5,.iM q05 x12.Arcs),(6,.i6 z25)]∧σ=⟨[(2,.row [.i6 x14.Typex,.i6 (x12.Arcs.length:Int)] 3),(1,.vec (List.map (cI .i64) l26).flatten 3 1 t27),(0,.row [.iM q01 p1.Nodes] 24)],3⟩) (fun tm σ=>∃ l28:List Int,∃ t29:Nat,q6f z6 (q29 p1 n m1) l28=some r∧tm=fr 55 [(1,.ptr 0 0 0),(3,.vl 1 t29 0 l28.length),(4,.i6 z6)]∧σ=⟨[(2,.row [.i6 x14.Typex,.i6 (x12.Arcs.length:Int)] 3),(1,.vec (List.map (cI .i64) l28).flatten 3 1 t29),(0,.row [.iM q01 p1.Nodes] 24)],3⟩) n ⟨0,(l7++[x14.Typex,(x12.Arcs.length:Int)]),(t8+1),hF,rfl,rfl⟩ ?_ ?_
 rintro _ _ ⟨l28,t29,hF,rfl,rfl⟩
 unfold q6f at hF
 refine go ?_
 exact lC ⟨_,l28,t29,hF,rfl,rfl⟩
 rintro (_|m2) _ _ ⟨z25,l26,t27,hF,rfl,rfl⟩
 cases hF
 unfold q3p at hF
 refine go ?_
 refine RS.q rfl (q0c rfl rfl rfl (q08 q05 und52)) ?_
 refine go ?_
 refine cF hF (fun h30 hF=>?_) (fun h30 hF=>?_)
 refine go ?_
 refine WPU.block ?_
 obtain ⟨x31,h32,hF⟩:=q00 hF
 obtain ⟨x33,h34,hF⟩:=q00 hF
 obtain ⟨h35,hF⟩:=q0b hF
 refine go ?_
 refine z4i Tryz.tb_ok [(0,11)] (by kernel_rfl) ?_
 repeat refine RD.mv rfl rfl rfl rfl ?_
 refine RD.q rfl (q0f rfl rfl (q0a q05 und52 (q03 inf66) q0k h32 rfl)) (RD.q rfl (q1o und66 rfl (q03 inf3) rfl rfl) (RD.q rfl (q0d und3 rfl rfl rfl) ?_))
 repeat refine RD.mv rfl rfl rfl rfl ?_
 refine RD.q rfl (q0f rfl rfl (q0a q05 und52 (q03 inf66) q0k h34 rfl)) (RD.q rfl (q1o und66 rfl (q03 inf3) rfl rfl) (RD.q rfl (q0d und3 rfl rfl rfl) (RD.act (u:=.sl 3 0 2 2) (σ':=⟨[(3,.row [.i6 x31.Feat,.i6 x33.To] 3),(2,.row [.i6 x14.Typex,.i6 (x12.Arcs.length:Int)] 3),(1,.vec (List.map (cI .i64) l26).flatten 3 1 t27),(0,.row [.iM q01 p1.Nodes] 24)],4⟩) rfl (q0j und33 inf3 rfl rfl rfl rfl rfl rfl rfl) rfl rfl (RD.act (u:=.vl 1 (t27+1) 0 ((l26++[x31.Feat,x33.To]).length)) (σ':=⟨[(3,.row [.i6 x31.Feat,.i6 x33.To] 3),(2,.row [.i6 x14.Typex,.i6 (x12.Arcs.length:Int)] 3),(1,.vec (List.map (cI .i64) (l26++[x31.Feat,x33.To])).flatten 3 1 (t27+1)),(0,.row [.iM q01 p1.Nodes] 24)],4⟩) rfl (q1u rfl rfl rfl rfl (q2a (cI .i64) ([x31.Feat,x33.To]) und33 und33 inf3 rfl (q18 .i64) rfl (q1q (cI .i64) [x31.Feat,x33.To] rfl rfl rfl rfl) h35)) rfl rfl (RD.as rfl rfl rfl rfl ?_)))))
 refine RD.done ⟨by kernel_rfl,⟨q27 rfl,trivial⟩,?_⟩
 refine go ?_
 exact lC ⟨_,(l26++[x31.Feat,x33.To]),(t27+1),hF,rfl,rfl⟩
 refine go ?_
 exact xC ⟨l26,t27,hF,rfl,rfl⟩
 refine go ?_
 exact xC ⟨l7,t8,hF,rfl,rfl⟩
def q4k   : Option (Int) :=
 some 0
def q3o (r3:(List Int)) (r5:(List Int)):Nat→Int→Option (Int)
 | 0,_=>none
 | m1+1,z12 =>
  q04 (cond (decide (z12<(r3.length:Int)))
   (some (decide (z12<(r5.length:Int))))
   (some false)) fun b14 =>
  cond b14
   (q04 (q15 r3 z12) fun x17 =>
   q04 (q15 r5 z12) fun x19 =>
   cond (decide (x17<x19))
    (some (-1))
    (q04 (q15 r3 z12) fun x22 =>
    q04 (q15 r5 z12) fun x24 =>
    cond (decide (x22 > x24))
     (some 1)
     ((q3o r3 r5 m1) (IntKind.i64.wrap (z12+1)))))
   (q4k)
def q7f (n:Nat) (p1:GFS) (p2:GFS):Option (Int) :=
 q04 (q5v n p1) fun r3 =>
 q04 (q5v n p2) fun r5 =>
 q3o r3 r5 n 0
theorem qmx (n:Nat) (p1:GFS) (p2:GFS) (r:Int) (hF:q7f n p1 p2=some r):EvU Tryz.prog 50 [.agg [.isl false (List.map q01 p1.Nodes)],.agg [.isl false (List.map q01 p2.Nodes)]] ⟨[],0⟩ (fun u _=>u = .int .i64 r∧Bel 0 u):=by
 unfold q7f at hF
 refine bg2 42 fn50 ?_
 refine go ?_
 refine RS.q (u:=.ptr 0 0 0) (σ':=⟨[(0,.row [.iM q01 p1.Nodes] 24)],1⟩) rfl (q2p rfl rfl rfl) (RS.q (u:=.ptr 1 0 0) (σ':=⟨[(1,.row [.iM q01 p2.Nodes] 24),(0,.row [.iM q01 p1.Nodes] 24)],2⟩) rfl (q2p rfl rfl rfl) ?_)
 obtain ⟨r3,h4,hF⟩:=q00 hF
 refine go ?_
 refine RS.q (u:=.agg [.iM q01 p1.Nodes]) rfl (q0p und24 rfl (q03 inf24) rfl rfl rfl) (RS.cl rfl (pC (qfk n p1 r3 h4) _) fn70 ?_)
 obtain ⟨r5,h6,hF⟩:=q00 hF
 refine go ?_
 refine RS.q (u:=.agg [.iM q01 p2.Nodes]) rfl (q0p und24 rfl (q03 inf24) rfl rfl rfl) (RS.cl rfl (pC (qfk n p2 r5 h6) _) fn70 ?_)
 refine go ?_
 refine gS (l':=[(5,_),(6,_),(7,_)]) ?_
 refine z4g (fun m tm σ=>∃ z12:Int,q3o r3 r5 m z12=some r∧tm=fr 42 [(5,.iM (cI .i64) r3),(6,.iM (cI .i64) r5),(7,.i6 z12)]∧σ=⟨[(1,.row [.iM q01 p2.Nodes] 24),(0,.row [.iM q01 p1.Nodes] 24)],2⟩) (fun tm σ=>q4k=some r∧tm=fr 42 []∧σ=⟨[(1,.row [.iM q01 p2.Nodes] 24),(0,.row [.iM q01 p1.Nodes] 24)],2⟩) n ⟨0,hF,rfl,rfl⟩ ?_ ?_
 rintro _ _ ⟨hF,rfl,rfl⟩
 unfold q4k at hF
 exact gx hF
 rintro (_|m1) _ _ ⟨z12,hF,rfl,rfl⟩
 cases hF
 unfold q3o at hF
 obtain ⟨b14,h15,hF⟩:=q00 hF
 refine gn ?_
 refine z4h (fun tm σ=>tm=fr 42 [(5,.iM (cI .i64) r3),(6,.iM (cI .i64) r5),(7,.i6 z12),(21,.bool b14)]∧σ=⟨[(1,.row [.iM q01 p2.Nodes] 24),(0,.row [.iM q01 p1.Nodes] 24)],2⟩) ?_ ?_
 rintro _ _ ⟨rfl,rfl⟩
 refine go ?_
 refine cF hF (fun h16 hF=>?_) (fun h16 hF=>?_)
 refine go ?_
 refine WPU.block ?_
 obtain ⟨x17,h18,hF⟩:=q00 hF
 obtain ⟨x19,h20,hF⟩:=q00 hF
 refine go ?_
 refine z4i Tryz.tb_ok [] (by kernel_rfl) ?_
 repeat refine RD.mv rfl rfl rfl rfl ?_
 refine RD.q rfl (q0f rfl rfl (q0a (cI .i64) und33 (q03 inf3) (q18 .i64) h18 rfl)) (RD.q rfl (q0d und3 rfl rfl rfl) ?_)
 repeat refine RD.mv rfl rfl rfl rfl ?_
 refine RD.q rfl (q0f rfl rfl (q0a (cI .i64) und33 (q03 inf3) (q18 .i64) h20 rfl)) (RD.q rfl (q0d und3 rfl rfl rfl) (RD.q rfl (q3b rfl rfl (qxn _ _ _) rfl) ?_))
 refine RD.done ⟨by kernel_rfl,trivial,?_⟩
 refine go ?_
 refine cF hF (fun h21 hF=>?_) (fun h21 hF=>?_)
 exact gx hF
 obtain ⟨x22,h23,hF⟩:=q00 hF
 obtain ⟨x24,h25,hF⟩:=q00 hF
 refine go ?_
 refine z4i Tryz.tb_ok [] (by kernel_rfl) ?_
 repeat refine RD.mv rfl rfl rfl rfl ?_
 refine RD.q rfl (q0f rfl rfl (q0a (cI .i64) und33 (q03 inf3) (q18 .i64) h23 rfl)) (RD.q rfl (q0d und3 rfl rfl rfl) ?_)
 repeat refine RD.mv rfl rfl rfl rfl ?_
 refine RD.q rfl (q0f rfl rfl (q0a (cI .i64) und33 (q03 inf3) (q18 .i64) h25 rfl)) (RD.q rfl (q0d und3 rfl rfl rfl) (RD.q rfl (q3b rfl rfl (qmb _ _ _) rfl) ?_))
 refine RD.done ⟨by kernel_rfl,trivial,?_⟩
 refine go ?_
 refine cF hF (fun h26 hF=>?_) (fun h26 hF=>?_)
 exact gx hF
 refine go ?_
 exact lC ⟨_,hF,rfl,rfl⟩
 refine go ?_
 exact xC ⟨hF,rfl,rfl⟩
 rcases gB h15 with ⟨h13,h15⟩ | ⟨h13,h15⟩
 obtain rfl:=sI h15
 refine go ?_
 refine RS.q rfl (q0c rfl rfl rfl (q08 (cI .i64) und33)) ?_
 refine go ?_
 refine RS.w rfl (q0c rfl rfl rfl (q08 (cI .i64) und33)) ?_
 refine go ?_
 exact xC ⟨rfl,rfl⟩
 obtain rfl:=sI h15
 refine go ?_
 refine RS.q rfl (q0c rfl rfl rfl (q08 (cI .i64) und33)) ?_
 refine go ?_
 exact xC ⟨rfl,rfl⟩
def q6k (n:Nat) (p1:GFS) (p2:GFS):Option (Bool) :=
 q04 (q7f n p1 p2) fun r3 =>
 some (r3 == 0)
theorem q28 (n:Nat) (p1:GFS) (p2:GFS) (r:Bool) (hF:q6k n p1 p2=some r):EvU Tryz.prog 21 [.agg [.isl false (List.map q01 p1.Nodes)],.agg [.isl false (List.map q01 p2.Nodes)]] ⟨[],0⟩ (fun u _=>u = .bool r∧Bel 0 u):=by
 unfold q6k at hF
 refine bg2 9 fn21 ?_
 refine go ?_
 refine RS.q (u:=.ptr 0 0 0) (σ':=⟨[(0,.row [.iM q01 p1.Nodes] 24)],1⟩) rfl (q2p rfl rfl rfl) (RS.q (u:=.ptr 1 0 0) (σ':=⟨[(1,.row [.iM q01 p2.Nodes] 24),(0,.row [.iM q01 p1.Nodes] 24)],2⟩) rfl (q2p rfl rfl rfl) ?_)
 obtain ⟨r3,h4,hF⟩:=q00 hF
 refine go ?_
 refine RS.q (u:=.agg [.iM q01 p1.Nodes]) rfl (q0p und24 rfl (q03 inf24) rfl rfl rfl) (RS.q (u:=.agg [.iM q01 p2.Nodes]) rfl (q0p und24 rfl (q03 inf24) rfl rfl rfl) (RS.cl rfl (pC (qmx n p1 p2 r3 h4) _) fn50 ?_))
 exact gx hF
def qf9   : Option (Int×Bool) :=
 some (0,false)
def q92 (p3:Int) (x4:q0n):Nat→Int→Option (Int×Bool)
 | 0,_=>none
 | m1+1,z11 =>
  cond (decide (z11<(x4.Arcs.length:Int)))
   (q04 (q15 x4.Arcs z11) fun x13 =>
   cond (x13.Feat == p3)
    (some (x13.To,true))
    ((q92 p3 x4 m1) (IntKind.i64.wrap (z11+1))))
   (qf9)
def qcu (n:Nat) (p1:GFS) (p2:Int) (p3:Int):Option (Int×Bool) :=
 q04 (q15 p1.Nodes p2) fun x4 =>
 q92 p3 x4 n 0
theorem qst (n:Nat) (p1:GFS) (p2:Int) (p3:Int) (r:Int×Bool) (hF:qcu n p1 p2 p3=some r):EvU Tryz.prog 59 [.agg [.isl false (List.map q01 p1.Nodes)],.int .i64 p2,.int .i64 p3] ⟨[],0⟩ (fun u _=>u = .tup [.int .i64 r.1,.bool r.2]∧Bel 0 u):=by
 unfold qcu at hF
 refine bg3 28 fn59 ?_
 refine go ?_
 refine RS.q (u:=.ptr 0 0 0) (σ':=⟨[(0,.row [.iM q01 p1.Nodes] 24)],1⟩) rfl (q2p rfl rfl rfl) ?_
 obtain ⟨x4,h5,hF⟩:=q00 hF
 refine go ?_
 refine RS.q rfl (q0w und24 rfl (q03 inf22) rfl rfl rfl) (RS.q rfl (q0i und22 rfl rfl rfl rfl) ?_)
 refine go ?_
 refine RS.q rfl (q0f rfl rfl (q0a q01 und22 (q03 inf54) q1b h5 rfl)) (RS.q rfl (q1o und54 rfl (q03 inf52) rfl rfl) (RS.q rfl (q0d und52 rfl rfl rfl) (RS.q rfl (q0c rfl rfl rfl (q08 q05 und52)) ?_)))
 refine go ?_
 refine gS (l':=[(2,_),(15,_),(16,_),(17,_)]) ?_
 refine z4g (fun m tm σ=>∃ z11:Int,q92 p3 x4 m z11=some r∧tm=fr 28 [(2,.i6 p3),(15,.iM q05 x4.Arcs),(16,.i6 (x4.Arcs.length:Int)),(17,.i6 z11)]∧σ=⟨[(0,.row [.iM q01 p1.Nodes] 24)],1⟩) (fun tm σ=>qf9=some r∧tm=fr 28 []∧σ=⟨[(0,.row [.iM q01 p1.Nodes] 24)],1⟩) n ⟨0,hF,rfl,rfl⟩ ?_ ?_
 rintro _ _ ⟨hF,rfl,rfl⟩
 unfold qf9 at hF
 refine go ?_
 obtain rfl:=sI hF
 exact rt2 rfl rfl rfl rfl rfl
 rintro (_|m1) _ _ ⟨z11,hF,rfl,rfl⟩
 cases hF
 unfold q92 at hF
 refine go ?_
 refine cF hF (fun h12 hF=>?_) (fun h12 hF=>?_)
 refine go ?_
 refine WPU.block ?_
 obtain ⟨x13,h14,hF⟩:=q00 hF
 refine go ?_
 refine RS.q rfl (q0f rfl rfl (q0a q05 und52 (q03 inf66) q0k h14 rfl)) (RS.q (u:=.agg (q05 x13)) rfl (qam und66 rfl (q03 inf66) rfl rfl) (RS.q (u:=.ptr 1 0 0) (σ':=⟨[(1,.row [.i6 0,.i6 0] 66),(0,.row [.iM q01 p1.Nodes] 24)],2⟩) rfl (q0v inf66 rfl rfl) ?_))
 refine z4k (u:=.junk) (σ':=⟨[(1,.row (q05 x13) 66),(0,.row [.iM q01 p1.Nodes] 24)],2⟩) rfl (q0l (q03 inf66) rfl rfl rfl rfl rfl rfl rfl rfl) rfl ?_
 refine go ?_
 refine RS.q rfl (q0w und66 rfl (q03 inf3) rfl rfl rfl) (RS.q rfl (q0i und3 rfl rfl rfl rfl) ?_)
 refine go ?_
 refine cF hF (fun h15 hF=>?_) (fun h15 hF=>?_)
 refine go ?_
 refine RS.q rfl (q0w und66 rfl (q03 inf3) rfl rfl rfl) (RS.q rfl (q0i und3 rfl rfl rfl rfl) ?_)
 refine go ?_
 obtain rfl:=sI hF
 exact rt2 rfl rfl rfl rfl rfl
 refine go ?_
 exact lC ⟨_,hF,rfl,rfl⟩
 refine go ?_
 exact xC ⟨hF,rfl,rfl⟩
def qjs  (z10:Int):Option (Int×Bool) :=
 some (z10,true)
def qcr (p1:GFS) (p2:List Int) (n:Nat):Nat→Int→Int→Option (Int×Bool)
 | 0,_,_=>none
 | m1+1,z8,z9 =>
  cond (decide (z9<(p2.length:Int)))
   (q04 (q15 p2 z9) fun x12 =>
   q04 (qcu n p1 z8 x12) fun r14 =>
   cond (!r14.2)
    (some (0,false))
    ((qcr p1 p2 n m1) r14.1 (IntKind.i64.wrap (z9+1))))
   (qjs z8)
def qh5 (n:Nat) (p1:GFS) (p2:List Int):Option (Int×Bool) :=
 qcr p1 p2 n n 0 0
theorem qim (n:Nat) (p1:GFS) (p2:List Int) (r:Int×Bool) (hF:qh5 n p1 p2=some r):EvU Tryz.prog 30 [.agg [.isl false (List.map q01 p1.Nodes)],.isl false (List.map (cI .i64) p2)] ⟨[],0⟩ (fun u _=>u = .tup [.int .i64 r.1,.bool r.2]∧Bel 0 u):=by
 unfold qh5 at hF
 refine bg2 29 fn30 ?_
 refine go ?_
 refine RS.q (u:=.ptr 0 0 0) (σ':=⟨[(0,.row [.iM q01 p1.Nodes] 24)],1⟩) rfl (q2p rfl rfl rfl) ?_
 refine go ?_
 refine RS.q rfl (q0c rfl rfl rfl (q08 (cI .i64) und33)) ?_
 refine go ?_
 refine gS (l':=[(2,_),(6,_),(11,_),(12,_),(13,_)]) ?_
 refine z4g (fun m tm σ=>∃ z8:Int,∃ z9:Int,qcr p1 p2 n m z8 z9=some r∧tm=fr 29 [(2,.ptr 0 0 0),(6,.i6 z8),(11,.iM (cI .i64) p2),(12,.i6 (p2.length:Int)),(13,.i6 z9)]∧σ=⟨[(0,.row [.iM q01 p1.Nodes] 24)],1⟩) (fun tm σ=>∃ z10:Int,qjs z10=some r∧tm=fr 29 [(6,.i6 z10)]∧σ=⟨[(0,.row [.iM q01 p1.Nodes] 24)],1⟩) n ⟨0,0,hF,rfl,rfl⟩ ?_ ?_
 rintro _ _ ⟨z10,hF,rfl,rfl⟩
 unfold qjs at hF
 refine go ?_
 obtain rfl:=sI hF
 exact rt2 rfl rfl rfl rfl rfl
 rintro (_|m1) _ _ ⟨z8,z9,hF,rfl,rfl⟩
 cases hF
 unfold qcr at hF
 refine go ?_
 refine cF hF (fun h11 hF=>?_) (fun h11 hF=>?_)
 refine go ?_
 refine WPU.block ?_
 obtain ⟨x12,h13,hF⟩:=q00 hF
 refine go ?_
 refine RS.q rfl (q0f rfl rfl (q0a (cI .i64) und33 (q03 inf3) (q18 .i64) h13 rfl)) (RS.q rfl (q0d und3 rfl rfl rfl) ?_)
 obtain ⟨r14,h15,hF⟩:=q00 hF
 refine go ?_
 refine RS.q (u:=.agg [.iM q01 p1.Nodes]) rfl (q0p und24 rfl (q03 inf24) rfl rfl rfl) ?_
 refine go ?_
 refine RS.cl rfl (pC (qst n p1 z8 x12 r14 h15) _) fn59 ?_
 refine go ?_
 refine cF hF (fun h16 hF=>?_) (fun h16 hF=>?_)
 refine go ?_
 obtain rfl:=sI hF
 exact rt2 rfl rfl rfl rfl rfl
 refine go ?_
 exact lC ⟨r14.1,(IntKind.i64.wrap (z9+1)),hF,rfl,rfl⟩
 refine go ?_
 exact xC ⟨z8,hF,rfl,rfl⟩
def qin (n:Nat) (p1:GFS) (p2:List Int):Option (GFS×Bool) :=
 q04 (qh5 n p1 p2) fun r3 =>
 cond (!r3.2)
  (some ((GFS.mk []),false))
  (q04 (qi6 n p1 r3.1) fun r6 =>
  some (r6,true))
theorem qvn (n:Nat) (p1:GFS) (p2:List Int) (r:GFS×Bool) (hF:qin n p1 p2=some r):EvU Tryz.prog 34 [.agg [.isl false (List.map q01 p1.Nodes)],.isl false (List.map (cI .i64) p2)] ⟨[],0⟩ (fun u _=>u = .tup [.agg [.isl false (List.map q01 r.1.Nodes)],.bool r.2]∧Bel 0 u):=by
 unfold qin at hF
 refine bg2 20 fn34 ?_
 refine go ?_
 refine RS.q (u:=.ptr 0 0 0) (σ':=⟨[(0,.row [.iM q01 p1.Nodes] 24)],1⟩) rfl (q2p rfl rfl rfl) (RS.q (u:=.ptr 1 0 0) (σ':=⟨[(1,.row [.nils] 24),(0,.row [.iM q01 p1.Nodes] 24)],2⟩) rfl (q0v inf24 rfl rfl) ?_)
 obtain ⟨r3,h4,hF⟩:=q00 hF
 refine go ?_
 refine RS.q (u:=.agg [.iM q01 p1.Nodes]) rfl (q0p und24 rfl (q03 inf24) rfl rfl rfl) ?_
 refine go ?_
 refine RS.cl rfl (pC (qim n p1 p2 r3 h4) _) fn30 ?_
 refine go ?_
 refine cF hF (fun h5 hF=>?_) (fun h5 hF=>?_)
 refine go ?_
 refine RS.q (u:=.agg [.nils]) rfl (q3l bd24 rfl rfl rfl) ?_
 refine z4k (u:=.junk) (σ':=⟨[(1,.row [.nils] 24),(0,.row [.iM q01 p1.Nodes] 24)],2⟩) rfl (q0l (q03 inf24) rfl rfl rfl rfl rfl rfl rfl rfl) rfl ?_
 refine go ?_
 obtain rfl:=sI hF
 exact rT (us:=[.agg [.nils],.bool false]) (u:=.tup [.agg [.isl false []],.bool false]) (qei (q0p und24 rfl (q03 inf24) rfl rfl rfl) (q2o rfl (q2g))) wR
 obtain ⟨r6,h7,hF⟩:=q00 hF
 refine go ?_
 refine RS.q (u:=.agg [.iM q01 p1.Nodes]) rfl (q0p und24 rfl (q03 inf24) rfl rfl rfl) ?_
 refine go ?_
 refine RS.cl rfl (pC (qsc n p1 r3.1 r6 h7) _) fn62 ?_
 refine z4k (u:=.junk) (σ':=⟨[(1,.row [.iM q01 r6.Nodes] 24),(0,.row [.iM q01 p1.Nodes] 24)],2⟩) rfl (q0l (q03 inf24) rfl rfl rfl rfl rfl rfl rfl rfl) rfl ?_
 refine go ?_
 obtain rfl:=sI hF
 exact rT (qei (q0p und24 rfl (q03 inf24) rfl rfl rfl) (q2o rfl (q2g))) (z4p _ rfl)
def qct (n:Nat) (p1:GFS) (p2:List Int):Option (Int×Bool) :=
 q04 (qh5 n p1 p2) fun r3 =>
 cond (!r3.2)
  (some (0,false))
  (q04 (q15 p1.Nodes r3.1) fun x6 =>
  some (x6.Typex,true))
theorem qmq (n:Nat) (p1:GFS) (p2:List Int) (r:Int×Bool) (hF:qct n p1 p2=some r):EvU Tryz.prog 36 [.agg [.isl false (List.map q01 p1.Nodes)],.isl false (List.map (cI .i64) p2)] ⟨[],0⟩ (fun u _=>u = .tup [.int .i64 r.1,.bool r.2]∧Bel 0 u):=by
 unfold qct at hF
 refine bg2 22 fn36 ?_
 refine go ?_
 refine RS.q (u:=.ptr 0 0 0) (σ':=⟨[(0,.row [.iM q01 p1.Nodes] 24)],1⟩) rfl (q2p rfl rfl rfl) ?_
 obtain ⟨r3,h4,hF⟩:=q00 hF
 refine go ?_
 refine RS.q (u:=.agg [.iM q01 p1.Nodes]) rfl (q0p und24 rfl (q03 inf24) rfl rfl rfl) ?_
 refine go ?_
 refine RS.cl rfl (pC (qim n p1 p2 r3 h4) _) fn30 ?_
 refine go ?_
 refine cF hF (fun h5 hF=>?_) (fun h5 hF=>?_)
 refine go ?_
 obtain rfl:=sI hF
 exact rt2 rfl rfl rfl rfl rfl
 obtain ⟨x6,h7,hF⟩:=q00 hF
 refine go ?_
 refine RS.q rfl (q0w und24 rfl (q03 inf22) rfl rfl rfl) (RS.q rfl (q0i und22 rfl rfl rfl rfl) ?_)
 refine go ?_
 refine RS.q rfl (q0f rfl rfl (q0a q01 und22 (q03 inf54) q1b h7 rfl)) (RS.q rfl (q1o und54 rfl (q03 inf3) rfl rfl) (RS.q rfl (q0d und3 rfl rfl rfl) ?_))
 refine go ?_
 obtain rfl:=sI hF
 exact rt2 rfl rfl rfl rfl rfl
def qbq (n:Nat) (p1:GFS):Option ((List q0n)) :=
 some p1.Nodes
theorem ql2 (n:Nat) (p1:GFS) (r:(List q0n)) (hF:qbq n p1=some r):EvU Tryz.prog 46 [.agg [.isl false (List.map q01 p1.Nodes)]] ⟨[],0⟩ (fun u σ'=>∃ t:Nat→Nat,u = .fn (.func 69) [] [.iptr [.isl false (List.map q01 r)]]∧σ'=⟨[],0⟩):=by
 unfold qbq at hF
 refine bg1 4 fn46 ?_
 refine go ?_
 refine RS.q (u:=.ptr 0 0 0) (σ':=⟨[(0,.row [.iM q01 p1.Nodes] 24)],1⟩) rfl (q2p rfl rfl rfl) ?_
 refine go ?_
 refine RS.q rfl (qya rfl rfl) ?_
 refine go ?_
 obtain rfl:=sI hF
 exact ⟨.inr rfl,[.fn (.func 69) [] [.ptr 0 0 0]],q2o rfl (q2g),.fn (.func 69) [] [.iptr [.iM q01 p1.Nodes]],⟨[],0⟩,NL,Gh.trans (z4j 0 1) (z58 (n1:=0) [] rfl rfl NL NL BUL.h BH.h),stF [],rfl,rfl⟩
def q6h (n:Nat) (p1:List Int):Option ((List Int)) :=
 z2y p1 fun b2 =>
 cond b2
  (some ([]:List Int))
  (q1i (p1.length*8≤140737488355328∧p1.length≤140737488355328) (
  some p1))
theorem qbg (n:Nat) (p1:List Int) (r:(List Int)) (hF:q6h n p1=some r):EvU Tryz.prog 48 [.isl false (List.map (cI .i64) p1)] ⟨[],0⟩ (fun u σ'=>∃ t,u = .vl 1 t 0 r.length∧σ'=⟨[(1,.vec (List.map (cI .i64) r).flatten 3 1 t)],1+1⟩):=by
 unfold q6h at hF
 refine bg1 8 fn48 ?_
 refine go ?_
 refine RS.nilq rfl rfl und33 rfl rfl rfl rfl ?_
 intro b2 h3
 replace hF:=qv7 hF b2 fun h=>List.map_eq_nil_iff.1 (h3 h)
 refine go ?_
 refine cF hF (fun h4 hF=>?_) (fun h4 hF=>?_)
 refine go ?_
 obtain rfl:=sI hF
 exact ⟨.inr rfl,[.nils],q2o rfl q2g,.vl 1 0 0 0,⟨[(1,.vec (List.map (cI .i64) ([]:List Int)).flatten 3 1 0)],2⟩,NZ,Gh.trans (Gh.fresh (tm:=[.nils]) 3 1 (by decide) NZ) (Gh.trans (Gh.nilvec (tm:=[.nils]) 0 3 1 (by decide) NZ rfl) (Gh.trans (z4y (fun k=>Nat.beq k 1)) (z58 (n1:=2) [] rfl rfl NZ NL BUL.h BH.h))),0,rfl,rfl⟩
 obtain ⟨h5,hF⟩:=q0b hF
 refine go ?_
 refine RS.q (u:=.sl 0 0 0 0) (σ':=⟨[(0,.row [] 3)],1⟩) rfl (q0j und33 inf3 rfl rfl rfl rfl rfl rfl rfl) ?_
 refine go ?_
 refine RS.q (u:=.vl 1 0 0 p1.length) (σ':=⟨[(1,.vec (List.map (cI .i64) p1).flatten 3 1 0),(0,.row [] 3)],2⟩) rfl (q1u rfl rfl rfl rfl (qs4 (cI .i64) p1 und33 und33 inf3 rfl rfl rfl (qhl (cI .i64) (q18 .i64)) h5)) ?_
 refine go ?_
 obtain rfl:=sI hF
 exact ⟨.inr rfl,[.vl 1 0 0 p1.length],q2o rfl q2g,.vl 1 0 0 p1.length,⟨[(1,.vec (List.map (cI .i64) p1).flatten 3 1 0)],2⟩,NZ,Gh.trans (z4y (fun k=>Nat.beq k 1)) (z58 (n1:=2) [] rfl rfl NZ NL BUL.h BH.h),0,rfl,rfl⟩
def q9r (z51:Int) (rc4:Int→(List (List Int))→(List Int)→(List Bool)→Option ((List (List Int)))) (l68:List (List Int)) (l70:List Int) (l72:List Bool):Option ((List (List Int))) :=
 rc4 (IntKind.i64.wrap (z51+1)) l68 l70 l72
def qdh (z17:Int) (l23:List (List Int)) (rc2:Int→(List (List Int))→(List Int)→(List Bool)→(List (List Int))→Option ((List (List Int)))) (x32:Int) (x34:List Int) (l57:List (List Int)) (l59:List Int) (l61:List Bool):Option ((List (List Int))) :=
 rc2 (IntKind.i64.wrap (z17+1)) l57 l59 l61 (l23.set x32.toNat x34)
def q5j (n:Nat) (r3:(List q0n)) (z17:Int) (l23:List (List Int)) (rc2:Int→(List (List Int))→(List Int)→(List Bool)→(List (List Int))→Option ((List (List Int)))) (x32:Int) (x34:List Int) (x38:q0n):Nat→Int→(List (List Int))→(List Int)→(List Bool)→Option ((List (List Int)))
 | 0,_,_,_,_=>none
 | m4+1,z51,l52,l54,l56 =>
  cond (decide (z51<(x38.Arcs.length:Int)))
   (q04 (q15 x38.Arcs z51) fun x63 =>
   q04 (qp1 l56 0 ((r3.length:Int).toNat) x63.To) fun x65 =>
   cond (!x65)
    (q04 (qp1 l56 0 ((r3.length:Int).toNat) x63.To) fun x73 =>
    q1i ((l54.length+1)*8≤140737488355328∧l54.length+1≤140737488355328) (
    q04 (q15 l52 z17) fun x76 =>
    q04 (q6h n x76) fun r78 =>
    q1i ((r78.length+([x63.Feat]).length)*8≤140737488355328∧r78.length+([x63.Feat]).length≤140737488355328) (
    q1i ((l52.length+1)*24≤140737488355328∧l52.length+1≤140737488355328) (
    q9r z51 (q5j n r3 z17 l23 rc2 x32 x34 x38 m4) (l52++[(r78++[x63.Feat])]) (l54++[x63.To]) (l56.set x63.To.toNat true)))))
    (q9r z51 (q5j n r3 z17 l23 rc2 x32 x34 x38 m4) l52 l54 l56))
   (qdh z17 l23 rc2 x32 x34 l52 l54 l56)
def qdi (n:Nat) (r3:(List q0n)) (z17:Int) (l18:List (List Int)) (l20:List Int) (l22:List Bool) (l23:List (List Int)) (rc2:Int→(List (List Int))→(List Int)→(List Bool)→(List (List Int))→Option ((List (List Int)))) (x32:Int) (x34:List Int)  : Option ((List (List Int))) :=
 q04 (q15 l20 z17) fun x36 =>
 q04 (q15 r3 x36) fun x38 =>
 q5j n r3 z17 l23 rc2 x32 x34 x38 n 0 l18 l20 l22
def qdg (p1:GFS) (l24:List (List Int)) (l26:List Int) (l28:List Bool) (l29:List (List Int)):Option ((List (List Int))) :=
 q1i ((p1.Nodes.length:Int).toNat=l29.length) (
 some l29)
def q3s (p1:GFS) (n:Nat) (r3:(List q0n)):Nat→Int→(List (List Int))→(List Int)→(List Bool)→(List (List Int))→Option ((List (List Int)))
 | 0,_,_,_,_,_=>none
 | m2+1,z17,l18,l20,l22,l23 =>
  cond (decide (z17<(l20.length:Int)))
   (q04 (q15 l20 z17) fun x32 =>
   q04 (q15 l18 z17) fun x34 =>
   q04 (qp1 l23 0 ((p1.Nodes.length:Int).toNat) x32) fun x82 =>
   qdi n r3 z17 l18 l20 l22 l23 (q3s p1 n r3 m2) x32 x34)
   (qdg p1 l18 l20 l22 l23)
def qg0 (n:Nat) (p1:GFS):Option ((List (List Int))) :=
 q1i (0≤(p1.Nodes.length:Int)∧24*(p1.Nodes.length:Int).toNat≤281474976710656∧(p1.Nodes.length:Int)≤281474976710656) (
 q04 (qbq n p1) fun r3 =>
 q1i (0≤(r3.length:Int)∧1*(r3.length:Int).toNat≤281474976710656∧(r3.length:Int)≤281474976710656) (
 q04 (qp1 (List.replicate (r3.length:Int).toNat false) 0 ((r3.length:Int).toNat) 0) fun x7 =>
 q3s p1 n r3 n 0 ([[]]:List (List Int)) ([0]) ((List.replicate (r3.length:Int).toNat false).set (0:Int).toNat true) (List.replicate (p1.Nodes.length:Int).toNat [])))
theorem qbd (n:Nat) (p1:GFS) (r:(List (List Int))) (hF:qg0 n p1=some r):EvU Tryz.prog 15 [.agg [.isl false (List.map q01 p1.Nodes)]] ⟨[],0⟩ (fun u _=>u = .isl false (List.map (cL (cI .i64)) r)∧Bel 0 u):=by
 unfold qg0 at hF
 refine z56 Tryz.tb_ok fn15 rfl ?_
 refine WPU.ghost (tm':=fr 19 [(0,.agg [.iM q01 p1.Nodes])]) (z4s NL) NL ?_
 refine go ?_
 refine RS.q (u:=.ptr 0 0 0) (σ':=⟨[(0,.row [.iM q01 p1.Nodes] 24)],1⟩) rfl (q2p rfl rfl rfl) ?_
 obtain ⟨h2,hF⟩:=q0b hF
 refine go ?_
 refine RS.q rfl (q0w und24 rfl (q03 inf22) rfl rfl rfl) (RS.q rfl (q0i und22 rfl rfl rfl rfl) (RS.q rfl (q0c rfl rfl rfl (q08 q01 und22)) (RS.q (u:=.sl 1 0 ((p1.Nodes.length:Int).toNat) ((p1.Nodes.length:Int).toNat)) (σ':=⟨[(1,.row (List.map (cL (cI .i64)) (List.replicate (p1.Nodes.length:Int).toNat [])).flatten 33),(0,.row [.iM q01 p1.Nodes] 24)],2⟩) rfl (qu6 (cL (cI .i64)) [] rfl rfl und28 inf33 rfl rfl rfl rfl h2) (RS.q (u:=.ptr 2 0 0) (σ':=⟨[(2,.row [.nils] 28),(1,.row (List.map (cL (cI .i64)) (List.replicate (p1.Nodes.length:Int).toNat [])).flatten 33),(0,.row [.iM q01 p1.Nodes] 24)],3⟩) rfl (q0v inf28 rfl rfl) ?_))))
 refine z4k (u:=.junk) (σ':=⟨[(2,.row [.sl 1 0 ((p1.Nodes.length:Int).toNat) ((p1.Nodes.length:Int).toNat)] 28),(1,.row (List.map (cL (cI .i64)) (List.replicate (p1.Nodes.length:Int).toNat [])).flatten 33),(0,.row [.iM q01 p1.Nodes] 24)],3⟩) rfl (q0l (q03 inf28) rfl rfl rfl rfl rfl rfl rfl rfl) rfl ?_
 obtain ⟨r3,h4,hF⟩:=q00 hF
 refine go ?_
 refine RS.q (u:=.agg [.iM q01 p1.Nodes]) rfl (q0p und24 rfl (q03 inf24) rfl rfl rfl) ?_
 refine z4m (R:=fun u σ'=>∃ t5:Nat→Nat,u = .fn (.func 69) [] [.iptr [.iM q01 r3]]∧σ'=⟨[(2,.row [.sl 1 0 ((p1.Nodes.length:Int).toNat) ((p1.Nodes.length:Int).toNat)] 28),(1,.row (List.map (cL (cI .i64)) (List.replicate (p1.Nodes.length:Int).toNat [])).flatten 33),(0,.row [.iM q01 p1.Nodes] 24)],3⟩) (args:=[.agg [.iM q01 p1.Nodes]]) rfl (q50 rfl rfl fn46 hb46 rfl rfl) (EvU.st [] (ql2 n p1 r3 h4 )) rfl rfl ?_
 rintro _ _ ⟨t5,rfl,rfl⟩
 refine go ?_
 refine WPU.block ?_
 refine gn ?_
 refine gS (l':=[(3,_),(11,_)]) ?_
 refine WPU.range Tryz.tb_ok rfl (fun _ h=>h) (q2c rfl) fn69 rfl rfl ?_
 intro ly1 fn1 tp1 D1
 refine WPU.ghost (tm':=fr 76 [(0,.fn (.yield ly1) [] []),(1,.iptr [.iM q01 r3])]) (z4s NL) (Nat.le_refl _) ?_
 obtain ⟨h6,hF⟩:=q0b hF
 refine go ?_
 refine RS.q rfl (q1o und24 rfl (q03 inf22) rfl rfl) (RS.q rfl (q0d und22 rfl rfl rfl) (RS.q rfl (q0c rfl rfl rfl (q08 q01 und22)) (RS.q (u:=.sl 3 0 ((r3.length:Int).toNat) ((r3.length:Int).toNat)) (σ':=⟨[(3,.row (List.map cB (List.replicate (r3.length:Int).toNat false)).flatten 4),(2,.row [.sl 1 0 ((p1.Nodes.length:Int).toNat) ((p1.Nodes.length:Int).toNat)] 28),(1,.row (List.map (cL (cI .i64)) (List.replicate (p1.Nodes.length:Int).toNat [])).flatten 33),(0,.row [.iM q01 p1.Nodes] 24)],4⟩) rfl (qu6 cB false rfl rfl und75 inf4 rfl rfl rfl rfl h6) ?_)))
 obtain ⟨x7,h8,hF⟩:=q00 hF
 refine go ?_
 refine RS.q rfl (q0f rfl rfl (qsf und75 (q03 inf4) rfl h8)) ?_
 refine z4k (u:=.junk) (σ':=⟨[(3,.row (List.map cB ((List.replicate (r3.length:Int).toNat false).set (0:Int).toNat true)).flatten 4),(2,.row [.sl 1 0 ((p1.Nodes.length:Int).toNat) ((p1.Nodes.length:Int).toNat)] 28),(1,.row (List.map (cL (cI .i64)) (List.replicate (p1.Nodes.length:Int).toNat [])).flatten 33),(0,.row [.iM q01 p1.Nodes] 24)],4⟩) rfl (qz3 cB (q03 inf4) z2e rfl rfl rfl rfl rfl rfl h8 rfl) rfl ?_
 refine go ?_
 refine z54 (u:=.vl 4 0 0 ([0].length)) (σ':=⟨[(4,.vec (List.map (cI .i64) ([0])).flatten 3 1 0),(3,.row (List.map cB ((List.replicate (r3.length:Int).toNat false).set (0:Int).toNat true)).flatten 4),(2,.row [.sl 1 0 ((p1.Nodes.length:Int).toNat) ((p1.Nodes.length:Int).toNat)] 28),(1,.row (List.map (cL (cI .i64)) (List.replicate (p1.Nodes.length:Int).toNat [])).flatten 33),(0,.row [.iM q01 p1.Nodes] 24)],5⟩) rfl (qeq.bslv (cs:=(List.map (cI .i64) [0]).flatten) Tryz.tb_ok rfl und33 inf3 rfl rfl rfl rfl rfl rfl rfl rfl) rfl rfl ?_
 refine z54 (u:=.vl 5 0 0 (([[]]:List (List Int)).length)) (σ':=⟨[(5,.vec (List.map (cL (cI .i64)) ([[]]:List (List Int))).flatten 33 1 0),(4,.vec (List.map (cI .i64) ([0])).flatten 3 1 0),(3,.row (List.map cB ((List.replicate (r3.length:Int).toNat false).set (0:Int).toNat true)).flatten 4),(2,.row [.sl 1 0 ((p1.Nodes.length:Int).toNat) ((p1.Nodes.length:Int).toNat)] 28),(1,.row (List.map (cL (cI .i64)) (List.replicate (p1.Nodes.length:Int).toNat [])).flatten 33),(0,.row [.iM q01 p1.Nodes] 24)],6⟩) rfl (qeq.bslw (cs0:=[.nils]) (cs:=(List.map (cL (cI .i64)) ([[]]:List (List Int))).flatten) Tryz.tb_ok rfl und28 inf33 rfl rfl rfl rfl rfl (.cons (.nil false) .nil) rfl rfl rfl) rfl rfl ?_
 refine go ?_
 refine gS (l':=[(0,_),(1,_),(3,_),(4,_),(5,_),(6,_)]) ?_
 refine z4g (fun m tm σ=>∃ z17:Int,∃ l18:List (List Int),∃ t19:Nat,∃ l20:List Int,∃ t21:Nat,∃ l22:List Bool,∃ l23:List (List Int),q3s p1 n r3 m z17 l18 l20 l22 l23=some r∧tm=fr 76 [(0,.fn (.yield ly1) [] []),(1,.iptr [.iM q01 r3]),(3,.sl 3 0 ((r3.length:Int).toNat) ((r3.length:Int).toNat)),(4,.vl 4 t21 0 l20.length),(5,.vl 5 t19 0 l18.length),(6,.i6 z17)]∧σ=⟨[(5,.vec (List.map (cL (cI .i64)) l18).flatten 33 1 t19),(4,.vec (List.map (cI .i64) l20).flatten 3 1 t21),(3,.row (List.map cB l22).flatten 4),(2,.row [.sl 1 0 ((p1.Nodes.length:Int).toNat) ((p1.Nodes.length:Int).toNat)] 28),(1,.row (List.map (cL (cI .i64)) l23).flatten 33),(0,.row [.iM q01 p1.Nodes] 24)],6⟩) (fun tm σ=>∃ l24:List (List Int),∃ t25:Nat,∃ l26:List Int,∃ t27:Nat,∃ l28:List Bool,∃ l29:List (List Int),qdg p1 l24 l26 l28 l29=some r∧tm=fr 76 []∧σ=⟨[(5,.vec (List.map (cL (cI .i64)) l24).flatten 33 1 t25),(4,.vec (List.map (cI .i64) l26).flatten 3 1 t27),(3,.row (List.map cB l28).flatten 4),(2,.row [.sl 1 0 ((p1.Nodes.length:Int).toNat) ((p1.Nodes.length:Int).toNat)] 28),(1,.row (List.map (cL (cI .i64)) l29).flatten 33),(0,.row [.iM q01 p1.Nodes] 24)],6⟩) n ⟨0,([[]]:List (List Int)),0,[0],0,((List.replicate (r3.length:Int).toNat false).set (0:Int).toNat true),(List.replicate (p1.Nodes.length:Int).toNat []),hF,rfl,rfl⟩ ?_ ?_
 rintro _ _ ⟨l24,t25,l26,t27,l28,l29,hF,rfl,rfl⟩
 unfold qdg at hF
 refine gn ?_
 refine ⟨.inl rfl,?_⟩
 refine go ?_
 refine RS.q rfl (q0i und28 rfl rfl rfl rfl) ?_
 obtain ⟨h30,hF⟩:=q0b hF
 refine go ?_
 obtain rfl:=sI hF
 exact ⟨.inr rfl,[.sl 1 0 ((p1.Nodes.length:Int).toNat) ((p1.Nodes.length:Int).toNat)],q2o rfl (q2g),.iM (cL (cI .i64)) l29,⟨[],0⟩,Nat.le_refl _,Gh.trans (Gh.fz (tm':=[.iM (cL (cI .i64)) l29]) (h':=[(5,.vec (List.map (cL (cI .i64)) l24).flatten 33 1 t25),(4,.vec (List.map (cI .i64) l26).flatten 3 1 t27),(3,.row (List.map cB l28).flatten 4),(2,.row [.iM (cL (cI .i64)) l29] 28),(0,.row [.iM q01 p1.Nodes] 24)]) 1 (.row (List.map (cL (cI .i64)) l29).flatten 33) 1 rfl (by simp) (by simp only [qkl,qbm,q68,qi2,qew,qi4,qd3,qez,qey,qex,qd2,qi3,qkh,qi1,qi5,qni,qkx,qxd (q4h (cI .i64)) h30,q3n _ _ _ (q4b 1 (fun q=>qwc _ (fun q=>qck _ .i64 q) q) l24),q3n _ _ _ (q4b 1 (fun q=>qck _ .i64 q) l26),q3n _ _ _ (q4b 1 (fun q=>qwb _ q) l28)]) (by simp only [fzH,fzB,ug,Nat.beq,cond_true,cond_false,qkl,qbm,q68,qi2,qew,qi4,qd3,qez,qey,qex,qd2,qi3,qkh,qi1,qi5,qni,qkx,qxd (q4h (cI .i64)) h30,q3n _ _ _ (q4b 1 (fun q=>qwc _ (fun q=>qck _ .i64 q) q) l24),q3n _ _ _ (q4b 1 (fun q=>qck _ .i64 q) l26),q3n _ _ _ (q4b 1 (fun q=>qwb _ q) l28)])) (z4p (.iM (cL (cI .i64)) l29) rfl),rfl,BU.h⟩
 rintro (_|m2) _ _ ⟨z17,l18,t19,l20,t21,l22,l23,hF,rfl,rfl⟩
 cases hF
 unfold q3s at hF
 refine go ?_
 refine RS.q rfl (q0c rfl rfl rfl (q6o und33 rfl)) ?_
 refine go ?_
 refine cF hF (fun h31 hF=>?_) (fun h31 hF=>?_)
 refine go ?_
 refine WPU.block ?_
 obtain ⟨x32,h33,hF⟩:=q00 hF
 obtain ⟨x34,h35,hF⟩:=q00 hF
 refine go ?_
 refine WPU.drawS Tryz.tb_ok 9 (by kernel_rfl) rfl (by kernel_rfl) ?_
 repeat refine RD.mv rfl rfl rfl rfl ?_
 refine RD.q rfl (q0f rfl rfl (q90 (cI .i64) und33 (q03 inf3) (by decide) (q18 .i64) (vo rfl) h33)) ?_
 refine RD.q rfl (q60 (cI .i64) (fun x=>.i6 x) und3 rfl (fun _=>rfl) rfl rfl h33) ?_
 repeat refine RD.mv rfl rfl rfl rfl ?_
 refine RD.q rfl (q0f rfl rfl (q90 (cL (cI .i64)) und28 (q03 inf33) (by decide) (q4h (cI .i64)) (vo rfl) h35)) ?_
 refine RD.q rfl (q60 (cL (cI .i64)) (fun x=>.iM (cI .i64) x) und33 rfl (fun _=>rfl) rfl rfl h35) ?_
 refine RD.done ⟨by kernel_rfl,?_⟩
 refine RS.yield (tmx:=fr 19 [(3,.ptr 2 0 0),(11,.fn (.func 69) [] [.iptr [.iM q01 r3]]),(12,.i6 x32),(13,.iM (cI .i64) x34)]) rfl rfl rfl rfl rfl rfl rfl rfl (setP2 rfl rfl) rfl rfl ?_
 refine gr ?_
 refine gr ?_
 refine z4h (fun tm σ=>qdi n r3 z17 l18 l20 l22 l23 (q3s p1 n r3 m2) x32 x34=some r∧tm=fr 19 []∧σ=⟨[(5,.vec (List.map (cL (cI .i64)) l18).flatten 33 1 t19),(4,.vec (List.map (cI .i64) l20).flatten 3 1 t21),(3,.row (List.map cB l22).flatten 4),(2,.row [.sl 1 0 ((p1.Nodes.length:Int).toNat) ((p1.Nodes.length:Int).toNat)] 28),(1,.row (List.map (cL (cI .i64)) (l23.set x32.toNat x34)).flatten 33),(0,.row [.iM q01 p1.Nodes] 24)],6⟩) ?_ ?_
 rintro _ _ ⟨hF,rfl,rfl⟩
 unfold qdi at hF
 refine ⟨rfl,?_⟩
 refine go ?_
 refine z4v (t:=false) rfl (fun hc=>by cases hc) (fun _=>?_)
 obtain ⟨x36,h37,hF⟩:=q00 hF
 obtain ⟨x38,h39,hF⟩:=q00 hF
 refine go ?_
 refine z4i Tryz.tb_ok [] (by kernel_rfl) ?_
 refine RD.q rfl (q1o und24 rfl (q03 inf22) rfl rfl) (RD.q rfl (q0d und22 rfl rfl rfl) ?_)
 repeat refine RD.mv rfl rfl rfl rfl ?_
 refine RD.q rfl (q0f rfl rfl (q90 (cI .i64) und33 (q03 inf3) (by decide) (q18 .i64) (vo rfl) h37)) ?_
 refine RD.q rfl (q60 (cI .i64) (fun x=>.i6 x) und3 rfl (fun _=>rfl) rfl rfl h37) (RD.q rfl (q0f rfl rfl (q0a q01 und22 (q03 inf54) q1b h39 rfl)) (RD.q rfl (q1o und54 rfl (q03 inf52) rfl rfl) (RD.q rfl (q0d und52 rfl rfl rfl) (RD.q rfl (q0c rfl rfl rfl (q08 q05 und52)) (RD.mv rfl rfl rfl rfl ?_)))))
 refine RD.done ⟨by kernel_rfl,trivial,?_⟩
 refine go ?_
 refine gS (l':=[(0,_),(1,_),(3,_),(4,_),(5,_),(6,_),(42,_),(43,_),(44,_)]) ?_
 refine z4g (fun m tm σ=>∃ z51:Int,∃ l52:List (List Int),∃ t53:Nat,∃ l54:List Int,∃ t55:Nat,∃ l56:List Bool,q5j n r3 z17 l23 (q3s p1 n r3 m2) x32 x34 x38 m z51 l52 l54 l56=some r∧tm=fr 76 [(0,.fn (.yield ly1) [] []),(1,.iptr [.iM q01 r3]),(3,.sl 3 0 ((r3.length:Int).toNat) ((r3.length:Int).toNat)),(4,.vl 4 t55 0 l54.length),(5,.vl 5 t53 0 l52.length),(6,.i6 z17),(42,.iM q05 x38.Arcs),(43,.i6 (x38.Arcs.length:Int)),(44,.i6 z51)]∧σ=⟨[(5,.vec (List.map (cL (cI .i64)) l52).flatten 33 1 t53),(4,.vec (List.map (cI .i64) l54).flatten 3 1 t55),(3,.row (List.map cB l56).flatten 4),(2,.row [.sl 1 0 ((p1.Nodes.length:Int).toNat) ((p1.Nodes.length:Int).toNat)] 28),(1,.row (List.map (cL (cI .i64)) (l23.set x32.toNat x34)).flatten 33),(0,.row [.iM q01 p1.Nodes] 24)],6⟩) (fun tm σ=>∃ l57:List (List Int),∃ t58:Nat,∃ l59:List Int,∃ t60:Nat,∃ l61:List Bool,qdh z17 l23 (q3s p1 n r3 m2) x32 x34 l57 l59 l61=some r∧tm=fr 76 [(0,.fn (.yield ly1) [] []),(1,.iptr [.iM q01 r3]),(3,.sl 3 0 ((r3.length:Int).toNat) ((r3.length:Int).toNat)),(4,.vl 4 t60 0 l59.length),(5,.vl 5 t58 0 l57.length),(6,.i6 z17)]∧σ=⟨[(5,.vec (List.map (cL (cI .i64)) l57).flatten 33 1 t58),(4,.vec (List.map (cI .i64) l59).flatten 3 1 t60),(3,.row (List.map cB l61).flatten 4),(2,.row [.sl 1 0 ((p1.Nodes.length:Int).toNat) ((p1.Nodes.length:Int).toNat)] 28),(1,.row (List.map (cL (cI .i64)) (l23.set x32.toNat x34)).flatten 33),(0,.row [.iM q01 p1.Nodes] 24)],6⟩) n ⟨0,l18,t19,l20,t21,l22,hF,rfl,rfl⟩ ?_ ?_
 rintro _ _ ⟨l57,t58,l59,t60,l61,hF,rfl,rfl⟩
 unfold qdh at hF
 refine go ?_
 exact lC ⟨_,l57,t58,l59,t60,l61,(l23.set x32.toNat x34),hF,rfl,rfl⟩
 rintro (_|m4) _ _ ⟨z51,l52,t53,l54,t55,l56,hF,rfl,rfl⟩
 cases hF
 unfold q5j at hF
 refine go ?_
 refine cF hF (fun h62 hF=>?_) (fun h62 hF=>?_)
 refine go ?_
 refine WPU.block ?_
 obtain ⟨x63,h64,hF⟩:=q00 hF
 refine go ?_
 refine RS.q rfl (q0f rfl rfl (q0a q05 und52 (q03 inf66) q0k h64 rfl)) (RS.q (u:=.agg (q05 x63)) rfl (qam und66 rfl (q03 inf66) rfl rfl) (RS.q (u:=.ptr 6 0 0) (σ':=⟨[(6,.row [.i6 0,.i6 0] 66),(5,.vec (List.map (cL (cI .i64)) l52).flatten 33 1 t53),(4,.vec (List.map (cI .i64) l54).flatten 3 1 t55),(3,.row (List.map cB l56).flatten 4),(2,.row [.sl 1 0 ((p1.Nodes.length:Int).toNat) ((p1.Nodes.length:Int).toNat)] 28),(1,.row (List.map (cL (cI .i64)) (l23.set x32.toNat x34)).flatten 33),(0,.row [.iM q01 p1.Nodes] 24)],7⟩) rfl (q0v inf66 rfl rfl) ?_))
 refine z4k (u:=.junk) (σ':=⟨[(6,.row (q05 x63) 66),(5,.vec (List.map (cL (cI .i64)) l52).flatten 33 1 t53),(4,.vec (List.map (cI .i64) l54).flatten 3 1 t55),(3,.row (List.map cB l56).flatten 4),(2,.row [.sl 1 0 ((p1.Nodes.length:Int).toNat) ((p1.Nodes.length:Int).toNat)] 28),(1,.row (List.map (cL (cI .i64)) (l23.set x32.toNat x34)).flatten 33),(0,.row [.iM q01 p1.Nodes] 24)],7⟩) rfl (q0l (q03 inf66) rfl rfl rfl rfl rfl rfl rfl rfl) rfl ?_
 obtain ⟨x65,h66,hF⟩:=q00 hF
 refine go ?_
 refine RS.q rfl (q0w und66 rfl (q03 inf3) rfl rfl rfl) (RS.q rfl (q0i und3 rfl rfl rfl rfl) (RS.q rfl (q0f rfl rfl (qsf und75 (q03 inf4) rfl h66)) (RS.q (u:=.bool x65) rfl (z2c cB (fun x=>.bool x) und4 rfl (fun _=>rfl) rfl rfl h66) ?_)))
 refine gn ?_
 refine z4h (fun tm σ=>∃ l68:List (List Int),∃ t69:Nat,∃ l70:List Int,∃ t71:Nat,∃ l72:List Bool,q9r z51 (q5j n r3 z17 l23 (q3s p1 n r3 m2) x32 x34 x38 m4) l68 l70 l72=some r∧tm=fr 76 [(0,.fn (.yield ly1) [] []),(1,.iptr [.iM q01 r3]),(3,.sl 3 0 ((r3.length:Int).toNat) ((r3.length:Int).toNat)),(4,.vl 4 t71 0 l70.length),(5,.vl 5 t69 0 l68.length),(6,.i6 z17),(42,.iM q05 x38.Arcs),(43,.i6 (x38.Arcs.length:Int)),(44,.i6 z51)]∧σ=⟨[(6,.row (q05 x63) 66),(5,.vec (List.map (cL (cI .i64)) l68).flatten 33 1 t69),(4,.vec (List.map (cI .i64) l70).flatten 3 1 t71),(3,.row (List.map cB l72).flatten 4),(2,.row [.sl 1 0 ((p1.Nodes.length:Int).toNat) ((p1.Nodes.length:Int).toNat)] 28),(1,.row (List.map (cL (cI .i64)) (l23.set x32.toNat x34)).flatten 33),(0,.row [.iM q01 p1.Nodes] 24)],7⟩) ?_ ?_
 rintro _ _ ⟨l68,t69,l70,t71,l72,hF,rfl,rfl⟩
 unfold q9r at hF
 refine go ?_
 exact lC ⟨_,l68,t69,l70,t71,l72,hF,rfl,rfl⟩
 refine cF hF (fun h67 hF=>?_) (fun h67 hF=>?_)
 obtain ⟨x73,h74,hF⟩:=q00 hF
 refine go ?_
 refine RS.q rfl (q0w und66 rfl (q03 inf3) rfl rfl rfl) (RS.q rfl (q0i und3 rfl rfl rfl rfl) (RS.q rfl (q0f rfl rfl (qsf und75 (q03 inf4) rfl h74)) ?_))
 refine z4k (u:=.junk) (σ':=⟨[(6,.row (q05 x63) 66),(5,.vec (List.map (cL (cI .i64)) l52).flatten 33 1 t53),(4,.vec (List.map (cI .i64) l54).flatten 3 1 t55),(3,.row (List.map cB (l56.set x63.To.toNat true)).flatten 4),(2,.row [.sl 1 0 ((p1.Nodes.length:Int).toNat) ((p1.Nodes.length:Int).toNat)] 28),(1,.row (List.map (cL (cI .i64)) (l23.set x32.toNat x34)).flatten 33),(0,.row [.iM q01 p1.Nodes] 24)],7⟩) rfl (qz3 cB (q03 inf4) z2e rfl rfl rfl rfl rfl rfl h74 rfl) rfl ?_
 obtain ⟨h75,hF⟩:=q0b hF
 refine go ?_
 refine RS.q rfl (q0w und66 rfl (q03 inf3) rfl rfl rfl) (RS.q rfl (q0i und3 rfl rfl rfl rfl) (RS.q (u:=.sl 7 0 1 1) (σ':=⟨[(7,.row [.i6 x63.To] 3),(6,.row (q05 x63) 66),(5,.vec (List.map (cL (cI .i64)) l52).flatten 33 1 t53),(4,.vec (List.map (cI .i64) l54).flatten 3 1 t55),(3,.row (List.map cB (l56.set x63.To.toNat true)).flatten 4),(2,.row [.sl 1 0 ((p1.Nodes.length:Int).toNat) ((p1.Nodes.length:Int).toNat)] 28),(1,.row (List.map (cL (cI .i64)) (l23.set x32.toNat x34)).flatten 33),(0,.row [.iM q01 p1.Nodes] 24)],8⟩) rfl (q0j und33 inf3 rfl rfl rfl rfl rfl rfl rfl) (RS.q (u:=.vl 4 (t55+1) 0 ((l54++[x63.To]).length)) (σ':=⟨[(7,.row [.i6 x63.To] 3),(6,.row (q05 x63) 66),(5,.vec (List.map (cL (cI .i64)) l52).flatten 33 1 t53),(4,.vec (List.map (cI .i64) (l54++[x63.To])).flatten 3 1 (t55+1)),(3,.row (List.map cB (l56.set x63.To.toNat true)).flatten 4),(2,.row [.sl 1 0 ((p1.Nodes.length:Int).toNat) ((p1.Nodes.length:Int).toNat)] 28),(1,.row (List.map (cL (cI .i64)) (l23.set x32.toNat x34)).flatten 33),(0,.row [.iM q01 p1.Nodes] 24)],8⟩) rfl (q1u rfl rfl rfl rfl (q2a (cI .i64) ([x63.To]) und33 und33 inf3 rfl (q18 .i64) rfl (q1q (cI .i64) [x63.To] rfl rfl rfl rfl) h75)) ?_)))
 obtain ⟨x76,h77,hF⟩:=q00 hF
 obtain ⟨r78,h79,hF⟩:=q00 hF
 obtain ⟨h80,hF⟩:=q0b hF
 obtain ⟨h81,hF⟩:=q0b hF
 refine go ?_
 refine z4i Tryz.tb_ok [(0,5),(0,9),(0,10),(6,5),(7,5)] (by kernel_rfl) ?_
 repeat refine RD.mv rfl rfl rfl rfl ?_
 refine RD.q rfl (q0f rfl rfl (q90 (cL (cI .i64)) und28 (q03 inf33) (by decide) (q4h (cI .i64)) (vo rfl) h77)) ?_
 refine RD.q rfl (q60 (cL (cI .i64)) (fun x=>.iM (cI .i64) x) und33 rfl (fun _=>rfl) rfl rfl h77) (RD.callm (u:=.vl 9 0 0 r78.length) (σ1:=⟨[(9,.vec (List.map (cI .i64) r78).flatten 3 1 0),(7,.row [.i6 x63.To] 3),(6,.row (q05 x63) 66),(5,.vec (List.map (cL (cI .i64)) l52).flatten 33 1 t53),(4,.vec (List.map (cI .i64) (l54++[x63.To])).flatten 3 1 (t55+1)),(3,.row (List.map cB (l56.set x63.To.toNat true)).flatten 4),(2,.row [.sl 1 0 ((p1.Nodes.length:Int).toNat) ((p1.Nodes.length:Int).toNat)] 28),(1,.row (List.map (cL (cI .i64)) (l23.set x32.toNat x34)).flatten 33),(0,.row [.iM q01 p1.Nodes] 24)],10⟩) (args:=[.iM (cI .i64) x76]) rfl (q50 rfl rfl fn48 hb48 rfl rfl) (z57 (cI .i64) (qbg n x76 r78 h79) _ 9 rfl) rfl rfl (RD.q rfl (q0w und66 rfl (q03 inf3) rfl rfl rfl) (RD.q rfl (q0i und3 rfl rfl rfl rfl) (RD.freeO (u:=.iM (cI .i64) ([x63.Feat])) rfl (qer.bs (cs:=[.i6 x63.Feat]) und33 inf3 rfl rfl rfl rfl rfl rfl rfl rfl rfl) rfl rfl (RD.fz (u:=.iM (cI .i64) (r78++[x63.Feat])) (u1:=.vl 9 1 0 ((r78++[x63.Feat]).length)) (s1:=⟨[(9,.vec (List.map (cI .i64) (r78++[x63.Feat])).flatten 3 1 1),(7,.row [.i6 x63.To] 3),(6,.row (q05 x63) 66),(5,.vec (List.map (cL (cI .i64)) l52).flatten 33 1 t53),(4,.vec (List.map (cI .i64) (l54++[x63.To])).flatten 3 1 (t55+1)),(3,.row (List.map cB (l56.set x63.To.toNat true)).flatten 4),(2,.row [.sl 1 0 ((p1.Nodes.length:Int).toNat) ((p1.Nodes.length:Int).toNat)] 28),(1,.row (List.map (cL (cI .i64)) (l23.set x32.toNat x34)).flatten 33),(0,.row [.iM q01 p1.Nodes] 24)],10⟩) (σ':=⟨[(7,.row [.i6 x63.To] 3),(6,.row (q05 x63) 66),(5,.vec (List.map (cL (cI .i64)) l52).flatten 33 1 t53),(4,.vec (List.map (cI .i64) (l54++[x63.To])).flatten 3 1 (t55+1)),(3,.row (List.map cB (l56.set x63.To.toNat true)).flatten 4),(2,.row [.sl 1 0 ((p1.Nodes.length:Int).toNat) ((p1.Nodes.length:Int).toNat)] 28),(1,.row (List.map (cL (cI .i64)) (l23.set x32.toNat x34)).flatten 33),(0,.row [.iM q01 p1.Nodes] 24)],10⟩) rfl (q1u rfl rfl rfl rfl (q2a (cI .i64) ([x63.Feat]) und33 und33 inf3 rfl (q18 .i64) rfl (qhl (cI .i64) (q18 .i64)) h80)) (z4j 9 1) (Nat.le_refl _) rfl rfl (RD.act (u:=.sl 10 0 1 1) (σ':=⟨[(10,.row [.iM (cI .i64) (r78++[x63.Feat])] 33),(7,.row [.i6 x63.To] 3),(6,.row (q05 x63) 66),(5,.vec (List.map (cL (cI .i64)) l52).flatten 33 1 t53),(4,.vec (List.map (cI .i64) (l54++[x63.To])).flatten 3 1 (t55+1)),(3,.row (List.map cB (l56.set x63.To.toNat true)).flatten 4),(2,.row [.sl 1 0 ((p1.Nodes.length:Int).toNat) ((p1.Nodes.length:Int).toNat)] 28),(1,.row (List.map (cL (cI .i64)) (l23.set x32.toNat x34)).flatten 33),(0,.row [.iM q01 p1.Nodes] 24)],11⟩) rfl (q0j und28 inf33 rfl rfl rfl rfl rfl rfl rfl) rfl rfl (RD.act (u:=.vl 5 (t53+1) 0 ((l52++[(r78++[x63.Feat])]).length)) (σ':=⟨[(10,.row [.iM (cI .i64) (r78++[x63.Feat])] 33),(7,.row [.i6 x63.To] 3),(6,.row (q05 x63) 66),(5,.vec (List.map (cL (cI .i64)) (l52++[(r78++[x63.Feat])])).flatten 33 1 (t53+1)),(4,.vec (List.map (cI .i64) (l54++[x63.To])).flatten 3 1 (t55+1)),(3,.row (List.map cB (l56.set x63.To.toNat true)).flatten 4),(2,.row [.sl 1 0 ((p1.Nodes.length:Int).toNat) ((p1.Nodes.length:Int).toNat)] 28),(1,.row (List.map (cL (cI .i64)) (l23.set x32.toNat x34)).flatten 33),(0,.row [.iM q01 p1.Nodes] 24)],11⟩) rfl (q1u rfl rfl rfl rfl (q2a (cL (cI .i64)) ([(r78++[x63.Feat])]) und28 und28 inf33 rfl (q4h (cI .i64)) rfl (q1q (cL (cI .i64)) [(r78++[x63.Feat])] rfl rfl rfl rfl) h81)) rfl rfl ?_)))))))
 refine RD.as rfl rfl rfl rfl ?_
 refine RD.done ⟨by kernel_rfl,⟨q27 rfl,⟨q27 rfl,⟨q27 rfl,⟨q0w und66 rfl (q03 inf3) rfl rfl rfl,⟨q0i und3 rfl rfl rfl rfl,trivial⟩⟩⟩⟩⟩,?_⟩
 refine go ?_
 exact xC ⟨(l52++[(r78++[x63.Feat])]),(t53+1),(l54++[x63.To]),(t55+1),(l56.set x63.To.toNat true),hF,rfl,rfl⟩
 refine go ?_
 exact xC ⟨l52,t53,l54,t55,l56,hF,rfl,rfl⟩
 refine go ?_
 exact xC ⟨l52,t53,l54,t55,l56,hF,rfl,rfl⟩
 refine go ?_
 refine WPU.block ?_
 obtain ⟨x82,h83,hF⟩:=q00 hF
 refine go ?_
 refine RS.q rfl (q0i und28 rfl rfl rfl rfl) ?_
 refine go ?_
 refine RS.q rfl (q0f rfl rfl (qsf und28 (q03 inf33) rfl h83)) ?_
 refine z4k (u:=.junk) (σ':=⟨[(5,.vec (List.map (cL (cI .i64)) l18).flatten 33 1 t19),(4,.vec (List.map (cI .i64) l20).flatten 3 1 t21),(3,.row (List.map cB l22).flatten 4),(2,.row [.sl 1 0 ((p1.Nodes.length:Int).toNat) ((p1.Nodes.length:Int).toNat)] 28),(1,.row (List.map (cL (cI .i64)) (l23.set x32.toNat x34)).flatten 33),(0,.row [.iM q01 p1.Nodes] 24)],6⟩) rfl (qz3 (cL (cI .i64)) (q03 inf33) (q4h (cI .i64)) rfl rfl rfl rfl rfl rfl h83 rfl) rfl ?_
 refine go ?_
 exact xC ⟨hF,rfl,rfl⟩
 refine go ?_
 exact xC ⟨l18,t19,l20,t21,l22,l23,hF,rfl,rfl⟩
def q6m   : Option (Bool) :=
 some true
def q4e (p1:List Int) (p2:List Int):Nat→Int→Option (Bool)
 | 0,_=>none
 | m1+1,z8 =>
  cond (decide (z8<(p1.length:Int)))
   (q04 (q15 p1 z8) fun x10 =>
   q04 (q15 p2 z8) fun x12 =>
   cond (x10 != x12)
    (some false)
    ((q4e p1 p2 m1) (IntKind.i64.wrap (z8+1))))
   (q6m)
def q9h (n:Nat) (p1:List Int) (p2:List Int):Option (Bool) :=
 cond ((p1.length:Int) != (p2.length:Int))
  (some false)
  (q4e p1 p2 n 0)
theorem qj4 (n:Nat) (p1:List Int) (p2:List Int) (r:Bool) (hF:q9h n p1 p2=some r):EvU Tryz.prog 49 [.isl false (List.map (cI .i64) p1),.isl false (List.map (cI .i64) p2)] ⟨[],0⟩ (fun u _=>u = .bool r∧Bel 0 u):=by
 unfold q9h at hF
 refine bg2 26 fn49 ?_
 refine go ?_
 refine RS.q rfl (q0c rfl rfl rfl (q08 (cI .i64) und33)) ?_
 refine go ?_
 refine RS.q rfl (q0c rfl rfl rfl (q08 (cI .i64) und33)) ?_
 refine go ?_
 refine cF hF (fun h3 hF=>?_) (fun h3 hF=>?_)
 exact gx hF
 refine go ?_
 refine RS.q rfl (q0c rfl rfl rfl (q08 (cI .i64) und33)) ?_
 refine go ?_
 refine gS (l':=[(0,_),(1,_),(12,_),(13,_)]) ?_
 refine z4g (fun m tm σ=>∃ z8:Int,q4e p1 p2 m z8=some r∧tm=fr 26 [(0,.iM (cI .i64) p1),(1,.iM (cI .i64) p2),(12,.i6 (p1.length:Int)),(13,.i6 z8)]∧σ=⟨[],0⟩) (fun tm σ=>q6m=some r∧tm=fr 26 []∧σ=⟨[],0⟩) n ⟨0,hF,rfl,rfl⟩ ?_ ?_
 rintro _ _ ⟨hF,rfl,rfl⟩
 unfold q6m at hF
 exact gx hF
 rintro (_|m1) _ _ ⟨z8,hF,rfl,rfl⟩
 cases hF
 unfold q4e at hF
 refine go ?_
 refine cF hF (fun h9 hF=>?_) (fun h9 hF=>?_)
 refine go ?_
 refine WPU.block ?_
 obtain ⟨x10,h11,hF⟩:=q00 hF
 obtain ⟨x12,h13,hF⟩:=q00 hF
 refine go ?_
 refine z4i Tryz.tb_ok [] (by kernel_rfl) ?_
 repeat refine RD.mv rfl rfl rfl rfl ?_
 refine RD.q rfl (q0f rfl rfl (q0a (cI .i64) und33 (q03 inf3) (q18 .i64) h11 rfl)) (RD.q rfl (q0d und3 rfl rfl rfl) ?_)
 repeat refine RD.mv rfl rfl rfl rfl ?_
 refine RD.q rfl (q0f rfl rfl (q0a (cI .i64) und33 (q03 inf3) (q18 .i64) h13 rfl)) (RD.q rfl (q0d und3 rfl rfl rfl) (RD.q rfl (q3b rfl rfl (qqs _ _ _) rfl) ?_))
 refine RD.done ⟨by kernel_rfl,trivial,?_⟩
 refine go ?_
 refine cF hF (fun h14 hF=>?_) (fun h14 hF=>?_)
 exact gx hF
 refine go ?_
 exact lC ⟨_,hF,rfl,rfl⟩
 refine go ?_
 exact xC ⟨hF,rfl,rfl⟩
def q84 (z32:Int) (rc2:Int→(List q0q)→Option ((List q0q))) (l50:List q0q):Option ((List q0q)) :=
 rc2 (IntKind.i64.wrap (z32+1)) l50
def qbp (z11:Int) (rc1:Int→(List q0q)→Option ((List q0q))) (l35:List q0q):Option ((List q0q)) :=
 rc1 (IntKind.i64.wrap (z11+1)) l35
def q4p (n:Nat) (r2:(List (List Int))) (z11:Int) (rc1:Int→(List q0q)→Option ((List q0q))) (x17:q0n):Nat→Int→(List q0q)→Option ((List q0q))
 | 0,_,_=>none
 | m2+1,z32,l33 =>
  cond (decide (z32<(x17.Arcs.length:Int)))
   (q04 (q15 x17.Arcs z32) fun x38 =>
   q04 (q15 r2 z11) fun x40 =>
   q04 (q6h n x40) fun r42 =>
   q1i ((r42.length+([x38.Feat]).length)*8≤140737488355328∧r42.length+([x38.Feat]).length≤140737488355328) (
   q04 (q15 r2 x38.To) fun x45 =>
   q04 (q9h n (r42++[x38.Feat]) x45) fun r47 =>
   cond (!r47)
    (q04 (q15 r2 x38.To) fun x52 =>
    q1i ((l33.length+1)*48≤140737488355328∧l33.length+1≤140737488355328) (
    q84 z32 (q4p n r2 z11 rc1 x17 m2) (l33++[(q0q.mk x52 (r42++[x38.Feat]))])))
    (q84 z32 (q4p n r2 z11 rc1 x17 m2) l33)))
   (qbp z11 rc1 l33)
def qbo  (l14:List q0q):Option ((List q0q)) :=
 some l14
def q3x (p1:GFS) (n:Nat) (r2:(List (List Int))):Nat→Int→(List q0q)→Option ((List q0q))
 | 0,_,_=>none
 | m1+1,z11,l12 =>
  cond (decide (z11<(p1.Nodes.length:Int)))
   (q04 (q15 p1.Nodes z11) fun x17 =>
   q4p n r2 z11 (q3x p1 n r2 m1) x17 n 0 l12)
   (qbo l12)
def qdm (n:Nat) (p1:GFS):Option ((List q0q)) :=
 q04 (qg0 n p1) fun r2 =>
 q3x p1 n r2 n 0 ([]:List q0q)
theorem qdn (n:Nat) (p1:GFS) (r:(List q0q)) (hF:qdm n p1=some r):EvU Tryz.prog 18 [.agg [.isl false (List.map q01 p1.Nodes)]] ⟨[],0⟩ (fun u _=>u = .isl false (List.map q0r r)∧Bel 0 u):=by
 unfold qdm at hF
 refine bg1 57 fn18 ?_
 refine go ?_
 refine RS.q (u:=.ptr 0 0 0) (σ':=⟨[(0,.row [.iM q01 p1.Nodes] 24)],1⟩) rfl (q2p rfl rfl rfl) ?_
 obtain ⟨r2,h3,hF⟩:=q00 hF
 refine go ?_
 refine RS.q (u:=.agg [.iM q01 p1.Nodes]) rfl (q0p und24 rfl (q03 inf24) rfl rfl rfl) (RS.cl rfl (pC (qbd n p1 r2 h3) _) fn15 ?_)
 refine go ?_
 refine RS.q rfl (q0w und24 rfl (q03 inf22) rfl rfl rfl) (RS.q rfl (q0i und22 rfl rfl rfl rfl) (RS.q rfl (q0c rfl rfl rfl (q08 q01 und22)) ?_))
 refine gn ?_
 refine WPU.ghost (tm':=fr 57 [(3,.iM (cL (cI .i64)) r2),(4,.vl 1 0 0 (([]:List q0q).length)),(13,.iM q01 p1.Nodes),(14,.i6 (p1.Nodes.length:Int)),(15,.i6 0)]) (σ':=⟨[(1,.vec (List.map q0r ([]:List q0q)).flatten 56 2 0),(0,.row [.iM q01 p1.Nodes] 24)],2⟩) (Gh.trans (z4n 4 56 2 (by decide) NZ rfl rfl) (z4l ⟨rfl,rfl,rfl,rfl,rfl,trivial⟩ rfl)) NZ ?_
 refine gS (l':=[(3,_),(4,_),(13,_),(14,_),(15,_)]) ?_
 refine z4g (fun m tm σ=>∃ z11:Int,∃ l12:List q0q,∃ t13:Nat,q3x p1 n r2 m z11 l12=some r∧tm=fr 57 [(3,.iM (cL (cI .i64)) r2),(4,.vl 1 t13 0 l12.length),(13,.iM q01 p1.Nodes),(14,.i6 (p1.Nodes.length:Int)),(15,.i6 z11)]∧σ=⟨[(1,.vec (List.map q0r l12).flatten 56 2 t13),(0,.row [.iM q01 p1.Nodes] 24)],2⟩) (fun tm σ=>∃ l14:List q0q,∃ t15:Nat,qbo l14=some r∧tm=fr 57 [(4,.vl 1 t15 0 l14.length)]∧σ=⟨[(1,.vec (List.map q0r l14).flatten 56 2 t15),(0,.row [.iM q01 p1.Nodes] 24)],2⟩) n ⟨0,([]:List q0q),0,hF,rfl,rfl⟩ ?_ ?_
 rintro _ _ ⟨l14,t15,hF,rfl,rfl⟩
 unfold qbo at hF
 refine go ?_
 obtain rfl:=sI hF
 exact rT (us:=[.vl 1 t15 0 l14.length]) (u:=.iM q0r l14) (q2o rfl (q2g)) (fR 1 2)
 rintro (_|m1) _ _ ⟨z11,l12,t13,hF,rfl,rfl⟩
 cases hF
 unfold q3x at hF
 refine go ?_
 refine cF hF (fun h16 hF=>?_) (fun h16 hF=>?_)
 refine go ?_
 refine WPU.block ?_
 obtain ⟨x17,h18,hF⟩:=q00 hF
 refine go ?_
 refine RS.q rfl (q0f rfl rfl (q0a q01 und22 (q03 inf54) q1b h18 rfl)) (RS.q (u:=.agg (q01 x17)) rfl (qam und54 rfl (q03 inf54) rfl rfl) (RS.q (u:=.ptr 2 0 0) (σ':=⟨[(2,.row [.i6 0,.nils] 54),(1,.vec (List.map q0r l12).flatten 56 2 t13),(0,.row [.iM q01 p1.Nodes] 24)],3⟩) rfl (q0v inf54 rfl rfl) ?_))
 refine go ?_
 refine z4k (u:=.junk) (σ':=⟨[(2,.row (q01 x17) 54),(1,.vec (List.map q0r l12).flatten 56 2 t13),(0,.row [.iM q01 p1.Nodes] 24)],3⟩) rfl (q0l (q03 inf54) rfl rfl rfl rfl rfl rfl rfl rfl) rfl ?_
 refine go ?_
 refine RS.q rfl (q0w und54 rfl (q03 inf52) rfl rfl rfl) (RS.q rfl (q0i und52 rfl rfl rfl rfl) (RS.q rfl (q0c rfl rfl rfl (q08 q05 und52)) ?_))
 refine go ?_
 refine gS (l':=[(3,_),(4,_),(5,_),(13,_),(14,_),(15,_),(21,_),(22,_),(23,_)]) ?_
 refine z4g (fun m tm σ=>∃ z32:Int,∃ l33:List q0q,∃ t34:Nat,q4p n r2 z11 (q3x p1 n r2 m1) x17 m z32 l33=some r∧tm=fr 57 [(3,.iM (cL (cI .i64)) r2),(4,.vl 1 t34 0 l33.length),(5,.i6 z11),(13,.iM q01 p1.Nodes),(14,.i6 (p1.Nodes.length:Int)),(15,.i6 z11),(21,.iM q05 x17.Arcs),(22,.i6 (x17.Arcs.length:Int)),(23,.i6 z32)]∧σ=⟨[(2,.row (q01 x17) 54),(1,.vec (List.map q0r l33).flatten 56 2 t34),(0,.row [.iM q01 p1.Nodes] 24)],3⟩) (fun tm σ=>∃ l35:List q0q,∃ t36:Nat,qbp z11 (q3x p1 n r2 m1) l35=some r∧tm=fr 57 [(3,.iM (cL (cI .i64)) r2),(4,.vl 1 t36 0 l35.length),(13,.iM q01 p1.Nodes),(14,.i6 (p1.Nodes.length:Int)),(15,.i6 z11)]∧σ=⟨[(2,.row (q01 x17) 54),(1,.vec (List.map q0r l35).flatten 56 2 t36),(0,.row [.iM q01 p1.Nodes] 24)],3⟩) n ⟨0,l12,t13,hF,rfl,rfl⟩ ?_ ?_
 rintro _ _ ⟨l35,t36,hF,rfl,rfl⟩
 unfold qbp at hF
 refine go ?_
 exact lC ⟨_,l35,t36,hF,rfl,rfl⟩
 rintro (_|m2) _ _ ⟨z32,l33,t34,hF,rfl,rfl⟩
 cases hF
 unfold q4p at hF
 refine go ?_
 refine cF hF (fun h37 hF=>?_) (fun h37 hF=>?_)
 refine go ?_
 refine WPU.block ?_
 obtain ⟨x38,h39,hF⟩:=q00 hF
 refine go ?_
 refine RS.q rfl (q0f rfl rfl (q0a q05 und52 (q03 inf66) q0k h39 rfl)) (RS.q (u:=.agg (q05 x38)) rfl (qam und66 rfl (q03 inf66) rfl rfl) (RS.q (u:=.ptr 3 0 0) (σ':=⟨[(3,.row [.i6 0,.i6 0] 66),(2,.row (q01 x17) 54),(1,.vec (List.map q0r l33).flatten 56 2 t34),(0,.row [.iM q01 p1.Nodes] 24)],4⟩) rfl (q0v inf66 rfl rfl) ?_))
 refine z4k (u:=.junk) (σ':=⟨[(3,.row (q05 x38) 66),(2,.row (q01 x17) 54),(1,.vec (List.map q0r l33).flatten 56 2 t34),(0,.row [.iM q01 p1.Nodes] 24)],4⟩) rfl (q0l (q03 inf66) rfl rfl rfl rfl rfl rfl rfl rfl) rfl ?_
 obtain ⟨x40,h41,hF⟩:=q00 hF
 obtain ⟨r42,h43,hF⟩:=q00 hF
 obtain ⟨h44,hF⟩:=q0b hF
 refine go ?_
 refine z4i Tryz.tb_ok [(5,4),(6,4)] (by kernel_rfl) ?_
 repeat refine RD.mv rfl rfl rfl rfl ?_
 refine RD.q rfl (q0f rfl rfl (q0a (cL (cI .i64)) und28 (q03 inf33) (q4h (cI .i64)) h41 rfl)) (RD.q rfl (q0d und33 rfl rfl rfl) (RD.callm (u:=.vl 5 0 0 r42.length) (σ1:=⟨[(5,.vec (List.map (cI .i64) r42).flatten 3 1 0),(3,.row (q05 x38) 66),(2,.row (q01 x17) 54),(1,.vec (List.map q0r l33).flatten 56 2 t34),(0,.row [.iM q01 p1.Nodes] 24)],6⟩) (args:=[.iM (cI .i64) x40]) rfl (q50 rfl rfl fn48 hb48 rfl rfl) (z57 (cI .i64) (qbg n x40 r42 h43) _ 5 rfl) rfl rfl (RD.q rfl (q0w und66 rfl (q03 inf3) rfl rfl rfl) (RD.q rfl (q0i und3 rfl rfl rfl rfl) (RD.freeO (u:=.iM (cI .i64) ([x38.Feat])) rfl (qer.bs (cs:=[.i6 x38.Feat]) und33 inf3 rfl rfl rfl rfl rfl rfl rfl rfl rfl) rfl rfl (RD.act (u:=.vl 5 1 0 ((r42++[x38.Feat]).length)) (σ':=⟨[(5,.vec (List.map (cI .i64) (r42++[x38.Feat])).flatten 3 1 1),(3,.row (q05 x38) 66),(2,.row (q01 x17) 54),(1,.vec (List.map q0r l33).flatten 56 2 t34),(0,.row [.iM q01 p1.Nodes] 24)],6⟩) rfl (q1u rfl rfl rfl rfl (q2a (cI .i64) ([x38.Feat]) und33 und33 inf3 rfl (q18 .i64) rfl (qhl (cI .i64) (q18 .i64)) h44)) rfl rfl (RD.as rfl rfl rfl rfl ?_)))))))
 refine RD.done ⟨by kernel_rfl,⟨q0w und66 rfl (q03 inf3) rfl rfl rfl,⟨q0i und3 rfl rfl rfl rfl,trivial⟩⟩,?_⟩
 obtain ⟨x45,h46,hF⟩:=q00 hF
 obtain ⟨r47,h48,hF⟩:=q00 hF
 refine go ?_
 refine RS.q rfl (q0w und66 rfl (q03 inf3) rfl rfl rfl) (RS.q rfl (q0i und3 rfl rfl rfl rfl) (RS.q rfl (q0f rfl rfl (q0a (cL (cI .i64)) und28 (q03 inf33) (q4h (cI .i64)) h46 rfl)) (RS.q rfl (q0d und33 rfl rfl rfl) (RS.cl rfl (vw (qj4 n (r42++[x38.Feat]) x45 r47 h48) (z4j 5 1)) fn49 ?_))))
 refine gn ?_
 refine z4h (fun tm σ=>∃ l50:List q0q,∃ t51:Nat,q84 z32 (q4p n r2 z11 (q3x p1 n r2 m1) x17 m2) l50=some r∧tm=fr 57 [(3,.iM (cL (cI .i64)) r2),(4,.vl 1 t51 0 l50.length),(5,.i6 z11),(13,.iM q01 p1.Nodes),(14,.i6 (p1.Nodes.length:Int)),(15,.i6 z11),(21,.iM q05 x17.Arcs),(22,.i6 (x17.Arcs.length:Int)),(23,.i6 z32)]∧σ=⟨[(3,.row (q05 x38) 66),(2,.row (q01 x17) 54),(1,.vec (List.map q0r l50).flatten 56 2 t51),(0,.row [.iM q01 p1.Nodes] 24)],6⟩) ?_ ?_
 rintro _ _ ⟨l50,t51,hF,rfl,rfl⟩
 unfold q84 at hF
 refine go ?_
 exact lC ⟨_,l50,t51,hF,rfl,rfl⟩
 refine cF hF (fun h49 hF=>?_) (fun h49 hF=>?_)
 refine gn ?_
 refine WPU.ghost (tm':=fr 57 [(3,.iM (cL (cI .i64)) r2),(4,.vl 1 t34 0 l33.length),(5,.i6 z11),(8,.ptr 3 0 0),(9,.iM (cI .i64) (r42++[x38.Feat])),(13,.iM q01 p1.Nodes),(14,.i6 (p1.Nodes.length:Int)),(15,.i6 z11),(21,.iM q05 x17.Arcs),(22,.i6 (x17.Arcs.length:Int)),(23,.i6 z32)]) (σ':=⟨[(3,.row (q05 x38) 66),(2,.row (q01 x17) 54),(1,.vec (List.map q0r l33).flatten 56 2 t34),(0,.row [.iM q01 p1.Nodes] 24)],6⟩) (Gh.trans (Gh.sub (l':=[(3,.iM (cL (cI .i64)) r2),(4,.vl 1 t34 0 l33.length),(5,.i6 z11),(8,.ptr 3 0 0),(9,.vl 5 1 0 ((r42++[x38.Feat]).length)),(13,.iM q01 p1.Nodes),(14,.i6 (p1.Nodes.length:Int)),(15,.i6 z11),(21,.iM q05 x17.Arcs),(22,.i6 (x17.Arcs.length:Int)),(23,.i6 z32)]) ⟨rfl,rfl,rfl,rfl,rfl,rfl,rfl,rfl,rfl,rfl,rfl,trivial⟩) (z4z 5 1)) NZ ?_
 obtain ⟨x52,h53,hF⟩:=q00 hF
 obtain ⟨h54,hF⟩:=q0b hF
 refine go ?_
 refine RS.q rfl (q0w und66 rfl (q03 inf3) rfl rfl rfl) (RS.q rfl (q0i und3 rfl rfl rfl rfl) (RS.q rfl (q0f rfl rfl (q0a (cL (cI .i64)) und28 (q03 inf33) (q4h (cI .i64)) h53 rfl)) (RS.q rfl (q0d und33 rfl rfl rfl) ?_)))
 refine go ?_
 refine RS.q (u:=.agg [.iM (cI .i64) x52,.iM (cI .i64) (r42++[x38.Feat])]) rfl (q3l bd56 rfl rfl rfl) (RS.q (u:=.sl 6 0 1 1) (σ':=⟨[(6,.row [.iM (cI .i64) x52,.iM (cI .i64) (r42++[x38.Feat])] 56),(3,.row (q05 x38) 66),(2,.row (q01 x17) 54),(1,.vec (List.map q0r l33).flatten 56 2 t34),(0,.row [.iM q01 p1.Nodes] 24)],7⟩) rfl (q0j und31 inf56 rfl rfl rfl rfl rfl rfl rfl) (RS.q (u:=.vl 1 (t34+1) 0 ((l33++[(q0q.mk x52 (r42++[x38.Feat]))]).length)) (σ':=⟨[(6,.row [.iM (cI .i64) x52,.iM (cI .i64) (r42++[x38.Feat])] 56),(3,.row (q05 x38) 66),(2,.row (q01 x17) 54),(1,.vec (List.map q0r (l33++[(q0q.mk x52 (r42++[x38.Feat]))])).flatten 56 2 (t34+1)),(0,.row [.iM q01 p1.Nodes] 24)],7⟩) rfl (q1u rfl rfl rfl rfl (q2a q0r ([(q0q.mk x52 (r42++[x38.Feat]))]) und31 und31 inf56 rfl q3r rfl (q1q q0r [(q0q.mk x52 (r42++[x38.Feat]))] rfl rfl rfl rfl) h54)) ?_))
 refine go ?_
 exact xC ⟨(l33++[(q0q.mk x52 (r42++[x38.Feat]))]),(t34+1),hF,rfl,rfl⟩
 refine go ?_
 exact ⟨_,_,⟨l33,t34,hF,rfl,rfl⟩,NZ,Gh.trans (z4y (fun k=>!(Nat.beq k 5))) (Gh.toC (n1:=6) ⟨rfl,rfl,rfl,rfl,rfl,rfl,rfl,rfl,rfl,trivial⟩ rfl NZ (by simp))⟩
 refine go ?_
 exact xC ⟨l33,t34,hF,rfl,rfl⟩
 refine go ?_
 exact xC ⟨l12,t13,hF,rfl,rfl⟩
def qdq (z22:Int) (l23:List q0n) (rc2:Int→(List q0n)→Option (GFS)) (x28:q0n) (l48:List q0s):Option (GFS) :=
 q1i ((l23.length+1)*32≤140737488355328∧l23.length+1≤140737488355328) (
 rc2 (IntKind.i64.wrap (z22+1)) (l23++[(q0n.mk x28.Typex l48)]))
def q9w (p1:List Int) (z22:Int) (l23:List q0n) (rc2:Int→(List q0n)→Option (GFS)) (x28:q0n):Nat→Int→(List q0s)→Option (GFS)
 | 0,_,_=>none
 | m3+1,z45,l46 =>
  cond (decide (z45<(x28.Arcs.length:Int)))
   (q04 (q15 x28.Arcs z45) fun x52 =>
   q1i ((l46.length+1)*16≤140737488355328∧l46.length+1≤140737488355328) (
   (q9w p1 z22 l23 rc2 x28 m3) (IntKind.i64.wrap (z45+1)) (l46++[(q0s.mk x52.Feat (IntKind.i64.wrap (x52.To+(p1.length:Int))))])))
   (qdq z22 l23 rc2 x28 l46)
def qdp  (l25:List q0n):Option (GFS) :=
 some (GFS.mk l25)
def q5k (p1:List Int) (p2:GFS) (n:Nat):Nat→Int→(List q0n)→Option (GFS)
 | 0,_,_=>none
 | m2+1,z22,l23 =>
  cond (decide (z22<(p2.Nodes.length:Int)))
   (q04 (q15 p2.Nodes z22) fun x28 =>
   q9w p1 z22 l23 (q5k p1 p2 n m2) x28 n 0 ([]:List q0s))
   (qdp l23)
def qdo (p1:List Int) (p2:GFS) (n:Nat) (l13:List q0n):Option (GFS) :=
 q5k p1 p2 n n 0 l13
def q9v (p1:List Int) (p2:GFS) (n:Nat):Nat→Int→(List q0n)→Option (GFS)
 | 0,_,_=>none
 | m1+1,z10,l11 =>
  cond (decide (z10<(p1.length:Int)))
   (q04 (q15 p1 z10) fun x56 =>
   q1i ((l11.length+1)*32≤140737488355328∧l11.length+1≤140737488355328) (
   (q9v p1 p2 n m1) (IntKind.i64.wrap (z10+1)) (l11++[(q0n.mk 0 ([(q0s.mk x56 (IntKind.i64.wrap (z10+1)))]))])))
   (qdo p1 p2 n l11)
def qju (n:Nat) (p1:List Int) (p2:GFS):Option (GFS) :=
 q9v p1 p2 n n 0 ([]:List q0n)
end Go.Proofs
end
