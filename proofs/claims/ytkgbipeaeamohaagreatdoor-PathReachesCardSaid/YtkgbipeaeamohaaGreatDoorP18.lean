/-
  Texts of the walk: H4.
-/
import Derived.Test.YtkgbipeaeamohaaGreatDoorP17
set_option linter.unusedSimpArgs false
set_option linter.unusedVariables false
section
namespace Go.Proofs
open Go Go.Rx Go.Vx Tryz
set_option maxRecDepth 20000
set_option maxHeartbeats 4000000
set_option synthInstance.maxSize 4000
set_option synthInstance.maxHeartbeats 200000
instance {a b:Int}:DeC q07 [.int .i64 a,.int .i64 b] (q0c.mk a b):=⟨rfl⟩
structure q0b where
 Typex:Int
 Arcs:List q0c
def q03 (x:q0b):List U:=[.int .i64 x.Typex,.isl false (List.map q07 x.Arcs)]
instance {a0:Int} {a1:List q0c}:DeC q03 [.int .i64 a0,.isl false (List.map q07 a1)] (q0b.mk a0 a1):=⟨rfl⟩
theorem qfd (n:Nat) (x:q0b):q1k n (q03 x):=by
 simp only [q03,q1k,Bel,true_and,and_true]
 exact q4l _ (fun q=>qhe _ q) _
theorem qfj (x:q0b):(q03 x).length=2:=rfl
instance:qni q03 2:=⟨qfj⟩
instance:BF q03:=⟨qfd⟩
instance (n:Nat) (x:q0b):BUL n (q03 x):=⟨qfd n x⟩
structure GFS where
 Nodes:List q0b
def cGFS (x:GFS):List U:=[.isl false (List.map q03 x.Nodes)]
structure q0g where
 A:List Int
 B:List Int
def q1h (x:q0g):List U:=[.isl false (List.map (cI .i64) x.A),.isl false (List.map (cI .i64) x.B)]
instance {a0:List Int} {a1:List Int}:DeC q1h [.isl false (List.map (cI .i64) a0),.isl false (List.map (cI .i64) a1)] (q0g.mk a0 a1):=⟨rfl⟩
theorem qoc (n:Nat) (x:q0g):q1k n (q1h x):=by
 simp only [q1h,q1k,Bel,true_and,and_true]
 exact ⟨q4l _ (fun q=>qc2 _ .i64 q) _,q4l _ (fun q=>qc2 _ .i64 q) _⟩
theorem qop (x:q0g):(q1h x).length=2:=rfl
instance:qni q1h 2:=⟨qop⟩
instance:BF q1h:=⟨qoc⟩
structure q0v where
 Feat:Int
 Value:Int
def q1o (x:q0v):List U:=[.int .i64 x.Feat,.int .i64 x.Value]
instance {a0:Int} {a1:Int}:DeC q1o [.int .i64 a0,.int .i64 a1] (q0v.mk a0 a1):=⟨rfl⟩
theorem qju (n:Nat) (x:q0v):q1k n (q1o x):=by
 simp only [q1o,q1k,Bel,true_and,and_true]
theorem qqk (x:q0v):(q1o x).length=2:=rfl
instance:qni q1o 2:=⟨qqk⟩
instance:BF q1o:=⟨qju⟩
structure qgc where
 Name:List UInt8
 Code:List Int
 Supers:List Int
 Feats:List q0v
def qef (x:qgc):List U:=[.str x.Name,.isl false (List.map (cI .u64) x.Code),.isl false (List.map (cI .i64) x.Supers),.isl false (List.map q1o x.Feats)]
instance {a0:List UInt8} {a1:List Int} {a2:List Int} {a3:List q0v}:DeC qef [.str a0,.isl false (List.map (cI .u64) a1),.isl false (List.map (cI .i64) a2),.isl false (List.map q1o a3)] (qgc.mk a0 a1 a2 a3):=⟨rfl⟩
theorem qnm (n:Nat) (x:qgc):q1k n (qef x):=by
 simp only [qef,q1k,Bel,true_and,and_true]
 exact ⟨q4l _ (fun q=>qc2 _ .u64 q) _,q4l _ (fun q=>qc2 _ .i64 q) _,q4l _ (fun q=>qju _ q) _⟩
theorem qve (x:qgc):(qef x).length=4:=rfl
instance:qni qef 4:=⟨qve⟩
instance:BF qef:=⟨qnm⟩
structure q1n where
 Name:List UInt8
 Intro:Int
def q2s (x:q1n):List U:=[.str x.Name,.int .i64 x.Intro]
instance {a0:List UInt8} {a1:Int}:DeC q2s [.str a0,.int .i64 a1] (q1n.mk a0 a1):=⟨rfl⟩
theorem qhf (n:Nat) (x:q1n):q1k n (q2s x):=by
 simp only [q2s,q1k,Bel,true_and,and_true]
theorem qoo (x:q1n):(q2s x).length=2:=rfl
instance:qni q2s 2:=⟨qoo⟩
instance:BF q2s:=⟨qhf⟩
def qc5 (x y:q1n):Bool:=(q1c x.Name y.Name&&(x.Intro == y.Intro))
structure q0q where
 Types:List qgc
 Feats:List q1n
def q0h (x:q0q):List U:=[.isl false (List.map qef x.Types),.isl false (List.map q2s x.Feats)]
theorem qld (n:Nat) (x:q0q):q1k n (q0h x):=by
 simp only [q0h,q1k,Bel,true_and,and_true]
 exact ⟨q4l _ (fun q=>qnm _ q) _,q4l _ (fun q=>qhf _ q) _⟩
theorem qlw (x:q0q):(q0h x).length=2:=rfl
instance:qni q0h 2:=⟨qlw⟩
instance (n:Nat) (x:q0q):BUL n (q0h x):=⟨qld n x⟩
structure q15 where
 Feat:List UInt8
 Value:List UInt8
def q0d (x:q15):List U:=[.str x.Feat,.str x.Value]
instance {a0:List UInt8} {a1:List UInt8}:DeC q0d [.str a0,.str a1] (q15.mk a0 a1):=⟨rfl⟩
theorem qg4 (n:Nat) (x:q15):q1k n (q0d x):=by
 simp only [q0d,q1k,Bel,true_and,and_true]
theorem qn2 (x:q15):(q0d x).length=2:=rfl
instance:qni q0d 2:=⟨qn2⟩
instance:BF q0d:=⟨qg4⟩
structure q04 where
 Name:List UInt8
 Supers:List (List UInt8)
 Feats:List q15
def q01 (x:q04):List U:=[.str x.Name,.isl false (List.map cS x.Supers),.isl false (List.map q0d x.Feats)]
theorem qg5 (n:Nat) (x:q04):q1k n (q01 x):=by
 simp only [q01,q1k,Bel,true_and,and_true]
 exact ⟨q4l _ (fun q=>z1v _ q) _,q4l _ (fun q=>qg4 _ q) _⟩
theorem qn3 (x:q04):(q01 x).length=3:=rfl
instance:qni q01 3:=⟨qn3⟩
instance:BF q01:=⟨qg5⟩
instance (n:Nat) (x:q04):BUL n (q01 x):=⟨qg5 n x⟩
structure q0o where
 Name:List UInt8
 Code:List Int
def q09 (x:q0o):List U:=[.str x.Name,.isl false (List.map (cI .u64) x.Code)]
instance {a0:List UInt8} {a1:List Int}:DeC q09 [.str a0,.isl false (List.map (cI .u64) a1)] (q0o.mk a0 a1):=⟨rfl⟩
theorem qlc (n:Nat) (x:q0o):q1k n (q09 x):=by
 simp only [q09,q1k,Bel,true_and,and_true]
 exact q4l _ (fun q=>qc2 _ .u64 q) _
theorem q4t (x:q0o):(q09 x).length=2:=rfl
instance:qni q09 2:=⟨q4t⟩
instance:BF q09:=⟨qlc⟩
instance (n:Nat) (x:q0o):BUL n (q09 x):=⟨qlc n x⟩
theorem Tryz.eqs82:Tryz.tb.eqs 82=true:=by kernel_rfl
theorem eqv82 (x y:q1n):eqv Tryz.tb 50 82 (.agg ⟨[.string ⟨⟨x.Name⟩⟩,.int .i64 x.Intro]⟩) (.agg ⟨[.string ⟨⟨y.Name⟩⟩,.int .i64 y.Intro]⟩)=some (qc5 x y):=by
 simp only [eqv,cond_true,cond_false,z3u,qj9,q40,nth,q0i,List.drop,List.take,List.toList_toArray,qc5,ne_eq,String.reduceEq,not_false_eq_true,if_true,un3.h,un9.h,un82.h,eqs82,if82.h]
 cases q1c x.Name y.Name<;>cases (x.Intro == y.Intro)<;>rfl
theorem qwp (x y:q1n):g2 (qmw Tryz.tb .eql 82) (.agg [.str x.Name,.int .i64 x.Intro]) (.agg [.str y.Name,.int .i64 y.Intro])=some (.bool (qc5 x y)):=by
 simp only [g2,toV,qng,okL,okC,cond_true,qmw,qa3,eqs82,eqv82,ofV]
instance Tryz.bd24:BdC Tryz.tb 24 [.nils] [(0,1)]:=⟨bdT un24.h if24.h rfl (by kernel_rfl)⟩
instance Tryz.bd43:BdC Tryz.tb 43 [.nils,.nils] [(0,1),(1,1)]:=⟨bdT un43.h if43.h rfl (by kernel_rfl)⟩
instance Tryz.bd54:BdC Tryz.tb 54 [.int .i64 0,.nils] [(0,1),(1,1)]:=⟨bdT un54.h if54.h rfl (by kernel_rfl)⟩
instance Tryz.bd56:BdC Tryz.tb 56 [.nils,.nils] [(0,1),(1,1)]:=⟨bdT un56.h if56.h rfl (by kernel_rfl)⟩
instance Tryz.bd66:BdC Tryz.tb 66 [.int .i64 0,.int .i64 0] [(0,1),(1,1)]:=⟨bdT un66.h if66.h rfl (by kernel_rfl)⟩
instance Tryz.bd82:BdC Tryz.tb 82 [.str [],.int .i64 0] [(0,1),(1,1)]:=⟨bdT un82.h if82.h rfl (by kernel_rfl)⟩
instance Tryz.bd105:BdC Tryz.tb 105 [.str [],.nils] [(0,1),(1,1)]:=⟨bdT un105.h if105.h rfl (by kernel_rfl)⟩
instance Tryz.bd109:BdC Tryz.tb 109 [.str [],.nils,.nils,.nils] [(0,1),(1,1),(2,1),(3,1)]:=⟨bdT un109.h if109.h rfl (by kernel_rfl)⟩
instance Tryz.bd127:BdC Tryz.tb 127 [.str [],.nils,.nils] [(0,1),(1,1),(2,1)]:=⟨bdT un127.h if127.h rfl (by kernel_rfl)⟩
instance Tryz.bd139:BdC Tryz.tb 139 [.nils,.nils,.nils] [(0,1),(1,1),(2,1)]:=⟨bdT un139.h if139.h rfl (by kernel_rfl)⟩
instance Tryz.bd147:BdC Tryz.tb 147 [.int .i64 0,.int .i64 0] [(0,1),(1,1)]:=⟨bdT un147.h if147.h rfl (by kernel_rfl)⟩
instance Tryz.bd162:BdC Tryz.tb 162 [.str [],.str []] [(0,1),(1,1)]:=⟨bdT un162.h if162.h rfl (by kernel_rfl)⟩
def qhv  (w13:q7l Int Bool):Option (Int) :=
 some 0
def qar (p1:q0b) (p2:Int):Nat→Int→(q7l Int Bool)→Option (Int)
 | 0,_,_=>none
 | m1+1,z11,w12 =>
  cond (decide (z11<(p1.Arcs.length:Int)))
   (q02 (q0j p1.Arcs z11) fun x15 =>
   q02 (cond (decide (x15.Feat<0))
    (some true)
    (cond (decide (x15.To<0))
     (some true)
     (some (decide (x15.To ≥ p2))))) fun b19 =>
   cond b19
    (some 2)
    (cond ((qpn (fun a b=>a == b) w12 x15.Feat).getD false)
     (some 4)
     ((qar p1 p2 m1) (IntKind.i64.wrap (z11+1)) (qrs (fun a b=>a == b) w12 x15.Feat true))))
   (qhv w12)
def qlr (n:Nat) (p1:q0b) (p2:Int):Option (Int) :=
 cond (decide (p1.Typex<0))
  (some 2)
  (qar p1 p2 n 0 (qvf:q7l Int Bool))
def q27 (z7:Int) (l8:List q0c) (rc2:Int→(List q0c)→Option ((List q0c))) (x13:q0c)  : Option ((List q0c)) :=
 rc2 (IntKind.i64.wrap (z7+1)) (l8++[x13])
def q26  (l10:List q0c):Option ((List q0c)) :=
 some l10
def q0s (p1:List q0c):Nat→Int→(List q0c)→Option ((List q0c))
 | 0,_,_=>none
 | m2+1,z7,l8 =>
  cond (decide (z7<(p1.length:Int)))
   (q02 (q0j p1 z7) fun x13 =>
   q0z ((l8.length+1)*16≤140737488355328∧l8.length+1≤140737488355328) (
   q27 z7 l8 (q0s p1 m2) x13))
   (q26 l8)
def q2o (n:Nat) (p1:List q0c):Option ((List q0c)) :=
 q0s p1 n 0 ([]:List q0c)
theorem qc1 (n:Nat) (p1:List q0c) (r:(List q0c)) (hF:q2o n p1=some r):EvU Tryz.prog 142 [.nils,.fn (.func 113) [] [.iptr [.isl false (List.map q07 p1)]]] ⟨[],0⟩ (fun u σ'=>∃ t:Nat→Nat,u = .vl 1 (t 0) 0 r.length∧σ'=⟨[(1,.vec (List.map q07 r).flatten 66 2 (t 0))],2⟩):=by
 unfold q2o at hF
 refine z5r Tryz.tb_ok fn142 rfl ?_
 refine WPU.ghost (tm':=fr 13 [(0,.nils),(1,.fn (.func 113) [] [.iptr [.iM q07 p1]])]) (Gh.start NL) (Nat.le_refl _) ?_
 refine go ?_
 refine WPU.block ?_
 refine gn ?_
 refine gS (l':=[(2,_),(6,_)]) ?_
 refine WPU.range Tryz.tb_ok rfl (fun _ h=>h) (q1r rfl) fn113 rfl rfl ?_
 intro ly1 fn1 tp1 D1
 refine WPU.ghost (tm':=fr 16 [(0,.fn (.yield ly1) [] []),(1,.iptr [.iM q07 p1])]) (Gh.start NL) (Nat.le_refl _) ?_
 refine gr ?_
 refine WPU.ghost (tm':=fr 16 [(0,.fn (.yield ly1) [] []),(5,.iM q07 p1),(6,.i6 (p1.length:Int)),(7,.i6 0)]) (σ':=⟨[(1,.vec (List.map q07 ([]:List q0c)).flatten 66 2 0),(0,.row [.vl 1 0 0 (([]:List q0c).length)] 52)],2⟩) (Gh.trans (z5k 0 0 66 2 (by decide) NL rfl rfl) (z5d ⟨rfl,rfl,rfl,rfl,trivial⟩ rfl)) NL ?_
 refine gS (l':=[(0,_),(5,_),(6,_),(7,_)]) ?_
 refine z59 (fun m tm σ=>∃ z7:Int,∃ l8:List q0c,∃ t9:Nat,q0s p1 m z7 l8=some r∧tm=fr 16 [(0,.fn (.yield ly1) [] []),(5,.iM q07 p1),(6,.i6 (p1.length:Int)),(7,.i6 z7)]∧σ=⟨[(1,.vec (List.map q07 l8).flatten 66 2 t9),(0,.row [.vl 1 t9 0 l8.length] 52)],2⟩) (fun tm σ=>∃ l10:List q0c,∃ t11:Nat,q26 l10=some r∧tm=fr 16 []∧σ=⟨[(1,.vec (List.map q07 l10).flatten 66 2 t11),(0,.row [.vl 1 t11 0 l10.length] 52)],2⟩) n ⟨0,([]:List q0c),0,hF,rfl,rfl⟩ ?_ ?_
 rintro _ _ ⟨l10,t11,hF,rfl,rfl⟩
 unfold q26 at hF
 refine gn ?_
 refine ⟨.inl rfl,?_⟩
 refine go ?_
 obtain rfl:=sI hF
 exact ⟨.inr rfl,[.vl 1 t11 0 l10.length],q28 rfl (q24),.vl 1 t11 0 l10.length,⟨[(1,.vec (List.map q07 l10).flatten 66 2 t11)],2⟩,NL,Gh.trans (z5p (fun k=>qxe [1] k)) (z5t (n1:=2) [] rfl rfl NL NL BUL.h BH.h),stF [t11],rfl,rfl⟩
 rintro (_|m2) _ _ ⟨z7,l8,t9,hF,rfl,rfl⟩
 cases hF
 unfold q0s at hF
 refine go ?_
 refine cF hF (fun h12 hF=>?_) (fun h12 hF=>?_)
 refine go ?_
 refine WPU.block ?_
 obtain ⟨x13,h14,hF⟩:=q00 hF
 refine go ?_
 refine RS.ix h14 ?_
 refine go ?_
 refine RS.yield (tmx:=fr 13 [(2,.ptr 0 0 0),(6,.fn (.func 113) [] [.iptr [.iM q07 p1]]),(7,.agg (q07 x13))]) rfl rfl rfl rfl rfl rfl rfl rfl (setP1 rfl) rfl rfl ?_
 refine gr ?_
 refine z5a (fun tm σ=>q27 z7 l8 (q0s p1 m2) x13=some r∧tm=fr 13 []∧σ=⟨[(2,.row (q07 x13) 66),(1,.vec (List.map q07 (l8++[x13])).flatten 66 2 (t9+1)),(0,.row [.vl 1 (t9+1) 0 ((l8++[x13]).length)] 52)],3⟩) ?_ ?_
 rintro _ _ ⟨hF,rfl,rfl⟩
 unfold q27 at hF
 refine ⟨rfl,?_⟩
 refine go ?_
 refine z5m (t:=false) rfl (fun hc=>by cases hc) (fun _=>?_)
 refine go ?_
 exact lC ⟨_,(l8++[x13]),(t9+1),hF,rfl,rfl⟩
 refine go ?_
 refine WPU.block ?_
 obtain ⟨h15,hF⟩:=q06 hF
 refine go ?_
 refine RS.q (u:=.sl 4 0 1 1) (σ':=⟨[(4,.row (q07 x13) 66),(3,.row (q07 x13) 66),(2,.row (q07 x13) 66),(1,.vec (List.map q07 l8).flatten 66 2 t9),(0,.row [.vl 1 t9 0 l8.length] 52)],5⟩) rfl (q6h un52.h if66.h rfl rfl rfl rfl rfl rfl rfl) ?_
 refine RS.g ?_
 refine go ?_
 exact xC ⟨hF,rfl,rfl⟩
 refine go ?_
 exact xC ⟨l8,t9,hF,rfl,rfl⟩
def q3c (n:Nat) (p1:List q0c):Option ((List q0c)) :=
 q02 (q2o n p1) fun r2 =>
 some r2
theorem qe0 (n:Nat) (p1:List q0c) (r:(List q0c)) (hF:q3c n p1=some r):EvU Tryz.prog 111 [.fn (.func 113) [] [.iptr [.isl false (List.map q07 p1)]]] ⟨[],0⟩ (fun u σ'=>∃ t:Nat→Nat,u = .vl 1 (t 0) 0 r.length∧σ'=⟨[(1,.vec (List.map q07 r).flatten 66 2 (t 0))],2⟩):=by
 unfold q3c at hF
 refine bg1 5 fn111 ?_
 obtain ⟨r2,h3,hF⟩:=q00 hF
 refine go ?_
 refine z5e (R:=fun u σ'=>∃ t4:Nat→Nat,u = .vl 1 (t4 0) 0 r2.length∧σ'=⟨[(1,.vec (List.map q07 r2).flatten 66 2 (t4 0))],2⟩) (args:=[.nils,.fn (.func 113) [] [.iptr [.iM q07 p1]]]) rfl (q4j rfl rfl fn142 hb142 rfl rfl) (EvU.st [] (qc1 n p1 r2 h3 )) rfl rfl ?_
 rintro _ _ ⟨t4,rfl,rfl⟩
 refine go ?_
 obtain rfl:=sI hF
 exact ⟨.inr rfl,[.vl 1 (t4 0) 0 r2.length],q28 rfl (q24),.vl 1 (t4 0) 0 r2.length,⟨[(1,.vec (List.map q07 r2).flatten 66 2 (t4 0))],2⟩,NL,Gh.trans (z5p (fun k=>qxe [1] k)) (z5t (n1:=2) [] rfl rfl NL NL BUL.h BH.h),stF [(t4 0)],rfl,rfl⟩
def q1b (n:Nat) (p1:List q0c):Option ((List q0c)) :=
 q02 (q3c n p1) fun r2 =>
 q02 (qrj eqA (fun a b=>q1d n a b ) r2) fun r6 =>
 some r6
theorem q5h (n:Nat) (p1:List q0c) (r:(List q0c)) (hF:q1b n p1=some r):EvU Tryz.prog 84 [.fn (.func 113) [] [.iptr [.isl false (List.map q07 p1)]],.fn (.func 86) [] []] ⟨[],0⟩ (fun u σ'=>∃ t:Nat→Nat,u = .vl 1 (t 0) 0 r.length∧σ'=⟨[(1,.vec (List.map q07 r).flatten 66 2 (t 0))],2⟩):=by
 unfold q1b at hF
 refine bg2 12 fn84 ?_
 obtain ⟨r2,h3,hF⟩:=q00 hF
 refine go ?_
 refine z5e (R:=fun u σ'=>∃ t4:Nat→Nat,u = .vl 1 (t4 0) 0 r2.length∧σ'=⟨[(1,.vec (List.map q07 r2).flatten 66 2 (t4 0))],2⟩) (args:=[.fn (.func 113) [] [.iptr [.iM q07 p1]]]) rfl (q4j rfl rfl fn111 hb111 rfl rfl) (EvU.st [] (qe0 n p1 r2 h3 )) rfl rfl ?_
 rintro _ _ ⟨t4,rfl,rfl⟩
 obtain ⟨r6,h5,hF⟩:=q00 hF
 refine gn ?_
 refine z5a (fun tm σ=>tm=fr 12 [(5,.vl 1 (t4 0) 0 r6.length)]∧σ=⟨[(1,.vec (List.map q07 r6).flatten 66 2 (t4 0))],2⟩) ?_ ?_
 rintro _ _ ⟨rfl,rfl⟩
 refine go ?_
 obtain rfl:=sI hF
 exact ⟨.inr rfl,[.vl 1 (t4 0) 0 r6.length],q28 rfl (q24),.vl 1 (t4 0) 0 r6.length,⟨[(1,.vec (List.map q07 r6).flatten 66 2 (t4 0))],2⟩,NL,Gh.trans (z5p (fun k=>qxe [1] k)) (z5t (n1:=2) [] rfl rfl NL NL BUL.h BH.h),stF [(t4 0)],rfl,rfl⟩
 refine go ?_
 refine z5e (args:=[.vl 1 (t4 0) 0 r2.length,.fn (.func 86) [] []]) rfl (q4j rfl rfl fn112 hb112 rfl rfl) (z4v  (fun a b r h=>qj2 n a b  r h) r2 r6 h5 _ rfl rfl) rfl rfl ?_
 rintro _ _ ⟨rfl,rfl⟩
 refine go ?_
 exact ⟨_,_,⟨rfl,rfl⟩,NZ,z5d ⟨(by simp only [qyt h5]; rfl),trivial⟩ rfl⟩
def q22 (n:Nat) (p1:List q0c):Option ((List q0c)) :=
 some p1
theorem q79 (n:Nat) (p1:List q0c) (r:(List q0c)) (hF:q22 n p1=some r):EvU Tryz.prog 85 [.isl false (List.map q07 p1)] ⟨[],0⟩ (fun u σ'=>∃ t:Nat→Nat,u = .fn (.func 113) [] [.iptr [.isl false (List.map q07 r)]]∧σ'=⟨[],0⟩):=by
 unfold q22 at hF
 refine bg1 4 fn85 ?_
 refine go ?_
 refine RS.q rfl (qy5 rfl rfl) ?_
 refine go ?_
 obtain rfl:=sI hF
 exact ⟨.inr rfl,[.fn (.func 113) [] [.ptr 0 0 0]],q28 rfl (q24),.fn (.func 113) [] [.iptr [.iM q07 p1]],⟨[],0⟩,NL,Gh.trans (z5c 0 1) (z5t (n1:=0) [] rfl rfl NL NL BUL.h BH.h),stF [],rfl,rfl⟩
def q1e (z24:Int) (rc1:Int→(List Int)→(q7l Int Int)→Option ((List Int)×(q7l Int Int))) (l35:List Int) (w37:q7l Int Int):Option ((List Int)×(q7l Int Int)) :=
 rc1 (IntKind.i64.wrap (z24+1)) l35 w37
def q2j  (l28:List Int) (w30:q7l Int Int):Option ((List Int)×(q7l Int Int)) :=
 some (l28,w30)
def q0t (p2:List q0b) (r12:(List q0c)) (self:Int→(List q0b)→(List Int)→(q7l Int Int)→Option ((List Int)×(q7l Int Int))):Nat→Int→(List Int)→(q7l Int Int)→Option ((List Int)×(q7l Int Int))
 | 0,_,_,_=>none
 | m1+1,z24,l25,w27 =>
  cond (decide (z24<(r12.length:Int)))
   (q02 (q0j r12 z24) fun x32 =>
   cond (!((qpn (fun a b=>a == b) w27 x32.To).isSome))
    (q02 (self x32.To p2 l25 w27) fun r38 =>
    q1e z24 (q0t p2 r12 self m1) r38.1 r38.2)
    (q1e z24 (q0t p2 r12 self m1) l25 w27))
   (q2j l25 w27)
def q2z (n:Nat) (self:Int→(List q0b)→(List Int)→(q7l Int Int)→Option ((List Int)×(q7l Int Int))) (p1:Int) (p2:List q0b) (p3:List Int) (p5:q7l Int Int):Option ((List Int)×(q7l Int Int)) :=
 q0z ((p3.length+1)*8≤140737488355328∧p3.length+1≤140737488355328) (
 q02 (q0j p2 p1) fun x7 =>
 q02 (q22 n x7.Arcs) fun r9 =>
 q02 (q1b n r9) fun r12 =>
 q0t p2 r12 self n 0 (p3++[p1]) (qrs (fun a b=>a == b) p5 p1 (p3.length:Int)))
def q0x:Nat→Int→(List q0b)→(List Int)→(q7l Int Int)→Option ((List Int)×(q7l Int Int))
 | 0,_,_,_,_=>none
 | n+1,p1,p2,p3,p5=>q2z n (q0x n) p1 p2 p3 p5
theorem q77:∀ (n:Nat) (p1:Int) (p2:List q0b) (p3:List Int) (p5:q7l Int Int) (r:(List Int)×(q7l Int Int)),q0x n p1 p2 p3 p5=some r→∀ t4:Nat,EvU Tryz.prog 83 [.int .i64 p1,.ptr 0 0 0,.ptr 1 0 0,.ptr 2 0 0,.ptr 3 0 0] ⟨[(0,.row [.vl 4 t4 0 p3.length] 33),(1,.row [.map 5] 130),(2,.row [.isl false (List.map q03 p2)] 24),(3,.row [.fn (.func 83) [] [.ptr 0 0 0,.ptr 1 0 0,.ptr 2 0 0,.ptr 3 0 0]] 115),(4,.vec (List.map (cI .i64) p3).flatten 3 1 t4),(5,.map (List.map (mE (fun x=>.int .i64 x) (fun x=>.int .i64 x)) p5.es) p5.cl)],6⟩ (fun u σ'=>∃ t:Nat→Nat,u = .tup []∧σ'=⟨[(0,.row [.vl 4 (t 0) 0 r.1.length] 33),(1,.row [.map 5] 130),(2,.row [.isl false (List.map q03 p2)] 24),(3,.row [.fn (.func 83) [] [.ptr 0 0 0,.ptr 1 0 0,.ptr 2 0 0,.ptr 3 0 0]] 115),(4,.vec (List.map (cI .i64) r.1).flatten 3 1 (t 0)),(5,.map (List.map (mE (fun x=>.int .i64 x) (fun x=>.int .i64 x)) r.2.es) r.2.cl)],6⟩)
 | 0,p1,p2,p3,p5,r,hF=>by cases hF
 | n+1,p1,p2,p3,p5,r,hF=>by
  have ih:=q77 n
  unfold q0x q2z at hF
  intro t4
  refine bg5 45 fn83 ?_
  refine go ?_
  refine RS.opn (u:=.junk) (σ':=⟨[(0,.row [.vl 4 t4 0 p3.length] 33),(1,.row [.map 5] 130),(2,.row [.iM q03 p2] 24),(3,.row [.fn (.func 83) [] [.ptr 0 0 0,.ptr 1 0 0,.ptr 2 0 0,.ptr 3 0 0]] 115),(4,.vec (List.map (cI .i64) p3).flatten 3 1 t4),(5,.map (List.map (mE (fun x=>.i6 x) (fun x=>.i6 x)) (qrs (fun a b=>a == b) p5 p1 (p3.length:Int)).es) (qrs (fun a b=>a == b) p5 p1 (p3.length:Int)).cl)],6⟩) rfl (op_mup (kU:=(fun x=>.i6 x)) (vU:=(fun x=>.i6 x)) (m:=p5) (k:=p1) (v:=(p3.length:Int)) (qsb un3.h) un130.h rfl rfl rfl rfl rfl) rfl ?_
  obtain ⟨h6,hF⟩:=q06 hF
  refine go ?_
  refine RS.g ?_
  refine RS.g ?_
  obtain ⟨x7,h8,hF⟩:=q00 hF
  obtain ⟨r9,h10,hF⟩:=q00 hF
  obtain ⟨r12,h13,hF⟩:=q00 hF
  refine go ?_
  refine RS.ix h8 ?_
  refine go ?_
  refine z5e (R:=fun u σ'=>∃ t11:Nat→Nat,u = .fn (.func 113) [] [.iptr [.iM q07 r9]]∧σ'=⟨[(6,.row [.i6 p1] 3),(0,.row [.vl 4 (t4+1) 0 ((p3++[p1]).length)] 33),(1,.row [.map 5] 130),(2,.row [.iM q03 p2] 24),(3,.row [.fn (.func 83) [] [.ptr 0 0 0,.ptr 1 0 0,.ptr 2 0 0,.ptr 3 0 0]] 115),(4,.vec (List.map (cI .i64) (p3++[p1])).flatten 3 1 (t4+1)),(5,.map (List.map (mE (fun x=>.i6 x) (fun x=>.i6 x)) (qrs (fun a b=>a == b) p5 p1 (p3.length:Int)).es) (qrs (fun a b=>a == b) p5 p1 (p3.length:Int)).cl)],7⟩) (args:=[.iM q07 x7.Arcs]) rfl (q4j rfl rfl fn85 hb85 rfl rfl) (EvU.st [] (q79 n x7.Arcs r9 h10 )) rfl rfl ?_
  rintro _ _ ⟨t11,rfl,rfl⟩
  refine z5e (R:=fun u σ'=>∃ t14:Nat→Nat,u = .vl 8 (t14 0) 0 r12.length∧σ'=⟨[(8,.vec (List.map q07 r12).flatten 66 2 (t14 0)),(6,.row [.i6 p1] 3),(0,.row [.vl 4 (t4+1) 0 ((p3++[p1]).length)] 33),(1,.row [.map 5] 130),(2,.row [.iM q03 p2] 24),(3,.row [.fn (.func 83) [] [.ptr 0 0 0,.ptr 1 0 0,.ptr 2 0 0,.ptr 3 0 0]] 115),(4,.vec (List.map (cI .i64) (p3++[p1])).flatten 3 1 (t4+1)),(5,.map (List.map (mE (fun x=>.i6 x) (fun x=>.i6 x)) (qrs (fun a b=>a == b) p5 p1 (p3.length:Int)).es) (qrs (fun a b=>a == b) p5 p1 (p3.length:Int)).cl)],9⟩) (args:=[.fn (.func 113) [] [.iptr [.iM q07 r9]],.fn (.func 86) [] []]) rfl (q4j rfl rfl fn84 hb84 rfl rfl) (EvU.st [] (q5h n r9 r12 h13 )) rfl rfl ?_
  rintro _ _ ⟨t14,rfl,rfl⟩
  refine go ?_
  refine gS (l':=[(2,_),(4,_),(25,_),(26,_),(27,_)]) ?_
  refine z59 (fun m tm σ=>∃ z24:Int,∃ l25:List Int,∃ t26:Nat,∃ w27:q7l Int Int,q0t p2 r12 (q0x n) m z24 l25 w27=some r∧tm=fr 45 [(2,.ptr 1 0 0),(4,.ptr 3 0 0),(25,.vl 8 (t14 0) 0 r12.length),(26,.i6 (r12.length:Int)),(27,.i6 z24)]∧σ=⟨[(8,.vec (List.map q07 r12).flatten 66 2 (t14 0)),(6,.row [.i6 p1] 3),(0,.row [.vl 4 t26 0 l25.length] 33),(1,.row [.map 5] 130),(2,.row [.iM q03 p2] 24),(3,.row [.fn (.func 83) [] [.ptr 0 0 0,.ptr 1 0 0,.ptr 2 0 0,.ptr 3 0 0]] 115),(4,.vec (List.map (cI .i64) l25).flatten 3 1 t26),(5,.map (List.map (mE (fun x=>.i6 x) (fun x=>.i6 x)) w27.es) w27.cl)],9⟩) (fun tm σ=>∃ l28:List Int,∃ t29:Nat,∃ w30:q7l Int Int,q2j l28 w30=some r∧tm=fr 45 []∧σ=⟨[(8,.vec (List.map q07 r12).flatten 66 2 (t14 0)),(6,.row [.i6 p1] 3),(0,.row [.vl 4 t29 0 l28.length] 33),(1,.row [.map 5] 130),(2,.row [.iM q03 p2] 24),(3,.row [.fn (.func 83) [] [.ptr 0 0 0,.ptr 1 0 0,.ptr 2 0 0,.ptr 3 0 0]] 115),(4,.vec (List.map (cI .i64) l28).flatten 3 1 t29),(5,.map (List.map (mE (fun x=>.i6 x) (fun x=>.i6 x)) w30.es) w30.cl)],9⟩) n ⟨0,(p3++[p1]),(t4+1),(qrs (fun a b=>a == b) p5 p1 (p3.length:Int)),hF,rfl,rfl⟩ ?_ ?_
  rintro _ _ ⟨l28,t29,w30,hF,rfl,rfl⟩
  unfold q2j at hF
  refine go ?_
  obtain rfl:=sI hF
  exact ⟨.inl rfl,[],q24,.tup [],⟨[(0,.row [.vl 4 t29 0 l28.length] 33),(1,.row [.map 5] 130),(2,.row [.iM q03 p2] 24),(3,.row [.fn (.func 83) [] [.ptr 0 0 0,.ptr 1 0 0,.ptr 2 0 0,.ptr 3 0 0]] 115),(4,.vec (List.map (cI .i64) l28).flatten 3 1 t29),(5,.map (List.map (mE (fun x=>.i6 x) (fun x=>.i6 x)) w30.es) w30.cl)],6⟩,NL,z5t (n1:=6) [] rfl rfl NL NL BUL.h BH.h,stF [t29],rfl,rfl⟩
  rintro (_|m1) _ _ ⟨z24,l25,t26,w27,hF,rfl,rfl⟩
  cases hF
  unfold q0t at hF
  refine go ?_
  refine cF hF (fun h31 hF=>?_) (fun h31 hF=>?_)
  refine go ?_
  refine WPU.block ?_
  obtain ⟨x32,h33,hF⟩:=q00 hF
  refine go ?_
  refine RS.q rfl (q3t rfl rfl (q8m q07 un52.h (q0r if66.h) (by decide) q16 (vo rfl) h33)) ?_
  refine RS.q (u:=.agg (q07 x32)) rfl (z2s q07 un66.h rfl (q0r if66.h) q16 rfl rfl h33 rfl) ?_
  refine go ?_
  refine RS.q (u:=.tup [.i6 ((qpn (fun a b=>a == b) w27 x32.To).getD 0),.bool ((qpn (fun a b=>a == b) w27 x32.To).isSome)]) rfl (z0w (kU:=(fun x=>.i6 x)) (vU:=(fun x=>.i6 x)) (m:=w27) (k:=x32.To) (zv:=0) (qsb un3.h) un130.h rfl rfl rfl if3.h rfl) ?_
  refine gr ?_
  refine z5a (fun tm σ=>∃ l35:List Int,∃ t36:Nat,∃ w37:q7l Int Int,q1e z24 (q0t p2 r12 (q0x n) m1) l35 w37=some r∧tm=fr 45 [(2,.ptr 1 0 0),(4,.ptr 3 0 0),(25,.vl 8 (t14 0) 0 r12.length),(26,.i6 (r12.length:Int)),(27,.i6 z24)]∧σ=⟨[(9,.row (q07 x32) 66),(8,.vec (List.map q07 r12).flatten 66 2 (t14 0)),(6,.row [.i6 p1] 3),(0,.row [.vl 4 t36 0 l35.length] 33),(1,.row [.map 5] 130),(2,.row [.iM q03 p2] 24),(3,.row [.fn (.func 83) [] [.ptr 0 0 0,.ptr 1 0 0,.ptr 2 0 0,.ptr 3 0 0]] 115),(4,.vec (List.map (cI .i64) l35).flatten 3 1 t36),(5,.map (List.map (mE (fun x=>.i6 x) (fun x=>.i6 x)) w37.es) w37.cl)],10⟩) ?_ ?_
  rintro _ _ ⟨l35,t36,w37,hF,rfl,rfl⟩
  unfold q1e at hF
  refine go ?_
  exact lC ⟨_,l35,t36,w37,hF,rfl,rfl⟩
  refine cF hF (fun h34 hF=>?_) (fun h34 hF=>?_)
  obtain ⟨r38,h39,hF⟩:=q00 hF
  refine go ?_
  refine z5e (R:=fun u σ'=>∃ t40:Nat→Nat,u = .tup []∧σ'=⟨[(9,.row (q07 x32) 66),(8,.vec (List.map q07 r12).flatten 66 2 (t14 0)),(6,.row [.i6 p1] 3),(0,.row [.vl 4 (t40 0) 0 r38.1.length] 33),(1,.row [.map 5] 130),(2,.row [.iM q03 p2] 24),(3,.row [.fn (.func 83) [] [.ptr 0 0 0,.ptr 1 0 0,.ptr 2 0 0,.ptr 3 0 0]] 115),(4,.vec (List.map (cI .i64) r38.1).flatten 3 1 (t40 0)),(5,.map (List.map (mE (fun x=>.i6 x) (fun x=>.i6 x)) r38.2.es) r38.2.cl)],10⟩) (args:=[.i6 x32.To,.ptr 0 0 0,.ptr 1 0 0,.ptr 2 0 0,.ptr 3 0 0]) rfl (q4j rfl rfl fn83 hb83 rfl rfl) (EvU.st [0,1,2,3,4,5] (ih x32.To p2 l25 w27 r38 h39 t26)) rfl rfl ?_
  rintro _ _ ⟨t40,rfl,rfl⟩
  refine go ?_
  exact xC ⟨r38.1,(t40 0),r38.2,hF,rfl,rfl⟩
  refine go ?_
  exact xC ⟨l25,t26,w27,hF,rfl,rfl⟩
  refine go ?_
  exact xC ⟨l25,t26,w27,hF,rfl,rfl⟩
def q37 (p1:GFS) (r3:(List Int)×(q7l Int Int)) (z14:Int) (l15:List q0b) (rc1:Int→(List q0b)→Option (GFS)) (x19:Int) (l44:List q0c):Option (GFS) :=
 q02 (q0j p1.Nodes x19) fun x45 =>
 q02 (qkg l15 0 ((r3.1.length:Int).toNat) z14) fun x47 =>
 rc1 (IntKind.i64.wrap (z14+1)) (l15.set z14.toNat (q0b.mk x45.Typex l44))
def q1y (p1:GFS) (r3:(List Int)×(q7l Int Int)) (z14:Int) (l15:List q0b) (rc1:Int→(List q0b)→Option (GFS)) (x19:Int) (r26:(List q0c)):Nat→Int→(List q0c)→Option (GFS)
 | 0,_,_=>none
 | m2+1,z42,l43 =>
  cond (decide (z42<(r26.length:Int)))
   (q02 (q0j l43 z42) fun x50 =>
   q02 (q0j l43 z42) fun x52 =>
   (q1y p1 r3 z14 l15 rc1 x19 r26 m2) (IntKind.i64.wrap (z42+1)) (l43.set (0+z42.toNat) (q0c.mk x52.Feat ((qpn (fun a b=>a == b) r3.2 x50.To).getD 0))))
   (q37 p1 r3 z14 l15 rc1 x19 l43)
def q4m (r3:(List Int)×(q7l Int Int)) (l16:List q0b):Option (GFS) :=
 q0z ((r3.1.length:Int).toNat=l16.length) (
 some (GFS.mk l16))
def q19 (p1:GFS) (n:Nat) (r3:(List Int)×(q7l Int Int)):Nat→Int→(List q0b)→Option (GFS)
 | 0,_,_=>none
 | m1+1,z14,l15 =>
  cond (decide (z14<(r3.1.length:Int)))
   (q02 (q0j r3.1 z14) fun x19 =>
   q02 (q0j p1.Nodes x19) fun x21 =>
   q02 (q22 n x21.Arcs) fun r23 =>
   q02 (q1b n r23) fun r26 =>
   q1y p1 r3 z14 l15 (q19 p1 n r3 m1) x19 r26 n 0 r26)
   (q4m r3 l15)
def q3m (n:Nat) (p1:GFS) (p2:Int):Option (GFS) :=
 q02 (q0x n p2 p1.Nodes ([]:List Int) (qvf:q7l Int Int)) fun r3 =>
 q0z (0≤(r3.1.length:Int)∧32*(r3.1.length:Int).toNat≤281474976710656∧(r3.1.length:Int)≤281474976710656) (
 q19 p1 n r3 n 0 (List.replicate (r3.1.length:Int).toNat (q0b.mk 0 [])))
theorem qj3 (n:Nat) (p1:GFS) (p2:Int) (r:GFS) (hF:q3m n p1 p2=some r):EvU Tryz.prog 65 [.agg [.isl false (List.map q03 p1.Nodes)],.int .i64 p2] ⟨[],0⟩ (fun u _=>u = .agg [.isl false (List.map q03 r.Nodes)]∧Bel 0 u):=by
 unfold q3m at hF
 refine bg2 68 fn65 ?_
 refine go ?_
 refine RS.q (u:=.map 2) (σ':=⟨[(2,.map (List.map (mE (fun x=>.i6 x) (fun x=>.i6 x)) (qvf:q7l Int Int).es) (qvf:q7l Int Int).cl),(1,.row [.nils] 24),(0,.row [.iM q03 p1.Nodes] 24)],3⟩) rfl (z4f) ?_
 refine go ?_
 refine RS.q rfl (qy5 rfl rfl) ?_
 refine gn ?_
 refine WPU.ghost (tm':=fr 68 [(1,.i6 p2),(2,.ptr 0 0 0),(4,.ptr 1 0 0),(5,.ptr 3 0 0),(6,.ptr 4 0 0),(7,.ptr 5 0 0)]) (σ':=⟨[(6,.vec (List.map (cI .i64) ([]:List Int)).flatten 3 1 0),(5,.row [.fn (.func 83) [] [.ptr 4 0 0,.ptr 3 0 0,.ptr 0 0 0,.ptr 5 0 0]] 115),(4,.row [.vl 6 0 0 (([]:List Int).length)] 33),(3,.row [.map 2] 130),(2,.map (List.map (mE (fun x=>.i6 x) (fun x=>.i6 x)) (qvf:q7l Int Int).es) (qvf:q7l Int Int).cl),(1,.row [.nils] 24),(0,.row [.iM q03 p1.Nodes] 24)],7⟩) (Gh.trans (z5k 4 0 3 1 (by decide) NZ rfl rfl) (z5d ⟨rfl,rfl,rfl,rfl,rfl,rfl,trivial⟩ rfl)) NZ ?_
 obtain ⟨r3,h4,hF⟩:=q00 hF
 refine go ?_
 refine z5e (R:=fun u σ'=>∃ t5:Nat→Nat,u = .tup []∧σ'=⟨[(6,.vec (List.map (cI .i64) r3.1).flatten 3 1 (t5 0)),(5,.row [.fn (.func 83) [] [.ptr 4 0 0,.ptr 3 0 0,.ptr 0 0 0,.ptr 5 0 0]] 115),(4,.row [.vl 6 (t5 0) 0 r3.1.length] 33),(3,.row [.map 2] 130),(2,.map (List.map (mE (fun x=>.i6 x) (fun x=>.i6 x)) r3.2.es) r3.2.cl),(1,.row [.nils] 24),(0,.row [.iM q03 p1.Nodes] 24)],7⟩) (args:=[.i6 p2,.ptr 4 0 0,.ptr 3 0 0,.ptr 0 0 0,.ptr 5 0 0]) rfl (q4j rfl rfl fn83 hb83 rfl rfl) (EvU.st [4,3,0,5,6,2] (q77 n p2 p1.Nodes ([]:List Int) (qvf:q7l Int Int) r3 h4 0)) rfl rfl ?_
 rintro _ _ ⟨t5,rfl,rfl⟩
 obtain ⟨h6,hF⟩:=q06 hF
 refine go ?_
 refine RS.q (u:=.sl 7 0 ((r3.1.length:Int).toNat) ((r3.1.length:Int).toNat)) (σ':=⟨[(7,.row (List.map q03 (List.replicate (r3.1.length:Int).toNat (q0b.mk 0 []))).flatten 54),(6,.vec (List.map (cI .i64) r3.1).flatten 3 1 (t5 0)),(5,.row [.fn (.func 83) [] [.ptr 4 0 0,.ptr 3 0 0,.ptr 0 0 0,.ptr 5 0 0]] 115),(4,.row [.vl 6 (t5 0) 0 r3.1.length] 33),(3,.row [.map 2] 130),(2,.map (List.map (mE (fun x=>.i6 x) (fun x=>.i6 x)) r3.2.es) r3.2.cl),(1,.row [.nils] 24),(0,.row [.iM q03 p1.Nodes] 24)],8⟩) rfl (qu2 q03 (q0b.mk 0 []) rfl rfl un22.h if54.h rfl rfl rfl rfl h6) ?_
 refine go ?_
 refine gS (l':=[(2,_),(4,_),(5,_),(8,_),(22,_),(23,_),(24,_)]) ?_
 refine z59 (fun m tm σ=>∃ z14:Int,∃ l15:List q0b,q19 p1 n r3 m z14 l15=some r∧tm=fr 68 [(2,.ptr 0 0 0),(4,.ptr 1 0 0),(5,.ptr 3 0 0),(8,.ptr 8 0 0),(22,.vl 6 (t5 0) 0 r3.1.length),(23,.i6 (r3.1.length:Int)),(24,.i6 z14)]∧σ=⟨[(8,.row [.sl 7 0 ((r3.1.length:Int).toNat) ((r3.1.length:Int).toNat)] 24),(7,.row (List.map q03 l15).flatten 54),(6,.vec (List.map (cI .i64) r3.1).flatten 3 1 (t5 0)),(5,.row [.fn (.func 83) [] [.ptr 4 0 0,.ptr 3 0 0,.ptr 0 0 0,.ptr 5 0 0]] 115),(4,.row [.vl 6 (t5 0) 0 r3.1.length] 33),(3,.row [.map 2] 130),(2,.map (List.map (mE (fun x=>.i6 x) (fun x=>.i6 x)) r3.2.es) r3.2.cl),(1,.row [.nils] 24),(0,.row [.iM q03 p1.Nodes] 24)],9⟩) (fun tm σ=>∃ l16:List q0b,q4m r3 l16=some r∧tm=fr 68 [(4,.ptr 1 0 0),(8,.ptr 8 0 0)]∧σ=⟨[(8,.row [.sl 7 0 ((r3.1.length:Int).toNat) ((r3.1.length:Int).toNat)] 24),(7,.row (List.map q03 l16).flatten 54),(6,.vec (List.map (cI .i64) r3.1).flatten 3 1 (t5 0)),(5,.row [.fn (.func 83) [] [.ptr 4 0 0,.ptr 3 0 0,.ptr 0 0 0,.ptr 5 0 0]] 115),(4,.row [.vl 6 (t5 0) 0 r3.1.length] 33),(3,.row [.map 2] 130),(2,.map (List.map (mE (fun x=>.i6 x) (fun x=>.i6 x)) r3.2.es) r3.2.cl),(1,.row [.nils] 24),(0,.row [.iM q03 p1.Nodes] 24)],9⟩) n ⟨0,(List.replicate (r3.1.length:Int).toNat (q0b.mk 0 [])),hF,rfl,rfl⟩ ?_ ?_
 rintro _ _ ⟨l16,hF,rfl,rfl⟩
 unfold q4m at hF
 obtain ⟨h17,hF⟩:=q06 hF
 refine go ?_
 obtain rfl:=sI hF
 exact ⟨.inr rfl,[.agg [.sl 7 0 ((r3.1.length:Int).toNat) ((r3.1.length:Int).toNat)]],qg1 (q78 un24.h rfl (q0r if24.h) rfl rfl rfl) (q24),.agg [.iM q03 l16],⟨[],0⟩,Nat.le_refl _,Gh.trans (Gh.fz (tm':=[.agg [.iM q03 l16]]) 7 (.row (List.map q03 l16).flatten 54) 2 rfl (by simp) (by simp only [qk3,qb6,q5p,qhq,qcl,qhs,qcn,qel,qek,qej,qcm,qhr,qjz,qhp,qht,qmy,qkh,qx8 qfj h17,q8l (show Nat.beq 0 7=false from rfl),q8k (show Nat.beq 0 7=false from rfl),q8j (show Nat.beq 0 7=false from rfl),q8l (show Nat.beq 2 7=false from rfl),q8k (show Nat.beq 2 7=false from rfl),q8j (show Nat.beq 2 7=false from rfl),q8l (show Nat.beq 3 7=false from rfl),q8k (show Nat.beq 3 7=false from rfl),q8j (show Nat.beq 3 7=false from rfl),q8l (show Nat.beq 4 7=false from rfl),q8k (show Nat.beq 4 7=false from rfl),q8j (show Nat.beq 4 7=false from rfl),q8l (show Nat.beq 5 7=false from rfl),q8k (show Nat.beq 5 7=false from rfl),q8j (show Nat.beq 5 7=false from rfl),q8l (show Nat.beq 6 7=false from rfl),q8k (show Nat.beq 6 7=false from rfl),q8j (show Nat.beq 6 7=false from rfl),q33 _ _ _ (q3s 7 (fun q=>qc2 _ .i64 q) r3.1),z43]) rfl) (z5j (.agg [.iM q03 l16]) rfl),rfl,BU.h⟩
 rintro (_|m1) _ _ ⟨z14,l15,hF,rfl,rfl⟩
 cases hF
 unfold q19 at hF
 refine go ?_
 refine cF hF (fun h18 hF=>?_) (fun h18 hF=>?_)
 refine go ?_
 refine WPU.block ?_
 obtain ⟨x19,h20,hF⟩:=q00 hF
 refine go ?_
 refine RS.q rfl (q3t rfl rfl (q8m (cI .i64) un33.h (q0r if3.h) (by decide) (q5n .i64) (vo rfl) h20)) ?_
 refine RS.q rfl (q5i (cI .i64) (fun x=>.i6 x) un3.h rfl (fun _=>rfl) rfl rfl h20) ?_
 obtain ⟨x21,h22,hF⟩:=q00 hF
 obtain ⟨r23,h24,hF⟩:=q00 hF
 obtain ⟨r26,h27,hF⟩:=q00 hF
 refine go ?_
 refine RS.ix h22 ?_
 refine go ?_
 refine z5e (R:=fun u σ'=>∃ t25:Nat→Nat,u = .fn (.func 113) [] [.iptr [.iM q07 r23]]∧σ'=⟨[(8,.row [.sl 7 0 ((r3.1.length:Int).toNat) ((r3.1.length:Int).toNat)] 24),(7,.row (List.map q03 l15).flatten 54),(6,.vec (List.map (cI .i64) r3.1).flatten 3 1 (t5 0)),(5,.row [.fn (.func 83) [] [.ptr 4 0 0,.ptr 3 0 0,.ptr 0 0 0,.ptr 5 0 0]] 115),(4,.row [.vl 6 (t5 0) 0 r3.1.length] 33),(3,.row [.map 2] 130),(2,.map (List.map (mE (fun x=>.i6 x) (fun x=>.i6 x)) r3.2.es) r3.2.cl),(1,.row [.nils] 24),(0,.row [.iM q03 p1.Nodes] 24)],9⟩) (args:=[.iM q07 x21.Arcs]) rfl (q4j rfl rfl fn85 hb85 rfl rfl) (EvU.st [] (q79 n x21.Arcs r23 h24 )) rfl rfl ?_
 rintro _ _ ⟨t25,rfl,rfl⟩
 refine z5e (R:=fun u σ'=>∃ t28:Nat→Nat,u = .vl 10 (t28 0) 0 r26.length∧σ'=⟨[(10,.vec (List.map q07 r26).flatten 66 2 (t28 0)),(8,.row [.sl 7 0 ((r3.1.length:Int).toNat) ((r3.1.length:Int).toNat)] 24),(7,.row (List.map q03 l15).flatten 54),(6,.vec (List.map (cI .i64) r3.1).flatten 3 1 (t5 0)),(5,.row [.fn (.func 83) [] [.ptr 4 0 0,.ptr 3 0 0,.ptr 0 0 0,.ptr 5 0 0]] 115),(4,.row [.vl 6 (t5 0) 0 r3.1.length] 33),(3,.row [.map 2] 130),(2,.map (List.map (mE (fun x=>.i6 x) (fun x=>.i6 x)) r3.2.es) r3.2.cl),(1,.row [.nils] 24),(0,.row [.iM q03 p1.Nodes] 24)],11⟩) (args:=[.fn (.func 113) [] [.iptr [.iM q07 r23]],.fn (.func 86) [] []]) rfl (q4j rfl rfl fn84 hb84 rfl rfl) (EvU.st [] (q5h n r23 r26 h27 )) rfl rfl ?_
 rintro _ _ ⟨t28,rfl,rfl⟩
 refine go ?_
 refine gS (l':=[(2,_),(4,_),(5,_),(8,_),(9,_),(10,_),(11,_),(22,_),(23,_),(24,_),(38,_),(39,_)]) ?_
 refine z59 (fun m tm σ=>∃ z42:Int,∃ l43:List q0c,q1y p1 r3 z14 l15 (q19 p1 n r3 m1) x19 r26 m z42 l43=some r∧tm=fr 68 [(2,.ptr 0 0 0),(4,.ptr 1 0 0),(5,.ptr 3 0 0),(8,.ptr 8 0 0),(9,.i6 z14),(10,.i6 x19),(11,.vl 10 (t28 0) 0 l43.length),(22,.vl 6 (t5 0) 0 r3.1.length),(23,.i6 (r3.1.length:Int)),(24,.i6 z14),(38,.i6 (r26.length:Int)),(39,.i6 z42)]∧σ=⟨[(10,.vec (List.map q07 l43).flatten 66 2 (t28 0)),(8,.row [.sl 7 0 ((r3.1.length:Int).toNat) ((r3.1.length:Int).toNat)] 24),(7,.row (List.map q03 l15).flatten 54),(6,.vec (List.map (cI .i64) r3.1).flatten 3 1 (t5 0)),(5,.row [.fn (.func 83) [] [.ptr 4 0 0,.ptr 3 0 0,.ptr 0 0 0,.ptr 5 0 0]] 115),(4,.row [.vl 6 (t5 0) 0 r3.1.length] 33),(3,.row [.map 2] 130),(2,.map (List.map (mE (fun x=>.i6 x) (fun x=>.i6 x)) r3.2.es) r3.2.cl),(1,.row [.nils] 24),(0,.row [.iM q03 p1.Nodes] 24)],11⟩) (fun tm σ=>∃ l44:List q0c,q37 p1 r3 z14 l15 (q19 p1 n r3 m1) x19 l44=some r∧tm=fr 68 [(2,.ptr 0 0 0),(4,.ptr 1 0 0),(5,.ptr 3 0 0),(8,.ptr 8 0 0),(9,.i6 z14),(10,.i6 x19),(11,.vl 10 (t28 0) 0 l44.length),(22,.vl 6 (t5 0) 0 r3.1.length),(23,.i6 (r3.1.length:Int)),(24,.i6 z14)]∧σ=⟨[(10,.vec (List.map q07 l44).flatten 66 2 (t28 0)),(8,.row [.sl 7 0 ((r3.1.length:Int).toNat) ((r3.1.length:Int).toNat)] 24),(7,.row (List.map q03 l15).flatten 54),(6,.vec (List.map (cI .i64) r3.1).flatten 3 1 (t5 0)),(5,.row [.fn (.func 83) [] [.ptr 4 0 0,.ptr 3 0 0,.ptr 0 0 0,.ptr 5 0 0]] 115),(4,.row [.vl 6 (t5 0) 0 r3.1.length] 33),(3,.row [.map 2] 130),(2,.map (List.map (mE (fun x=>.i6 x) (fun x=>.i6 x)) r3.2.es) r3.2.cl),(1,.row [.nils] 24),(0,.row [.iM q03 p1.Nodes] 24)],11⟩) n ⟨0,r26,hF,rfl,rfl⟩ ?_ ?_
 rintro _ _ ⟨l44,hF,rfl,rfl⟩
 unfold q37 at hF
 refine gn ?_
 refine WPU.ghost (tm':=fr 68 [(2,.ptr 0 0 0),(4,.ptr 1 0 0),(5,.ptr 3 0 0),(8,.ptr 8 0 0),(9,.i6 z14),(10,.i6 x19),(11,.iM q07 l44),(22,.vl 6 (t5 0) 0 r3.1.length),(23,.i6 (r3.1.length:Int)),(24,.i6 z14)]) (σ':=⟨[(8,.row [.sl 7 0 ((r3.1.length:Int).toNat) ((r3.1.length:Int).toNat)] 24),(7,.row (List.map q03 l15).flatten 54),(6,.vec (List.map (cI .i64) r3.1).flatten 3 1 (t5 0)),(5,.row [.fn (.func 83) [] [.ptr 4 0 0,.ptr 3 0 0,.ptr 0 0 0,.ptr 5 0 0]] 115),(4,.row [.vl 6 (t5 0) 0 r3.1.length] 33),(3,.row [.map 2] 130),(2,.map (List.map (mE (fun x=>.i6 x) (fun x=>.i6 x)) r3.2.es) r3.2.cl),(1,.row [.nils] 24),(0,.row [.iM q03 p1.Nodes] 24)],11⟩) (Gh.trans (Gh.sub (l':=[(2,.ptr 0 0 0),(4,.ptr 1 0 0),(5,.ptr 3 0 0),(8,.ptr 8 0 0),(9,.i6 z14),(10,.i6 x19),(11,.vl 10 (t28 0) 0 l44.length),(22,.vl 6 (t5 0) 0 r3.1.length),(23,.i6 (r3.1.length:Int)),(24,.i6 z14)]) ⟨rfl,rfl,rfl,rfl,rfl,rfl,rfl,rfl,rfl,rfl,trivial⟩) (Gh.fzS (l':=[(2,.ptr 0 0 0),(4,.ptr 1 0 0),(5,.ptr 3 0 0),(8,.ptr 8 0 0),(9,.i6 z14),(10,.i6 x19),(11,.iM q07 l44),(22,.vl 6 (t5 0) 0 r3.1.length),(23,.i6 (r3.1.length:Int)),(24,.i6 z14)]) (h':=[(8,.row [.sl 7 0 ((r3.1.length:Int).toNat) ((r3.1.length:Int).toNat)] 24),(7,.row (List.map q03 l15).flatten 54),(6,.vec (List.map (cI .i64) r3.1).flatten 3 1 (t5 0)),(5,.row [.fn (.func 83) [] [.ptr 4 0 0,.ptr 3 0 0,.ptr 0 0 0,.ptr 5 0 0]] 115),(4,.row [.vl 6 (t5 0) 0 r3.1.length] 33),(3,.row [.map 2] 130),(2,.map (List.map (mE (fun x=>.i6 x) (fun x=>.i6 x)) r3.2.es) r3.2.cl),(1,.row [.nils] 24),(0,.row [.iM q03 p1.Nodes] 24)]) 10 (.vec (List.map q07 l44).flatten 66 2 (t28 0)) 2 rfl (by simp) (by simp only [fzS,qk3,qb6,q5p,qhq,qcl,qhs,qcn,qel,qek,qej,qcm,qhr,qjz,qhp,qht,qmy,qkh,z0e q16,q8l (show Nat.beq 0 10=false from rfl),q8k (show Nat.beq 0 10=false from rfl),q8j (show Nat.beq 0 10=false from rfl),q8l (show Nat.beq 1 10=false from rfl),q8k (show Nat.beq 1 10=false from rfl),q8j (show Nat.beq 1 10=false from rfl),q8l (show Nat.beq 2 10=false from rfl),q8k (show Nat.beq 2 10=false from rfl),q8j (show Nat.beq 2 10=false from rfl),q8l (show Nat.beq 3 10=false from rfl),q8k (show Nat.beq 3 10=false from rfl),q8j (show Nat.beq 3 10=false from rfl),q8l (show Nat.beq 4 10=false from rfl),q8k (show Nat.beq 4 10=false from rfl),q8j (show Nat.beq 4 10=false from rfl),q8l (show Nat.beq 5 10=false from rfl),q8k (show Nat.beq 5 10=false from rfl),q8j (show Nat.beq 5 10=false from rfl),q8l (show Nat.beq 6 10=false from rfl),q8k (show Nat.beq 6 10=false from rfl),q8j (show Nat.beq 6 10=false from rfl),q8l (show Nat.beq 7 10=false from rfl),q8k (show Nat.beq 7 10=false from rfl),q8j (show Nat.beq 7 10=false from rfl),q8l (show Nat.beq 8 10=false from rfl),q8k (show Nat.beq 8 10=false from rfl),q8j (show Nat.beq 8 10=false from rfl),q33 _ _ _ (q3s 10 (fun q=>qfd _ q) l15),q33 _ _ _ (q3s 10 (fun q=>qc2 _ .i64 q) r3.1),z43]) (by simp only [fzH,fzB,ug,Nat.beq,cond_true,cond_false,qk3,qb6,q5p,qhq,qcl,qhs,qcn,qel,qek,qej,qcm,qhr,qjz,qhp,qht,qmy,qkh,z0e q16,q8l (show Nat.beq 0 10=false from rfl),q8k (show Nat.beq 0 10=false from rfl),q8j (show Nat.beq 0 10=false from rfl),q8l (show Nat.beq 1 10=false from rfl),q8k (show Nat.beq 1 10=false from rfl),q8j (show Nat.beq 1 10=false from rfl),q8l (show Nat.beq 2 10=false from rfl),q8k (show Nat.beq 2 10=false from rfl),q8j (show Nat.beq 2 10=false from rfl),q8l (show Nat.beq 3 10=false from rfl),q8k (show Nat.beq 3 10=false from rfl),q8j (show Nat.beq 3 10=false from rfl),q8l (show Nat.beq 4 10=false from rfl),q8k (show Nat.beq 4 10=false from rfl),q8j (show Nat.beq 4 10=false from rfl),q8l (show Nat.beq 5 10=false from rfl),q8k (show Nat.beq 5 10=false from rfl),q8j (show Nat.beq 5 10=false from rfl),q8l (show Nat.beq 6 10=false from rfl),q8k (show Nat.beq 6 10=false from rfl),q8j (show Nat.beq 6 10=false from rfl),q8l (show Nat.beq 7 10=false from rfl),q8k (show Nat.beq 7 10=false from rfl),q8j (show Nat.beq 7 10=false from rfl),q8l (show Nat.beq 8 10=false from rfl),q8k (show Nat.beq 8 10=false from rfl),q8j (show Nat.beq 8 10=false from rfl),q33 _ _ _ (q3s 10 (fun q=>qfd _ q) l15),q33 _ _ _ (q3s 10 (fun q=>qc2 _ .i64 q) r3.1),z43]))) NZ ?_
 obtain ⟨x45,h46,hF⟩:=q00 hF
 obtain ⟨x47,h48,hF⟩:=q00 hF
 refine go ?_
 refine z5b Tryz.tb_ok [] (by kernel_rfl) ?_
 refine gd ?_
 refine RD.ix h46 ?_
 refine gd ?_
 refine RD.q rfl (q3t rfl rfl (qs8 un22.h (q0r if54.h) rfl h48)) (z5q (u:=.junk) (σ':=⟨[(8,.row [.sl 7 0 ((r3.1.length:Int).toNat) ((r3.1.length:Int).toNat)] 24),(7,.row (List.map q03 (l15.set z14.toNat (q0b.mk x45.Typex l44))).flatten 54),(6,.vec (List.map (cI .i64) r3.1).flatten 3 1 (t5 0)),(5,.row [.fn (.func 83) [] [.ptr 4 0 0,.ptr 3 0 0,.ptr 0 0 0,.ptr 5 0 0]] 115),(4,.row [.vl 6 (t5 0) 0 r3.1.length] 33),(3,.row [.map 2] 130),(2,.map (List.map (mE (fun x=>.i6 x) (fun x=>.i6 x)) r3.2.es) r3.2.cl),(1,.row [.nils] 24),(0,.row [.iM q03 p1.Nodes] 24)],11⟩) rfl (qyz q03 (q0r if54.h) qfj rfl rfl rfl rfl rfl rfl h48 rfl) rfl ?_)
 refine RD.done ⟨by kernel_rfl,trivial,?_⟩
 refine go ?_
 exact lC ⟨_,(l15.set z14.toNat (q0b.mk x45.Typex l44)),hF,rfl,rfl⟩
 rintro (_|m2) _ _ ⟨z42,l43,hF,rfl,rfl⟩
 cases hF
 unfold q1y at hF
 refine go ?_
 refine cF hF (fun h49 hF=>?_) (fun h49 hF=>?_)
 refine go ?_
 refine WPU.block ?_
 obtain ⟨x50,h51,hF⟩:=q00 hF
 obtain ⟨x52,h53,hF⟩:=q00 hF
 refine gr ?_
 refine z5a (fun tm σ=>tm=fr 68 [(2,.ptr 0 0 0),(4,.ptr 1 0 0),(5,.ptr 3 0 0),(8,.ptr 8 0 0),(9,.i6 z14),(10,.i6 x19),(11,.vl 10 (t28 0) 0 ((l43.set (0+z42.toNat) (q0c.mk x52.Feat ((qpn (fun a b=>a == b) r3.2 x50.To).getD 0))).length)),(22,.vl 6 (t5 0) 0 r3.1.length),(23,.i6 (r3.1.length:Int)),(24,.i6 z14),(38,.i6 (r26.length:Int)),(39,.i6 z42)]∧σ=⟨[(10,.vec (List.map q07 (l43.set (0+z42.toNat) (q0c.mk x52.Feat ((qpn (fun a b=>a == b) r3.2 x50.To).getD 0)))).flatten 66 2 (t28 0)),(8,.row [.sl 7 0 ((r3.1.length:Int).toNat) ((r3.1.length:Int).toNat)] 24),(7,.row (List.map q03 l15).flatten 54),(6,.vec (List.map (cI .i64) r3.1).flatten 3 1 (t5 0)),(5,.row [.fn (.func 83) [] [.ptr 4 0 0,.ptr 3 0 0,.ptr 0 0 0,.ptr 5 0 0]] 115),(4,.row [.vl 6 (t5 0) 0 r3.1.length] 33),(3,.row [.map 2] 130),(2,.map (List.map (mE (fun x=>.i6 x) (fun x=>.i6 x)) r3.2.es) r3.2.cl),(1,.row [.nils] 24),(0,.row [.iM q03 p1.Nodes] 24)],11⟩) ?_ ?_
 rintro _ _ ⟨rfl,rfl⟩
 refine go ?_
 exact lC ⟨_,(l43.set (0+z42.toNat) (q0c.mk x52.Feat ((qpn (fun a b=>a == b) r3.2 x50.To).getD 0))),hF,rfl,rfl⟩
 refine z5b Tryz.tb_ok [] (by kernel_rfl) ?_
 refine gd ?_
 refine RD.q rfl (q3t rfl rfl (q8m q07 un52.h (q0r if66.h) (by decide) q16 (vo rfl) h51)) ?_
 refine RD.q rfl (qeb un66.h rfl (q0r if3.h) rfl (qlz rfl) rfl) (RD.q (u:=.i6 x50.To) rfl (qxk q07 un3.h rfl q16 rfl rfl (qk1 h51) rfl) (RD.q (u:=.i6 ((qpn (fun a b=>a == b) r3.2 x50.To).getD 0)) rfl (z4e (kU:=(fun x=>.i6 x)) (vU:=(fun x=>.i6 x)) (m:=r3.2) (k:=x50.To) (zv:=0) (qsb un3.h) un130.h rfl rfl rfl if3.h rfl) ?_))
 refine RD.q rfl (q3t rfl rfl (q8m q07 un52.h (q0r if66.h) (by decide) q16 (vo rfl) h53)) ?_
 refine RD.q rfl (qeb un66.h rfl (q0r if3.h) rfl (qlz rfl) rfl) (z5q (u:=.junk) (σ':=⟨[(10,.vec (List.map q07 (l43.set (0+z42.toNat) (q0c.mk x52.Feat ((qpn (fun a b=>a == b) r3.2 x50.To).getD 0)))).flatten 66 2 (t28 0)),(8,.row [.sl 7 0 ((r3.1.length:Int).toNat) ((r3.1.length:Int).toNat)] 24),(7,.row (List.map q03 l15).flatten 54),(6,.vec (List.map (cI .i64) r3.1).flatten 3 1 (t5 0)),(5,.row [.fn (.func 83) [] [.ptr 4 0 0,.ptr 3 0 0,.ptr 0 0 0,.ptr 5 0 0]] 115),(4,.row [.vl 6 (t5 0) 0 r3.1.length] 33),(3,.row [.map 2] 130),(2,.map (List.map (mE (fun x=>.i6 x) (fun x=>.i6 x)) r3.2.es) r3.2.cl),(1,.row [.nils] 24),(0,.row [.iM q03 p1.Nodes] 24)],11⟩) rfl (st_vf (y:=(q0c.mk x52.Feat ((qpn (fun a b=>a == b) r3.2 x50.To).getD 0))) q07 (q0r if3.h) q16 rfl rfl rfl rfl rfl rfl (qk1 h53) rfl rfl) rfl ?_)
 refine RD.done ⟨by kernel_rfl,trivial,?_⟩
 refine go ?_
 exact ⟨_,_,⟨rfl,rfl⟩,NZ,z5d ⟨rfl,rfl,rfl,rfl,rfl,rfl,(by simp only [List.length_set]; rfl),rfl,rfl,rfl,rfl,rfl,trivial⟩ rfl⟩
 refine go ?_
 exact xC ⟨l43,hF,rfl,rfl⟩
 refine go ?_
 exact xC ⟨l15,hF,rfl,rfl⟩
def qmz (p1:GFS) (n:Nat)  : Option (GFS×Int) :=
 q02 (q3m n p1 0) fun r9 =>
 some (r9,0)
def qn0 (p1:GFS) (n:Nat):Nat→Int→Option (GFS×Int)
 | 0,_=>none
 | m1+1,z8 =>
  cond (decide (z8<(p1.Nodes.length:Int)))
   (q02 (q0j p1.Nodes z8) fun x12 =>
   q02 (qlr n x12 (p1.Nodes.length:Int)) fun r14 =>
   cond (r14 != 0)
    (some ((GFS.mk []),r14))
    ((qn0 p1 n m1) (IntKind.i64.wrap (z8+1))))
   (qmz p1 n)
def qhu (n:Nat) (p1:GFS) (p2:Int):Option (GFS) :=
 q02 (q3m n p1 p2) fun r3 =>
 some r3
theorem qs5 (n:Nat) (p1:GFS) (p2:Int) (r:GFS) (hF:qhu n p1 p2=some r):EvU Tryz.prog 62 [.agg [.isl false (List.map q03 p1.Nodes)],.int .i64 p2] ⟨[],0⟩ (fun u _=>u = .agg [.isl false (List.map q03 r.Nodes)]∧Bel 0 u):=by
 unfold qhu at hF
 refine bg2 8 fn62 ?_
 obtain ⟨r3,h4,hF⟩:=q00 hF
 refine go ?_
 refine RS.cl rfl (pC (qj3 n p1 p2 r3 h4) _) fn65 ?_
 refine go ?_
 obtain rfl:=sI hF
 exact rT (qg1 (q78 un24.h rfl (q0r if24.h) rfl rfl rfl) (q24)) (z5j _ rfl)
def q9v (z6:Int) (rc1:Int→Option (Int))  : Option (Int) :=
 rc1 (IntKind.i64.wrap (z6+1))
def q5c (p1:List q0c) (z6:Int) (rc1:Int→Option (Int)):Nat→Int→Option (Int)
 | 0,_=>none
 | m2+1,z23 =>
  cond (decide (z23<z6))
   (q02 (q0j p1 z23) fun x25 =>
   q02 (q0j p1 z6) fun x27 =>
   cond (x25.Feat == x27.Feat)
    (some 4)
    ((q5c p1 z6 rc1 m2) (IntKind.i64.wrap (z23+1))))
   (q9v z6 rc1)
def q9u   : Option (Int) :=
 some 0
def q2n (p1:List q0c) (p2:Int) (n:Nat):Nat→Int→Option (Int)
 | 0,_=>none
 | m1+1,z6 =>
  cond (decide (z6<(p1.length:Int)))
   (q02 (q02 (q0j p1 z6) fun x8 =>
   cond (decide (x8.Feat<0))
    (some true)
    (q02 (q0j p1 z6) fun x11 =>
    cond (decide (x11.To<0))
     (some true)
     (q02 (q0j p1 z6) fun x14 =>
     some (decide (x14.To ≥ p2))))) fun b16 =>
   cond b16
    (some 2)
    (q5c p1 z6 (q2n p1 p2 n m1) n 0))
   (q9u)
def qfp (n:Nat) (p1:List q0c) (p2:Int):Option (Int) :=
 q2n p1 p2 n n 0
theorem qr9 (n:Nat) (p1:List q0c) (p2:Int) (r:Int) (hF:qfp n p1 p2=some r):EvU Tryz.prog 87 [.isl false (List.map q07 p1),.int .i64 p2] ⟨[],0⟩ (fun u _=>u = .int .i64 r∧Bel 0 u):=by
 unfold qfp at hF
 refine bg2 52 fn87 ?_
 refine go ?_
 refine gS (l':=[(0,_),(1,_),(5,_)]) ?_
 refine z59 (fun m tm σ=>∃ z6:Int,q2n p1 p2 n m z6=some r∧tm=fr 52 [(0,.iM q07 p1),(1,.i6 p2),(5,.i6 z6)]∧σ=⟨[],0⟩) (fun tm σ=>q9u=some r∧tm=fr 52 []∧σ=⟨[],0⟩) n ⟨0,hF,rfl,rfl⟩ ?_ ?_
 rintro _ _ ⟨hF,rfl,rfl⟩
 unfold q9u at hF
 exact gx hF
 rintro (_|m1) _ _ ⟨z6,hF,rfl,rfl⟩
 cases hF
 unfold q2n at hF
 refine go ?_
 refine cF hF (fun h7 hF=>?_) (fun h7 hF=>?_)
 refine go ?_
 refine WPU.block ?_
 obtain ⟨b16,h17,hF⟩:=q00 hF
 refine gn ?_
 refine z5a (fun tm σ=>tm=fr 52 [(0,.iM q07 p1),(1,.i6 p2),(5,.i6 z6),(35,.bool b16)]∧σ=⟨[],0⟩) ?_ ?_
 rintro _ _ ⟨rfl,rfl⟩
 refine go ?_
 refine cF hF (fun h18 hF=>?_) (fun h18 hF=>?_)
 exact gx hF
 refine go ?_
 refine gS (l':=[(0,_),(1,_),(5,_),(6,_)]) ?_
 refine z59 (fun m tm σ=>∃ z23:Int,q5c p1 z6 (q2n p1 p2 n m1) m z23=some r∧tm=fr 52 [(0,.iM q07 p1),(1,.i6 p2),(5,.i6 z6),(6,.i6 z23)]∧σ=⟨[],0⟩) (fun tm σ=>q9v z6 (q2n p1 p2 n m1)=some r∧tm=fr 52 [(0,.iM q07 p1),(1,.i6 p2),(5,.i6 z6)]∧σ=⟨[],0⟩) n ⟨0,hF,rfl,rfl⟩ ?_ ?_
 rintro _ _ ⟨hF,rfl,rfl⟩
 unfold q9v at hF
 refine go ?_
 exact lC ⟨_,hF,rfl,rfl⟩
 rintro (_|m2) _ _ ⟨z23,hF,rfl,rfl⟩
 cases hF
 unfold q5c at hF
 refine go ?_
 refine cF hF (fun h24 hF=>?_) (fun h24 hF=>?_)
 refine go ?_
 refine WPU.block ?_
 obtain ⟨x25,h26,hF⟩:=q00 hF
 obtain ⟨x27,h28,hF⟩:=q00 hF
 refine go ?_
 refine z5b Tryz.tb_ok [] (by kernel_rfl) ?_
 refine gd ?_
 refine RD.ix h26 ?_
 refine gd ?_
 refine RD.ix h28 ?_
 refine gd ?_
 refine RD.done ⟨by kernel_rfl,trivial,?_⟩
 refine go ?_
 refine cF hF (fun h29 hF=>?_) (fun h29 hF=>?_)
 exact gx hF
 refine go ?_
 exact lC ⟨_,hF,rfl,rfl⟩
 refine go ?_
 exact xC ⟨hF,rfl,rfl⟩
 obtain ⟨x8,h9,h17⟩:=q00 h17
 rcases gB h17 with ⟨h10,h17⟩ | ⟨h10,h17⟩
 obtain rfl:=sI h17
 refine go ?_
 refine RS.ix h9 ?_
 refine go ?_
 exact xC ⟨rfl,rfl⟩
 obtain ⟨x11,h12,h17⟩:=q00 h17
 rcases gB h17 with ⟨h13,h17⟩ | ⟨h13,h17⟩
 obtain rfl:=sI h17
 refine go ?_
 refine RS.ix h9 ?_
 refine go ?_
 refine RS.ix h12 ?_
 refine go ?_
 exact xC ⟨rfl,rfl⟩
 obtain ⟨x14,h15,h17⟩:=q00 h17
 obtain rfl:=sI h17
 refine go ?_
 refine RS.ix h9 ?_
 refine go ?_
 refine RS.ix h12 ?_
 refine go ?_
 refine RS.ix h15 ?_
 refine go ?_
 exact xC ⟨rfl,rfl⟩
 refine go ?_
 exact xC ⟨hF,rfl,rfl⟩
def q9w   : Option (Int) :=
 some 0
def q5d (p1:GFS) (n:Nat):Nat→Int→Option (Int)
 | 0,_=>none
 | m1+1,z6 =>
  cond (decide (z6<(p1.Nodes.length:Int)))
   (q02 (q0j p1.Nodes z6) fun x8 =>
   cond (decide (x8.Typex<0))
    (some 2)
    (q02 (q0j p1.Nodes z6) fun x11 =>
    q02 (qfp n x11.Arcs (p1.Nodes.length:Int)) fun r13 =>
    cond (r13 != 0)
     (some r13)
     ((q5d p1 n m1) (IntKind.i64.wrap (z6+1)))))
   (q9w)
def qcg (n:Nat) (p1:GFS):Option (Int) :=
 cond ((p1.Nodes.length:Int) == 0)
  (some 1)
  (cond (decide ((p1.Nodes.length:Int) > 4096))
   (some 7)
   (q5d p1 n n 0))
theorem qra (n:Nat) (p1:GFS) (r:Int) (hF:qcg n p1=some r):EvU Tryz.prog 67 [.agg [.isl false (List.map q03 p1.Nodes)]] ⟨[],0⟩ (fun u _=>u = .int .i64 r∧Bel 0 u):=by
 unfold qcg at hF
 refine bg1 40 fn67 ?_
 refine go ?_
 refine cF hF (fun h2 hF=>?_) (fun h2 hF=>?_)
 exact gx hF
 refine go ?_
 refine cF hF (fun h3 hF=>?_) (fun h3 hF=>?_)
 exact gx hF
 refine go ?_
 refine gS (l':=[(1,_),(3,_)]) ?_
 refine z59 (fun m tm σ=>∃ z6:Int,q5d p1 n m z6=some r∧tm=fr 40 [(1,.ptr 0 0 0),(3,.i6 z6)]∧σ=⟨[(0,.row [.iM q03 p1.Nodes] 24)],1⟩) (fun tm σ=>q9w=some r∧tm=fr 40 []∧σ=⟨[(0,.row [.iM q03 p1.Nodes] 24)],1⟩) n ⟨0,hF,rfl,rfl⟩ ?_ ?_
 rintro _ _ ⟨hF,rfl,rfl⟩
 unfold q9w at hF
 exact gx hF
 rintro (_|m1) _ _ ⟨z6,hF,rfl,rfl⟩
 cases hF
 unfold q5d at hF
 refine go ?_
 refine cF hF (fun h7 hF=>?_) (fun h7 hF=>?_)
 refine go ?_
 refine WPU.block ?_
 obtain ⟨x8,h9,hF⟩:=q00 hF
 refine go ?_
 refine RS.ix h9 ?_
 refine go ?_
 refine cF hF (fun h10 hF=>?_) (fun h10 hF=>?_)
 exact gx hF
 obtain ⟨x11,h12,hF⟩:=q00 hF
 obtain ⟨r13,h14,hF⟩:=q00 hF
 refine go ?_
 refine z5b Tryz.tb_ok [] (by kernel_rfl) ?_
 refine gd ?_
 refine RD.ix h12 ?_
 refine gd ?_
 refine z5l rfl (pC (qr9 n x11.Arcs (p1.Nodes.length:Int) r13 h14)) fn87 ?_
 refine gd ?_
 refine RD.done ⟨by kernel_rfl,trivial,?_⟩
 refine go ?_
 refine cF hF (fun h15 hF=>?_) (fun h15 hF=>?_)
 exact gx hF
 refine go ?_
 exact lC ⟨_,hF,rfl,rfl⟩
 refine go ?_
 exact xC ⟨hF,rfl,rfl⟩
def q3q (p1:List q0c) (z6:Int) (l7:List q0c) (rc1:Int→(List q0c)→Option ((List q0c))) (z18:Int):Option ((List q0c)) :=
 q0z ((0:Int)≤z18∧z18≤((l7.length:Nat):Int)) (
 q0z (0+z18.toNat≤l7.length) (
 q0z (((l7.drop 0).take z18.toNat).length*16≤140737488355328∧((l7.drop 0).take z18.toNat).length≤140737488355328) (
 q02 (q0j p1 z6) fun x22 =>
 q0z ((((l7.drop 0).take z18.toNat).length+1)*16≤140737488355328∧((l7.drop 0).take z18.toNat).length+1≤140737488355328) (
 q0z ((0:Int)≤z18∧z18≤((l7.length:Nat):Int)) (
 q0z ((0+z18.toNat)+(l7.length - z18.toNat)≤l7.length) (
 q0z (((((l7.drop 0).take z18.toNat)++[x22]).length+((l7.drop (0+z18.toNat)).take (l7.length - z18.toNat)).length)*16≤140737488355328∧(((l7.drop 0).take z18.toNat)++[x22]).length+((l7.drop (0+z18.toNat)).take (l7.length - z18.toNat)).length≤140737488355328) (
 rc1 (IntKind.i64.wrap (z6+1)) ((((l7.drop 0).take z18.toNat)++[x22])++((l7.drop (0+z18.toNat)).take (l7.length - z18.toNat))))))))))
def q3r (p1:List q0c) (z6:Int) (l7:List q0c) (rc1:Int→(List q0c)→Option ((List q0c))):Nat→Int→Option ((List q0c))
 | 0,_=>none
 | m2+1,z17 =>
  q02 (cond (decide (z17 > 0))
   (q02 (q0j l7 (IntKind.i64.wrap (z17 - 1))) fun x29 =>
   q02 (q0j p1 z6) fun x31 =>
   some (decide (x29.Feat > x31.Feat)))
   (some false)) fun b33 =>
  cond b33
   ((q3r p1 z6 l7 rc1 m2) (IntKind.i64.wrap (z17 - 1)))
   (q3q p1 z6 l7 rc1 z17)
def q70  (l9:List q0c):Option ((List q0c)) :=
 some l9
def q21 (p1:List q0c) (n:Nat):Nat→Int→(List q0c)→Option ((List q0c))
 | 0,_,_=>none
 | m1+1,z6,l7 =>
  cond (decide (z6<(p1.length:Int)))
   (q3r p1 z6 l7 (q21 p1 n m1) n (l7.length:Int))
   (q70 l7)
def q8u (n:Nat) (p1:List q0c):Option ((List q0c)) :=
 q21 p1 n n 0 ([]:List q0c)
theorem qg9 (n:Nat) (p1:List q0c) (r:(List q0c)) (hF:q8u n p1=some r):EvU Tryz.prog 89 [.isl false (List.map q07 p1)] ⟨[],0⟩ (fun u σ'=>∃ t,u = .vl 0 t 0 r.length∧σ'=⟨[(0,.vec (List.map q07 r).flatten 66 2 t)],0+1⟩):=by
 unfold q8u at hF
 refine bg1 52 fn89 ?_
 refine gr ?_
 refine gr ?_
 refine gr ?_
 refine WPU.ghost (tm':=fr 52 [(0,.iM q07 p1),(3,.vl 0 0 0 (([]:List q0c).length)),(4,.i6 0)]) (σ':=⟨[(0,.vec (List.map q07 ([]:List q0c)).flatten 66 2 0)],1⟩) (Gh.trans (z5g 3 66 2 (by decide) NZ rfl rfl) (z5d ⟨rfl,rfl,rfl,trivial⟩ rfl)) NZ ?_
 refine gS (l':=[(0,_),(3,_),(4,_)]) ?_
 refine z59 (fun m tm σ=>∃ z6:Int,∃ l7:List q0c,∃ t8:Nat,q21 p1 n m z6 l7=some r∧tm=fr 52 [(0,.iM q07 p1),(3,.vl 0 t8 0 l7.length),(4,.i6 z6)]∧σ=⟨[(0,.vec (List.map q07 l7).flatten 66 2 t8)],1⟩) (fun tm σ=>∃ l9:List q0c,∃ t10:Nat,q70 l9=some r∧tm=fr 52 [(3,.vl 0 t10 0 l9.length)]∧σ=⟨[(0,.vec (List.map q07 l9).flatten 66 2 t10)],1⟩) n ⟨0,([]:List q0c),0,hF,rfl,rfl⟩ ?_ ?_
 rintro _ _ ⟨l9,t10,hF,rfl,rfl⟩
 unfold q70 at hF
 refine go ?_
 obtain rfl:=sI hF
 exact ⟨.inr rfl,[.vl 0 t10 0 l9.length],q28 rfl q24,.vl 0 t10 0 l9.length,⟨[(0,.vec (List.map q07 l9).flatten 66 2 t10)],1⟩,NZ,Gh.trans (z5p (fun k=>Nat.beq k 0)) (z5t (n1:=1) [] rfl rfl NZ NL BUL.h BH.h),t10,rfl,rfl⟩
 rintro (_|m1) _ _ ⟨z6,l7,t8,hF,rfl,rfl⟩
 cases hF
 unfold q21 at hF
 refine go ?_
 refine cF hF (fun h11 hF=>?_) (fun h11 hF=>?_)
 refine go ?_
 refine WPU.block ?_
 refine go ?_
 refine gS (l':=[(0,_),(3,_),(4,_),(5,_)]) ?_
 refine z59 (fun m tm σ=>∃ z17:Int,q3r p1 z6 l7 (q21 p1 n m1) m z17=some r∧tm=fr 52 [(0,.iM q07 p1),(3,.vl 0 t8 0 l7.length),(4,.i6 z6),(5,.i6 z17)]∧σ=⟨[(0,.vec (List.map q07 l7).flatten 66 2 t8)],1⟩) (fun tm σ=>∃ z18:Int,q3q p1 z6 l7 (q21 p1 n m1) z18=some r∧tm=fr 52 [(0,.iM q07 p1),(3,.vl 0 t8 0 l7.length),(4,.i6 z6),(5,.i6 z18)]∧σ=⟨[(0,.vec (List.map q07 l7).flatten 66 2 t8)],1⟩) n ⟨(l7.length:Int),hF,rfl,rfl⟩ ?_ ?_
 rintro _ _ ⟨z18,hF,rfl,rfl⟩
 unfold q3q at hF
 obtain ⟨h19,hF⟩:=q06 hF
 obtain ⟨h20,hF⟩:=q06 hF
 obtain ⟨h21,hF⟩:=q06 hF
 refine go ?_
 refine RS.q (u:=.vl 0 t8 0 z18.toNat) rfl (qaw rfl qrq (z2b rfl) qrq (z1d q07 un52.h (q0r if66.h) q16 (vo rfl) (Nat.le_of_eq (Nat.zero_add _)) (qw6 h19.1 h19.2))) (RS.q (u:=.vl 1 0 0 (((l7.drop 0).take z18.toNat).length)) (σ':=⟨[(1,.vec (List.map q07 ((l7.drop 0).take z18.toNat)).flatten 66 2 0),(0,.vec (List.map q07 l7).flatten 66 2 t8)],2⟩) rfl (qau rfl rfl rfl rfl (qrx q07 ((l7.drop 0).take z18.toNat) un52.h un52.h if66.h rfl (quq q07 q16 (vo rfl) h20) h21)) ?_)
 obtain ⟨x22,h23,hF⟩:=q00 hF
 obtain ⟨h24,hF⟩:=q06 hF
 refine go ?_
 refine RS.ix h23 ?_
 refine go ?_
 refine RS.q (u:=.sl 2 0 1 1) (σ':=⟨[(2,.row (q07 x22) 66),(1,.vec (List.map q07 ((l7.drop 0).take z18.toNat)).flatten 66 2 0),(0,.vec (List.map q07 l7).flatten 66 2 t8)],3⟩) rfl (q6h un52.h if66.h rfl rfl rfl rfl rfl rfl rfl) ?_
 refine RS.g ?_
 obtain ⟨h25,hF⟩:=q06 hF
 obtain ⟨h26,hF⟩:=q06 hF
 obtain ⟨h27,hF⟩:=q06 hF
 refine go ?_
 refine RS.q (u:=.vl 0 t8 (0+z18.toNat) (l7.length - z18.toNat)) rfl (qaw rfl (z2b rfl) qrq qrq (z1d q07 un52.h (q0r if66.h) q16 (vo rfl) (Nat.le_of_eq (Nat.zero_add _)) (qw7 h25.1 h25.2))) (RS.q (u:=.vl 1 2 0 (((((l7.drop 0).take z18.toNat)++[x22])++((l7.drop (0+z18.toNat)).take (l7.length - z18.toNat))).length)) (σ':=⟨[(2,.row (q07 x22) 66),(1,.vec (List.map q07 ((((l7.drop 0).take z18.toNat)++[x22])++((l7.drop (0+z18.toNat)).take (l7.length - z18.toNat)))).flatten 66 2 2),(0,.vec (List.map q07 l7).flatten 66 2 t8)],3⟩) rfl (qau rfl rfl rfl rfl (ql9 q07 ((l7.drop (0+z18.toNat)).take (l7.length - z18.toNat)) un52.h un52.h if66.h rfl q16 rfl (quq q07 q16 (vo rfl) h26) h27)) ?_)
 refine go ?_
 exact ⟨m1,_,_,Nat.lt_succ_self _,⟨(IntKind.i64.wrap (z6+1)),((((l7.drop 0).take z18.toNat)++[x22])++((l7.drop (0+z18.toNat)).take (l7.length - z18.toNat))),2,hF,rfl,rfl⟩,NZ,Gh.trans (Gh.sub (l':=[(0,.iM q07 p1),(3,.vl 1 2 0 (((((l7.drop 0).take z18.toNat)++[x22])++((l7.drop (0+z18.toNat)).take (l7.length - z18.toNat))).length)),(4,.i6 (IntKind.i64.wrap (z6+1)))]) ⟨rfl,rfl,rfl,trivial⟩) (Gh.trans (Gh.mv (l':=[(0,.iM q07 p1),(3,.vl 0 2 0 (((((l7.drop 0).take z18.toNat)++[x22])++((l7.drop (0+z18.toNat)).take (l7.length - z18.toNat))).length)),(4,.i6 (IntKind.i64.wrap (z6+1)))]) (h':=[(2,.row (q07 x22) 66),(0,.vec (List.map q07 ((((l7.drop 0).take z18.toNat)++[x22])++((l7.drop (0+z18.toNat)).take (l7.length - z18.toNat)))).flatten 66 2 2)]) 0 1 NZ rfl rfl (by simp only [rS,rU,rUL,qey,mvN,Nat.beq,cond_true,cond_false]) rfl (by simp only [avH,rB,qo0,rUL,rU,qey,qu8,mvN,Nat.beq,cond_true,cond_false,and_self])) (Gh.toC (n1:=1) ⟨rfl,rfl,rfl,trivial⟩ rfl NZ (by simp)))⟩
 rintro (_|m2) _ _ ⟨z17,hF,rfl,rfl⟩
 cases hF
 unfold q3r at hF
 obtain ⟨b33,h34,hF⟩:=q00 hF
 refine gn ?_
 refine z5a (fun tm σ=>tm=fr 52 [(0,.iM q07 p1),(3,.vl 0 t8 0 l7.length),(4,.i6 z6),(5,.i6 z17),(30,.bool b33)]∧σ=⟨[(0,.vec (List.map q07 l7).flatten 66 2 t8)],1⟩) ?_ ?_
 rintro _ _ ⟨rfl,rfl⟩
 refine go ?_
 refine cF hF (fun h35 hF=>?_) (fun h35 hF=>?_)
 refine go ?_
 refine WPU.block ?_
 refine go ?_
 exact lC ⟨_,hF,rfl,rfl⟩
 refine go ?_
 exact xC ⟨z17,hF,rfl,rfl⟩
 rcases gB h34 with ⟨h28,h34⟩ | ⟨h28,h34⟩
 obtain ⟨x29,h30,h34⟩:=q00 h34
 obtain ⟨x31,h32,h34⟩:=q00 h34
 obtain rfl:=sI h34
 refine z5b Tryz.tb_ok [] (by kernel_rfl) ?_
 refine gd ?_
 refine RD.w rfl (q3t rfl rfl (q8m q07 un52.h (q0r if66.h) (by decide) q16 (vo rfl) h30)) ?_
 refine RD.w rfl (qeb un66.h rfl (q0r if3.h) rfl (qlz rfl) rfl) (RD.w (u:=.i6 x29.Feat) rfl (qxk q07 un3.h rfl q16 rfl rfl (qk1 h30) rfl) ?_)
 refine gd ?_
 refine RD.ix h32 ?_
 refine gd ?_
 refine RD.done ⟨by kernel_rfl,trivial,?_⟩
 refine go ?_
 exact xC ⟨rfl,rfl⟩
 obtain rfl:=sI h34
 refine z5b Tryz.tb_ok [] (by kernel_rfl) ?_
 refine gd ?_
 refine RD.done ⟨by kernel_rfl,trivial,?_⟩
 refine go ?_
 exact xC ⟨rfl,rfl⟩
 refine go ?_
 exact xC ⟨l7,t8,hF,rfl,rfl⟩
def q1j (z23:Int) (rc1:Int→(List Int)→(List Int)→Option ((List Int)×(List Int))) (l36:List Int) (l37:List Int):Option ((List Int)×(List Int)) :=
 rc1 (IntKind.i64.wrap (z23+1)) l36 l37
def q30  (l27:List Int) (l28:List Int):Option ((List Int)×(List Int)) :=
 some (l27,l28)
def q0w (p2:List q0b) (r12:List q0c) (self:Int→(List q0b)→(List Int)→(List Int)→Option ((List Int)×(List Int))):Nat→Int→(List Int)→(List Int)→Option ((List Int)×(List Int))
 | 0,_,_,_=>none
 | m1+1,z23,l24,l25 =>
  cond (decide (z23<(r12.length:Int)))
   (q02 (q0j r12 z23) fun x31 =>
   q02 (q0j l24 x31.To) fun x33 =>
   cond (decide (x33<0))
    (q02 (q0j r12 z23) fun x39 =>
    q02 (self x39.To p2 l24 l25) fun r41 =>
    q1j z23 (q0w p2 r12 self m1) r41.1 r41.2)
    (q1j z23 (q0w p2 r12 self m1) l24 l25))
   (q30 l24 l25)
def q3b (n:Nat) (self:Int→(List q0b)→(List Int)→(List Int)→Option ((List Int)×(List Int))) (p1:Int) (p2:List q0b) (p3:List Int) (p5:List Int):Option ((List Int)×(List Int)) :=
 q02 (q0j p3 p1) fun x7 =>
 q0z ((p5.length+1)*8≤140737488355328∧p5.length+1≤140737488355328) (
 q02 (q0j p2 p1) fun x10 =>
 q02 (q8u n x10.Arcs) fun r12 =>
 q0w p2 r12 self n 0 (p3.set (0+p1.toNat) (p5.length:Int)) (p5++[p1]))
def q14:Nat→Int→(List q0b)→(List Int)→(List Int)→Option ((List Int)×(List Int))
 | 0,_,_,_,_=>none
 | n+1,p1,p2,p3,p5=>q3b n (q14 n) p1 p2 p3 p5
theorem q8v:∀ (n:Nat) (p1:Int) (p2:List q0b) (p3:List Int) (p5:List Int) (r:(List Int)×(List Int)),q14 n p1 p2 p3 p5=some r→∀ t4 t6:Nat,EvU Tryz.prog 88 [.ptr 0 0 0,.int .i64 p1] ⟨[(0,.row [.isl false (List.map q03 p2),.vl 1 t4 0 p3.length,.vl 2 t6 0 p5.length] 139),(1,.vec (List.map (cI .i64) p3).flatten 3 1 t4),(2,.vec (List.map (cI .i64) p5).flatten 3 1 t6)],3⟩ (fun u σ'=>∃ t:Nat→Nat,u = .tup []∧σ'=⟨[(0,.row [.isl false (List.map q03 p2),.vl 1 t4 0 r.1.length,.vl 2 (t 0) 0 r.2.length] 139),(1,.vec (List.map (cI .i64) r.1).flatten 3 1 t4),(2,.vec (List.map (cI .i64) r.2).flatten 3 1 (t 0))],3⟩)
 | 0,p1,p2,p3,p5,r,hF=>by cases hF
 | n+1,p1,p2,p3,p5,r,hF=>by
  have ih:=q8v n
  unfold q14 q3b at hF
  intro t4 t6
  refine bg2 62 fn88 ?_
  obtain ⟨x7,h8,hF⟩:=q00 hF
  refine gn ?_
  refine z5a (fun tm σ=>tm=fr 62 [(0,.ptr 0 0 0),(1,.i6 p1)]∧σ=⟨[(0,.row [.iM q03 p2,.vl 1 t4 0 ((p3.set (0+p1.toNat) (p5.length:Int)).length),.vl 2 t6 0 p5.length] 139),(1,.vec (List.map (cI .i64) (p3.set (0+p1.toNat) (p5.length:Int))).flatten 3 1 t4),(2,.vec (List.map (cI .i64) p5).flatten 3 1 t6)],3⟩) ?_ ?_
  rintro _ _ ⟨rfl,rfl⟩
  obtain ⟨h9,hF⟩:=q06 hF
  refine go ?_
  refine RS.q (u:=.ptr 0 0 0) rfl (qe4 rfl rfl) ?_
  refine go ?_
  refine RS.g ?_
  refine RS.g ?_
  refine RS.q (u:=.ptr 0 0 0) rfl (qe4 rfl rfl) ?_
  obtain ⟨x10,h11,hF⟩:=q00 hF
  obtain ⟨r12,h13,hF⟩:=q00 hF
  refine go ?_
  refine RS.q (u:=.ptr 0 0 0) rfl (qe4 rfl rfl) ?_
  refine go ?_
  refine RS.ix h11 ?_
  refine go ?_
  refine z5e (R:=fun u σ'=>u = .vl 4 0 0 r12.length∧σ'=⟨[(4,.vec (List.map q07 r12).flatten 66 2 0),(3,.row [.i6 p1] 3),(0,.row [.iM q03 p2,.vl 1 t4 0 ((p3.set (0+p1.toNat) (p5.length:Int)).length),.vl 2 (t6+1) 0 ((p5++[p1]).length)] 139),(1,.vec (List.map (cI .i64) (p3.set (0+p1.toNat) (p5.length:Int))).flatten 3 1 t4),(2,.vec (List.map (cI .i64) (p5++[p1])).flatten 3 1 (t6+1))],5⟩) (args:=[.iM q07 x10.Arcs]) rfl (q4j rfl rfl fn89 hb89 rfl rfl) (z5s q07 (qg9 n x10.Arcs r12 h13) _ 4 rfl) rfl rfl ?_
  rintro _ _ ⟨rfl,rfl⟩
  refine go ?_
  refine gS (l':=[(0,_),(4,_),(5,_)]) ?_
  refine z59 (fun m tm σ=>∃ z23:Int,∃ l24:List Int,∃ l25:List Int,∃ t26:Nat,q0w p2 r12 (q14 n) m z23 l24 l25=some r∧tm=fr 62 [(0,.ptr 0 0 0),(4,.vl 4 0 0 r12.length),(5,.i6 z23)]∧σ=⟨[(4,.vec (List.map q07 r12).flatten 66 2 0),(3,.row [.i6 p1] 3),(0,.row [.iM q03 p2,.vl 1 t4 0 l24.length,.vl 2 t26 0 l25.length] 139),(1,.vec (List.map (cI .i64) l24).flatten 3 1 t4),(2,.vec (List.map (cI .i64) l25).flatten 3 1 t26)],5⟩) (fun tm σ=>∃ l27:List Int,∃ l28:List Int,∃ t29:Nat,q30 l27 l28=some r∧tm=fr 62 []∧σ=⟨[(4,.vec (List.map q07 r12).flatten 66 2 0),(3,.row [.i6 p1] 3),(0,.row [.iM q03 p2,.vl 1 t4 0 l27.length,.vl 2 t29 0 l28.length] 139),(1,.vec (List.map (cI .i64) l27).flatten 3 1 t4),(2,.vec (List.map (cI .i64) l28).flatten 3 1 t29)],5⟩) n ⟨0,(p3.set (0+p1.toNat) (p5.length:Int)),(p5++[p1]),(t6+1),hF,rfl,rfl⟩ ?_ ?_
  rintro _ _ ⟨l27,l28,t29,hF,rfl,rfl⟩
  unfold q30 at hF
  refine go ?_
  obtain rfl:=sI hF
  exact ⟨.inl rfl,[],q24,.tup [],⟨[(0,.row [.iM q03 p2,.vl 1 t4 0 l27.length,.vl 2 t29 0 l28.length] 139),(1,.vec (List.map (cI .i64) l27).flatten 3 1 t4),(2,.vec (List.map (cI .i64) l28).flatten 3 1 t29)],3⟩,NL,z5t (n1:=3) [] rfl rfl NL NL BUL.h BH.h,stF [t29],rfl,rfl⟩
  rintro (_|m1) _ _ ⟨z23,l24,l25,t26,hF,rfl,rfl⟩
  cases hF
  unfold q0w at hF
  refine go ?_
  refine cF hF (fun h30 hF=>?_) (fun h30 hF=>?_)
  refine go ?_
  refine WPU.block ?_
  obtain ⟨x31,h32,hF⟩:=q00 hF
  obtain ⟨x33,h34,hF⟩:=q00 hF
  refine go ?_
  refine z5b Tryz.tb_ok [] (by kernel_rfl) ?_
  refine gd ?_
  refine RD.q (u:=.ptr 0 0 0) rfl (qe4 rfl rfl) ?_
  refine gd ?_
  refine RD.q rfl (q3t rfl rfl (q8m q07 un52.h (q0r if66.h) (by decide) q16 (vo rfl) h32)) ?_
  refine RD.q rfl (qeb un66.h rfl (q0r if3.h) rfl (qlz rfl) rfl) (RD.q (u:=.i6 x31.To) rfl (qxk q07 un3.h rfl q16 rfl rfl (qk1 h32) rfl) ?_)
  refine RD.q rfl (q3t rfl rfl (q8m (cI .i64) un33.h (q0r if3.h) (by decide) (q5n .i64) (vo rfl) h34)) ?_
  refine RD.q rfl (q5i (cI .i64) (fun x=>.i6 x) un3.h rfl (fun _=>rfl) rfl rfl h34) ?_
  refine gd ?_
  refine RD.done ⟨by kernel_rfl,trivial,?_⟩
  refine gn ?_
  refine z5a (fun tm σ=>∃ l36:List Int,∃ l37:List Int,∃ t38:Nat,q1j z23 (q0w p2 r12 (q14 n) m1) l36 l37=some r∧tm=fr 62 [(0,.ptr 0 0 0),(4,.vl 4 0 0 r12.length),(5,.i6 z23)]∧σ=⟨[(4,.vec (List.map q07 r12).flatten 66 2 0),(3,.row [.i6 p1] 3),(0,.row [.iM q03 p2,.vl 1 t4 0 l36.length,.vl 2 t38 0 l37.length] 139),(1,.vec (List.map (cI .i64) l36).flatten 3 1 t4),(2,.vec (List.map (cI .i64) l37).flatten 3 1 t38)],5⟩) ?_ ?_
  rintro _ _ ⟨l36,l37,t38,hF,rfl,rfl⟩
  unfold q1j at hF
  refine go ?_
  exact lC ⟨_,l36,l37,t38,hF,rfl,rfl⟩
  refine cF hF (fun h35 hF=>?_) (fun h35 hF=>?_)
  obtain ⟨x39,h40,hF⟩:=q00 hF
  obtain ⟨r41,h42,hF⟩:=q00 hF
  refine go ?_
  refine RS.q rfl (q3t rfl rfl (q8m q07 un52.h (q0r if66.h) (by decide) q16 (vo rfl) h40)) ?_
  refine RS.q rfl (qeb un66.h rfl (q0r if3.h) rfl (qlz rfl) rfl) (RS.q (u:=.i6 x39.To) rfl (qxk q07 un3.h rfl q16 rfl rfl (qk1 h40) rfl) ?_)
  refine z5e (R:=fun u σ'=>∃ t43:Nat→Nat,u = .tup []∧σ'=⟨[(4,.vec (List.map q07 r12).flatten 66 2 0),(3,.row [.i6 p1] 3),(0,.row [.iM q03 p2,.vl 1 t4 0 r41.1.length,.vl 2 (t43 0) 0 r41.2.length] 139),(1,.vec (List.map (cI .i64) r41.1).flatten 3 1 t4),(2,.vec (List.map (cI .i64) r41.2).flatten 3 1 (t43 0))],5⟩) (args:=[.ptr 0 0 0,.i6 x39.To]) rfl (q4j rfl rfl fn88 hb88 rfl rfl) (EvU.st [0,1,2] (ih x39.To p2 l24 l25 r41 h42 t4 t26)) rfl rfl ?_
  rintro _ _ ⟨t43,rfl,rfl⟩
  refine go ?_
  exact xC ⟨r41.1,r41.2,(t43 0),hF,rfl,rfl⟩
  refine go ?_
  exact xC ⟨l24,l25,t26,hF,rfl,rfl⟩
  refine go ?_
  exact xC ⟨l24,l25,t26,hF,rfl,rfl⟩
  refine z5b Tryz.tb_ok [] (by kernel_rfl) ?_
  refine gd ?_
  refine RD.q (u:=.ptr 0 0 0) rfl (qe4 rfl rfl) ?_
  refine gd ?_
  refine RD.q (u:=.ptr 0 0 0) rfl (qe4 rfl rfl) ?_
  refine gd ?_
  refine RD.q rfl (q3t rfl rfl (q8m (cI .i64) un33.h (q0r if3.h) (by decide) (q5n .i64) (vo rfl) h8)) ?_
  refine z5q (u:=.junk) (σ':=⟨[(0,.row [.iM q03 p2,.vl 1 t4 0 p3.length,.vl 2 t6 0 p5.length] 139),(1,.vec (List.map (cI .i64) (p3.set (0+p1.toNat) (p5.length:Int))).flatten 3 1 t4),(2,.vec (List.map (cI .i64) p5).flatten 3 1 t6)],3⟩) rfl (st_vp (cI .i64) (q0r if3.h) (q5n .i64) rfl rfl rfl rfl rfl rfl rfl (qk1 h8) rfl) rfl ?_
  refine RD.done ⟨by kernel_rfl,trivial,?_⟩
  refine go ?_
  exact ⟨_,_,⟨rfl,rfl⟩,NL,z5d ⟨rfl,rfl,trivial⟩ (by simp only [List.length_set])⟩
def q6z (z26:Int) (l27:List q0b) (rc2:Int→(List q0b)→Option (GFS)) (x34:q0b) (l54:List q0c):Option (GFS) :=
 q0z ((l27.length+1)*32≤140737488355328∧l27.length+1≤140737488355328) (
 rc2 (IntKind.i64.wrap (z26+1)) (l27++[(q0b.mk x34.Typex l54)]))
def q3u (r14:(List Int)×(List Int)) (z26:Int) (l27:List q0b) (rc2:Int→(List q0b)→Option (GFS)) (x34:q0b):Nat→Int→(List q0c)→Option (GFS)
 | 0,_,_=>none
 | m3+1,z52,l53 =>
  cond (decide (z52<(l53.length:Int)))
   (q02 (q0j l53 z52) fun x57 =>
   q02 (q0j r14.1 x57.To) fun x59 =>
   q02 (q0j l53 z52) fun x61 =>
   (q3u r14 z26 l27 rc2 x34 m3) (IntKind.i64.wrap (z52+1)) (l53.set (0+z52.toNat) (q0c.mk x61.Feat x59)))
   (q6z z26 l27 rc2 x34 l53)
def q9t  (l29:List q0b):Option (GFS) :=
 some (GFS.mk l29)
def q2m (p1:GFS) (n:Nat) (r14:(List Int)×(List Int)):Nat→Int→(List q0b)→Option (GFS)
 | 0,_,_=>none
 | m2+1,z26,l27 =>
  cond (decide (z26<(r14.2.length:Int)))
   (q02 (q0j r14.2 z26) fun x32 =>
   q02 (q0j p1.Nodes x32) fun x34 =>
   q02 (q8u n x34.Arcs) fun r36 =>
   q3u r14 z26 l27 (q2m p1 n r14 m2) x34 n 0 r36)
   (q9t l27)
def q6y (p1:GFS) (p2:Int) (n:Nat) (l12:List Int):Option (GFS) :=
 q02 (q14 n p2 p1.Nodes l12 ([]:List Int)) fun r14 =>
 q2m p1 n r14 n 0 ([]:List q0b)
def q5b (p1:GFS) (p2:Int) (n:Nat):Nat→Int→(List Int)→Option (GFS)
 | 0,_,_=>none
 | m1+1,z9,l10 =>
  cond (decide (z9<(p1.Nodes.length:Int)))
   (q0z ((l10.length+1)*8≤140737488355328∧l10.length+1≤140737488355328) (
   (q5b p1 p2 n m1) (IntKind.i64.wrap (z9+1)) (l10++[(-1)])))
   (q6y p1 p2 n l10)
def qcf (n:Nat) (p1:GFS) (p2:Int):Option (GFS) :=
 q5b p1 p2 n n 0 ([]:List Int)
theorem qr8 (n:Nat) (p1:GFS) (p2:Int) (r:GFS) (hF:qcf n p1 p2=some r):EvU Tryz.prog 68 [.agg [.isl false (List.map q03 p1.Nodes)],.int .i64 p2] ⟨[],0⟩ (fun u _=>u = .agg [.isl false (List.map q03 r.Nodes)]∧Bel 0 u):=by
 unfold qcf at hF
 refine bg2 88 fn68 ?_
 refine gr ?_
 refine gr ?_
 refine gr ?_
 refine WPU.ghost (tm':=fr 88 [(1,.i6 p2),(2,.ptr 0 0 0),(4,.ptr 1 0 0),(5,.ptr 2 0 0),(6,.i6 0)]) (σ':=⟨[(3,.vec (List.map (cI .i64) ([]:List Int)).flatten 3 1 0),(2,.row [.iM q03 p1.Nodes,.vl 3 0 0 (([]:List Int).length),.nils] 139),(1,.row [.nils] 24),(0,.row [.iM q03 p1.Nodes] 24)],4⟩) (Gh.trans (z5k 2 1 3 1 (by decide) NZ rfl rfl) (z5d ⟨rfl,rfl,rfl,rfl,rfl,trivial⟩ rfl)) NZ ?_
 refine gS (l':=[(1,_),(2,_),(4,_),(5,_),(6,_)]) ?_
 refine z59 (fun m tm σ=>∃ z9:Int,∃ l10:List Int,∃ t11:Nat,q5b p1 p2 n m z9 l10=some r∧tm=fr 88 [(1,.i6 p2),(2,.ptr 0 0 0),(4,.ptr 1 0 0),(5,.ptr 2 0 0),(6,.i6 z9)]∧σ=⟨[(3,.vec (List.map (cI .i64) l10).flatten 3 1 t11),(2,.row [.iM q03 p1.Nodes,.vl 3 t11 0 l10.length,.nils] 139),(1,.row [.nils] 24),(0,.row [.iM q03 p1.Nodes] 24)],4⟩) (fun tm σ=>∃ l12:List Int,∃ t13:Nat,q6y p1 p2 n l12=some r∧tm=fr 88 [(1,.i6 p2),(2,.ptr 0 0 0),(4,.ptr 1 0 0),(5,.ptr 2 0 0)]∧σ=⟨[(3,.vec (List.map (cI .i64) l12).flatten 3 1 t13),(2,.row [.iM q03 p1.Nodes,.vl 3 t13 0 l12.length,.nils] 139),(1,.row [.nils] 24),(0,.row [.iM q03 p1.Nodes] 24)],4⟩) n ⟨0,([]:List Int),0,hF,rfl,rfl⟩ ?_ ?_
 rintro _ _ ⟨l12,t13,hF,rfl,rfl⟩
 unfold q6y at hF
 refine gn ?_
 refine WPU.ghost (tm':=fr 88 [(1,.i6 p2),(2,.ptr 0 0 0),(4,.ptr 1 0 0),(5,.ptr 2 0 0)]) (σ':=⟨[(4,.vec (List.map (cI .i64) ([]:List Int)).flatten 3 1 0),(3,.vec (List.map (cI .i64) l12).flatten 3 1 t13),(2,.row [.iM q03 p1.Nodes,.vl 3 t13 0 l12.length,.vl 4 0 0 (([]:List Int).length)] 139),(1,.row [.nils] 24),(0,.row [.iM q03 p1.Nodes] 24)],5⟩) (Gh.trans (z5k 2 2 3 1 (by decide) NZ rfl rfl) (z5d ⟨rfl,rfl,rfl,rfl,trivial⟩ rfl)) NZ ?_
 obtain ⟨r14,h15,hF⟩:=q00 hF
 refine go ?_
 refine z5e (R:=fun u σ'=>∃ t16:Nat→Nat,u = .tup []∧σ'=⟨[(4,.vec (List.map (cI .i64) r14.2).flatten 3 1 (t16 0)),(3,.vec (List.map (cI .i64) r14.1).flatten 3 1 t13),(2,.row [.iM q03 p1.Nodes,.vl 3 t13 0 r14.1.length,.vl 4 (t16 0) 0 r14.2.length] 139),(1,.row [.nils] 24),(0,.row [.iM q03 p1.Nodes] 24)],5⟩) (args:=[.ptr 2 0 0,.i6 p2]) rfl (q4j rfl rfl fn88 hb88 rfl rfl) (EvU.st [2,3,4] (q8v n p2 p1.Nodes l12 ([]:List Int) r14 h15 t13 0)) rfl rfl ?_
 rintro _ _ ⟨t16,rfl,rfl⟩
 refine gr ?_
 refine gr ?_
 refine WPU.ghost (tm':=fr 88 [(2,.ptr 0 0 0),(4,.ptr 1 0 0),(5,.ptr 2 0 0),(7,.ptr 5 0 0),(8,.i6 0)]) (σ':=⟨[(6,.vec (List.map q03 ([]:List q0b)).flatten 54 2 0),(5,.row [.vl 6 0 0 (([]:List q0b).length)] 24),(4,.vec (List.map (cI .i64) r14.2).flatten 3 1 (t16 0)),(3,.vec (List.map (cI .i64) r14.1).flatten 3 1 t13),(2,.row [.iM q03 p1.Nodes,.vl 3 t13 0 r14.1.length,.vl 4 (t16 0) 0 r14.2.length] 139),(1,.row [.nils] 24),(0,.row [.iM q03 p1.Nodes] 24)],7⟩) (Gh.trans (z5k 5 0 54 2 (by decide) NZ rfl rfl) (z5d ⟨rfl,rfl,rfl,rfl,rfl,trivial⟩ rfl)) NZ ?_
 refine gS (l':=[(2,_),(4,_),(5,_),(7,_),(8,_)]) ?_
 refine z59 (fun m tm σ=>∃ z26:Int,∃ l27:List q0b,∃ t28:Nat,q2m p1 n r14 m z26 l27=some r∧tm=fr 88 [(2,.ptr 0 0 0),(4,.ptr 1 0 0),(5,.ptr 2 0 0),(7,.ptr 5 0 0),(8,.i6 z26)]∧σ=⟨[(6,.vec (List.map q03 l27).flatten 54 2 t28),(5,.row [.vl 6 t28 0 l27.length] 24),(4,.vec (List.map (cI .i64) r14.2).flatten 3 1 (t16 0)),(3,.vec (List.map (cI .i64) r14.1).flatten 3 1 t13),(2,.row [.iM q03 p1.Nodes,.vl 3 t13 0 r14.1.length,.vl 4 (t16 0) 0 r14.2.length] 139),(1,.row [.nils] 24),(0,.row [.iM q03 p1.Nodes] 24)],7⟩) (fun tm σ=>∃ l29:List q0b,∃ t30:Nat,q9t l29=some r∧tm=fr 88 [(4,.ptr 1 0 0),(7,.ptr 5 0 0)]∧σ=⟨[(6,.vec (List.map q03 l29).flatten 54 2 t30),(5,.row [.vl 6 t30 0 l29.length] 24),(4,.vec (List.map (cI .i64) r14.2).flatten 3 1 (t16 0)),(3,.vec (List.map (cI .i64) r14.1).flatten 3 1 t13),(2,.row [.iM q03 p1.Nodes,.vl 3 t13 0 r14.1.length,.vl 4 (t16 0) 0 r14.2.length] 139),(1,.row [.nils] 24),(0,.row [.iM q03 p1.Nodes] 24)],7⟩) n ⟨0,([]:List q0b),0,hF,rfl,rfl⟩ ?_ ?_
 rintro _ _ ⟨l29,t30,hF,rfl,rfl⟩
 unfold q9t at hF
 refine go ?_
 obtain rfl:=sI hF
 exact rT (us:=[.agg [.vl 6 t30 0 l29.length]]) (u:=.agg [.iM q03 l29]) (qg1 (q78 un24.h rfl (q0r if24.h) rfl rfl rfl) (q24)) (fR 6 2)
 rintro (_|m2) _ _ ⟨z26,l27,t28,hF,rfl,rfl⟩
 cases hF
 unfold q2m at hF
 refine go ?_
 refine RS.q (u:=.ptr 2 0 0) rfl (qe4 rfl rfl) ?_
 refine go ?_
 refine cF hF (fun h31 hF=>?_) (fun h31 hF=>?_)
 refine go ?_
 refine WPU.block ?_
 obtain ⟨x32,h33,hF⟩:=q00 hF
 obtain ⟨x34,h35,hF⟩:=q00 hF
 refine go ?_
 refine z5b Tryz.tb_ok [(0,11),(1,11),(2,11),(3,11),(4,11),(5,11),(6,11),(7,11),(8,11),(9,11),(10,11)] (by kernel_rfl) ?_
 refine gd ?_
 refine RD.q (u:=.ptr 2 0 0) rfl (qe4 rfl rfl) ?_
 refine gd ?_
 refine RD.q rfl (q3t rfl rfl (q8m (cI .i64) un33.h (q0r if3.h) (by decide) (q5n .i64) (vo rfl) h33)) ?_
 refine RD.q rfl (q5i (cI .i64) (fun x=>.i6 x) un3.h rfl (fun _=>rfl) rfl rfl h33) ?_
 refine RD.ix h35 ?_
 refine gd ?_
 refine RD.g ?_
 refine RD.gz ?_
 refine RD.done ⟨by kernel_rfl,⟨qeb un24.h rfl (q0r if22.h) rfl rfl rfl,⟨qen un22.h rfl rfl rfl rfl,⟨q2f rfl,⟨qe4 rfl rfl,⟨qeb un139.h rfl (q0r if33.h) rfl rfl rfl,⟨qen un33.h rfl rfl rfl rfl,⟨q2f rfl,⟨q3t rfl rfl (q8m (cI .i64) un33.h (q0r if3.h) (by decide) (q5n .i64) (vo rfl) h33),⟨q5i (cI .i64) (fun x=>.i6 x) un3.h rfl (fun _=>rfl) rfl rfl h33,⟨q3t rfl rfl (qnu q03 un22.h (q0r if54.h) qfj h35 rfl),⟨z2u un54.h rfl (q0r if54.h) rfl rfl,trivial⟩⟩⟩⟩⟩⟩⟩⟩⟩⟩⟩,?_⟩
 obtain ⟨r36,h37,hF⟩:=q00 hF
 refine go ?_
 refine z5e (R:=fun u σ'=>u = .vl 8 0 0 r36.length∧σ'=⟨[(8,.vec (List.map q07 r36).flatten 66 2 0),(7,.row (q03 x34) 54),(6,.vec (List.map q03 l27).flatten 54 2 t28),(5,.row [.vl 6 t28 0 l27.length] 24),(4,.vec (List.map (cI .i64) r14.2).flatten 3 1 (t16 0)),(3,.vec (List.map (cI .i64) r14.1).flatten 3 1 t13),(2,.row [.iM q03 p1.Nodes,.vl 3 t13 0 r14.1.length,.vl 4 (t16 0) 0 r14.2.length] 139),(1,.row [.nils] 24),(0,.row [.iM q03 p1.Nodes] 24)],9⟩) (args:=[.iM q07 x34.Arcs]) rfl (q4j rfl rfl fn89 hb89 rfl rfl) (z5s q07 (qg9 n x34.Arcs r36 h37) _ 8 rfl) rfl rfl ?_
 rintro _ _ ⟨rfl,rfl⟩
 refine go ?_
 refine gS (l':=[(2,_),(4,_),(5,_),(7,_),(8,_),(9,_),(10,_),(11,_)]) ?_
 refine z59 (fun m tm σ=>∃ z52:Int,∃ l53:List q0c,q3u r14 z26 l27 (q2m p1 n r14 m2) x34 m z52 l53=some r∧tm=fr 88 [(2,.ptr 0 0 0),(4,.ptr 1 0 0),(5,.ptr 2 0 0),(7,.ptr 5 0 0),(8,.i6 z26),(9,.ptr 7 0 0),(10,.vl 8 0 0 l53.length),(11,.i6 z52)]∧σ=⟨[(8,.vec (List.map q07 l53).flatten 66 2 0),(7,.row (q03 x34) 54),(6,.vec (List.map q03 l27).flatten 54 2 t28),(5,.row [.vl 6 t28 0 l27.length] 24),(4,.vec (List.map (cI .i64) r14.2).flatten 3 1 (t16 0)),(3,.vec (List.map (cI .i64) r14.1).flatten 3 1 t13),(2,.row [.iM q03 p1.Nodes,.vl 3 t13 0 r14.1.length,.vl 4 (t16 0) 0 r14.2.length] 139),(1,.row [.nils] 24),(0,.row [.iM q03 p1.Nodes] 24)],9⟩) (fun tm σ=>∃ l54:List q0c,q6z z26 l27 (q2m p1 n r14 m2) x34 l54=some r∧tm=fr 88 [(2,.ptr 0 0 0),(4,.ptr 1 0 0),(5,.ptr 2 0 0),(7,.ptr 5 0 0),(8,.i6 z26),(9,.ptr 7 0 0),(10,.vl 8 0 0 l54.length)]∧σ=⟨[(8,.vec (List.map q07 l54).flatten 66 2 0),(7,.row (q03 x34) 54),(6,.vec (List.map q03 l27).flatten 54 2 t28),(5,.row [.vl 6 t28 0 l27.length] 24),(4,.vec (List.map (cI .i64) r14.2).flatten 3 1 (t16 0)),(3,.vec (List.map (cI .i64) r14.1).flatten 3 1 t13),(2,.row [.iM q03 p1.Nodes,.vl 3 t13 0 r14.1.length,.vl 4 (t16 0) 0 r14.2.length] 139),(1,.row [.nils] 24),(0,.row [.iM q03 p1.Nodes] 24)],9⟩) n ⟨0,r36,hF,rfl,rfl⟩ ?_ ?_
 rintro _ _ ⟨l54,hF,rfl,rfl⟩
 unfold q6z at hF
 refine gn ?_
 refine WPU.ghost (tm':=fr 88 [(2,.ptr 0 0 0),(4,.ptr 1 0 0),(5,.ptr 2 0 0),(7,.ptr 5 0 0),(8,.i6 z26),(9,.ptr 7 0 0),(10,.iM q07 l54)]) (σ':=⟨[(7,.row (q03 x34) 54),(6,.vec (List.map q03 l27).flatten 54 2 t28),(5,.row [.vl 6 t28 0 l27.length] 24),(4,.vec (List.map (cI .i64) r14.2).flatten 3 1 (t16 0)),(3,.vec (List.map (cI .i64) r14.1).flatten 3 1 t13),(2,.row [.iM q03 p1.Nodes,.vl 3 t13 0 r14.1.length,.vl 4 (t16 0) 0 r14.2.length] 139),(1,.row [.nils] 24),(0,.row [.iM q03 p1.Nodes] 24)],9⟩) (Gh.trans (Gh.sub (l':=[(2,.ptr 0 0 0),(4,.ptr 1 0 0),(5,.ptr 2 0 0),(7,.ptr 5 0 0),(8,.i6 z26),(9,.ptr 7 0 0),(10,.vl 8 0 0 l54.length)]) ⟨rfl,rfl,rfl,rfl,rfl,rfl,rfl,trivial⟩) (z5o 8 2)) NZ ?_
 obtain ⟨h55,hF⟩:=q06 hF
 refine go ?_
 refine RS.g ?_
 refine RS.g ?_
 refine go ?_
 exact lC ⟨_,(l27++[(q0b.mk x34.Typex l54)]),(t28+1),hF,rfl,rfl⟩
 rintro (_|m3) _ _ ⟨z52,l53,hF,rfl,rfl⟩
 cases hF
 unfold q3u at hF
 refine go ?_
 refine cF hF (fun h56 hF=>?_) (fun h56 hF=>?_)
 refine go ?_
 refine WPU.block ?_
 obtain ⟨x57,h58,hF⟩:=q00 hF
 obtain ⟨x59,h60,hF⟩:=q00 hF
 obtain ⟨x61,h62,hF⟩:=q00 hF
 refine gn ?_
 refine z5a (fun tm σ=>tm=fr 88 [(2,.ptr 0 0 0),(4,.ptr 1 0 0),(5,.ptr 2 0 0),(7,.ptr 5 0 0),(8,.i6 z26),(9,.ptr 7 0 0),(10,.vl 8 0 0 ((l53.set (0+z52.toNat) (q0c.mk x61.Feat x59)).length)),(11,.i6 z52)]∧σ=⟨[(8,.vec (List.map q07 (l53.set (0+z52.toNat) (q0c.mk x61.Feat x59))).flatten 66 2 0),(7,.row (q03 x34) 54),(6,.vec (List.map q03 l27).flatten 54 2 t28),(5,.row [.vl 6 t28 0 l27.length] 24),(4,.vec (List.map (cI .i64) r14.2).flatten 3 1 (t16 0)),(3,.vec (List.map (cI .i64) r14.1).flatten 3 1 t13),(2,.row [.iM q03 p1.Nodes,.vl 3 t13 0 r14.1.length,.vl 4 (t16 0) 0 r14.2.length] 139),(1,.row [.nils] 24),(0,.row [.iM q03 p1.Nodes] 24)],9⟩) ?_ ?_
 rintro _ _ ⟨rfl,rfl⟩
 refine go ?_
 exact lC ⟨_,(l53.set (0+z52.toNat) (q0c.mk x61.Feat x59)),hF,rfl,rfl⟩
 refine z5b Tryz.tb_ok [] (by kernel_rfl) ?_
 refine gd ?_
 refine RD.q (u:=.ptr 2 0 0) rfl (qe4 rfl rfl) ?_
 refine gd ?_
 refine RD.q rfl (q3t rfl rfl (q8m q07 un52.h (q0r if66.h) (by decide) q16 (vo rfl) h58)) ?_
 refine RD.q rfl (qeb un66.h rfl (q0r if3.h) rfl (qlz rfl) rfl) (RD.q (u:=.i6 x57.To) rfl (qxk q07 un3.h rfl q16 rfl rfl (qk1 h58) rfl) ?_)
 refine RD.q rfl (q3t rfl rfl (q8m (cI .i64) un33.h (q0r if3.h) (by decide) (q5n .i64) (vo rfl) h60)) ?_
 refine RD.q rfl (q5i (cI .i64) (fun x=>.i6 x) un3.h rfl (fun _=>rfl) rfl rfl h60) ?_
 refine RD.q rfl (q3t rfl rfl (q8m q07 un52.h (q0r if66.h) (by decide) q16 (vo rfl) h62)) ?_
 refine RD.q rfl (qeb un66.h rfl (q0r if3.h) rfl (qlz rfl) rfl) (z5q (u:=.junk) (σ':=⟨[(8,.vec (List.map q07 (l53.set (0+z52.toNat) (q0c.mk x61.Feat x59))).flatten 66 2 0),(7,.row (q03 x34) 54),(6,.vec (List.map q03 l27).flatten 54 2 t28),(5,.row [.vl 6 t28 0 l27.length] 24),(4,.vec (List.map (cI .i64) r14.2).flatten 3 1 (t16 0)),(3,.vec (List.map (cI .i64) r14.1).flatten 3 1 t13),(2,.row [.iM q03 p1.Nodes,.vl 3 t13 0 r14.1.length,.vl 4 (t16 0) 0 r14.2.length] 139),(1,.row [.nils] 24),(0,.row [.iM q03 p1.Nodes] 24)],9⟩) rfl (st_vf (y:=(q0c.mk x61.Feat x59)) q07 (q0r if3.h) q16 rfl rfl rfl rfl rfl rfl (qk1 h62) rfl rfl) rfl ?_)
 refine RD.done ⟨by kernel_rfl,trivial,?_⟩
 refine go ?_
 exact ⟨_,_,⟨rfl,rfl⟩,NZ,z5d ⟨rfl,rfl,rfl,rfl,rfl,rfl,(by simp only [List.length_set]; rfl),rfl,trivial⟩ rfl⟩
 refine go ?_
 exact xC ⟨l53,hF,rfl,rfl⟩
 refine go ?_
 exact xC ⟨l27,t28,hF,rfl,rfl⟩
 rintro (_|m1) _ _ ⟨z9,l10,t11,hF,rfl,rfl⟩
 cases hF
 unfold q5b at hF
 refine go ?_
 refine cF hF (fun h63 hF=>?_) (fun h63 hF=>?_)
 refine go ?_
 refine WPU.block ?_
 obtain ⟨h64,hF⟩:=q06 hF
 refine go ?_
 refine RS.q (u:=.ptr 2 0 0) rfl (qe4 rfl rfl) ?_
 refine go ?_
 refine RS.g ?_
 refine RS.g ?_
 refine RS.q (u:=.ptr 2 0 0) rfl (qe4 rfl rfl) ?_
 refine go ?_
 exact lC ⟨_,(l10++[(-1)]),(t11+1),hF,rfl,rfl⟩
 refine go ?_
 exact xC ⟨l10,t11,hF,rfl,rfl⟩
def qal (n:Nat) (p1:GFS):Option (GFS×Int) :=
 q02 (qcg n p1) fun r2 =>
 cond (r2 != 0)
  (some ((GFS.mk []),r2))
  (q02 (qcf n p1 0) fun r5 =>
  some (r5,0))
theorem qp9 (n:Nat) (p1:GFS) (r:GFS×Int) (hF:qal n p1=some r):EvU Tryz.prog 42 [.agg [.isl false (List.map q03 p1.Nodes)]] ⟨[],0⟩ (fun u _=>u = .tup [.agg [.isl false (List.map q03 r.1.Nodes)],.int .i64 r.2]∧Bel 0 u):=by
 unfold qal at hF
 refine bg1 13 fn42 ?_
 obtain ⟨r2,h3,hF⟩:=q00 hF
 refine go ?_
 refine RS.cl rfl (pC (qra n p1 r2 h3) _) fn67 ?_
 refine go ?_
 refine cF hF (fun h4 hF=>?_) (fun h4 hF=>?_)
 refine go ?_
 obtain rfl:=sI hF
 exact rT (us:=[.agg [.nils],.i6 r2]) (u:=.tup [.agg [.isl false []],.i6 r2]) (qg1 (q78 un24.h rfl (q0r if24.h) rfl rfl rfl) (q28 rfl (q24))) wR
 obtain ⟨r5,h6,hF⟩:=q00 hF
 refine go ?_
 refine RS.cl rfl (pC (qr8 n p1 0 r5 h6) _) fn68 ?_
 refine go ?_
 obtain rfl:=sI hF
 exact rT (qg1 (q78 un24.h rfl (q0r if24.h) rfl rfl rfl) (q28 rfl (q24))) (z5j _ rfl)
def q8f   : Option (Bool) :=
 some true
def q4h (p1:GFS):Nat→Int→Option (Bool)
 | 0,_=>none
 | m1+1,z5 =>
  cond (decide (z5<(p1.Nodes.length:Int)))
   (q02 (q0j p1.Nodes z5) fun x7 =>
   cond (decide ((x7.Arcs.length:Int) > 12))
    (some false)
    ((q4h p1 m1) (IntKind.i64.wrap (z5+1))))
   (q8f)
def qam (n:Nat) (p1:GFS):Option (Bool) :=
 cond (decide ((p1.Nodes.length:Int) > 12))
  (some false)
  (q4h p1 n 0)
theorem qpa (n:Nat) (p1:GFS) (r:Bool) (hF:qam n p1=some r):EvU Tryz.prog 41 [.agg [.isl false (List.map q03 p1.Nodes)]] ⟨[],0⟩ (fun u _=>u = .bool r∧Bel 0 u):=by
 unfold qam at hF
 refine bg1 23 fn41 ?_
 refine go ?_
 refine cF hF (fun h2 hF=>?_) (fun h2 hF=>?_)
 exact gx hF
 refine go ?_
 refine gS (l':=[(1,_),(3,_)]) ?_
 refine z59 (fun m tm σ=>∃ z5:Int,q4h p1 m z5=some r∧tm=fr 23 [(1,.ptr 0 0 0),(3,.i6 z5)]∧σ=⟨[(0,.row [.iM q03 p1.Nodes] 24)],1⟩) (fun tm σ=>q8f=some r∧tm=fr 23 []∧σ=⟨[(0,.row [.iM q03 p1.Nodes] 24)],1⟩) n ⟨0,hF,rfl,rfl⟩ ?_ ?_
 rintro _ _ ⟨hF,rfl,rfl⟩
 unfold q8f at hF
 exact gx hF
 rintro (_|m1) _ _ ⟨z5,hF,rfl,rfl⟩
 cases hF
 unfold q4h at hF
 refine go ?_
 refine cF hF (fun h6 hF=>?_) (fun h6 hF=>?_)
 refine go ?_
 refine WPU.block ?_
 obtain ⟨x7,h8,hF⟩:=q00 hF
 refine go ?_
 refine RS.ix h8 ?_
 refine go ?_
 refine cF hF (fun h9 hF=>?_) (fun h9 hF=>?_)
 exact gx hF
 refine go ?_
 exact lC ⟨_,hF,rfl,rfl⟩
 refine go ?_
 exact xC ⟨hF,rfl,rfl⟩
def q5w (z6:Int) (rc1:Int→(List Int)→Option ((List Int))) (l28:List Int):Option ((List Int)) :=
 rc1 (IntKind.i64.wrap (z6+1)) l28
def q35 (z6:Int) (rc1:Int→(List Int)→Option ((List Int))) (x12:q0b):Nat→Int→(List Int)→Option ((List Int))
 | 0,_,_=>none
 | m2+1,z25,l26 =>
  cond (decide (z25<(x12.Arcs.length:Int)))
   (q02 (q0j x12.Arcs z25) fun x31 =>
   q02 (q0j x12.Arcs z25) fun x33 =>
   q0z ((l26.length+2)*8≤140737488355328∧l26.length+2≤140737488355328) (
   (q35 z6 rc1 x12 m2) (IntKind.i64.wrap (z25+1)) (l26++[x31.Feat,x33.To])))
   (q5w z6 rc1 l26)
def q5v  (l9:List Int):Option ((List Int)) :=
 some l9
def q1p (p1:GFS) (n:Nat):Nat→Int→(List Int)→Option ((List Int))
 | 0,_,_=>none
 | m1+1,z6,l7 =>
  cond (decide (z6<(p1.Nodes.length:Int)))
   (q02 (q0j p1.Nodes z6) fun x12 =>
   q02 (q0j p1.Nodes z6) fun x14 =>
   q0z ((l7.length+2)*8≤140737488355328∧l7.length+2≤140737488355328) (
   q35 z6 (q1p p1 n m1) x12 n 0 (l7++[x14.Typex,(x12.Arcs.length:Int)])))
   (q5v l7)
def q5e (n:Nat) (p1:GFS):Option ((List Int)) :=
 q1p p1 n n 0 ([(p1.Nodes.length:Int)])
theorem qf8 (n:Nat) (p1:GFS) (r:(List Int)) (hF:q5e n p1=some r):EvU Tryz.prog 70 [.agg [.isl false (List.map q03 p1.Nodes)]] ⟨[],0⟩ (fun u _=>u = .isl false (List.map (cI .i64) r)∧Bel 0 u):=by
 unfold q5e at hF
 refine bg1 55 fn70 ?_
 refine go ?_
 refine RS.step (u:=.vl 1 0 0 ([(p1.Nodes.length:Int)].length)) (σ':=⟨[(1,.vec (List.map (cI .i64) ([(p1.Nodes.length:Int)])).flatten 3 1 0),(0,.row [.iM q03 p1.Nodes] 24)],2⟩) rfl (qe9.bslv (cs:=(List.map (cI .i64) [(p1.Nodes.length:Int)]).flatten) Tryz.tb_ok rfl un33.h if3.h rfl rfl rfl rfl rfl rfl rfl rfl) rfl rfl ?_
 refine go ?_
 refine gS (l':=[(1,_),(3,_),(4,_)]) ?_
 refine z59 (fun m tm σ=>∃ z6:Int,∃ l7:List Int,∃ t8:Nat,q1p p1 n m z6 l7=some r∧tm=fr 55 [(1,.ptr 0 0 0),(3,.vl 1 t8 0 l7.length),(4,.i6 z6)]∧σ=⟨[(1,.vec (List.map (cI .i64) l7).flatten 3 1 t8),(0,.row [.iM q03 p1.Nodes] 24)],2⟩) (fun tm σ=>∃ l9:List Int,∃ t10:Nat,q5v l9=some r∧tm=fr 55 [(3,.vl 1 t10 0 l9.length)]∧σ=⟨[(1,.vec (List.map (cI .i64) l9).flatten 3 1 t10),(0,.row [.iM q03 p1.Nodes] 24)],2⟩) n ⟨0,[(p1.Nodes.length:Int)],0,hF,rfl,rfl⟩ ?_ ?_
 rintro _ _ ⟨l9,t10,hF,rfl,rfl⟩
 unfold q5v at hF
 refine go ?_
 obtain rfl:=sI hF
 exact rT (us:=[.vl 1 t10 0 l9.length]) (u:=.iM (cI .i64) l9) (q28 rfl (q24)) (fR 1 1)
 rintro (_|m1) _ _ ⟨z6,l7,t8,hF,rfl,rfl⟩
 cases hF
 unfold q1p at hF
 refine go ?_
 refine cF hF (fun h11 hF=>?_) (fun h11 hF=>?_)
 refine go ?_
 refine WPU.block ?_
 obtain ⟨x12,h13,hF⟩:=q00 hF
 refine go ?_
 refine RS.ix h13 ?_
 obtain ⟨x14,h15,hF⟩:=q00 hF
 obtain ⟨h16,hF⟩:=q06 hF
 refine go ?_
 refine RS.ix h15 ?_
 refine go ?_
 refine RS.g ?_
 refine RS.q (u:=.vl 1 (t8+1) 0 ((l7++[x14.Typex,(x12.Arcs.length:Int)]).length)) (σ':=⟨[(2,.row [.i6 x14.Typex,.i6 (x12.Arcs.length:Int)] 3),(1,.vec (List.map (cI .i64) (l7++[x14.Typex,(x12.Arcs.length:Int)])).flatten 3 1 (t8+1)),(0,.row [.iM q03 p1.Nodes] 24)],3⟩) rfl (qau rfl rfl rfl rfl (ql9 (cI .i64) ([x14.Typex,(x12.Arcs.length:Int)]) un33.h un33.h if3.h rfl (q5n .i64) rfl (qt0 (cI .i64) [x14.Typex,(x12.Arcs.length:Int)] rfl rfl rfl rfl) h16)) ?_
 refine go ?_
 refine gS (l':=[(1,_),(3,_),(4,_),(5,_),(6,_)]) ?_
 refine z59 (fun m tm σ=>∃ z25:Int,∃ l26:List Int,∃ t27:Nat,q35 z6 (q1p p1 n m1) x12 m z25 l26=some r∧tm=fr 55 [(1,.ptr 0 0 0),(3,.vl 1 t27 0 l26.length),(4,.i6 z6),(5,.iM q07 x12.Arcs),(6,.i6 z25)]∧σ=⟨[(2,.row [.i6 x14.Typex,.i6 (x12.Arcs.length:Int)] 3),(1,.vec (List.map (cI .i64) l26).flatten 3 1 t27),(0,.row [.iM q03 p1.Nodes] 24)],3⟩) (fun tm σ=>∃ l28:List Int,∃ t29:Nat,q5w z6 (q1p p1 n m1) l28=some r∧tm=fr 55 [(1,.ptr 0 0 0),(3,.vl 1 t29 0 l28.length),(4,.i6 z6)]∧σ=⟨[(2,.row [.i6 x14.Typex,.i6 (x12.Arcs.length:Int)] 3),(1,.vec (List.map (cI .i64) l28).flatten 3 1 t29),(0,.row [.iM q03 p1.Nodes] 24)],3⟩) n ⟨0,(l7++[x14.Typex,(x12.Arcs.length:Int)]),(t8+1),hF,rfl,rfl⟩ ?_ ?_
 rintro _ _ ⟨l28,t29,hF,rfl,rfl⟩
 unfold q5w at hF
 refine go ?_
 exact lC ⟨_,l28,t29,hF,rfl,rfl⟩
 rintro (_|m2) _ _ ⟨z25,l26,t27,hF,rfl,rfl⟩
 cases hF
 unfold q35 at hF
 refine go ?_
 refine cF hF (fun h30 hF=>?_) (fun h30 hF=>?_)
 refine go ?_
 refine WPU.block ?_
 obtain ⟨x31,h32,hF⟩:=q00 hF
 obtain ⟨x33,h34,hF⟩:=q00 hF
 obtain ⟨h35,hF⟩:=q06 hF
 refine go ?_
 refine z5b Tryz.tb_ok [(0,11)] (by kernel_rfl) ?_
 refine gd ?_
 refine RD.ix h32 ?_
 refine gd ?_
 refine RD.ix h34 ?_
 refine gd ?_
 refine RD.g ?_
 refine RD.act (u:=.vl 1 (t27+1) 0 ((l26++[x31.Feat,x33.To]).length)) (σ':=⟨[(3,.row [.i6 x31.Feat,.i6 x33.To] 3),(2,.row [.i6 x14.Typex,.i6 (x12.Arcs.length:Int)] 3),(1,.vec (List.map (cI .i64) (l26++[x31.Feat,x33.To])).flatten 3 1 (t27+1)),(0,.row [.iM q03 p1.Nodes] 24)],4⟩) rfl (qau rfl rfl rfl rfl (ql9 (cI .i64) ([x31.Feat,x33.To]) un33.h un33.h if3.h rfl (q5n .i64) rfl (qt0 (cI .i64) [x31.Feat,x33.To] rfl rfl rfl rfl) h35)) rfl rfl ?_
 refine gd ?_
 refine RD.done ⟨by kernel_rfl,⟨q2f rfl,trivial⟩,?_⟩
 refine go ?_
 exact lC ⟨_,(l26++[x31.Feat,x33.To]),(t27+1),hF,rfl,rfl⟩
 refine go ?_
 exact xC ⟨l26,t27,hF,rfl,rfl⟩
 refine go ?_
 exact xC ⟨l7,t8,hF,rfl,rfl⟩
def q43   : Option (Int) :=
 some 0
def q34 (r3:(List Int)) (r5:(List Int)):Nat→Int→Option (Int)
 | 0,_=>none
 | m1+1,z12 =>
  q02 (cond (decide (z12<(r3.length:Int)))
   (some (decide (z12<(r5.length:Int))))
   (some false)) fun b14 =>
  cond b14
   (q02 (q0j r3 z12) fun x17 =>
   q02 (q0j r5 z12) fun x19 =>
   cond (decide (x17<x19))
    (some (-1))
    (q02 (q0j r3 z12) fun x22 =>
    q02 (q0j r5 z12) fun x24 =>
    cond (decide (x22 > x24))
     (some 1)
     ((q34 r3 r5 m1) (IntKind.i64.wrap (z12+1)))))
   (q43)
def q6x (n:Nat) (p1:GFS) (p2:GFS):Option (Int) :=
 q02 (q5e n p1) fun r3 =>
 q02 (q5e n p2) fun r5 =>
 q34 r3 r5 n 0
theorem qme (n:Nat) (p1:GFS) (p2:GFS) (r:Int) (hF:q6x n p1 p2=some r):EvU Tryz.prog 50 [.agg [.isl false (List.map q03 p1.Nodes)],.agg [.isl false (List.map q03 p2.Nodes)]] ⟨[],0⟩ (fun u _=>u = .int .i64 r∧Bel 0 u):=by
 unfold q6x at hF
 refine bg2 42 fn50 ?_
 obtain ⟨r3,h4,hF⟩:=q00 hF
 refine go ?_
 refine RS.cl rfl (pC (qf8 n p1 r3 h4) _) fn70 ?_
 obtain ⟨r5,h6,hF⟩:=q00 hF
 refine go ?_
 refine RS.cl rfl (pC (qf8 n p2 r5 h6) _) fn70 ?_
 refine go ?_
 refine gS (l':=[(5,_),(6,_),(7,_)]) ?_
 refine z59 (fun m tm σ=>∃ z12:Int,q34 r3 r5 m z12=some r∧tm=fr 42 [(5,.iM (cI .i64) r3),(6,.iM (cI .i64) r5),(7,.i6 z12)]∧σ=⟨[(1,.row [.iM q03 p2.Nodes] 24),(0,.row [.iM q03 p1.Nodes] 24)],2⟩) (fun tm σ=>q43=some r∧tm=fr 42 []∧σ=⟨[(1,.row [.iM q03 p2.Nodes] 24),(0,.row [.iM q03 p1.Nodes] 24)],2⟩) n ⟨0,hF,rfl,rfl⟩ ?_ ?_
 rintro _ _ ⟨hF,rfl,rfl⟩
 unfold q43 at hF
 exact gx hF
 rintro (_|m1) _ _ ⟨z12,hF,rfl,rfl⟩
 cases hF
 unfold q34 at hF
 obtain ⟨b14,h15,hF⟩:=q00 hF
 refine gn ?_
 refine z5a (fun tm σ=>tm=fr 42 [(5,.iM (cI .i64) r3),(6,.iM (cI .i64) r5),(7,.i6 z12),(21,.bool b14)]∧σ=⟨[(1,.row [.iM q03 p2.Nodes] 24),(0,.row [.iM q03 p1.Nodes] 24)],2⟩) ?_ ?_
 rintro _ _ ⟨rfl,rfl⟩
 refine go ?_
 refine cF hF (fun h16 hF=>?_) (fun h16 hF=>?_)
 refine go ?_
 refine WPU.block ?_
 obtain ⟨x17,h18,hF⟩:=q00 hF
 obtain ⟨x19,h20,hF⟩:=q00 hF
 refine go ?_
 refine z5b Tryz.tb_ok [] (by kernel_rfl) ?_
 refine gd ?_
 refine RD.ix h18 ?_
 refine gd ?_
 refine RD.ix h20 ?_
 refine gd ?_
 refine RD.done ⟨by kernel_rfl,trivial,?_⟩
 refine go ?_
 refine cF hF (fun h21 hF=>?_) (fun h21 hF=>?_)
 exact gx hF
 obtain ⟨x22,h23,hF⟩:=q00 hF
 obtain ⟨x24,h25,hF⟩:=q00 hF
 refine go ?_
 refine z5b Tryz.tb_ok [] (by kernel_rfl) ?_
 refine gd ?_
 refine RD.ix h23 ?_
 refine gd ?_
 refine RD.ix h25 ?_
 refine gd ?_
 refine RD.done ⟨by kernel_rfl,trivial,?_⟩
 refine go ?_
 refine cF hF (fun h26 hF=>?_) (fun h26 hF=>?_)
 exact gx hF
 refine go ?_
 exact lC ⟨_,hF,rfl,rfl⟩
 refine go ?_
 exact xC ⟨hF,rfl,rfl⟩
 rcases gB h15 with ⟨h13,h15⟩ | ⟨h13,h15⟩
 exact gy h15
 exact gy h15
def q60 (n:Nat) (p1:GFS) (p2:GFS):Option (Bool) :=
 q02 (q6x n p1 p2) fun r3 =>
 some (r3 == 0)
theorem q2l (n:Nat) (p1:GFS) (p2:GFS) (r:Bool) (hF:q60 n p1 p2=some r):EvU Tryz.prog 21 [.agg [.isl false (List.map q03 p1.Nodes)],.agg [.isl false (List.map q03 p2.Nodes)]] ⟨[],0⟩ (fun u _=>u = .bool r∧Bel 0 u):=by
 unfold q60 at hF
 refine bg2 9 fn21 ?_
 obtain ⟨r3,h4,hF⟩:=q00 hF
 refine go ?_
 refine RS.cl rfl (pC (qme n p1 p2 r3 h4) _) fn50 ?_
 exact gx hF
def qex   : Option (Int×Bool) :=
 some (0,false)
def q8p (p3:Int) (x4:q0b):Nat→Int→Option (Int×Bool)
 | 0,_=>none
 | m1+1,z11 =>
  cond (decide (z11<(x4.Arcs.length:Int)))
   (q02 (q0j x4.Arcs z11) fun x13 =>
   cond (x13.Feat == p3)
    (some (x13.To,true))
    ((q8p p3 x4 m1) (IntKind.i64.wrap (z11+1))))
   (qex)
def qcc (n:Nat) (p1:GFS) (p2:Int) (p3:Int):Option (Int×Bool) :=
 q02 (q0j p1.Nodes p2) fun x4 =>
 q8p p3 x4 n 0
theorem qso (n:Nat) (p1:GFS) (p2:Int) (p3:Int) (r:Int×Bool) (hF:qcc n p1 p2 p3=some r):EvU Tryz.prog 59 [.agg [.isl false (List.map q03 p1.Nodes)],.int .i64 p2,.int .i64 p3] ⟨[],0⟩ (fun u _=>u = .tup [.int .i64 r.1,.bool r.2]∧Bel 0 u):=by
 unfold qcc at hF
 refine bg3 28 fn59 ?_
 obtain ⟨x4,h5,hF⟩:=q00 hF
 refine go ?_
 refine RS.ix h5 ?_
 refine go ?_
 refine gS (l':=[(2,_),(15,_),(16,_),(17,_)]) ?_
 refine z59 (fun m tm σ=>∃ z11:Int,q8p p3 x4 m z11=some r∧tm=fr 28 [(2,.i6 p3),(15,.iM q07 x4.Arcs),(16,.i6 (x4.Arcs.length:Int)),(17,.i6 z11)]∧σ=⟨[(0,.row [.iM q03 p1.Nodes] 24)],1⟩) (fun tm σ=>qex=some r∧tm=fr 28 []∧σ=⟨[(0,.row [.iM q03 p1.Nodes] 24)],1⟩) n ⟨0,hF,rfl,rfl⟩ ?_ ?_
 rintro _ _ ⟨hF,rfl,rfl⟩
 unfold qex at hF
 refine go ?_
 obtain rfl:=sI hF
 exact rt2 rfl rfl rfl rfl rfl
 rintro (_|m1) _ _ ⟨z11,hF,rfl,rfl⟩
 cases hF
 unfold q8p at hF
 refine go ?_
 refine cF hF (fun h12 hF=>?_) (fun h12 hF=>?_)
 refine go ?_
 refine WPU.block ?_
 obtain ⟨x13,h14,hF⟩:=q00 hF
 refine go ?_
 refine RS.ix h14 ?_
 refine go ?_
 refine cF hF (fun h15 hF=>?_) (fun h15 hF=>?_)
 refine go ?_
 obtain rfl:=sI hF
 exact rt2 rfl rfl rfl rfl rfl
 refine go ?_
 exact lC ⟨_,hF,rfl,rfl⟩
 refine go ?_
 exact xC ⟨hF,rfl,rfl⟩
def qja  (z10:Int):Option (Int×Bool) :=
 some (z10,true)
def qca (p1:GFS) (p2:List Int) (n:Nat):Nat→Int→Int→Option (Int×Bool)
 | 0,_,_=>none
 | m1+1,z8,z9 =>
  cond (decide (z9<(p2.length:Int)))
   (q02 (q0j p2 z9) fun x12 =>
   q02 (qcc n p1 z8 x12) fun r14 =>
   cond (!r14.2)
    (some (0,false))
    ((qca p1 p2 n m1) r14.1 (IntKind.i64.wrap (z9+1))))
   (qja z8)
def qet (n:Nat) (p1:GFS) (p2:List Int):Option (Int×Bool) :=
 qca p1 p2 n n 0 0
theorem qeu (n:Nat) (p1:GFS) (p2:List Int) (r:Int×Bool) (hF:qet n p1 p2=some r):EvU Tryz.prog 30 [.agg [.isl false (List.map q03 p1.Nodes)],.isl false (List.map (cI .i64) p2)] ⟨[],0⟩ (fun u _=>u = .tup [.int .i64 r.1,.bool r.2]∧Bel 0 u):=by
 unfold qet at hF
 refine bg2 29 fn30 ?_
 refine go ?_
 refine gS (l':=[(2,_),(6,_),(11,_),(12,_),(13,_)]) ?_
 refine z59 (fun m tm σ=>∃ z8:Int,∃ z9:Int,qca p1 p2 n m z8 z9=some r∧tm=fr 29 [(2,.ptr 0 0 0),(6,.i6 z8),(11,.iM (cI .i64) p2),(12,.i6 (p2.length:Int)),(13,.i6 z9)]∧σ=⟨[(0,.row [.iM q03 p1.Nodes] 24)],1⟩) (fun tm σ=>∃ z10:Int,qja z10=some r∧tm=fr 29 [(6,.i6 z10)]∧σ=⟨[(0,.row [.iM q03 p1.Nodes] 24)],1⟩) n ⟨0,0,hF,rfl,rfl⟩ ?_ ?_
 rintro _ _ ⟨z10,hF,rfl,rfl⟩
 unfold qja at hF
 refine go ?_
 obtain rfl:=sI hF
 exact rt2 rfl rfl rfl rfl rfl
 rintro (_|m1) _ _ ⟨z8,z9,hF,rfl,rfl⟩
 cases hF
 unfold qca at hF
 refine go ?_
 refine cF hF (fun h11 hF=>?_) (fun h11 hF=>?_)
 refine go ?_
 refine WPU.block ?_
 obtain ⟨x12,h13,hF⟩:=q00 hF
 refine go ?_
 refine RS.ix h13 ?_
 obtain ⟨r14,h15,hF⟩:=q00 hF
 refine go ?_
 refine RS.cl rfl (pC (qso n p1 z8 x12 r14 h15) _) fn59 ?_
 refine go ?_
 refine cF hF (fun h16 hF=>?_) (fun h16 hF=>?_)
 refine go ?_
 obtain rfl:=sI hF
 exact rt2 rfl rfl rfl rfl rfl
 refine go ?_
 exact lC ⟨r14.1,(IntKind.i64.wrap (z9+1)),hF,rfl,rfl⟩
 refine go ?_
 exact xC ⟨z8,hF,rfl,rfl⟩
def qd1 (n:Nat) (p1:GFS) (p2:List Int):Option (GFS×Bool) :=
 q02 (qet n p1 p2) fun r3 =>
 cond (!r3.2)
  (some ((GFS.mk []),false))
  (q02 (qhu n p1 r3.1) fun r6 =>
  some (r6,true))
theorem qjb (n:Nat) (p1:GFS) (p2:List Int) (r:GFS×Bool) (hF:qd1 n p1 p2=some r):EvU Tryz.prog 34 [.agg [.isl false (List.map q03 p1.Nodes)],.isl false (List.map (cI .i64) p2)] ⟨[],0⟩ (fun u _=>u = .tup [.agg [.isl false (List.map q03 r.1.Nodes)],.bool r.2]∧Bel 0 u):=by
 unfold qd1 at hF
 refine bg2 20 fn34 ?_
 obtain ⟨r3,h4,hF⟩:=q00 hF
 refine go ?_
 refine RS.cl rfl (pC (qeu n p1 p2 r3 h4) _) fn30 ?_
 refine go ?_
 refine cF hF (fun h5 hF=>?_) (fun h5 hF=>?_)
 refine go ?_
 obtain rfl:=sI hF
 exact rT (us:=[.agg [.nils],.bool false]) (u:=.tup [.agg [.isl false []],.bool false]) (qg1 (q78 un24.h rfl (q0r if24.h) rfl rfl rfl) (q28 rfl (q24))) wR
 obtain ⟨r6,h7,hF⟩:=q00 hF
 refine go ?_
 refine RS.cl rfl (pC (qs5 n p1 r3.1 r6 h7) _) fn62 ?_
 refine go ?_
 obtain rfl:=sI hF
 exact rT (qg1 (q78 un24.h rfl (q0r if24.h) rfl rfl rfl) (q28 rfl (q24))) (z5j _ rfl)
def qm7 (n:Nat) (p1:GFS) (p2:List Int):Option (Int×Bool) :=
 q02 (qet n p1 p2) fun r3 =>
 cond (!r3.2)
  (some (0,false))
  (q02 (q0j p1.Nodes r3.1) fun x6 =>
  some (x6.Typex,true))
theorem qsn (n:Nat) (p1:GFS) (p2:List Int) (r:Int×Bool) (hF:qm7 n p1 p2=some r):EvU Tryz.prog 36 [.agg [.isl false (List.map q03 p1.Nodes)],.isl false (List.map (cI .i64) p2)] ⟨[],0⟩ (fun u _=>u = .tup [.int .i64 r.1,.bool r.2]∧Bel 0 u):=by
 unfold qm7 at hF
 refine bg2 22 fn36 ?_
 obtain ⟨r3,h4,hF⟩:=q00 hF
 refine go ?_
 refine RS.cl rfl (pC (qeu n p1 p2 r3 h4) _) fn30 ?_
 refine go ?_
 refine cF hF (fun h5 hF=>?_) (fun h5 hF=>?_)
 refine go ?_
 obtain rfl:=sI hF
 exact rt2 rfl rfl rfl rfl rfl
 obtain ⟨x6,h7,hF⟩:=q00 hF
 refine go ?_
 refine RS.ix h7 ?_
 refine go ?_
 obtain rfl:=sI hF
 exact rt2 rfl rfl rfl rfl rfl
def q7r (n:Nat) (p1:GFS):Option ((List q0b)) :=
 some p1.Nodes
theorem qkl (n:Nat) (p1:GFS) (r:(List q0b)) (hF:q7r n p1=some r):EvU Tryz.prog 46 [.agg [.isl false (List.map q03 p1.Nodes)]] ⟨[],0⟩ (fun u σ'=>∃ t:Nat→Nat,u = .fn (.func 69) [] [.iptr [.isl false (List.map q03 r)]]∧σ'=⟨[],0⟩):=by
 unfold q7r at hF
 refine bg1 4 fn46 ?_
 refine go ?_
 refine RS.q rfl (qy5 rfl rfl) ?_
 refine go ?_
 obtain rfl:=sI hF
 exact ⟨.inr rfl,[.fn (.func 69) [] [.ptr 0 0 0]],q28 rfl (q24),.fn (.func 69) [] [.iptr [.iM q03 p1.Nodes]],⟨[],0⟩,NL,Gh.trans (z5c 0 1) (z5t (n1:=0) [] rfl rfl NL NL BUL.h BH.h),stF [],rfl,rfl⟩
def q36 (n:Nat) (p1:List Int):Option ((List Int)) :=
 qzm p1 fun b2 =>
 cond b2
  (some ([]:List Int))
  (q0z (p1.length*8≤140737488355328∧p1.length≤140737488355328) (
  some p1))
theorem qb0 (n:Nat) (p1:List Int) (r:(List Int)) (hF:q36 n p1=some r):EvU Tryz.prog 48 [.isl false (List.map (cI .i64) p1)] ⟨[],0⟩ (fun u σ'=>∃ t,u = .vl 1 t 0 r.length∧σ'=⟨[(1,.vec (List.map (cI .i64) r).flatten 3 1 t)],1+1⟩):=by
 unfold q36 at hF
 refine bg1 8 fn48 ?_
 refine go ?_
 refine RS.nilq rfl rfl un33.h rfl rfl rfl rfl ?_
 intro b2 h3
 replace hF:=qv4 hF b2 fun h=>List.map_eq_nil_iff.1 (h3 h)
 refine go ?_
 refine cF hF (fun h4 hF=>?_) (fun h4 hF=>?_)
 refine go ?_
 obtain rfl:=sI hF
 exact ⟨.inr rfl,[.nils],q28 rfl q24,.vl 1 0 0 0,⟨[(1,.vec (List.map (cI .i64) ([]:List Int)).flatten 3 1 0)],2⟩,NZ,Gh.trans (Gh.fresh (tm:=[.nils]) 3 1 (by decide) NZ) (Gh.trans (Gh.nilvec (tm:=[.nils]) 0 3 1 (by decide) NZ rfl) (Gh.trans (z5p (fun k=>Nat.beq k 1)) (z5t (n1:=2) [] rfl rfl NZ NL BUL.h BH.h))),0,rfl,rfl⟩
 obtain ⟨h5,hF⟩:=q06 hF
 refine go ?_
 refine RS.q (u:=.sl 0 0 0 0) (σ':=⟨[(0,.row [] 3)],1⟩) rfl (q6h un33.h if3.h rfl rfl rfl rfl rfl rfl rfl) ?_
 refine go ?_
 refine RS.q (u:=.vl 1 0 0 p1.length) (σ':=⟨[(1,.vec (List.map (cI .i64) p1).flatten 3 1 0),(0,.row [] 3)],2⟩) rfl (qau rfl rfl rfl rfl (qo8 (cI .i64) p1 un33.h un33.h if3.h rfl rfl rfl (qh9 (cI .i64) (q5n .i64)) h5)) ?_
 refine go ?_
 obtain rfl:=sI hF
 exact ⟨.inr rfl,[.vl 1 0 0 p1.length],q28 rfl q24,.vl 1 0 0 p1.length,⟨[(1,.vec (List.map (cI .i64) p1).flatten 3 1 0)],2⟩,NZ,Gh.trans (z5p (fun k=>Nat.beq k 1)) (z5t (n1:=2) [] rfl rfl NZ NL BUL.h BH.h),0,rfl,rfl⟩
def q6i (z51:Int) (rc4:Int→(List (List Int))→(List Int)→(List Bool)→Option ((List (List Int)))) (l68:List (List Int)) (l70:List Int) (l72:List Bool):Option ((List (List Int))) :=
 rc4 (IntKind.i64.wrap (z51+1)) l68 l70 l72
def q6j (z17:Int) (l23:List (List Int)) (rc2:Int→(List (List Int))→(List Int)→(List Bool)→(List (List Int))→Option ((List (List Int)))) (x32:Int) (x34:List Int) (l57:List (List Int)) (l59:List Int) (l61:List Bool):Option ((List (List Int))) :=
 rc2 (IntKind.i64.wrap (z17+1)) l57 l59 l61 (l23.set x32.toNat x34)
def q38 (n:Nat) (r3:(List q0b)) (z17:Int) (l23:List (List Int)) (rc2:Int→(List (List Int))→(List Int)→(List Bool)→(List (List Int))→Option ((List (List Int)))) (x32:Int) (x34:List Int) (x38:q0b):Nat→Int→(List (List Int))→(List Int)→(List Bool)→Option ((List (List Int)))
 | 0,_,_,_,_=>none
 | m4+1,z51,l52,l54,l56 =>
  cond (decide (z51<(x38.Arcs.length:Int)))
   (q02 (q0j x38.Arcs z51) fun x63 =>
   q02 (qkg l56 0 ((r3.length:Int).toNat) x63.To) fun x65 =>
   cond (!x65)
    (q02 (qkg l56 0 ((r3.length:Int).toNat) x63.To) fun x73 =>
    q0z ((l54.length+1)*8≤140737488355328∧l54.length+1≤140737488355328) (
    q02 (q0j l52 z17) fun x76 =>
    q02 (q36 n x76) fun r78 =>
    q0z ((r78.length+([x63.Feat]).length)*8≤140737488355328∧r78.length+([x63.Feat]).length≤140737488355328) (
    q0z ((l52.length+1)*24≤140737488355328∧l52.length+1≤140737488355328) (
    q6i z51 (q38 n r3 z17 l23 rc2 x32 x34 x38 m4) (l52++[(r78++[x63.Feat])]) (l54++[x63.To]) (l56.set x63.To.toNat true)))))
    (q6i z51 (q38 n r3 z17 l23 rc2 x32 x34 x38 m4) l52 l54 l56))
   (q6j z17 l23 rc2 x32 x34 l52 l54 l56)
def q9c (n:Nat) (r3:(List q0b)) (z17:Int) (l18:List (List Int)) (l20:List Int) (l22:List Bool) (l23:List (List Int)) (rc2:Int→(List (List Int))→(List Int)→(List Bool)→(List (List Int))→Option ((List (List Int)))) (x32:Int) (x34:List Int)  : Option ((List (List Int))) :=
 q02 (q0j l20 z17) fun x36 =>
 q02 (q0j r3 x36) fun x38 =>
 q38 n r3 z17 l23 rc2 x32 x34 x38 n 0 l18 l20 l22
def q9b (p1:GFS) (l24:List (List Int)) (l26:List Int) (l28:List Bool) (l29:List (List Int)):Option ((List (List Int))) :=
 q0z ((p1.Nodes.length:Int).toNat=l29.length) (
 some l29)
def q1z (p1:GFS) (n:Nat) (r3:(List q0b)):Nat→Int→(List (List Int))→(List Int)→(List Bool)→(List (List Int))→Option ((List (List Int)))
 | 0,_,_,_,_,_=>none
 | m2+1,z17,l18,l20,l22,l23 =>
  cond (decide (z17<(l20.length:Int)))
   (q02 (q0j l20 z17) fun x32 =>
   q02 (q0j l18 z17) fun x34 =>
   q02 (qkg l23 0 ((p1.Nodes.length:Int).toNat) x32) fun x82 =>
   q9c n r3 z17 l18 l20 l22 l23 (q1z p1 n r3 m2) x32 x34)
   (q9b p1 l18 l20 l22 l23)
def q7c (n:Nat) (p1:GFS):Option ((List (List Int))) :=
 q0z (0≤(p1.Nodes.length:Int)∧24*(p1.Nodes.length:Int).toNat≤281474976710656∧(p1.Nodes.length:Int)≤281474976710656) (
 q02 (q7r n p1) fun r3 =>
 q0z (0≤(r3.length:Int)∧1*(r3.length:Int).toNat≤281474976710656∧(r3.length:Int)≤281474976710656) (
 q02 (qkg (List.replicate (r3.length:Int).toNat false) 0 ((r3.length:Int).toNat) 0) fun x7 =>
 q1z p1 n r3 n 0 ([[]]:List (List Int)) ([0]) ((List.replicate (r3.length:Int).toNat false).set (0:Int).toNat true) (List.replicate (p1.Nodes.length:Int).toNat [])))
theorem q8o (n:Nat) (p1:GFS) (r:(List (List Int))) (hF:q7c n p1=some r):EvU Tryz.prog 15 [.agg [.isl false (List.map q03 p1.Nodes)]] ⟨[],0⟩ (fun u _=>u = .isl false (List.map (cL (cI .i64)) r)∧Bel 0 u):=by
 unfold q7c at hF
 refine z5r Tryz.tb_ok fn15 rfl ?_
 refine WPU.ghost (tm':=fr 19 [(0,.agg [.iM q03 p1.Nodes])]) (Gh.start NL) NL ?_
 obtain ⟨h2,hF⟩:=q06 hF
 refine go ?_
 refine RS.q (u:=.sl 1 0 ((p1.Nodes.length:Int).toNat) ((p1.Nodes.length:Int).toNat)) (σ':=⟨[(1,.row (List.map (cL (cI .i64)) (List.replicate (p1.Nodes.length:Int).toNat [])).flatten 33),(0,.row [.iM q03 p1.Nodes] 24)],2⟩) rfl (qu2 (cL (cI .i64)) [] rfl rfl un28.h if33.h rfl rfl rfl rfl h2) ?_
 obtain ⟨r3,h4,hF⟩:=q00 hF
 refine go ?_
 refine z5e (R:=fun u σ'=>∃ t5:Nat→Nat,u = .fn (.func 69) [] [.iptr [.iM q03 r3]]∧σ'=⟨[(2,.row [.sl 1 0 ((p1.Nodes.length:Int).toNat) ((p1.Nodes.length:Int).toNat)] 28),(1,.row (List.map (cL (cI .i64)) (List.replicate (p1.Nodes.length:Int).toNat [])).flatten 33),(0,.row [.iM q03 p1.Nodes] 24)],3⟩) (args:=[.agg [.iM q03 p1.Nodes]]) rfl (q4j rfl rfl fn46 hb46 rfl rfl) (EvU.st [] (qkl n p1 r3 h4 )) rfl rfl ?_
 rintro _ _ ⟨t5,rfl,rfl⟩
 refine go ?_
 refine WPU.block ?_
 refine gn ?_
 refine gS (l':=[(3,_),(11,_)]) ?_
 refine WPU.range Tryz.tb_ok rfl (fun _ h=>h) (q1r rfl) fn69 rfl rfl ?_
 intro ly1 fn1 tp1 D1
 refine WPU.ghost (tm':=fr 76 [(0,.fn (.yield ly1) [] []),(1,.iptr [.iM q03 r3])]) (Gh.start NL) (Nat.le_refl _) ?_
 obtain ⟨h6,hF⟩:=q06 hF
 refine go ?_
 refine RS.q (u:=.sl 3 0 ((r3.length:Int).toNat) ((r3.length:Int).toNat)) (σ':=⟨[(3,.row (List.map cB (List.replicate (r3.length:Int).toNat false)).flatten 4),(2,.row [.sl 1 0 ((p1.Nodes.length:Int).toNat) ((p1.Nodes.length:Int).toNat)] 28),(1,.row (List.map (cL (cI .i64)) (List.replicate (p1.Nodes.length:Int).toNat [])).flatten 33),(0,.row [.iM q03 p1.Nodes] 24)],4⟩) rfl (qu2 cB false rfl rfl un75.h if4.h rfl rfl rfl rfl h6) ?_
 obtain ⟨x7,h8,hF⟩:=q00 hF
 refine go ?_
 refine RS.q rfl (q3t rfl rfl (qs8 un75.h (q0r if4.h) rfl h8)) (RS.opn (u:=.junk) (σ':=⟨[(3,.row (List.map cB ((List.replicate (r3.length:Int).toNat false).set (0:Int).toNat true)).flatten 4),(2,.row [.sl 1 0 ((p1.Nodes.length:Int).toNat) ((p1.Nodes.length:Int).toNat)] 28),(1,.row (List.map (cL (cI .i64)) (List.replicate (p1.Nodes.length:Int).toNat [])).flatten 33),(0,.row [.iM q03 p1.Nodes] 24)],4⟩) rfl (qyz cB (q0r if4.h) z2t rfl rfl rfl rfl rfl rfl h8 rfl) rfl ?_)
 refine go ?_
 refine RS.step (u:=.vl 4 0 0 ([0].length)) (σ':=⟨[(4,.vec (List.map (cI .i64) ([0])).flatten 3 1 0),(3,.row (List.map cB ((List.replicate (r3.length:Int).toNat false).set (0:Int).toNat true)).flatten 4),(2,.row [.sl 1 0 ((p1.Nodes.length:Int).toNat) ((p1.Nodes.length:Int).toNat)] 28),(1,.row (List.map (cL (cI .i64)) (List.replicate (p1.Nodes.length:Int).toNat [])).flatten 33),(0,.row [.iM q03 p1.Nodes] 24)],5⟩) rfl (qe9.bslv (cs:=(List.map (cI .i64) [0]).flatten) Tryz.tb_ok rfl un33.h if3.h rfl rfl rfl rfl rfl rfl rfl rfl) rfl rfl (RS.step (u:=.vl 5 0 0 (([[]]:List (List Int)).length)) (σ':=⟨[(5,.vec (List.map (cL (cI .i64)) ([[]]:List (List Int))).flatten 33 1 0),(4,.vec (List.map (cI .i64) ([0])).flatten 3 1 0),(3,.row (List.map cB ((List.replicate (r3.length:Int).toNat false).set (0:Int).toNat true)).flatten 4),(2,.row [.sl 1 0 ((p1.Nodes.length:Int).toNat) ((p1.Nodes.length:Int).toNat)] 28),(1,.row (List.map (cL (cI .i64)) (List.replicate (p1.Nodes.length:Int).toNat [])).flatten 33),(0,.row [.iM q03 p1.Nodes] 24)],6⟩) rfl (qe9.bslw (cs0:=[.nils]) (cs:=(List.map (cL (cI .i64)) ([[]]:List (List Int))).flatten) Tryz.tb_ok rfl un28.h if33.h rfl rfl rfl rfl rfl (.cons (.nil false) .nil) rfl rfl rfl) rfl rfl ?_)
 refine go ?_
 refine gS (l':=[(0,_),(1,_),(3,_),(4,_),(5,_),(6,_)]) ?_
 refine z59 (fun m tm σ=>∃ z17:Int,∃ l18:List (List Int),∃ t19:Nat,∃ l20:List Int,∃ t21:Nat,∃ l22:List Bool,∃ l23:List (List Int),q1z p1 n r3 m z17 l18 l20 l22 l23=some r∧tm=fr 76 [(0,.fn (.yield ly1) [] []),(1,.iptr [.iM q03 r3]),(3,.sl 3 0 ((r3.length:Int).toNat) ((r3.length:Int).toNat)),(4,.vl 4 t21 0 l20.length),(5,.vl 5 t19 0 l18.length),(6,.i6 z17)]∧σ=⟨[(5,.vec (List.map (cL (cI .i64)) l18).flatten 33 1 t19),(4,.vec (List.map (cI .i64) l20).flatten 3 1 t21),(3,.row (List.map cB l22).flatten 4),(2,.row [.sl 1 0 ((p1.Nodes.length:Int).toNat) ((p1.Nodes.length:Int).toNat)] 28),(1,.row (List.map (cL (cI .i64)) l23).flatten 33),(0,.row [.iM q03 p1.Nodes] 24)],6⟩) (fun tm σ=>∃ l24:List (List Int),∃ t25:Nat,∃ l26:List Int,∃ t27:Nat,∃ l28:List Bool,∃ l29:List (List Int),q9b p1 l24 l26 l28 l29=some r∧tm=fr 76 []∧σ=⟨[(5,.vec (List.map (cL (cI .i64)) l24).flatten 33 1 t25),(4,.vec (List.map (cI .i64) l26).flatten 3 1 t27),(3,.row (List.map cB l28).flatten 4),(2,.row [.sl 1 0 ((p1.Nodes.length:Int).toNat) ((p1.Nodes.length:Int).toNat)] 28),(1,.row (List.map (cL (cI .i64)) l29).flatten 33),(0,.row [.iM q03 p1.Nodes] 24)],6⟩) n ⟨0,([[]]:List (List Int)),0,[0],0,((List.replicate (r3.length:Int).toNat false).set (0:Int).toNat true),(List.replicate (p1.Nodes.length:Int).toNat []),hF,rfl,rfl⟩ ?_ ?_
 rintro _ _ ⟨l24,t25,l26,t27,l28,l29,hF,rfl,rfl⟩
 unfold q9b at hF
 refine gn ?_
 refine ⟨.inl rfl,?_⟩
 obtain ⟨h30,hF⟩:=q06 hF
 refine go ?_
 obtain rfl:=sI hF
 exact ⟨.inr rfl,[.sl 1 0 ((p1.Nodes.length:Int).toNat) ((p1.Nodes.length:Int).toNat)],q28 rfl (q24),.iM (cL (cI .i64)) l29,⟨[],0⟩,Nat.le_refl _,Gh.trans (Gh.fz (tm':=[.iM (cL (cI .i64)) l29]) (h':=[(5,.vec (List.map (cL (cI .i64)) l24).flatten 33 1 t25),(4,.vec (List.map (cI .i64) l26).flatten 3 1 t27),(3,.row (List.map cB l28).flatten 4),(2,.row [.iM (cL (cI .i64)) l29] 28),(0,.row [.iM q03 p1.Nodes] 24)]) 1 (.row (List.map (cL (cI .i64)) l29).flatten 33) 1 rfl (by simp) (by simp only [qk3,qb6,q5p,qhq,qcl,qhs,qcn,qel,qek,qej,qcm,qhr,qjz,qhp,qht,qmy,qkh,qx8 (qc8 (cI .i64)) h30,q33 _ _ _ (q3s 1 (fun q=>qw5 _ (fun q=>qc2 _ .i64 q) q) l24),q33 _ _ _ (q3s 1 (fun q=>qc2 _ .i64 q) l26),q33 _ _ _ (q3s 1 (fun q=>qw4 _ q) l28)]) (by simp only [fzH,fzB,ug,Nat.beq,cond_true,cond_false,qk3,qb6,q5p,qhq,qcl,qhs,qcn,qel,qek,qej,qcm,qhr,qjz,qhp,qht,qmy,qkh,qx8 (qc8 (cI .i64)) h30,q33 _ _ _ (q3s 1 (fun q=>qw5 _ (fun q=>qc2 _ .i64 q) q) l24),q33 _ _ _ (q3s 1 (fun q=>qc2 _ .i64 q) l26),q33 _ _ _ (q3s 1 (fun q=>qw4 _ q) l28)])) (z5j (.iM (cL (cI .i64)) l29) rfl),rfl,BU.h⟩
 rintro (_|m2) _ _ ⟨z17,l18,t19,l20,t21,l22,l23,hF,rfl,rfl⟩
 cases hF
 unfold q1z at hF
 refine go ?_
 refine cF hF (fun h31 hF=>?_) (fun h31 hF=>?_)
 refine go ?_
 refine WPU.block ?_
 obtain ⟨x32,h33,hF⟩:=q00 hF
 obtain ⟨x34,h35,hF⟩:=q00 hF
 refine go ?_
 refine WPU.drawS Tryz.tb_ok 9 (by kernel_rfl) rfl (by kernel_rfl) ?_
 refine gd ?_
 refine RD.q rfl (q3t rfl rfl (q8m (cI .i64) un33.h (q0r if3.h) (by decide) (q5n .i64) (vo rfl) h33)) ?_
 refine RD.q rfl (q5i (cI .i64) (fun x=>.i6 x) un3.h rfl (fun _=>rfl) rfl rfl h33) ?_
 refine gd ?_
 refine RD.q rfl (q3t rfl rfl (q8m (cL (cI .i64)) un28.h (q0r if33.h) (by decide) (qc8 (cI .i64)) (vo rfl) h35)) ?_
 refine RD.q rfl (q5i (cL (cI .i64)) (fun x=>.iM (cI .i64) x) un33.h rfl (fun _=>rfl) rfl rfl h35) ?_
 refine RD.done ⟨by kernel_rfl,?_⟩
 refine RS.yield (tmx:=fr 19 [(3,.ptr 2 0 0),(11,.fn (.func 69) [] [.iptr [.iM q03 r3]]),(12,.i6 x32),(13,.iM (cI .i64) x34)]) rfl rfl rfl rfl rfl rfl rfl rfl (setP2 rfl rfl) rfl rfl ?_
 refine gr ?_
 refine gr ?_
 refine z5a (fun tm σ=>q9c n r3 z17 l18 l20 l22 l23 (q1z p1 n r3 m2) x32 x34=some r∧tm=fr 19 []∧σ=⟨[(5,.vec (List.map (cL (cI .i64)) l18).flatten 33 1 t19),(4,.vec (List.map (cI .i64) l20).flatten 3 1 t21),(3,.row (List.map cB l22).flatten 4),(2,.row [.sl 1 0 ((p1.Nodes.length:Int).toNat) ((p1.Nodes.length:Int).toNat)] 28),(1,.row (List.map (cL (cI .i64)) (l23.set x32.toNat x34)).flatten 33),(0,.row [.iM q03 p1.Nodes] 24)],6⟩) ?_ ?_
 rintro _ _ ⟨hF,rfl,rfl⟩
 unfold q9c at hF
 refine ⟨rfl,?_⟩
 refine go ?_
 refine z5m (t:=false) rfl (fun hc=>by cases hc) (fun _=>?_)
 obtain ⟨x36,h37,hF⟩:=q00 hF
 obtain ⟨x38,h39,hF⟩:=q00 hF
 refine go ?_
 refine z5b Tryz.tb_ok [] (by kernel_rfl) ?_
 refine gd ?_
 refine RD.q rfl (q3t rfl rfl (q8m (cI .i64) un33.h (q0r if3.h) (by decide) (q5n .i64) (vo rfl) h37)) ?_
 refine RD.q rfl (q5i (cI .i64) (fun x=>.i6 x) un3.h rfl (fun _=>rfl) rfl rfl h37) ?_
 refine RD.ix h39 ?_
 refine gd ?_
 refine RD.done ⟨by kernel_rfl,trivial,?_⟩
 refine go ?_
 refine gS (l':=[(0,_),(1,_),(3,_),(4,_),(5,_),(6,_),(42,_),(43,_),(44,_)]) ?_
 refine z59 (fun m tm σ=>∃ z51:Int,∃ l52:List (List Int),∃ t53:Nat,∃ l54:List Int,∃ t55:Nat,∃ l56:List Bool,q38 n r3 z17 l23 (q1z p1 n r3 m2) x32 x34 x38 m z51 l52 l54 l56=some r∧tm=fr 76 [(0,.fn (.yield ly1) [] []),(1,.iptr [.iM q03 r3]),(3,.sl 3 0 ((r3.length:Int).toNat) ((r3.length:Int).toNat)),(4,.vl 4 t55 0 l54.length),(5,.vl 5 t53 0 l52.length),(6,.i6 z17),(42,.iM q07 x38.Arcs),(43,.i6 (x38.Arcs.length:Int)),(44,.i6 z51)]∧σ=⟨[(5,.vec (List.map (cL (cI .i64)) l52).flatten 33 1 t53),(4,.vec (List.map (cI .i64) l54).flatten 3 1 t55),(3,.row (List.map cB l56).flatten 4),(2,.row [.sl 1 0 ((p1.Nodes.length:Int).toNat) ((p1.Nodes.length:Int).toNat)] 28),(1,.row (List.map (cL (cI .i64)) (l23.set x32.toNat x34)).flatten 33),(0,.row [.iM q03 p1.Nodes] 24)],6⟩) (fun tm σ=>∃ l57:List (List Int),∃ t58:Nat,∃ l59:List Int,∃ t60:Nat,∃ l61:List Bool,q6j z17 l23 (q1z p1 n r3 m2) x32 x34 l57 l59 l61=some r∧tm=fr 76 [(0,.fn (.yield ly1) [] []),(1,.iptr [.iM q03 r3]),(3,.sl 3 0 ((r3.length:Int).toNat) ((r3.length:Int).toNat)),(4,.vl 4 t60 0 l59.length),(5,.vl 5 t58 0 l57.length),(6,.i6 z17)]∧σ=⟨[(5,.vec (List.map (cL (cI .i64)) l57).flatten 33 1 t58),(4,.vec (List.map (cI .i64) l59).flatten 3 1 t60),(3,.row (List.map cB l61).flatten 4),(2,.row [.sl 1 0 ((p1.Nodes.length:Int).toNat) ((p1.Nodes.length:Int).toNat)] 28),(1,.row (List.map (cL (cI .i64)) (l23.set x32.toNat x34)).flatten 33),(0,.row [.iM q03 p1.Nodes] 24)],6⟩) n ⟨0,l18,t19,l20,t21,l22,hF,rfl,rfl⟩ ?_ ?_
 rintro _ _ ⟨l57,t58,l59,t60,l61,hF,rfl,rfl⟩
 unfold q6j at hF
 refine go ?_
 exact lC ⟨_,l57,t58,l59,t60,l61,(l23.set x32.toNat x34),hF,rfl,rfl⟩
 rintro (_|m4) _ _ ⟨z51,l52,t53,l54,t55,l56,hF,rfl,rfl⟩
 cases hF
 unfold q38 at hF
 refine go ?_
 refine cF hF (fun h62 hF=>?_) (fun h62 hF=>?_)
 refine go ?_
 refine WPU.block ?_
 obtain ⟨x63,h64,hF⟩:=q00 hF
 refine go ?_
 refine RS.ix h64 ?_
 obtain ⟨x65,h66,hF⟩:=q00 hF
 refine go ?_
 refine RS.q rfl (q3t rfl rfl (qs8 un75.h (q0r if4.h) rfl h66)) (RS.q (u:=.bool x65) rfl (z2r cB (fun x=>.bool x) un4.h rfl (fun _=>rfl) rfl rfl h66) ?_)
 refine gn ?_
 refine z5a (fun tm σ=>∃ l68:List (List Int),∃ t69:Nat,∃ l70:List Int,∃ t71:Nat,∃ l72:List Bool,q6i z51 (q38 n r3 z17 l23 (q1z p1 n r3 m2) x32 x34 x38 m4) l68 l70 l72=some r∧tm=fr 76 [(0,.fn (.yield ly1) [] []),(1,.iptr [.iM q03 r3]),(3,.sl 3 0 ((r3.length:Int).toNat) ((r3.length:Int).toNat)),(4,.vl 4 t71 0 l70.length),(5,.vl 5 t69 0 l68.length),(6,.i6 z17),(42,.iM q07 x38.Arcs),(43,.i6 (x38.Arcs.length:Int)),(44,.i6 z51)]∧σ=⟨[(6,.row (q07 x63) 66),(5,.vec (List.map (cL (cI .i64)) l68).flatten 33 1 t69),(4,.vec (List.map (cI .i64) l70).flatten 3 1 t71),(3,.row (List.map cB l72).flatten 4),(2,.row [.sl 1 0 ((p1.Nodes.length:Int).toNat) ((p1.Nodes.length:Int).toNat)] 28),(1,.row (List.map (cL (cI .i64)) (l23.set x32.toNat x34)).flatten 33),(0,.row [.iM q03 p1.Nodes] 24)],7⟩) ?_ ?_
 rintro _ _ ⟨l68,t69,l70,t71,l72,hF,rfl,rfl⟩
 unfold q6i at hF
 refine go ?_
 exact lC ⟨_,l68,t69,l70,t71,l72,hF,rfl,rfl⟩
 refine cF hF (fun h67 hF=>?_) (fun h67 hF=>?_)
 obtain ⟨x73,h74,hF⟩:=q00 hF
 refine go ?_
 refine RS.q rfl (q3t rfl rfl (qs8 un75.h (q0r if4.h) rfl h74)) (RS.opn (u:=.junk) (σ':=⟨[(6,.row (q07 x63) 66),(5,.vec (List.map (cL (cI .i64)) l52).flatten 33 1 t53),(4,.vec (List.map (cI .i64) l54).flatten 3 1 t55),(3,.row (List.map cB (l56.set x63.To.toNat true)).flatten 4),(2,.row [.sl 1 0 ((p1.Nodes.length:Int).toNat) ((p1.Nodes.length:Int).toNat)] 28),(1,.row (List.map (cL (cI .i64)) (l23.set x32.toNat x34)).flatten 33),(0,.row [.iM q03 p1.Nodes] 24)],7⟩) rfl (qyz cB (q0r if4.h) z2t rfl rfl rfl rfl rfl rfl h74 rfl) rfl ?_)
 obtain ⟨h75,hF⟩:=q06 hF
 refine go ?_
 refine RS.g ?_
 refine RS.g ?_
 obtain ⟨x76,h77,hF⟩:=q00 hF
 obtain ⟨r78,h79,hF⟩:=q00 hF
 obtain ⟨h80,hF⟩:=q06 hF
 obtain ⟨h81,hF⟩:=q06 hF
 refine go ?_
 refine z5b Tryz.tb_ok [(0,5),(0,9),(0,10),(6,5),(7,5)] (by kernel_rfl) ?_
 refine gd ?_
 refine RD.q rfl (q3t rfl rfl (q8m (cL (cI .i64)) un28.h (q0r if33.h) (by decide) (qc8 (cI .i64)) (vo rfl) h77)) ?_
 refine RD.q rfl (q5i (cL (cI .i64)) (fun x=>.iM (cI .i64) x) un33.h rfl (fun _=>rfl) rfl rfl h77) (RD.callm (u:=.vl 9 0 0 r78.length) (σ1:=⟨[(9,.vec (List.map (cI .i64) r78).flatten 3 1 0),(7,.row [.i6 x63.To] 3),(6,.row (q07 x63) 66),(5,.vec (List.map (cL (cI .i64)) l52).flatten 33 1 t53),(4,.vec (List.map (cI .i64) (l54++[x63.To])).flatten 3 1 (t55+1)),(3,.row (List.map cB (l56.set x63.To.toNat true)).flatten 4),(2,.row [.sl 1 0 ((p1.Nodes.length:Int).toNat) ((p1.Nodes.length:Int).toNat)] 28),(1,.row (List.map (cL (cI .i64)) (l23.set x32.toNat x34)).flatten 33),(0,.row [.iM q03 p1.Nodes] 24)],10⟩) (args:=[.iM (cI .i64) x76]) rfl (q4j rfl rfl fn48 hb48 rfl rfl) (z5s (cI .i64) (qb0 n x76 r78 h79) _ 9 rfl) rfl rfl ?_)
 refine gd ?_
 refine RD.freeO (u:=.iM (cI .i64) ([x63.Feat])) rfl (qe7.bs (cs:=[.i6 x63.Feat]) un33.h if3.h rfl rfl rfl rfl rfl rfl rfl rfl rfl) rfl rfl (RD.fz (u:=.iM (cI .i64) (r78++[x63.Feat])) (u1:=.vl 9 1 0 ((r78++[x63.Feat]).length)) (s1:=⟨[(9,.vec (List.map (cI .i64) (r78++[x63.Feat])).flatten 3 1 1),(7,.row [.i6 x63.To] 3),(6,.row (q07 x63) 66),(5,.vec (List.map (cL (cI .i64)) l52).flatten 33 1 t53),(4,.vec (List.map (cI .i64) (l54++[x63.To])).flatten 3 1 (t55+1)),(3,.row (List.map cB (l56.set x63.To.toNat true)).flatten 4),(2,.row [.sl 1 0 ((p1.Nodes.length:Int).toNat) ((p1.Nodes.length:Int).toNat)] 28),(1,.row (List.map (cL (cI .i64)) (l23.set x32.toNat x34)).flatten 33),(0,.row [.iM q03 p1.Nodes] 24)],10⟩) (σ':=⟨[(7,.row [.i6 x63.To] 3),(6,.row (q07 x63) 66),(5,.vec (List.map (cL (cI .i64)) l52).flatten 33 1 t53),(4,.vec (List.map (cI .i64) (l54++[x63.To])).flatten 3 1 (t55+1)),(3,.row (List.map cB (l56.set x63.To.toNat true)).flatten 4),(2,.row [.sl 1 0 ((p1.Nodes.length:Int).toNat) ((p1.Nodes.length:Int).toNat)] 28),(1,.row (List.map (cL (cI .i64)) (l23.set x32.toNat x34)).flatten 33),(0,.row [.iM q03 p1.Nodes] 24)],10⟩) rfl (qau rfl rfl rfl rfl (ql9 (cI .i64) ([x63.Feat]) un33.h un33.h if3.h rfl (q5n .i64) rfl (qh9 (cI .i64) (q5n .i64)) h80)) (z5c 9 1) (Nat.le_refl _) rfl rfl ?_)
 refine RD.g ?_
 refine RD.g ?_
 refine gd ?_
 refine RD.done ⟨by kernel_rfl,⟨q2f rfl,⟨q2f rfl,⟨q2f rfl,⟨qeb un66.h rfl (q0r if3.h) rfl rfl rfl,⟨qen un3.h rfl rfl rfl rfl,trivial⟩⟩⟩⟩⟩,?_⟩
 refine go ?_
 exact xC ⟨(l52++[(r78++[x63.Feat])]),(t53+1),(l54++[x63.To]),(t55+1),(l56.set x63.To.toNat true),hF,rfl,rfl⟩
 refine go ?_
 exact xC ⟨l52,t53,l54,t55,l56,hF,rfl,rfl⟩
 refine go ?_
 exact xC ⟨l52,t53,l54,t55,l56,hF,rfl,rfl⟩
 refine go ?_
 refine WPU.block ?_
 obtain ⟨x82,h83,hF⟩:=q00 hF
 refine go ?_
 refine RS.q rfl (q3t rfl rfl (qs8 un28.h (q0r if33.h) rfl h83)) (RS.opn (u:=.junk) (σ':=⟨[(5,.vec (List.map (cL (cI .i64)) l18).flatten 33 1 t19),(4,.vec (List.map (cI .i64) l20).flatten 3 1 t21),(3,.row (List.map cB l22).flatten 4),(2,.row [.sl 1 0 ((p1.Nodes.length:Int).toNat) ((p1.Nodes.length:Int).toNat)] 28),(1,.row (List.map (cL (cI .i64)) (l23.set x32.toNat x34)).flatten 33),(0,.row [.iM q03 p1.Nodes] 24)],6⟩) rfl (qyz (cL (cI .i64)) (q0r if33.h) (qc8 (cI .i64)) rfl rfl rfl rfl rfl rfl h83 rfl) rfl ?_)
 refine go ?_
 exact xC ⟨hF,rfl,rfl⟩
 refine go ?_
 exact xC ⟨l18,t19,l20,t21,l22,l23,hF,rfl,rfl⟩
def q62   : Option (Bool) :=
 some true
def q3w (p1:List Int) (p2:List Int):Nat→Int→Option (Bool)
 | 0,_=>none
 | m1+1,z8 =>
  cond (decide (z8<(p1.length:Int)))
   (q02 (q0j p1 z8) fun x10 =>
   q02 (q0j p2 z8) fun x12 =>
   cond (x10 != x12)
    (some false)
    ((q3w p1 p2 m1) (IntKind.i64.wrap (z8+1))))
   (q62)
def q93 (n:Nat) (p1:List Int) (p2:List Int):Option (Bool) :=
 cond ((p1.length:Int) != (p2.length:Int))
  (some false)
  (q3w p1 p2 n 0)
theorem qin (n:Nat) (p1:List Int) (p2:List Int) (r:Bool) (hF:q93 n p1 p2=some r):EvU Tryz.prog 49 [.isl false (List.map (cI .i64) p1),.isl false (List.map (cI .i64) p2)] ⟨[],0⟩ (fun u _=>u = .bool r∧Bel 0 u):=by
 unfold q93 at hF
 refine bg2 26 fn49 ?_
 refine go ?_
 refine cF hF (fun h3 hF=>?_) (fun h3 hF=>?_)
 exact gx hF
 refine go ?_
 refine gS (l':=[(0,_),(1,_),(12,_),(13,_)]) ?_
 refine z59 (fun m tm σ=>∃ z8:Int,q3w p1 p2 m z8=some r∧tm=fr 26 [(0,.iM (cI .i64) p1),(1,.iM (cI .i64) p2),(12,.i6 (p1.length:Int)),(13,.i6 z8)]∧σ=⟨[],0⟩) (fun tm σ=>q62=some r∧tm=fr 26 []∧σ=⟨[],0⟩) n ⟨0,hF,rfl,rfl⟩ ?_ ?_
 rintro _ _ ⟨hF,rfl,rfl⟩
 unfold q62 at hF
 exact gx hF
 rintro (_|m1) _ _ ⟨z8,hF,rfl,rfl⟩
 cases hF
 unfold q3w at hF
 refine go ?_
 refine cF hF (fun h9 hF=>?_) (fun h9 hF=>?_)
 refine go ?_
 refine WPU.block ?_
 obtain ⟨x10,h11,hF⟩:=q00 hF
 obtain ⟨x12,h13,hF⟩:=q00 hF
 refine go ?_
 refine z5b Tryz.tb_ok [] (by kernel_rfl) ?_
 refine gd ?_
 refine RD.ix h11 ?_
 refine gd ?_
 refine RD.ix h13 ?_
 refine gd ?_
 refine RD.done ⟨by kernel_rfl,trivial,?_⟩
 refine go ?_
 refine cF hF (fun h14 hF=>?_) (fun h14 hF=>?_)
 exact gx hF
 refine go ?_
 exact lC ⟨_,hF,rfl,rfl⟩
 refine go ?_
 exact xC ⟨hF,rfl,rfl⟩
def q7q (z32:Int) (rc2:Int→(List q0g)→Option ((List q0g))) (l50:List q0g):Option ((List q0g)) :=
 rc2 (IntKind.i64.wrap (z32+1)) l50
def qb9 (z11:Int) (rc1:Int→(List q0g)→Option ((List q0g))) (l35:List q0g):Option ((List q0g)) :=
 rc1 (IntKind.i64.wrap (z11+1)) l35
def q48 (n:Nat) (r2:(List (List Int))) (z11:Int) (rc1:Int→(List q0g)→Option ((List q0g))) (x17:q0b):Nat→Int→(List q0g)→Option ((List q0g))
 | 0,_,_=>none
 | m2+1,z32,l33 =>
  cond (decide (z32<(x17.Arcs.length:Int)))
   (q02 (q0j x17.Arcs z32) fun x38 =>
   q02 (q0j r2 z11) fun x40 =>
   q02 (q36 n x40) fun r42 =>
   q0z ((r42.length+([x38.Feat]).length)*8≤140737488355328∧r42.length+([x38.Feat]).length≤140737488355328) (
   q02 (q0j r2 x38.To) fun x45 =>
   q02 (q93 n (r42++[x38.Feat]) x45) fun r47 =>
   cond (!r47)
    (q02 (q0j r2 x38.To) fun x52 =>
    q0z ((l33.length+1)*48≤140737488355328∧l33.length+1≤140737488355328) (
    q7q z32 (q48 n r2 z11 rc1 x17 m2) (l33++[(q0g.mk x52 (r42++[x38.Feat]))])))
    (q7q z32 (q48 n r2 z11 rc1 x17 m2) l33)))
   (qb9 z11 rc1 l33)
def qb8  (l14:List q0g):Option ((List q0g)) :=
 some l14
def q3d (p1:GFS) (n:Nat) (r2:(List (List Int))):Nat→Int→(List q0g)→Option ((List q0g))
 | 0,_,_=>none
 | m1+1,z11,l12 =>
  cond (decide (z11<(p1.Nodes.length:Int)))
   (q02 (q0j p1.Nodes z11) fun x17 =>
   q48 n r2 z11 (q3d p1 n r2 m1) x17 n 0 l12)
   (qb8 l12)
def qd5 (n:Nat) (p1:GFS):Option ((List q0g)) :=
 q02 (q7c n p1) fun r2 =>
 q3d p1 n r2 n 0 ([]:List q0g)
theorem qd6 (n:Nat) (p1:GFS) (r:(List q0g)) (hF:qd5 n p1=some r):EvU Tryz.prog 18 [.agg [.isl false (List.map q03 p1.Nodes)]] ⟨[],0⟩ (fun u _=>u = .isl false (List.map q1h r)∧Bel 0 u):=by
 unfold qd5 at hF
 refine bg1 57 fn18 ?_
 obtain ⟨r2,h3,hF⟩:=q00 hF
 refine go ?_
 refine RS.cl rfl (pC (q8o n p1 r2 h3) _) fn15 ?_
 refine gr ?_
 refine gr ?_
 refine WPU.ghost (tm':=fr 57 [(3,.iM (cL (cI .i64)) r2),(4,.vl 1 0 0 (([]:List q0g).length)),(13,.iM q03 p1.Nodes),(14,.i6 (p1.Nodes.length:Int)),(15,.i6 0)]) (σ':=⟨[(1,.vec (List.map q1h ([]:List q0g)).flatten 56 2 0),(0,.row [.iM q03 p1.Nodes] 24)],2⟩) (Gh.trans (z5g 4 56 2 (by decide) NZ rfl rfl) (z5d ⟨rfl,rfl,rfl,rfl,rfl,trivial⟩ rfl)) NZ ?_
 refine gS (l':=[(3,_),(4,_),(13,_),(14,_),(15,_)]) ?_
 refine z59 (fun m tm σ=>∃ z11:Int,∃ l12:List q0g,∃ t13:Nat,q3d p1 n r2 m z11 l12=some r∧tm=fr 57 [(3,.iM (cL (cI .i64)) r2),(4,.vl 1 t13 0 l12.length),(13,.iM q03 p1.Nodes),(14,.i6 (p1.Nodes.length:Int)),(15,.i6 z11)]∧σ=⟨[(1,.vec (List.map q1h l12).flatten 56 2 t13),(0,.row [.iM q03 p1.Nodes] 24)],2⟩) (fun tm σ=>∃ l14:List q0g,∃ t15:Nat,qb8 l14=some r∧tm=fr 57 [(4,.vl 1 t15 0 l14.length)]∧σ=⟨[(1,.vec (List.map q1h l14).flatten 56 2 t15),(0,.row [.iM q03 p1.Nodes] 24)],2⟩) n ⟨0,([]:List q0g),0,hF,rfl,rfl⟩ ?_ ?_
 rintro _ _ ⟨l14,t15,hF,rfl,rfl⟩
 unfold qb8 at hF
 refine go ?_
 obtain rfl:=sI hF
 exact rT (us:=[.vl 1 t15 0 l14.length]) (u:=.iM q1h l14) (q28 rfl (q24)) (fR 1 2)
 rintro (_|m1) _ _ ⟨z11,l12,t13,hF,rfl,rfl⟩
 cases hF
 unfold q3d at hF
 refine go ?_
 refine cF hF (fun h16 hF=>?_) (fun h16 hF=>?_)
 refine go ?_
 refine WPU.block ?_
 obtain ⟨x17,h18,hF⟩:=q00 hF
 refine go ?_
 refine RS.ix h18 ?_
 refine go ?_
 refine gS (l':=[(3,_),(4,_),(5,_),(13,_),(14,_),(15,_),(21,_),(22,_),(23,_)]) ?_
 refine z59 (fun m tm σ=>∃ z32:Int,∃ l33:List q0g,∃ t34:Nat,q48 n r2 z11 (q3d p1 n r2 m1) x17 m z32 l33=some r∧tm=fr 57 [(3,.iM (cL (cI .i64)) r2),(4,.vl 1 t34 0 l33.length),(5,.i6 z11),(13,.iM q03 p1.Nodes),(14,.i6 (p1.Nodes.length:Int)),(15,.i6 z11),(21,.iM q07 x17.Arcs),(22,.i6 (x17.Arcs.length:Int)),(23,.i6 z32)]∧σ=⟨[(2,.row (q03 x17) 54),(1,.vec (List.map q1h l33).flatten 56 2 t34),(0,.row [.iM q03 p1.Nodes] 24)],3⟩) (fun tm σ=>∃ l35:List q0g,∃ t36:Nat,qb9 z11 (q3d p1 n r2 m1) l35=some r∧tm=fr 57 [(3,.iM (cL (cI .i64)) r2),(4,.vl 1 t36 0 l35.length),(13,.iM q03 p1.Nodes),(14,.i6 (p1.Nodes.length:Int)),(15,.i6 z11)]∧σ=⟨[(2,.row (q03 x17) 54),(1,.vec (List.map q1h l35).flatten 56 2 t36),(0,.row [.iM q03 p1.Nodes] 24)],3⟩) n ⟨0,l12,t13,hF,rfl,rfl⟩ ?_ ?_
 rintro _ _ ⟨l35,t36,hF,rfl,rfl⟩
 unfold qb9 at hF
 refine go ?_
 exact lC ⟨_,l35,t36,hF,rfl,rfl⟩
 rintro (_|m2) _ _ ⟨z32,l33,t34,hF,rfl,rfl⟩
 cases hF
 unfold q48 at hF
 refine go ?_
 refine cF hF (fun h37 hF=>?_) (fun h37 hF=>?_)
 refine go ?_
 refine WPU.block ?_
 obtain ⟨x38,h39,hF⟩:=q00 hF
 refine go ?_
 refine RS.ix h39 ?_
 obtain ⟨x40,h41,hF⟩:=q00 hF
 obtain ⟨r42,h43,hF⟩:=q00 hF
 obtain ⟨h44,hF⟩:=q06 hF
 refine go ?_
 refine z5b Tryz.tb_ok [(5,4),(6,4)] (by kernel_rfl) ?_
 refine gd ?_
 refine RD.ix h41 ?_
 refine gd ?_
 refine RD.callm (u:=.vl 5 0 0 r42.length) (σ1:=⟨[(5,.vec (List.map (cI .i64) r42).flatten 3 1 0),(3,.row (q07 x38) 66),(2,.row (q03 x17) 54),(1,.vec (List.map q1h l33).flatten 56 2 t34),(0,.row [.iM q03 p1.Nodes] 24)],6⟩) (args:=[.iM (cI .i64) x40]) rfl (q4j rfl rfl fn48 hb48 rfl rfl) (z5s (cI .i64) (qb0 n x40 r42 h43) _ 5 rfl) rfl rfl ?_
 refine gd ?_
 refine RD.freeO (u:=.iM (cI .i64) ([x38.Feat])) rfl (qe7.bs (cs:=[.i6 x38.Feat]) un33.h if3.h rfl rfl rfl rfl rfl rfl rfl rfl rfl) rfl rfl ?_
 refine RD.g ?_
 refine gd ?_
 refine RD.done ⟨by kernel_rfl,⟨qeb un66.h rfl (q0r if3.h) rfl rfl rfl,⟨qen un3.h rfl rfl rfl rfl,trivial⟩⟩,?_⟩
 obtain ⟨x45,h46,hF⟩:=q00 hF
 obtain ⟨r47,h48,hF⟩:=q00 hF
 refine go ?_
 refine RS.ix h46 ?_
 refine go ?_
 refine RS.cl rfl (vw (qin n (r42++[x38.Feat]) x45 r47 h48) (z5c 5 1)) fn49 ?_
 refine gn ?_
 refine z5a (fun tm σ=>∃ l50:List q0g,∃ t51:Nat,q7q z32 (q48 n r2 z11 (q3d p1 n r2 m1) x17 m2) l50=some r∧tm=fr 57 [(3,.iM (cL (cI .i64)) r2),(4,.vl 1 t51 0 l50.length),(5,.i6 z11),(13,.iM q03 p1.Nodes),(14,.i6 (p1.Nodes.length:Int)),(15,.i6 z11),(21,.iM q07 x17.Arcs),(22,.i6 (x17.Arcs.length:Int)),(23,.i6 z32)]∧σ=⟨[(3,.row (q07 x38) 66),(2,.row (q03 x17) 54),(1,.vec (List.map q1h l50).flatten 56 2 t51),(0,.row [.iM q03 p1.Nodes] 24)],6⟩) ?_ ?_
 rintro _ _ ⟨l50,t51,hF,rfl,rfl⟩
 unfold q7q at hF
 refine go ?_
 exact lC ⟨_,l50,t51,hF,rfl,rfl⟩
 refine cF hF (fun h49 hF=>?_) (fun h49 hF=>?_)
 refine gn ?_
 refine WPU.ghost (tm':=fr 57 [(3,.iM (cL (cI .i64)) r2),(4,.vl 1 t34 0 l33.length),(5,.i6 z11),(8,.ptr 3 0 0),(9,.iM (cI .i64) (r42++[x38.Feat])),(13,.iM q03 p1.Nodes),(14,.i6 (p1.Nodes.length:Int)),(15,.i6 z11),(21,.iM q07 x17.Arcs),(22,.i6 (x17.Arcs.length:Int)),(23,.i6 z32)]) (σ':=⟨[(3,.row (q07 x38) 66),(2,.row (q03 x17) 54),(1,.vec (List.map q1h l33).flatten 56 2 t34),(0,.row [.iM q03 p1.Nodes] 24)],6⟩) (Gh.trans (Gh.sub (l':=[(3,.iM (cL (cI .i64)) r2),(4,.vl 1 t34 0 l33.length),(5,.i6 z11),(8,.ptr 3 0 0),(9,.vl 5 1 0 ((r42++[x38.Feat]).length)),(13,.iM q03 p1.Nodes),(14,.i6 (p1.Nodes.length:Int)),(15,.i6 z11),(21,.iM q07 x17.Arcs),(22,.i6 (x17.Arcs.length:Int)),(23,.i6 z32)]) ⟨rfl,rfl,rfl,rfl,rfl,rfl,rfl,rfl,rfl,rfl,rfl,trivial⟩) (z5o 5 1)) NZ ?_
 obtain ⟨x52,h53,hF⟩:=q00 hF
 obtain ⟨h54,hF⟩:=q06 hF
 refine go ?_
 refine RS.ix h53 ?_
 refine go ?_
 refine RS.g ?_
 refine RS.g ?_
 refine go ?_
 exact xC ⟨(l33++[(q0g.mk x52 (r42++[x38.Feat]))]),(t34+1),hF,rfl,rfl⟩
 refine go ?_
 exact ⟨_,_,⟨l33,t34,hF,rfl,rfl⟩,NZ,Gh.trans (z5p (fun k=>!(Nat.beq k 5))) (Gh.toC (n1:=6) ⟨rfl,rfl,rfl,rfl,rfl,rfl,rfl,rfl,rfl,trivial⟩ rfl NZ (by simp))⟩
 refine go ?_
 exact xC ⟨l33,t34,hF,rfl,rfl⟩
 refine go ?_
 exact xC ⟨l12,t13,hF,rfl,rfl⟩
def qd9 (z22:Int) (l23:List q0b) (rc2:Int→(List q0b)→Option (GFS)) (x28:q0b) (l48:List q0c):Option (GFS) :=
 q0z ((l23.length+1)*32≤140737488355328∧l23.length+1≤140737488355328) (
 rc2 (IntKind.i64.wrap (z22+1)) (l23++[(q0b.mk x28.Typex l48)]))
def q9h (p1:List Int) (z22:Int) (l23:List q0b) (rc2:Int→(List q0b)→Option (GFS)) (x28:q0b):Nat→Int→(List q0c)→Option (GFS)
 | 0,_,_=>none
 | m3+1,z45,l46 =>
  cond (decide (z45<(x28.Arcs.length:Int)))
   (q02 (q0j x28.Arcs z45) fun x52 =>
   q0z ((l46.length+1)*16≤140737488355328∧l46.length+1≤140737488355328) (
   (q9h p1 z22 l23 rc2 x28 m3) (IntKind.i64.wrap (z45+1)) (l46++[(q0c.mk x52.Feat (IntKind.i64.wrap (x52.To+(p1.length:Int))))])))
   (qd9 z22 l23 rc2 x28 l46)
def qd8  (l25:List q0b):Option (GFS) :=
 some (GFS.mk l25)
def q53 (p1:List Int) (p2:GFS) (n:Nat):Nat→Int→(List q0b)→Option (GFS)
 | 0,_,_=>none
 | m2+1,z22,l23 =>
  cond (decide (z22<(p2.Nodes.length:Int)))
   (q02 (q0j p2.Nodes z22) fun x28 =>
   q9h p1 z22 l23 (q53 p1 p2 n m2) x28 n 0 ([]:List q0c))
   (qd8 l23)
def qd7 (p1:List Int) (p2:GFS) (n:Nat) (l13:List q0b):Option (GFS) :=
 q53 p1 p2 n n 0 l13
def q9g (p1:List Int) (p2:GFS) (n:Nat):Nat→Int→(List q0b)→Option (GFS)
 | 0,_,_=>none
 | m1+1,z10,l11 =>
  cond (decide (z10<(p1.length:Int)))
   (q02 (q0j p1 z10) fun x56 =>
   q0z ((l11.length+1)*32≤140737488355328∧l11.length+1≤140737488355328) (
   (q9g p1 p2 n m1) (IntKind.i64.wrap (z10+1)) (l11++[(q0b.mk 0 ([(q0c.mk x56 (IntKind.i64.wrap (z10+1)))]))])))
   (qd7 p1 p2 n l11)
def qjd (n:Nat) (p1:List Int) (p2:GFS):Option (GFS) :=
 q9g p1 p2 n n 0 ([]:List q0b)
theorem q64 (n:Nat) (p1:List Int) (p2:GFS) (r:GFS) (hF:qjd n p1 p2=some r):EvU Tryz.prog 22 [.isl false (List.map (cI .i64) p1),.agg [.isl false (List.map q03 p2.Nodes)]] ⟨[],0⟩ (fun u _=>u = .agg [.isl false (List.map q03 r.Nodes)]∧Bel 0 u):=by
 unfold qjd at hF
 refine bg2 71 fn22 ?_
 refine gr ?_
 refine gr ?_
 refine gr ?_
 refine WPU.ghost (tm':=fr 71 [(0,.iM (cI .i64) p1),(3,.ptr 0 0 0),(4,.ptr 1 0 0),(5,.ptr 2 0 0),(13,.iM (cI .i64) p1),(14,.i6 (p1.length:Int)),(15,.i6 0)]) (σ':=⟨[(3,.vec (List.map q03 ([]:List q0b)).flatten 54 2 0),(2,.row [.vl 3 0 0 (([]:List q0b).length)] 24),(1,.row [.nils] 24),(0,.row [.iM q03 p2.Nodes] 24)],4⟩) (Gh.trans (z5k 2 0 54 2 (by decide) NZ rfl rfl) (z5d ⟨rfl,rfl,rfl,rfl,rfl,rfl,rfl,trivial⟩ rfl)) NZ ?_
 refine gS (l':=[(0,_),(3,_),(4,_),(5,_),(13,_),(14,_),(15,_)]) ?_
 refine z59 (fun m tm σ=>∃ z10:Int,∃ l11:List q0b,∃ t12:Nat,q9g p1 p2 n m z10 l11=some r∧tm=fr 71 [(0,.iM (cI .i64) p1),(3,.ptr 0 0 0),(4,.ptr 1 0 0),(5,.ptr 2 0 0),(13,.iM (cI .i64) p1),(14,.i6 (p1.length:Int)),(15,.i6 z10)]∧σ=⟨[(3,.vec (List.map q03 l11).flatten 54 2 t12),(2,.row [.vl 3 t12 0 l11.length] 24),(1,.row [.nils] 24),(0,.row [.iM q03 p2.Nodes] 24)],4⟩) (fun tm σ=>∃ l13:List q0b,∃ t14:Nat,qd7 p1 p2 n l13=some r∧tm=fr 71 [(0,.iM (cI .i64) p1),(3,.ptr 0 0 0),(4,.ptr 1 0 0),(5,.ptr 2 0 0)]∧σ=⟨[(3,.vec (List.map q03 l13).flatten 54 2 t14),(2,.row [.vl 3 t14 0 l13.length] 24),(1,.row [.nils] 24),(0,.row [.iM q03 p2.Nodes] 24)],4⟩) n ⟨0,([]:List q0b),0,hF,rfl,rfl⟩ ?_ ?_
 rintro _ _ ⟨l13,t14,hF,rfl,rfl⟩
 unfold qd7 at hF
 refine go ?_
 refine gS (l':=[(0,_),(4,_),(5,_),(33,_),(34,_),(35,_)]) ?_
 refine z59 (fun m tm σ=>∃ z22:Int,∃ l23:List q0b,∃ t24:Nat,q53 p1 p2 n m z22 l23=some r∧tm=fr 71 [(0,.iM (cI .i64) p1),(4,.ptr 1 0 0),(5,.ptr 2 0 0),(33,.iM q03 p2.Nodes),(34,.i6 (p2.Nodes.length:Int)),(35,.i6 z22)]∧σ=⟨[(3,.vec (List.map q03 l23).flatten 54 2 t24),(2,.row [.vl 3 t24 0 l23.length] 24),(1,.row [.nils] 24),(0,.row [.iM q03 p2.Nodes] 24)],4⟩) (fun tm σ=>∃ l25:List q0b,∃ t26:Nat,qd8 l25=some r∧tm=fr 71 [(4,.ptr 1 0 0),(5,.ptr 2 0 0)]∧σ=⟨[(3,.vec (List.map q03 l25).flatten 54 2 t26),(2,.row [.vl 3 t26 0 l25.length] 24),(1,.row [.nils] 24),(0,.row [.iM q03 p2.Nodes] 24)],4⟩) n ⟨0,l13,t14,hF,rfl,rfl⟩ ?_ ?_
 rintro _ _ ⟨l25,t26,hF,rfl,rfl⟩
 unfold qd8 at hF
 refine go ?_
 obtain rfl:=sI hF
 exact rT (us:=[.agg [.vl 3 t26 0 l25.length]]) (u:=.agg [.iM q03 l25]) (qg1 (q78 un24.h rfl (q0r if24.h) rfl rfl rfl) (q24)) (fR 3 2)
 rintro (_|m2) _ _ ⟨z22,l23,t24,hF,rfl,rfl⟩
 cases hF
 unfold q53 at hF
 refine go ?_
 refine cF hF (fun h27 hF=>?_) (fun h27 hF=>?_)
 refine go ?_
 refine WPU.block ?_
 obtain ⟨x28,h29,hF⟩:=q00 hF
 refine go ?_
 refine RS.ix h29 ?_
 refine gr ?_
 refine gr ?_
 refine WPU.ghost (tm':=fr 71 [(0,.iM (cI .i64) p1),(4,.ptr 1 0 0),(5,.ptr 2 0 0),(10,.ptr 5 0 0),(33,.iM q03 p2.Nodes),(34,.i6 (p2.Nodes.length:Int)),(35,.i6 z22),(43,.iM q07 x28.Arcs),(44,.i6 (x28.Arcs.length:Int)),(45,.i6 0)]) (σ':=⟨[(6,.vec (List.map q07 ([]:List q0c)).flatten 66 2 0),(5,.row [.i6 x28.Typex,.vl 6 0 0 (([]:List q0c).length)] 54),(4,.row (q03 x28) 54),(3,.vec (List.map q03 l23).flatten 54 2 t24),(2,.row [.vl 3 t24 0 l23.length] 24),(1,.row [.nils] 24),(0,.row [.iM q03 p2.Nodes] 24)],7⟩) (Gh.trans (z5k 5 1 66 2 (by decide) NZ rfl rfl) (z5d ⟨rfl,rfl,rfl,rfl,rfl,rfl,rfl,rfl,rfl,rfl,trivial⟩ rfl)) NZ ?_
 refine gS (l':=[(0,_),(4,_),(5,_),(10,_),(33,_),(34,_),(35,_),(43,_),(44,_),(45,_)]) ?_
 refine z59 (fun m tm σ=>∃ z45:Int,∃ l46:List q0c,∃ t47:Nat,q9h p1 z22 l23 (q53 p1 p2 n m2) x28 m z45 l46=some r∧tm=fr 71 [(0,.iM (cI .i64) p1),(4,.ptr 1 0 0),(5,.ptr 2 0 0),(10,.ptr 5 0 0),(33,.iM q03 p2.Nodes),(34,.i6 (p2.Nodes.length:Int)),(35,.i6 z22),(43,.iM q07 x28.Arcs),(44,.i6 (x28.Arcs.length:Int)),(45,.i6 z45)]∧σ=⟨[(6,.vec (List.map q07 l46).flatten 66 2 t47),(5,.row [.i6 x28.Typex,.vl 6 t47 0 l46.length] 54),(4,.row (q03 x28) 54),(3,.vec (List.map q03 l23).flatten 54 2 t24),(2,.row [.vl 3 t24 0 l23.length] 24),(1,.row [.nils] 24),(0,.row [.iM q03 p2.Nodes] 24)],7⟩) (fun tm σ=>∃ l48:List q0c,∃ t49:Nat,qd9 z22 l23 (q53 p1 p2 n m2) x28 l48=some r∧tm=fr 71 [(0,.iM (cI .i64) p1),(4,.ptr 1 0 0),(5,.ptr 2 0 0),(10,.ptr 5 0 0),(33,.iM q03 p2.Nodes),(34,.i6 (p2.Nodes.length:Int)),(35,.i6 z22)]∧σ=⟨[(6,.vec (List.map q07 l48).flatten 66 2 t49),(5,.row [.i6 x28.Typex,.vl 6 t49 0 l48.length] 54),(4,.row (q03 x28) 54),(3,.vec (List.map q03 l23).flatten 54 2 t24),(2,.row [.vl 3 t24 0 l23.length] 24),(1,.row [.nils] 24),(0,.row [.iM q03 p2.Nodes] 24)],7⟩) n ⟨0,([]:List q0c),0,hF,rfl,rfl⟩ ?_ ?_
 rintro _ _ ⟨l48,t49,hF,rfl,rfl⟩
 unfold qd9 at hF
 refine gn ?_
 refine WPU.ghost (tm':=fr 71 [(0,.iM (cI .i64) p1),(4,.ptr 1 0 0),(5,.ptr 2 0 0),(10,.ptr 5 0 0),(33,.iM q03 p2.Nodes),(34,.i6 (p2.Nodes.length:Int)),(35,.i6 z22)]) (σ':=⟨[(5,.row [.i6 x28.Typex,.iM q07 l48] 54),(4,.row (q03 x28) 54),(3,.vec (List.map q03 l23).flatten 54 2 t24),(2,.row [.vl 3 t24 0 l23.length] 24),(1,.row [.nils] 24),(0,.row [.iM q03 p2.Nodes] 24)],7⟩) (Gh.trans (Gh.sub (l':=[(0,.iM (cI .i64) p1),(4,.ptr 1 0 0),(5,.ptr 2 0 0),(10,.ptr 5 0 0),(33,.iM q03 p2.Nodes),(34,.i6 (p2.Nodes.length:Int)),(35,.i6 z22)]) ⟨rfl,rfl,rfl,rfl,rfl,rfl,rfl,trivial⟩) (z5o 6 2)) NZ ?_
 obtain ⟨h50,hF⟩:=q06 hF
 refine go ?_
 refine RS.g ?_
 refine RS.g ?_
 refine go ?_
 exact lC ⟨_,(l23++[(q0b.mk x28.Typex l48)]),(t24+1),hF,rfl,rfl⟩
 rintro (_|m3) _ _ ⟨z45,l46,t47,hF,rfl,rfl⟩
 cases hF
 unfold q9h at hF
 refine go ?_
 refine cF hF (fun h51 hF=>?_) (fun h51 hF=>?_)
 refine go ?_
 refine WPU.block ?_
 obtain ⟨x52,h53,hF⟩:=q00 hF
 refine go ?_
 refine RS.ix h53 ?_
 obtain ⟨h54,hF⟩:=q06 hF
 refine go ?_
 refine RS.g ?_
 refine RS.g ?_
 refine go ?_
 exact lC ⟨_,(l46++[(q0c.mk x52.Feat (IntKind.i64.wrap (x52.To+(p1.length:Int))))]),(t47+1),hF,rfl,rfl⟩
 refine go ?_
 exact xC ⟨l46,t47,hF,rfl,rfl⟩
 refine go ?_
 exact xC ⟨l23,t24,hF,rfl,rfl⟩
 rintro (_|m1) _ _ ⟨z10,l11,t12,hF,rfl,rfl⟩
 cases hF
 unfold q9g at hF
 refine go ?_
 refine cF hF (fun h55 hF=>?_) (fun h55 hF=>?_)
 refine go ?_
 refine WPU.block ?_
 obtain ⟨x56,h57,hF⟩:=q00 hF
 refine go ?_
 refine RS.ix h57 ?_
 obtain ⟨h58,hF⟩:=q06 hF
 refine go ?_
 refine RS.step (u:=.iM q07 ([(q0c.mk x56 (IntKind.i64.wrap (z10+1)))])) (σ':=⟨[(3,.vec (List.map q03 l11).flatten 54 2 t12),(2,.row [.vl 3 t12 0 l11.length] 24),(1,.row [.nils] 24),(0,.row [.iM q03 p2.Nodes] 24)],5⟩) rfl (qe9.fz Tryz.tb_ok (u1:=.sl 4 0 1 1) (s1:=⟨[(4,.row [.i6 x56,.i6 (IntKind.i64.wrap (z10+1))] 66),(3,.vec (List.map q03 l11).flatten 54 2 t12),(2,.row [.vl 3 t12 0 l11.length] 24),(1,.row [.nils] 24),(0,.row [.iM q03 p2.Nodes] 24)],5⟩) (q6h un52.h if66.h rfl rfl rfl rfl rfl rfl rfl) (z5c 4 2) (Nat.le_refl _) rfl rfl) rfl rfl ?_
 refine go ?_
 refine RS.g ?_
 refine RS.g ?_
 refine go ?_
 exact lC ⟨_,(l11++[(q0b.mk 0 ([(q0c.mk x56 (IntKind.i64.wrap (z10+1)))]))]),(t12+1),hF,rfl,rfl⟩
 refine go ?_
 exact xC ⟨l11,t12,hF,rfl,rfl⟩
def qd4 (n:Nat) (l13:List (List UInt8)):Option ((List UInt8)) :=
 q02 (strings_Join n l13 ([46])) fun r15 =>
 some r15
def q9f (p1:q0q) (p2:List Int) (n:Nat):Nat→Int→(List (List UInt8))→Option ((List UInt8))
 | 0,_,_=>none
 | m1+1,z10,l11 =>
  cond (decide (z10<(p2.length:Int)))
   (q02 (q0j p2 z10) fun x18 =>
   q02 (q0j p1.Feats x18) fun x20 =>
   q0z ((l11.length+1)*16≤140737488355328∧l11.length+1≤140737488355328) (
   (q9f p1 p2 n m1) (IntKind.i64.wrap (z10+1)) (l11++[x20.Name])))
   (qd4 n l11)
def qjc (n:Nat) (p1:q0q) (p2:List Int):Option ((List UInt8)) :=
 q9f p1 p2 n n 0 ([]:List (List UInt8))
theorem qew (n:Nat) (p1:q0q) (p2:List Int) (r:(List UInt8)) (hF:qjc n p1 p2=some r):EvU Tryz.prog 25 [.agg (q0h p1),.isl false (List.map (cI .i64) p2)] ⟨[],0⟩ (fun u _=>u = .str r∧Bel 0 u):=by
 unfold qjc at hF
 refine bg2 26 fn25 ?_
 refine gr ?_
 refine gr ?_
 refine gr ?_
 refine WPU.ghost (tm':=fr 26 [(2,.ptr 0 0 0),(5,.vl 1 0 0 (([]:List (List UInt8)).length)),(8,.iM (cI .i64) p2),(9,.i6 (p2.length:Int)),(10,.i6 0)]) (σ':=⟨[(1,.vec (List.map cS ([]:List (List UInt8))).flatten 9 1 0),(0,.row (q0h p1) 43)],2⟩) (Gh.trans (z5g 5 9 1 (by decide) NZ rfl rfl) (z5d ⟨rfl,rfl,rfl,rfl,rfl,trivial⟩ rfl)) NZ ?_
 refine gS (l':=[(2,_),(5,_),(8,_),(9,_),(10,_)]) ?_
 refine z59 (fun m tm σ=>∃ z10:Int,∃ l11:List (List UInt8),∃ t12:Nat,q9f p1 p2 n m z10 l11=some r∧tm=fr 26 [(2,.ptr 0 0 0),(5,.vl 1 t12 0 l11.length),(8,.iM (cI .i64) p2),(9,.i6 (p2.length:Int)),(10,.i6 z10)]∧σ=⟨[(1,.vec (List.map cS l11).flatten 9 1 t12),(0,.row (q0h p1) 43)],2⟩) (fun tm σ=>∃ l13:List (List UInt8),∃ t14:Nat,qd4 n l13=some r∧tm=fr 26 [(5,.vl 1 t14 0 l13.length)]∧σ=⟨[(1,.vec (List.map cS l13).flatten 9 1 t14),(0,.row (q0h p1) 43)],2⟩) n ⟨0,([]:List (List UInt8)),0,hF,rfl,rfl⟩ ?_ ?_
 rintro _ _ ⟨l13,t14,hF,rfl,rfl⟩
 unfold qd4 at hF
 obtain ⟨r15,h16,hF⟩:=q00 hF
 refine go ?_
 refine RS.cl rfl (vw (qnf n l13 ([46]) r15 h16) (z5c 1 1)) fn52 ?_
 exact gx hF
 rintro (_|m1) _ _ ⟨z10,l11,t12,hF,rfl,rfl⟩
 cases hF
 unfold q9f at hF
 refine go ?_
 refine cF hF (fun h17 hF=>?_) (fun h17 hF=>?_)
 refine go ?_
 refine WPU.block ?_
 obtain ⟨x18,h19,hF⟩:=q00 hF
 refine go ?_
 refine RS.ix h19 ?_
 obtain ⟨x20,h21,hF⟩:=q00 hF
 obtain ⟨h22,hF⟩:=q06 hF
 refine go ?_
 refine RS.ix h21 ?_
 refine go ?_
 refine RS.g ?_
 refine RS.g ?_
 refine go ?_
 exact lC ⟨_,(l11++[x20.Name]),(t12+1),hF,rfl,rfl⟩
 refine go ?_
 exact xC ⟨l11,t12,hF,rfl,rfl⟩
def qa4   : Option (Int) :=
 some (-1)
def q6g (p1:q0q) (p2:List UInt8):Nat→Int→Option (Int)
 | 0,_=>none
 | m1+1,z9 =>
  cond (decide (z9<(p1.Feats.length:Int)))
   (q02 (q0j p1.Feats z9) fun x11 =>
   cond (qc5 x11 (q1n.mk p2 x11.Intro))
    (some z9)
    ((q6g p1 p2 m1) (IntKind.i64.wrap (z9+1))))
   (qa4)
def qem (n:Nat) (p1:q0q) (p2:List UInt8):Option (Int) :=
 q6g p1 p2 n 0
theorem qn1 (n:Nat) (p1:q0q) (p2:List UInt8) (r:Int) (hF:qem n p1 p2=some r):EvU Tryz.prog 55 [.agg (q0h p1),.str p2] ⟨[],0⟩ (fun u _=>u = .int .i64 r∧Bel 0 u):=by
 unfold qem at hF
 refine bg2 23 fn55 ?_
 refine go ?_
 refine gS (l':=[(1,_),(8,_),(9,_),(10,_)]) ?_
 refine z59 (fun m tm σ=>∃ z9:Int,q6g p1 p2 m z9=some r∧tm=fr 23 [(1,.str p2),(8,.iM q2s p1.Feats),(9,.i6 (p1.Feats.length:Int)),(10,.i6 z9)]∧σ=⟨[(0,.row (q0h p1) 43)],1⟩) (fun tm σ=>qa4=some r∧tm=fr 23 []∧σ=⟨[(0,.row (q0h p1) 43)],1⟩) n ⟨0,hF,rfl,rfl⟩ ?_ ?_
 rintro _ _ ⟨hF,rfl,rfl⟩
 unfold qa4 at hF
 exact gx hF
 rintro (_|m1) _ _ ⟨z9,hF,rfl,rfl⟩
 cases hF
 unfold q6g at hF
 refine go ?_
 refine cF hF (fun h10 hF=>?_) (fun h10 hF=>?_)
 refine go ?_
 refine WPU.block ?_
 obtain ⟨x11,h12,hF⟩:=q00 hF
 refine go ?_
 refine RS.ix h12 ?_
 refine go ?_
 refine RS.q (u:=.bool (qc5 x11 (q1n.mk p2 x11.Intro))) rfl (qy3 rfl rfl (qwp x11 (q1n.mk p2 x11.Intro))) ?_
 refine go ?_
 refine cF hF (fun h13 hF=>?_) (fun h13 hF=>?_)
 exact gx hF
 refine go ?_
 exact lC ⟨_,hF,rfl,rfl⟩
 refine go ?_
 exact xC ⟨hF,rfl,rfl⟩
def qd3  (l24:List Int):Option ((List Int)×Int) :=
 some (l24,0)
def q9e (p1:q0q) (n:Nat) (r4:(List (List UInt8))):Nat→Int→(List Int)→Option ((List Int)×Int)
 | 0,_,_=>none
 | m2+1,z21,l22 =>
  cond (decide (z21<(r4.length:Int)))
   (q02 (q0j r4 z21) fun x27 =>
   q02 (qem n p1 x27) fun r29 =>
   cond (decide (r29<0))
    (some ([],5))
    (q0z ((l22.length+1)*8≤140737488355328∧l22.length+1≤140737488355328) (
    (q9e p1 n r4 m2) (IntKind.i64.wrap (z21+1)) (l22++[r29]))))
   (qd3 l22)
def qd2 (p1:q0q) (n:Nat) (r4:(List (List UInt8)))  : Option ((List Int)×Int) :=
 q9e p1 n r4 n 0 ([]:List Int)
def q9d (p1:q0q) (n:Nat) (r4:(List (List UInt8))):Nat→Int→Option ((List Int)×Int)
 | 0,_=>none
 | m1+1,z13 =>
  cond (decide (z13<(r4.length:Int)))
   (q02 (q0j r4 z13) fun x34 =>
   q02 (qkd n x34) fun r36 =>
   cond (!r36)
    (some ([],8))
    ((q9d p1 n r4 m1) (IntKind.i64.wrap (z13+1))))
   (qd2 p1 n r4)
def qcb (n:Nat) (p1:q0q) (p2:List UInt8):Option ((List Int)×Int) :=
 cond (q1c p2 [])
  (some ([],0))
  (q02 (qe1 n p2 ([46])) fun r4 =>
  cond (decide ((r4.length:Int) > 64))
   (some ([],7))
   (q9d p1 n r4 n 0))
theorem qev (n:Nat) (p1:q0q) (p2:List UInt8) (r:(List Int)×Int) (hF:qcb n p1 p2=some r):EvU Tryz.prog 26 [.agg (q0h p1),.str p2] ⟨[],0⟩ (fun u _=>u = .tup [.isl false (List.map (cI .i64) r.1),.int .i64 r.2]∧Bel 0 u):=by
 unfold qcb at hF
 refine bg2 47 fn26 ?_
 refine go ?_
 refine RS.q (u:=.bool (q1c p2 [])) rfl (q97 rfl rfl rfl rfl) ?_
 refine go ?_
 refine cF hF (fun h3 hF=>?_) (fun h3 hF=>?_)
 refine go ?_
 obtain rfl:=sI hF
 exact rT (us:=[.nils,.i6 0]) (u:=.tup [.isl false [],.i6 0]) (q28 rfl (q28 rfl (q24))) wR
 obtain ⟨r4,h5,hF⟩:=q00 hF
 refine go ?_
 refine RS.cl rfl (qko n p2 ([46]) r4 h5 _) fn53 ?_
 refine go ?_
 refine cF hF (fun h6 hF=>?_) (fun h6 hF=>?_)
 refine go ?_
 obtain rfl:=sI hF
 exact rT (us:=[.nils,.i6 7]) (u:=.tup [.isl false [],.i6 7]) (q28 rfl (q28 rfl (q24))) wR
 refine go ?_
 refine gS (l':=[(2,_),(6,_),(20,_),(21,_),(22,_)]) ?_
 refine z59 (fun m tm σ=>∃ z13:Int,q9d p1 n r4 m z13=some r∧tm=fr 47 [(2,.ptr 0 0 0),(6,.iM cS r4),(20,.iM cS r4),(21,.i6 (r4.length:Int)),(22,.i6 z13)]∧σ=⟨[(0,.row (q0h p1) 43)],1⟩) (fun tm σ=>qd2 p1 n r4=some r∧tm=fr 47 [(2,.ptr 0 0 0),(6,.iM cS r4)]∧σ=⟨[(0,.row (q0h p1) 43)],1⟩) n ⟨0,hF,rfl,rfl⟩ ?_ ?_
 rintro _ _ ⟨hF,rfl,rfl⟩
 unfold qd2 at hF
 refine gr ?_
 refine gr ?_
 refine WPU.ghost (tm':=fr 47 [(2,.ptr 0 0 0),(9,.vl 1 0 0 (([]:List Int).length)),(30,.iM cS r4),(31,.i6 (r4.length:Int)),(32,.i6 0)]) (σ':=⟨[(1,.vec (List.map (cI .i64) ([]:List Int)).flatten 3 1 0),(0,.row (q0h p1) 43)],2⟩) (Gh.trans (z5g 9 3 1 (by decide) NZ rfl rfl) (z5d ⟨rfl,rfl,rfl,rfl,rfl,trivial⟩ rfl)) NZ ?_
 refine gS (l':=[(2,_),(9,_),(30,_),(31,_),(32,_)]) ?_
 refine z59 (fun m tm σ=>∃ z21:Int,∃ l22:List Int,∃ t23:Nat,q9e p1 n r4 m z21 l22=some r∧tm=fr 47 [(2,.ptr 0 0 0),(9,.vl 1 t23 0 l22.length),(30,.iM cS r4),(31,.i6 (r4.length:Int)),(32,.i6 z21)]∧σ=⟨[(1,.vec (List.map (cI .i64) l22).flatten 3 1 t23),(0,.row (q0h p1) 43)],2⟩) (fun tm σ=>∃ l24:List Int,∃ t25:Nat,qd3 l24=some r∧tm=fr 47 [(9,.vl 1 t25 0 l24.length)]∧σ=⟨[(1,.vec (List.map (cI .i64) l24).flatten 3 1 t25),(0,.row (q0h p1) 43)],2⟩) n ⟨0,([]:List Int),0,hF,rfl,rfl⟩ ?_ ?_
 rintro _ _ ⟨l24,t25,hF,rfl,rfl⟩
 unfold qd3 at hF
 refine go ?_
 obtain rfl:=sI hF
 exact rT (us:=[.vl 1 t25 0 l24.length,.i6 0]) (u:=.tup [.iM (cI .i64) l24,.i6 0]) (q28 rfl (q28 rfl (q24))) (fR 1 1)
 rintro (_|m2) _ _ ⟨z21,l22,t23,hF,rfl,rfl⟩
 cases hF
 unfold q9e at hF
 refine go ?_
 refine cF hF (fun h26 hF=>?_) (fun h26 hF=>?_)
 refine go ?_
 refine WPU.block ?_
 obtain ⟨x27,h28,hF⟩:=q00 hF
 refine go ?_
 refine RS.ix h28 ?_
 obtain ⟨r29,h30,hF⟩:=q00 hF
 refine go ?_
 refine RS.cl rfl (pC (qn1 n p1 x27 r29 h30) _) fn55 ?_
 refine go ?_
 refine cF hF (fun h31 hF=>?_) (fun h31 hF=>?_)
 refine go ?_
 obtain rfl:=sI hF
 exact rT (us:=[.nils,.i6 5]) (u:=.tup [.isl false [],.i6 5]) (q28 rfl (q28 rfl (q24))) wR
 obtain ⟨h32,hF⟩:=q06 hF
 refine go ?_
 refine RS.g ?_
 refine RS.g ?_
 refine go ?_
 exact lC ⟨_,(l22++[r29]),(t23+1),hF,rfl,rfl⟩
 refine go ?_
 exact xC ⟨l22,t23,hF,rfl,rfl⟩
 rintro (_|m1) _ _ ⟨z13,hF,rfl,rfl⟩
 cases hF
 unfold q9d at hF
 refine go ?_
 refine cF hF (fun h33 hF=>?_) (fun h33 hF=>?_)
 refine go ?_
 refine WPU.block ?_
 obtain ⟨x34,h35,hF⟩:=q00 hF
 refine go ?_
 refine RS.ix h35 ?_
 obtain ⟨r36,h37,hF⟩:=q00 hF
 refine go ?_
 refine RS.cl rfl (qmn n x34 r36 h37 _) fn54 ?_
 refine go ?_
 refine cF hF (fun h38 hF=>?_) (fun h38 hF=>?_)
 refine go ?_
 obtain rfl:=sI hF
 exact rT (us:=[.nils,.i6 8]) (u:=.tup [.isl false [],.i6 8]) (q28 rfl (q28 rfl (q24))) wR
 refine go ?_
 exact lC ⟨_,hF,rfl,rfl⟩
 refine go ?_
 exact xC ⟨hF,rfl,rfl⟩
def qdz   : Option (Bool) :=
 some true
def q9x (p1:List Int) (p2:List Int):Nat→Int→Option (Bool)
 | 0,_=>none
 | m1+1,z7 =>
  cond (decide (z7<(p1.length:Int)))
   (q02 (q0j p1 z7) fun x9 =>
   q02 (q0j p2 z7) fun x11 =>
   cond (x9 != x11)
    (some false)
    ((q9x p1 p2 m1) (IntKind.i64.wrap (z7+1))))
   (qdz)
def qfq (n:Nat) (p1:List Int) (p2:List Int):Option (Bool) :=
 cond ((p1.length:Int) != (p2.length:Int))
  (some false)
  (q9x p1 p2 n 0)
theorem qf9 (n:Nat) (p1:List Int) (p2:List Int) (r:Bool) (hF:qfq n p1 p2=some r):EvU Tryz.prog 47 [.isl false (List.map (cI .i64) p1),.isl false (List.map (cI .i64) p2)] ⟨[],0⟩ (fun u _=>u = .bool r∧Bel 0 u):=by
 unfold qfq at hF
 refine bg2 26 fn47 ?_
 refine go ?_
 refine cF hF (fun h3 hF=>?_) (fun h3 hF=>?_)
 exact gx hF
 refine go ?_
 refine gS (l':=[(0,_),(1,_),(5,_)]) ?_
 refine z59 (fun m tm σ=>∃ z7:Int,q9x p1 p2 m z7=some r∧tm=fr 26 [(0,.iM (cI .i64) p1),(1,.iM (cI .i64) p2),(5,.i6 z7)]∧σ=⟨[],0⟩) (fun tm σ=>qdz=some r∧tm=fr 26 []∧σ=⟨[],0⟩) n ⟨0,hF,rfl,rfl⟩ ?_ ?_
 rintro _ _ ⟨hF,rfl,rfl⟩
 unfold qdz at hF
 exact gx hF
 rintro (_|m1) _ _ ⟨z7,hF,rfl,rfl⟩
 cases hF
 unfold q9x at hF
 refine go ?_
 refine cF hF (fun h8 hF=>?_) (fun h8 hF=>?_)
 refine go ?_
 refine WPU.block ?_
 obtain ⟨x9,h10,hF⟩:=q00 hF
 obtain ⟨x11,h12,hF⟩:=q00 hF
 refine go ?_
 refine z5b Tryz.tb_ok [] (by kernel_rfl) ?_
 refine gd ?_
 refine RD.ix h10 ?_
 refine gd ?_
 refine RD.ix h12 ?_
 refine gd ?_
 refine RD.done ⟨by kernel_rfl,trivial,?_⟩
 refine go ?_
 refine cF hF (fun h13 hF=>?_) (fun h13 hF=>?_)
 exact gx hF
 refine go ?_
 exact lC ⟨_,hF,rfl,rfl⟩
 refine go ?_
 exact xC ⟨hF,rfl,rfl⟩
def qga (p1:q0q) (p2:List Int) (z9:Int) (rc1:(List UInt8)→Int→Option ((List UInt8))) (s13:List UInt8):Option ((List UInt8)) :=
 q02 (q0j p2 z9) fun x14 =>
 q02 (q0j p1.Feats x14) fun x16 =>
 q0z (s13.length+x16.Name.length≤9223372036854775807) (
 rc1 (s13++x16.Name) (IntKind.i64.wrap (z9+1)))
def qnc  (s10:List UInt8):Option ((List UInt8)) :=
 some s10
def qgb (p1:q0q) (p2:List Int):Nat→(List UInt8)→Int→Option ((List UInt8))
 | 0,_,_=>none
 | m1+1,s8,z9 =>
  cond (decide (z9<(p2.length:Int)))
   (cond (decide (z9 > 0))
    (q0z (s8.length+([46]).length≤9223372036854775807) (
    qga p1 p2 z9 (qgb p1 p2 m1) (s8++[46])))
    (qga p1 p2 z9 (qgb p1 p2 m1) s8))
   (qnc s8)
def qdc (n:Nat) (p1:Int):Option (Bool) :=
 q02 (cond (decide (p1 ≥ 48))
  (some (decide (p1≤57)))
  (some false)) fun b3 =>
 some b3
theorem q2k (n:Nat) (p1:Int) (r:Bool) (hF:qdc n p1=some r):EvU Tryz.prog 109 [.int .u8 p1] ⟨[],0⟩ (fun u _=>u = .bool r∧Bel 0 u):=by
 unfold qdc at hF
 refine bg1 9 fn109 ?_
 obtain ⟨b3,h4,hF⟩:=q00 hF
 refine gr ?_
 refine z5a (fun tm σ=>tm=fr 9 [(2,.bool b3)]∧σ=⟨[],0⟩) ?_ ?_
 rintro _ _ ⟨rfl,rfl⟩
 exact gx hF
 rcases gB h4 with ⟨h2,h4⟩ | ⟨h2,h4⟩
 exact gy h4
 exact gy h4
def qgv (n:Nat) (p1:Int):Option (Bool) :=
 q02 (cond (decide (p1 ≥ 65))
  (some (decide (p1≤90)))
  (some false)) fun b3 =>
 some b3
theorem qdf (n:Nat) (p1:Int) (r:Bool) (hF:qgv n p1=some r):EvU Tryz.prog 140 [.int .u8 p1] ⟨[],0⟩ (fun u _=>u = .bool r∧Bel 0 u):=by
 unfold qgv at hF
 refine bg1 9 fn140 ?_
 obtain ⟨b3,h4,hF⟩:=q00 hF
 refine gr ?_
 refine z5a (fun tm σ=>tm=fr 9 [(2,.bool b3)]∧σ=⟨[],0⟩) ?_ ?_
 rintro _ _ ⟨rfl,rfl⟩
 exact gx hF
 rcases gB h4 with ⟨h2,h4⟩ | ⟨h2,h4⟩
 exact gy h4
 exact gy h4
def qdd (n:Nat) (p1:Int):Option (Bool) :=
 q02 (cond (decide (p1 ≥ 97))
  (some (decide (p1≤122)))
  (some false)) fun b3 =>
 some b3
theorem qi9 (n:Nat) (p1:Int) (r:Bool) (hF:qdd n p1=some r):EvU Tryz.prog 141 [.int .u8 p1] ⟨[],0⟩ (fun u _=>u = .bool r∧Bel 0 u):=by
 unfold qdd at hF
 refine bg1 9 fn141 ?_
 obtain ⟨b3,h4,hF⟩:=q00 hF
 refine gr ?_
 refine z5a (fun tm σ=>tm=fr 9 [(2,.bool b3)]∧σ=⟨[],0⟩) ?_ ?_
 rintro _ _ ⟨rfl,rfl⟩
 exact gx hF
 rcases gB h4 with ⟨h2,h4⟩ | ⟨h2,h4⟩
 exact gy h4
 exact gy h4
def qjh (n:Nat) (p1:Int) (p2:Bool):Option (Bool) :=
 q02 (q02 (qdc n p1) fun r3 =>
 cond r3
  (some true)
  (cond (p1 == 45)
   (some true)
   (cond p2
    (q02 (qgv n p1) fun r8 =>
    cond r8
     (some true)
     (cond (!p2)
      (q02 (qdd n p1) fun r12 =>
      some r12)
      (some false)))
    (cond (!p2)
     (q02 (qdd n p1) fun r15 =>
     some r15)
     (some false))))) fun b17 =>
 some b17
theorem qr3 (n:Nat) (p1:Int) (p2:Bool) (r:Bool) (hF:qjh n p1 p2=some r):EvU Tryz.prog 110 [.int .u8 p1,.bool p2] ⟨[],0⟩ (fun u _=>u = .bool r∧Bel 0 u):=by
 unfold qjh at hF
 refine bg2 26 fn110 ?_
 obtain ⟨b17,h18,hF⟩:=q00 hF
 refine gr ?_
 refine z5a (fun tm σ=>tm=fr 26 [(4,.bool b17)]∧σ=⟨[],0⟩) ?_ ?_
 rintro _ _ ⟨rfl,rfl⟩
 exact gx hF
 obtain ⟨r3,h4,h18⟩:=q00 h18
 rcases gB h18 with ⟨h5,h18⟩ | ⟨h5,h18⟩
 obtain rfl:=sI h18
 refine go ?_
 refine RS.cl rfl (pC (q2k n p1 r3 h4) _) fn109 ?_
 refine go ?_
 repeat refine RS.no (qmo rfl rfl rfl) rfl rfl ?_
 refine go ?_
 repeat refine RS.no (qmo rfl rfl rfl) rfl rfl ?_
 refine go ?_
 exact xC ⟨rfl,rfl⟩
 rcases gB h18 with ⟨h6,h18⟩ | ⟨h6,h18⟩
 obtain rfl:=sI h18
 refine go ?_
 refine RS.cl rfl (pC (q2k n p1 r3 h4) _) fn109 ?_
 refine go ?_
 repeat refine RS.no (qmo rfl rfl rfl) rfl rfl ?_
 refine go ?_
 repeat refine RS.no (qmo rfl rfl rfl) rfl rfl ?_
 refine go ?_
 exact xC ⟨rfl,rfl⟩
 rcases gB h18 with ⟨h7,h18⟩ | ⟨h7,h18⟩
 obtain ⟨r8,h9,h18⟩:=q00 h18
 rcases gB h18 with ⟨h10,h18⟩ | ⟨h10,h18⟩
 obtain rfl:=sI h18
 refine go ?_
 refine RS.cl rfl (pC (q2k n p1 r3 h4) _) fn109 ?_
 refine go ?_
 refine RS.cl rfl (pC (qdf n p1 r8 h9) _) fn140 ?_
 refine go ?_
 repeat refine RS.no (qmo rfl rfl rfl) rfl rfl ?_
 refine go ?_
 exact xC ⟨rfl,rfl⟩
 rcases gB h18 with ⟨h11,h18⟩ | ⟨h11,h18⟩
 obtain ⟨r12,h13,h18⟩:=q00 h18
 obtain rfl:=sI h18
 refine go ?_
 refine RS.cl rfl (pC (q2k n p1 r3 h4) _) fn109 ?_
 refine go ?_
 refine RS.cl rfl (pC (qdf n p1 r8 h9) _) fn140 ?_
 refine go ?_
 refine RS.cl rfl (pC (qi9 n p1 r12 h13) _) fn141 ?_
 refine go ?_
 exact xC ⟨rfl,rfl⟩
 obtain rfl:=sI h18
 refine go ?_
 refine RS.cl rfl (pC (q2k n p1 r3 h4) _) fn109 ?_
 refine go ?_
 refine RS.cl rfl (pC (qdf n p1 r8 h9) _) fn140 ?_
 refine go ?_
 exact xC ⟨rfl,rfl⟩
 rcases gB h18 with ⟨h14,h18⟩ | ⟨h14,h18⟩
 obtain ⟨r15,h16,h18⟩:=q00 h18
 obtain rfl:=sI h18
 refine go ?_
 refine RS.cl rfl (pC (q2k n p1 r3 h4) _) fn109 ?_
 refine go ?_
 refine RS.cl rfl (pC (qi9 n p1 r15 h16) _) fn141 ?_
 refine go ?_
 exact xC ⟨rfl,rfl⟩
 obtain rfl:=sI h18
 refine go ?_
 refine RS.cl rfl (pC (q2k n p1 r3 h4) _) fn109 ?_
 refine go ?_
 exact xC ⟨rfl,rfl⟩
def qba   : Option (Bool) :=
 some true
def q7t (p1:List UInt8) (p2:Bool) (n:Nat):Nat→Int→Option (Bool)
 | 0,_=>none
 | m1+1,z18 =>
  cond (decide (z18<(p1.length:Int)))
   (q02 (qz1 p1 z18) fun x20 =>
   q02 (qjh n x20 p2) fun r22 =>
   cond (!r22)
    (some false)
    ((q7t p1 p2 n m1) (IntKind.i64.wrap (z18+1))))
   (qba)
def qde (n:Nat) (p1:List UInt8) (p2:Bool):Option (Bool) :=
 q02 (cond (decide ((p1.length:Int)<1))
  (some true)
  (cond (decide ((p1.length:Int) > 32))
   (some true)
   (q02 (qz1 p1 0) fun x5 =>
   q02 (qdc n x5) fun r7 =>
   cond r7
    (some true)
    (q02 (qz1 p1 0) fun x10 =>
    some (x10 == 45))))) fun b12 =>
 cond b12
  (some false)
  (q7t p1 p2 n n 0)
theorem qia (n:Nat) (p1:List UInt8) (p2:Bool) (r:Bool) (hF:qde n p1 p2=some r):EvU Tryz.prog 81 [.str p1,.bool p2] ⟨[],0⟩ (fun u _=>u = .bool r∧Bel 0 u):=by
 unfold qde at hF
 refine bg2 36 fn81 ?_
 obtain ⟨b12,h13,hF⟩:=q00 hF
 refine gr ?_
 refine z5a (fun tm σ=>tm=fr 36 [(0,.str p1),(1,.bool p2),(23,.bool b12)]∧σ=⟨[],0⟩) ?_ ?_
 rintro _ _ ⟨rfl,rfl⟩
 refine go ?_
 refine cF hF (fun h14 hF=>?_) (fun h14 hF=>?_)
 exact gx hF
 refine go ?_
 refine gS (l':=[(0,_),(1,_),(5,_)]) ?_
 refine z59 (fun m tm σ=>∃ z18:Int,q7t p1 p2 n m z18=some r∧tm=fr 36 [(0,.str p1),(1,.bool p2),(5,.i6 z18)]∧σ=⟨[],0⟩) (fun tm σ=>qba=some r∧tm=fr 36 []∧σ=⟨[],0⟩) n ⟨0,hF,rfl,rfl⟩ ?_ ?_
 rintro _ _ ⟨hF,rfl,rfl⟩
 unfold qba at hF
 exact gx hF
 rintro (_|m1) _ _ ⟨z18,hF,rfl,rfl⟩
 cases hF
 unfold q7t at hF
 refine go ?_
 refine RS.q (u:=.i6 (p1.length:Int)) rfl (qg8 rfl rfl rfl (by simp only [qrr,un9.h])) ?_
 refine go ?_
 refine cF hF (fun h19 hF=>?_) (fun h19 hF=>?_)
 refine go ?_
 refine WPU.block ?_
 obtain ⟨x20,h21,hF⟩:=q00 hF
 obtain ⟨r22,h23,hF⟩:=q00 hF
 refine go ?_
 refine RS.q (u:=.int .u8 x20) rfl (qou un9.h rfl rfl h21) ?_
 refine go ?_
 refine RS.cl rfl (pC (qr3 n x20 p2 r22 h23) _) fn110 ?_
 refine go ?_
 refine cF hF (fun h24 hF=>?_) (fun h24 hF=>?_)
 exact gx hF
 refine go ?_
 exact lC ⟨_,hF,rfl,rfl⟩
 refine go ?_
 exact xC ⟨hF,rfl,rfl⟩
 rcases gB h13 with ⟨h3,h13⟩ | ⟨h3,h13⟩
 obtain rfl:=sI h13
 refine go ?_
 refine RS.q (u:=.i6 (p1.length:Int)) rfl (qg8 rfl rfl rfl (by simp only [qrr,un9.h])) ?_
 refine go ?_
 exact xC ⟨rfl,rfl⟩
 rcases gB h13 with ⟨h4,h13⟩ | ⟨h4,h13⟩
 obtain rfl:=sI h13
 refine go ?_
 refine RS.q (u:=.i6 (p1.length:Int)) rfl (qg8 rfl rfl rfl (by simp only [qrr,un9.h])) ?_
 refine go ?_
 refine RS.w (u:=.i6 (p1.length:Int)) rfl (qg8 rfl rfl rfl (by simp only [qrr,un9.h])) ?_
 refine go ?_
 exact xC ⟨rfl,rfl⟩
 obtain ⟨x5,h6,h13⟩:=q00 h13
 obtain ⟨r7,h8,h13⟩:=q00 h13
 rcases gB h13 with ⟨h9,h13⟩ | ⟨h9,h13⟩
 obtain rfl:=sI h13
 refine go ?_
 refine RS.q (u:=.i6 (p1.length:Int)) rfl (qg8 rfl rfl rfl (by simp only [qrr,un9.h])) ?_
 refine go ?_
 refine RS.w (u:=.i6 (p1.length:Int)) rfl (qg8 rfl rfl rfl (by simp only [qrr,un9.h])) ?_
 refine go ?_
 refine RS.w (u:=.int .u8 x5) rfl (qou un9.h rfl rfl h6) (RS.cl rfl (pC (q2k n x5 r7 h8) _) fn109 ?_)
 refine go ?_
 exact xC ⟨rfl,rfl⟩
 obtain ⟨x10,h11,h13⟩:=q00 h13
 obtain rfl:=sI h13
 refine go ?_
 refine RS.q (u:=.i6 (p1.length:Int)) rfl (qg8 rfl rfl rfl (by simp only [qrr,un9.h])) ?_
 refine go ?_
 refine RS.w (u:=.i6 (p1.length:Int)) rfl (qg8 rfl rfl rfl (by simp only [qrr,un9.h])) ?_
 refine go ?_
 refine RS.w (u:=.int .u8 x5) rfl (qou un9.h rfl rfl h6) (RS.cl rfl (pC (q2k n x5 r7 h8) _) fn109 ?_)
 refine go ?_
 refine RS.w (u:=.int .u8 x10) rfl (qou un9.h rfl rfl h11) ?_
 refine go ?_
 exact xC ⟨rfl,rfl⟩
def qdb (n:Nat) (p1:List UInt8):Option (Bool) :=
 q02 (qde n p1 true) fun r2 =>
 some r2
theorem qm9 (n:Nat) (p1:List UInt8) (r:Bool) (hF:qdb n p1=some r):EvU Tryz.prog 57 [.str p1] ⟨[],0⟩ (fun u _=>u = .bool r∧Bel 0 u):=by
 unfold qdb at hF
 refine bg1 5 fn57 ?_
 obtain ⟨r2,h3,hF⟩:=q00 hF
 refine go ?_
 refine RS.cl rfl (pC (qia n p1 true r2 h3) _) fn81 ?_
 exact gx hF
def q61   : Option (Bool) :=
 some true
def q3v (p1:List q0g) (p2:List q0g) (n:Nat):Nat→Int→Option (Bool)
 | 0,_=>none
 | m1+1,z7 =>
  cond (decide (z7<(p1.length:Int)))
   (q02 (q02 (q0j p1 z7) fun x9 =>
   q02 (q0j p2 z7) fun x11 =>
   q02 (qfq n x9.A x11.A) fun r13 =>
   cond (!r13)
    (some true)
    (q02 (q0j p1 z7) fun x16 =>
    q02 (q0j p2 z7) fun x18 =>
    q02 (qfq n x16.B x18.B) fun r20 =>
    some (!r20))) fun b22 =>
   cond b22
    (some false)
    ((q3v p1 p2 n m1) (IntKind.i64.wrap (z7+1))))
   (q61)
def q5x (n:Nat) (p1:List q0g) (p2:List q0g):Option (Bool) :=
 cond ((p1.length:Int) != (p2.length:Int))
  (some false)
  (q3v p1 p2 n n 0)
theorem q71 (n:Nat) (p1:List q0g) (p2:List q0g) (r:Bool) (hF:q5x n p1 p2=some r):EvU Tryz.prog 17 [.isl false (List.map q1h p1),.isl false (List.map q1h p2)] ⟨[],0⟩ (fun u _=>u = .bool r∧Bel 0 u):=by
 unfold q5x at hF
 refine bg2 43 fn17 ?_
 refine go ?_
 refine cF hF (fun h3 hF=>?_) (fun h3 hF=>?_)
 exact gx hF
 refine go ?_
 refine gS (l':=[(0,_),(1,_),(5,_)]) ?_
 refine z59 (fun m tm σ=>∃ z7:Int,q3v p1 p2 n m z7=some r∧tm=fr 43 [(0,.iM q1h p1),(1,.iM q1h p2),(5,.i6 z7)]∧σ=⟨[],0⟩) (fun tm σ=>q61=some r∧tm=fr 43 []∧σ=⟨[],0⟩) n ⟨0,hF,rfl,rfl⟩ ?_ ?_
 rintro _ _ ⟨hF,rfl,rfl⟩
 unfold q61 at hF
 exact gx hF
 rintro (_|m1) _ _ ⟨z7,hF,rfl,rfl⟩
 cases hF
 unfold q3v at hF
 refine go ?_
 refine cF hF (fun h8 hF=>?_) (fun h8 hF=>?_)
 refine go ?_
 refine WPU.block ?_
 obtain ⟨b22,h23,hF⟩:=q00 hF
 refine gn ?_
 refine z5a (fun tm σ=>tm=fr 43 [(0,.iM q1h p1),(1,.iM q1h p2),(5,.i6 z7),(42,.bool b22)]∧σ=⟨[],0⟩) ?_ ?_
 rintro _ _ ⟨rfl,rfl⟩
 refine go ?_
 refine cF hF (fun h24 hF=>?_) (fun h24 hF=>?_)
 exact gx hF
 refine go ?_
 exact lC ⟨_,hF,rfl,rfl⟩
 obtain ⟨x9,h10,h23⟩:=q00 h23
 obtain ⟨x11,h12,h23⟩:=q00 h23
 obtain ⟨r13,h14,h23⟩:=q00 h23
 rcases gB h23 with ⟨h15,h23⟩ | ⟨h15,h23⟩
 obtain rfl:=sI h23
 refine z5b Tryz.tb_ok [] (by kernel_rfl) ?_
 refine gd ?_
 refine RD.ix h10 ?_
 refine gd ?_
 refine RD.ix h12 ?_
 refine gd ?_
 refine z5l rfl (pC (qf9 n x9.A x11.A r13 h14)) fn47 ?_
 refine gd ?_
 refine RD.done ⟨by kernel_rfl,trivial,?_⟩
 refine go ?_
 exact xC ⟨rfl,rfl⟩
 obtain ⟨x16,h17,h23⟩:=q00 h23
 obtain ⟨x18,h19,h23⟩:=q00 h23
 obtain ⟨r20,h21,h23⟩:=q00 h23
 obtain rfl:=sI h23
 refine z5b Tryz.tb_ok [] (by kernel_rfl) ?_
 refine gd ?_
 refine RD.ix h10 ?_
 refine gd ?_
 refine RD.ix h12 ?_
 refine gd ?_
 refine z5l rfl (pC (qf9 n x9.A x11.A r13 h14)) fn47 ?_
 refine gd ?_
 refine RD.ix h17 ?_
 refine gd ?_
 refine RD.ix h19 ?_
 refine gd ?_
 refine z5l rfl (pC (qf9 n x16.B x18.B r20 h21)) fn47 ?_
 refine gd ?_
 refine RD.done ⟨by kernel_rfl,trivial,?_⟩
 refine go ?_
 exact xC ⟨rfl,rfl⟩
 refine go ?_
 exact xC ⟨hF,rfl,rfl⟩
def q7p   : Option (Bool) :=
 some true
def q47 (p1:GFS):Nat→Int→Option (Bool)
 | 0,_=>none
 | m1+1,z18 =>
  cond (decide (z18<(p1.Nodes.length:Int)))
   (q02 (q0j p1.Nodes z18) fun x20 =>
   q02 (cond (decide (x20.Typex ≥ 256))
    (some true)
    (cond (decide ((x20.Arcs.length:Int) > 0))
     (q02 (q0j x20.Arcs (IntKind.i64.wrap ((x20.Arcs.length:Int) - 1))) fun x24 =>
     some (decide (x24.Feat ≥ 64)))
     (some false))) fun b26 =>
   cond b26
    (some false)
    ((q47 p1 m1) (IntKind.i64.wrap (z18+1))))
   (q7p)
def qa6 (n:Nat) (p1:GFS):Option (Bool) :=
 q02 (qam n p1) fun r2 =>
 cond (!r2)
  (some false)
  (q02 (qal n p1) fun r5 =>
  q02 (cond (r5.2 != 0)
   (some true)
   (q02 (q60 n p1 (GFS.mk r5.1.Nodes)) fun r8 =>
   some (!r8))) fun b10 =>
  cond b10
   (some false)
   (q47 p1 n 0))
theorem qon (n:Nat) (p1:GFS) (r:Bool) (hF:qa6 n p1=some r):EvU Tryz.prog 12 [.agg [.isl false (List.map q03 p1.Nodes)]] ⟨[],0⟩ (fun u _=>u = .bool r∧Bel 0 u):=by
 unfold qa6 at hF
 refine bg1 52 fn12 ?_
 obtain ⟨r2,h3,hF⟩:=q00 hF
 refine go ?_
 refine RS.cl rfl (pC (qpa n p1 r2 h3) _) fn41 ?_
 refine go ?_
 refine cF hF (fun h4 hF=>?_) (fun h4 hF=>?_)
 exact gx hF
 obtain ⟨r5,h6,hF⟩:=q00 hF
 refine go ?_
 refine RS.cl rfl (pC (qp9 n p1 r5 h6) _) fn42 ?_
 obtain ⟨b10,h11,hF⟩:=q00 hF
 refine gn ?_
 refine z5a (fun tm σ=>tm=fr 52 [(1,.ptr 0 0 0),(22,.bool b10)]∧σ=⟨[(1,.row [.iM q03 r5.1.Nodes] 24),(0,.row [.iM q03 p1.Nodes] 24)],2⟩) ?_ ?_
 rintro _ _ ⟨rfl,rfl⟩
 refine go ?_
 refine cF hF (fun h12 hF=>?_) (fun h12 hF=>?_)
 exact gx hF
 refine go ?_
 refine gS (l':=[(24,_),(25,_),(26,_)]) ?_
 refine z59 (fun m tm σ=>∃ z18:Int,q47 p1 m z18=some r∧tm=fr 52 [(24,.iM q03 p1.Nodes),(25,.i6 (p1.Nodes.length:Int)),(26,.i6 z18)]∧σ=⟨[(1,.row [.iM q03 r5.1.Nodes] 24),(0,.row [.iM q03 p1.Nodes] 24)],2⟩) (fun tm σ=>q7p=some r∧tm=fr 52 []∧σ=⟨[(1,.row [.iM q03 r5.1.Nodes] 24),(0,.row [.iM q03 p1.Nodes] 24)],2⟩) n ⟨0,hF,rfl,rfl⟩ ?_ ?_
 rintro _ _ ⟨hF,rfl,rfl⟩
 unfold q7p at hF
 exact gx hF
 rintro (_|m1) _ _ ⟨z18,hF,rfl,rfl⟩
 cases hF
 unfold q47 at hF
 refine go ?_
 refine cF hF (fun h19 hF=>?_) (fun h19 hF=>?_)
 refine go ?_
 refine WPU.block ?_
 obtain ⟨x20,h21,hF⟩:=q00 hF
 refine go ?_
 refine RS.ix h21 ?_
 obtain ⟨b26,h27,hF⟩:=q00 hF
 refine gn ?_
 refine z5a (fun tm σ=>tm=fr 52 [(24,.iM q03 p1.Nodes),(25,.i6 (p1.Nodes.length:Int)),(26,.i6 z18),(50,.bool b26)]∧σ=⟨[(2,.row (q03 x20) 54),(1,.row [.iM q03 r5.1.Nodes] 24),(0,.row [.iM q03 p1.Nodes] 24)],3⟩) ?_ ?_
 rintro _ _ ⟨rfl,rfl⟩
 refine go ?_
 refine cF hF (fun h28 hF=>?_) (fun h28 hF=>?_)
 exact gx hF
 refine go ?_
 exact lC ⟨_,hF,rfl,rfl⟩
 rcases gB h27 with ⟨h22,h27⟩ | ⟨h22,h27⟩
 obtain rfl:=sI h27
 refine go ?_
 repeat refine RS.no (qmo rfl rfl rfl) rfl rfl ?_
 refine go ?_
 exact xC ⟨rfl,rfl⟩
 rcases gB h27 with ⟨h23,h27⟩ | ⟨h23,h27⟩
 obtain ⟨x24,h25,h27⟩:=q00 h27
 obtain rfl:=sI h27
 refine go ?_
 refine RS.ix h25 ?_
 refine go ?_
 exact xC ⟨rfl,rfl⟩
 exact gy h27
 refine go ?_
 exact xC ⟨hF,rfl,rfl⟩
 rcases gB h11 with ⟨h7,h11⟩ | ⟨h7,h11⟩
 exact gy h11
 obtain ⟨r8,h9,h11⟩:=q00 h11
 obtain rfl:=sI h11
 refine go ?_
 refine RS.cl rfl (pC (q2l n p1 (GFS.mk r5.1.Nodes) r8 h9) _) fn21 ?_
 refine go ?_
 exact xC ⟨rfl,rfl⟩
def q7e   : Option (Bool) :=
 some true
def q55 (p1:List Int) (p2:List Int):Nat→Int→Option (Bool)
 | 0,_=>none
 | m1+1,z7 =>
  cond (decide (z7<(p1.length:Int)))
   (q02 (q0j p1 z7) fun x9 =>
   q02 (q0j p2 z7) fun x11 =>
   cond (x9 != x11)
    (some false)
    ((q55 p1 p2 m1) (IntKind.i64.wrap (z7+1))))
   (q7e)
def q7w (n:Nat) (p1:List Int) (p2:List Int):Option (Bool) :=
 cond ((p1.length:Int) != (p2.length:Int))
  (some false)
  (q55 p1 p2 n 0)
theorem q41 (n:Nat) (p1:List Int) (p2:List Int) (r:Bool) (hF:q7w n p1 p2=some r):EvU Tryz.prog 28 [.isl false (List.map (cI .i64) p1),.isl false (List.map (cI .i64) p2)] ⟨[],0⟩ (fun u _=>u = .bool r∧Bel 0 u):=by
 unfold q7w at hF
 refine bg2 26 fn28 ?_
 refine go ?_
 refine cF hF (fun h3 hF=>?_) (fun h3 hF=>?_)
 exact gx hF
 refine go ?_
 refine gS (l':=[(0,_),(1,_),(5,_)]) ?_
 refine z59 (fun m tm σ=>∃ z7:Int,q55 p1 p2 m z7=some r∧tm=fr 26 [(0,.iM (cI .i64) p1),(1,.iM (cI .i64) p2),(5,.i6 z7)]∧σ=⟨[],0⟩) (fun tm σ=>q7e=some r∧tm=fr 26 []∧σ=⟨[],0⟩) n ⟨0,hF,rfl,rfl⟩ ?_ ?_
 rintro _ _ ⟨hF,rfl,rfl⟩
 unfold q7e at hF
 exact gx hF
 rintro (_|m1) _ _ ⟨z7,hF,rfl,rfl⟩
 cases hF
 unfold q55 at hF
 refine go ?_
 refine cF hF (fun h8 hF=>?_) (fun h8 hF=>?_)
 refine go ?_
 refine WPU.block ?_
 obtain ⟨x9,h10,hF⟩:=q00 hF
 obtain ⟨x11,h12,hF⟩:=q00 hF
 refine go ?_
 refine z5b Tryz.tb_ok [] (by kernel_rfl) ?_
 refine gd ?_
 refine RD.ix h10 ?_
 refine gd ?_
 refine RD.ix h12 ?_
 refine gd ?_
 refine RD.done ⟨by kernel_rfl,trivial,?_⟩
 refine go ?_
 refine cF hF (fun h13 hF=>?_) (fun h13 hF=>?_)
 exact gx hF
 refine go ?_
 exact lC ⟨_,hF,rfl,rfl⟩
 refine go ?_
 exact xC ⟨hF,rfl,rfl⟩
def q6l   : Option (Bool) :=
 some true
def q4o (p1:List (List Int)) (p2:List (List Int)) (n:Nat):Nat→Int→Option (Bool)
 | 0,_=>none
 | m1+1,z7 =>
  cond (decide (z7<(p1.length:Int)))
   (q02 (q0j p1 z7) fun x9 =>
   q02 (q0j p2 z7) fun x11 =>
   q02 (q7w n x9 x11) fun r13 =>
   cond (!r13)
    (some false)
    ((q4o p1 p2 n m1) (IntKind.i64.wrap (z7+1))))
   (q6l)
def qa8 (n:Nat) (p1:List (List Int)) (p2:List (List Int)):Option (Bool) :=
 cond ((p1.length:Int) != (p2.length:Int))
  (some false)
  (q4o p1 p2 n n 0)
theorem q7f (n:Nat) (p1:List (List Int)) (p2:List (List Int)) (r:Bool) (hF:qa8 n p1 p2=some r):EvU Tryz.prog 14 [.isl false (List.map (cL (cI .i64)) p1),.isl false (List.map (cL (cI .i64)) p2)] ⟨[],0⟩ (fun u _=>u = .bool r∧Bel 0 u):=by
 unfold qa8 at hF
 refine bg2 27 fn14 ?_
 refine go ?_
 refine cF hF (fun h3 hF=>?_) (fun h3 hF=>?_)
 exact gx hF
 refine go ?_
 refine gS (l':=[(0,_),(1,_),(5,_)]) ?_
 refine z59 (fun m tm σ=>∃ z7:Int,q4o p1 p2 n m z7=some r∧tm=fr 27 [(0,.iM (cL (cI .i64)) p1),(1,.iM (cL (cI .i64)) p2),(5,.i6 z7)]∧σ=⟨[],0⟩) (fun tm σ=>q6l=some r∧tm=fr 27 []∧σ=⟨[],0⟩) n ⟨0,hF,rfl,rfl⟩ ?_ ?_
 rintro _ _ ⟨hF,rfl,rfl⟩
 unfold q6l at hF
 exact gx hF
 rintro (_|m1) _ _ ⟨z7,hF,rfl,rfl⟩
 cases hF
 unfold q4o at hF
 refine go ?_
 refine cF hF (fun h8 hF=>?_) (fun h8 hF=>?_)
 refine go ?_
 refine WPU.block ?_
 obtain ⟨x9,h10,hF⟩:=q00 hF
 obtain ⟨x11,h12,hF⟩:=q00 hF
 obtain ⟨r13,h14,hF⟩:=q00 hF
 refine go ?_
 refine z5b Tryz.tb_ok [] (by kernel_rfl) ?_
 refine gd ?_
 refine RD.ix h10 ?_
 refine gd ?_
 refine RD.ix h12 ?_
 refine gd ?_
 refine z5l rfl (pC (q41 n x9 x11 r13 h14)) fn28 ?_
 refine gd ?_
 refine RD.done ⟨by kernel_rfl,trivial,?_⟩
 refine go ?_
 refine cF hF (fun h15 hF=>?_) (fun h15 hF=>?_)
 exact gx hF
 refine go ?_
 exact lC ⟨_,hF,rfl,rfl⟩
 refine go ?_
 exact xC ⟨hF,rfl,rfl⟩
def qbo   : Option (Int) :=
 some 0
def q87 (p1:List q04):Nat→Int→Option (Int)
 | 0,_=>none
 | m1+1,z5 =>
  cond (decide (z5<(p1.length:Int)))
   (q02 (q02 (q0j p1 z5) fun x7 =>
   cond (decide ((x7.Supers.length:Int) > 256))
    (some true)
    (q02 (q0j p1 z5) fun x10 =>
    some (decide ((x10.Feats.length:Int) > 256)))) fun b12 =>
   cond b12
    (some 7)
    ((q87 p1 m1) (IntKind.i64.wrap (z5+1))))
   (qbo)
def qh4 (n:Nat) (p1:List q04):Option (Int) :=
 cond (decide ((p1.length:Int) > 256))
  (some 7)
  (q87 p1 n 0)
theorem qp7 (n:Nat) (p1:List q04) (r:Int) (hF:qh4 n p1=some r):EvU Tryz.prog 121 [.isl false (List.map q01 p1)] ⟨[],0⟩ (fun u _=>u = .int .i64 r∧Bel 0 u):=by
 unfold qh4 at hF
 refine bg1 29 fn121 ?_
 refine go ?_
 refine cF hF (fun h2 hF=>?_) (fun h2 hF=>?_)
 exact gx hF
 refine go ?_
 refine gS (l':=[(0,_),(3,_)]) ?_
 refine z59 (fun m tm σ=>∃ z5:Int,q87 p1 m z5=some r∧tm=fr 29 [(0,.iM q01 p1),(3,.i6 z5)]∧σ=⟨[],0⟩) (fun tm σ=>qbo=some r∧tm=fr 29 []∧σ=⟨[],0⟩) n ⟨0,hF,rfl,rfl⟩ ?_ ?_
 rintro _ _ ⟨hF,rfl,rfl⟩
 unfold qbo at hF
 exact gx hF
 rintro (_|m1) _ _ ⟨z5,hF,rfl,rfl⟩
 cases hF
 unfold q87 at hF
 refine go ?_
 refine cF hF (fun h6 hF=>?_) (fun h6 hF=>?_)
 refine go ?_
 refine WPU.block ?_
 obtain ⟨b12,h13,hF⟩:=q00 hF
 refine gn ?_
 refine z5a (fun tm σ=>tm=fr 29 [(0,.iM q01 p1),(3,.i6 z5),(28,.bool b12)]∧σ=⟨[],0⟩) ?_ ?_
 rintro _ _ ⟨rfl,rfl⟩
 refine go ?_
 refine cF hF (fun h14 hF=>?_) (fun h14 hF=>?_)
 exact gx hF
 refine go ?_
 exact lC ⟨_,hF,rfl,rfl⟩
 obtain ⟨x7,h8,h13⟩:=q00 h13
 rcases gB h13 with ⟨h9,h13⟩ | ⟨h9,h13⟩
 obtain rfl:=sI h13
 refine go ?_
 refine RS.ix h8 ?_
 refine go ?_
 exact xC ⟨rfl,rfl⟩
 obtain ⟨x10,h11,h13⟩:=q00 h13
 obtain rfl:=sI h13
 refine go ?_
 refine RS.ix h8 ?_
 refine go ?_
 refine RS.ix h11 ?_
 refine go ?_
 exact xC ⟨rfl,rfl⟩
 refine go ?_
 exact xC ⟨hF,rfl,rfl⟩
def qjg (n:Nat) (p1:List UInt8):Option (Bool) :=
 q02 (qde n p1 false) fun r2 =>
 some r2
theorem qr2 (n:Nat) (p1:List UInt8) (r:Bool) (hF:qjg n p1=some r):EvU Tryz.prog 147 [.str p1] ⟨[],0⟩ (fun u _=>u = .bool r∧Bel 0 u):=by
 unfold qjg at hF
 refine bg1 5 fn147 ?_
 obtain ⟨r2,h3,hF⟩:=q00 hF
 refine go ?_
 refine RS.cl rfl (pC (qia n p1 false r2 h3) _) fn81 ?_
 exact gx hF
def qdl   : Option (Int) :=
 some (-1)
def q9l (p1:List q04) (p2:List UInt8):Nat→Int→Option (Int)
 | 0,_=>none
 | m1+1,z6 =>
  cond (decide (z6<(p1.length:Int)))
   (q02 (q0j p1 z6) fun x8 =>
   cond (q1c x8.Name p2)
    (some z6)
    ((q9l p1 p2 m1) (IntKind.i64.wrap (z6+1))))
   (qdl)
def q67 (n:Nat) (p1:List q04) (p2:List UInt8):Option (Int) :=
 q9l p1 p2 n 0
theorem q68 (n:Nat) (p1:List q04) (p2:List UInt8) (r:Int) (hF:q67 n p1 p2=some r):EvU Tryz.prog 148 [.isl false (List.map q01 p1),.str p2] ⟨[],0⟩ (fun u _=>u = .int .i64 r∧Bel 0 u):=by
 unfold q67 at hF
 refine bg2 20 fn148 ?_
 refine go ?_
 refine gS (l':=[(0,_),(1,_),(5,_)]) ?_
 refine z59 (fun m tm σ=>∃ z6:Int,q9l p1 p2 m z6=some r∧tm=fr 20 [(0,.iM q01 p1),(1,.str p2),(5,.i6 z6)]∧σ=⟨[],0⟩) (fun tm σ=>qdl=some r∧tm=fr 20 []∧σ=⟨[],0⟩) n ⟨0,hF,rfl,rfl⟩ ?_ ?_
 rintro _ _ ⟨hF,rfl,rfl⟩
 unfold qdl at hF
 exact gx hF
 rintro (_|m1) _ _ ⟨z6,hF,rfl,rfl⟩
 cases hF
 unfold q9l at hF
 refine go ?_
 refine cF hF (fun h7 hF=>?_) (fun h7 hF=>?_)
 refine go ?_
 refine WPU.block ?_
 obtain ⟨x8,h9,hF⟩:=q00 hF
 refine go ?_
 refine RS.ix h9 ?_
 refine go ?_
 refine RS.q (u:=.bool (q1c x8.Name p2)) rfl (q97 rfl rfl rfl rfl) ?_
 refine go ?_
 refine cF hF (fun h10 hF=>?_) (fun h10 hF=>?_)
 exact gx hF
 refine go ?_
 exact lC ⟨_,hF,rfl,rfl⟩
 refine go ?_
 exact xC ⟨hF,rfl,rfl⟩
def qbm   : Option (Int) :=
 some 0
def q85 (p1:List q04) (n:Nat):Nat→Int→Option (Int)
 | 0,_=>none
 | m1+1,z4 =>
  cond (decide (z4<(p1.length:Int)))
   (q02 (q0j p1 z4) fun x6 =>
   q02 (qjg n x6.Name) fun r8 =>
   cond (!r8)
    (some 1)
    (q02 (q0j p1 z4) fun x11 =>
    q02 (q67 n p1 x11.Name) fun r13 =>
    cond (decide (r13<z4))
     (some 4)
     ((q85 p1 n m1) (IntKind.i64.wrap (z4+1)))))
   (qbm)
def qh2 (n:Nat) (p1:List q04):Option (Int) :=
 q85 p1 n n 0
theorem qp5 (n:Nat) (p1:List q04) (r:Int) (hF:qh2 n p1=some r):EvU Tryz.prog 122 [.isl false (List.map q01 p1)] ⟨[],0⟩ (fun u _=>u = .int .i64 r∧Bel 0 u):=by
 unfold qh2 at hF
 refine bg1 26 fn122 ?_
 refine go ?_
 refine gS (l':=[(0,_),(3,_)]) ?_
 refine z59 (fun m tm σ=>∃ z4:Int,q85 p1 n m z4=some r∧tm=fr 26 [(0,.iM q01 p1),(3,.i6 z4)]∧σ=⟨[],0⟩) (fun tm σ=>qbm=some r∧tm=fr 26 []∧σ=⟨[],0⟩) n ⟨0,hF,rfl,rfl⟩ ?_ ?_
 rintro _ _ ⟨hF,rfl,rfl⟩
 unfold qbm at hF
 exact gx hF
 rintro (_|m1) _ _ ⟨z4,hF,rfl,rfl⟩
 cases hF
 unfold q85 at hF
 refine go ?_
 refine cF hF (fun h5 hF=>?_) (fun h5 hF=>?_)
 refine go ?_
 refine WPU.block ?_
 obtain ⟨x6,h7,hF⟩:=q00 hF
 obtain ⟨r8,h9,hF⟩:=q00 hF
 refine go ?_
 refine RS.ix h7 ?_
 refine go ?_
 refine RS.cl rfl (pC (qr2 n x6.Name r8 h9) _) fn147 ?_
 refine go ?_
 refine cF hF (fun h10 hF=>?_) (fun h10 hF=>?_)
 exact gx hF
 obtain ⟨x11,h12,hF⟩:=q00 hF
 obtain ⟨r13,h14,hF⟩:=q00 hF
 refine go ?_
 refine RS.ix h12 ?_
 refine go ?_
 refine RS.cl rfl (pC (q68 n p1 x11.Name r13 h14) _) fn148 ?_
 refine go ?_
 refine cF hF (fun h15 hF=>?_) (fun h15 hF=>?_)
 exact gx hF
 refine go ?_
 exact lC ⟨_,hF,rfl,rfl⟩
 refine go ?_
 exact xC ⟨hF,rfl,rfl⟩
def qbf   : Option (Bool) :=
 some false
def q80 (p1:List (List UInt8)) (p2:List UInt8):Nat→Int→Option (Bool)
 | 0,_=>none
 | m1+1,z6 =>
  cond (decide (z6<(p1.length:Int)))
   (q02 (q0j p1 z6) fun x8 =>
   cond (q1c x8 p2)
    (some true)
    ((q80 p1 p2 m1) (IntKind.i64.wrap (z6+1))))
   (qbf)
def q2t (n:Nat) (p1:List (List UInt8)) (p2:List UInt8):Option (Bool) :=
 q80 p1 p2 n 0
theorem q20 (n:Nat) (p1:List (List UInt8)) (p2:List UInt8) (r:Bool) (hF:q2t n p1 p2=some r):EvU Tryz.prog 126 [.isl false (List.map cS p1),.str p2] ⟨[],0⟩ (fun u _=>u = .bool r∧Bel 0 u):=by
 unfold q2t at hF
 refine bg2 18 fn126 ?_
 refine go ?_
 refine gS (l':=[(0,_),(1,_),(5,_)]) ?_
 refine z59 (fun m tm σ=>∃ z6:Int,q80 p1 p2 m z6=some r∧tm=fr 18 [(0,.iM cS p1),(1,.str p2),(5,.i6 z6)]∧σ=⟨[],0⟩) (fun tm σ=>qbf=some r∧tm=fr 18 []∧σ=⟨[],0⟩) n ⟨0,hF,rfl,rfl⟩ ?_ ?_
 rintro _ _ ⟨hF,rfl,rfl⟩
 unfold qbf at hF
 exact gx hF
 rintro (_|m1) _ _ ⟨z6,hF,rfl,rfl⟩
 cases hF
 unfold q80 at hF
 refine go ?_
 refine cF hF (fun h7 hF=>?_) (fun h7 hF=>?_)
 refine go ?_
 refine WPU.block ?_
 obtain ⟨x8,h9,hF⟩:=q00 hF
 refine go ?_
 refine RS.ix h9 ?_
 refine go ?_
 refine RS.q (u:=.bool (q1c x8 p2)) rfl (q97 rfl rfl rfl rfl) ?_
 refine go ?_
 refine cF hF (fun h10 hF=>?_) (fun h10 hF=>?_)
 exact gx hF
 refine go ?_
 exact lC ⟨_,hF,rfl,rfl⟩
 refine go ?_
 exact xC ⟨hF,rfl,rfl⟩
def qac (z4:Int) (rc1:Int→Option (Int))  : Option (Int) :=
 rc1 (IntKind.i64.wrap (z4+1))
def q6o (p1:List q04) (n:Nat) (z4:Int) (rc1:Int→Option (Int)) (x6:q04):Nat→Int→Option (Int)
 | 0,_=>none
 | m2+1,z12 =>
  cond (decide (z12<(x6.Supers.length:Int)))
   (q02 (q0j x6.Supers z12) fun x14 =>
   q02 (q67 n p1 x14) fun r16 =>
   cond (decide (r16<0))
    (some 5)
    (q02 (z1y x6.Supers 0 z12) fun l19 =>
    q02 (q0j x6.Supers z12) fun x23 =>
    q02 (q2t n l19 x23) fun r25 =>
    cond r25
     (some 4)
     ((q6o p1 n z4 rc1 x6 m2) (IntKind.i64.wrap (z12+1)))))
   (qac z4 rc1)
def qab   : Option (Int) :=
 some 0
def q3n (p1:List q04) (n:Nat):Nat→Int→Option (Int)
 | 0,_=>none
 | m1+1,z4 =>
  cond (decide (z4<(p1.length:Int)))
   (q02 (q0j p1 z4) fun x6 =>
   q6o p1 n z4 (q3n p1 n m1) x6 n 0)
   (qab)
def qf3 (n:Nat) (p1:List q04):Option (Int) :=
 q3n p1 n n 0
theorem qn7 (n:Nat) (p1:List q04) (r:Int) (hF:qf3 n p1=some r):EvU Tryz.prog 123 [.isl false (List.map q01 p1)] ⟨[],0⟩ (fun u _=>u = .int .i64 r∧Bel 0 u):=by
 unfold qf3 at hF
 refine bg1 38 fn123 ?_
 refine go ?_
 refine gS (l':=[(0,_),(3,_)]) ?_
 refine z59 (fun m tm σ=>∃ z4:Int,q3n p1 n m z4=some r∧tm=fr 38 [(0,.iM q01 p1),(3,.i6 z4)]∧σ=⟨[],0⟩) (fun tm σ=>qab=some r∧tm=fr 38 []∧σ=⟨[],0⟩) n ⟨0,hF,rfl,rfl⟩ ?_ ?_
 rintro _ _ ⟨hF,rfl,rfl⟩
 unfold qab at hF
 exact gx hF
 rintro (_|m1) _ _ ⟨z4,hF,rfl,rfl⟩
 cases hF
 unfold q3n at hF
 refine go ?_
 refine cF hF (fun h5 hF=>?_) (fun h5 hF=>?_)
 refine go ?_
 refine WPU.block ?_
 obtain ⟨x6,h7,hF⟩:=q00 hF
 refine go ?_
 refine RS.ix h7 ?_
 refine go ?_
 refine gS (l':=[(0,_),(3,_),(4,_),(5,_)]) ?_
 refine z59 (fun m tm σ=>∃ z12:Int,q6o p1 n z4 (q3n p1 n m1) x6 m z12=some r∧tm=fr 38 [(0,.iM q01 p1),(3,.i6 z4),(4,.iM cS x6.Supers),(5,.i6 z12)]∧σ=⟨[],0⟩) (fun tm σ=>qac z4 (q3n p1 n m1)=some r∧tm=fr 38 [(0,.iM q01 p1),(3,.i6 z4)]∧σ=⟨[],0⟩) n ⟨0,hF,rfl,rfl⟩ ?_ ?_
 rintro _ _ ⟨hF,rfl,rfl⟩
 unfold qac at hF
 refine go ?_
 exact lC ⟨_,hF,rfl,rfl⟩
 rintro (_|m2) _ _ ⟨z12,hF,rfl,rfl⟩
 cases hF
 unfold q6o at hF
 refine go ?_
 refine cF hF (fun h13 hF=>?_) (fun h13 hF=>?_)
 refine go ?_
 refine WPU.block ?_
 obtain ⟨x14,h15,hF⟩:=q00 hF
 obtain ⟨r16,h17,hF⟩:=q00 hF
 refine go ?_
 refine RS.ix h15 ?_
 refine go ?_
 refine RS.cl rfl (pC (q68 n p1 x14 r16 h17) _) fn148 ?_
 refine go ?_
 refine cF hF (fun h18 hF=>?_) (fun h18 hF=>?_)
 exact gx hF
 obtain ⟨l19,h20,hF⟩:=q00 hF
 obtain ⟨h21,h22⟩:=qwi cS .i64 h20
 obtain ⟨x23,h24,hF⟩:=q00 hF
 obtain ⟨r25,h26,hF⟩:=q00 hF
 refine go ?_
 refine z5b Tryz.tb_ok [] (by kernel_rfl) ?_
 refine gd ?_
 refine RD.q (u:=.iM cS l19) rfl (qaw rfl qrq (z2b rfl) qrq (qup cS un80.h (q0r if9.h) qg7 h21 h22)) ?_
 refine gd ?_
 refine RD.ix h24 ?_
 refine gd ?_
 refine z5l rfl (pC (q20 n l19 x23 r25 h26)) fn126 ?_
 refine RD.done ⟨by kernel_rfl,trivial,?_⟩
 refine go ?_
 refine cF hF (fun h27 hF=>?_) (fun h27 hF=>?_)
 exact gx hF
 refine go ?_
 exact lC ⟨_,hF,rfl,rfl⟩
 refine go ?_
 exact xC ⟨hF,rfl,rfl⟩
 refine go ?_
 exact xC ⟨hF,rfl,rfl⟩
def qbn   : Option (Bool) :=
 some true
def q86 (p1:q04) (p2:List (List UInt8)) (n:Nat):Nat→Int→Option (Bool)
 | 0,_=>none
 | m1+1,z8 =>
  cond (decide (z8<(p1.Supers.length:Int)))
   (q02 (q0j p1.Supers z8) fun x10 =>
   q02 (q2t n p2 x10) fun r12 =>
   cond (!r12)
    (some false)
    ((q86 p1 p2 n m1) (IntKind.i64.wrap (z8+1))))
   (qbn)
def qh3 (n:Nat) (p1:q04) (p2:List (List UInt8)):Option (Bool) :=
 q86 p1 p2 n n 0
theorem qp6 (n:Nat) (p1:q04) (p2:List (List UInt8)) (r:Bool) (hF:qh3 n p1 p2=some r):EvU Tryz.prog 149 [.agg (q01 p1),.isl false (List.map cS p2)] ⟨[],0⟩ (fun u _=>u = .bool r∧Bel 0 u):=by
 unfold qh3 at hF
 refine bg2 21 fn149 ?_
 refine go ?_
 refine gS (l':=[(1,_),(2,_),(5,_)]) ?_
 refine z59 (fun m tm σ=>∃ z8:Int,q86 p1 p2 n m z8=some r∧tm=fr 21 [(1,.iM cS p2),(2,.ptr 0 0 0),(5,.i6 z8)]∧σ=⟨[(0,.row (q01 p1) 127)],1⟩) (fun tm σ=>qbn=some r∧tm=fr 21 []∧σ=⟨[(0,.row (q01 p1) 127)],1⟩) n ⟨0,hF,rfl,rfl⟩ ?_ ?_
 rintro _ _ ⟨hF,rfl,rfl⟩
 unfold qbn at hF
 exact gx hF
 rintro (_|m1) _ _ ⟨z8,hF,rfl,rfl⟩
 cases hF
 unfold q86 at hF
 refine go ?_
 refine cF hF (fun h9 hF=>?_) (fun h9 hF=>?_)
 refine go ?_
 refine WPU.block ?_
 obtain ⟨x10,h11,hF⟩:=q00 hF
 obtain ⟨r12,h13,hF⟩:=q00 hF
 refine go ?_
 refine RS.ix h11 ?_
 refine go ?_
 refine RS.cl rfl (pC (q20 n p2 x10 r12 h13) _) fn126 ?_
 refine go ?_
 refine cF hF (fun h14 hF=>?_) (fun h14 hF=>?_)
 exact gx hF
 refine go ?_
 exact lC ⟨_,hF,rfl,rfl⟩
 refine go ?_
 exact xC ⟨hF,rfl,rfl⟩
def q6m (rc1:Bool→(List (List UInt8))→Option ((List (List UInt8)))) (b21:Bool) (l24:List (List UInt8)):Option ((List (List UInt8))) :=
 rc1 b21 l24
def q6n (z20:Int) (rc2:Bool→(List UInt8)→Int→Option ((List (List UInt8)))) (s46:List UInt8):Option ((List (List UInt8))) :=
 rc2 true s46 (IntKind.i64.wrap (z20+1))
def qaa (l7:List (List UInt8)) (rc1:Bool→(List (List UInt8))→Option ((List (List UInt8)))) (b21:Bool) (s22:List UInt8):Option ((List (List UInt8))) :=
 cond b21
  (q0z ((l7.length+1)*16≤140737488355328∧l7.length+1≤140737488355328) (
  q6m rc1 b21 (l7++[s22])))
  (q6m rc1 b21 l7)
def q2u (p1:List q04) (n:Nat) (l7:List (List UInt8)) (rc1:Bool→(List (List UInt8))→Option ((List (List UInt8)))):Nat→Bool→(List UInt8)→Int→Option ((List (List UInt8)))
 | 0,_,_,_=>none
 | m2+1,b18,s19,z20 =>
  cond (decide (z20<(p1.length:Int)))
   (q02 (q02 (q0j p1 z20) fun x28 =>
   q02 (q2t n l7 x28.Name) fun r30 =>
   cond r30
    (some true)
    (q02 (q0j p1 z20) fun x33 =>
    q02 (qh3 n x33 l7) fun r35 =>
    some (!r35))) fun b37 =>
   cond b37
    ((q2u p1 n l7 rc1 m2) b18 s19 (IntKind.i64.wrap (z20+1)))
    (q02 (cond (!b18)
     (some true)
     (q02 (q0j p1 z20) fun x41 =>
     some (q5z x41.Name s19))) fun b43 =>
    cond b43
     (q02 (q0j p1 z20) fun x47 =>
     q6n z20 (q2u p1 n l7 rc1 m2) x47.Name)
     (q6n z20 (q2u p1 n l7 rc1 m2) s19)))
   (qaa l7 rc1 b18 s19)
def qa9  (l9:List (List UInt8)):Option ((List (List UInt8))) :=
 some l9
def q2c (p1:List q04) (n:Nat):Nat→Bool→(List (List UInt8))→Option ((List (List UInt8)))
 | 0,_,_=>none
 | m1+1,b6,l7 =>
  cond b6
   (q2u p1 n l7 (q2c p1 n m1) n false [] 0)
   (qa9 l7)
def qf2 (n:Nat) (p1:List q04):Option ((List (List UInt8))) :=
 q2c p1 n n true ([]:List (List UInt8))
end Go.Proofs
end
