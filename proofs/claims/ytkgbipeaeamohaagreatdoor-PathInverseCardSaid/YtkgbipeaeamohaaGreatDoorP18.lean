/-
  Texts of the walk: H4.
-/
import Derived.Test.YtkgbipeaeamohaaGreatDoorP17
set_option linter.unusedSimpArgs false
set_option linter.unusedVariables false
section
namespace Go.Proofs
open Go Go.Rx Go.Vx Tryz
set_option maxRecDepth 20000
set_option maxHeartbeats 4000000
set_option synthInstance.maxSize 4000
set_option synthInstance.maxHeartbeats 200000
instance {a b:Int}:DeC q08 [.int .i64 a,.int .i64 b] (q0f.mk a b):=⟨rfl⟩
structure q0a where
 Typex:Int
 Arcs:List q0f
def q02 (x:q0a):List U:=[.int .i64 x.Typex,.isl false (List.map q08 x.Arcs)]
instance {a0:Int} {a1:List q0f}:DeC q02 [.int .i64 a0,.isl false (List.map q08 a1)] (q0a.mk a0 a1):=⟨rfl⟩
theorem qg4 (n:Nat) (x:q0a):q1g n (q02 x):=by
 simp only [q02,q1g,Bel,true_and,and_true]
 exact q4s _ (fun q=>qi4 _ q) _
theorem qga (x:q0a):(q02 x).length=2:=rfl
instance:qoa q02 2:=⟨qga⟩
instance:BF q02:=⟨qg4⟩
instance (n:Nat) (x:q0a):BUL n (q02 x):=⟨qg4 n x⟩
structure GFS where
 Nodes:List q0a
def cGFS (x:GFS):List U:=[.isl false (List.map q02 x.Nodes)]
structure q0g where
 A:List Int
 B:List Int
def q1j (x:q0g):List U:=[.isl false (List.map (cI .i64) x.A),.isl false (List.map (cI .i64) x.B)]
instance {a0:List Int} {a1:List Int}:DeC q1j [.isl false (List.map (cI .i64) a0),.isl false (List.map (cI .i64) a1)] (q0g.mk a0 a1):=⟨rfl⟩
theorem qpc (n:Nat) (x:q0g):q1g n (q1j x):=by
 simp only [q1j,q1g,Bel,true_and,and_true]
 exact ⟨q4s _ (fun q=>qct _ .i64 q) _,q4s _ (fun q=>qct _ .i64 q) _⟩
theorem qpt (x:q0g):(q1j x).length=2:=rfl
instance:qoa q1j 2:=⟨qpt⟩
instance:BF q1j:=⟨qpc⟩
structure q0x where
 Feat:Int
 Value:Int
def q1p (x:q0x):List U:=[.int .i64 x.Feat,.int .i64 x.Value]
instance {a0:Int} {a1:Int}:DeC q1p [.int .i64 a0,.int .i64 a1] (q0x.mk a0 a1):=⟨rfl⟩
theorem qkr (n:Nat) (x:q0x):q1g n (q1p x):=by
 simp only [q1p,q1g,Bel,true_and,and_true]
theorem qro (x:q0x):(q1p x).length=2:=rfl
instance:qoa q1p 2:=⟨qro⟩
instance:BF q1p:=⟨qkr⟩
structure qh4 where
 Name:List UInt8
 Code:List Int
 Supers:List Int
 Feats:List q0x
def qf3 (x:qh4):List U:=[.str x.Name,.isl false (List.map (cI .u64) x.Code),.isl false (List.map (cI .i64) x.Supers),.isl false (List.map q1p x.Feats)]
instance {a0:List UInt8} {a1:List Int} {a2:List Int} {a3:List q0x}:DeC qf3 [.str a0,.isl false (List.map (cI .u64) a1),.isl false (List.map (cI .i64) a2),.isl false (List.map q1p a3)] (qh4.mk a0 a1 a2 a3):=⟨rfl⟩
theorem qof (n:Nat) (x:qh4):q1g n (qf3 x):=by
 simp only [qf3,q1g,Bel,true_and,and_true]
 exact ⟨q4s _ (fun q=>qct _ .u64 q) _,q4s _ (fun q=>qct _ .i64 q) _,q4s _ (fun q=>qkr _ q) _⟩
theorem qwp (x:qh4):(qf3 x).length=4:=rfl
instance:qoa qf3 4:=⟨qwp⟩
instance:BF qf3:=⟨qof⟩
structure q1o where
 Name:List UInt8
 Intro:Int
def q2u (x:q1o):List U:=[.str x.Name,.int .i64 x.Intro]
instance {a0:List UInt8} {a1:Int}:DeC q2u [.str a0,.int .i64 a1] (q1o.mk a0 a1):=⟨rfl⟩
theorem qi5 (n:Nat) (x:q1o):q1g n (q2u x):=by
 simp only [q2u,q1g,Bel,true_and,and_true]
theorem qps (x:q1o):(q2u x).length=2:=rfl
instance:qoa q2u 2:=⟨qps⟩
instance:BF q2u:=⟨qi5⟩
def qcw (x y:q1o):Bool:=(q1e x.Name y.Name&&(x.Intro == y.Intro))
structure q0r where
 Types:List qh4
 Feats:List q1o
def q0h (x:q0r):List U:=[.isl false (List.map qf3 x.Types),.isl false (List.map q2u x.Feats)]
theorem qm8 (n:Nat) (x:q0r):q1g n (q0h x):=by
 simp only [q0h,q1g,Bel,true_and,and_true]
 exact ⟨q4s _ (fun q=>qof _ q) _,q4s _ (fun q=>qi5 _ q) _⟩
theorem qmu (x:q0r):(q0h x).length=2:=rfl
instance:qoa q0h 2:=⟨qmu⟩
instance (n:Nat) (x:q0r):BUL n (q0h x):=⟨qm8 n x⟩
structure q16 where
 Feat:List UInt8
 Value:List UInt8
def q0d (x:q16):List U:=[.str x.Feat,.str x.Value]
instance {a0:List UInt8} {a1:List UInt8}:DeC q0d [.str a0,.str a1] (q16.mk a0 a1):=⟨rfl⟩
theorem qgu (n:Nat) (x:q16):q1g n (q0d x):=by
 simp only [q0d,q1g,Bel,true_and,and_true]
theorem qnx (x:q16):(q0d x).length=2:=rfl
instance:qoa q0d 2:=⟨qnx⟩
instance:BF q0d:=⟨qgu⟩
structure q04 where
 Name:List UInt8
 Supers:List (List UInt8)
 Feats:List q16
def q01 (x:q04):List U:=[.str x.Name,.isl false (List.map cS x.Supers),.isl false (List.map q0d x.Feats)]
theorem qgv (n:Nat) (x:q04):q1g n (q01 x):=by
 simp only [q01,q1g,Bel,true_and,and_true]
 exact ⟨q4s _ (fun q=>z41 _ q) _,q4s _ (fun q=>qgu _ q) _⟩
theorem qny (x:q04):(q01 x).length=3:=rfl
instance:qoa q01 3:=⟨qny⟩
instance:BF q01:=⟨qgv⟩
instance (n:Nat) (x:q04):BUL n (q01 x):=⟨qgv n x⟩
structure q0p where
 Name:List UInt8
 Code:List Int
def q0b (x:q0p):List U:=[.str x.Name,.isl false (List.map (cI .u64) x.Code)]
instance {a0:List UInt8} {a1:List Int}:DeC q0b [.str a0,.isl false (List.map (cI .u64) a1)] (q0p.mk a0 a1):=⟨rfl⟩
theorem qm7 (n:Nat) (x:q0p):q1g n (q0b x):=by
 simp only [q0b,q1g,Bel,true_and,and_true]
 exact q4s _ (fun q=>qct _ .u64 q) _
theorem q50 (x:q0p):(q0b x).length=2:=rfl
instance:qoa q0b 2:=⟨q50⟩
instance:BF q0b:=⟨qm7⟩
instance (n:Nat) (x:q0p):BUL n (q0b x):=⟨qm7 n x⟩
theorem Tryz.eqs82:Tryz.tb.eqs 82=true:=by kernel_rfl
theorem eqv82 (x y:q1o):eqv Tryz.tb 50 82 (.agg ⟨[.string ⟨⟨x.Name⟩⟩,.int .i64 x.Intro]⟩) (.agg ⟨[.string ⟨⟨y.Name⟩⟩,.int .i64 y.Intro]⟩)=some (qcw x y):=by
 simp only [eqv,zC,zD,z5r,qk5,q45,nth,q0j,List.drop,List.take,List.toList_toArray,qcw,ne_eq,String.reduceEq,not_false_eq_true,if_true,un3.h,un9.h,un82.h,eqs82,if82.h]
 cases q1e x.Name y.Name<;>cases (x.Intro == y.Intro)<;>rfl
theorem qye (x y:q1o):g2 (ql9 Tryz.tb .eql 82) (.agg [.str x.Name,.int .i64 x.Intro]) (.agg [.str y.Name,.int .i64 y.Intro])=some (.bool (qcw x y)):=by
 simp only [g2,toV,qp4,okL,okC,zC,ql9,q7p,eqs82,eqv82,ofV]
instance Tryz.bd24:BdC Tryz.tb 24 [.nils] [(0,1)]:=⟨bdT un24.h if24.h rfl (by kernel_rfl)⟩
instance Tryz.bd43:BdC Tryz.tb 43 [.nils,.nils] [(0,1),(1,1)]:=⟨bdT un43.h if43.h rfl (by kernel_rfl)⟩
instance Tryz.bd54:BdC Tryz.tb 54 [.int .i64 0,.nils] [(0,1),(1,1)]:=⟨bdT un54.h if54.h rfl (by kernel_rfl)⟩
instance Tryz.bd56:BdC Tryz.tb 56 [.nils,.nils] [(0,1),(1,1)]:=⟨bdT un56.h if56.h rfl (by kernel_rfl)⟩
instance Tryz.bd66:BdC Tryz.tb 66 [.int .i64 0,.int .i64 0] [(0,1),(1,1)]:=⟨bdT un66.h if66.h rfl (by kernel_rfl)⟩
instance Tryz.bd82:BdC Tryz.tb 82 [.str [],.int .i64 0] [(0,1),(1,1)]:=⟨bdT un82.h if82.h rfl (by kernel_rfl)⟩
instance Tryz.bd105:BdC Tryz.tb 105 [.str [],.nils] [(0,1),(1,1)]:=⟨bdT un105.h if105.h rfl (by kernel_rfl)⟩
instance Tryz.bd109:BdC Tryz.tb 109 [.str [],.nils,.nils,.nils] [(0,1),(1,1),(2,1),(3,1)]:=⟨bdT un109.h if109.h rfl (by kernel_rfl)⟩
instance Tryz.bd127:BdC Tryz.tb 127 [.str [],.nils,.nils] [(0,1),(1,1),(2,1)]:=⟨bdT un127.h if127.h rfl (by kernel_rfl)⟩
instance Tryz.bd139:BdC Tryz.tb 139 [.nils,.nils,.nils] [(0,1),(1,1),(2,1)]:=⟨bdT un139.h if139.h rfl (by kernel_rfl)⟩
instance Tryz.bd147:BdC Tryz.tb 147 [.int .i64 0,.int .i64 0] [(0,1),(1,1)]:=⟨bdT un147.h if147.h rfl (by kernel_rfl)⟩
instance Tryz.bd162:BdC Tryz.tb 162 [.str [],.str []] [(0,1),(1,1)]:=⟨bdT un162.h if162.h rfl (by kernel_rfl)⟩
def q4u  (w13:q66 Int Bool):Option (Int) :=
 some 0
def q2g (p1:q0a) (p2:Int):Nat→Int→(q66 Int Bool)→Option (Int)
 | 0,_,_=>none
 | m1+1,z11,w12 =>
  cond (decide (z11<(p1.Arcs.length:Int)))
   (q03 (q0l p1.Arcs z11) fun x15 =>
   q03 (cond (decide (x15.Feat<0))
    (some true)
    (cond (decide (x15.To<0))
     (some true)
     (some (decide (x15.To ≥ p2))))) fun b19 =>
   cond b19
    (some 2)
    (cond ((qor (fun a b=>a == b) w12 x15.Feat).getD false)
     (some 4)
     ((q2g p1 p2 m1) (IntKind.i64.wrap (z11+1)) (qos (fun a b=>a == b) w12 x15.Feat true))))
   (q4u w12)
def q4z (n:Nat) (p1:q0a) (p2:Int):Option (Int) :=
 cond (decide (p1.Typex<0))
  (some 2)
  (q2g p1 p2 n 0 (qnt:q66 Int Bool))
theorem qjy (n:Nat) (p1:q0a) (p2:Int) (r:Int) (hF:q4z n p1 p2=some r):EvU Tryz.prog 64 [.agg (q02 p1),.int .i64 p2] ⟨[],0⟩ (fun u _=>u = .int .i64 r∧Bel 0 u):=by
 unfold q4z at hF
 refine bg2 41 fn64 ?_
 refine go ?_
 refine cF hF (fun h3 hF=>?_) (fun h3 hF=>?_)
 exact gx hF
 refine go ?_
 refine RS.q (u:=.map 1) (σ':=⟨[(1,.map (List.map (mE (fun x=>.i6 x) (fun x=>.bool x)) (qnt:q66 Int Bool).es) (qnt:q66 Int Bool).cl),(0,.row (q02 p1) 54)],2⟩) rfl (qzv) ?_
 refine go ?_
 refine gS (l':=[(1,_),(5,_),(13,_),(14,_),(15,_)]) ?_
 refine z6o (fun m tm σ=>∃ z11:Int,∃ w12:q66 Int Bool,q2g p1 p2 m z11 w12=some r∧tm=fr 41 [(1,.i6 p2),(5,.map 1),(13,.iM q08 p1.Arcs),(14,.i6 (p1.Arcs.length:Int)),(15,.i6 z11)]∧σ=⟨[(1,.map (List.map (mE (fun x=>.i6 x) (fun x=>.bool x)) w12.es) w12.cl),(0,.row (q02 p1) 54)],2⟩) (fun tm σ=>∃ w13:q66 Int Bool,q4u w13=some r∧tm=fr 41 []∧σ=⟨[(1,.map (List.map (mE (fun x=>.i6 x) (fun x=>.bool x)) w13.es) w13.cl),(0,.row (q02 p1) 54)],2⟩) n ⟨0,(qnt:q66 Int Bool),hF,rfl,rfl⟩ ?_ ?_
 rintro _ _ ⟨w13,hF,rfl,rfl⟩
 unfold q4u at hF
 exact gx hF
 rintro (_|m1) _ _ ⟨z11,w12,hF,rfl,rfl⟩
 cases hF
 unfold q2g at hF
 refine go ?_
 refine cF hF (fun h14 hF=>?_) (fun h14 hF=>?_)
 refine go ?_
 refine WPU.block ?_
 obtain ⟨x15,h16,hF⟩:=q00 hF
 refine go ?_
 refine RS.ix h16 ?_
 obtain ⟨b19,h20,hF⟩:=q00 hF
 refine gn ?_
 refine z6p (fun tm σ=>tm=fr 41 [(1,.i6 p2),(5,.map 1),(7,.ptr 2 0 0),(13,.iM q08 p1.Arcs),(14,.i6 (p1.Arcs.length:Int)),(15,.i6 z11),(32,.bool b19)]∧σ=⟨[(2,.row (q08 x15) 66),(1,.map (List.map (mE (fun x=>.i6 x) (fun x=>.bool x)) w12.es) w12.cl),(0,.row (q02 p1) 54)],3⟩) ?_ ?_
 rintro _ _ ⟨rfl,rfl⟩
 refine go ?_
 refine cF hF (fun h21 hF=>?_) (fun h21 hF=>?_)
 exact gx hF
 refine go ?_
 refine RS.q (u:=.bool ((qor (fun a b=>a == b) w12 x15.Feat).getD false)) rfl (qzu (kU:=(fun x=>.i6 x)) (vU:=(fun x=>.bool x)) (m:=w12) (k:=x15.Feat) (zv:=false) (qms un3.h) un129.h rfl rfl rfl if4.h rfl) ?_
 refine go ?_
 refine cF hF (fun h22 hF=>?_) (fun h22 hF=>?_)
 exact gx hF
 refine go ?_
 refine z7f (u:=.junk) (σ':=⟨[(2,.row (q08 x15) 66),(1,.map (List.map (mE (fun x=>.i6 x) (fun x=>.bool x)) (qos (fun a b=>a == b) w12 x15.Feat true).es) (qos (fun a b=>a == b) w12 x15.Feat true).cl),(0,.row (q02 p1) 54)],3⟩) rfl (z4p (kU:=(fun x=>.i6 x)) (vU:=(fun x=>.bool x)) (m:=w12) (k:=x15.Feat) (v:=true) (qms un3.h) un129.h rfl rfl rfl rfl rfl) rfl ?_
 refine go ?_
 exact lC ⟨_,(qos (fun a b=>a == b) w12 x15.Feat true),hF,rfl,rfl⟩
 rcases gB h20 with ⟨h17,h20⟩ | ⟨h17,h20⟩
 exact gy h20
 rcases gB h20 with ⟨h18,h20⟩ | ⟨h18,h20⟩
 exact gy h20
 exact gy h20
 refine go ?_
 exact xC ⟨w12,hF,rfl,rfl⟩
def q28 (z7:Int) (l8:List q0f) (rc2:Int→(List q0f)→Option ((List q0f))) (x13:q0f)  : Option ((List q0f)) :=
 rc2 (IntKind.i64.wrap (z7+1)) (l8++[x13])
def q27  (l10:List q0f):Option ((List q0f)) :=
 some l10
def q0s (p1:List q0f):Nat→Int→(List q0f)→Option ((List q0f))
 | 0,_,_=>none
 | m2+1,z7,l8 =>
  cond (decide (z7<(p1.length:Int)))
   (q03 (q0l p1 z7) fun x13 =>
   q0w ((l8.length+1)*16≤140737488355328∧l8.length+1≤140737488355328) (
   q28 z7 l8 (q0s p1 m2) x13))
   (q27 l8)
def q2r (n:Nat) (p1:List q0f):Option ((List q0f)) :=
 q0s p1 n 0 ([]:List q0f)
theorem qcr (n:Nat) (p1:List q0f) (r:(List q0f)) (hF:q2r n p1=some r):EvU Tryz.prog 142 [.nils,.fn (.func 113) [] [.iptr [.isl false (List.map q08 p1)]]] ⟨[],0⟩ (fun u σ'=>∃ t:Nat→Nat,u = .vl 1 (t 0) 0 r.length∧σ'=⟨[(1,.vec (List.map q08 r).flatten 66 2 (t 0))],2⟩):=by
 unfold q2r at hF
 refine z7d Tryz.tb_ok fn142 rfl ?_
 refine WPU.ghost (tm':=fr 13 [(0,.nils),(1,.fn (.func 113) [] [.iptr [.iM q08 p1]])]) (z71 NL) (zF _) ?_
 refine go ?_
 refine WPU.block ?_
 refine gn ?_
 refine gS (l':=[(2,_),(6,_)]) ?_
 refine WPU.range Tryz.tb_ok rfl (fun _ h=>h) (q1s rfl) fn113 rfl rfl ?_
 intro ly1 fn1 tp1 D1
 refine WPU.ghost (tm':=fr 16 [(0,.fn (.yield ly1) [] []),(1,.iptr [.iM q08 p1])]) (z71 NL) (zF _) ?_
 refine gr ?_
 refine WPU.ghost (tm':=fr 16 [(0,.fn (.yield ly1) [] []),(5,.iM q08 p1),(6,.i6 (p1.length:Int)),(7,.i6 0)]) (σ':=⟨[(1,.vec (List.map q08 ([]:List q0f)).flatten 66 2 0),(0,.row [.vl 1 0 0 (([]:List q0f).length)] 52)],2⟩) (Gh.trans (z73 0 0 66 2 (by decide) NL rfl rfl) (z6s ⟨rfl,rfl,rfl,rfl,trivial⟩ rfl)) NL ?_
 refine gS (l':=[(0,_),(5,_),(6,_),(7,_)]) ?_
 refine z6o (fun m tm σ=>∃ z7:Int,∃ l8:List q0f,∃ t9:Nat,q0s p1 m z7 l8=some r∧tm=fr 16 [(0,.fn (.yield ly1) [] []),(5,.iM q08 p1),(6,.i6 (p1.length:Int)),(7,.i6 z7)]∧σ=⟨[(1,.vec (List.map q08 l8).flatten 66 2 t9),(0,.row [.vl 1 t9 0 l8.length] 52)],2⟩) (fun tm σ=>∃ l10:List q0f,∃ t11:Nat,q27 l10=some r∧tm=fr 16 []∧σ=⟨[(1,.vec (List.map q08 l10).flatten 66 2 t11),(0,.row [.vl 1 t11 0 l10.length] 52)],2⟩) n ⟨0,([]:List q0f),0,hF,rfl,rfl⟩ ?_ ?_
 rintro _ _ ⟨l10,t11,hF,rfl,rfl⟩
 unfold q27 at hF
 refine gn ?_
 refine ⟨.inl rfl,?_⟩
 refine go ?_
 obtain rfl:=sI hF
 exact ⟨.inr rfl,[.vl 1 t11 0 l10.length],q1y rfl (q1t),.vl 1 t11 0 l10.length,⟨[(1,.vec (List.map q08 l10).flatten 66 2 t11)],2⟩,NL,Gh.trans (z79 (fun k=>qz0 [1] k)) (z7b (n1:=2) [] rfl rfl NL NL BUL.h BH.h),stF [t11],rfl,rfl⟩
 rintro (_|m2) _ _ ⟨z7,l8,t9,hF,rfl,rfl⟩
 cases hF
 unfold q0s at hF
 refine go ?_
 refine cF hF (fun h12 hF=>?_) (fun h12 hF=>?_)
 refine go ?_
 refine WPU.block ?_
 obtain ⟨x13,h14,hF⟩:=q00 hF
 refine go ?_
 refine RS.ix h14 ?_
 refine go ?_
 refine RS.yield (tmx:=fr 13 [(2,.ptr 0 0 0),(6,.fn (.func 113) [] [.iptr [.iM q08 p1]]),(7,.agg (q08 x13))]) rfl rfl rfl rfl rfl rfl rfl rfl (setP1 rfl) rfl rfl ?_
 refine gr ?_
 refine z6p (fun tm σ=>q28 z7 l8 (q0s p1 m2) x13=some r∧tm=fr 13 []∧σ=⟨[(2,.row (q08 x13) 66),(1,.vec (List.map q08 (l8++[x13])).flatten 66 2 (t9+1)),(0,.row [.vl 1 (t9+1) 0 ((l8++[x13]).length)] 52)],3⟩) ?_ ?_
 rintro _ _ ⟨hF,rfl,rfl⟩
 unfold q28 at hF
 refine ⟨rfl,?_⟩
 refine go ?_
 refine z74 (t:=false) rfl (fun hc=>by cases hc) (fun _=>?_)
 refine go ?_
 exact lC ⟨_,(l8++[x13]),(t9+1),hF,rfl,rfl⟩
 refine go ?_
 refine WPU.block ?_
 obtain ⟨h15,hF⟩:=q06 hF
 refine go ?_
 refine RS.q (u:=.sl 4 0 1 1) (σ':=⟨[(4,.row (q08 x13) 66),(3,.row (q08 x13) 66),(2,.row (q08 x13) 66),(1,.vec (List.map q08 l8).flatten 66 2 t9),(0,.row [.vl 1 t9 0 l8.length] 52)],5⟩) rfl (q7q un52.h if66.h rfl rfl rfl rfl rfl rfl rfl) ?_
 refine RS.g ?_
 refine go ?_
 exact xC ⟨hF,rfl,rfl⟩
 refine go ?_
 exact xC ⟨l8,t9,hF,rfl,rfl⟩
def q3g (n:Nat) (p1:List q0f):Option ((List q0f)) :=
 q03 (q2r n p1) fun r2 =>
 some r2
theorem qep (n:Nat) (p1:List q0f) (r:(List q0f)) (hF:q3g n p1=some r):EvU Tryz.prog 111 [.fn (.func 113) [] [.iptr [.isl false (List.map q08 p1)]]] ⟨[],0⟩ (fun u σ'=>∃ t:Nat→Nat,u = .vl 1 (t 0) 0 r.length∧σ'=⟨[(1,.vec (List.map q08 r).flatten 66 2 (t 0))],2⟩):=by
 unfold q3g at hF
 refine bg1 5 fn111 ?_
 obtain ⟨r2,h3,hF⟩:=q00 hF
 refine go ?_
 refine z6t (R:=fun u σ'=>∃ t4:Nat→Nat,u = .vl 1 (t4 0) 0 r2.length∧σ'=⟨[(1,.vec (List.map q08 r2).flatten 66 2 (t4 0))],2⟩) (args:=[.nils,.fn (.func 113) [] [.iptr [.iM q08 p1]]]) rfl (q3s rfl rfl fn142 hb142 rfl rfl) (EvU.st [] (qcr n p1 r2 h3 )) rfl rfl ?_
 rintro _ _ ⟨t4,rfl,rfl⟩
 refine go ?_
 obtain rfl:=sI hF
 exact ⟨.inr rfl,[.vl 1 (t4 0) 0 r2.length],q1y rfl (q1t),.vl 1 (t4 0) 0 r2.length,⟨[(1,.vec (List.map q08 r2).flatten 66 2 (t4 0))],2⟩,NL,Gh.trans (z79 (fun k=>qz0 [1] k)) (z7b (n1:=2) [] rfl rfl NL NL BUL.h BH.h),stF [(t4 0)],rfl,rfl⟩
def q1c (n:Nat) (p1:List q0f):Option ((List q0f)) :=
 q03 (q3g n p1) fun r2 =>
 q03 (qsl eqA (fun a b=>q1f n a b ) r2) fun r6 =>
 some r6
theorem q5u (n:Nat) (p1:List q0f) (r:(List q0f)) (hF:q1c n p1=some r):EvU Tryz.prog 84 [.fn (.func 113) [] [.iptr [.isl false (List.map q08 p1)]],.fn (.func 86) [] []] ⟨[],0⟩ (fun u σ'=>∃ t:Nat→Nat,u = .vl 1 (t 0) 0 r.length∧σ'=⟨[(1,.vec (List.map q08 r).flatten 66 2 (t 0))],2⟩):=by
 unfold q1c at hF
 refine bg2 12 fn84 ?_
 obtain ⟨r2,h3,hF⟩:=q00 hF
 refine go ?_
 refine z6t (R:=fun u σ'=>∃ t4:Nat→Nat,u = .vl 1 (t4 0) 0 r2.length∧σ'=⟨[(1,.vec (List.map q08 r2).flatten 66 2 (t4 0))],2⟩) (args:=[.fn (.func 113) [] [.iptr [.iM q08 p1]]]) rfl (q3s rfl rfl fn111 hb111 rfl rfl) (EvU.st [] (qep n p1 r2 h3 )) rfl rfl ?_
 rintro _ _ ⟨t4,rfl,rfl⟩
 obtain ⟨r6,h5,hF⟩:=q00 hF
 refine gn ?_
 refine z6p (fun tm σ=>tm=fr 12 [(5,.vl 1 (t4 0) 0 r6.length)]∧σ=⟨[(1,.vec (List.map q08 r6).flatten 66 2 (t4 0))],2⟩) ?_ ?_
 rintro _ _ ⟨rfl,rfl⟩
 refine go ?_
 obtain rfl:=sI hF
 exact ⟨.inr rfl,[.vl 1 (t4 0) 0 r6.length],q1y rfl (q1t),.vl 1 (t4 0) 0 r6.length,⟨[(1,.vec (List.map q08 r6).flatten 66 2 (t4 0))],2⟩,NL,Gh.trans (z79 (fun k=>qz0 [1] k)) (z7b (n1:=2) [] rfl rfl NL NL BUL.h BH.h),stF [(t4 0)],rfl,rfl⟩
 refine go ?_
 refine z6t (args:=[.vl 1 (t4 0) 0 r2.length,.fn (.func 86) [] []]) rfl (q3s rfl rfl fn112 hb112 rfl rfl) (z6e  (fun a b r h=>qjx n a b  r h) r2 r6 h5 _ rfl rfl) rfl rfl ?_
 rintro _ _ ⟨rfl,rfl⟩
 refine go ?_
 exact ⟨_,_,⟨rfl,rfl⟩,NZ,z6s ⟨(by simp only [z0k h5]; rfl),trivial⟩ rfl⟩
def q24 (n:Nat) (p1:List q0f):Option ((List q0f)) :=
 some p1
theorem q7r (n:Nat) (p1:List q0f) (r:(List q0f)) (hF:q24 n p1=some r):EvU Tryz.prog 85 [.isl false (List.map q08 p1)] ⟨[],0⟩ (fun u σ'=>∃ t:Nat→Nat,u = .fn (.func 113) [] [.iptr [.isl false (List.map q08 r)]]∧σ'=⟨[],0⟩):=by
 unfold q24 at hF
 refine bg1 4 fn85 ?_
 refine go ?_
 refine RS.q rfl (qvb rfl rfl) ?_
 refine go ?_
 obtain rfl:=sI hF
 exact ⟨.inr rfl,[.fn (.func 113) [] [.ptr 0 0 0]],q1y rfl (q1t),.fn (.func 113) [] [.iptr [.iM q08 p1]],⟨[],0⟩,NL,Gh.trans (z6r 0 1) (z7b (n1:=0) [] rfl rfl NL NL BUL.h BH.h),stF [],rfl,rfl⟩
def q1h (z24:Int) (rc1:Int→(List Int)→(q66 Int Int)→Option ((List Int)×(q66 Int Int))) (l35:List Int) (w37:q66 Int Int):Option ((List Int)×(q66 Int Int)) :=
 rc1 (IntKind.i64.wrap (z24+1)) l35 w37
def q2m  (l28:List Int) (w30:q66 Int Int):Option ((List Int)×(q66 Int Int)) :=
 some (l28,w30)
def q0u (p2:List q0a) (r12:(List q0f)) (self:Int→(List q0a)→(List Int)→(q66 Int Int)→Option ((List Int)×(q66 Int Int))):Nat→Int→(List Int)→(q66 Int Int)→Option ((List Int)×(q66 Int Int))
 | 0,_,_,_=>none
 | m1+1,z24,l25,w27 =>
  cond (decide (z24<(r12.length:Int)))
   (q03 (q0l r12 z24) fun x32 =>
   cond (!((qor (fun a b=>a == b) w27 x32.To).isSome))
    (q03 (self x32.To p2 l25 w27) fun r38 =>
    q1h z24 (q0u p2 r12 self m1) r38.1 r38.2)
    (q1h z24 (q0u p2 r12 self m1) l25 w27))
   (q2m l25 w27)
def q32 (n:Nat) (self:Int→(List q0a)→(List Int)→(q66 Int Int)→Option ((List Int)×(q66 Int Int))) (p1:Int) (p2:List q0a) (p3:List Int) (p5:q66 Int Int):Option ((List Int)×(q66 Int Int)) :=
 q0w ((p3.length+1)*8≤140737488355328∧p3.length+1≤140737488355328) (
 q03 (q0l p2 p1) fun x7 =>
 q03 (q24 n x7.Arcs) fun r9 =>
 q03 (q1c n r9) fun r12 =>
 q0u p2 r12 self n 0 (p3++[p1]) (qos (fun a b=>a == b) p5 p1 (p3.length:Int)))
def q0z:Nat→Int→(List q0a)→(List Int)→(q66 Int Int)→Option ((List Int)×(q66 Int Int))
 | 0,_,_,_,_=>none
 | n+1,p1,p2,p3,p5=>q32 n (q0z n) p1 p2 p3 p5
theorem q7o:∀ (n:Nat) (p1:Int) (p2:List q0a) (p3:List Int) (p5:q66 Int Int) (r:(List Int)×(q66 Int Int)),q0z n p1 p2 p3 p5=some r→∀ t4:Nat,EvU Tryz.prog 83 [.int .i64 p1,.ptr 0 0 0,.ptr 1 0 0,.ptr 2 0 0,.ptr 3 0 0] ⟨[(0,.row [.vl 4 t4 0 p3.length] 33),(1,.row [.map 5] 130),(2,.row [.isl false (List.map q02 p2)] 24),(3,.row [.fn (.func 83) [] [.ptr 0 0 0,.ptr 1 0 0,.ptr 2 0 0,.ptr 3 0 0]] 115),(4,.vec (List.map (cI .i64) p3).flatten 3 1 t4),(5,.map (List.map (mE (fun x=>.int .i64 x) (fun x=>.int .i64 x)) p5.es) p5.cl)],6⟩ (fun u σ'=>∃ t:Nat→Nat,u = .tup []∧σ'=⟨[(0,.row [.vl 4 (t 0) 0 r.1.length] 33),(1,.row [.map 5] 130),(2,.row [.isl false (List.map q02 p2)] 24),(3,.row [.fn (.func 83) [] [.ptr 0 0 0,.ptr 1 0 0,.ptr 2 0 0,.ptr 3 0 0]] 115),(4,.vec (List.map (cI .i64) r.1).flatten 3 1 (t 0)),(5,.map (List.map (mE (fun x=>.int .i64 x) (fun x=>.int .i64 x)) r.2.es) r.2.cl)],6⟩)
 | 0,p1,p2,p3,p5,r,hF=>by cases hF
 | n+1,p1,p2,p3,p5,r,hF=>by
  have ih:=q7o n
  unfold q0z q32 at hF
  intro t4
  refine bg5 45 fn83 ?_
  refine go ?_
  refine z7f (u:=.junk) (σ':=⟨[(0,.row [.vl 4 t4 0 p3.length] 33),(1,.row [.map 5] 130),(2,.row [.iM q02 p2] 24),(3,.row [.fn (.func 83) [] [.ptr 0 0 0,.ptr 1 0 0,.ptr 2 0 0,.ptr 3 0 0]] 115),(4,.vec (List.map (cI .i64) p3).flatten 3 1 t4),(5,.map (List.map (mE (fun x=>.i6 x) (fun x=>.i6 x)) (qos (fun a b=>a == b) p5 p1 (p3.length:Int)).es) (qos (fun a b=>a == b) p5 p1 (p3.length:Int)).cl)],6⟩) rfl (z4p (kU:=(fun x=>.i6 x)) (vU:=(fun x=>.i6 x)) (m:=p5) (k:=p1) (v:=(p3.length:Int)) (qms un3.h) un130.h rfl rfl rfl rfl rfl) rfl ?_
  obtain ⟨h6,hF⟩:=q06 hF
  refine go ?_
  refine RS.g ?_
  refine RS.g ?_
  obtain ⟨x7,h8,hF⟩:=q00 hF
  obtain ⟨r9,h10,hF⟩:=q00 hF
  obtain ⟨r12,h13,hF⟩:=q00 hF
  refine go ?_
  refine RS.ix h8 ?_
  refine go ?_
  refine z6t (R:=fun u σ'=>∃ t11:Nat→Nat,u = .fn (.func 113) [] [.iptr [.iM q08 r9]]∧σ'=⟨[(6,.row [.i6 p1] 3),(0,.row [.vl 4 (t4+1) 0 ((p3++[p1]).length)] 33),(1,.row [.map 5] 130),(2,.row [.iM q02 p2] 24),(3,.row [.fn (.func 83) [] [.ptr 0 0 0,.ptr 1 0 0,.ptr 2 0 0,.ptr 3 0 0]] 115),(4,.vec (List.map (cI .i64) (p3++[p1])).flatten 3 1 (t4+1)),(5,.map (List.map (mE (fun x=>.i6 x) (fun x=>.i6 x)) (qos (fun a b=>a == b) p5 p1 (p3.length:Int)).es) (qos (fun a b=>a == b) p5 p1 (p3.length:Int)).cl)],7⟩) (args:=[.iM q08 x7.Arcs]) rfl (q3s rfl rfl fn85 hb85 rfl rfl) (EvU.st [] (q7r n x7.Arcs r9 h10 )) rfl rfl ?_
  rintro _ _ ⟨t11,rfl,rfl⟩
  refine z6t (R:=fun u σ'=>∃ t14:Nat→Nat,u = .vl 8 (t14 0) 0 r12.length∧σ'=⟨[(8,.vec (List.map q08 r12).flatten 66 2 (t14 0)),(6,.row [.i6 p1] 3),(0,.row [.vl 4 (t4+1) 0 ((p3++[p1]).length)] 33),(1,.row [.map 5] 130),(2,.row [.iM q02 p2] 24),(3,.row [.fn (.func 83) [] [.ptr 0 0 0,.ptr 1 0 0,.ptr 2 0 0,.ptr 3 0 0]] 115),(4,.vec (List.map (cI .i64) (p3++[p1])).flatten 3 1 (t4+1)),(5,.map (List.map (mE (fun x=>.i6 x) (fun x=>.i6 x)) (qos (fun a b=>a == b) p5 p1 (p3.length:Int)).es) (qos (fun a b=>a == b) p5 p1 (p3.length:Int)).cl)],9⟩) (args:=[.fn (.func 113) [] [.iptr [.iM q08 r9]],.fn (.func 86) [] []]) rfl (q3s rfl rfl fn84 hb84 rfl rfl) (EvU.st [] (q5u n r9 r12 h13 )) rfl rfl ?_
  rintro _ _ ⟨t14,rfl,rfl⟩
  refine go ?_
  refine gS (l':=[(2,_),(4,_),(25,_),(26,_),(27,_)]) ?_
  refine z6o (fun m tm σ=>∃ z24:Int,∃ l25:List Int,∃ t26:Nat,∃ w27:q66 Int Int,q0u p2 r12 (q0z n) m z24 l25 w27=some r∧tm=fr 45 [(2,.ptr 1 0 0),(4,.ptr 3 0 0),(25,.vl 8 (t14 0) 0 r12.length),(26,.i6 (r12.length:Int)),(27,.i6 z24)]∧σ=⟨[(8,.vec (List.map q08 r12).flatten 66 2 (t14 0)),(6,.row [.i6 p1] 3),(0,.row [.vl 4 t26 0 l25.length] 33),(1,.row [.map 5] 130),(2,.row [.iM q02 p2] 24),(3,.row [.fn (.func 83) [] [.ptr 0 0 0,.ptr 1 0 0,.ptr 2 0 0,.ptr 3 0 0]] 115),(4,.vec (List.map (cI .i64) l25).flatten 3 1 t26),(5,.map (List.map (mE (fun x=>.i6 x) (fun x=>.i6 x)) w27.es) w27.cl)],9⟩) (fun tm σ=>∃ l28:List Int,∃ t29:Nat,∃ w30:q66 Int Int,q2m l28 w30=some r∧tm=fr 45 []∧σ=⟨[(8,.vec (List.map q08 r12).flatten 66 2 (t14 0)),(6,.row [.i6 p1] 3),(0,.row [.vl 4 t29 0 l28.length] 33),(1,.row [.map 5] 130),(2,.row [.iM q02 p2] 24),(3,.row [.fn (.func 83) [] [.ptr 0 0 0,.ptr 1 0 0,.ptr 2 0 0,.ptr 3 0 0]] 115),(4,.vec (List.map (cI .i64) l28).flatten 3 1 t29),(5,.map (List.map (mE (fun x=>.i6 x) (fun x=>.i6 x)) w30.es) w30.cl)],9⟩) n ⟨0,(p3++[p1]),(t4+1),(qos (fun a b=>a == b) p5 p1 (p3.length:Int)),hF,rfl,rfl⟩ ?_ ?_
  rintro _ _ ⟨l28,t29,w30,hF,rfl,rfl⟩
  unfold q2m at hF
  refine go ?_
  obtain rfl:=sI hF
  exact ⟨.inl rfl,[],q1t,.tup [],⟨[(0,.row [.vl 4 t29 0 l28.length] 33),(1,.row [.map 5] 130),(2,.row [.iM q02 p2] 24),(3,.row [.fn (.func 83) [] [.ptr 0 0 0,.ptr 1 0 0,.ptr 2 0 0,.ptr 3 0 0]] 115),(4,.vec (List.map (cI .i64) l28).flatten 3 1 t29),(5,.map (List.map (mE (fun x=>.i6 x) (fun x=>.i6 x)) w30.es) w30.cl)],6⟩,NL,z7b (n1:=6) [] rfl rfl NL NL BUL.h BH.h,stF [t29],rfl,rfl⟩
  rintro (_|m1) _ _ ⟨z24,l25,t26,w27,hF,rfl,rfl⟩
  cases hF
  unfold q0u at hF
  refine go ?_
  refine cF hF (fun h31 hF=>?_) (fun h31 hF=>?_)
  refine go ?_
  refine WPU.block ?_
  obtain ⟨x32,h33,hF⟩:=q00 hF
  refine go ?_
  refine RS.q rfl (q2v rfl rfl (q94 q08 un52.h (q0i if66.h) (by decide) q17 (vo rfl) h33)) ?_
  refine RS.q (u:=.agg (q08 x32)) rfl (z4k q08 un66.h rfl (q0i if66.h) q17 rfl rfl h33 rfl) ?_
  refine go ?_
  refine RS.q (u:=.tup [.i6 ((qor (fun a b=>a == b) w27 x32.To).getD 0),.bool ((qor (fun a b=>a == b) w27 x32.To).isSome)]) rfl (z3d (kU:=(fun x=>.i6 x)) (vU:=(fun x=>.i6 x)) (m:=w27) (k:=x32.To) (zv:=0) (qms un3.h) un130.h rfl rfl rfl if3.h rfl) ?_
  refine gr ?_
  refine z6p (fun tm σ=>∃ l35:List Int,∃ t36:Nat,∃ w37:q66 Int Int,q1h z24 (q0u p2 r12 (q0z n) m1) l35 w37=some r∧tm=fr 45 [(2,.ptr 1 0 0),(4,.ptr 3 0 0),(25,.vl 8 (t14 0) 0 r12.length),(26,.i6 (r12.length:Int)),(27,.i6 z24)]∧σ=⟨[(9,.row (q08 x32) 66),(8,.vec (List.map q08 r12).flatten 66 2 (t14 0)),(6,.row [.i6 p1] 3),(0,.row [.vl 4 t36 0 l35.length] 33),(1,.row [.map 5] 130),(2,.row [.iM q02 p2] 24),(3,.row [.fn (.func 83) [] [.ptr 0 0 0,.ptr 1 0 0,.ptr 2 0 0,.ptr 3 0 0]] 115),(4,.vec (List.map (cI .i64) l35).flatten 3 1 t36),(5,.map (List.map (mE (fun x=>.i6 x) (fun x=>.i6 x)) w37.es) w37.cl)],10⟩) ?_ ?_
  rintro _ _ ⟨l35,t36,w37,hF,rfl,rfl⟩
  unfold q1h at hF
  refine go ?_
  exact lC ⟨_,l35,t36,w37,hF,rfl,rfl⟩
  refine cF hF (fun h34 hF=>?_) (fun h34 hF=>?_)
  obtain ⟨r38,h39,hF⟩:=q00 hF
  refine go ?_
  refine z6t (R:=fun u σ'=>∃ t40:Nat→Nat,u = .tup []∧σ'=⟨[(9,.row (q08 x32) 66),(8,.vec (List.map q08 r12).flatten 66 2 (t14 0)),(6,.row [.i6 p1] 3),(0,.row [.vl 4 (t40 0) 0 r38.1.length] 33),(1,.row [.map 5] 130),(2,.row [.iM q02 p2] 24),(3,.row [.fn (.func 83) [] [.ptr 0 0 0,.ptr 1 0 0,.ptr 2 0 0,.ptr 3 0 0]] 115),(4,.vec (List.map (cI .i64) r38.1).flatten 3 1 (t40 0)),(5,.map (List.map (mE (fun x=>.i6 x) (fun x=>.i6 x)) r38.2.es) r38.2.cl)],10⟩) (args:=[.i6 x32.To,.ptr 0 0 0,.ptr 1 0 0,.ptr 2 0 0,.ptr 3 0 0]) rfl (q3s rfl rfl fn83 hb83 rfl (rfl)) (EvU.st [0,1,2,3,4,5] (ih x32.To p2 l25 w27 r38 h39 t26)) rfl rfl ?_
  rintro _ _ ⟨t40,rfl,rfl⟩
  refine go ?_
  exact xC ⟨r38.1,(t40 0),r38.2,hF,rfl,rfl⟩
  refine go ?_
  exact xC ⟨l25,t26,w27,hF,rfl,rfl⟩
  refine go ?_
  exact xC ⟨l25,t26,w27,hF,rfl,rfl⟩
def q3b (p1:GFS) (r3:(List Int)×(q66 Int Int)) (z14:Int) (l15:List q0a) (rc1:Int→(List q0a)→Option (GFS)) (x19:Int) (l44:List q0f):Option (GFS) :=
 q03 (q0l p1.Nodes x19) fun x45 =>
 q03 (qjz l15 0 ((r3.1.length:Int).toNat) z14) fun x47 =>
 rc1 (IntKind.i64.wrap (z14+1)) (l15.set z14.toNat (q0a.mk x45.Typex l44))
def q20 (p1:GFS) (r3:(List Int)×(q66 Int Int)) (z14:Int) (l15:List q0a) (rc1:Int→(List q0a)→Option (GFS)) (x19:Int) (r26:(List q0f)):Nat→Int→(List q0f)→Option (GFS)
 | 0,_,_=>none
 | m2+1,z42,l43 =>
  cond (decide (z42<(r26.length:Int)))
   (q03 (q0l l43 z42) fun x50 =>
   q03 (q0l l43 z42) fun x52 =>
   (q20 p1 r3 z14 l15 rc1 x19 r26 m2) (IntKind.i64.wrap (z42+1)) (l43.set (0+z42.toNat) (q0f.mk x52.Feat ((qor (fun a b=>a == b) r3.2 x50.To).getD 0))))
   (q3b p1 r3 z14 l15 rc1 x19 l43)
def q4t (r3:(List Int)×(q66 Int Int)) (l16:List q0a):Option (GFS) :=
 q0w ((r3.1.length:Int).toNat=l16.length) (
 some (GFS.mk l16))
def q1a (p1:GFS) (n:Nat) (r3:(List Int)×(q66 Int Int)):Nat→Int→(List q0a)→Option (GFS)
 | 0,_,_=>none
 | m1+1,z14,l15 =>
  cond (decide (z14<(r3.1.length:Int)))
   (q03 (q0l r3.1 z14) fun x19 =>
   q03 (q0l p1.Nodes x19) fun x21 =>
   q03 (q24 n x21.Arcs) fun r23 =>
   q03 (q1c n r23) fun r26 =>
   q20 p1 r3 z14 l15 (q1a p1 n r3 m1) x19 r26 n 0 r26)
   (q4t r3 l15)
def q3r (n:Nat) (p1:GFS) (p2:Int):Option (GFS) :=
 q03 (q0z n p2 p1.Nodes ([]:List Int) (qnt:q66 Int Int)) fun r3 =>
 q0w (0≤(r3.1.length:Int)∧32*(r3.1.length:Int).toNat≤281474976710656∧(r3.1.length:Int)≤281474976710656) (
 q1a p1 n r3 n 0 (List.replicate (r3.1.length:Int).toNat (q0a.mk 0 [])))
theorem qcy (n:Nat) (p1:GFS) (p2:Int) (r:GFS) (hF:q3r n p1 p2=some r):EvU Tryz.prog 65 [.agg [.isl false (List.map q02 p1.Nodes)],.int .i64 p2] ⟨[],0⟩ (fun u _=>u = .agg [.isl false (List.map q02 r.Nodes)]∧Bel 0 u):=by
 unfold q3r at hF
 refine bg2 68 fn65 ?_
 refine go ?_
 refine RS.q (u:=.map 2) (σ':=⟨[(2,.map (List.map (mE (fun x=>.i6 x) (fun x=>.i6 x)) (qnt:q66 Int Int).es) (qnt:q66 Int Int).cl),(1,.row [.nils] 24),(0,.row [.iM q02 p1.Nodes] 24)],3⟩) rfl (qzv) ?_
 refine go ?_
 refine RS.q rfl (qvb rfl rfl) ?_
 refine gn ?_
 refine WPU.ghost (tm':=fr 68 [(1,.i6 p2),(2,.ptr 0 0 0),(4,.ptr 1 0 0),(5,.ptr 3 0 0),(6,.ptr 4 0 0),(7,.ptr 5 0 0)]) (σ':=⟨[(6,.vec (List.map (cI .i64) ([]:List Int)).flatten 3 1 0),(5,.row [.fn (.func 83) [] [.ptr 4 0 0,.ptr 3 0 0,.ptr 0 0 0,.ptr 5 0 0]] 115),(4,.row [.vl 6 0 0 (([]:List Int).length)] 33),(3,.row [.map 2] 130),(2,.map (List.map (mE (fun x=>.i6 x) (fun x=>.i6 x)) (qnt:q66 Int Int).es) (qnt:q66 Int Int).cl),(1,.row [.nils] 24),(0,.row [.iM q02 p1.Nodes] 24)],7⟩) (Gh.trans (z73 4 0 3 1 (by decide) NZ rfl rfl) (z6s ⟨rfl,rfl,rfl,rfl,rfl,rfl,trivial⟩ rfl)) NZ ?_
 obtain ⟨r3,h4,hF⟩:=q00 hF
 refine go ?_
 refine z6t (R:=fun u σ'=>∃ t5:Nat→Nat,u = .tup []∧σ'=⟨[(6,.vec (List.map (cI .i64) r3.1).flatten 3 1 (t5 0)),(5,.row [.fn (.func 83) [] [.ptr 4 0 0,.ptr 3 0 0,.ptr 0 0 0,.ptr 5 0 0]] 115),(4,.row [.vl 6 (t5 0) 0 r3.1.length] 33),(3,.row [.map 2] 130),(2,.map (List.map (mE (fun x=>.i6 x) (fun x=>.i6 x)) r3.2.es) r3.2.cl),(1,.row [.nils] 24),(0,.row [.iM q02 p1.Nodes] 24)],7⟩) (args:=[.i6 p2,.ptr 4 0 0,.ptr 3 0 0,.ptr 0 0 0,.ptr 5 0 0]) rfl (q3s rfl rfl fn83 hb83 rfl (rfl)) (EvU.st [4,3,0,5,6,2] (q7o n p2 p1.Nodes ([]:List Int) (qnt:q66 Int Int) r3 h4 0)) rfl rfl ?_
 rintro _ _ ⟨t5,rfl,rfl⟩
 obtain ⟨h6,hF⟩:=q06 hF
 refine go ?_
 refine RS.q (u:=.sl 7 0 ((r3.1.length:Int).toNat) ((r3.1.length:Int).toNat)) (σ':=⟨[(7,.row (List.map q02 (List.replicate (r3.1.length:Int).toNat (q0a.mk 0 []))).flatten 54),(6,.vec (List.map (cI .i64) r3.1).flatten 3 1 (t5 0)),(5,.row [.fn (.func 83) [] [.ptr 4 0 0,.ptr 3 0 0,.ptr 0 0 0,.ptr 5 0 0]] 115),(4,.row [.vl 6 (t5 0) 0 r3.1.length] 33),(3,.row [.map 2] 130),(2,.map (List.map (mE (fun x=>.i6 x) (fun x=>.i6 x)) r3.2.es) r3.2.cl),(1,.row [.nils] 24),(0,.row [.iM q02 p1.Nodes] 24)],8⟩) rfl (qow q02 (q0a.mk 0 []) rfl rfl un22.h if54.h rfl rfl rfl rfl h6) ?_
 refine go ?_
 refine gS (l':=[(2,_),(4,_),(5,_),(8,_),(22,_),(23,_),(24,_)]) ?_
 refine z6o (fun m tm σ=>∃ z14:Int,∃ l15:List q0a,q1a p1 n r3 m z14 l15=some r∧tm=fr 68 [(2,.ptr 0 0 0),(4,.ptr 1 0 0),(5,.ptr 3 0 0),(8,.ptr 8 0 0),(22,.vl 6 (t5 0) 0 r3.1.length),(23,.i6 (r3.1.length:Int)),(24,.i6 z14)]∧σ=⟨[(8,.row [.sl 7 0 ((r3.1.length:Int).toNat) ((r3.1.length:Int).toNat)] 24),(7,.row (List.map q02 l15).flatten 54),(6,.vec (List.map (cI .i64) r3.1).flatten 3 1 (t5 0)),(5,.row [.fn (.func 83) [] [.ptr 4 0 0,.ptr 3 0 0,.ptr 0 0 0,.ptr 5 0 0]] 115),(4,.row [.vl 6 (t5 0) 0 r3.1.length] 33),(3,.row [.map 2] 130),(2,.map (List.map (mE (fun x=>.i6 x) (fun x=>.i6 x)) r3.2.es) r3.2.cl),(1,.row [.nils] 24),(0,.row [.iM q02 p1.Nodes] 24)],9⟩) (fun tm σ=>∃ l16:List q0a,q4t r3 l16=some r∧tm=fr 68 [(4,.ptr 1 0 0),(8,.ptr 8 0 0)]∧σ=⟨[(8,.row [.sl 7 0 ((r3.1.length:Int).toNat) ((r3.1.length:Int).toNat)] 24),(7,.row (List.map q02 l16).flatten 54),(6,.vec (List.map (cI .i64) r3.1).flatten 3 1 (t5 0)),(5,.row [.fn (.func 83) [] [.ptr 4 0 0,.ptr 3 0 0,.ptr 0 0 0,.ptr 5 0 0]] 115),(4,.row [.vl 6 (t5 0) 0 r3.1.length] 33),(3,.row [.map 2] 130),(2,.map (List.map (mE (fun x=>.i6 x) (fun x=>.i6 x)) r3.2.es) r3.2.cl),(1,.row [.nils] 24),(0,.row [.iM q02 p1.Nodes] 24)],9⟩) n ⟨0,(List.replicate (r3.1.length:Int).toNat (q0a.mk 0 [])),hF,rfl,rfl⟩ ?_ ?_
 rintro _ _ ⟨l16,hF,rfl,rfl⟩
 unfold q4t at hF
 obtain ⟨h17,hF⟩:=q06 hF
 refine go ?_
 obtain rfl:=sI hF
 exact ⟨.inr rfl,[.agg [.sl 7 0 ((r3.1.length:Int).toNat) ((r3.1.length:Int).toNat)]],qd9 (q61 un24.h rfl (q0i if24.h) rfl rfl rfl) (q1t),.agg [.iM q02 l16],⟨[],0⟩,zF _,Gh.trans (Gh.fz (tm':=[.agg [.iM q02 l16]]) 7 (.row (List.map q02 l16).flatten 54) 2 rfl (by simp) (by simp only [ql0,qbr,q67,qih,qf7,qij,qdf,qfa,qf9,qf8,qde,qii,qkw,qig,qik,qnv,qlb,qyv qga h17,q93 (show Nat.beq 0 7=false from rfl),q92 (show Nat.beq 0 7=false from rfl),q91 (show Nat.beq 0 7=false from rfl),q93 (show Nat.beq 2 7=false from rfl),q92 (show Nat.beq 2 7=false from rfl),q91 (show Nat.beq 2 7=false from rfl),q93 (show Nat.beq 3 7=false from rfl),q92 (show Nat.beq 3 7=false from rfl),q91 (show Nat.beq 3 7=false from rfl),q93 (show Nat.beq 4 7=false from rfl),q92 (show Nat.beq 4 7=false from rfl),q91 (show Nat.beq 4 7=false from rfl),q93 (show Nat.beq 5 7=false from rfl),q92 (show Nat.beq 5 7=false from rfl),q91 (show Nat.beq 5 7=false from rfl),q93 (show Nat.beq 6 7=false from rfl),q92 (show Nat.beq 6 7=false from rfl),q91 (show Nat.beq 6 7=false from rfl),q36 _ _ _ (q3a 7 (fun q=>qct _ .i64 q) r3.1),z5v]) rfl) (z6y (.agg [.iM q02 l16]) rfl),rfl,BU.h⟩
 rintro (_|m1) _ _ ⟨z14,l15,hF,rfl,rfl⟩
 cases hF
 unfold q1a at hF
 refine go ?_
 refine cF hF (fun h18 hF=>?_) (fun h18 hF=>?_)
 refine go ?_
 refine WPU.block ?_
 obtain ⟨x19,h20,hF⟩:=q00 hF
 refine go ?_
 refine RS.q rfl (q2v rfl rfl (q94 (cI .i64) un33.h (q0i if3.h) (by decide) (q6o .i64) (vo rfl) h20)) ?_
 refine RS.q rfl (q5v (cI .i64) (fun x=>.i6 x) un3.h rfl (fun _=>rfl) rfl rfl h20) ?_
 obtain ⟨x21,h22,hF⟩:=q00 hF
 obtain ⟨r23,h24,hF⟩:=q00 hF
 obtain ⟨r26,h27,hF⟩:=q00 hF
 refine go ?_
 refine RS.ix h22 ?_
 refine go ?_
 refine z6t (R:=fun u σ'=>∃ t25:Nat→Nat,u = .fn (.func 113) [] [.iptr [.iM q08 r23]]∧σ'=⟨[(8,.row [.sl 7 0 ((r3.1.length:Int).toNat) ((r3.1.length:Int).toNat)] 24),(7,.row (List.map q02 l15).flatten 54),(6,.vec (List.map (cI .i64) r3.1).flatten 3 1 (t5 0)),(5,.row [.fn (.func 83) [] [.ptr 4 0 0,.ptr 3 0 0,.ptr 0 0 0,.ptr 5 0 0]] 115),(4,.row [.vl 6 (t5 0) 0 r3.1.length] 33),(3,.row [.map 2] 130),(2,.map (List.map (mE (fun x=>.i6 x) (fun x=>.i6 x)) r3.2.es) r3.2.cl),(1,.row [.nils] 24),(0,.row [.iM q02 p1.Nodes] 24)],9⟩) (args:=[.iM q08 x21.Arcs]) rfl (q3s rfl rfl fn85 hb85 rfl rfl) (EvU.st [] (q7r n x21.Arcs r23 h24 )) rfl rfl ?_
 rintro _ _ ⟨t25,rfl,rfl⟩
 refine z6t (R:=fun u σ'=>∃ t28:Nat→Nat,u = .vl 10 (t28 0) 0 r26.length∧σ'=⟨[(10,.vec (List.map q08 r26).flatten 66 2 (t28 0)),(8,.row [.sl 7 0 ((r3.1.length:Int).toNat) ((r3.1.length:Int).toNat)] 24),(7,.row (List.map q02 l15).flatten 54),(6,.vec (List.map (cI .i64) r3.1).flatten 3 1 (t5 0)),(5,.row [.fn (.func 83) [] [.ptr 4 0 0,.ptr 3 0 0,.ptr 0 0 0,.ptr 5 0 0]] 115),(4,.row [.vl 6 (t5 0) 0 r3.1.length] 33),(3,.row [.map 2] 130),(2,.map (List.map (mE (fun x=>.i6 x) (fun x=>.i6 x)) r3.2.es) r3.2.cl),(1,.row [.nils] 24),(0,.row [.iM q02 p1.Nodes] 24)],11⟩) (args:=[.fn (.func 113) [] [.iptr [.iM q08 r23]],.fn (.func 86) [] []]) rfl (q3s rfl rfl fn84 hb84 rfl rfl) (EvU.st [] (q5u n r23 r26 h27 )) rfl rfl ?_
 rintro _ _ ⟨t28,rfl,rfl⟩
 refine go ?_
 refine gS (l':=[(2,_),(4,_),(5,_),(8,_),(9,_),(10,_),(11,_),(22,_),(23,_),(24,_),(38,_),(39,_)]) ?_
 refine z6o (fun m tm σ=>∃ z42:Int,∃ l43:List q0f,q20 p1 r3 z14 l15 (q1a p1 n r3 m1) x19 r26 m z42 l43=some r∧tm=fr 68 [(2,.ptr 0 0 0),(4,.ptr 1 0 0),(5,.ptr 3 0 0),(8,.ptr 8 0 0),(9,.i6 z14),(10,.i6 x19),(11,.vl 10 (t28 0) 0 l43.length),(22,.vl 6 (t5 0) 0 r3.1.length),(23,.i6 (r3.1.length:Int)),(24,.i6 z14),(38,.i6 (r26.length:Int)),(39,.i6 z42)]∧σ=⟨[(10,.vec (List.map q08 l43).flatten 66 2 (t28 0)),(8,.row [.sl 7 0 ((r3.1.length:Int).toNat) ((r3.1.length:Int).toNat)] 24),(7,.row (List.map q02 l15).flatten 54),(6,.vec (List.map (cI .i64) r3.1).flatten 3 1 (t5 0)),(5,.row [.fn (.func 83) [] [.ptr 4 0 0,.ptr 3 0 0,.ptr 0 0 0,.ptr 5 0 0]] 115),(4,.row [.vl 6 (t5 0) 0 r3.1.length] 33),(3,.row [.map 2] 130),(2,.map (List.map (mE (fun x=>.i6 x) (fun x=>.i6 x)) r3.2.es) r3.2.cl),(1,.row [.nils] 24),(0,.row [.iM q02 p1.Nodes] 24)],11⟩) (fun tm σ=>∃ l44:List q0f,q3b p1 r3 z14 l15 (q1a p1 n r3 m1) x19 l44=some r∧tm=fr 68 [(2,.ptr 0 0 0),(4,.ptr 1 0 0),(5,.ptr 3 0 0),(8,.ptr 8 0 0),(9,.i6 z14),(10,.i6 x19),(11,.vl 10 (t28 0) 0 l44.length),(22,.vl 6 (t5 0) 0 r3.1.length),(23,.i6 (r3.1.length:Int)),(24,.i6 z14)]∧σ=⟨[(10,.vec (List.map q08 l44).flatten 66 2 (t28 0)),(8,.row [.sl 7 0 ((r3.1.length:Int).toNat) ((r3.1.length:Int).toNat)] 24),(7,.row (List.map q02 l15).flatten 54),(6,.vec (List.map (cI .i64) r3.1).flatten 3 1 (t5 0)),(5,.row [.fn (.func 83) [] [.ptr 4 0 0,.ptr 3 0 0,.ptr 0 0 0,.ptr 5 0 0]] 115),(4,.row [.vl 6 (t5 0) 0 r3.1.length] 33),(3,.row [.map 2] 130),(2,.map (List.map (mE (fun x=>.i6 x) (fun x=>.i6 x)) r3.2.es) r3.2.cl),(1,.row [.nils] 24),(0,.row [.iM q02 p1.Nodes] 24)],11⟩) n ⟨0,r26,hF,rfl,rfl⟩ ?_ ?_
 rintro _ _ ⟨l44,hF,rfl,rfl⟩
 unfold q3b at hF
 refine gn ?_
 refine WPU.ghost (tm':=fr 68 [(2,.ptr 0 0 0),(4,.ptr 1 0 0),(5,.ptr 3 0 0),(8,.ptr 8 0 0),(9,.i6 z14),(10,.i6 x19),(11,.iM q08 l44),(22,.vl 6 (t5 0) 0 r3.1.length),(23,.i6 (r3.1.length:Int)),(24,.i6 z14)]) (σ':=⟨[(8,.row [.sl 7 0 ((r3.1.length:Int).toNat) ((r3.1.length:Int).toNat)] 24),(7,.row (List.map q02 l15).flatten 54),(6,.vec (List.map (cI .i64) r3.1).flatten 3 1 (t5 0)),(5,.row [.fn (.func 83) [] [.ptr 4 0 0,.ptr 3 0 0,.ptr 0 0 0,.ptr 5 0 0]] 115),(4,.row [.vl 6 (t5 0) 0 r3.1.length] 33),(3,.row [.map 2] 130),(2,.map (List.map (mE (fun x=>.i6 x) (fun x=>.i6 x)) r3.2.es) r3.2.cl),(1,.row [.nils] 24),(0,.row [.iM q02 p1.Nodes] 24)],11⟩) (Gh.trans (Gh.sub (l':=[(2,.ptr 0 0 0),(4,.ptr 1 0 0),(5,.ptr 3 0 0),(8,.ptr 8 0 0),(9,.i6 z14),(10,.i6 x19),(11,.vl 10 (t28 0) 0 l44.length),(22,.vl 6 (t5 0) 0 r3.1.length),(23,.i6 (r3.1.length:Int)),(24,.i6 z14)]) ⟨rfl,rfl,rfl,rfl,rfl,rfl,rfl,rfl,rfl,rfl,trivial⟩) (Gh.fzS (l':=[(2,.ptr 0 0 0),(4,.ptr 1 0 0),(5,.ptr 3 0 0),(8,.ptr 8 0 0),(9,.i6 z14),(10,.i6 x19),(11,.iM q08 l44),(22,.vl 6 (t5 0) 0 r3.1.length),(23,.i6 (r3.1.length:Int)),(24,.i6 z14)]) (h':=[(8,.row [.sl 7 0 ((r3.1.length:Int).toNat) ((r3.1.length:Int).toNat)] 24),(7,.row (List.map q02 l15).flatten 54),(6,.vec (List.map (cI .i64) r3.1).flatten 3 1 (t5 0)),(5,.row [.fn (.func 83) [] [.ptr 4 0 0,.ptr 3 0 0,.ptr 0 0 0,.ptr 5 0 0]] 115),(4,.row [.vl 6 (t5 0) 0 r3.1.length] 33),(3,.row [.map 2] 130),(2,.map (List.map (mE (fun x=>.i6 x) (fun x=>.i6 x)) r3.2.es) r3.2.cl),(1,.row [.nils] 24),(0,.row [.iM q02 p1.Nodes] 24)]) 10 (.vec (List.map q08 l44).flatten 66 2 (t28 0)) 2 rfl (by simp) (by simp only [fzS,ql0,qbr,q67,qih,qf7,qij,qdf,qfa,qf9,qf8,qde,qii,qkw,qig,qik,qnv,qlb,z2s q17,q93 (show Nat.beq 0 10=false from rfl),q92 (show Nat.beq 0 10=false from rfl),q91 (show Nat.beq 0 10=false from rfl),q93 (show Nat.beq 1 10=false from rfl),q92 (show Nat.beq 1 10=false from rfl),q91 (show Nat.beq 1 10=false from rfl),q93 (show Nat.beq 2 10=false from rfl),q92 (show Nat.beq 2 10=false from rfl),q91 (show Nat.beq 2 10=false from rfl),q93 (show Nat.beq 3 10=false from rfl),q92 (show Nat.beq 3 10=false from rfl),q91 (show Nat.beq 3 10=false from rfl),q93 (show Nat.beq 4 10=false from rfl),q92 (show Nat.beq 4 10=false from rfl),q91 (show Nat.beq 4 10=false from rfl),q93 (show Nat.beq 5 10=false from rfl),q92 (show Nat.beq 5 10=false from rfl),q91 (show Nat.beq 5 10=false from rfl),q93 (show Nat.beq 6 10=false from rfl),q92 (show Nat.beq 6 10=false from rfl),q91 (show Nat.beq 6 10=false from rfl),q93 (show Nat.beq 7 10=false from rfl),q92 (show Nat.beq 7 10=false from rfl),q91 (show Nat.beq 7 10=false from rfl),q93 (show Nat.beq 8 10=false from rfl),q92 (show Nat.beq 8 10=false from rfl),q91 (show Nat.beq 8 10=false from rfl),q36 _ _ _ (q3a 10 (fun q=>qg4 _ q) l15),q36 _ _ _ (q3a 10 (fun q=>qct _ .i64 q) r3.1),z5v]) (by simp only [fzH,fzB,ug,Nat.beq,zC,zD,ql0,qbr,q67,qih,qf7,qij,qdf,qfa,qf9,qf8,qde,qii,qkw,qig,qik,qnv,qlb,z2s q17,q93 (show Nat.beq 0 10=false from rfl),q92 (show Nat.beq 0 10=false from rfl),q91 (show Nat.beq 0 10=false from rfl),q93 (show Nat.beq 1 10=false from rfl),q92 (show Nat.beq 1 10=false from rfl),q91 (show Nat.beq 1 10=false from rfl),q93 (show Nat.beq 2 10=false from rfl),q92 (show Nat.beq 2 10=false from rfl),q91 (show Nat.beq 2 10=false from rfl),q93 (show Nat.beq 3 10=false from rfl),q92 (show Nat.beq 3 10=false from rfl),q91 (show Nat.beq 3 10=false from rfl),q93 (show Nat.beq 4 10=false from rfl),q92 (show Nat.beq 4 10=false from rfl),q91 (show Nat.beq 4 10=false from rfl),q93 (show Nat.beq 5 10=false from rfl),q92 (show Nat.beq 5 10=false from rfl),q91 (show Nat.beq 5 10=false from rfl),q93 (show Nat.beq 6 10=false from rfl),q92 (show Nat.beq 6 10=false from rfl),q91 (show Nat.beq 6 10=false from rfl),q93 (show Nat.beq 7 10=false from rfl),q92 (show Nat.beq 7 10=false from rfl),q91 (show Nat.beq 7 10=false from rfl),q93 (show Nat.beq 8 10=false from rfl),q92 (show Nat.beq 8 10=false from rfl),q91 (show Nat.beq 8 10=false from rfl),q36 _ _ _ (q3a 10 (fun q=>qg4 _ q) l15),q36 _ _ _ (q3a 10 (fun q=>qct _ .i64 q) r3.1),z5v]))) NZ ?_
 obtain ⟨x45,h46,hF⟩:=q00 hF
 obtain ⟨x47,h48,hF⟩:=q00 hF
 refine go ?_
 refine z6q Tryz.tb_ok [] (by kernel_rfl) ?_
 refine gd ?_
 refine RD.ix h46 ?_
 refine gd ?_
 refine RD.q rfl (q2v rfl rfl (qfc un22.h (q0i if54.h) rfl h48)) (RD.actn (u:=.junk) (σ':=⟨[(8,.row [.sl 7 0 ((r3.1.length:Int).toNat) ((r3.1.length:Int).toNat)] 24),(7,.row (List.map q02 (l15.set z14.toNat (q0a.mk x45.Typex l44))).flatten 54),(6,.vec (List.map (cI .i64) r3.1).flatten 3 1 (t5 0)),(5,.row [.fn (.func 83) [] [.ptr 4 0 0,.ptr 3 0 0,.ptr 0 0 0,.ptr 5 0 0]] 115),(4,.row [.vl 6 (t5 0) 0 r3.1.length] 33),(3,.row [.map 2] 130),(2,.map (List.map (mE (fun x=>.i6 x) (fun x=>.i6 x)) r3.2.es) r3.2.cl),(1,.row [.nils] 24),(0,.row [.iM q02 p1.Nodes] 24)],11⟩) rfl (qso q02 (q0i if54.h) qga rfl rfl rfl rfl rfl rfl h48 rfl) rfl ?_)
 refine RD.done ⟨by kernel_rfl,trivial,?_⟩
 refine go ?_
 exact lC ⟨_,(l15.set z14.toNat (q0a.mk x45.Typex l44)),hF,rfl,rfl⟩
 rintro (_|m2) _ _ ⟨z42,l43,hF,rfl,rfl⟩
 cases hF
 unfold q20 at hF
 refine go ?_
 refine cF hF (fun h49 hF=>?_) (fun h49 hF=>?_)
 refine go ?_
 refine WPU.block ?_
 obtain ⟨x50,h51,hF⟩:=q00 hF
 obtain ⟨x52,h53,hF⟩:=q00 hF
 refine gr ?_
 refine z6p (fun tm σ=>tm=fr 68 [(2,.ptr 0 0 0),(4,.ptr 1 0 0),(5,.ptr 3 0 0),(8,.ptr 8 0 0),(9,.i6 z14),(10,.i6 x19),(11,.vl 10 (t28 0) 0 ((l43.set (0+z42.toNat) (q0f.mk x52.Feat ((qor (fun a b=>a == b) r3.2 x50.To).getD 0))).length)),(22,.vl 6 (t5 0) 0 r3.1.length),(23,.i6 (r3.1.length:Int)),(24,.i6 z14),(38,.i6 (r26.length:Int)),(39,.i6 z42)]∧σ=⟨[(10,.vec (List.map q08 (l43.set (0+z42.toNat) (q0f.mk x52.Feat ((qor (fun a b=>a == b) r3.2 x50.To).getD 0)))).flatten 66 2 (t28 0)),(8,.row [.sl 7 0 ((r3.1.length:Int).toNat) ((r3.1.length:Int).toNat)] 24),(7,.row (List.map q02 l15).flatten 54),(6,.vec (List.map (cI .i64) r3.1).flatten 3 1 (t5 0)),(5,.row [.fn (.func 83) [] [.ptr 4 0 0,.ptr 3 0 0,.ptr 0 0 0,.ptr 5 0 0]] 115),(4,.row [.vl 6 (t5 0) 0 r3.1.length] 33),(3,.row [.map 2] 130),(2,.map (List.map (mE (fun x=>.i6 x) (fun x=>.i6 x)) r3.2.es) r3.2.cl),(1,.row [.nils] 24),(0,.row [.iM q02 p1.Nodes] 24)],11⟩) ?_ ?_
 rintro _ _ ⟨rfl,rfl⟩
 refine go ?_
 exact lC ⟨_,(l43.set (0+z42.toNat) (q0f.mk x52.Feat ((qor (fun a b=>a == b) r3.2 x50.To).getD 0))),hF,rfl,rfl⟩
 refine z6q Tryz.tb_ok [] (by kernel_rfl) ?_
 refine gd ?_
 refine RD.q rfl (q2v rfl rfl (q94 q08 un52.h (q0i if66.h) (by decide) q17 (vo rfl) h51)) ?_
 refine RD.q rfl (qbu un66.h rfl (q0i if3.h) rfl (qmx rfl) rfl) (RD.q (u:=.i6 x50.To) rfl (qz7 q08 un3.h rfl q17 rfl rfl (qky h51) rfl) (RD.q (u:=.i6 ((qor (fun a b=>a == b) r3.2 x50.To).getD 0)) rfl (qzu (kU:=(fun x=>.i6 x)) (vU:=(fun x=>.i6 x)) (m:=r3.2) (k:=x50.To) (zv:=0) (qms un3.h) un130.h rfl rfl rfl if3.h rfl) ?_))
 refine RD.q rfl (q2v rfl rfl (q94 q08 un52.h (q0i if66.h) (by decide) q17 (vo rfl) h53)) ?_
 refine RD.q rfl (qbu un66.h rfl (q0i if3.h) rfl (qmx rfl) rfl) (RD.actn (u:=.junk) (σ':=⟨[(10,.vec (List.map q08 (l43.set (0+z42.toNat) (q0f.mk x52.Feat ((qor (fun a b=>a == b) r3.2 x50.To).getD 0)))).flatten 66 2 (t28 0)),(8,.row [.sl 7 0 ((r3.1.length:Int).toNat) ((r3.1.length:Int).toNat)] 24),(7,.row (List.map q02 l15).flatten 54),(6,.vec (List.map (cI .i64) r3.1).flatten 3 1 (t5 0)),(5,.row [.fn (.func 83) [] [.ptr 4 0 0,.ptr 3 0 0,.ptr 0 0 0,.ptr 5 0 0]] 115),(4,.row [.vl 6 (t5 0) 0 r3.1.length] 33),(3,.row [.map 2] 130),(2,.map (List.map (mE (fun x=>.i6 x) (fun x=>.i6 x)) r3.2.es) r3.2.cl),(1,.row [.nils] 24),(0,.row [.iM q02 p1.Nodes] 24)],11⟩) rfl (st_vf (y:=(q0f.mk x52.Feat ((qor (fun a b=>a == b) r3.2 x50.To).getD 0))) q08 (q0i if3.h) q17 rfl rfl rfl rfl rfl rfl (qky h53) rfl rfl) rfl ?_)
 refine RD.done ⟨by kernel_rfl,trivial,?_⟩
 refine go ?_
 exact ⟨_,_,⟨rfl,rfl⟩,NZ,z6s ⟨rfl,rfl,rfl,rfl,rfl,rfl,(by simp only [List.length_set]; rfl),rfl,rfl,rfl,rfl,rfl,trivial⟩ rfl⟩
 refine go ?_
 exact xC ⟨l43,hF,rfl,rfl⟩
 refine go ?_
 exact xC ⟨l15,hF,rfl,rfl⟩
def q83 (p1:GFS) (n:Nat)  : Option (GFS×Int) :=
 q03 (q3r n p1 0) fun r9 =>
 some (r9,0)
def q4c (p1:GFS) (n:Nat):Nat→Int→Option (GFS×Int)
 | 0,_=>none
 | m1+1,z8 =>
  cond (decide (z8<(p1.Nodes.length:Int)))
   (q03 (q0l p1.Nodes z8) fun x12 =>
   q03 (q4z n x12 (p1.Nodes.length:Int)) fun r14 =>
   cond (r14 != 0)
    (some ((GFS.mk []),r14))
    ((q4c p1 n m1) (IntKind.i64.wrap (z8+1))))
   (q83 p1 n)
def qam (n:Nat) (p1:GFS):Option (GFS×Int) :=
 cond ((p1.Nodes.length:Int) == 0)
  (some ((GFS.mk []),1))
  (cond (decide ((p1.Nodes.length:Int) > 4096))
   (some ((GFS.mk []),7))
   (q4c p1 n n 0))
theorem qpm (n:Nat) (p1:GFS) (r:GFS×Int) (hF:qam n p1=some r):EvU Tryz.prog 39 [.agg [.isl false (List.map q02 p1.Nodes)]] ⟨[],0⟩ (fun u _=>u = .tup [.agg [.isl false (List.map q02 r.1.Nodes)],.int .i64 r.2]∧Bel 0 u):=by
 unfold qam at hF
 refine bg1 36 fn39 ?_
 refine go ?_
 refine cF hF (fun h2 hF=>?_) (fun h2 hF=>?_)
 refine go ?_
 obtain rfl:=sI hF
 exact rT (us:=[.agg [.nils],.i6 1]) (u:=.tup [.agg [.isl false []],.i6 1]) (qd9 (q61 un24.h rfl (q0i if24.h) rfl rfl rfl) (q1y rfl (q1t))) wR
 refine go ?_
 refine cF hF (fun h3 hF=>?_) (fun h3 hF=>?_)
 refine go ?_
 obtain rfl:=sI hF
 exact rT (us:=[.agg [.nils],.i6 7]) (u:=.tup [.agg [.isl false []],.i6 7]) (qd9 (q61 un24.h rfl (q0i if24.h) rfl rfl rfl) (q1y rfl (q1t))) wR
 refine go ?_
 refine gS (l':=[(1,_),(2,_),(18,_),(19,_),(20,_)]) ?_
 refine z6o (fun m tm σ=>∃ z8:Int,q4c p1 n m z8=some r∧tm=fr 36 [(1,.ptr 0 0 0),(2,.ptr 1 0 0),(18,.iM q02 p1.Nodes),(19,.i6 (p1.Nodes.length:Int)),(20,.i6 z8)]∧σ=⟨[(1,.row [.nils] 24),(0,.row [.iM q02 p1.Nodes] 24)],2⟩) (fun tm σ=>q83 p1 n=some r∧tm=fr 36 [(1,.ptr 0 0 0),(2,.ptr 1 0 0)]∧σ=⟨[(1,.row [.nils] 24),(0,.row [.iM q02 p1.Nodes] 24)],2⟩) n ⟨0,hF,rfl,rfl⟩ ?_ ?_
 rintro _ _ ⟨hF,rfl,rfl⟩
 unfold q83 at hF
 obtain ⟨r9,h10,hF⟩:=q00 hF
 refine go ?_
 refine RS.cl rfl (pC (qcy n p1 0 r9 h10) _) fn65 ?_
 refine go ?_
 obtain rfl:=sI hF
 exact rT (qd9 (q61 un24.h rfl (q0i if24.h) rfl rfl rfl) (q1y rfl (q1t))) (z6y _ rfl)
 rintro (_|m1) _ _ ⟨z8,hF,rfl,rfl⟩
 cases hF
 unfold q4c at hF
 refine go ?_
 refine cF hF (fun h11 hF=>?_) (fun h11 hF=>?_)
 refine go ?_
 refine WPU.block ?_
 obtain ⟨x12,h13,hF⟩:=q00 hF
 refine go ?_
 refine RS.ix h13 ?_
 obtain ⟨r14,h15,hF⟩:=q00 hF
 refine go ?_
 refine RS.cl rfl (pC (qjy n x12 (p1.Nodes.length:Int) r14 h15) _) fn64 ?_
 refine go ?_
 refine cF hF (fun h16 hF=>?_) (fun h16 hF=>?_)
 refine go ?_
 obtain rfl:=sI hF
 exact rT (us:=[.agg [.nils],.i6 r14]) (u:=.tup [.agg [.isl false []],.i6 r14]) (qd9 (q61 un24.h rfl (q0i if24.h) rfl rfl rfl) (q1y rfl (q1t))) wR
 refine go ?_
 exact lC ⟨_,hF,rfl,rfl⟩
 refine go ?_
 exact xC ⟨hF,rfl,rfl⟩
def q3m (p1:Int) (p2:Nat) (p4:Nat) (l21:List Bool) (l22:List Bool):Option (Bool×(List Bool)×(List Bool)) :=
 q03 (qjz l21 0 p2 p1) fun x23 =>
 q03 (qjz l22 0 p4 p1) fun x25 =>
 some (false,(l21.set p1.toNat false),(l22.set p1.toNat true))
def q23 (p1:Int) (p2:Nat) (p3:List q0a) (p4:Nat) (x9:q0a) (self:Int→Nat→(List q0a)→Nat→(List Bool)→(List Bool)→Option (Bool×(List Bool)×(List Bool))):Nat→Int→(List Bool)→(List Bool)→Option (Bool×(List Bool)×(List Bool))
 | 0,_,_,_=>none
 | m1+1,z18,l19,l20 =>
  cond (decide (z18<(x9.Arcs.length:Int)))
   (q03 (q0l x9.Arcs z18) fun x28 =>
   q03 (q03 (qjz l19 0 p2 x28.To) fun x30 =>
   cond x30
    (some (true,l19,l20))
    (q03 (qjz l20 0 p4 x28.To) fun x33 =>
    cond (!x33)
     (q03 (self x28.To p2 p3 p4 l19 l20) fun r36 =>
     some (r36.1,r36.2.1,r36.2.2))
     (some (false,l19,l20)))) fun j43 =>
   cond j43.1
    (some (true,j43.2.1,j43.2.2))
    ((q23 p1 p2 p3 p4 x9 self m1) (IntKind.i64.wrap (z18+1)) j43.2.1 j43.2.2))
   (q3m p1 p2 p4 l19 l20)
def q40 (n:Nat) (self:Int→Nat→(List q0a)→Nat→(List Bool)→(List Bool)→Option (Bool×(List Bool)×(List Bool))) (p1:Int) (p2:Nat) (p3:List q0a) (p4:Nat) (p5:List Bool) (p6:List Bool):Option (Bool×(List Bool)×(List Bool)) :=
 q03 (qjz p5 0 p2 p1) fun x7 =>
 q03 (q0l p3 p1) fun x9 =>
 q23 p1 p2 p3 p4 x9 self n 0 (p5.set p1.toNat true) p6
def q1v:Nat→Int→Nat→(List q0a)→Nat→(List Bool)→(List Bool)→Option (Bool×(List Bool)×(List Bool))
 | 0,_,_,_,_,_,_=>none
 | n+1,p1,p2,p3,p4,p5,p6=>q40 n (q1v n) p1 p2 p3 p4 p5 p6
theorem qan:∀ (n:Nat) (p1:Int) (p2:Nat) (p3:List q0a) (p4:Nat) (p5:List Bool) (p6:List Bool) (r:Bool×(List Bool)×(List Bool)),q1v n p1 p2 p3 p4 p5 p6=some r→EvU Tryz.prog 66 [.int .i64 p1,.ptr 0 0 0,.ptr 1 0 0,.ptr 2 0 0,.ptr 3 0 0] ⟨[(0,.row [.sl 4 0 p2 p2] 75),(1,.row [.isl false (List.map q02 p3)] 24),(2,.row [.sl 5 0 p4 p4] 75),(3,.row [.fn (.func 66) [] [.ptr 0 0 0,.ptr 1 0 0,.ptr 2 0 0,.ptr 3 0 0]] 92),(4,.row (List.map cB p5).flatten 4),(5,.row (List.map cB p6).flatten 4)],6⟩ (fun u σ'=>∃ t:Nat→Nat,u = .bool r.1∧σ'=⟨[(0,.row [.sl 4 0 p2 p2] 75),(1,.row [.isl false (List.map q02 p3)] 24),(2,.row [.sl 5 0 p4 p4] 75),(3,.row [.fn (.func 66) [] [.ptr 0 0 0,.ptr 1 0 0,.ptr 2 0 0,.ptr 3 0 0]] 92),(4,.row (List.map cB r.2.1).flatten 4),(5,.row (List.map cB r.2.2).flatten 4)],6⟩)
 | 0,p1,p2,p3,p4,p5,p6,r,hF=>by cases hF
 | n+1,p1,p2,p3,p4,p5,p6,r,hF=>by
  have ih:=qan n
  unfold q1v q40 at hF
  refine bg5 49 fn66 ?_
  obtain ⟨x7,h8,hF⟩:=q00 hF
  refine go ?_
  refine RS.q rfl (q2v rfl rfl (qfc un75.h (q0i if4.h) rfl h8)) (z7f (u:=.junk) (σ':=⟨[(0,.row [.sl 4 0 p2 p2] 75),(1,.row [.iM q02 p3] 24),(2,.row [.sl 5 0 p4 p4] 75),(3,.row [.fn (.func 66) [] [.ptr 0 0 0,.ptr 1 0 0,.ptr 2 0 0,.ptr 3 0 0]] 92),(4,.row (List.map cB (p5.set p1.toNat true)).flatten 4),(5,.row (List.map cB p6).flatten 4)],6⟩) rfl (qso cB (q0i if4.h) qrn rfl rfl rfl rfl rfl rfl h8 rfl) rfl ?_)
  obtain ⟨x9,h10,hF⟩:=q00 hF
  refine go ?_
  refine RS.ix h10 ?_
  refine go ?_
  refine gS (l':=[(0,_),(1,_),(3,_),(4,_),(17,_),(18,_),(19,_)]) ?_
  refine z6o (fun m tm σ=>∃ z18:Int,∃ l19:List Bool,∃ l20:List Bool,q23 p1 p2 p3 p4 x9 (q1v n) m z18 l19 l20=some r∧tm=fr 49 [(0,.i6 p1),(1,.ptr 0 0 0),(3,.ptr 2 0 0),(4,.ptr 3 0 0),(17,.iM q08 x9.Arcs),(18,.i6 (x9.Arcs.length:Int)),(19,.i6 z18)]∧σ=⟨[(0,.row [.sl 4 0 p2 p2] 75),(1,.row [.iM q02 p3] 24),(2,.row [.sl 5 0 p4 p4] 75),(3,.row [.fn (.func 66) [] [.ptr 0 0 0,.ptr 1 0 0,.ptr 2 0 0,.ptr 3 0 0]] 92),(4,.row (List.map cB l19).flatten 4),(5,.row (List.map cB l20).flatten 4)],6⟩) (fun tm σ=>∃ l21:List Bool,∃ l22:List Bool,q3m p1 p2 p4 l21 l22=some r∧tm=fr 49 [(0,.i6 p1),(1,.ptr 0 0 0),(3,.ptr 2 0 0)]∧σ=⟨[(0,.row [.sl 4 0 p2 p2] 75),(1,.row [.iM q02 p3] 24),(2,.row [.sl 5 0 p4 p4] 75),(3,.row [.fn (.func 66) [] [.ptr 0 0 0,.ptr 1 0 0,.ptr 2 0 0,.ptr 3 0 0]] 92),(4,.row (List.map cB l21).flatten 4),(5,.row (List.map cB l22).flatten 4)],6⟩) n ⟨0,(p5.set p1.toNat true),p6,hF,rfl,rfl⟩ ?_ ?_
  rintro _ _ ⟨l21,l22,hF,rfl,rfl⟩
  unfold q3m at hF
  obtain ⟨x23,h24,hF⟩:=q00 hF
  obtain ⟨x25,h26,hF⟩:=q00 hF
  refine go ?_
  refine z6q Tryz.tb_ok [(2,5),(3,5)] (by kernel_rfl) ?_
  refine gd ?_
  refine RD.q rfl (q2v rfl rfl (qfc un75.h (q0i if4.h) rfl h24)) (RD.actn (u:=.junk) (σ':=⟨[(0,.row [.sl 4 0 p2 p2] 75),(1,.row [.iM q02 p3] 24),(2,.row [.sl 5 0 p4 p4] 75),(3,.row [.fn (.func 66) [] [.ptr 0 0 0,.ptr 1 0 0,.ptr 2 0 0,.ptr 3 0 0]] 92),(4,.row (List.map cB (l21.set p1.toNat false)).flatten 4),(5,.row (List.map cB l22).flatten 4)],6⟩) rfl (qso cB (q0i if4.h) qrn rfl rfl rfl rfl rfl rfl h24 rfl) rfl (RD.q rfl (q2v rfl rfl (qfc un75.h (q0i if4.h) rfl h26)) (RD.actn (u:=.junk) (σ':=⟨[(0,.row [.sl 4 0 p2 p2] 75),(1,.row [.iM q02 p3] 24),(2,.row [.sl 5 0 p4 p4] 75),(3,.row [.fn (.func 66) [] [.ptr 0 0 0,.ptr 1 0 0,.ptr 2 0 0,.ptr 3 0 0]] 92),(4,.row (List.map cB (l21.set p1.toNat false)).flatten 4),(5,.row (List.map cB (l22.set p1.toNat true)).flatten 4)],6⟩) rfl (qso cB (q0i if4.h) qrn rfl rfl rfl rfl rfl rfl h26 rfl) rfl ?_)))
  refine RD.done ⟨by kernel_rfl,⟨qaq un75.h rfl rfl rfl rfl,⟨q3h rfl,trivial⟩⟩,?_⟩
  refine go ?_
  obtain rfl:=sI hF
  exact ⟨.inr rfl,[.bool false],q1y rfl (q1t),.bool false,⟨[(0,.row [.sl 4 0 p2 p2] 75),(1,.row [.iM q02 p3] 24),(2,.row [.sl 5 0 p4 p4] 75),(3,.row [.fn (.func 66) [] [.ptr 0 0 0,.ptr 1 0 0,.ptr 2 0 0,.ptr 3 0 0]] 92),(4,.row (List.map cB (l21.set p1.toNat false)).flatten 4),(5,.row (List.map cB (l22.set p1.toNat true)).flatten 4)],6⟩,NL,z7b (n1:=6) [] rfl rfl NL NL BUL.h BH.h,stF [],rfl,rfl⟩
  rintro (_|m1) _ _ ⟨z18,l19,l20,hF,rfl,rfl⟩
  cases hF
  unfold q23 at hF
  refine go ?_
  refine cF hF (fun h27 hF=>?_) (fun h27 hF=>?_)
  refine go ?_
  refine WPU.block ?_
  obtain ⟨x28,h29,hF⟩:=q00 hF
  refine go ?_
  refine RS.ix h29 ?_
  obtain ⟨j43,h42,hF⟩:=q00 hF
  refine gn ?_
  refine z6p (fun tm σ=>tm=fr 49 [(0,.i6 p1),(1,.ptr 0 0 0),(3,.ptr 2 0 0),(4,.ptr 3 0 0),(17,.iM q08 x9.Arcs),(18,.i6 (x9.Arcs.length:Int)),(19,.i6 z18),(41,.bool j43.1)]∧σ=⟨[(6,.row (q08 x28) 66),(0,.row [.sl 4 0 p2 p2] 75),(1,.row [.iM q02 p3] 24),(2,.row [.sl 5 0 p4 p4] 75),(3,.row [.fn (.func 66) [] [.ptr 0 0 0,.ptr 1 0 0,.ptr 2 0 0,.ptr 3 0 0]] 92),(4,.row (List.map cB j43.2.1).flatten 4),(5,.row (List.map cB j43.2.2).flatten 4)],7⟩) ?_ ?_
  rintro _ _ ⟨rfl,rfl⟩
  refine go ?_
  refine cF hF (fun h44 hF=>?_) (fun h44 hF=>?_)
  refine go ?_
  obtain rfl:=sI hF
  exact ⟨.inr rfl,[.bool true],q1y rfl (q1t),.bool true,⟨[(0,.row [.sl 4 0 p2 p2] 75),(1,.row [.iM q02 p3] 24),(2,.row [.sl 5 0 p4 p4] 75),(3,.row [.fn (.func 66) [] [.ptr 0 0 0,.ptr 1 0 0,.ptr 2 0 0,.ptr 3 0 0]] 92),(4,.row (List.map cB j43.2.1).flatten 4),(5,.row (List.map cB j43.2.2).flatten 4)],6⟩,NL,z7b (n1:=6) [] rfl rfl NL NL BUL.h BH.h,stF [],rfl,rfl⟩
  refine go ?_
  exact lC ⟨_,j43.2.1,j43.2.2,hF,rfl,rfl⟩
  obtain ⟨x30,h31,h42⟩:=q00 h42
  rcases gB h42 with ⟨h32,h42⟩ | ⟨h32,h42⟩
  obtain rfl:=sI h42
  refine go ?_
  refine RS.q rfl (q2v rfl rfl (qfc un75.h (q0i if4.h) rfl h31)) (RS.q (u:=.bool x30) rfl (qit cB (fun x=>.bool x) un4.h rfl (fun _=>rfl) rfl rfl h31) ?_)
  refine go ?_
  repeat refine RS.no (qlj rfl rfl rfl) rfl rfl ?_
  refine go ?_
  exact xC ⟨rfl,rfl⟩
  obtain ⟨x33,h34,h42⟩:=q00 h42
  rcases gB h42 with ⟨h35,h42⟩ | ⟨h35,h42⟩
  obtain ⟨r36,h37,h42⟩:=q00 h42
  obtain rfl:=sI h42
  refine go ?_
  refine RS.q rfl (q2v rfl rfl (qfc un75.h (q0i if4.h) rfl h31)) (RS.q (u:=.bool x30) rfl (qit cB (fun x=>.bool x) un4.h rfl (fun _=>rfl) rfl rfl h31) ?_)
  refine go ?_
  refine RS.w rfl (q2v rfl rfl (qfc un75.h (q0i if4.h) rfl h34)) (RS.w (u:=.bool x33) rfl (qit cB (fun x=>.bool x) un4.h rfl (fun _=>rfl) rfl rfl h34) ?_)
  refine go ?_
  refine z6t (R:=fun u σ'=>∃ t38:Nat→Nat,u = .bool r36.1∧σ'=⟨[(6,.row (q08 x28) 66),(0,.row [.sl 4 0 p2 p2] 75),(1,.row [.iM q02 p3] 24),(2,.row [.sl 5 0 p4 p4] 75),(3,.row [.fn (.func 66) [] [.ptr 0 0 0,.ptr 1 0 0,.ptr 2 0 0,.ptr 3 0 0]] 92),(4,.row (List.map cB r36.2.1).flatten 4),(5,.row (List.map cB r36.2.2).flatten 4)],7⟩) (args:=[.i6 x28.To,.ptr 0 0 0,.ptr 1 0 0,.ptr 2 0 0,.ptr 3 0 0]) (z1a rfl rfl rfl h35) (q3s rfl rfl fn66 hb66 rfl (rfl)) (EvU.st [0,1,2,3,4,5] (ih x28.To p2 p3 p4 l19 l20 r36 h37 )) rfl rfl ?_
  rintro _ _ ⟨t38,rfl,rfl⟩
  refine go ?_
  exact xC ⟨rfl,rfl⟩
  obtain rfl:=sI h42
  refine go ?_
  refine RS.q rfl (q2v rfl rfl (qfc un75.h (q0i if4.h) rfl h31)) (RS.q (u:=.bool x30) rfl (qit cB (fun x=>.bool x) un4.h rfl (fun _=>rfl) rfl rfl h31) ?_)
  refine go ?_
  refine RS.w rfl (q2v rfl rfl (qfc un75.h (q0i if4.h) rfl h34)) (RS.w (u:=.bool x33) rfl (qit cB (fun x=>.bool x) un4.h rfl (fun _=>rfl) rfl rfl h34) ?_)
  refine go ?_
  exact xC ⟨rfl,rfl⟩
  refine go ?_
  exact xC ⟨l19,l20,hF,rfl,rfl⟩
def q70  (l12:List Bool) (l13:List Bool):Option (Bool) :=
 some false
def q3q (p1:GFS) (n:Nat):Nat→Int→(List Bool)→(List Bool)→Option (Bool)
 | 0,_,_,_=>none
 | m1+1,z9,l10,l11 =>
  cond (decide (z9<(p1.Nodes.length:Int)))
   (q03 (q03 (qjz l10 0 ((p1.Nodes.length:Int).toNat) z9) fun x15 =>
   cond (!x15)
    (q03 (q1v n z9 ((p1.Nodes.length:Int).toNat) p1.Nodes ((p1.Nodes.length:Int).toNat) l11 l10) fun r18 =>
    some (r18.1,r18.2.2,r18.2.1))
    (some (false,l10,l11))) fun j25 =>
   cond j25.1
    (some true)
    ((q3q p1 n m1) (IntKind.i64.wrap (z9+1)) j25.2.1 j25.2.2))
   (q70 l10 l11)
def q6m (n:Nat) (p1:GFS):Option (Bool) :=
 q0w (0≤(p1.Nodes.length:Int)∧1*(p1.Nodes.length:Int).toNat≤281474976710656∧(p1.Nodes.length:Int)≤281474976710656) (
 q0w (0≤(p1.Nodes.length:Int)∧1*(p1.Nodes.length:Int).toNat≤281474976710656∧(p1.Nodes.length:Int)≤281474976710656) (
 q3q p1 n n 0 (List.replicate (p1.Nodes.length:Int).toNat false) (List.replicate (p1.Nodes.length:Int).toNat false)))
theorem q4d (n:Nat) (p1:GFS) (r:Bool) (hF:q6m n p1=some r):EvU Tryz.prog 40 [.agg [.isl false (List.map q02 p1.Nodes)]] ⟨[],0⟩ (fun u _=>u = .bool r∧Bel 0 u):=by
 unfold q6m at hF
 refine bg1 33 fn40 ?_
 obtain ⟨h2,hF⟩:=q06 hF
 obtain ⟨h3,hF⟩:=q06 hF
 refine go ?_
 refine WPU.drawQ Tryz.tb_ok [(3,some ((p1.Nodes.length:Int).toNat),(List.map cB (List.replicate (p1.Nodes.length:Int).toNat false)).flatten,4),(7,some ((p1.Nodes.length:Int).toNat),(List.map cB (List.replicate (p1.Nodes.length:Int).toNat false)).flatten,4),(8,none,[.nils],75),(9,none,[.nils],75)] [(4,10),(5,10),(6,10)] (nb:=1) (σe:=⟨[(0,.row [.iM q02 p1.Nodes] 24)],5⟩) (σ1:=⟨[(4,.row [.nils] 75),(3,.row [.nils] 75),(2,.row (List.map cB (List.replicate (p1.Nodes.length:Int).toNat false)).flatten 4),(1,.row (List.map cB (List.replicate (p1.Nodes.length:Int).toNat false)).flatten 4),(0,.row [.iM q02 p1.Nodes] 24)],5⟩) (q:=[⟨3,1,some ((p1.Nodes.length:Int).toNat),(List.map cB (List.replicate (p1.Nodes.length:Int).toNat false)).flatten,4⟩,⟨7,2,some ((p1.Nodes.length:Int).toNat),(List.map cB (List.replicate (p1.Nodes.length:Int).toNat false)).flatten,4⟩,⟨8,3,none,[.nils],75⟩,⟨9,4,none,[.nils],75⟩]) (by kernel_rfl) (List.cons_ne_nil _ _) ⟨(q3a 0 (fun q=>qqz _ q) (List.replicate (p1.Nodes.length:Int).toNat false)),(q3a 0 (fun q=>qqz _ q) (List.replicate (p1.Nodes.length:Int).toNat false)),BUL.h,BUL.h,trivial⟩ rfl rfl rfl rfl ?_
 refine RQ.early (u:=.ptr 0 0 0) rfl (qbu un24.h rfl (q0i if22.h) rfl rfl rfl) (qbu un24.h rfl (q0i if22.h) rfl rfl rfl) rfl BU.h rfl rfl ?_
 refine RQ.early (u:=.iM q02 p1.Nodes) rfl (qaq un22.h rfl rfl rfl rfl) (qaq un22.h rfl rfl rfl rfl) rfl BU.h rfl rfl ?_
 refine RQ.early (u:=.i6 (p1.Nodes.length:Int)) rfl (qar rfl rfl rfl (qk0 q02 un22.h)) (qar rfl rfl rfl (qk0 q02 un22.h)) rfl BU.h rfl rfl ?_
 refine RQ.alloc rfl (fun s=>qow cB false rfl rfl un75.h if4.h rfl rfl rfl rfl h2) rfl rfl rfl ?_
 refine RQ.early (u:=.ptr 0 0 0) rfl (qbu un24.h rfl (q0i if22.h) rfl rfl rfl) (qbu un24.h rfl (q0i if22.h) rfl rfl rfl) rfl BU.h rfl rfl ?_
 refine RQ.early (u:=.iM q02 p1.Nodes) rfl (qaq un22.h rfl rfl rfl rfl) (qaq un22.h rfl rfl rfl rfl) rfl BU.h rfl rfl ?_
 refine RQ.early (u:=.i6 (p1.Nodes.length:Int)) rfl (qar rfl rfl rfl (qk0 q02 un22.h)) (qar rfl rfl rfl (qk0 q02 un22.h)) rfl BU.h rfl rfl ?_
 refine RQ.alloc rfl (fun s=>qow cB false rfl rfl un75.h if4.h rfl rfl rfl rfl h3) rfl rfl rfl ?_
 refine RQ.alloc rfl (fun s=>qpx if75.h rfl rfl) rfl rfl rfl ?_
 refine RQ.alloc rfl (fun s=>qpx if75.h rfl rfl) rfl rfl rfl ?_
 refine RQ.loc (mk:=783) (σ':=⟨[(4,.row [.nils] 75),(3,.row [.sl 1 0 ((p1.Nodes.length:Int).toNat) ((p1.Nodes.length:Int).toNat)] 75),(2,.row (List.map cB (List.replicate (p1.Nodes.length:Int).toNat false)).flatten 4),(1,.row (List.map cB (List.replicate (p1.Nodes.length:Int).toNat false)).flatten 4),(0,.row [.iM q02 p1.Nodes] 24)],5⟩) rfl (z0p (q0i if75.h) rfl rfl rfl rfl rfl rfl) (by kernel_rfl) rfl rfl rfl rfl ⟨.inl (show Nat.testBit 783 3=true by decide),⟨.inr ⟨show (2:Nat)≠3 by decide,BUL.h⟩,⟨.inl (show Nat.testBit 783 8=true by decide),⟨.inl (show Nat.testBit 783 9=true by decide),trivial⟩⟩⟩⟩ ?_
 refine RQ.actn (u:=.junk) (σ':=⟨[(4,.row [.sl 2 0 ((p1.Nodes.length:Int).toNat) ((p1.Nodes.length:Int).toNat)] 75),(3,.row [.sl 1 0 ((p1.Nodes.length:Int).toNat) ((p1.Nodes.length:Int).toNat)] 75),(2,.row (List.map cB (List.replicate (p1.Nodes.length:Int).toNat false)).flatten 4),(1,.row (List.map cB (List.replicate (p1.Nodes.length:Int).toNat false)).flatten 4),(0,.row [.iM q02 p1.Nodes] 24)],5⟩) rfl (qpz (q0i if75.h) rfl rfl rfl rfl rfl rfl rfl rfl) rfl ?_
 refine RQ.done ⟨by kernel_rfl,by kernel_rfl,⟨qbu un24.h rfl (q0i if22.h) rfl rfl rfl,⟨qaq un22.h rfl rfl rfl rfl,⟨qar rfl rfl rfl (qk0 q02 un22.h),trivial⟩⟩⟩,?_⟩
 refine go ?_
 refine RS.q rfl (qvb rfl rfl) ?_
 refine go ?_
 refine gS (l':=[(4,_),(5,_),(18,_),(19,_)]) ?_
 refine z6o (fun m tm σ=>∃ z9:Int,∃ l10:List Bool,∃ l11:List Bool,q3q p1 n m z9 l10 l11=some r∧tm=fr 33 [(4,.ptr 4 0 0),(5,.ptr 5 0 0),(18,.i6 (p1.Nodes.length:Int)),(19,.i6 z9)]∧σ=⟨[(5,.row [.fn (.func 66) [] [.ptr 3 0 0,.ptr 0 0 0,.ptr 4 0 0,.ptr 5 0 0]] 92),(4,.row [.sl 2 0 ((p1.Nodes.length:Int).toNat) ((p1.Nodes.length:Int).toNat)] 75),(3,.row [.sl 1 0 ((p1.Nodes.length:Int).toNat) ((p1.Nodes.length:Int).toNat)] 75),(2,.row (List.map cB l10).flatten 4),(1,.row (List.map cB l11).flatten 4),(0,.row [.iM q02 p1.Nodes] 24)],6⟩) (fun tm σ=>∃ l12:List Bool,∃ l13:List Bool,q70 l12 l13=some r∧tm=fr 33 []∧σ=⟨[(5,.row [.fn (.func 66) [] [.ptr 3 0 0,.ptr 0 0 0,.ptr 4 0 0,.ptr 5 0 0]] 92),(4,.row [.sl 2 0 ((p1.Nodes.length:Int).toNat) ((p1.Nodes.length:Int).toNat)] 75),(3,.row [.sl 1 0 ((p1.Nodes.length:Int).toNat) ((p1.Nodes.length:Int).toNat)] 75),(2,.row (List.map cB l12).flatten 4),(1,.row (List.map cB l13).flatten 4),(0,.row [.iM q02 p1.Nodes] 24)],6⟩) n ⟨0,(List.replicate (p1.Nodes.length:Int).toNat false),(List.replicate (p1.Nodes.length:Int).toNat false),hF,rfl,rfl⟩ ?_ ?_
 rintro _ _ ⟨l12,l13,hF,rfl,rfl⟩
 unfold q70 at hF
 exact gx hF
 rintro (_|m1) _ _ ⟨z9,l10,l11,hF,rfl,rfl⟩
 cases hF
 unfold q3q at hF
 refine go ?_
 refine cF hF (fun h14 hF=>?_) (fun h14 hF=>?_)
 refine go ?_
 refine WPU.block ?_
 obtain ⟨j25,h24,hF⟩:=q00 hF
 refine gr ?_
 refine z6p (fun tm σ=>tm=fr 33 [(4,.ptr 4 0 0),(5,.ptr 5 0 0),(18,.i6 (p1.Nodes.length:Int)),(19,.i6 z9),(31,.bool j25.1)]∧σ=⟨[(5,.row [.fn (.func 66) [] [.ptr 3 0 0,.ptr 0 0 0,.ptr 4 0 0,.ptr 5 0 0]] 92),(4,.row [.sl 2 0 ((p1.Nodes.length:Int).toNat) ((p1.Nodes.length:Int).toNat)] 75),(3,.row [.sl 1 0 ((p1.Nodes.length:Int).toNat) ((p1.Nodes.length:Int).toNat)] 75),(2,.row (List.map cB j25.2.1).flatten 4),(1,.row (List.map cB j25.2.2).flatten 4),(0,.row [.iM q02 p1.Nodes] 24)],6⟩) ?_ ?_
 rintro _ _ ⟨rfl,rfl⟩
 refine go ?_
 refine cF hF (fun h26 hF=>?_) (fun h26 hF=>?_)
 exact gx hF
 refine go ?_
 exact lC ⟨_,j25.2.1,j25.2.2,hF,rfl,rfl⟩
 obtain ⟨x15,h16,h24⟩:=q00 h24
 rcases gB h24 with ⟨h17,h24⟩ | ⟨h17,h24⟩
 obtain ⟨r18,h19,h24⟩:=q00 h24
 obtain rfl:=sI h24
 refine go ?_
 refine RS.q rfl (q2v rfl rfl (qfc un75.h (q0i if4.h) rfl h16)) (RS.q (u:=.bool x15) rfl (qit cB (fun x=>.bool x) un4.h rfl (fun _=>rfl) rfl rfl h16) ?_)
 refine go ?_
 refine z6t (R:=fun u σ'=>∃ t20:Nat→Nat,u = .bool r18.1∧σ'=⟨[(5,.row [.fn (.func 66) [] [.ptr 3 0 0,.ptr 0 0 0,.ptr 4 0 0,.ptr 5 0 0]] 92),(4,.row [.sl 2 0 ((p1.Nodes.length:Int).toNat) ((p1.Nodes.length:Int).toNat)] 75),(3,.row [.sl 1 0 ((p1.Nodes.length:Int).toNat) ((p1.Nodes.length:Int).toNat)] 75),(2,.row (List.map cB r18.2.2).flatten 4),(1,.row (List.map cB r18.2.1).flatten 4),(0,.row [.iM q02 p1.Nodes] 24)],6⟩) (args:=[.i6 z9,.ptr 3 0 0,.ptr 0 0 0,.ptr 4 0 0,.ptr 5 0 0]) (z1a rfl rfl rfl h17) (q3s rfl rfl fn66 hb66 rfl (rfl)) (EvU.st [3,0,4,5,1,2] (qan n z9 ((p1.Nodes.length:Int).toNat) p1.Nodes ((p1.Nodes.length:Int).toNat) l11 l10 r18 h19 )) rfl rfl ?_
 rintro _ _ ⟨t20,rfl,rfl⟩
 refine go ?_
 exact xC ⟨rfl,rfl⟩
 obtain rfl:=sI h24
 refine go ?_
 refine RS.q rfl (q2v rfl rfl (qfc un75.h (q0i if4.h) rfl h16)) (RS.q (u:=.bool x15) rfl (qit cB (fun x=>.bool x) un4.h rfl (fun _=>rfl) rfl rfl h16) ?_)
 refine go ?_
 exact xC ⟨rfl,rfl⟩
 refine go ?_
 exact xC ⟨l10,l11,hF,rfl,rfl⟩
def qil (n:Nat) (p1:GFS) (p2:Int):Option (GFS) :=
 q03 (q3r n p1 p2) fun r3 =>
 some r3
theorem qta (n:Nat) (p1:GFS) (p2:Int) (r:GFS) (hF:qil n p1 p2=some r):EvU Tryz.prog 62 [.agg [.isl false (List.map q02 p1.Nodes)],.int .i64 p2] ⟨[],0⟩ (fun u _=>u = .agg [.isl false (List.map q02 r.Nodes)]∧Bel 0 u):=by
 unfold qil at hF
 refine bg2 8 fn62 ?_
 obtain ⟨r3,h4,hF⟩:=q00 hF
 refine go ?_
 refine RS.cl rfl (pC (qcy n p1 p2 r3 h4) _) fn65 ?_
 refine go ?_
 obtain rfl:=sI hF
 exact rT (qd9 (q61 un24.h rfl (q0i if24.h) rfl rfl rfl) (q1t)) (z6y _ rfl)
def qac (z6:Int) (rc1:Int→Option (Int))  : Option (Int) :=
 rc1 (IntKind.i64.wrap (z6+1))
def q5q (p1:List q0f) (z6:Int) (rc1:Int→Option (Int)):Nat→Int→Option (Int)
 | 0,_=>none
 | m2+1,z23 =>
  cond (decide (z23<z6))
   (q03 (q0l p1 z23) fun x25 =>
   q03 (q0l p1 z6) fun x27 =>
   cond (x25.Feat == x27.Feat)
    (some 4)
    ((q5q p1 z6 rc1 m2) (IntKind.i64.wrap (z23+1))))
   (qac z6 rc1)
def qab   : Option (Int) :=
 some 0
def q2q (p1:List q0f) (p2:Int) (n:Nat):Nat→Int→Option (Int)
 | 0,_=>none
 | m1+1,z6 =>
  cond (decide (z6<(p1.length:Int)))
   (q03 (q03 (q0l p1 z6) fun x8 =>
   cond (decide (x8.Feat<0))
    (some true)
    (q03 (q0l p1 z6) fun x11 =>
    cond (decide (x11.To<0))
     (some true)
     (q03 (q0l p1 z6) fun x14 =>
     some (decide (x14.To ≥ p2))))) fun b16 =>
   cond b16
    (some 2)
    (q5q p1 z6 (q2q p1 p2 n m1) n 0))
   (qab)
def qgh (n:Nat) (p1:List q0f) (p2:Int):Option (Int) :=
 q2q p1 p2 n n 0
theorem qsb (n:Nat) (p1:List q0f) (p2:Int) (r:Int) (hF:qgh n p1 p2=some r):EvU Tryz.prog 87 [.isl false (List.map q08 p1),.int .i64 p2] ⟨[],0⟩ (fun u _=>u = .int .i64 r∧Bel 0 u):=by
 unfold qgh at hF
 refine bg2 52 fn87 ?_
 refine go ?_
 refine gS (l':=[(0,_),(1,_),(5,_)]) ?_
 refine z6o (fun m tm σ=>∃ z6:Int,q2q p1 p2 n m z6=some r∧tm=fr 52 [(0,.iM q08 p1),(1,.i6 p2),(5,.i6 z6)]∧σ=⟨[],0⟩) (fun tm σ=>qab=some r∧tm=fr 52 []∧σ=⟨[],0⟩) n ⟨0,hF,rfl,rfl⟩ ?_ ?_
 rintro _ _ ⟨hF,rfl,rfl⟩
 unfold qab at hF
 exact gx hF
 rintro (_|m1) _ _ ⟨z6,hF,rfl,rfl⟩
 cases hF
 unfold q2q at hF
 refine go ?_
 refine cF hF (fun h7 hF=>?_) (fun h7 hF=>?_)
 refine go ?_
 refine WPU.block ?_
 obtain ⟨b16,h17,hF⟩:=q00 hF
 refine gn ?_
 refine z6p (fun tm σ=>tm=fr 52 [(0,.iM q08 p1),(1,.i6 p2),(5,.i6 z6),(35,.bool b16)]∧σ=⟨[],0⟩) ?_ ?_
 rintro _ _ ⟨rfl,rfl⟩
 refine go ?_
 refine cF hF (fun h18 hF=>?_) (fun h18 hF=>?_)
 exact gx hF
 refine go ?_
 refine gS (l':=[(0,_),(1,_),(5,_),(6,_)]) ?_
 refine z6o (fun m tm σ=>∃ z23:Int,q5q p1 z6 (q2q p1 p2 n m1) m z23=some r∧tm=fr 52 [(0,.iM q08 p1),(1,.i6 p2),(5,.i6 z6),(6,.i6 z23)]∧σ=⟨[],0⟩) (fun tm σ=>qac z6 (q2q p1 p2 n m1)=some r∧tm=fr 52 [(0,.iM q08 p1),(1,.i6 p2),(5,.i6 z6)]∧σ=⟨[],0⟩) n ⟨0,hF,rfl,rfl⟩ ?_ ?_
 rintro _ _ ⟨hF,rfl,rfl⟩
 unfold qac at hF
 refine go ?_
 exact lC ⟨_,hF,rfl,rfl⟩
 rintro (_|m2) _ _ ⟨z23,hF,rfl,rfl⟩
 cases hF
 unfold q5q at hF
 refine go ?_
 refine cF hF (fun h24 hF=>?_) (fun h24 hF=>?_)
 refine go ?_
 refine WPU.block ?_
 obtain ⟨x25,h26,hF⟩:=q00 hF
 obtain ⟨x27,h28,hF⟩:=q00 hF
 refine go ?_
 refine z6q Tryz.tb_ok [] (by kernel_rfl) ?_
 refine gd ?_
 refine RD.ix h26 ?_
 refine gd ?_
 refine RD.ix h28 ?_
 refine gd ?_
 refine RD.done ⟨by kernel_rfl,trivial,?_⟩
 refine go ?_
 refine cF hF (fun h29 hF=>?_) (fun h29 hF=>?_)
 exact gx hF
 refine go ?_
 exact lC ⟨_,hF,rfl,rfl⟩
 refine go ?_
 exact xC ⟨hF,rfl,rfl⟩
 obtain ⟨x8,h9,h17⟩:=q00 h17
 rcases gB h17 with ⟨h10,h17⟩ | ⟨h10,h17⟩
 obtain rfl:=sI h17
 refine go ?_
 refine RS.ix h9 ?_
 refine go ?_
 exact xC ⟨rfl,rfl⟩
 obtain ⟨x11,h12,h17⟩:=q00 h17
 rcases gB h17 with ⟨h13,h17⟩ | ⟨h13,h17⟩
 obtain rfl:=sI h17
 refine go ?_
 refine RS.ix h9 ?_
 refine go ?_
 refine RS.ix h12 ?_
 refine go ?_
 exact xC ⟨rfl,rfl⟩
 obtain ⟨x14,h15,h17⟩:=q00 h17
 obtain rfl:=sI h17
 refine go ?_
 refine RS.ix h9 ?_
 refine go ?_
 refine RS.ix h12 ?_
 refine go ?_
 refine RS.ix h15 ?_
 refine go ?_
 exact xC ⟨rfl,rfl⟩
 refine go ?_
 exact xC ⟨hF,rfl,rfl⟩
def qad   : Option (Int) :=
 some 0
def q5r (p1:GFS) (n:Nat):Nat→Int→Option (Int)
 | 0,_=>none
 | m1+1,z6 =>
  cond (decide (z6<(p1.Nodes.length:Int)))
   (q03 (q0l p1.Nodes z6) fun x8 =>
   cond (decide (x8.Typex<0))
    (some 2)
    (q03 (q0l p1.Nodes z6) fun x11 =>
    q03 (qgh n x11.Arcs (p1.Nodes.length:Int)) fun r13 =>
    cond (r13 != 0)
     (some r13)
     ((q5r p1 n m1) (IntKind.i64.wrap (z6+1)))))
   (qad)
def qd8 (n:Nat) (p1:GFS):Option (Int) :=
 cond ((p1.Nodes.length:Int) == 0)
  (some 1)
  (cond (decide ((p1.Nodes.length:Int) > 4096))
   (some 7)
   (q5r p1 n n 0))
theorem qsc (n:Nat) (p1:GFS) (r:Int) (hF:qd8 n p1=some r):EvU Tryz.prog 67 [.agg [.isl false (List.map q02 p1.Nodes)]] ⟨[],0⟩ (fun u _=>u = .int .i64 r∧Bel 0 u):=by
 unfold qd8 at hF
 refine bg1 40 fn67 ?_
 refine go ?_
 refine cF hF (fun h2 hF=>?_) (fun h2 hF=>?_)
 exact gx hF
 refine go ?_
 refine cF hF (fun h3 hF=>?_) (fun h3 hF=>?_)
 exact gx hF
 refine go ?_
 refine gS (l':=[(1,_),(3,_)]) ?_
 refine z6o (fun m tm σ=>∃ z6:Int,q5r p1 n m z6=some r∧tm=fr 40 [(1,.ptr 0 0 0),(3,.i6 z6)]∧σ=⟨[(0,.row [.iM q02 p1.Nodes] 24)],1⟩) (fun tm σ=>qad=some r∧tm=fr 40 []∧σ=⟨[(0,.row [.iM q02 p1.Nodes] 24)],1⟩) n ⟨0,hF,rfl,rfl⟩ ?_ ?_
 rintro _ _ ⟨hF,rfl,rfl⟩
 unfold qad at hF
 exact gx hF
 rintro (_|m1) _ _ ⟨z6,hF,rfl,rfl⟩
 cases hF
 unfold q5r at hF
 refine go ?_
 refine cF hF (fun h7 hF=>?_) (fun h7 hF=>?_)
 refine go ?_
 refine WPU.block ?_
 obtain ⟨x8,h9,hF⟩:=q00 hF
 refine go ?_
 refine RS.ix h9 ?_
 refine go ?_
 refine cF hF (fun h10 hF=>?_) (fun h10 hF=>?_)
 exact gx hF
 obtain ⟨x11,h12,hF⟩:=q00 hF
 obtain ⟨r13,h14,hF⟩:=q00 hF
 refine go ?_
 refine z6q Tryz.tb_ok [] (by kernel_rfl) ?_
 refine gd ?_
 refine RD.ix h12 ?_
 refine gd ?_
 refine z6w rfl (pC (qsb n x11.Arcs (p1.Nodes.length:Int) r13 h14)) fn87 ?_
 refine gd ?_
 refine RD.done ⟨by kernel_rfl,trivial,?_⟩
 refine go ?_
 refine cF hF (fun h15 hF=>?_) (fun h15 hF=>?_)
 exact gx hF
 refine go ?_
 exact lC ⟨_,hF,rfl,rfl⟩
 refine go ?_
 exact xC ⟨hF,rfl,rfl⟩
def q3x (p1:List q0f) (z6:Int) (l7:List q0f) (rc1:Int→(List q0f)→Option ((List q0f))) (z18:Int):Option ((List q0f)) :=
 q0w ((0:Int)≤z18∧z18≤((l7.length:Nat):Int)) (
 q0w (0+z18.toNat≤l7.length) (
 q0w (((l7.drop 0).take z18.toNat).length*16≤140737488355328∧((l7.drop 0).take z18.toNat).length≤140737488355328) (
 q03 (q0l p1 z6) fun x22 =>
 q0w ((((l7.drop 0).take z18.toNat).length+1)*16≤140737488355328∧((l7.drop 0).take z18.toNat).length+1≤140737488355328) (
 q0w ((0:Int)≤z18∧z18≤((l7.length:Nat):Int)) (
 q0w ((0+z18.toNat)+(l7.length - z18.toNat)≤l7.length) (
 q0w (((((l7.drop 0).take z18.toNat)++[x22]).length+((l7.drop (0+z18.toNat)).take (l7.length - z18.toNat)).length)*16≤140737488355328∧(((l7.drop 0).take z18.toNat)++[x22]).length+((l7.drop (0+z18.toNat)).take (l7.length - z18.toNat)).length≤140737488355328) (
 rc1 (IntKind.i64.wrap (z6+1)) ((((l7.drop 0).take z18.toNat)++[x22])++((l7.drop (0+z18.toNat)).take (l7.length - z18.toNat))))))))))
def q3y (p1:List q0f) (z6:Int) (l7:List q0f) (rc1:Int→(List q0f)→Option ((List q0f))):Nat→Int→Option ((List q0f))
 | 0,_=>none
 | m2+1,z17 =>
  q03 (cond (decide (z17 > 0))
   (q03 (q0l l7 (IntKind.i64.wrap (z17 - 1))) fun x29 =>
   q03 (q0l p1 z6) fun x31 =>
   some (decide (x29.Feat > x31.Feat)))
   (some false)) fun b33 =>
  cond b33
   ((q3y p1 z6 l7 rc1 m2) (IntKind.i64.wrap (z17 - 1)))
   (q3x p1 z6 l7 rc1 z17)
def q7j  (l9:List q0f):Option ((List q0f)) :=
 some l9
def q22 (p1:List q0f) (n:Nat):Nat→Int→(List q0f)→Option ((List q0f))
 | 0,_,_=>none
 | m1+1,z6,l7 =>
  cond (decide (z6<(p1.length:Int)))
   (q3y p1 z6 l7 (q22 p1 n m1) n (l7.length:Int))
   (q7j l7)
def q9b (n:Nat) (p1:List q0f):Option ((List q0f)) :=
 q22 p1 n n 0 ([]:List q0f)
theorem qgz (n:Nat) (p1:List q0f) (r:(List q0f)) (hF:q9b n p1=some r):EvU Tryz.prog 89 [.isl false (List.map q08 p1)] ⟨[],0⟩ (fun u σ'=>∃ t,u = .vl 0 t 0 r.length∧σ'=⟨[(0,.vec (List.map q08 r).flatten 66 2 t)],0+1⟩):=by
 unfold q9b at hF
 refine bg1 52 fn89 ?_
 refine gr ?_
 refine gr ?_
 refine gr ?_
 refine WPU.ghost (tm':=fr 52 [(0,.iM q08 p1),(3,.vl 0 0 0 (([]:List q0f).length)),(4,.i6 0)]) (σ':=⟨[(0,.vec (List.map q08 ([]:List q0f)).flatten 66 2 0)],1⟩) (Gh.trans (z6u 3 66 2 (by decide) NZ rfl rfl) (z6s ⟨rfl,rfl,rfl,trivial⟩ rfl)) NZ ?_
 refine gS (l':=[(0,_),(3,_),(4,_)]) ?_
 refine z6o (fun m tm σ=>∃ z6:Int,∃ l7:List q0f,∃ t8:Nat,q22 p1 n m z6 l7=some r∧tm=fr 52 [(0,.iM q08 p1),(3,.vl 0 t8 0 l7.length),(4,.i6 z6)]∧σ=⟨[(0,.vec (List.map q08 l7).flatten 66 2 t8)],1⟩) (fun tm σ=>∃ l9:List q0f,∃ t10:Nat,q7j l9=some r∧tm=fr 52 [(3,.vl 0 t10 0 l9.length)]∧σ=⟨[(0,.vec (List.map q08 l9).flatten 66 2 t10)],1⟩) n ⟨0,([]:List q0f),0,hF,rfl,rfl⟩ ?_ ?_
 rintro _ _ ⟨l9,t10,hF,rfl,rfl⟩
 unfold q7j at hF
 refine go ?_
 obtain rfl:=sI hF
 exact ⟨.inr rfl,[.vl 0 t10 0 l9.length],q1y rfl q1t,.vl 0 t10 0 l9.length,⟨[(0,.vec (List.map q08 l9).flatten 66 2 t10)],1⟩,NZ,Gh.trans (z79 (fun k=>Nat.beq k 0)) (z7b (n1:=1) [] rfl rfl NZ NL BUL.h BH.h),t10,rfl,rfl⟩
 rintro (_|m1) _ _ ⟨z6,l7,t8,hF,rfl,rfl⟩
 cases hF
 unfold q22 at hF
 refine go ?_
 refine cF hF (fun h11 hF=>?_) (fun h11 hF=>?_)
 refine go ?_
 refine WPU.block ?_
 refine go ?_
 refine gS (l':=[(0,_),(3,_),(4,_),(5,_)]) ?_
 refine z6o (fun m tm σ=>∃ z17:Int,q3y p1 z6 l7 (q22 p1 n m1) m z17=some r∧tm=fr 52 [(0,.iM q08 p1),(3,.vl 0 t8 0 l7.length),(4,.i6 z6),(5,.i6 z17)]∧σ=⟨[(0,.vec (List.map q08 l7).flatten 66 2 t8)],1⟩) (fun tm σ=>∃ z18:Int,q3x p1 z6 l7 (q22 p1 n m1) z18=some r∧tm=fr 52 [(0,.iM q08 p1),(3,.vl 0 t8 0 l7.length),(4,.i6 z6),(5,.i6 z18)]∧σ=⟨[(0,.vec (List.map q08 l7).flatten 66 2 t8)],1⟩) n ⟨(l7.length:Int),hF,rfl,rfl⟩ ?_ ?_
 rintro _ _ ⟨z18,hF,rfl,rfl⟩
 unfold q3x at hF
 obtain ⟨h19,hF⟩:=q06 hF
 obtain ⟨h20,hF⟩:=q06 hF
 obtain ⟨h21,hF⟩:=q06 hF
 refine go ?_
 refine RS.q (u:=.vl 0 t8 0 z18.toNat) rfl (qbh rfl qsu (z4a rfl) qsu (z3j q08 un52.h (q0i if66.h) q17 (vo rfl) (Nat.le_of_eq (Nat.zero_add _)) (qxs h19.1 h19.2))) (RS.q (u:=.vl 1 0 0 (((l7.drop 0).take z18.toNat).length)) (σ':=⟨[(1,.vec (List.map q08 ((l7.drop 0).take z18.toNat)).flatten 66 2 0),(0,.vec (List.map q08 l7).flatten 66 2 t8)],2⟩) rfl (qd1 rfl rfl rfl rfl (qt1 q08 ((l7.drop 0).take z18.toNat) un52.h un52.h if66.h rfl (qvx q08 q17 (vo rfl) h20) h21)) ?_)
 obtain ⟨x22,h23,hF⟩:=q00 hF
 obtain ⟨h24,hF⟩:=q06 hF
 refine go ?_
 refine RS.ix h23 ?_
 refine go ?_
 refine RS.q (u:=.sl 2 0 1 1) (σ':=⟨[(2,.row (q08 x22) 66),(1,.vec (List.map q08 ((l7.drop 0).take z18.toNat)).flatten 66 2 0),(0,.vec (List.map q08 l7).flatten 66 2 t8)],3⟩) rfl (q7q un52.h if66.h rfl rfl rfl rfl rfl rfl rfl) ?_
 refine RS.g ?_
 obtain ⟨h25,hF⟩:=q06 hF
 obtain ⟨h26,hF⟩:=q06 hF
 obtain ⟨h27,hF⟩:=q06 hF
 refine go ?_
 refine RS.q (u:=.vl 0 t8 (0+z18.toNat) (l7.length - z18.toNat)) rfl (qbh rfl (z4a rfl) qsu qsu (z3j q08 un52.h (q0i if66.h) q17 (vo rfl) (Nat.le_of_eq (Nat.zero_add _)) (qxt h25.1 h25.2))) (RS.q (u:=.vl 1 2 0 (((((l7.drop 0).take z18.toNat)++[x22])++((l7.drop (0+z18.toNat)).take (l7.length - z18.toNat))).length)) (σ':=⟨[(2,.row (q08 x22) 66),(1,.vec (List.map q08 ((((l7.drop 0).take z18.toNat)++[x22])++((l7.drop (0+z18.toNat)).take (l7.length - z18.toNat)))).flatten 66 2 2),(0,.vec (List.map q08 l7).flatten 66 2 t8)],3⟩) rfl (qd1 rfl rfl rfl rfl (qm4 q08 ((l7.drop (0+z18.toNat)).take (l7.length - z18.toNat)) un52.h un52.h if66.h rfl q17 rfl (qvx q08 q17 (vo rfl) h26) h27)) ?_)
 refine go ?_
 exact ⟨m1,_,_,zN _,⟨(IntKind.i64.wrap (z6+1)),((((l7.drop 0).take z18.toNat)++[x22])++((l7.drop (0+z18.toNat)).take (l7.length - z18.toNat))),2,hF,rfl,rfl⟩,NZ,Gh.trans (Gh.sub (l':=[(0,.iM q08 p1),(3,.vl 1 2 0 (((((l7.drop 0).take z18.toNat)++[x22])++((l7.drop (0+z18.toNat)).take (l7.length - z18.toNat))).length)),(4,.i6 (IntKind.i64.wrap (z6+1)))]) ⟨rfl,rfl,rfl,trivial⟩) (Gh.trans (Gh.mv (l':=[(0,.iM q08 p1),(3,.vl 0 2 0 (((((l7.drop 0).take z18.toNat)++[x22])++((l7.drop (0+z18.toNat)).take (l7.length - z18.toNat))).length)),(4,.i6 (IntKind.i64.wrap (z6+1)))]) (h':=[(2,.row (q08 x22) 66),(0,.vec (List.map q08 ((((l7.drop 0).take z18.toNat)++[x22])++((l7.drop (0+z18.toNat)).take (l7.length - z18.toNat)))).flatten 66 2 2)]) 0 1 NZ rfl rfl (by simp only [rS,rU,rUL,qfn,mvN,Nat.beq,zC,zD]) rfl (by simp only [avH,rB,qox,rUL,rU,qfn,qvh,mvN,Nat.beq,zC,zD,and_self])) (Gh.toC (n1:=1) ⟨rfl,rfl,rfl,trivial⟩ rfl NZ (by simp)))⟩
 rintro (_|m2) _ _ ⟨z17,hF,rfl,rfl⟩
 cases hF
 unfold q3y at hF
 obtain ⟨b33,h34,hF⟩:=q00 hF
 refine gn ?_
 refine z6p (fun tm σ=>tm=fr 52 [(0,.iM q08 p1),(3,.vl 0 t8 0 l7.length),(4,.i6 z6),(5,.i6 z17),(30,.bool b33)]∧σ=⟨[(0,.vec (List.map q08 l7).flatten 66 2 t8)],1⟩) ?_ ?_
 rintro _ _ ⟨rfl,rfl⟩
 refine go ?_
 refine cF hF (fun h35 hF=>?_) (fun h35 hF=>?_)
 refine go ?_
 refine WPU.block ?_
 refine go ?_
 exact lC ⟨_,hF,rfl,rfl⟩
 refine go ?_
 exact xC ⟨z17,hF,rfl,rfl⟩
 rcases gB h34 with ⟨h28,h34⟩ | ⟨h28,h34⟩
 obtain ⟨x29,h30,h34⟩:=q00 h34
 obtain ⟨x31,h32,h34⟩:=q00 h34
 obtain rfl:=sI h34
 refine z6q Tryz.tb_ok [] (by kernel_rfl) ?_
 refine gd ?_
 refine RD.w rfl (q2v rfl rfl (q94 q08 un52.h (q0i if66.h) (by decide) q17 (vo rfl) h30)) ?_
 refine RD.w rfl (qbu un66.h rfl (q0i if3.h) rfl (qmx rfl) rfl) (RD.w (u:=.i6 x29.Feat) rfl (qz7 q08 un3.h rfl q17 rfl rfl (qky h30) rfl) ?_)
 refine gd ?_
 refine RD.ix h32 ?_
 refine gd ?_
 refine RD.done ⟨by kernel_rfl,trivial,?_⟩
 refine go ?_
 exact xC ⟨rfl,rfl⟩
 obtain rfl:=sI h34
 refine z6q Tryz.tb_ok [] (by kernel_rfl) ?_
 refine gd ?_
 refine RD.done ⟨by kernel_rfl,trivial,?_⟩
 refine go ?_
 exact xC ⟨rfl,rfl⟩
 refine go ?_
 exact xC ⟨l7,t8,hF,rfl,rfl⟩
def q1l (z23:Int) (rc1:Int→(List Int)→(List Int)→Option ((List Int)×(List Int))) (l36:List Int) (l37:List Int):Option ((List Int)×(List Int)) :=
 rc1 (IntKind.i64.wrap (z23+1)) l36 l37
def q33  (l27:List Int) (l28:List Int):Option ((List Int)×(List Int)) :=
 some (l27,l28)
def q0y (p2:List q0a) (r12:List q0f) (self:Int→(List q0a)→(List Int)→(List Int)→Option ((List Int)×(List Int))):Nat→Int→(List Int)→(List Int)→Option ((List Int)×(List Int))
 | 0,_,_,_=>none
 | m1+1,z23,l24,l25 =>
  cond (decide (z23<(r12.length:Int)))
   (q03 (q0l r12 z23) fun x31 =>
   q03 (q0l l24 x31.To) fun x33 =>
   cond (decide (x33<0))
    (q03 (q0l r12 z23) fun x39 =>
    q03 (self x39.To p2 l24 l25) fun r41 =>
    q1l z23 (q0y p2 r12 self m1) r41.1 r41.2)
    (q1l z23 (q0y p2 r12 self m1) l24 l25))
   (q33 l24 l25)
def q3f (n:Nat) (self:Int→(List q0a)→(List Int)→(List Int)→Option ((List Int)×(List Int))) (p1:Int) (p2:List q0a) (p3:List Int) (p5:List Int):Option ((List Int)×(List Int)) :=
 q03 (q0l p3 p1) fun x7 =>
 q0w ((p5.length+1)*8≤140737488355328∧p5.length+1≤140737488355328) (
 q03 (q0l p2 p1) fun x10 =>
 q03 (q9b n x10.Arcs) fun r12 =>
 q0y p2 r12 self n 0 (p3.set (0+p1.toNat) (p5.length:Int)) (p5++[p1]))
def q15:Nat→Int→(List q0a)→(List Int)→(List Int)→Option ((List Int)×(List Int))
 | 0,_,_,_,_=>none
 | n+1,p1,p2,p3,p5=>q3f n (q15 n) p1 p2 p3 p5
theorem q9c:∀ (n:Nat) (p1:Int) (p2:List q0a) (p3:List Int) (p5:List Int) (r:(List Int)×(List Int)),q15 n p1 p2 p3 p5=some r→∀ t4 t6:Nat,EvU Tryz.prog 88 [.ptr 0 0 0,.int .i64 p1] ⟨[(0,.row [.isl false (List.map q02 p2),.vl 1 t4 0 p3.length,.vl 2 t6 0 p5.length] 139),(1,.vec (List.map (cI .i64) p3).flatten 3 1 t4),(2,.vec (List.map (cI .i64) p5).flatten 3 1 t6)],3⟩ (fun u σ'=>∃ t:Nat→Nat,u = .tup []∧σ'=⟨[(0,.row [.isl false (List.map q02 p2),.vl 1 t4 0 r.1.length,.vl 2 (t 0) 0 r.2.length] 139),(1,.vec (List.map (cI .i64) r.1).flatten 3 1 t4),(2,.vec (List.map (cI .i64) r.2).flatten 3 1 (t 0))],3⟩)
 | 0,p1,p2,p3,p5,r,hF=>by cases hF
 | n+1,p1,p2,p3,p5,r,hF=>by
  have ih:=q9c n
  unfold q15 q3f at hF
  intro t4 t6
  refine bg2 62 fn88 ?_
  obtain ⟨x7,h8,hF⟩:=q00 hF
  refine gn ?_
  refine z6p (fun tm σ=>tm=fr 62 [(0,.ptr 0 0 0),(1,.i6 p1)]∧σ=⟨[(0,.row [.iM q02 p2,.vl 1 t4 0 ((p3.set (0+p1.toNat) (p5.length:Int)).length),.vl 2 t6 0 p5.length] 139),(1,.vec (List.map (cI .i64) (p3.set (0+p1.toNat) (p5.length:Int))).flatten 3 1 t4),(2,.vec (List.map (cI .i64) p5).flatten 3 1 t6)],3⟩) ?_ ?_
  rintro _ _ ⟨rfl,rfl⟩
  obtain ⟨h9,hF⟩:=q06 hF
  refine go ?_
  refine RS.q (u:=.ptr 0 0 0) rfl (qev rfl rfl) ?_
  refine go ?_
  refine RS.g ?_
  refine RS.g ?_
  refine RS.q (u:=.ptr 0 0 0) rfl (qev rfl rfl) ?_
  obtain ⟨x10,h11,hF⟩:=q00 hF
  obtain ⟨r12,h13,hF⟩:=q00 hF
  refine go ?_
  refine RS.q (u:=.ptr 0 0 0) rfl (qev rfl rfl) ?_
  refine go ?_
  refine RS.ix h11 ?_
  refine go ?_
  refine z6t (R:=fun u σ'=>u = .vl 4 0 0 r12.length∧σ'=⟨[(4,.vec (List.map q08 r12).flatten 66 2 0),(3,.row [.i6 p1] 3),(0,.row [.iM q02 p2,.vl 1 t4 0 ((p3.set (0+p1.toNat) (p5.length:Int)).length),.vl 2 (t6+1) 0 ((p5++[p1]).length)] 139),(1,.vec (List.map (cI .i64) (p3.set (0+p1.toNat) (p5.length:Int))).flatten 3 1 t4),(2,.vec (List.map (cI .i64) (p5++[p1])).flatten 3 1 (t6+1))],5⟩) (args:=[.iM q08 x10.Arcs]) rfl (q3s rfl rfl fn89 hb89 rfl rfl) (z7e q08 (qgz n x10.Arcs r12 h13) _ 4 rfl) rfl rfl ?_
  rintro _ _ ⟨rfl,rfl⟩
  refine go ?_
  refine gS (l':=[(0,_),(4,_),(5,_)]) ?_
  refine z6o (fun m tm σ=>∃ z23:Int,∃ l24:List Int,∃ l25:List Int,∃ t26:Nat,q0y p2 r12 (q15 n) m z23 l24 l25=some r∧tm=fr 62 [(0,.ptr 0 0 0),(4,.vl 4 0 0 r12.length),(5,.i6 z23)]∧σ=⟨[(4,.vec (List.map q08 r12).flatten 66 2 0),(3,.row [.i6 p1] 3),(0,.row [.iM q02 p2,.vl 1 t4 0 l24.length,.vl 2 t26 0 l25.length] 139),(1,.vec (List.map (cI .i64) l24).flatten 3 1 t4),(2,.vec (List.map (cI .i64) l25).flatten 3 1 t26)],5⟩) (fun tm σ=>∃ l27:List Int,∃ l28:List Int,∃ t29:Nat,q33 l27 l28=some r∧tm=fr 62 []∧σ=⟨[(4,.vec (List.map q08 r12).flatten 66 2 0),(3,.row [.i6 p1] 3),(0,.row [.iM q02 p2,.vl 1 t4 0 l27.length,.vl 2 t29 0 l28.length] 139),(1,.vec (List.map (cI .i64) l27).flatten 3 1 t4),(2,.vec (List.map (cI .i64) l28).flatten 3 1 t29)],5⟩) n ⟨0,(p3.set (0+p1.toNat) (p5.length:Int)),(p5++[p1]),(t6+1),hF,rfl,rfl⟩ ?_ ?_
  rintro _ _ ⟨l27,l28,t29,hF,rfl,rfl⟩
  unfold q33 at hF
  refine go ?_
  obtain rfl:=sI hF
  exact ⟨.inl rfl,[],q1t,.tup [],⟨[(0,.row [.iM q02 p2,.vl 1 t4 0 l27.length,.vl 2 t29 0 l28.length] 139),(1,.vec (List.map (cI .i64) l27).flatten 3 1 t4),(2,.vec (List.map (cI .i64) l28).flatten 3 1 t29)],3⟩,NL,z7b (n1:=3) [] rfl rfl NL NL BUL.h BH.h,stF [t29],rfl,rfl⟩
  rintro (_|m1) _ _ ⟨z23,l24,l25,t26,hF,rfl,rfl⟩
  cases hF
  unfold q0y at hF
  refine go ?_
  refine cF hF (fun h30 hF=>?_) (fun h30 hF=>?_)
  refine go ?_
  refine WPU.block ?_
  obtain ⟨x31,h32,hF⟩:=q00 hF
  obtain ⟨x33,h34,hF⟩:=q00 hF
  refine go ?_
  refine z6q Tryz.tb_ok [] (by kernel_rfl) ?_
  refine gd ?_
  refine RD.q (u:=.ptr 0 0 0) rfl (qev rfl rfl) ?_
  refine gd ?_
  refine RD.q rfl (q2v rfl rfl (q94 q08 un52.h (q0i if66.h) (by decide) q17 (vo rfl) h32)) ?_
  refine RD.q rfl (qbu un66.h rfl (q0i if3.h) rfl (qmx rfl) rfl) (RD.q (u:=.i6 x31.To) rfl (qz7 q08 un3.h rfl q17 rfl rfl (qky h32) rfl) ?_)
  refine RD.q rfl (q2v rfl rfl (q94 (cI .i64) un33.h (q0i if3.h) (by decide) (q6o .i64) (vo rfl) h34)) ?_
  refine RD.q rfl (q5v (cI .i64) (fun x=>.i6 x) un3.h rfl (fun _=>rfl) rfl rfl h34) ?_
  refine gd ?_
  refine RD.done ⟨by kernel_rfl,trivial,?_⟩
  refine gn ?_
  refine z6p (fun tm σ=>∃ l36:List Int,∃ l37:List Int,∃ t38:Nat,q1l z23 (q0y p2 r12 (q15 n) m1) l36 l37=some r∧tm=fr 62 [(0,.ptr 0 0 0),(4,.vl 4 0 0 r12.length),(5,.i6 z23)]∧σ=⟨[(4,.vec (List.map q08 r12).flatten 66 2 0),(3,.row [.i6 p1] 3),(0,.row [.iM q02 p2,.vl 1 t4 0 l36.length,.vl 2 t38 0 l37.length] 139),(1,.vec (List.map (cI .i64) l36).flatten 3 1 t4),(2,.vec (List.map (cI .i64) l37).flatten 3 1 t38)],5⟩) ?_ ?_
  rintro _ _ ⟨l36,l37,t38,hF,rfl,rfl⟩
  unfold q1l at hF
  refine go ?_
  exact lC ⟨_,l36,l37,t38,hF,rfl,rfl⟩
  refine cF hF (fun h35 hF=>?_) (fun h35 hF=>?_)
  obtain ⟨x39,h40,hF⟩:=q00 hF
  obtain ⟨r41,h42,hF⟩:=q00 hF
  refine go ?_
  refine RS.q rfl (q2v rfl rfl (q94 q08 un52.h (q0i if66.h) (by decide) q17 (vo rfl) h40)) ?_
  refine RS.q rfl (qbu un66.h rfl (q0i if3.h) rfl (qmx rfl) rfl) (RS.q (u:=.i6 x39.To) rfl (qz7 q08 un3.h rfl q17 rfl rfl (qky h40) rfl) ?_)
  refine z6t (R:=fun u σ'=>∃ t43:Nat→Nat,u = .tup []∧σ'=⟨[(4,.vec (List.map q08 r12).flatten 66 2 0),(3,.row [.i6 p1] 3),(0,.row [.iM q02 p2,.vl 1 t4 0 r41.1.length,.vl 2 (t43 0) 0 r41.2.length] 139),(1,.vec (List.map (cI .i64) r41.1).flatten 3 1 t4),(2,.vec (List.map (cI .i64) r41.2).flatten 3 1 (t43 0))],5⟩) (args:=[.ptr 0 0 0,.i6 x39.To]) rfl (q3s rfl rfl fn88 hb88 rfl rfl) (EvU.st [0,1,2] (ih x39.To p2 l24 l25 r41 h42 t4 t26)) rfl rfl ?_
  rintro _ _ ⟨t43,rfl,rfl⟩
  refine go ?_
  exact xC ⟨r41.1,r41.2,(t43 0),hF,rfl,rfl⟩
  refine go ?_
  exact xC ⟨l24,l25,t26,hF,rfl,rfl⟩
  refine go ?_
  exact xC ⟨l24,l25,t26,hF,rfl,rfl⟩
  refine z6q Tryz.tb_ok [] (by kernel_rfl) ?_
  refine gd ?_
  refine RD.q (u:=.ptr 0 0 0) rfl (qev rfl rfl) ?_
  refine gd ?_
  refine RD.q (u:=.ptr 0 0 0) rfl (qev rfl rfl) ?_
  refine gd ?_
  refine RD.q rfl (q2v rfl rfl (q94 (cI .i64) un33.h (q0i if3.h) (by decide) (q6o .i64) (vo rfl) h8)) ?_
  refine RD.actn (u:=.junk) (σ':=⟨[(0,.row [.iM q02 p2,.vl 1 t4 0 p3.length,.vl 2 t6 0 p5.length] 139),(1,.vec (List.map (cI .i64) (p3.set (0+p1.toNat) (p5.length:Int))).flatten 3 1 t4),(2,.vec (List.map (cI .i64) p5).flatten 3 1 t6)],3⟩) rfl (st_vp (cI .i64) (q0i if3.h) (q6o .i64) rfl rfl rfl rfl rfl rfl rfl (qky h8) rfl) rfl ?_
  refine RD.done ⟨by kernel_rfl,trivial,?_⟩
  refine go ?_
  exact ⟨_,_,⟨rfl,rfl⟩,NL,z6s ⟨rfl,rfl,trivial⟩ (by simp only [List.length_set])⟩
def q7i (z26:Int) (l27:List q0a) (rc2:Int→(List q0a)→Option (GFS)) (x34:q0a) (l54:List q0f):Option (GFS) :=
 q0w ((l27.length+1)*32≤140737488355328∧l27.length+1≤140737488355328) (
 rc2 (IntKind.i64.wrap (z26+1)) (l27++[(q0a.mk x34.Typex l54)]))
def q41 (r14:(List Int)×(List Int)) (z26:Int) (l27:List q0a) (rc2:Int→(List q0a)→Option (GFS)) (x34:q0a):Nat→Int→(List q0f)→Option (GFS)
 | 0,_,_=>none
 | m3+1,z52,l53 =>
  cond (decide (z52<(l53.length:Int)))
   (q03 (q0l l53 z52) fun x57 =>
   q03 (q0l r14.1 x57.To) fun x59 =>
   q03 (q0l l53 z52) fun x61 =>
   (q41 r14 z26 l27 rc2 x34 m3) (IntKind.i64.wrap (z52+1)) (l53.set (0+z52.toNat) (q0f.mk x61.Feat x59)))
   (q7i z26 l27 rc2 x34 l53)
def qaa  (l29:List q0a):Option (GFS) :=
 some (GFS.mk l29)
def q2p (p1:GFS) (n:Nat) (r14:(List Int)×(List Int)):Nat→Int→(List q0a)→Option (GFS)
 | 0,_,_=>none
 | m2+1,z26,l27 =>
  cond (decide (z26<(r14.2.length:Int)))
   (q03 (q0l r14.2 z26) fun x32 =>
   q03 (q0l p1.Nodes x32) fun x34 =>
   q03 (q9b n x34.Arcs) fun r36 =>
   q41 r14 z26 l27 (q2p p1 n r14 m2) x34 n 0 r36)
   (qaa l27)
def q7h (p1:GFS) (p2:Int) (n:Nat) (l12:List Int):Option (GFS) :=
 q03 (q15 n p2 p1.Nodes l12 ([]:List Int)) fun r14 =>
 q2p p1 n r14 n 0 ([]:List q0a)
def q5p (p1:GFS) (p2:Int) (n:Nat):Nat→Int→(List Int)→Option (GFS)
 | 0,_,_=>none
 | m1+1,z9,l10 =>
  cond (decide (z9<(p1.Nodes.length:Int)))
   (q0w ((l10.length+1)*8≤140737488355328∧l10.length+1≤140737488355328) (
   (q5p p1 p2 n m1) (IntKind.i64.wrap (z9+1)) (l10++[(-1)])))
   (q7h p1 p2 n l10)
def qd7 (n:Nat) (p1:GFS) (p2:Int):Option (GFS) :=
 q5p p1 p2 n n 0 ([]:List Int)
theorem qsa (n:Nat) (p1:GFS) (p2:Int) (r:GFS) (hF:qd7 n p1 p2=some r):EvU Tryz.prog 68 [.agg [.isl false (List.map q02 p1.Nodes)],.int .i64 p2] ⟨[],0⟩ (fun u _=>u = .agg [.isl false (List.map q02 r.Nodes)]∧Bel 0 u):=by
 unfold qd7 at hF
 refine bg2 88 fn68 ?_
 refine gr ?_
 refine gr ?_
 refine gr ?_
 refine WPU.ghost (tm':=fr 88 [(1,.i6 p2),(2,.ptr 0 0 0),(4,.ptr 1 0 0),(5,.ptr 2 0 0),(6,.i6 0)]) (σ':=⟨[(3,.vec (List.map (cI .i64) ([]:List Int)).flatten 3 1 0),(2,.row [.iM q02 p1.Nodes,.vl 3 0 0 (([]:List Int).length),.nils] 139),(1,.row [.nils] 24),(0,.row [.iM q02 p1.Nodes] 24)],4⟩) (Gh.trans (z73 2 1 3 1 (by decide) NZ rfl rfl) (z6s ⟨rfl,rfl,rfl,rfl,rfl,trivial⟩ rfl)) NZ ?_
 refine gS (l':=[(1,_),(2,_),(4,_),(5,_),(6,_)]) ?_
 refine z6o (fun m tm σ=>∃ z9:Int,∃ l10:List Int,∃ t11:Nat,q5p p1 p2 n m z9 l10=some r∧tm=fr 88 [(1,.i6 p2),(2,.ptr 0 0 0),(4,.ptr 1 0 0),(5,.ptr 2 0 0),(6,.i6 z9)]∧σ=⟨[(3,.vec (List.map (cI .i64) l10).flatten 3 1 t11),(2,.row [.iM q02 p1.Nodes,.vl 3 t11 0 l10.length,.nils] 139),(1,.row [.nils] 24),(0,.row [.iM q02 p1.Nodes] 24)],4⟩) (fun tm σ=>∃ l12:List Int,∃ t13:Nat,q7h p1 p2 n l12=some r∧tm=fr 88 [(1,.i6 p2),(2,.ptr 0 0 0),(4,.ptr 1 0 0),(5,.ptr 2 0 0)]∧σ=⟨[(3,.vec (List.map (cI .i64) l12).flatten 3 1 t13),(2,.row [.iM q02 p1.Nodes,.vl 3 t13 0 l12.length,.nils] 139),(1,.row [.nils] 24),(0,.row [.iM q02 p1.Nodes] 24)],4⟩) n ⟨0,([]:List Int),0,hF,rfl,rfl⟩ ?_ ?_
 rintro _ _ ⟨l12,t13,hF,rfl,rfl⟩
 unfold q7h at hF
 refine gn ?_
 refine WPU.ghost (tm':=fr 88 [(1,.i6 p2),(2,.ptr 0 0 0),(4,.ptr 1 0 0),(5,.ptr 2 0 0)]) (σ':=⟨[(4,.vec (List.map (cI .i64) ([]:List Int)).flatten 3 1 0),(3,.vec (List.map (cI .i64) l12).flatten 3 1 t13),(2,.row [.iM q02 p1.Nodes,.vl 3 t13 0 l12.length,.vl 4 0 0 (([]:List Int).length)] 139),(1,.row [.nils] 24),(0,.row [.iM q02 p1.Nodes] 24)],5⟩) (Gh.trans (z73 2 2 3 1 (by decide) NZ rfl rfl) (z6s ⟨rfl,rfl,rfl,rfl,trivial⟩ rfl)) NZ ?_
 obtain ⟨r14,h15,hF⟩:=q00 hF
 refine go ?_
 refine z6t (R:=fun u σ'=>∃ t16:Nat→Nat,u = .tup []∧σ'=⟨[(4,.vec (List.map (cI .i64) r14.2).flatten 3 1 (t16 0)),(3,.vec (List.map (cI .i64) r14.1).flatten 3 1 t13),(2,.row [.iM q02 p1.Nodes,.vl 3 t13 0 r14.1.length,.vl 4 (t16 0) 0 r14.2.length] 139),(1,.row [.nils] 24),(0,.row [.iM q02 p1.Nodes] 24)],5⟩) (args:=[.ptr 2 0 0,.i6 p2]) rfl (q3s rfl rfl fn88 hb88 rfl rfl) (EvU.st [2,3,4] (q9c n p2 p1.Nodes l12 ([]:List Int) r14 h15 t13 0)) rfl rfl ?_
 rintro _ _ ⟨t16,rfl,rfl⟩
 refine gr ?_
 refine gr ?_
 refine WPU.ghost (tm':=fr 88 [(2,.ptr 0 0 0),(4,.ptr 1 0 0),(5,.ptr 2 0 0),(7,.ptr 5 0 0),(8,.i6 0)]) (σ':=⟨[(6,.vec (List.map q02 ([]:List q0a)).flatten 54 2 0),(5,.row [.vl 6 0 0 (([]:List q0a).length)] 24),(4,.vec (List.map (cI .i64) r14.2).flatten 3 1 (t16 0)),(3,.vec (List.map (cI .i64) r14.1).flatten 3 1 t13),(2,.row [.iM q02 p1.Nodes,.vl 3 t13 0 r14.1.length,.vl 4 (t16 0) 0 r14.2.length] 139),(1,.row [.nils] 24),(0,.row [.iM q02 p1.Nodes] 24)],7⟩) (Gh.trans (z73 5 0 54 2 (by decide) NZ rfl rfl) (z6s ⟨rfl,rfl,rfl,rfl,rfl,trivial⟩ rfl)) NZ ?_
 refine gS (l':=[(2,_),(4,_),(5,_),(7,_),(8,_)]) ?_
 refine z6o (fun m tm σ=>∃ z26:Int,∃ l27:List q0a,∃ t28:Nat,q2p p1 n r14 m z26 l27=some r∧tm=fr 88 [(2,.ptr 0 0 0),(4,.ptr 1 0 0),(5,.ptr 2 0 0),(7,.ptr 5 0 0),(8,.i6 z26)]∧σ=⟨[(6,.vec (List.map q02 l27).flatten 54 2 t28),(5,.row [.vl 6 t28 0 l27.length] 24),(4,.vec (List.map (cI .i64) r14.2).flatten 3 1 (t16 0)),(3,.vec (List.map (cI .i64) r14.1).flatten 3 1 t13),(2,.row [.iM q02 p1.Nodes,.vl 3 t13 0 r14.1.length,.vl 4 (t16 0) 0 r14.2.length] 139),(1,.row [.nils] 24),(0,.row [.iM q02 p1.Nodes] 24)],7⟩) (fun tm σ=>∃ l29:List q0a,∃ t30:Nat,qaa l29=some r∧tm=fr 88 [(4,.ptr 1 0 0),(7,.ptr 5 0 0)]∧σ=⟨[(6,.vec (List.map q02 l29).flatten 54 2 t30),(5,.row [.vl 6 t30 0 l29.length] 24),(4,.vec (List.map (cI .i64) r14.2).flatten 3 1 (t16 0)),(3,.vec (List.map (cI .i64) r14.1).flatten 3 1 t13),(2,.row [.iM q02 p1.Nodes,.vl 3 t13 0 r14.1.length,.vl 4 (t16 0) 0 r14.2.length] 139),(1,.row [.nils] 24),(0,.row [.iM q02 p1.Nodes] 24)],7⟩) n ⟨0,([]:List q0a),0,hF,rfl,rfl⟩ ?_ ?_
 rintro _ _ ⟨l29,t30,hF,rfl,rfl⟩
 unfold qaa at hF
 refine go ?_
 obtain rfl:=sI hF
 exact rT (us:=[.agg [.vl 6 t30 0 l29.length]]) (u:=.agg [.iM q02 l29]) (qd9 (q61 un24.h rfl (q0i if24.h) rfl rfl rfl) (q1t)) (fR 6 2)
 rintro (_|m2) _ _ ⟨z26,l27,t28,hF,rfl,rfl⟩
 cases hF
 unfold q2p at hF
 refine go ?_
 refine RS.q (u:=.ptr 2 0 0) rfl (qev rfl rfl) ?_
 refine go ?_
 refine cF hF (fun h31 hF=>?_) (fun h31 hF=>?_)
 refine go ?_
 refine WPU.block ?_
 obtain ⟨x32,h33,hF⟩:=q00 hF
 obtain ⟨x34,h35,hF⟩:=q00 hF
 refine go ?_
 refine z6q Tryz.tb_ok [(0,11),(1,11),(2,11),(3,11),(4,11),(5,11),(6,11),(7,11),(8,11),(9,11),(10,11)] (by kernel_rfl) ?_
 refine gd ?_
 refine RD.q (u:=.ptr 2 0 0) rfl (qev rfl rfl) ?_
 refine gd ?_
 refine RD.q rfl (q2v rfl rfl (q94 (cI .i64) un33.h (q0i if3.h) (by decide) (q6o .i64) (vo rfl) h33)) ?_
 refine RD.q rfl (q5v (cI .i64) (fun x=>.i6 x) un3.h rfl (fun _=>rfl) rfl rfl h33) ?_
 refine RD.ix h35 ?_
 refine gd ?_
 refine RD.g ?_
 refine RD.gz ?_
 refine RD.done ⟨by kernel_rfl,⟨qbu un24.h rfl (q0i if22.h) rfl rfl rfl,⟨qaq un22.h rfl rfl rfl rfl,⟨q3h rfl,⟨qev rfl rfl,⟨qbu un139.h rfl (q0i if33.h) rfl rfl rfl,⟨qaq un33.h rfl rfl rfl rfl,⟨q3h rfl,⟨q2v rfl rfl (q94 (cI .i64) un33.h (q0i if3.h) (by decide) (q6o .i64) (vo rfl) h33),⟨q5v (cI .i64) (fun x=>.i6 x) un3.h rfl (fun _=>rfl) rfl rfl h33,⟨q2v rfl rfl (quu q02 un22.h (q0i if54.h) qga h35 rfl),⟨z4l un54.h rfl (q0i if54.h) rfl rfl,trivial⟩⟩⟩⟩⟩⟩⟩⟩⟩⟩⟩,?_⟩
 obtain ⟨r36,h37,hF⟩:=q00 hF
 refine go ?_
 refine z6t (R:=fun u σ'=>u = .vl 8 0 0 r36.length∧σ'=⟨[(8,.vec (List.map q08 r36).flatten 66 2 0),(7,.row (q02 x34) 54),(6,.vec (List.map q02 l27).flatten 54 2 t28),(5,.row [.vl 6 t28 0 l27.length] 24),(4,.vec (List.map (cI .i64) r14.2).flatten 3 1 (t16 0)),(3,.vec (List.map (cI .i64) r14.1).flatten 3 1 t13),(2,.row [.iM q02 p1.Nodes,.vl 3 t13 0 r14.1.length,.vl 4 (t16 0) 0 r14.2.length] 139),(1,.row [.nils] 24),(0,.row [.iM q02 p1.Nodes] 24)],9⟩) (args:=[.iM q08 x34.Arcs]) rfl (q3s rfl rfl fn89 hb89 rfl rfl) (z7e q08 (qgz n x34.Arcs r36 h37) _ 8 rfl) rfl rfl ?_
 rintro _ _ ⟨rfl,rfl⟩
 refine go ?_
 refine gS (l':=[(2,_),(4,_),(5,_),(7,_),(8,_),(9,_),(10,_),(11,_)]) ?_
 refine z6o (fun m tm σ=>∃ z52:Int,∃ l53:List q0f,q41 r14 z26 l27 (q2p p1 n r14 m2) x34 m z52 l53=some r∧tm=fr 88 [(2,.ptr 0 0 0),(4,.ptr 1 0 0),(5,.ptr 2 0 0),(7,.ptr 5 0 0),(8,.i6 z26),(9,.ptr 7 0 0),(10,.vl 8 0 0 l53.length),(11,.i6 z52)]∧σ=⟨[(8,.vec (List.map q08 l53).flatten 66 2 0),(7,.row (q02 x34) 54),(6,.vec (List.map q02 l27).flatten 54 2 t28),(5,.row [.vl 6 t28 0 l27.length] 24),(4,.vec (List.map (cI .i64) r14.2).flatten 3 1 (t16 0)),(3,.vec (List.map (cI .i64) r14.1).flatten 3 1 t13),(2,.row [.iM q02 p1.Nodes,.vl 3 t13 0 r14.1.length,.vl 4 (t16 0) 0 r14.2.length] 139),(1,.row [.nils] 24),(0,.row [.iM q02 p1.Nodes] 24)],9⟩) (fun tm σ=>∃ l54:List q0f,q7i z26 l27 (q2p p1 n r14 m2) x34 l54=some r∧tm=fr 88 [(2,.ptr 0 0 0),(4,.ptr 1 0 0),(5,.ptr 2 0 0),(7,.ptr 5 0 0),(8,.i6 z26),(9,.ptr 7 0 0),(10,.vl 8 0 0 l54.length)]∧σ=⟨[(8,.vec (List.map q08 l54).flatten 66 2 0),(7,.row (q02 x34) 54),(6,.vec (List.map q02 l27).flatten 54 2 t28),(5,.row [.vl 6 t28 0 l27.length] 24),(4,.vec (List.map (cI .i64) r14.2).flatten 3 1 (t16 0)),(3,.vec (List.map (cI .i64) r14.1).flatten 3 1 t13),(2,.row [.iM q02 p1.Nodes,.vl 3 t13 0 r14.1.length,.vl 4 (t16 0) 0 r14.2.length] 139),(1,.row [.nils] 24),(0,.row [.iM q02 p1.Nodes] 24)],9⟩) n ⟨0,r36,hF,rfl,rfl⟩ ?_ ?_
 rintro _ _ ⟨l54,hF,rfl,rfl⟩
 unfold q7i at hF
 refine gn ?_
 refine WPU.ghost (tm':=fr 88 [(2,.ptr 0 0 0),(4,.ptr 1 0 0),(5,.ptr 2 0 0),(7,.ptr 5 0 0),(8,.i6 z26),(9,.ptr 7 0 0),(10,.iM q08 l54)]) (σ':=⟨[(7,.row (q02 x34) 54),(6,.vec (List.map q02 l27).flatten 54 2 t28),(5,.row [.vl 6 t28 0 l27.length] 24),(4,.vec (List.map (cI .i64) r14.2).flatten 3 1 (t16 0)),(3,.vec (List.map (cI .i64) r14.1).flatten 3 1 t13),(2,.row [.iM q02 p1.Nodes,.vl 3 t13 0 r14.1.length,.vl 4 (t16 0) 0 r14.2.length] 139),(1,.row [.nils] 24),(0,.row [.iM q02 p1.Nodes] 24)],9⟩) (Gh.trans (Gh.sub (l':=[(2,.ptr 0 0 0),(4,.ptr 1 0 0),(5,.ptr 2 0 0),(7,.ptr 5 0 0),(8,.i6 z26),(9,.ptr 7 0 0),(10,.vl 8 0 0 l54.length)]) ⟨rfl,rfl,rfl,rfl,rfl,rfl,rfl,trivial⟩) (z7a 8 2)) NZ ?_
 obtain ⟨h55,hF⟩:=q06 hF
 refine go ?_
 refine RS.g ?_
 refine RS.g ?_
 refine go ?_
 exact lC ⟨_,(l27++[(q0a.mk x34.Typex l54)]),(t28+1),hF,rfl,rfl⟩
 rintro (_|m3) _ _ ⟨z52,l53,hF,rfl,rfl⟩
 cases hF
 unfold q41 at hF
 refine go ?_
 refine cF hF (fun h56 hF=>?_) (fun h56 hF=>?_)
 refine go ?_
 refine WPU.block ?_
 obtain ⟨x57,h58,hF⟩:=q00 hF
 obtain ⟨x59,h60,hF⟩:=q00 hF
 obtain ⟨x61,h62,hF⟩:=q00 hF
 refine gn ?_
 refine z6p (fun tm σ=>tm=fr 88 [(2,.ptr 0 0 0),(4,.ptr 1 0 0),(5,.ptr 2 0 0),(7,.ptr 5 0 0),(8,.i6 z26),(9,.ptr 7 0 0),(10,.vl 8 0 0 ((l53.set (0+z52.toNat) (q0f.mk x61.Feat x59)).length)),(11,.i6 z52)]∧σ=⟨[(8,.vec (List.map q08 (l53.set (0+z52.toNat) (q0f.mk x61.Feat x59))).flatten 66 2 0),(7,.row (q02 x34) 54),(6,.vec (List.map q02 l27).flatten 54 2 t28),(5,.row [.vl 6 t28 0 l27.length] 24),(4,.vec (List.map (cI .i64) r14.2).flatten 3 1 (t16 0)),(3,.vec (List.map (cI .i64) r14.1).flatten 3 1 t13),(2,.row [.iM q02 p1.Nodes,.vl 3 t13 0 r14.1.length,.vl 4 (t16 0) 0 r14.2.length] 139),(1,.row [.nils] 24),(0,.row [.iM q02 p1.Nodes] 24)],9⟩) ?_ ?_
 rintro _ _ ⟨rfl,rfl⟩
 refine go ?_
 exact lC ⟨_,(l53.set (0+z52.toNat) (q0f.mk x61.Feat x59)),hF,rfl,rfl⟩
 refine z6q Tryz.tb_ok [] (by kernel_rfl) ?_
 refine gd ?_
 refine RD.q (u:=.ptr 2 0 0) rfl (qev rfl rfl) ?_
 refine gd ?_
 refine RD.q rfl (q2v rfl rfl (q94 q08 un52.h (q0i if66.h) (by decide) q17 (vo rfl) h58)) ?_
 refine RD.q rfl (qbu un66.h rfl (q0i if3.h) rfl (qmx rfl) rfl) (RD.q (u:=.i6 x57.To) rfl (qz7 q08 un3.h rfl q17 rfl rfl (qky h58) rfl) ?_)
 refine RD.q rfl (q2v rfl rfl (q94 (cI .i64) un33.h (q0i if3.h) (by decide) (q6o .i64) (vo rfl) h60)) ?_
 refine RD.q rfl (q5v (cI .i64) (fun x=>.i6 x) un3.h rfl (fun _=>rfl) rfl rfl h60) ?_
 refine RD.q rfl (q2v rfl rfl (q94 q08 un52.h (q0i if66.h) (by decide) q17 (vo rfl) h62)) ?_
 refine RD.q rfl (qbu un66.h rfl (q0i if3.h) rfl (qmx rfl) rfl) (RD.actn (u:=.junk) (σ':=⟨[(8,.vec (List.map q08 (l53.set (0+z52.toNat) (q0f.mk x61.Feat x59))).flatten 66 2 0),(7,.row (q02 x34) 54),(6,.vec (List.map q02 l27).flatten 54 2 t28),(5,.row [.vl 6 t28 0 l27.length] 24),(4,.vec (List.map (cI .i64) r14.2).flatten 3 1 (t16 0)),(3,.vec (List.map (cI .i64) r14.1).flatten 3 1 t13),(2,.row [.iM q02 p1.Nodes,.vl 3 t13 0 r14.1.length,.vl 4 (t16 0) 0 r14.2.length] 139),(1,.row [.nils] 24),(0,.row [.iM q02 p1.Nodes] 24)],9⟩) rfl (st_vf (y:=(q0f.mk x61.Feat x59)) q08 (q0i if3.h) q17 rfl rfl rfl rfl rfl rfl (qky h62) rfl rfl) rfl ?_)
 refine RD.done ⟨by kernel_rfl,trivial,?_⟩
 refine go ?_
 exact ⟨_,_,⟨rfl,rfl⟩,NZ,z6s ⟨rfl,rfl,rfl,rfl,rfl,rfl,(by simp only [List.length_set]; rfl),rfl,trivial⟩ rfl⟩
 refine go ?_
 exact xC ⟨l53,hF,rfl,rfl⟩
 refine go ?_
 exact xC ⟨l27,t28,hF,rfl,rfl⟩
 rintro (_|m1) _ _ ⟨z9,l10,t11,hF,rfl,rfl⟩
 cases hF
 unfold q5p at hF
 refine go ?_
 refine cF hF (fun h63 hF=>?_) (fun h63 hF=>?_)
 refine go ?_
 refine WPU.block ?_
 obtain ⟨h64,hF⟩:=q06 hF
 refine go ?_
 refine RS.q (u:=.ptr 2 0 0) rfl (qev rfl rfl) ?_
 refine go ?_
 refine RS.g ?_
 refine RS.g ?_
 refine RS.q (u:=.ptr 2 0 0) rfl (qev rfl rfl) ?_
 refine go ?_
 exact lC ⟨_,(l10++[(-1)]),(t11+1),hF,rfl,rfl⟩
 refine go ?_
 exact xC ⟨l10,t11,hF,rfl,rfl⟩
def qb7 (n:Nat) (p1:GFS):Option (GFS×Int) :=
 q03 (qd8 n p1) fun r2 =>
 cond (r2 != 0)
  (some ((GFS.mk []),r2))
  (q03 (qd7 n p1 0) fun r5 =>
  some (r5,0))
theorem qqd (n:Nat) (p1:GFS) (r:GFS×Int) (hF:qb7 n p1=some r):EvU Tryz.prog 42 [.agg [.isl false (List.map q02 p1.Nodes)]] ⟨[],0⟩ (fun u _=>u = .tup [.agg [.isl false (List.map q02 r.1.Nodes)],.int .i64 r.2]∧Bel 0 u):=by
 unfold qb7 at hF
 refine bg1 13 fn42 ?_
 obtain ⟨r2,h3,hF⟩:=q00 hF
 refine go ?_
 refine RS.cl rfl (pC (qsc n p1 r2 h3) _) fn67 ?_
 refine go ?_
 refine cF hF (fun h4 hF=>?_) (fun h4 hF=>?_)
 refine go ?_
 obtain rfl:=sI hF
 exact rT (us:=[.agg [.nils],.i6 r2]) (u:=.tup [.agg [.isl false []],.i6 r2]) (qd9 (q61 un24.h rfl (q0i if24.h) rfl rfl rfl) (q1y rfl (q1t))) wR
 obtain ⟨r5,h6,hF⟩:=q00 hF
 refine go ?_
 refine RS.cl rfl (pC (qsa n p1 0 r5 h6) _) fn68 ?_
 refine go ?_
 obtain rfl:=sI hF
 exact rT (qd9 (q61 un24.h rfl (q0i if24.h) rfl rfl rfl) (q1y rfl (q1t))) (z6y _ rfl)
def q8u   : Option (Bool) :=
 some true
def q4p (p1:GFS):Nat→Int→Option (Bool)
 | 0,_=>none
 | m1+1,z5 =>
  cond (decide (z5<(p1.Nodes.length:Int)))
   (q03 (q0l p1.Nodes z5) fun x7 =>
   cond (decide ((x7.Arcs.length:Int) > 12))
    (some false)
    ((q4p p1 m1) (IntKind.i64.wrap (z5+1))))
   (q8u)
def qb8 (n:Nat) (p1:GFS):Option (Bool) :=
 cond (decide ((p1.Nodes.length:Int) > 12))
  (some false)
  (q4p p1 n 0)
theorem qqe (n:Nat) (p1:GFS) (r:Bool) (hF:qb8 n p1=some r):EvU Tryz.prog 41 [.agg [.isl false (List.map q02 p1.Nodes)]] ⟨[],0⟩ (fun u _=>u = .bool r∧Bel 0 u):=by
 unfold qb8 at hF
 refine bg1 23 fn41 ?_
 refine go ?_
 refine cF hF (fun h2 hF=>?_) (fun h2 hF=>?_)
 exact gx hF
 refine go ?_
 refine gS (l':=[(1,_),(3,_)]) ?_
 refine z6o (fun m tm σ=>∃ z5:Int,q4p p1 m z5=some r∧tm=fr 23 [(1,.ptr 0 0 0),(3,.i6 z5)]∧σ=⟨[(0,.row [.iM q02 p1.Nodes] 24)],1⟩) (fun tm σ=>q8u=some r∧tm=fr 23 []∧σ=⟨[(0,.row [.iM q02 p1.Nodes] 24)],1⟩) n ⟨0,hF,rfl,rfl⟩ ?_ ?_
 rintro _ _ ⟨hF,rfl,rfl⟩
 unfold q8u at hF
 exact gx hF
 rintro (_|m1) _ _ ⟨z5,hF,rfl,rfl⟩
 cases hF
 unfold q4p at hF
 refine go ?_
 refine cF hF (fun h6 hF=>?_) (fun h6 hF=>?_)
 refine go ?_
 refine WPU.block ?_
 obtain ⟨x7,h8,hF⟩:=q00 hF
 refine go ?_
 refine RS.ix h8 ?_
 refine go ?_
 refine cF hF (fun h9 hF=>?_) (fun h9 hF=>?_)
 exact gx hF
 refine go ?_
 exact lC ⟨_,hF,rfl,rfl⟩
 refine go ?_
 exact xC ⟨hF,rfl,rfl⟩
def q6d (z6:Int) (rc1:Int→(List Int)→Option ((List Int))) (l28:List Int):Option ((List Int)) :=
 rc1 (IntKind.i64.wrap (z6+1)) l28
def q38 (z6:Int) (rc1:Int→(List Int)→Option ((List Int))) (x12:q0a):Nat→Int→(List Int)→Option ((List Int))
 | 0,_,_=>none
 | m2+1,z25,l26 =>
  cond (decide (z25<(x12.Arcs.length:Int)))
   (q03 (q0l x12.Arcs z25) fun x31 =>
   q03 (q0l x12.Arcs z25) fun x33 =>
   q0w ((l26.length+2)*8≤140737488355328∧l26.length+2≤140737488355328) (
   (q38 z6 rc1 x12 m2) (IntKind.i64.wrap (z25+1)) (l26++[x31.Feat,x33.To])))
   (q6d z6 rc1 l26)
def q6c  (l9:List Int):Option ((List Int)) :=
 some l9
def q1q (p1:GFS) (n:Nat):Nat→Int→(List Int)→Option ((List Int))
 | 0,_,_=>none
 | m1+1,z6,l7 =>
  cond (decide (z6<(p1.Nodes.length:Int)))
   (q03 (q0l p1.Nodes z6) fun x12 =>
   q03 (q0l p1.Nodes z6) fun x14 =>
   q0w ((l7.length+2)*8≤140737488355328∧l7.length+2≤140737488355328) (
   q38 z6 (q1q p1 n m1) x12 n 0 (l7++[x14.Typex,(x12.Arcs.length:Int)])))
   (q6c l7)
def q5s (n:Nat) (p1:GFS):Option ((List Int)) :=
 q1q p1 n n 0 ([(p1.Nodes.length:Int)])
theorem qfx (n:Nat) (p1:GFS) (r:(List Int)) (hF:q5s n p1=some r):EvU Tryz.prog 70 [.agg [.isl false (List.map q02 p1.Nodes)]] ⟨[],0⟩ (fun u _=>u = .isl false (List.map (cI .i64) r)∧Bel 0 u):=by
 unfold q5s at hF
 refine bg1 55 fn70 ?_
 refine go ?_
 refine z7c (u:=.vl 1 0 0 ([(p1.Nodes.length:Int)].length)) (σ':=⟨[(1,.vec (List.map (cI .i64) ([(p1.Nodes.length:Int)])).flatten 3 1 0),(0,.row [.iM q02 p1.Nodes] 24)],2⟩) rfl (qey.bslv (cs:=(List.map (cI .i64) [(p1.Nodes.length:Int)]).flatten) Tryz.tb_ok rfl un33.h if3.h rfl rfl rfl rfl rfl rfl rfl rfl) rfl rfl ?_
 refine go ?_
 refine gS (l':=[(1,_),(3,_),(4,_)]) ?_
 refine z6o (fun m tm σ=>∃ z6:Int,∃ l7:List Int,∃ t8:Nat,q1q p1 n m z6 l7=some r∧tm=fr 55 [(1,.ptr 0 0 0),(3,.vl 1 t8 0 l7.length),(4,.i6 z6)]∧σ=⟨[(1,.vec (List.map (cI .i64) l7).flatten 3 1 t8),(0,.row [.iM q02 p1.Nodes] 24)],2⟩) (fun tm σ=>∃ l9:List Int,∃ t10:Nat,q6c l9=some r∧tm=fr 55 [(3,.vl 1 t10 0 l9.length)]∧σ=⟨[(1,.vec (List.map (cI .i64) l9).flatten 3 1 t10),(0,.row [.iM q02 p1.Nodes] 24)],2⟩) n ⟨0,[(p1.Nodes.length:Int)],0,hF,rfl,rfl⟩ ?_ ?_
 rintro _ _ ⟨l9,t10,hF,rfl,rfl⟩
 unfold q6c at hF
 refine go ?_
 obtain rfl:=sI hF
 exact rT (us:=[.vl 1 t10 0 l9.length]) (u:=.iM (cI .i64) l9) (q1y rfl (q1t)) (fR 1 1)
 rintro (_|m1) _ _ ⟨z6,l7,t8,hF,rfl,rfl⟩
 cases hF
 unfold q1q at hF
 refine go ?_
 refine cF hF (fun h11 hF=>?_) (fun h11 hF=>?_)
 refine go ?_
 refine WPU.block ?_
 obtain ⟨x12,h13,hF⟩:=q00 hF
 refine go ?_
 refine RS.ix h13 ?_
 obtain ⟨x14,h15,hF⟩:=q00 hF
 obtain ⟨h16,hF⟩:=q06 hF
 refine go ?_
 refine RS.ix h15 ?_
 refine go ?_
 refine RS.g ?_
 refine RS.q (u:=.vl 1 (t8+1) 0 ((l7++[x14.Typex,(x12.Arcs.length:Int)]).length)) (σ':=⟨[(2,.row [.i6 x14.Typex,.i6 (x12.Arcs.length:Int)] 3),(1,.vec (List.map (cI .i64) (l7++[x14.Typex,(x12.Arcs.length:Int)])).flatten 3 1 (t8+1)),(0,.row [.iM q02 p1.Nodes] 24)],3⟩) rfl (qd1 rfl rfl rfl rfl (qm4 (cI .i64) ([x14.Typex,(x12.Arcs.length:Int)]) un33.h un33.h if3.h rfl (q6o .i64) rfl (qu5 (cI .i64) [x14.Typex,(x12.Arcs.length:Int)] rfl rfl rfl rfl) h16)) ?_
 refine go ?_
 refine gS (l':=[(1,_),(3,_),(4,_),(5,_),(6,_)]) ?_
 refine z6o (fun m tm σ=>∃ z25:Int,∃ l26:List Int,∃ t27:Nat,q38 z6 (q1q p1 n m1) x12 m z25 l26=some r∧tm=fr 55 [(1,.ptr 0 0 0),(3,.vl 1 t27 0 l26.length),(4,.i6 z6),(5,.iM q08 x12.Arcs),(6,.i6 z25)]∧σ=⟨[(2,.row [.i6 x14.Typex,.i6 (x12.Arcs.length:Int)] 3),(1,.vec (List.map (cI .i64) l26).flatten 3 1 t27),(0,.row [.iM q02 p1.Nodes] 24)],3⟩) (fun tm σ=>∃ l28:List Int,∃ t29:Nat,q6d z6 (q1q p1 n m1) l28=some r∧tm=fr 55 [(1,.ptr 0 0 0),(3,.vl 1 t29 0 l28.length),(4,.i6 z6)]∧σ=⟨[(2,.row [.i6 x14.Typex,.i6 (x12.Arcs.length:Int)] 3),(1,.vec (List.map (cI .i64) l28).flatten 3 1 t29),(0,.row [.iM q02 p1.Nodes] 24)],3⟩) n ⟨0,(l7++[x14.Typex,(x12.Arcs.length:Int)]),(t8+1),hF,rfl,rfl⟩ ?_ ?_
 rintro _ _ ⟨l28,t29,hF,rfl,rfl⟩
 unfold q6d at hF
 refine go ?_
 exact lC ⟨_,l28,t29,hF,rfl,rfl⟩
 rintro (_|m2) _ _ ⟨z25,l26,t27,hF,rfl,rfl⟩
 cases hF
 unfold q38 at hF
 refine go ?_
 refine cF hF (fun h30 hF=>?_) (fun h30 hF=>?_)
 refine go ?_
 refine WPU.block ?_
 obtain ⟨x31,h32,hF⟩:=q00 hF
 obtain ⟨x33,h34,hF⟩:=q00 hF
 obtain ⟨h35,hF⟩:=q06 hF
 refine go ?_
 refine z6q Tryz.tb_ok [(0,11)] (by kernel_rfl) ?_
 refine gd ?_
 refine RD.ix h32 ?_
 refine gd ?_
 refine RD.ix h34 ?_
 refine gd ?_
 refine RD.g ?_
 refine RD.act (u:=.vl 1 (t27+1) 0 ((l26++[x31.Feat,x33.To]).length)) (σ':=⟨[(3,.row [.i6 x31.Feat,.i6 x33.To] 3),(2,.row [.i6 x14.Typex,.i6 (x12.Arcs.length:Int)] 3),(1,.vec (List.map (cI .i64) (l26++[x31.Feat,x33.To])).flatten 3 1 (t27+1)),(0,.row [.iM q02 p1.Nodes] 24)],4⟩) rfl (qd1 rfl rfl rfl rfl (qm4 (cI .i64) ([x31.Feat,x33.To]) un33.h un33.h if3.h rfl (q6o .i64) rfl (qu5 (cI .i64) [x31.Feat,x33.To] rfl rfl rfl rfl) h35)) rfl rfl ?_
 refine gd ?_
 refine RD.done ⟨by kernel_rfl,⟨q3h rfl,trivial⟩,?_⟩
 refine go ?_
 exact lC ⟨_,(l26++[x31.Feat,x33.To]),(t27+1),hF,rfl,rfl⟩
 refine go ?_
 exact xC ⟨l26,t27,hF,rfl,rfl⟩
 refine go ?_
 exact xC ⟨l7,t8,hF,rfl,rfl⟩
def q48   : Option (Int) :=
 some 0
def q37 (r3:(List Int)) (r5:(List Int)):Nat→Int→Option (Int)
 | 0,_=>none
 | m1+1,z12 =>
  q03 (cond (decide (z12<(r3.length:Int)))
   (some (decide (z12<(r5.length:Int))))
   (some false)) fun b14 =>
  cond b14
   (q03 (q0l r3 z12) fun x17 =>
   q03 (q0l r5 z12) fun x19 =>
   cond (decide (x17<x19))
    (some (-1))
    (q03 (q0l r3 z12) fun x22 =>
    q03 (q0l r5 z12) fun x24 =>
    cond (decide (x22 > x24))
     (some 1)
     ((q37 r3 r5 m1) (IntKind.i64.wrap (z12+1)))))
   (q48)
def q7g (n:Nat) (p1:GFS) (p2:GFS):Option (Int) :=
 q03 (q5s n p1) fun r3 =>
 q03 (q5s n p2) fun r5 =>
 q37 r3 r5 n 0
theorem qne (n:Nat) (p1:GFS) (p2:GFS) (r:Int) (hF:q7g n p1 p2=some r):EvU Tryz.prog 50 [.agg [.isl false (List.map q02 p1.Nodes)],.agg [.isl false (List.map q02 p2.Nodes)]] ⟨[],0⟩ (fun u _=>u = .int .i64 r∧Bel 0 u):=by
 unfold q7g at hF
 refine bg2 42 fn50 ?_
 obtain ⟨r3,h4,hF⟩:=q00 hF
 refine go ?_
 refine RS.cl rfl (pC (qfx n p1 r3 h4) _) fn70 ?_
 obtain ⟨r5,h6,hF⟩:=q00 hF
 refine go ?_
 refine RS.cl rfl (pC (qfx n p2 r5 h6) _) fn70 ?_
 refine go ?_
 refine gS (l':=[(5,_),(6,_),(7,_)]) ?_
 refine z6o (fun m tm σ=>∃ z12:Int,q37 r3 r5 m z12=some r∧tm=fr 42 [(5,.iM (cI .i64) r3),(6,.iM (cI .i64) r5),(7,.i6 z12)]∧σ=⟨[(1,.row [.iM q02 p2.Nodes] 24),(0,.row [.iM q02 p1.Nodes] 24)],2⟩) (fun tm σ=>q48=some r∧tm=fr 42 []∧σ=⟨[(1,.row [.iM q02 p2.Nodes] 24),(0,.row [.iM q02 p1.Nodes] 24)],2⟩) n ⟨0,hF,rfl,rfl⟩ ?_ ?_
 rintro _ _ ⟨hF,rfl,rfl⟩
 unfold q48 at hF
 exact gx hF
 rintro (_|m1) _ _ ⟨z12,hF,rfl,rfl⟩
 cases hF
 unfold q37 at hF
 obtain ⟨b14,h15,hF⟩:=q00 hF
 refine gn ?_
 refine z6p (fun tm σ=>tm=fr 42 [(5,.iM (cI .i64) r3),(6,.iM (cI .i64) r5),(7,.i6 z12),(21,.bool b14)]∧σ=⟨[(1,.row [.iM q02 p2.Nodes] 24),(0,.row [.iM q02 p1.Nodes] 24)],2⟩) ?_ ?_
 rintro _ _ ⟨rfl,rfl⟩
 refine go ?_
 refine cF hF (fun h16 hF=>?_) (fun h16 hF=>?_)
 refine go ?_
 refine WPU.block ?_
 obtain ⟨x17,h18,hF⟩:=q00 hF
 obtain ⟨x19,h20,hF⟩:=q00 hF
 refine go ?_
 refine z6q Tryz.tb_ok [] (by kernel_rfl) ?_
 refine gd ?_
 refine RD.ix h18 ?_
 refine gd ?_
 refine RD.ix h20 ?_
 refine gd ?_
 refine RD.done ⟨by kernel_rfl,trivial,?_⟩
 refine go ?_
 refine cF hF (fun h21 hF=>?_) (fun h21 hF=>?_)
 exact gx hF
 obtain ⟨x22,h23,hF⟩:=q00 hF
 obtain ⟨x24,h25,hF⟩:=q00 hF
 refine go ?_
 refine z6q Tryz.tb_ok [] (by kernel_rfl) ?_
 refine gd ?_
 refine RD.ix h23 ?_
 refine gd ?_
 refine RD.ix h25 ?_
 refine gd ?_
 refine RD.done ⟨by kernel_rfl,trivial,?_⟩
 refine go ?_
 refine cF hF (fun h26 hF=>?_) (fun h26 hF=>?_)
 exact gx hF
 refine go ?_
 exact lC ⟨_,hF,rfl,rfl⟩
 refine go ?_
 exact xC ⟨hF,rfl,rfl⟩
 rcases gB h15 with ⟨h13,h15⟩ | ⟨h13,h15⟩
 exact gy h15
 exact gy h15
def q56 (n:Nat) (p1:GFS) (p2:GFS):Option (Bool) :=
 q03 (q7g n p1 p2) fun r3 =>
 some (r3 == 0)
theorem q0v (n:Nat) (p1:GFS) (p2:GFS) (r:Bool) (hF:q56 n p1 p2=some r):EvU Tryz.prog 21 [.agg [.isl false (List.map q02 p1.Nodes)],.agg [.isl false (List.map q02 p2.Nodes)]] ⟨[],0⟩ (fun u _=>u = .bool r∧Bel 0 u):=by
 unfold q56 at hF
 refine bg2 9 fn21 ?_
 obtain ⟨r3,h4,hF⟩:=q00 hF
 refine go ?_
 refine RS.cl rfl (pC (qne n p1 p2 r3 h4) _) fn50 ?_
 exact gx hF
def qfm   : Option (Int×Bool) :=
 some (0,false)
def q97 (p3:Int) (x4:q0a):Nat→Int→Option (Int×Bool)
 | 0,_=>none
 | m1+1,z11 =>
  cond (decide (z11<(x4.Arcs.length:Int)))
   (q03 (q0l x4.Arcs z11) fun x13 =>
   cond (x13.Feat == p3)
    (some (x13.To,true))
    ((q97 p3 x4 m1) (IntKind.i64.wrap (z11+1))))
   (qfm)
def qd5 (n:Nat) (p1:GFS) (p2:Int) (p3:Int):Option (Int×Bool) :=
 q03 (q0l p1.Nodes p2) fun x4 =>
 q97 p3 x4 n 0
theorem qts (n:Nat) (p1:GFS) (p2:Int) (p3:Int) (r:Int×Bool) (hF:qd5 n p1 p2 p3=some r):EvU Tryz.prog 59 [.agg [.isl false (List.map q02 p1.Nodes)],.int .i64 p2,.int .i64 p3] ⟨[],0⟩ (fun u _=>u = .tup [.int .i64 r.1,.bool r.2]∧Bel 0 u):=by
 unfold qd5 at hF
 refine bg3 28 fn59 ?_
 obtain ⟨x4,h5,hF⟩:=q00 hF
 refine go ?_
 refine RS.ix h5 ?_
 refine go ?_
 refine gS (l':=[(2,_),(15,_),(16,_),(17,_)]) ?_
 refine z6o (fun m tm σ=>∃ z11:Int,q97 p3 x4 m z11=some r∧tm=fr 28 [(2,.i6 p3),(15,.iM q08 x4.Arcs),(16,.i6 (x4.Arcs.length:Int)),(17,.i6 z11)]∧σ=⟨[(0,.row [.iM q02 p1.Nodes] 24)],1⟩) (fun tm σ=>qfm=some r∧tm=fr 28 []∧σ=⟨[(0,.row [.iM q02 p1.Nodes] 24)],1⟩) n ⟨0,hF,rfl,rfl⟩ ?_ ?_
 rintro _ _ ⟨hF,rfl,rfl⟩
 unfold qfm at hF
 refine go ?_
 obtain rfl:=sI hF
 exact rt2 rfl rfl rfl rfl rfl
 rintro (_|m1) _ _ ⟨z11,hF,rfl,rfl⟩
 cases hF
 unfold q97 at hF
 refine go ?_
 refine cF hF (fun h12 hF=>?_) (fun h12 hF=>?_)
 refine go ?_
 refine WPU.block ?_
 obtain ⟨x13,h14,hF⟩:=q00 hF
 refine go ?_
 refine RS.ix h14 ?_
 refine go ?_
 refine cF hF (fun h15 hF=>?_) (fun h15 hF=>?_)
 refine go ?_
 obtain rfl:=sI hF
 exact rt2 rfl rfl rfl rfl rfl
 refine go ?_
 exact lC ⟨_,hF,rfl,rfl⟩
 refine go ?_
 exact xC ⟨hF,rfl,rfl⟩
def qk7  (z10:Int):Option (Int×Bool) :=
 some (z10,true)
def qd2 (p1:GFS) (p2:List Int) (n:Nat):Nat→Int→Int→Option (Int×Bool)
 | 0,_,_=>none
 | m1+1,z8,z9 =>
  cond (decide (z9<(p2.length:Int)))
   (q03 (q0l p2 z9) fun x12 =>
   q03 (qd5 n p1 z8 x12) fun r14 =>
   cond (!r14.2)
    (some (0,false))
    ((qd2 p1 p2 n m1) r14.1 (IntKind.i64.wrap (z9+1))))
   (qk7 z8)
def qk6 (n:Nat) (p1:GFS) (p2:List Int):Option (Int×Bool) :=
 qd2 p1 p2 n n 0 0
theorem qn5 (n:Nat) (p1:GFS) (p2:List Int) (r:Int×Bool) (hF:qk6 n p1 p2=some r):EvU Tryz.prog 30 [.agg [.isl false (List.map q02 p1.Nodes)],.isl false (List.map (cI .i64) p2)] ⟨[],0⟩ (fun u _=>u = .tup [.int .i64 r.1,.bool r.2]∧Bel 0 u):=by
 unfold qk6 at hF
 refine bg2 29 fn30 ?_
 refine go ?_
 refine gS (l':=[(2,_),(6,_),(11,_),(12,_),(13,_)]) ?_
 refine z6o (fun m tm σ=>∃ z8:Int,∃ z9:Int,qd2 p1 p2 n m z8 z9=some r∧tm=fr 29 [(2,.ptr 0 0 0),(6,.i6 z8),(11,.iM (cI .i64) p2),(12,.i6 (p2.length:Int)),(13,.i6 z9)]∧σ=⟨[(0,.row [.iM q02 p1.Nodes] 24)],1⟩) (fun tm σ=>∃ z10:Int,qk7 z10=some r∧tm=fr 29 [(6,.i6 z10)]∧σ=⟨[(0,.row [.iM q02 p1.Nodes] 24)],1⟩) n ⟨0,0,hF,rfl,rfl⟩ ?_ ?_
 rintro _ _ ⟨z10,hF,rfl,rfl⟩
 unfold qk7 at hF
 refine go ?_
 obtain rfl:=sI hF
 exact rt2 rfl rfl rfl rfl rfl
 rintro (_|m1) _ _ ⟨z8,z9,hF,rfl,rfl⟩
 cases hF
 unfold qd2 at hF
 refine go ?_
 refine cF hF (fun h11 hF=>?_) (fun h11 hF=>?_)
 refine go ?_
 refine WPU.block ?_
 obtain ⟨x12,h13,hF⟩:=q00 hF
 refine go ?_
 refine RS.ix h13 ?_
 obtain ⟨r14,h15,hF⟩:=q00 hF
 refine go ?_
 refine RS.cl rfl (pC (qts n p1 z8 x12 r14 h15) _) fn59 ?_
 refine go ?_
 refine cF hF (fun h16 hF=>?_) (fun h16 hF=>?_)
 refine go ?_
 obtain rfl:=sI hF
 exact rt2 rfl rfl rfl rfl rfl
 refine go ?_
 exact lC ⟨r14.1,(IntKind.i64.wrap (z9+1)),hF,rfl,rfl⟩
 refine go ?_
 exact xC ⟨z8,hF,rfl,rfl⟩
def qiz (n:Nat) (p1:GFS) (p2:List Int):Option (GFS×Bool) :=
 q03 (qk6 n p1 p2) fun r3 =>
 cond (!r3.2)
  (some ((GFS.mk []),false))
  (q03 (qil n p1 r3.1) fun r6 =>
  some (r6,true))
theorem qww (n:Nat) (p1:GFS) (p2:List Int) (r:GFS×Bool) (hF:qiz n p1 p2=some r):EvU Tryz.prog 34 [.agg [.isl false (List.map q02 p1.Nodes)],.isl false (List.map (cI .i64) p2)] ⟨[],0⟩ (fun u _=>u = .tup [.agg [.isl false (List.map q02 r.1.Nodes)],.bool r.2]∧Bel 0 u):=by
 unfold qiz at hF
 refine bg2 20 fn34 ?_
 obtain ⟨r3,h4,hF⟩:=q00 hF
 refine go ?_
 refine RS.cl rfl (pC (qn5 n p1 p2 r3 h4) _) fn30 ?_
 refine go ?_
 refine cF hF (fun h5 hF=>?_) (fun h5 hF=>?_)
 refine go ?_
 obtain rfl:=sI hF
 exact rT (us:=[.agg [.nils],.bool false]) (u:=.tup [.agg [.isl false []],.bool false]) (qd9 (q61 un24.h rfl (q0i if24.h) rfl rfl rfl) (q1y rfl (q1t))) wR
 obtain ⟨r6,h7,hF⟩:=q00 hF
 refine go ?_
 refine RS.cl rfl (pC (qta n p1 r3.1 r6 h7) _) fn62 ?_
 refine go ?_
 obtain rfl:=sI hF
 exact rT (qd9 (q61 un24.h rfl (q0i if24.h) rfl rfl rfl) (q1y rfl (q1t))) (z6y _ rfl)
def qn6 (n:Nat) (p1:GFS) (p2:List Int):Option (Int×Bool) :=
 q03 (qk6 n p1 p2) fun r3 =>
 cond (!r3.2)
  (some (0,false))
  (q03 (q0l p1.Nodes r3.1) fun x6 =>
  some (x6.Typex,true))
theorem qtr (n:Nat) (p1:GFS) (p2:List Int) (r:Int×Bool) (hF:qn6 n p1 p2=some r):EvU Tryz.prog 36 [.agg [.isl false (List.map q02 p1.Nodes)],.isl false (List.map (cI .i64) p2)] ⟨[],0⟩ (fun u _=>u = .tup [.int .i64 r.1,.bool r.2]∧Bel 0 u):=by
 unfold qn6 at hF
 refine bg2 22 fn36 ?_
 obtain ⟨r3,h4,hF⟩:=q00 hF
 refine go ?_
 refine RS.cl rfl (pC (qn5 n p1 p2 r3 h4) _) fn30 ?_
 refine go ?_
 refine cF hF (fun h5 hF=>?_) (fun h5 hF=>?_)
 refine go ?_
 obtain rfl:=sI hF
 exact rt2 rfl rfl rfl rfl rfl
 obtain ⟨x6,h7,hF⟩:=q00 hF
 refine go ?_
 refine RS.ix h7 ?_
 refine go ?_
 obtain rfl:=sI hF
 exact rt2 rfl rfl rfl rfl rfl
def qby (n:Nat) (p1:GFS):Option ((List q0a)) :=
 some p1.Nodes
theorem qlf (n:Nat) (p1:GFS) (r:(List q0a)) (hF:qby n p1=some r):EvU Tryz.prog 46 [.agg [.isl false (List.map q02 p1.Nodes)]] ⟨[],0⟩ (fun u σ'=>∃ t:Nat→Nat,u = .fn (.func 69) [] [.iptr [.isl false (List.map q02 r)]]∧σ'=⟨[],0⟩):=by
 unfold qby at hF
 refine bg1 4 fn46 ?_
 refine go ?_
 refine RS.q rfl (qvb rfl rfl) ?_
 refine go ?_
 obtain rfl:=sI hF
 exact ⟨.inr rfl,[.fn (.func 69) [] [.ptr 0 0 0]],q1y rfl (q1t),.fn (.func 69) [] [.iptr [.iM q02 p1.Nodes]],⟨[],0⟩,NL,Gh.trans (z6r 0 1) (z7b (n1:=0) [] rfl rfl NL NL BUL.h BH.h),stF [],rfl,rfl⟩
def q6f (n:Nat) (p1:List Int):Option ((List Int)) :=
 z5i p1 fun b2 =>
 cond b2
  (some ([]:List Int))
  (q0w (p1.length*8≤140737488355328∧p1.length≤140737488355328) (
  some p1))
theorem qbm (n:Nat) (p1:List Int) (r:(List Int)) (hF:q6f n p1=some r):EvU Tryz.prog 48 [.isl false (List.map (cI .i64) p1)] ⟨[],0⟩ (fun u σ'=>∃ t,u = .vl 1 t 0 r.length∧σ'=⟨[(1,.vec (List.map (cI .i64) r).flatten 3 1 t)],1+1⟩):=by
 unfold q6f at hF
 refine bg1 8 fn48 ?_
 refine go ?_
 refine RS.nilq rfl rfl un33.h rfl rfl rfl rfl ?_
 intro b2 h3
 replace hF:=qwe hF b2 fun h=>List.map_eq_nil_iff.1 (h3 h)
 refine go ?_
 refine cF hF (fun h4 hF=>?_) (fun h4 hF=>?_)
 refine go ?_
 obtain rfl:=sI hF
 exact ⟨.inr rfl,[.nils],q1y rfl q1t,.vl 1 0 0 0,⟨[(1,.vec (List.map (cI .i64) ([]:List Int)).flatten 3 1 0)],2⟩,NZ,Gh.trans (Gh.fresh (tm:=[.nils]) 3 1 (by decide) NZ) (Gh.trans (Gh.nilvec (tm:=[.nils]) 0 3 1 (by decide) NZ rfl) (Gh.trans (z79 (fun k=>Nat.beq k 1)) (z7b (n1:=2) [] rfl rfl NZ NL BUL.h BH.h))),0,rfl,rfl⟩
 obtain ⟨h5,hF⟩:=q06 hF
 refine go ?_
 refine RS.q (u:=.sl 0 0 0 0) (σ':=⟨[(0,.row [] 3)],1⟩) rfl (q7q un33.h if3.h rfl rfl rfl rfl rfl rfl rfl) ?_
 refine go ?_
 refine RS.q (u:=.vl 1 0 0 p1.length) (σ':=⟨[(1,.vec (List.map (cI .i64) p1).flatten 3 1 0),(0,.row [] 3)],2⟩) rfl (qd1 rfl rfl rfl rfl (qt0 (cI .i64) p1 un33.h un33.h if3.h rfl rfl rfl (qko (cI .i64) (q6o .i64)) h5)) ?_
 refine go ?_
 obtain rfl:=sI hF
 exact ⟨.inr rfl,[.vl 1 0 0 p1.length],q1y rfl q1t,.vl 1 0 0 p1.length,⟨[(1,.vec (List.map (cI .i64) p1).flatten 3 1 0)],2⟩,NZ,Gh.trans (z79 (fun k=>Nat.beq k 1)) (z7b (n1:=2) [] rfl rfl NZ NL BUL.h BH.h),0,rfl,rfl⟩
def q9t (z51:Int) (rc4:Int→(List (List Int))→(List Int)→(List Bool)→Option ((List (List Int)))) (l68:List (List Int)) (l70:List Int) (l72:List Bool):Option ((List (List Int))) :=
 rc4 (IntKind.i64.wrap (z51+1)) l68 l70 l72
def qds (z17:Int) (l23:List (List Int)) (rc2:Int→(List (List Int))→(List Int)→(List Bool)→(List (List Int))→Option ((List (List Int)))) (x32:Int) (x34:List Int) (l57:List (List Int)) (l59:List Int) (l61:List Bool):Option ((List (List Int))) :=
 rc2 (IntKind.i64.wrap (z17+1)) l57 l59 l61 (l23.set x32.toNat x34)
def q5e (n:Nat) (r3:(List q0a)) (z17:Int) (l23:List (List Int)) (rc2:Int→(List (List Int))→(List Int)→(List Bool)→(List (List Int))→Option ((List (List Int)))) (x32:Int) (x34:List Int) (x38:q0a):Nat→Int→(List (List Int))→(List Int)→(List Bool)→Option ((List (List Int)))
 | 0,_,_,_,_=>none
 | m4+1,z51,l52,l54,l56 =>
  cond (decide (z51<(x38.Arcs.length:Int)))
   (q03 (q0l x38.Arcs z51) fun x63 =>
   q03 (qjz l56 0 ((r3.length:Int).toNat) x63.To) fun x65 =>
   cond (!x65)
    (q03 (qjz l56 0 ((r3.length:Int).toNat) x63.To) fun x73 =>
    q0w ((l54.length+1)*8≤140737488355328∧l54.length+1≤140737488355328) (
    q03 (q0l l52 z17) fun x76 =>
    q03 (q6f n x76) fun r78 =>
    q0w ((r78.length+([x63.Feat]).length)*8≤140737488355328∧r78.length+([x63.Feat]).length≤140737488355328) (
    q0w ((l52.length+1)*24≤140737488355328∧l52.length+1≤140737488355328) (
    q9t z51 (q5e n r3 z17 l23 rc2 x32 x34 x38 m4) (l52++[(r78++[x63.Feat])]) (l54++[x63.To]) (l56.set x63.To.toNat true)))))
    (q9t z51 (q5e n r3 z17 l23 rc2 x32 x34 x38 m4) l52 l54 l56))
   (qds z17 l23 rc2 x32 x34 l52 l54 l56)
def qdt (n:Nat) (r3:(List q0a)) (z17:Int) (l18:List (List Int)) (l20:List Int) (l22:List Bool) (l23:List (List Int)) (rc2:Int→(List (List Int))→(List Int)→(List Bool)→(List (List Int))→Option ((List (List Int)))) (x32:Int) (x34:List Int)  : Option ((List (List Int))) :=
 q03 (q0l l20 z17) fun x36 =>
 q03 (q0l r3 x36) fun x38 =>
 q5e n r3 z17 l23 rc2 x32 x34 x38 n 0 l18 l20 l22
def qdr (p1:GFS) (l24:List (List Int)) (l26:List Int) (l28:List Bool) (l29:List (List Int)):Option ((List (List Int))) :=
 q0w ((p1.Nodes.length:Int).toNat=l29.length) (
 some l29)
def q3c (p1:GFS) (n:Nat) (r3:(List q0a)):Nat→Int→(List (List Int))→(List Int)→(List Bool)→(List (List Int))→Option ((List (List Int)))
 | 0,_,_,_,_,_=>none
 | m2+1,z17,l18,l20,l22,l23 =>
  cond (decide (z17<(l20.length:Int)))
   (q03 (q0l l20 z17) fun x32 =>
   q03 (q0l l18 z17) fun x34 =>
   q03 (qjz l23 0 ((p1.Nodes.length:Int).toNat) x32) fun x82 =>
   qdt n r3 z17 l18 l20 l22 l23 (q3c p1 n r3 m2) x32 x34)
   (qdr p1 l18 l20 l22 l23)
def qge (n:Nat) (p1:GFS):Option ((List (List Int))) :=
 q0w (0≤(p1.Nodes.length:Int)∧24*(p1.Nodes.length:Int).toNat≤281474976710656∧(p1.Nodes.length:Int)≤281474976710656) (
 q03 (qby n p1) fun r3 =>
 q0w (0≤(r3.length:Int)∧1*(r3.length:Int).toNat≤281474976710656∧(r3.length:Int)≤281474976710656) (
 q03 (qjz (List.replicate (r3.length:Int).toNat false) 0 ((r3.length:Int).toNat) 0) fun x7 =>
 q3c p1 n r3 n 0 ([[]]:List (List Int)) ([0]) ((List.replicate (r3.length:Int).toNat false).set (0:Int).toNat true) (List.replicate (p1.Nodes.length:Int).toNat [])))
theorem qbj (n:Nat) (p1:GFS) (r:(List (List Int))) (hF:qge n p1=some r):EvU Tryz.prog 15 [.agg [.isl false (List.map q02 p1.Nodes)]] ⟨[],0⟩ (fun u _=>u = .isl false (List.map (cL (cI .i64)) r)∧Bel 0 u):=by
 unfold qge at hF
 refine z7d Tryz.tb_ok fn15 rfl ?_
 refine WPU.ghost (tm':=fr 19 [(0,.agg [.iM q02 p1.Nodes])]) (z71 NL) NL ?_
 obtain ⟨h2,hF⟩:=q06 hF
 refine go ?_
 refine RS.q (u:=.sl 1 0 ((p1.Nodes.length:Int).toNat) ((p1.Nodes.length:Int).toNat)) (σ':=⟨[(1,.row (List.map (cL (cI .i64)) (List.replicate (p1.Nodes.length:Int).toNat [])).flatten 33),(0,.row [.iM q02 p1.Nodes] 24)],2⟩) rfl (qow (cL (cI .i64)) [] rfl rfl un28.h if33.h rfl rfl rfl rfl h2) ?_
 obtain ⟨r3,h4,hF⟩:=q00 hF
 refine go ?_
 refine z6t (R:=fun u σ'=>∃ t5:Nat→Nat,u = .fn (.func 69) [] [.iptr [.iM q02 r3]]∧σ'=⟨[(2,.row [.sl 1 0 ((p1.Nodes.length:Int).toNat) ((p1.Nodes.length:Int).toNat)] 28),(1,.row (List.map (cL (cI .i64)) (List.replicate (p1.Nodes.length:Int).toNat [])).flatten 33),(0,.row [.iM q02 p1.Nodes] 24)],3⟩) (args:=[.agg [.iM q02 p1.Nodes]]) rfl (q3s rfl rfl fn46 hb46 rfl rfl) (EvU.st [] (qlf n p1 r3 h4 )) rfl rfl ?_
 rintro _ _ ⟨t5,rfl,rfl⟩
 refine go ?_
 refine WPU.block ?_
 refine gn ?_
 refine gS (l':=[(3,_),(11,_)]) ?_
 refine WPU.range Tryz.tb_ok rfl (fun _ h=>h) (q1s rfl) fn69 rfl rfl ?_
 intro ly1 fn1 tp1 D1
 refine WPU.ghost (tm':=fr 76 [(0,.fn (.yield ly1) [] []),(1,.iptr [.iM q02 r3])]) (z71 NL) (zF _) ?_
 obtain ⟨h6,hF⟩:=q06 hF
 refine go ?_
 refine RS.q (u:=.sl 3 0 ((r3.length:Int).toNat) ((r3.length:Int).toNat)) (σ':=⟨[(3,.row (List.map cB (List.replicate (r3.length:Int).toNat false)).flatten 4),(2,.row [.sl 1 0 ((p1.Nodes.length:Int).toNat) ((p1.Nodes.length:Int).toNat)] 28),(1,.row (List.map (cL (cI .i64)) (List.replicate (p1.Nodes.length:Int).toNat [])).flatten 33),(0,.row [.iM q02 p1.Nodes] 24)],4⟩) rfl (qow cB false rfl rfl un75.h if4.h rfl rfl rfl rfl h6) ?_
 obtain ⟨x7,h8,hF⟩:=q00 hF
 refine go ?_
 refine RS.q rfl (q2v rfl rfl (qfc un75.h (q0i if4.h) rfl h8)) (z7f (u:=.junk) (σ':=⟨[(3,.row (List.map cB ((List.replicate (r3.length:Int).toNat false).set (0:Int).toNat true)).flatten 4),(2,.row [.sl 1 0 ((p1.Nodes.length:Int).toNat) ((p1.Nodes.length:Int).toNat)] 28),(1,.row (List.map (cL (cI .i64)) (List.replicate (p1.Nodes.length:Int).toNat [])).flatten 33),(0,.row [.iM q02 p1.Nodes] 24)],4⟩) rfl (qso cB (q0i if4.h) qrn rfl rfl rfl rfl rfl rfl h8 rfl) rfl ?_)
 refine go ?_
 refine z7c (u:=.vl 4 0 0 ([0].length)) (σ':=⟨[(4,.vec (List.map (cI .i64) ([0])).flatten 3 1 0),(3,.row (List.map cB ((List.replicate (r3.length:Int).toNat false).set (0:Int).toNat true)).flatten 4),(2,.row [.sl 1 0 ((p1.Nodes.length:Int).toNat) ((p1.Nodes.length:Int).toNat)] 28),(1,.row (List.map (cL (cI .i64)) (List.replicate (p1.Nodes.length:Int).toNat [])).flatten 33),(0,.row [.iM q02 p1.Nodes] 24)],5⟩) rfl (qey.bslv (cs:=(List.map (cI .i64) [0]).flatten) Tryz.tb_ok rfl un33.h if3.h rfl rfl rfl rfl rfl rfl rfl rfl) rfl rfl (z7c (u:=.vl 5 0 0 (([[]]:List (List Int)).length)) (σ':=⟨[(5,.vec (List.map (cL (cI .i64)) ([[]]:List (List Int))).flatten 33 1 0),(4,.vec (List.map (cI .i64) ([0])).flatten 3 1 0),(3,.row (List.map cB ((List.replicate (r3.length:Int).toNat false).set (0:Int).toNat true)).flatten 4),(2,.row [.sl 1 0 ((p1.Nodes.length:Int).toNat) ((p1.Nodes.length:Int).toNat)] 28),(1,.row (List.map (cL (cI .i64)) (List.replicate (p1.Nodes.length:Int).toNat [])).flatten 33),(0,.row [.iM q02 p1.Nodes] 24)],6⟩) rfl (qey.bslw (cs0:=[.nils]) (cs:=(List.map (cL (cI .i64)) ([[]]:List (List Int))).flatten) Tryz.tb_ok rfl un28.h if33.h rfl rfl rfl rfl rfl (.cons (.nil false) .nil) rfl rfl rfl) rfl rfl ?_)
 refine go ?_
 refine gS (l':=[(0,_),(1,_),(3,_),(4,_),(5,_),(6,_)]) ?_
 refine z6o (fun m tm σ=>∃ z17:Int,∃ l18:List (List Int),∃ t19:Nat,∃ l20:List Int,∃ t21:Nat,∃ l22:List Bool,∃ l23:List (List Int),q3c p1 n r3 m z17 l18 l20 l22 l23=some r∧tm=fr 76 [(0,.fn (.yield ly1) [] []),(1,.iptr [.iM q02 r3]),(3,.sl 3 0 ((r3.length:Int).toNat) ((r3.length:Int).toNat)),(4,.vl 4 t21 0 l20.length),(5,.vl 5 t19 0 l18.length),(6,.i6 z17)]∧σ=⟨[(5,.vec (List.map (cL (cI .i64)) l18).flatten 33 1 t19),(4,.vec (List.map (cI .i64) l20).flatten 3 1 t21),(3,.row (List.map cB l22).flatten 4),(2,.row [.sl 1 0 ((p1.Nodes.length:Int).toNat) ((p1.Nodes.length:Int).toNat)] 28),(1,.row (List.map (cL (cI .i64)) l23).flatten 33),(0,.row [.iM q02 p1.Nodes] 24)],6⟩) (fun tm σ=>∃ l24:List (List Int),∃ t25:Nat,∃ l26:List Int,∃ t27:Nat,∃ l28:List Bool,∃ l29:List (List Int),qdr p1 l24 l26 l28 l29=some r∧tm=fr 76 []∧σ=⟨[(5,.vec (List.map (cL (cI .i64)) l24).flatten 33 1 t25),(4,.vec (List.map (cI .i64) l26).flatten 3 1 t27),(3,.row (List.map cB l28).flatten 4),(2,.row [.sl 1 0 ((p1.Nodes.length:Int).toNat) ((p1.Nodes.length:Int).toNat)] 28),(1,.row (List.map (cL (cI .i64)) l29).flatten 33),(0,.row [.iM q02 p1.Nodes] 24)],6⟩) n ⟨0,([[]]:List (List Int)),0,[0],0,((List.replicate (r3.length:Int).toNat false).set (0:Int).toNat true),(List.replicate (p1.Nodes.length:Int).toNat []),hF,rfl,rfl⟩ ?_ ?_
 rintro _ _ ⟨l24,t25,l26,t27,l28,l29,hF,rfl,rfl⟩
 unfold qdr at hF
 refine gn ?_
 refine ⟨.inl rfl,?_⟩
 obtain ⟨h30,hF⟩:=q06 hF
 refine go ?_
 obtain rfl:=sI hF
 exact ⟨.inr rfl,[.sl 1 0 ((p1.Nodes.length:Int).toNat) ((p1.Nodes.length:Int).toNat)],q1y rfl (q1t),.iM (cL (cI .i64)) l29,⟨[],0⟩,zF _,Gh.trans (Gh.fz (tm':=[.iM (cL (cI .i64)) l29]) (h':=[(5,.vec (List.map (cL (cI .i64)) l24).flatten 33 1 t25),(4,.vec (List.map (cI .i64) l26).flatten 3 1 t27),(3,.row (List.map cB l28).flatten 4),(2,.row [.iM (cL (cI .i64)) l29] 28),(0,.row [.iM q02 p1.Nodes] 24)]) 1 (.row (List.map (cL (cI .i64)) l29).flatten 33) 1 rfl (by simp) (by simp only [ql0,qbr,q67,qih,qf7,qij,qdf,qfa,qf9,qf8,qde,qii,qkw,qig,qik,qnv,qlb,qyv (qfd (cI .i64)) h30,q36 _ _ _ (q3a 1 (fun q=>qxq _ (fun q=>qct _ .i64 q) q) l24),q36 _ _ _ (q3a 1 (fun q=>qct _ .i64 q) l26),q36 _ _ _ (q3a 1 (fun q=>qqz _ q) l28)]) (by simp only [fzH,fzB,ug,Nat.beq,zC,zD,ql0,qbr,q67,qih,qf7,qij,qdf,qfa,qf9,qf8,qde,qii,qkw,qig,qik,qnv,qlb,qyv (qfd (cI .i64)) h30,q36 _ _ _ (q3a 1 (fun q=>qxq _ (fun q=>qct _ .i64 q) q) l24),q36 _ _ _ (q3a 1 (fun q=>qct _ .i64 q) l26),q36 _ _ _ (q3a 1 (fun q=>qqz _ q) l28)])) (z6y (.iM (cL (cI .i64)) l29) rfl),rfl,BU.h⟩
 rintro (_|m2) _ _ ⟨z17,l18,t19,l20,t21,l22,l23,hF,rfl,rfl⟩
 cases hF
 unfold q3c at hF
 refine go ?_
 refine cF hF (fun h31 hF=>?_) (fun h31 hF=>?_)
 refine go ?_
 refine WPU.block ?_
 obtain ⟨x32,h33,hF⟩:=q00 hF
 obtain ⟨x34,h35,hF⟩:=q00 hF
 refine go ?_
 refine WPU.drawS Tryz.tb_ok 9 (by kernel_rfl) rfl (by kernel_rfl) ?_
 refine gd ?_
 refine RD.q rfl (q2v rfl rfl (q94 (cI .i64) un33.h (q0i if3.h) (by decide) (q6o .i64) (vo rfl) h33)) ?_
 refine RD.q rfl (q5v (cI .i64) (fun x=>.i6 x) un3.h rfl (fun _=>rfl) rfl rfl h33) ?_
 refine gd ?_
 refine RD.q rfl (q2v rfl rfl (q94 (cL (cI .i64)) un28.h (q0i if33.h) (by decide) (qfd (cI .i64)) (vo rfl) h35)) ?_
 refine RD.q rfl (q5v (cL (cI .i64)) (fun x=>.iM (cI .i64) x) un33.h rfl (fun _=>rfl) rfl rfl h35) ?_
 refine RD.done ⟨by kernel_rfl,?_⟩
 refine RS.yield (tmx:=fr 19 [(3,.ptr 2 0 0),(11,.fn (.func 69) [] [.iptr [.iM q02 r3]]),(12,.i6 x32),(13,.iM (cI .i64) x34)]) rfl rfl rfl rfl rfl rfl rfl rfl (setP2 rfl rfl) rfl rfl ?_
 refine gr ?_
 refine gr ?_
 refine z6p (fun tm σ=>qdt n r3 z17 l18 l20 l22 l23 (q3c p1 n r3 m2) x32 x34=some r∧tm=fr 19 []∧σ=⟨[(5,.vec (List.map (cL (cI .i64)) l18).flatten 33 1 t19),(4,.vec (List.map (cI .i64) l20).flatten 3 1 t21),(3,.row (List.map cB l22).flatten 4),(2,.row [.sl 1 0 ((p1.Nodes.length:Int).toNat) ((p1.Nodes.length:Int).toNat)] 28),(1,.row (List.map (cL (cI .i64)) (l23.set x32.toNat x34)).flatten 33),(0,.row [.iM q02 p1.Nodes] 24)],6⟩) ?_ ?_
 rintro _ _ ⟨hF,rfl,rfl⟩
 unfold qdt at hF
 refine ⟨rfl,?_⟩
 refine go ?_
 refine z74 (t:=false) rfl (fun hc=>by cases hc) (fun _=>?_)
 obtain ⟨x36,h37,hF⟩:=q00 hF
 obtain ⟨x38,h39,hF⟩:=q00 hF
 refine go ?_
 refine z6q Tryz.tb_ok [] (by kernel_rfl) ?_
 refine gd ?_
 refine RD.q rfl (q2v rfl rfl (q94 (cI .i64) un33.h (q0i if3.h) (by decide) (q6o .i64) (vo rfl) h37)) ?_
 refine RD.q rfl (q5v (cI .i64) (fun x=>.i6 x) un3.h rfl (fun _=>rfl) rfl rfl h37) ?_
 refine RD.ix h39 ?_
 refine gd ?_
 refine RD.done ⟨by kernel_rfl,trivial,?_⟩
 refine go ?_
 refine gS (l':=[(0,_),(1,_),(3,_),(4,_),(5,_),(6,_),(42,_),(43,_),(44,_)]) ?_
 refine z6o (fun m tm σ=>∃ z51:Int,∃ l52:List (List Int),∃ t53:Nat,∃ l54:List Int,∃ t55:Nat,∃ l56:List Bool,q5e n r3 z17 l23 (q3c p1 n r3 m2) x32 x34 x38 m z51 l52 l54 l56=some r∧tm=fr 76 [(0,.fn (.yield ly1) [] []),(1,.iptr [.iM q02 r3]),(3,.sl 3 0 ((r3.length:Int).toNat) ((r3.length:Int).toNat)),(4,.vl 4 t55 0 l54.length),(5,.vl 5 t53 0 l52.length),(6,.i6 z17),(42,.iM q08 x38.Arcs),(43,.i6 (x38.Arcs.length:Int)),(44,.i6 z51)]∧σ=⟨[(5,.vec (List.map (cL (cI .i64)) l52).flatten 33 1 t53),(4,.vec (List.map (cI .i64) l54).flatten 3 1 t55),(3,.row (List.map cB l56).flatten 4),(2,.row [.sl 1 0 ((p1.Nodes.length:Int).toNat) ((p1.Nodes.length:Int).toNat)] 28),(1,.row (List.map (cL (cI .i64)) (l23.set x32.toNat x34)).flatten 33),(0,.row [.iM q02 p1.Nodes] 24)],6⟩) (fun tm σ=>∃ l57:List (List Int),∃ t58:Nat,∃ l59:List Int,∃ t60:Nat,∃ l61:List Bool,qds z17 l23 (q3c p1 n r3 m2) x32 x34 l57 l59 l61=some r∧tm=fr 76 [(0,.fn (.yield ly1) [] []),(1,.iptr [.iM q02 r3]),(3,.sl 3 0 ((r3.length:Int).toNat) ((r3.length:Int).toNat)),(4,.vl 4 t60 0 l59.length),(5,.vl 5 t58 0 l57.length),(6,.i6 z17)]∧σ=⟨[(5,.vec (List.map (cL (cI .i64)) l57).flatten 33 1 t58),(4,.vec (List.map (cI .i64) l59).flatten 3 1 t60),(3,.row (List.map cB l61).flatten 4),(2,.row [.sl 1 0 ((p1.Nodes.length:Int).toNat) ((p1.Nodes.length:Int).toNat)] 28),(1,.row (List.map (cL (cI .i64)) (l23.set x32.toNat x34)).flatten 33),(0,.row [.iM q02 p1.Nodes] 24)],6⟩) n ⟨0,l18,t19,l20,t21,l22,hF,rfl,rfl⟩ ?_ ?_
 rintro _ _ ⟨l57,t58,l59,t60,l61,hF,rfl,rfl⟩
 unfold qds at hF
 refine go ?_
 exact lC ⟨_,l57,t58,l59,t60,l61,(l23.set x32.toNat x34),hF,rfl,rfl⟩
 rintro (_|m4) _ _ ⟨z51,l52,t53,l54,t55,l56,hF,rfl,rfl⟩
 cases hF
 unfold q5e at hF
 refine go ?_
 refine cF hF (fun h62 hF=>?_) (fun h62 hF=>?_)
 refine go ?_
 refine WPU.block ?_
 obtain ⟨x63,h64,hF⟩:=q00 hF
 refine go ?_
 refine RS.ix h64 ?_
 obtain ⟨x65,h66,hF⟩:=q00 hF
 refine go ?_
 refine RS.q rfl (q2v rfl rfl (qfc un75.h (q0i if4.h) rfl h66)) (RS.q (u:=.bool x65) rfl (qit cB (fun x=>.bool x) un4.h rfl (fun _=>rfl) rfl rfl h66) ?_)
 refine gn ?_
 refine z6p (fun tm σ=>∃ l68:List (List Int),∃ t69:Nat,∃ l70:List Int,∃ t71:Nat,∃ l72:List Bool,q9t z51 (q5e n r3 z17 l23 (q3c p1 n r3 m2) x32 x34 x38 m4) l68 l70 l72=some r∧tm=fr 76 [(0,.fn (.yield ly1) [] []),(1,.iptr [.iM q02 r3]),(3,.sl 3 0 ((r3.length:Int).toNat) ((r3.length:Int).toNat)),(4,.vl 4 t71 0 l70.length),(5,.vl 5 t69 0 l68.length),(6,.i6 z17),(42,.iM q08 x38.Arcs),(43,.i6 (x38.Arcs.length:Int)),(44,.i6 z51)]∧σ=⟨[(6,.row (q08 x63) 66),(5,.vec (List.map (cL (cI .i64)) l68).flatten 33 1 t69),(4,.vec (List.map (cI .i64) l70).flatten 3 1 t71),(3,.row (List.map cB l72).flatten 4),(2,.row [.sl 1 0 ((p1.Nodes.length:Int).toNat) ((p1.Nodes.length:Int).toNat)] 28),(1,.row (List.map (cL (cI .i64)) (l23.set x32.toNat x34)).flatten 33),(0,.row [.iM q02 p1.Nodes] 24)],7⟩) ?_ ?_
 rintro _ _ ⟨l68,t69,l70,t71,l72,hF,rfl,rfl⟩
 unfold q9t at hF
 refine go ?_
 exact lC ⟨_,l68,t69,l70,t71,l72,hF,rfl,rfl⟩
 refine cF hF (fun h67 hF=>?_) (fun h67 hF=>?_)
 obtain ⟨x73,h74,hF⟩:=q00 hF
 refine go ?_
 refine RS.q rfl (q2v rfl rfl (qfc un75.h (q0i if4.h) rfl h74)) (z7f (u:=.junk) (σ':=⟨[(6,.row (q08 x63) 66),(5,.vec (List.map (cL (cI .i64)) l52).flatten 33 1 t53),(4,.vec (List.map (cI .i64) l54).flatten 3 1 t55),(3,.row (List.map cB (l56.set x63.To.toNat true)).flatten 4),(2,.row [.sl 1 0 ((p1.Nodes.length:Int).toNat) ((p1.Nodes.length:Int).toNat)] 28),(1,.row (List.map (cL (cI .i64)) (l23.set x32.toNat x34)).flatten 33),(0,.row [.iM q02 p1.Nodes] 24)],7⟩) rfl (qso cB (q0i if4.h) qrn rfl rfl rfl rfl rfl rfl h74 rfl) rfl ?_)
 obtain ⟨h75,hF⟩:=q06 hF
 refine go ?_
 refine RS.g ?_
 refine RS.g ?_
 obtain ⟨x76,h77,hF⟩:=q00 hF
 obtain ⟨r78,h79,hF⟩:=q00 hF
 obtain ⟨h80,hF⟩:=q06 hF
 obtain ⟨h81,hF⟩:=q06 hF
 refine go ?_
 refine z6q Tryz.tb_ok [(0,5),(0,9),(0,10),(6,5),(7,5)] (by kernel_rfl) ?_
 refine gd ?_
 refine RD.q rfl (q2v rfl rfl (q94 (cL (cI .i64)) un28.h (q0i if33.h) (by decide) (qfd (cI .i64)) (vo rfl) h77)) ?_
 refine RD.q rfl (q5v (cL (cI .i64)) (fun x=>.iM (cI .i64) x) un33.h rfl (fun _=>rfl) rfl rfl h77) (RD.callm (u:=.vl 9 0 0 r78.length) (σ1:=⟨[(9,.vec (List.map (cI .i64) r78).flatten 3 1 0),(7,.row [.i6 x63.To] 3),(6,.row (q08 x63) 66),(5,.vec (List.map (cL (cI .i64)) l52).flatten 33 1 t53),(4,.vec (List.map (cI .i64) (l54++[x63.To])).flatten 3 1 (t55+1)),(3,.row (List.map cB (l56.set x63.To.toNat true)).flatten 4),(2,.row [.sl 1 0 ((p1.Nodes.length:Int).toNat) ((p1.Nodes.length:Int).toNat)] 28),(1,.row (List.map (cL (cI .i64)) (l23.set x32.toNat x34)).flatten 33),(0,.row [.iM q02 p1.Nodes] 24)],10⟩) (args:=[.iM (cI .i64) x76]) rfl (q3s rfl rfl fn48 hb48 rfl rfl) (z7e (cI .i64) (qbm n x76 r78 h79) _ 9 rfl) rfl rfl ?_)
 refine gd ?_
 refine RD.freeO (u:=.iM (cI .i64) ([x63.Feat])) rfl (qf1.bs (cs:=[.i6 x63.Feat]) un33.h if3.h rfl rfl rfl rfl rfl rfl rfl rfl rfl) rfl rfl (RD.fz (u:=.iM (cI .i64) (r78++[x63.Feat])) (u1:=.vl 9 1 0 ((r78++[x63.Feat]).length)) (s1:=⟨[(9,.vec (List.map (cI .i64) (r78++[x63.Feat])).flatten 3 1 1),(7,.row [.i6 x63.To] 3),(6,.row (q08 x63) 66),(5,.vec (List.map (cL (cI .i64)) l52).flatten 33 1 t53),(4,.vec (List.map (cI .i64) (l54++[x63.To])).flatten 3 1 (t55+1)),(3,.row (List.map cB (l56.set x63.To.toNat true)).flatten 4),(2,.row [.sl 1 0 ((p1.Nodes.length:Int).toNat) ((p1.Nodes.length:Int).toNat)] 28),(1,.row (List.map (cL (cI .i64)) (l23.set x32.toNat x34)).flatten 33),(0,.row [.iM q02 p1.Nodes] 24)],10⟩) (σ':=⟨[(7,.row [.i6 x63.To] 3),(6,.row (q08 x63) 66),(5,.vec (List.map (cL (cI .i64)) l52).flatten 33 1 t53),(4,.vec (List.map (cI .i64) (l54++[x63.To])).flatten 3 1 (t55+1)),(3,.row (List.map cB (l56.set x63.To.toNat true)).flatten 4),(2,.row [.sl 1 0 ((p1.Nodes.length:Int).toNat) ((p1.Nodes.length:Int).toNat)] 28),(1,.row (List.map (cL (cI .i64)) (l23.set x32.toNat x34)).flatten 33),(0,.row [.iM q02 p1.Nodes] 24)],10⟩) rfl (qd1 rfl rfl rfl rfl (qm4 (cI .i64) ([x63.Feat]) un33.h un33.h if3.h rfl (q6o .i64) rfl (qko (cI .i64) (q6o .i64)) h80)) (z6r 9 1) (zF _) rfl rfl ?_)
 refine RD.g ?_
 refine RD.g ?_
 refine gd ?_
 refine RD.done ⟨by kernel_rfl,⟨q3h rfl,⟨q3h rfl,⟨q3h rfl,⟨qbu un66.h rfl (q0i if3.h) rfl rfl rfl,⟨qaq un3.h rfl rfl rfl rfl,trivial⟩⟩⟩⟩⟩,?_⟩
 refine go ?_
 exact xC ⟨(l52++[(r78++[x63.Feat])]),(t53+1),(l54++[x63.To]),(t55+1),(l56.set x63.To.toNat true),hF,rfl,rfl⟩
 refine go ?_
 exact xC ⟨l52,t53,l54,t55,l56,hF,rfl,rfl⟩
 refine go ?_
 exact xC ⟨l52,t53,l54,t55,l56,hF,rfl,rfl⟩
 refine go ?_
 refine WPU.block ?_
 obtain ⟨x82,h83,hF⟩:=q00 hF
 refine go ?_
 refine RS.q rfl (q2v rfl rfl (qfc un28.h (q0i if33.h) rfl h83)) (z7f (u:=.junk) (σ':=⟨[(5,.vec (List.map (cL (cI .i64)) l18).flatten 33 1 t19),(4,.vec (List.map (cI .i64) l20).flatten 3 1 t21),(3,.row (List.map cB l22).flatten 4),(2,.row [.sl 1 0 ((p1.Nodes.length:Int).toNat) ((p1.Nodes.length:Int).toNat)] 28),(1,.row (List.map (cL (cI .i64)) (l23.set x32.toNat x34)).flatten 33),(0,.row [.iM q02 p1.Nodes] 24)],6⟩) rfl (qso (cL (cI .i64)) (q0i if33.h) (qfd (cI .i64)) rfl rfl rfl rfl rfl rfl h83 rfl) rfl ?_)
 refine go ?_
 exact xC ⟨hF,rfl,rfl⟩
 refine go ?_
 exact xC ⟨l18,t19,l20,t21,l22,l23,hF,rfl,rfl⟩
def q6l   : Option (Bool) :=
 some true
def q43 (p1:List Int) (p2:List Int):Nat→Int→Option (Bool)
 | 0,_=>none
 | m1+1,z8 =>
  cond (decide (z8<(p1.length:Int)))
   (q03 (q0l p1 z8) fun x10 =>
   q03 (q0l p2 z8) fun x12 =>
   cond (x10 != x12)
    (some false)
    ((q43 p1 p2 m1) (IntKind.i64.wrap (z8+1))))
   (q6l)
def q9l (n:Nat) (p1:List Int) (p2:List Int):Option (Bool) :=
 cond ((p1.length:Int) != (p2.length:Int))
  (some false)
  (q43 p1 p2 n 0)
theorem qjg (n:Nat) (p1:List Int) (p2:List Int) (r:Bool) (hF:q9l n p1 p2=some r):EvU Tryz.prog 49 [.isl false (List.map (cI .i64) p1),.isl false (List.map (cI .i64) p2)] ⟨[],0⟩ (fun u _=>u = .bool r∧Bel 0 u):=by
 unfold q9l at hF
 refine bg2 26 fn49 ?_
 refine go ?_
 refine cF hF (fun h3 hF=>?_) (fun h3 hF=>?_)
 exact gx hF
 refine go ?_
 refine gS (l':=[(0,_),(1,_),(12,_),(13,_)]) ?_
 refine z6o (fun m tm σ=>∃ z8:Int,q43 p1 p2 m z8=some r∧tm=fr 26 [(0,.iM (cI .i64) p1),(1,.iM (cI .i64) p2),(12,.i6 (p1.length:Int)),(13,.i6 z8)]∧σ=⟨[],0⟩) (fun tm σ=>q6l=some r∧tm=fr 26 []∧σ=⟨[],0⟩) n ⟨0,hF,rfl,rfl⟩ ?_ ?_
 rintro _ _ ⟨hF,rfl,rfl⟩
 unfold q6l at hF
 exact gx hF
 rintro (_|m1) _ _ ⟨z8,hF,rfl,rfl⟩
 cases hF
 unfold q43 at hF
 refine go ?_
 refine cF hF (fun h9 hF=>?_) (fun h9 hF=>?_)
 refine go ?_
 refine WPU.block ?_
 obtain ⟨x10,h11,hF⟩:=q00 hF
 obtain ⟨x12,h13,hF⟩:=q00 hF
 refine go ?_
 refine z6q Tryz.tb_ok [] (by kernel_rfl) ?_
 refine gd ?_
 refine RD.ix h11 ?_
 refine gd ?_
 refine RD.ix h13 ?_
 refine gd ?_
 refine RD.done ⟨by kernel_rfl,trivial,?_⟩
 refine go ?_
 refine cF hF (fun h14 hF=>?_) (fun h14 hF=>?_)
 exact gx hF
 refine go ?_
 exact lC ⟨_,hF,rfl,rfl⟩
 refine go ?_
 exact xC ⟨hF,rfl,rfl⟩
def q86 (z32:Int) (rc2:Int→(List q0g)→Option ((List q0g))) (l50:List q0g):Option ((List q0g)) :=
 rc2 (IntKind.i64.wrap (z32+1)) l50
def qbx (z11:Int) (rc1:Int→(List q0g)→Option ((List q0g))) (l35:List q0g):Option ((List q0g)) :=
 rc1 (IntKind.i64.wrap (z11+1)) l35
def q4g (n:Nat) (r2:(List (List Int))) (z11:Int) (rc1:Int→(List q0g)→Option ((List q0g))) (x17:q0a):Nat→Int→(List q0g)→Option ((List q0g))
 | 0,_,_=>none
 | m2+1,z32,l33 =>
  cond (decide (z32<(x17.Arcs.length:Int)))
   (q03 (q0l x17.Arcs z32) fun x38 =>
   q03 (q0l r2 z11) fun x40 =>
   q03 (q6f n x40) fun r42 =>
   q0w ((r42.length+([x38.Feat]).length)*8≤140737488355328∧r42.length+([x38.Feat]).length≤140737488355328) (
   q03 (q0l r2 x38.To) fun x45 =>
   q03 (q9l n (r42++[x38.Feat]) x45) fun r47 =>
   cond (!r47)
    (q03 (q0l r2 x38.To) fun x52 =>
    q0w ((l33.length+1)*48≤140737488355328∧l33.length+1≤140737488355328) (
    q86 z32 (q4g n r2 z11 rc1 x17 m2) (l33++[(q0g.mk x52 (r42++[x38.Feat]))])))
    (q86 z32 (q4g n r2 z11 rc1 x17 m2) l33)))
   (qbx z11 rc1 l33)
def qbw  (l14:List q0g):Option ((List q0g)) :=
 some l14
def q3i (p1:GFS) (n:Nat) (r2:(List (List Int))):Nat→Int→(List q0g)→Option ((List q0g))
 | 0,_,_=>none
 | m1+1,z11,l12 =>
  cond (decide (z11<(p1.Nodes.length:Int)))
   (q03 (q0l p1.Nodes z11) fun x17 =>
   q4g n r2 z11 (q3i p1 n r2 m1) x17 n 0 l12)
   (qbw l12)
def qdx (n:Nat) (p1:GFS):Option ((List q0g)) :=
 q03 (qge n p1) fun r2 =>
 q3i p1 n r2 n 0 ([]:List q0g)
theorem qdy (n:Nat) (p1:GFS) (r:(List q0g)) (hF:qdx n p1=some r):EvU Tryz.prog 18 [.agg [.isl false (List.map q02 p1.Nodes)]] ⟨[],0⟩ (fun u _=>u = .isl false (List.map q1j r)∧Bel 0 u):=by
 unfold qdx at hF
 refine bg1 57 fn18 ?_
 obtain ⟨r2,h3,hF⟩:=q00 hF
 refine go ?_
 refine RS.cl rfl (pC (qbj n p1 r2 h3) _) fn15 ?_
 refine gr ?_
 refine gr ?_
 refine WPU.ghost (tm':=fr 57 [(3,.iM (cL (cI .i64)) r2),(4,.vl 1 0 0 (([]:List q0g).length)),(13,.iM q02 p1.Nodes),(14,.i6 (p1.Nodes.length:Int)),(15,.i6 0)]) (σ':=⟨[(1,.vec (List.map q1j ([]:List q0g)).flatten 56 2 0),(0,.row [.iM q02 p1.Nodes] 24)],2⟩) (Gh.trans (z6u 4 56 2 (by decide) NZ rfl rfl) (z6s ⟨rfl,rfl,rfl,rfl,rfl,trivial⟩ rfl)) NZ ?_
 refine gS (l':=[(3,_),(4,_),(13,_),(14,_),(15,_)]) ?_
 refine z6o (fun m tm σ=>∃ z11:Int,∃ l12:List q0g,∃ t13:Nat,q3i p1 n r2 m z11 l12=some r∧tm=fr 57 [(3,.iM (cL (cI .i64)) r2),(4,.vl 1 t13 0 l12.length),(13,.iM q02 p1.Nodes),(14,.i6 (p1.Nodes.length:Int)),(15,.i6 z11)]∧σ=⟨[(1,.vec (List.map q1j l12).flatten 56 2 t13),(0,.row [.iM q02 p1.Nodes] 24)],2⟩) (fun tm σ=>∃ l14:List q0g,∃ t15:Nat,qbw l14=some r∧tm=fr 57 [(4,.vl 1 t15 0 l14.length)]∧σ=⟨[(1,.vec (List.map q1j l14).flatten 56 2 t15),(0,.row [.iM q02 p1.Nodes] 24)],2⟩) n ⟨0,([]:List q0g),0,hF,rfl,rfl⟩ ?_ ?_
 rintro _ _ ⟨l14,t15,hF,rfl,rfl⟩
 unfold qbw at hF
 refine go ?_
 obtain rfl:=sI hF
 exact rT (us:=[.vl 1 t15 0 l14.length]) (u:=.iM q1j l14) (q1y rfl (q1t)) (fR 1 2)
 rintro (_|m1) _ _ ⟨z11,l12,t13,hF,rfl,rfl⟩
 cases hF
 unfold q3i at hF
 refine go ?_
 refine cF hF (fun h16 hF=>?_) (fun h16 hF=>?_)
 refine go ?_
 refine WPU.block ?_
 obtain ⟨x17,h18,hF⟩:=q00 hF
 refine go ?_
 refine RS.ix h18 ?_
 refine go ?_
 refine gS (l':=[(3,_),(4,_),(5,_),(13,_),(14,_),(15,_),(21,_),(22,_),(23,_)]) ?_
 refine z6o (fun m tm σ=>∃ z32:Int,∃ l33:List q0g,∃ t34:Nat,q4g n r2 z11 (q3i p1 n r2 m1) x17 m z32 l33=some r∧tm=fr 57 [(3,.iM (cL (cI .i64)) r2),(4,.vl 1 t34 0 l33.length),(5,.i6 z11),(13,.iM q02 p1.Nodes),(14,.i6 (p1.Nodes.length:Int)),(15,.i6 z11),(21,.iM q08 x17.Arcs),(22,.i6 (x17.Arcs.length:Int)),(23,.i6 z32)]∧σ=⟨[(2,.row (q02 x17) 54),(1,.vec (List.map q1j l33).flatten 56 2 t34),(0,.row [.iM q02 p1.Nodes] 24)],3⟩) (fun tm σ=>∃ l35:List q0g,∃ t36:Nat,qbx z11 (q3i p1 n r2 m1) l35=some r∧tm=fr 57 [(3,.iM (cL (cI .i64)) r2),(4,.vl 1 t36 0 l35.length),(13,.iM q02 p1.Nodes),(14,.i6 (p1.Nodes.length:Int)),(15,.i6 z11)]∧σ=⟨[(2,.row (q02 x17) 54),(1,.vec (List.map q1j l35).flatten 56 2 t36),(0,.row [.iM q02 p1.Nodes] 24)],3⟩) n ⟨0,l12,t13,hF,rfl,rfl⟩ ?_ ?_
 rintro _ _ ⟨l35,t36,hF,rfl,rfl⟩
 unfold qbx at hF
 refine go ?_
 exact lC ⟨_,l35,t36,hF,rfl,rfl⟩
 rintro (_|m2) _ _ ⟨z32,l33,t34,hF,rfl,rfl⟩
 cases hF
 unfold q4g at hF
 refine go ?_
 refine cF hF (fun h37 hF=>?_) (fun h37 hF=>?_)
 refine go ?_
 refine WPU.block ?_
 obtain ⟨x38,h39,hF⟩:=q00 hF
 refine go ?_
 refine RS.ix h39 ?_
 obtain ⟨x40,h41,hF⟩:=q00 hF
 obtain ⟨r42,h43,hF⟩:=q00 hF
 obtain ⟨h44,hF⟩:=q06 hF
 refine go ?_
 refine z6q Tryz.tb_ok [(5,4),(6,4)] (by kernel_rfl) ?_
 refine gd ?_
 refine RD.ix h41 ?_
 refine gd ?_
 refine RD.callm (u:=.vl 5 0 0 r42.length) (σ1:=⟨[(5,.vec (List.map (cI .i64) r42).flatten 3 1 0),(3,.row (q08 x38) 66),(2,.row (q02 x17) 54),(1,.vec (List.map q1j l33).flatten 56 2 t34),(0,.row [.iM q02 p1.Nodes] 24)],6⟩) (args:=[.iM (cI .i64) x40]) rfl (q3s rfl rfl fn48 hb48 rfl rfl) (z7e (cI .i64) (qbm n x40 r42 h43) _ 5 rfl) rfl rfl ?_
 refine gd ?_
 refine RD.freeO (u:=.iM (cI .i64) ([x38.Feat])) rfl (qf1.bs (cs:=[.i6 x38.Feat]) un33.h if3.h rfl rfl rfl rfl rfl rfl rfl rfl rfl) rfl rfl ?_
 refine RD.g ?_
 refine gd ?_
 refine RD.done ⟨by kernel_rfl,⟨qbu un66.h rfl (q0i if3.h) rfl rfl rfl,⟨qaq un3.h rfl rfl rfl rfl,trivial⟩⟩,?_⟩
 obtain ⟨x45,h46,hF⟩:=q00 hF
 obtain ⟨r47,h48,hF⟩:=q00 hF
 refine go ?_
 refine RS.ix h46 ?_
 refine go ?_
 refine RS.cl rfl (vw (qjg n (r42++[x38.Feat]) x45 r47 h48) (z6r 5 1)) fn49 ?_
 refine gn ?_
 refine z6p (fun tm σ=>∃ l50:List q0g,∃ t51:Nat,q86 z32 (q4g n r2 z11 (q3i p1 n r2 m1) x17 m2) l50=some r∧tm=fr 57 [(3,.iM (cL (cI .i64)) r2),(4,.vl 1 t51 0 l50.length),(5,.i6 z11),(13,.iM q02 p1.Nodes),(14,.i6 (p1.Nodes.length:Int)),(15,.i6 z11),(21,.iM q08 x17.Arcs),(22,.i6 (x17.Arcs.length:Int)),(23,.i6 z32)]∧σ=⟨[(3,.row (q08 x38) 66),(2,.row (q02 x17) 54),(1,.vec (List.map q1j l50).flatten 56 2 t51),(0,.row [.iM q02 p1.Nodes] 24)],6⟩) ?_ ?_
 rintro _ _ ⟨l50,t51,hF,rfl,rfl⟩
 unfold q86 at hF
 refine go ?_
 exact lC ⟨_,l50,t51,hF,rfl,rfl⟩
 refine cF hF (fun h49 hF=>?_) (fun h49 hF=>?_)
 refine gn ?_
 refine WPU.ghost (tm':=fr 57 [(3,.iM (cL (cI .i64)) r2),(4,.vl 1 t34 0 l33.length),(5,.i6 z11),(8,.ptr 3 0 0),(9,.iM (cI .i64) (r42++[x38.Feat])),(13,.iM q02 p1.Nodes),(14,.i6 (p1.Nodes.length:Int)),(15,.i6 z11),(21,.iM q08 x17.Arcs),(22,.i6 (x17.Arcs.length:Int)),(23,.i6 z32)]) (σ':=⟨[(3,.row (q08 x38) 66),(2,.row (q02 x17) 54),(1,.vec (List.map q1j l33).flatten 56 2 t34),(0,.row [.iM q02 p1.Nodes] 24)],6⟩) (Gh.trans (Gh.sub (l':=[(3,.iM (cL (cI .i64)) r2),(4,.vl 1 t34 0 l33.length),(5,.i6 z11),(8,.ptr 3 0 0),(9,.vl 5 1 0 ((r42++[x38.Feat]).length)),(13,.iM q02 p1.Nodes),(14,.i6 (p1.Nodes.length:Int)),(15,.i6 z11),(21,.iM q08 x17.Arcs),(22,.i6 (x17.Arcs.length:Int)),(23,.i6 z32)]) ⟨rfl,rfl,rfl,rfl,rfl,rfl,rfl,rfl,rfl,rfl,rfl,trivial⟩) (z7a 5 1)) NZ ?_
 obtain ⟨x52,h53,hF⟩:=q00 hF
 obtain ⟨h54,hF⟩:=q06 hF
 refine go ?_
 refine RS.ix h53 ?_
 refine go ?_
 refine RS.g ?_
 refine RS.g ?_
 refine go ?_
 exact xC ⟨(l33++[(q0g.mk x52 (r42++[x38.Feat]))]),(t34+1),hF,rfl,rfl⟩
 refine go ?_
 exact ⟨_,_,⟨l33,t34,hF,rfl,rfl⟩,NZ,Gh.trans (z79 (fun k=>!(Nat.beq k 5))) (Gh.toC (n1:=6) ⟨rfl,rfl,rfl,rfl,rfl,rfl,rfl,rfl,rfl,trivial⟩ rfl NZ (by simp))⟩
 refine go ?_
 exact xC ⟨l33,t34,hF,rfl,rfl⟩
 refine go ?_
 exact xC ⟨l12,t13,hF,rfl,rfl⟩
def q72 (z22:Int) (l23:List q0a) (rc2:Int→(List q0a)→Option (GFS)) (x28:q0a) (l48:List q0f):Option (GFS) :=
 q0w ((l23.length+1)*32≤140737488355328∧l23.length+1≤140737488355328) (
 rc2 (IntKind.i64.wrap (z22+1)) (l23++[(q0a.mk x28.Typex l48)]))
def q5g (p1:List Int) (z22:Int) (l23:List q0a) (rc2:Int→(List q0a)→Option (GFS)) (x28:q0a):Nat→Int→(List q0f)→Option (GFS)
 | 0,_,_=>none
 | m3+1,z45,l46 =>
  cond (decide (z45<(x28.Arcs.length:Int)))
   (q03 (q0l x28.Arcs z45) fun x52 =>
   q0w ((l46.length+1)*16≤140737488355328∧l46.length+1≤140737488355328) (
   (q5g p1 z22 l23 rc2 x28 m3) (IntKind.i64.wrap (z45+1)) (l46++[(q0f.mk x52.Feat (IntKind.i64.wrap (x52.To+(p1.length:Int))))])))
   (q72 z22 l23 rc2 x28 l46)
def q9y  (l25:List q0a):Option (GFS) :=
 some (GFS.mk l25)
def q2n (p1:List Int) (p2:GFS) (n:Nat):Nat→Int→(List q0a)→Option (GFS)
 | 0,_,_=>none
 | m2+1,z22,l23 =>
  cond (decide (z22<(p2.Nodes.length:Int)))
   (q03 (q0l p2.Nodes z22) fun x28 =>
   q5g p1 z22 l23 (q2n p1 p2 n m2) x28 n 0 ([]:List q0f))
   (q9y l23)
def q9x (p1:List Int) (p2:GFS) (n:Nat) (l13:List q0a):Option (GFS) :=
 q2n p1 p2 n n 0 l13
def q5f (p1:List Int) (p2:GFS) (n:Nat):Nat→Int→(List q0a)→Option (GFS)
 | 0,_,_=>none
 | m1+1,z10,l11 =>
  cond (decide (z10<(p1.length:Int)))
   (q03 (q0l p1 z10) fun x56 =>
   q0w ((l11.length+1)*32≤140737488355328∧l11.length+1≤140737488355328) (
   (q5f p1 p2 n m1) (IntKind.i64.wrap (z10+1)) (l11++[(q0a.mk 0 ([(q0f.mk x56 (IntKind.i64.wrap (z10+1)))]))])))
   (q9x p1 p2 n l11)
def qd4 (n:Nat) (p1:List Int) (p2:GFS):Option (GFS) :=
 q5f p1 p2 n n 0 ([]:List q0a)
theorem q51 (n:Nat) (p1:List Int) (p2:GFS) (r:GFS) (hF:qd4 n p1 p2=some r):EvU Tryz.prog 22 [.isl false (List.map (cI .i64) p1),.agg [.isl false (List.map q02 p2.Nodes)]] ⟨[],0⟩ (fun u _=>u = .agg [.isl false (List.map q02 r.Nodes)]∧Bel 0 u):=by
 unfold qd4 at hF
 refine bg2 71 fn22 ?_
 refine gr ?_
 refine gr ?_
 refine gr ?_
 refine WPU.ghost (tm':=fr 71 [(0,.iM (cI .i64) p1),(3,.ptr 0 0 0),(4,.ptr 1 0 0),(5,.ptr 2 0 0),(13,.iM (cI .i64) p1),(14,.i6 (p1.length:Int)),(15,.i6 0)]) (σ':=⟨[(3,.vec (List.map q02 ([]:List q0a)).flatten 54 2 0),(2,.row [.vl 3 0 0 (([]:List q0a).length)] 24),(1,.row [.nils] 24),(0,.row [.iM q02 p2.Nodes] 24)],4⟩) (Gh.trans (z73 2 0 54 2 (by decide) NZ rfl rfl) (z6s ⟨rfl,rfl,rfl,rfl,rfl,rfl,rfl,trivial⟩ rfl)) NZ ?_
 refine gS (l':=[(0,_),(3,_),(4,_),(5,_),(13,_),(14,_),(15,_)]) ?_
 refine z6o (fun m tm σ=>∃ z10:Int,∃ l11:List q0a,∃ t12:Nat,q5f p1 p2 n m z10 l11=some r∧tm=fr 71 [(0,.iM (cI .i64) p1),(3,.ptr 0 0 0),(4,.ptr 1 0 0),(5,.ptr 2 0 0),(13,.iM (cI .i64) p1),(14,.i6 (p1.length:Int)),(15,.i6 z10)]∧σ=⟨[(3,.vec (List.map q02 l11).flatten 54 2 t12),(2,.row [.vl 3 t12 0 l11.length] 24),(1,.row [.nils] 24),(0,.row [.iM q02 p2.Nodes] 24)],4⟩) (fun tm σ=>∃ l13:List q0a,∃ t14:Nat,q9x p1 p2 n l13=some r∧tm=fr 71 [(0,.iM (cI .i64) p1),(3,.ptr 0 0 0),(4,.ptr 1 0 0),(5,.ptr 2 0 0)]∧σ=⟨[(3,.vec (List.map q02 l13).flatten 54 2 t14),(2,.row [.vl 3 t14 0 l13.length] 24),(1,.row [.nils] 24),(0,.row [.iM q02 p2.Nodes] 24)],4⟩) n ⟨0,([]:List q0a),0,hF,rfl,rfl⟩ ?_ ?_
 rintro _ _ ⟨l13,t14,hF,rfl,rfl⟩
 unfold q9x at hF
 refine go ?_
 refine gS (l':=[(0,_),(4,_),(5,_),(33,_),(34,_),(35,_)]) ?_
 refine z6o (fun m tm σ=>∃ z22:Int,∃ l23:List q0a,∃ t24:Nat,q2n p1 p2 n m z22 l23=some r∧tm=fr 71 [(0,.iM (cI .i64) p1),(4,.ptr 1 0 0),(5,.ptr 2 0 0),(33,.iM q02 p2.Nodes),(34,.i6 (p2.Nodes.length:Int)),(35,.i6 z22)]∧σ=⟨[(3,.vec (List.map q02 l23).flatten 54 2 t24),(2,.row [.vl 3 t24 0 l23.length] 24),(1,.row [.nils] 24),(0,.row [.iM q02 p2.Nodes] 24)],4⟩) (fun tm σ=>∃ l25:List q0a,∃ t26:Nat,q9y l25=some r∧tm=fr 71 [(4,.ptr 1 0 0),(5,.ptr 2 0 0)]∧σ=⟨[(3,.vec (List.map q02 l25).flatten 54 2 t26),(2,.row [.vl 3 t26 0 l25.length] 24),(1,.row [.nils] 24),(0,.row [.iM q02 p2.Nodes] 24)],4⟩) n ⟨0,l13,t14,hF,rfl,rfl⟩ ?_ ?_
 rintro _ _ ⟨l25,t26,hF,rfl,rfl⟩
 unfold q9y at hF
 refine go ?_
 obtain rfl:=sI hF
 exact rT (us:=[.agg [.vl 3 t26 0 l25.length]]) (u:=.agg [.iM q02 l25]) (qd9 (q61 un24.h rfl (q0i if24.h) rfl rfl rfl) (q1t)) (fR 3 2)
 rintro (_|m2) _ _ ⟨z22,l23,t24,hF,rfl,rfl⟩
 cases hF
 unfold q2n at hF
 refine go ?_
 refine cF hF (fun h27 hF=>?_) (fun h27 hF=>?_)
 refine go ?_
 refine WPU.block ?_
 obtain ⟨x28,h29,hF⟩:=q00 hF
 refine go ?_
 refine RS.ix h29 ?_
 refine gr ?_
 refine gr ?_
 refine WPU.ghost (tm':=fr 71 [(0,.iM (cI .i64) p1),(4,.ptr 1 0 0),(5,.ptr 2 0 0),(10,.ptr 5 0 0),(33,.iM q02 p2.Nodes),(34,.i6 (p2.Nodes.length:Int)),(35,.i6 z22),(43,.iM q08 x28.Arcs),(44,.i6 (x28.Arcs.length:Int)),(45,.i6 0)]) (σ':=⟨[(6,.vec (List.map q08 ([]:List q0f)).flatten 66 2 0),(5,.row [.i6 x28.Typex,.vl 6 0 0 (([]:List q0f).length)] 54),(4,.row (q02 x28) 54),(3,.vec (List.map q02 l23).flatten 54 2 t24),(2,.row [.vl 3 t24 0 l23.length] 24),(1,.row [.nils] 24),(0,.row [.iM q02 p2.Nodes] 24)],7⟩) (Gh.trans (z73 5 1 66 2 (by decide) NZ rfl rfl) (z6s ⟨rfl,rfl,rfl,rfl,rfl,rfl,rfl,rfl,rfl,rfl,trivial⟩ rfl)) NZ ?_
 refine gS (l':=[(0,_),(4,_),(5,_),(10,_),(33,_),(34,_),(35,_),(43,_),(44,_),(45,_)]) ?_
 refine z6o (fun m tm σ=>∃ z45:Int,∃ l46:List q0f,∃ t47:Nat,q5g p1 z22 l23 (q2n p1 p2 n m2) x28 m z45 l46=some r∧tm=fr 71 [(0,.iM (cI .i64) p1),(4,.ptr 1 0 0),(5,.ptr 2 0 0),(10,.ptr 5 0 0),(33,.iM q02 p2.Nodes),(34,.i6 (p2.Nodes.length:Int)),(35,.i6 z22),(43,.iM q08 x28.Arcs),(44,.i6 (x28.Arcs.length:Int)),(45,.i6 z45)]∧σ=⟨[(6,.vec (List.map q08 l46).flatten 66 2 t47),(5,.row [.i6 x28.Typex,.vl 6 t47 0 l46.length] 54),(4,.row (q02 x28) 54),(3,.vec (List.map q02 l23).flatten 54 2 t24),(2,.row [.vl 3 t24 0 l23.length] 24),(1,.row [.nils] 24),(0,.row [.iM q02 p2.Nodes] 24)],7⟩) (fun tm σ=>∃ l48:List q0f,∃ t49:Nat,q72 z22 l23 (q2n p1 p2 n m2) x28 l48=some r∧tm=fr 71 [(0,.iM (cI .i64) p1),(4,.ptr 1 0 0),(5,.ptr 2 0 0),(10,.ptr 5 0 0),(33,.iM q02 p2.Nodes),(34,.i6 (p2.Nodes.length:Int)),(35,.i6 z22)]∧σ=⟨[(6,.vec (List.map q08 l48).flatten 66 2 t49),(5,.row [.i6 x28.Typex,.vl 6 t49 0 l48.length] 54),(4,.row (q02 x28) 54),(3,.vec (List.map q02 l23).flatten 54 2 t24),(2,.row [.vl 3 t24 0 l23.length] 24),(1,.row [.nils] 24),(0,.row [.iM q02 p2.Nodes] 24)],7⟩) n ⟨0,([]:List q0f),0,hF,rfl,rfl⟩ ?_ ?_
 rintro _ _ ⟨l48,t49,hF,rfl,rfl⟩
 unfold q72 at hF
 refine gn ?_
 refine WPU.ghost (tm':=fr 71 [(0,.iM (cI .i64) p1),(4,.ptr 1 0 0),(5,.ptr 2 0 0),(10,.ptr 5 0 0),(33,.iM q02 p2.Nodes),(34,.i6 (p2.Nodes.length:Int)),(35,.i6 z22)]) (σ':=⟨[(5,.row [.i6 x28.Typex,.iM q08 l48] 54),(4,.row (q02 x28) 54),(3,.vec (List.map q02 l23).flatten 54 2 t24),(2,.row [.vl 3 t24 0 l23.length] 24),(1,.row [.nils] 24),(0,.row [.iM q02 p2.Nodes] 24)],7⟩) (Gh.trans (Gh.sub (l':=[(0,.iM (cI .i64) p1),(4,.ptr 1 0 0),(5,.ptr 2 0 0),(10,.ptr 5 0 0),(33,.iM q02 p2.Nodes),(34,.i6 (p2.Nodes.length:Int)),(35,.i6 z22)]) ⟨rfl,rfl,rfl,rfl,rfl,rfl,rfl,trivial⟩) (z7a 6 2)) NZ ?_
 obtain ⟨h50,hF⟩:=q06 hF
 refine go ?_
 refine RS.g ?_
 refine RS.g ?_
 refine go ?_
 exact lC ⟨_,(l23++[(q0a.mk x28.Typex l48)]),(t24+1),hF,rfl,rfl⟩
 rintro (_|m3) _ _ ⟨z45,l46,t47,hF,rfl,rfl⟩
 cases hF
 unfold q5g at hF
 refine go ?_
 refine cF hF (fun h51 hF=>?_) (fun h51 hF=>?_)
 refine go ?_
 refine WPU.block ?_
 obtain ⟨x52,h53,hF⟩:=q00 hF
 refine go ?_
 refine RS.ix h53 ?_
 obtain ⟨h54,hF⟩:=q06 hF
 refine go ?_
 refine RS.g ?_
 refine RS.g ?_
 refine go ?_
 exact lC ⟨_,(l46++[(q0f.mk x52.Feat (IntKind.i64.wrap (x52.To+(p1.length:Int))))]),(t47+1),hF,rfl,rfl⟩
 refine go ?_
 exact xC ⟨l46,t47,hF,rfl,rfl⟩
 refine go ?_
 exact xC ⟨l23,t24,hF,rfl,rfl⟩
 rintro (_|m1) _ _ ⟨z10,l11,t12,hF,rfl,rfl⟩
 cases hF
 unfold q5f at hF
 refine go ?_
 refine cF hF (fun h55 hF=>?_) (fun h55 hF=>?_)
 refine go ?_
 refine WPU.block ?_
 obtain ⟨x56,h57,hF⟩:=q00 hF
 refine go ?_
 refine RS.ix h57 ?_
 obtain ⟨h58,hF⟩:=q06 hF
 refine go ?_
 refine z7c (u:=.iM q08 ([(q0f.mk x56 (IntKind.i64.wrap (z10+1)))])) (σ':=⟨[(3,.vec (List.map q02 l11).flatten 54 2 t12),(2,.row [.vl 3 t12 0 l11.length] 24),(1,.row [.nils] 24),(0,.row [.iM q02 p2.Nodes] 24)],5⟩) rfl (qey.fz Tryz.tb_ok (u1:=.sl 4 0 1 1) (s1:=⟨[(4,.row [.i6 x56,.i6 (IntKind.i64.wrap (z10+1))] 66),(3,.vec (List.map q02 l11).flatten 54 2 t12),(2,.row [.vl 3 t12 0 l11.length] 24),(1,.row [.nils] 24),(0,.row [.iM q02 p2.Nodes] 24)],5⟩) (q7q un52.h if66.h rfl rfl rfl rfl rfl rfl rfl) (z6r 4 2) (zF _) rfl rfl) rfl rfl ?_
 refine go ?_
 refine RS.g ?_
 refine RS.g ?_
 refine go ?_
 exact lC ⟨_,(l11++[(q0a.mk 0 ([(q0f.mk x56 (IntKind.i64.wrap (z10+1)))]))]),(t12+1),hF,rfl,rfl⟩
 refine go ?_
 exact xC ⟨l11,t12,hF,rfl,rfl⟩
def qdw (n:Nat) (l13:List (List UInt8)):Option ((List UInt8)) :=
 q03 (strings_Join n l13 ([46])) fun r15 =>
 some r15
def q9w (p1:q0r) (p2:List Int) (n:Nat):Nat→Int→(List (List UInt8))→Option ((List UInt8))
 | 0,_,_=>none
 | m1+1,z10,l11 =>
  cond (decide (z10<(p2.length:Int)))
   (q03 (q0l p2 z10) fun x18 =>
   q03 (q0l p1.Feats x18) fun x20 =>
   q0w ((l11.length+1)*16≤140737488355328∧l11.length+1≤140737488355328) (
   (q9w p1 p2 n m1) (IntKind.i64.wrap (z10+1)) (l11++[x20.Name])))
   (qdw n l11)
def qk8 (n:Nat) (p1:q0r) (p2:List Int):Option ((List UInt8)) :=
 q9w p1 p2 n n 0 ([]:List (List UInt8))
theorem qfl (n:Nat) (p1:q0r) (p2:List Int) (r:(List UInt8)) (hF:qk8 n p1 p2=some r):EvU Tryz.prog 25 [.agg (q0h p1),.isl false (List.map (cI .i64) p2)] ⟨[],0⟩ (fun u _=>u = .str r∧Bel 0 u):=by
 unfold qk8 at hF
 refine bg2 26 fn25 ?_
 refine gr ?_
 refine gr ?_
 refine gr ?_
 refine WPU.ghost (tm':=fr 26 [(2,.ptr 0 0 0),(5,.vl 1 0 0 (([]:List (List UInt8)).length)),(8,.iM (cI .i64) p2),(9,.i6 (p2.length:Int)),(10,.i6 0)]) (σ':=⟨[(1,.vec (List.map cS ([]:List (List UInt8))).flatten 9 1 0),(0,.row (q0h p1) 43)],2⟩) (Gh.trans (z6u 5 9 1 (by decide) NZ rfl rfl) (z6s ⟨rfl,rfl,rfl,rfl,rfl,trivial⟩ rfl)) NZ ?_
 refine gS (l':=[(2,_),(5,_),(8,_),(9,_),(10,_)]) ?_
 refine z6o (fun m tm σ=>∃ z10:Int,∃ l11:List (List UInt8),∃ t12:Nat,q9w p1 p2 n m z10 l11=some r∧tm=fr 26 [(2,.ptr 0 0 0),(5,.vl 1 t12 0 l11.length),(8,.iM (cI .i64) p2),(9,.i6 (p2.length:Int)),(10,.i6 z10)]∧σ=⟨[(1,.vec (List.map cS l11).flatten 9 1 t12),(0,.row (q0h p1) 43)],2⟩) (fun tm σ=>∃ l13:List (List UInt8),∃ t14:Nat,qdw n l13=some r∧tm=fr 26 [(5,.vl 1 t14 0 l13.length)]∧σ=⟨[(1,.vec (List.map cS l13).flatten 9 1 t14),(0,.row (q0h p1) 43)],2⟩) n ⟨0,([]:List (List UInt8)),0,hF,rfl,rfl⟩ ?_ ?_
 rintro _ _ ⟨l13,t14,hF,rfl,rfl⟩
 unfold qdw at hF
 obtain ⟨r15,h16,hF⟩:=q00 hF
 refine go ?_
 refine RS.cl rfl (vw (qo8 n l13 ([46]) r15 h16) (z6r 1 1)) fn52 ?_
 exact gx hF
 rintro (_|m1) _ _ ⟨z10,l11,t12,hF,rfl,rfl⟩
 cases hF
 unfold q9w at hF
 refine go ?_
 refine cF hF (fun h17 hF=>?_) (fun h17 hF=>?_)
 refine go ?_
 refine WPU.block ?_
 obtain ⟨x18,h19,hF⟩:=q00 hF
 refine go ?_
 refine RS.ix h19 ?_
 obtain ⟨x20,h21,hF⟩:=q00 hF
 obtain ⟨h22,hF⟩:=q06 hF
 refine go ?_
 refine RS.ix h21 ?_
 refine go ?_
 refine RS.g ?_
 refine RS.g ?_
 refine go ?_
 exact lC ⟨_,(l11++[x20.Name]),(t12+1),hF,rfl,rfl⟩
 refine go ?_
 exact xC ⟨l11,t12,hF,rfl,rfl⟩
def qao   : Option (Int) :=
 some (-1)
def q71 (p1:q0r) (p2:List UInt8):Nat→Int→Option (Int)
 | 0,_=>none
 | m1+1,z9 =>
  cond (decide (z9<(p1.Feats.length:Int)))
   (q03 (q0l p1.Feats z9) fun x11 =>
   cond (qcw x11 (q1o.mk p2 x11.Intro))
    (some z9)
    ((q71 p1 p2 m1) (IntKind.i64.wrap (z9+1))))
   (qao)
def qfb (n:Nat) (p1:q0r) (p2:List UInt8):Option (Int) :=
 q71 p1 p2 n 0
theorem qnw (n:Nat) (p1:q0r) (p2:List UInt8) (r:Int) (hF:qfb n p1 p2=some r):EvU Tryz.prog 55 [.agg (q0h p1),.str p2] ⟨[],0⟩ (fun u _=>u = .int .i64 r∧Bel 0 u):=by
 unfold qfb at hF
 refine bg2 23 fn55 ?_
 refine go ?_
 refine gS (l':=[(1,_),(8,_),(9,_),(10,_)]) ?_
 refine z6o (fun m tm σ=>∃ z9:Int,q71 p1 p2 m z9=some r∧tm=fr 23 [(1,.str p2),(8,.iM q2u p1.Feats),(9,.i6 (p1.Feats.length:Int)),(10,.i6 z9)]∧σ=⟨[(0,.row (q0h p1) 43)],1⟩) (fun tm σ=>qao=some r∧tm=fr 23 []∧σ=⟨[(0,.row (q0h p1) 43)],1⟩) n ⟨0,hF,rfl,rfl⟩ ?_ ?_
 rintro _ _ ⟨hF,rfl,rfl⟩
 unfold qao at hF
 exact gx hF
 rintro (_|m1) _ _ ⟨z9,hF,rfl,rfl⟩
 cases hF
 unfold q71 at hF
 refine go ?_
 refine cF hF (fun h10 hF=>?_) (fun h10 hF=>?_)
 refine go ?_
 refine WPU.block ?_
 obtain ⟨x11,h12,hF⟩:=q00 hF
 refine go ?_
 refine RS.ix h12 ?_
 refine go ?_
 refine RS.q (u:=.bool (qcw x11 (q1o.mk p2 x11.Intro))) rfl (qov rfl rfl (qye x11 (q1o.mk p2 x11.Intro))) ?_
 refine go ?_
 refine cF hF (fun h13 hF=>?_) (fun h13 hF=>?_)
 exact gx hF
 refine go ?_
 exact lC ⟨_,hF,rfl,rfl⟩
 refine go ?_
 exact xC ⟨hF,rfl,rfl⟩
def qdv  (l24:List Int):Option ((List Int)×Int) :=
 some (l24,0)
def q9v (p1:q0r) (n:Nat) (r4:(List (List UInt8))):Nat→Int→(List Int)→Option ((List Int)×Int)
 | 0,_,_=>none
 | m2+1,z21,l22 =>
  cond (decide (z21<(r4.length:Int)))
   (q03 (q0l r4 z21) fun x27 =>
   q03 (qfb n p1 x27) fun r29 =>
   cond (decide (r29<0))
    (some ([],5))
    (q0w ((l22.length+1)*8≤140737488355328∧l22.length+1≤140737488355328) (
    (q9v p1 n r4 m2) (IntKind.i64.wrap (z21+1)) (l22++[r29]))))
   (qdv l22)
def qdu (p1:q0r) (n:Nat) (r4:(List (List UInt8)))  : Option ((List Int)×Int) :=
 q9v p1 n r4 n 0 ([]:List Int)
def q9u (p1:q0r) (n:Nat) (r4:(List (List UInt8))):Nat→Int→Option ((List Int)×Int)
 | 0,_=>none
 | m1+1,z13 =>
  cond (decide (z13<(r4.length:Int)))
   (q03 (q0l r4 z13) fun x34 =>
   q03 (ql8 n x34) fun r36 =>
   cond (!r36)
    (some ([],8))
    ((q9u p1 n r4 m1) (IntKind.i64.wrap (z13+1))))
   (qdu p1 n r4)
def qd3 (n:Nat) (p1:q0r) (p2:List UInt8):Option ((List Int)×Int) :=
 cond (q1e p2 [])
  (some ([],0))
  (q03 (qeq n p2 ([46])) fun r4 =>
  cond (decide ((r4.length:Int) > 64))
   (some ([],7))
   (q9u p1 n r4 n 0))
theorem qfk (n:Nat) (p1:q0r) (p2:List UInt8) (r:(List Int)×Int) (hF:qd3 n p1 p2=some r):EvU Tryz.prog 26 [.agg (q0h p1),.str p2] ⟨[],0⟩ (fun u _=>u = .tup [.isl false (List.map (cI .i64) r.1),.int .i64 r.2]∧Bel 0 u):=by
 unfold qd3 at hF
 refine bg2 47 fn26 ?_
 refine go ?_
 refine RS.q (u:=.bool (q1e p2 [])) rfl (q9o rfl rfl rfl rfl) ?_
 refine go ?_
 refine cF hF (fun h3 hF=>?_) (fun h3 hF=>?_)
 refine go ?_
 obtain rfl:=sI hF
 exact rT (us:=[.nils,.i6 0]) (u:=.tup [.isl false [],.i6 0]) (q1y rfl (q1y rfl (q1t))) wR
 obtain ⟨r4,h5,hF⟩:=q00 hF
 refine go ?_
 refine RS.cl rfl (qli n p2 ([46]) r4 h5 _) fn53 ?_
 refine go ?_
 refine cF hF (fun h6 hF=>?_) (fun h6 hF=>?_)
 refine go ?_
 obtain rfl:=sI hF
 exact rT (us:=[.nils,.i6 7]) (u:=.tup [.isl false [],.i6 7]) (q1y rfl (q1y rfl (q1t))) wR
 refine go ?_
 refine gS (l':=[(2,_),(6,_),(20,_),(21,_),(22,_)]) ?_
 refine z6o (fun m tm σ=>∃ z13:Int,q9u p1 n r4 m z13=some r∧tm=fr 47 [(2,.ptr 0 0 0),(6,.iM cS r4),(20,.iM cS r4),(21,.i6 (r4.length:Int)),(22,.i6 z13)]∧σ=⟨[(0,.row (q0h p1) 43)],1⟩) (fun tm σ=>qdu p1 n r4=some r∧tm=fr 47 [(2,.ptr 0 0 0),(6,.iM cS r4)]∧σ=⟨[(0,.row (q0h p1) 43)],1⟩) n ⟨0,hF,rfl,rfl⟩ ?_ ?_
 rintro _ _ ⟨hF,rfl,rfl⟩
 unfold qdu at hF
 refine gr ?_
 refine gr ?_
 refine WPU.ghost (tm':=fr 47 [(2,.ptr 0 0 0),(9,.vl 1 0 0 (([]:List Int).length)),(30,.iM cS r4),(31,.i6 (r4.length:Int)),(32,.i6 0)]) (σ':=⟨[(1,.vec (List.map (cI .i64) ([]:List Int)).flatten 3 1 0),(0,.row (q0h p1) 43)],2⟩) (Gh.trans (z6u 9 3 1 (by decide) NZ rfl rfl) (z6s ⟨rfl,rfl,rfl,rfl,rfl,trivial⟩ rfl)) NZ ?_
 refine gS (l':=[(2,_),(9,_),(30,_),(31,_),(32,_)]) ?_
 refine z6o (fun m tm σ=>∃ z21:Int,∃ l22:List Int,∃ t23:Nat,q9v p1 n r4 m z21 l22=some r∧tm=fr 47 [(2,.ptr 0 0 0),(9,.vl 1 t23 0 l22.length),(30,.iM cS r4),(31,.i6 (r4.length:Int)),(32,.i6 z21)]∧σ=⟨[(1,.vec (List.map (cI .i64) l22).flatten 3 1 t23),(0,.row (q0h p1) 43)],2⟩) (fun tm σ=>∃ l24:List Int,∃ t25:Nat,qdv l24=some r∧tm=fr 47 [(9,.vl 1 t25 0 l24.length)]∧σ=⟨[(1,.vec (List.map (cI .i64) l24).flatten 3 1 t25),(0,.row (q0h p1) 43)],2⟩) n ⟨0,([]:List Int),0,hF,rfl,rfl⟩ ?_ ?_
 rintro _ _ ⟨l24,t25,hF,rfl,rfl⟩
 unfold qdv at hF
 refine go ?_
 obtain rfl:=sI hF
 exact rT (us:=[.vl 1 t25 0 l24.length,.i6 0]) (u:=.tup [.iM (cI .i64) l24,.i6 0]) (q1y rfl (q1y rfl (q1t))) (fR 1 1)
 rintro (_|m2) _ _ ⟨z21,l22,t23,hF,rfl,rfl⟩
 cases hF
 unfold q9v at hF
 refine go ?_
 refine cF hF (fun h26 hF=>?_) (fun h26 hF=>?_)
 refine go ?_
 refine WPU.block ?_
 obtain ⟨x27,h28,hF⟩:=q00 hF
 refine go ?_
 refine RS.ix h28 ?_
 obtain ⟨r29,h30,hF⟩:=q00 hF
 refine go ?_
 refine RS.cl rfl (pC (qnw n p1 x27 r29 h30) _) fn55 ?_
 refine go ?_
 refine cF hF (fun h31 hF=>?_) (fun h31 hF=>?_)
 refine go ?_
 obtain rfl:=sI hF
 exact rT (us:=[.nils,.i6 5]) (u:=.tup [.isl false [],.i6 5]) (q1y rfl (q1y rfl (q1t))) wR
 obtain ⟨h32,hF⟩:=q06 hF
 refine go ?_
 refine RS.g ?_
 refine RS.g ?_
 refine go ?_
 exact lC ⟨_,(l22++[r29]),(t23+1),hF,rfl,rfl⟩
 refine go ?_
 exact xC ⟨l22,t23,hF,rfl,rfl⟩
 rintro (_|m1) _ _ ⟨z13,hF,rfl,rfl⟩
 cases hF
 unfold q9u at hF
 refine go ?_
 refine cF hF (fun h33 hF=>?_) (fun h33 hF=>?_)
 refine go ?_
 refine WPU.block ?_
 obtain ⟨x34,h35,hF⟩:=q00 hF
 refine go ?_
 refine RS.ix h35 ?_
 obtain ⟨r36,h37,hF⟩:=q00 hF
 refine go ?_
 refine RS.cl rfl (qnm n x34 r36 h37 _) fn54 ?_
 refine go ?_
 refine cF hF (fun h38 hF=>?_) (fun h38 hF=>?_)
 refine go ?_
 obtain rfl:=sI hF
 exact rT (us:=[.nils,.i6 8]) (u:=.tup [.isl false [],.i6 8]) (q1y rfl (q1y rfl (q1t))) wR
 refine go ?_
 exact lC ⟨_,hF,rfl,rfl⟩
 refine go ?_
 exact xC ⟨hF,rfl,rfl⟩
def qeo   : Option (Bool) :=
 some true
def qae (p1:List Int) (p2:List Int):Nat→Int→Option (Bool)
 | 0,_=>none
 | m1+1,z7 =>
  cond (decide (z7<(p1.length:Int)))
   (q03 (q0l p1 z7) fun x9 =>
   q03 (q0l p2 z7) fun x11 =>
   cond (x9 != x11)
    (some false)
    ((qae p1 p2 m1) (IntKind.i64.wrap (z7+1))))
   (qeo)
def qgi (n:Nat) (p1:List Int) (p2:List Int):Option (Bool) :=
 cond ((p1.length:Int) != (p2.length:Int))
  (some false)
  (qae p1 p2 n 0)
theorem qfy (n:Nat) (p1:List Int) (p2:List Int) (r:Bool) (hF:qgi n p1 p2=some r):EvU Tryz.prog 47 [.isl false (List.map (cI .i64) p1),.isl false (List.map (cI .i64) p2)] ⟨[],0⟩ (fun u _=>u = .bool r∧Bel 0 u):=by
 unfold qgi at hF
 refine bg2 26 fn47 ?_
 refine go ?_
 refine cF hF (fun h3 hF=>?_) (fun h3 hF=>?_)
 exact gx hF
 refine go ?_
 refine gS (l':=[(0,_),(1,_),(5,_)]) ?_
 refine z6o (fun m tm σ=>∃ z7:Int,qae p1 p2 m z7=some r∧tm=fr 26 [(0,.iM (cI .i64) p1),(1,.iM (cI .i64) p2),(5,.i6 z7)]∧σ=⟨[],0⟩) (fun tm σ=>qeo=some r∧tm=fr 26 []∧σ=⟨[],0⟩) n ⟨0,hF,rfl,rfl⟩ ?_ ?_
 rintro _ _ ⟨hF,rfl,rfl⟩
 unfold qeo at hF
 exact gx hF
 rintro (_|m1) _ _ ⟨z7,hF,rfl,rfl⟩
 cases hF
 unfold qae at hF
 refine go ?_
 refine cF hF (fun h8 hF=>?_) (fun h8 hF=>?_)
 refine go ?_
 refine WPU.block ?_
 obtain ⟨x9,h10,hF⟩:=q00 hF
 obtain ⟨x11,h12,hF⟩:=q00 hF
 refine go ?_
 refine z6q Tryz.tb_ok [] (by kernel_rfl) ?_
 refine gd ?_
 refine RD.ix h10 ?_
 refine gd ?_
 refine RD.ix h12 ?_
 refine gd ?_
 refine RD.done ⟨by kernel_rfl,trivial,?_⟩
 refine go ?_
 refine cF hF (fun h13 hF=>?_) (fun h13 hF=>?_)
 exact gx hF
 refine go ?_
 exact lC ⟨_,hF,rfl,rfl⟩
 refine go ?_
 exact xC ⟨hF,rfl,rfl⟩
def qcq (z18:Int) (l19:List q0a) (rc2:Int→(List q0a)→Option (GFS)) (x24:q0a) (l41:List q0f):Option (GFS) :=
 q0w ((l19.length+1)*32≤140737488355328∧l19.length+1≤140737488355328) (
 rc2 (IntKind.i64.wrap (z18+1)) (l19++[(q0a.mk x24.Typex l41)]))
def q8w (p1:List Int) (z18:Int) (l19:List q0a) (rc2:Int→(List q0a)→Option (GFS)) (x24:q0a) (x26:q0a):Nat→Int→(List q0f)→Option (GFS)
 | 0,_,_=>none
 | m3+1,z38,l39 =>
  cond (decide (z38<(x26.Arcs.length:Int)))
   (q03 (q0l x26.Arcs z38) fun x45 =>
   q03 (q0l x26.Arcs z38) fun x47 =>
   q0w ((l39.length+1)*16≤140737488355328∧l39.length+1≤140737488355328) (
   (q8w p1 z18 l19 rc2 x24 x26 m3) (IntKind.i64.wrap (z38+1)) (l39++[(q0f.mk x45.Feat (IntKind.i64.wrap (x47.To+(p1.length:Int))))])))
   (qcq z18 l19 rc2 x24 l39)
def qh3  (l21:List q0a):Option (GFS) :=
 some (GFS.mk l21)
def q64 (p1:List Int) (p2:GFS) (n:Nat):Nat→Int→(List q0a)→Option (GFS)
 | 0,_,_=>none
 | m2+1,z18,l19 =>
  cond (decide (z18<(p2.Nodes.length:Int)))
   (q03 (q0l p2.Nodes z18) fun x24 =>
   q03 (q0l p2.Nodes z18) fun x26 =>
   q8w p1 z18 l19 (q64 p1 p2 n m2) x24 x26 n 0 ([]:List q0f))
   (qh3 l19)
def qh2 (p1:List Int) (p2:GFS) (n:Nat) (l11:List q0a):Option (GFS) :=
 q64 p1 p2 n n 0 l11
def q8v (p1:List Int) (p2:GFS) (n:Nat):Nat→Int→(List q0a)→Option (GFS)
 | 0,_,_=>none
 | m1+1,z8,l9 =>
  cond (decide (z8<(p1.length:Int)))
   (q03 (q0l p1 z8) fun x51 =>
   q0w ((l9.length+1)*32≤140737488355328∧l9.length+1≤140737488355328) (
   (q8v p1 p2 n m1) (IntKind.i64.wrap (z8+1)) (l9++[(q0a.mk 0 ([(q0f.mk x51 (IntKind.i64.wrap (z8+1)))]))])))
   (qh2 p1 p2 n l9)
def qtx (n:Nat) (p1:List Int) (p2:GFS):Option (GFS) :=
 q8v p1 p2 n n 0 ([]:List q0a)
def qh0 (p1:q0r) (p2:List Int) (z9:Int) (rc1:(List UInt8)→Int→Option ((List UInt8))) (s13:List UInt8):Option ((List UInt8)) :=
 q03 (q0l p2 z9) fun x14 =>
 q03 (q0l p1.Feats x14) fun x16 =>
 q0w (s13.length+x16.Name.length≤9223372036854775807) (
 rc1 (s13++x16.Name) (IntKind.i64.wrap (z9+1)))
def qo6  (s10:List UInt8):Option ((List UInt8)) :=
 some s10
def qh1 (p1:q0r) (p2:List Int):Nat→(List UInt8)→Int→Option ((List UInt8))
 | 0,_,_=>none
 | m1+1,s8,z9 =>
  cond (decide (z9<(p2.length:Int)))
   (cond (decide (z9 > 0))
    (q0w (s8.length+([46]).length≤9223372036854775807) (
    qh0 p1 p2 z9 (qh1 p1 p2 m1) (s8++[46])))
    (qh0 p1 p2 z9 (qh1 p1 p2 m1) s8))
   (qo6 s8)
def qe1 (n:Nat) (p1:Int):Option (Bool) :=
 q03 (cond (decide (p1 ≥ 48))
  (some (decide (p1≤57)))
  (some false)) fun b3 =>
 some b3
theorem q2o (n:Nat) (p1:Int) (r:Bool) (hF:qe1 n p1=some r):EvU Tryz.prog 109 [.int .u8 p1] ⟨[],0⟩ (fun u _=>u = .bool r∧Bel 0 u):=by
 unfold qe1 at hF
 refine bg1 9 fn109 ?_
 obtain ⟨b3,h4,hF⟩:=q00 hF
 refine gr ?_
 refine z6p (fun tm σ=>tm=fr 9 [(2,.bool b3)]∧σ=⟨[],0⟩) ?_ ?_
 rintro _ _ ⟨rfl,rfl⟩
 exact gx hF
 rcases gB h4 with ⟨h2,h4⟩ | ⟨h2,h4⟩
 exact gy h4
 exact gy h4
def qhk (n:Nat) (p1:Int):Option (Bool) :=
 q03 (cond (decide (p1 ≥ 65))
  (some (decide (p1≤90)))
  (some false)) fun b3 =>
 some b3
theorem qe4 (n:Nat) (p1:Int) (r:Bool) (hF:qhk n p1=some r):EvU Tryz.prog 140 [.int .u8 p1] ⟨[],0⟩ (fun u _=>u = .bool r∧Bel 0 u):=by
 unfold qhk at hF
 refine bg1 9 fn140 ?_
 obtain ⟨b3,h4,hF⟩:=q00 hF
 refine gr ?_
 refine z6p (fun tm σ=>tm=fr 9 [(2,.bool b3)]∧σ=⟨[],0⟩) ?_ ?_
 rintro _ _ ⟨rfl,rfl⟩
 exact gx hF
 rcases gB h4 with ⟨h2,h4⟩ | ⟨h2,h4⟩
 exact gy h4
 exact gy h4
def qe2 (n:Nat) (p1:Int):Option (Bool) :=
 q03 (cond (decide (p1 ≥ 97))
  (some (decide (p1≤122)))
  (some false)) fun b3 =>
 some b3
theorem qj1 (n:Nat) (p1:Int) (r:Bool) (hF:qe2 n p1=some r):EvU Tryz.prog 141 [.int .u8 p1] ⟨[],0⟩ (fun u _=>u = .bool r∧Bel 0 u):=by
 unfold qe2 at hF
 refine bg1 9 fn141 ?_
 obtain ⟨b3,h4,hF⟩:=q00 hF
 refine gr ?_
 refine z6p (fun tm σ=>tm=fr 9 [(2,.bool b3)]∧σ=⟨[],0⟩) ?_ ?_
 rintro _ _ ⟨rfl,rfl⟩
 exact gx hF
 rcases gB h4 with ⟨h2,h4⟩ | ⟨h2,h4⟩
 exact gy h4
 exact gy h4
def qkd (n:Nat) (p1:Int) (p2:Bool):Option (Bool) :=
 q03 (q03 (qe1 n p1) fun r3 =>
 cond r3
  (some true)
  (cond (p1 == 45)
   (some true)
   (cond p2
    (q03 (qhk n p1) fun r8 =>
    cond r8
     (some true)
     (cond (!p2)
      (q03 (qe2 n p1) fun r12 =>
      some r12)
      (some false)))
    (cond (!p2)
     (q03 (qe2 n p1) fun r15 =>
     some r15)
     (some false))))) fun b17 =>
 some b17
theorem qs5 (n:Nat) (p1:Int) (p2:Bool) (r:Bool) (hF:qkd n p1 p2=some r):EvU Tryz.prog 110 [.int .u8 p1,.bool p2] ⟨[],0⟩ (fun u _=>u = .bool r∧Bel 0 u):=by
 unfold qkd at hF
 refine bg2 26 fn110 ?_
 obtain ⟨b17,h18,hF⟩:=q00 hF
 refine gr ?_
 refine z6p (fun tm σ=>tm=fr 26 [(4,.bool b17)]∧σ=⟨[],0⟩) ?_ ?_
 rintro _ _ ⟨rfl,rfl⟩
 exact gx hF
 obtain ⟨r3,h4,h18⟩:=q00 h18
 rcases gB h18 with ⟨h5,h18⟩ | ⟨h5,h18⟩
 obtain rfl:=sI h18
 refine go ?_
 refine RS.cl rfl (pC (q2o n p1 r3 h4) _) fn109 ?_
 refine go ?_
 repeat refine RS.no (qlj rfl rfl rfl) rfl rfl ?_
 refine go ?_
 repeat refine RS.no (qlj rfl rfl rfl) rfl rfl ?_
 refine go ?_
 exact xC ⟨rfl,rfl⟩
 rcases gB h18 with ⟨h6,h18⟩ | ⟨h6,h18⟩
 obtain rfl:=sI h18
 refine go ?_
 refine RS.cl rfl (pC (q2o n p1 r3 h4) _) fn109 ?_
 refine go ?_
 repeat refine RS.no (qlj rfl rfl rfl) rfl rfl ?_
 refine go ?_
 repeat refine RS.no (qlj rfl rfl rfl) rfl rfl ?_
 refine go ?_
 exact xC ⟨rfl,rfl⟩
 rcases gB h18 with ⟨h7,h18⟩ | ⟨h7,h18⟩
 obtain ⟨r8,h9,h18⟩:=q00 h18
 rcases gB h18 with ⟨h10,h18⟩ | ⟨h10,h18⟩
 obtain rfl:=sI h18
 refine go ?_
 refine RS.cl rfl (pC (q2o n p1 r3 h4) _) fn109 ?_
 refine go ?_
 refine RS.cl rfl (pC (qe4 n p1 r8 h9) _) fn140 ?_
 refine go ?_
 repeat refine RS.no (qlj rfl rfl rfl) rfl rfl ?_
 refine go ?_
 exact xC ⟨rfl,rfl⟩
 rcases gB h18 with ⟨h11,h18⟩ | ⟨h11,h18⟩
 obtain ⟨r12,h13,h18⟩:=q00 h18
 obtain rfl:=sI h18
 refine go ?_
 refine RS.cl rfl (pC (q2o n p1 r3 h4) _) fn109 ?_
 refine go ?_
 refine RS.cl rfl (pC (qe4 n p1 r8 h9) _) fn140 ?_
 refine go ?_
 refine RS.cl rfl (pC (qj1 n p1 r12 h13) _) fn141 ?_
 refine go ?_
 exact xC ⟨rfl,rfl⟩
 obtain rfl:=sI h18
 refine go ?_
 refine RS.cl rfl (pC (q2o n p1 r3 h4) _) fn109 ?_
 refine go ?_
 refine RS.cl rfl (pC (qe4 n p1 r8 h9) _) fn140 ?_
 refine go ?_
 exact xC ⟨rfl,rfl⟩
 rcases gB h18 with ⟨h14,h18⟩ | ⟨h14,h18⟩
 obtain ⟨r15,h16,h18⟩:=q00 h18
 obtain rfl:=sI h18
 refine go ?_
 refine RS.cl rfl (pC (q2o n p1 r3 h4) _) fn109 ?_
 refine go ?_
 refine RS.cl rfl (pC (qj1 n p1 r15 h16) _) fn141 ?_
 refine go ?_
 exact xC ⟨rfl,rfl⟩
 obtain rfl:=sI h18
 refine go ?_
 refine RS.cl rfl (pC (q2o n p1 r3 h4) _) fn109 ?_
 refine go ?_
 exact xC ⟨rfl,rfl⟩
def qbz   : Option (Bool) :=
 some true
def q88 (p1:List UInt8) (p2:Bool) (n:Nat):Nat→Int→Option (Bool)
 | 0,_=>none
 | m1+1,z18 =>
  cond (decide (z18<(p1.length:Int)))
   (q03 (z0r p1 z18) fun x20 =>
   q03 (qkd n x20 p2) fun r22 =>
   cond (!r22)
    (some false)
    ((q88 p1 p2 n m1) (IntKind.i64.wrap (z18+1))))
   (qbz)
def qe3 (n:Nat) (p1:List UInt8) (p2:Bool):Option (Bool) :=
 q03 (cond (decide ((p1.length:Int)<1))
  (some true)
  (cond (decide ((p1.length:Int) > 32))
   (some true)
   (q03 (z0r p1 0) fun x5 =>
   q03 (qe1 n x5) fun r7 =>
   cond r7
    (some true)
    (q03 (z0r p1 0) fun x10 =>
    some (x10 == 45))))) fun b12 =>
 cond b12
  (some false)
  (q88 p1 p2 n n 0)
theorem qj2 (n:Nat) (p1:List UInt8) (p2:Bool) (r:Bool) (hF:qe3 n p1 p2=some r):EvU Tryz.prog 81 [.str p1,.bool p2] ⟨[],0⟩ (fun u _=>u = .bool r∧Bel 0 u):=by
 unfold qe3 at hF
 refine bg2 36 fn81 ?_
 obtain ⟨b12,h13,hF⟩:=q00 hF
 refine gr ?_
 refine z6p (fun tm σ=>tm=fr 36 [(0,.str p1),(1,.bool p2),(23,.bool b12)]∧σ=⟨[],0⟩) ?_ ?_
 rintro _ _ ⟨rfl,rfl⟩
 refine go ?_
 refine cF hF (fun h14 hF=>?_) (fun h14 hF=>?_)
 exact gx hF
 refine go ?_
 refine gS (l':=[(0,_),(1,_),(5,_)]) ?_
 refine z6o (fun m tm σ=>∃ z18:Int,q88 p1 p2 n m z18=some r∧tm=fr 36 [(0,.str p1),(1,.bool p2),(5,.i6 z18)]∧σ=⟨[],0⟩) (fun tm σ=>qbz=some r∧tm=fr 36 []∧σ=⟨[],0⟩) n ⟨0,hF,rfl,rfl⟩ ?_ ?_
 rintro _ _ ⟨hF,rfl,rfl⟩
 unfold qbz at hF
 exact gx hF
 rintro (_|m1) _ _ ⟨z18,hF,rfl,rfl⟩
 cases hF
 unfold q88 at hF
 refine go ?_
 refine RS.q (u:=.i6 (p1.length:Int)) rfl (qar rfl rfl rfl (by simp only [qpr,un9.h])) ?_
 refine go ?_
 refine cF hF (fun h19 hF=>?_) (fun h19 hF=>?_)
 refine go ?_
 refine WPU.block ?_
 obtain ⟨x20,h21,hF⟩:=q00 hF
 obtain ⟨r22,h23,hF⟩:=q00 hF
 refine go ?_
 refine RS.q (u:=.int .u8 x20) rfl (qpy un9.h rfl rfl h21) ?_
 refine go ?_
 refine RS.cl rfl (pC (qs5 n x20 p2 r22 h23) _) fn110 ?_
 refine go ?_
 refine cF hF (fun h24 hF=>?_) (fun h24 hF=>?_)
 exact gx hF
 refine go ?_
 exact lC ⟨_,hF,rfl,rfl⟩
 refine go ?_
 exact xC ⟨hF,rfl,rfl⟩
 rcases gB h13 with ⟨h3,h13⟩ | ⟨h3,h13⟩
 obtain rfl:=sI h13
 refine go ?_
 refine RS.q (u:=.i6 (p1.length:Int)) rfl (qar rfl rfl rfl (by simp only [qpr,un9.h])) ?_
 refine go ?_
 exact xC ⟨rfl,rfl⟩
 rcases gB h13 with ⟨h4,h13⟩ | ⟨h4,h13⟩
 obtain rfl:=sI h13
 refine go ?_
 refine RS.q (u:=.i6 (p1.length:Int)) rfl (qar rfl rfl rfl (by simp only [qpr,un9.h])) ?_
 refine go ?_
 refine RS.w (u:=.i6 (p1.length:Int)) rfl (qar rfl rfl rfl (by simp only [qpr,un9.h])) ?_
 refine go ?_
 exact xC ⟨rfl,rfl⟩
 obtain ⟨x5,h6,h13⟩:=q00 h13
 obtain ⟨r7,h8,h13⟩:=q00 h13
 rcases gB h13 with ⟨h9,h13⟩ | ⟨h9,h13⟩
 obtain rfl:=sI h13
 refine go ?_
 refine RS.q (u:=.i6 (p1.length:Int)) rfl (qar rfl rfl rfl (by simp only [qpr,un9.h])) ?_
 refine go ?_
 refine RS.w (u:=.i6 (p1.length:Int)) rfl (qar rfl rfl rfl (by simp only [qpr,un9.h])) ?_
 refine go ?_
 refine RS.w (u:=.int .u8 x5) rfl (qpy un9.h rfl rfl h6) (RS.cl rfl (pC (q2o n x5 r7 h8) _) fn109 ?_)
 refine go ?_
 exact xC ⟨rfl,rfl⟩
 obtain ⟨x10,h11,h13⟩:=q00 h13
 obtain rfl:=sI h13
 refine go ?_
 refine RS.q (u:=.i6 (p1.length:Int)) rfl (qar rfl rfl rfl (by simp only [qpr,un9.h])) ?_
 refine go ?_
 refine RS.w (u:=.i6 (p1.length:Int)) rfl (qar rfl rfl rfl (by simp only [qpr,un9.h])) ?_
 refine go ?_
 refine RS.w (u:=.int .u8 x5) rfl (qpy un9.h rfl rfl h6) (RS.cl rfl (pC (q2o n x5 r7 h8) _) fn109 ?_)
 refine go ?_
 refine RS.w (u:=.int .u8 x10) rfl (qpy un9.h rfl rfl h11) ?_
 refine go ?_
 exact xC ⟨rfl,rfl⟩
def qe0 (n:Nat) (p1:List UInt8):Option (Bool) :=
 q03 (qe3 n p1 true) fun r2 =>
 some r2
theorem qn9 (n:Nat) (p1:List UInt8) (r:Bool) (hF:qe0 n p1=some r):EvU Tryz.prog 57 [.str p1] ⟨[],0⟩ (fun u _=>u = .bool r∧Bel 0 u):=by
 unfold qe0 at hF
 refine bg1 5 fn57 ?_
 obtain ⟨r2,h3,hF⟩:=q00 hF
 refine go ?_
 refine RS.cl rfl (pC (qj2 n p1 true r2 h3) _) fn81 ?_
 exact gx hF
def q6k   : Option (Bool) :=
 some true
def q42 (p1:List q0g) (p2:List q0g) (n:Nat):Nat→Int→Option (Bool)
 | 0,_=>none
 | m1+1,z7 =>
  cond (decide (z7<(p1.length:Int)))
   (q03 (q03 (q0l p1 z7) fun x9 =>
   q03 (q0l p2 z7) fun x11 =>
   q03 (qgi n x9.A x11.A) fun r13 =>
   cond (!r13)
    (some true)
    (q03 (q0l p1 z7) fun x16 =>
    q03 (q0l p2 z7) fun x18 =>
    q03 (qgi n x16.B x18.B) fun r20 =>
    some (!r20))) fun b22 =>
   cond b22
    (some false)
    ((q42 p1 p2 n m1) (IntKind.i64.wrap (z7+1))))
   (q6k)
def q6e (n:Nat) (p1:List q0g) (p2:List q0g):Option (Bool) :=
 cond ((p1.length:Int) != (p2.length:Int))
  (some false)
  (q42 p1 p2 n n 0)
end Go.Proofs
end
