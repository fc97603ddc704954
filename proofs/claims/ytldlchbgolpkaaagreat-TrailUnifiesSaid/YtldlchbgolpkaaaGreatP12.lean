/-
  Texts of the walk: U1.
-/
import Derived.Test.YtldlchbgolpkaaaGreatP11
set_option linter.unusedSimpArgs false
set_option linter.unusedVariables false
section
namespace Go.Proofs
open Go Go.Rx Go.Vx Tryz
instance:TbP Tryz.prog Tryz.tb:=⟨Tryz.tb_ok⟩
set_option maxRecDepth 20000
set_option maxHeartbeats 4000000
set_option synthInstance.maxSize 4000
set_option synthInstance.maxHeartbeats 200000
structure q2h where
 Feat:Int
 Value:Int
def q3e (x:q2h):List U:=[.int .i64 x.Feat,.int .i64 x.Value]
instance {a0:Int} {a1:Int}:DeC q3e [.int .i64 a0,.int .i64 a1] (q2h.mk a0 a1):=⟨rfl⟩
theorem qko (n:Nat) (x:q2h):BelL n (q3e x):=by
 simp only [q3e,BelL,Bel,true_and,and_true]
theorem qrr (x:q2h):(q3e x).length=2:=rfl
instance:LenC q3e 2:=⟨qrr⟩
instance:BF q3e:=⟨qko⟩
structure q1c where
 Name:List UInt8
 Code:List Int
 Supers:List Int
 Feats:List q2h
def q1p (x:q1c):List U:=[.str x.Name,.isl false (List.map (cI .u64) x.Code),.isl false (List.map (cI .i64) x.Supers),.isl false (List.map q3e x.Feats)]
instance {a0:List UInt8} {a1:List Int} {a2:List Int} {a3:List q2h}:DeC q1p [.str a0,.isl false (List.map (cI .u64) a1),.isl false (List.map (cI .i64) a2),.isl false (List.map q3e a3)] (q1c.mk a0 a1 a2 a3):=⟨rfl⟩
theorem qju (n:Nat) (x:q1c):BelL n (q1p x):=by
 simp only [q1p,BelL,Bel,true_and,and_true]
 exact ⟨q6d _ (fun q=>qug _ .u64 q) _,q6d _ (fun q=>qug _ .i64 q) _,q6d _ (fun q=>qko _ q) _⟩
theorem qk9 (x:q1c):(q1p x).length=4:=rfl
instance:LenC q1p 4:=⟨qk9⟩
instance:BF q1p:=⟨qju⟩
instance (n:Nat) (x:q1c):BUL n (q1p x):=⟨qju n x⟩
structure q0b where
 Name:List UInt8
 Intro:Int
def q0k (x:q0b):List U:=[.str x.Name,.int .i64 x.Intro]
instance {a0:List UInt8} {a1:Int}:DeC q0k [.str a0,.int .i64 a1] (q0b.mk a0 a1):=⟨rfl⟩
theorem qie (n:Nat) (x:q0b):BelL n (q0k x):=by
 simp only [q0k,BelL,Bel,true_and,and_true]
theorem qpm (x:q0b):(q0k x).length=2:=rfl
instance:LenC q0k 2:=⟨qpm⟩
instance:BF q0k:=⟨qie⟩
structure q09 where
 Types:List q1c
 Feats:List q0b
def q0m (x:q09):List U:=[.isl false (List.map q1p x.Types),.isl false (List.map q0k x.Feats)]
theorem qm6 (n:Nat) (x:q09):BelL n (q0m x):=by
 simp only [q0m,BelL,Bel,true_and,and_true]
 exact ⟨q6d _ (fun q=>qju _ q) _,q6d _ (fun q=>qie _ q) _⟩
theorem qmt (x:q09):(q0m x).length=2:=rfl
instance:LenC q0m 2:=⟨qmt⟩
instance (n:Nat) (x:q09):BUL n (q0m x):=⟨qm6 n x⟩
structure q1k where
 Feat:List UInt8
 Value:List UInt8
def q0n (x:q1k):List U:=[.str x.Feat,.str x.Value]
instance {a0:List UInt8} {a1:List UInt8}:DeC q0n [.str a0,.str a1] (q1k.mk a0 a1):=⟨rfl⟩
theorem qhe (n:Nat) (x:q1k):BelL n (q0n x):=by
 simp only [q0n,BelL,Bel,true_and,and_true]
theorem qo0 (x:q1k):(q0n x).length=2:=rfl
instance:LenC q0n 2:=⟨qo0⟩
instance:BF q0n:=⟨qhe⟩
structure q01 where
 Name:List UInt8
 Supers:List (List UInt8)
 Feats:List q1k
def q03 (x:q01):List U:=[.str x.Name,.isl false (List.map cS x.Supers),.isl false (List.map q0n x.Feats)]
theorem qhf (n:Nat) (x:q01):BelL n (q03 x):=by
 simp only [q03,BelL,Bel,true_and,and_true]
 exact ⟨q6d _ (fun q=>z3y _ q) _,q6d _ (fun q=>qhe _ q) _⟩
theorem qo1 (x:q01):(q03 x).length=3:=rfl
instance:LenC q03 3:=⟨qo1⟩
instance:BF q03:=⟨qhf⟩
instance (n:Nat) (x:q01):BUL n (q03 x):=⟨qhf n x⟩
structure q0l where
 Name:List UInt8
 Code:List Int
instance:Inhabited q0l:=⟨.mk default default⟩
def q0t (x:q0l):List U:=[.str x.Name,.isl false (List.map (cI .u64) x.Code)]
instance {a0:List UInt8} {a1:List Int}:DeC q0t [.str a0,.isl false (List.map (cI .u64) a1)] (q0l.mk a0 a1):=⟨rfl⟩
theorem qm5 (n:Nat) (x:q0l):BelL n (q0t x):=by
 simp only [q0t,BelL,Bel,true_and,and_true]
 exact q6d _ (fun q=>qug _ .u64 q) _
theorem q7a (x:q0l):(q0t x).length=2:=rfl
instance:LenC q0t 2:=⟨q7a⟩
instance:BF q0t:=⟨qm5⟩
instance (n:Nat) (x:q0l):BUL n (q0t x):=⟨qm5 n x⟩
structure q0f where
 Feat:Int
 To:Int
def q06 (x:q0f):List U:=[.int .i64 x.Feat,.int .i64 x.To]
instance {a0:Int} {a1:Int}:DeC q06 [.int .i64 a0,.int .i64 a1] (q0f.mk a0 a1):=⟨rfl⟩
theorem qfs (n:Nat) (x:q0f):BelL n (q06 x):=by
 simp only [q06,BelL,Bel,true_and,and_true]
theorem q0z (x:q0f):(q06 x).length=2:=rfl
instance:LenC q06 2:=⟨q0z⟩
instance:BF q06:=⟨qfs⟩
instance (n:Nat) (x:q0f):BUL n (q06 x):=⟨qfs n x⟩
structure q0j where
 Typex:Int
 Arcs:List q0f
def q0a (x:q0j):List U:=[.int .i64 x.Typex,.isl false (List.map q06 x.Arcs)]
instance {a0:Int} {a1:List q0f}:DeC q0a [.int .i64 a0,.isl false (List.map q06 a1)] (q0j.mk a0 a1):=⟨rfl⟩
instance {a0:Int}:DeC q0a [.int .i64 a0,.isl false []] (q0j.mk a0 []):=⟨rfl⟩
theorem qe2 (n:Nat) (x:q0j):BelL n (q0a x):=by
 simp only [q0a,BelL,Bel,true_and,and_true]
 exact q6d _ (fun q=>qfs _ q) _
theorem qcu (x:q0j):(q0a x).length=2:=rfl
instance:LenC q0a 2:=⟨qcu⟩
instance:BF q0a:=⟨qe2⟩
instance (n:Nat) (x:q0j):BUL n (q0a x):=⟨qe2 n x⟩
structure GFS where
 Nodes:List q0j
def qnu (x:GFS):List U:=[.isl false (List.map q0a x.Nodes)]
instance {a0:List q0j}:DeC qnu [.isl false (List.map q0a a0)] (GFS.mk a0):=⟨rfl⟩
theorem quf (n:Nat) (x:GFS):BelL n (qnu x):=by
 simp only [qnu,BelL,Bel,true_and,and_true]
 exact q6d _ (fun q=>qe2 _ q) _
theorem z2p (x:GFS):(qnu x).length=1:=rfl
instance:LenC qnu 1:=⟨z2p⟩
instance:BF qnu:=⟨quf⟩
instance (n:Nat) (x:GFS):BUL n (qnu x):=⟨quf n x⟩
instance Tryz.bd27:BdC Tryz.tb 27 [.nils,.nils] [(0,1),(1,1)]:=⟨bdT un27.h if27.h rfl (by kernel_rfl)⟩
instance Tryz.bd40:BdC Tryz.tb 40 [.nils] [(0,1)]:=⟨bdT un40.h if40.h rfl (by kernel_rfl)⟩
instance Tryz.bd78:BdC Tryz.tb 78 [.int .i64 0,.nils] [(0,1),(1,1)]:=⟨bdT un78.h if78.h rfl (by kernel_rfl)⟩
instance Tryz.bd98:BdC Tryz.tb 98 [.int .i64 0,.int .i64 0] [(0,1),(1,1)]:=⟨bdT un98.h if98.h rfl (by kernel_rfl)⟩
instance Tryz.bd128:BdC Tryz.tb 128 [.str [],.nils] [(0,1),(1,1)]:=⟨bdT un128.h if128.h rfl (by kernel_rfl)⟩
instance Tryz.bd132:BdC Tryz.tb 132 [.str [],.nils,.nils,.nils] [(0,1),(1,1),(2,1),(3,1)]:=⟨bdT un132.h if132.h rfl (by kernel_rfl)⟩
instance Tryz.bd138:BdC Tryz.tb 138 [.str [],.nils,.nils] [(0,1),(1,1),(2,1)]:=⟨bdT un138.h if138.h rfl (by kernel_rfl)⟩
instance Tryz.bd141:BdC Tryz.tb 141 [.str [],.str []] [(0,1),(1,1)]:=⟨bdT un141.h if141.h rfl (by kernel_rfl)⟩
instance Tryz.bd176:BdC Tryz.tb 176 [.int .i64 0,.int .i64 0] [(0,1),(1,1)]:=⟨bdT un176.h if176.h rfl (by kernel_rfl)⟩
instance Tryz.bd187:BdC Tryz.tb 187 [.str [],.int .i64 0] [(0,1),(1,1)]:=⟨bdT un187.h if187.h rfl (by kernel_rfl)⟩
abbrev qdl (a) (b:Nat):=([(1,.bv (cL (cI .u64)) a 126 1 b),(0,.row [] 126)]:List (Nat×B))
abbrev q1q (a) (b:Nat):=([(0,.bv cS a 9 1 b)]:List (Nat×B))
abbrev qgn (a) (b:Nat) (c):=([(1,.bv (cI .i64) a 3 1 b),(0,.row [.iM q0a c] 40)]:List (Nat×B))
abbrev q7m (a) (b:Nat):=([(0,.bv (cI .i64) a 3 1 b)]:List (Nat×B))
abbrev qgo :=([(0,.row [.str [],.nils,.nils] 138)]:List (Nat×B))
abbrev qit (a:U) (b) (c) (d:Nat):=([(2,.row [a,.iM (cI .u64) b] 128),(1,.bv q0t c 128 2 d)]:List (Nat×B))
abbrev quu :=([(1,.row [.str ([70]),.str ([116,111,112]),.str ([71]),.str ([116,111,112])] 141),(0,.row [.nils,.nils] 27)]:List (Nat×B))
def qb1   : Option (Int) :=
 some 0
def q5r (p1:List q01):Nat→Int→Option (Int)
 | 0,_=>none
 | m1+1,z5 =>
  cond (decide (z5<(p1.length:Int)))
   (bindO (bindO (idxO p1 z5) fun x7 =>
   cond (decide ((x7.Supers.length:Int) > 256))
    (some true)
    (bindO (idxO p1 z5) fun x10 =>
    some (decide ((x10.Feats.length:Int) > 256)))) fun b12 =>
   cond b12
    (some 7)
    ((q5r p1 m1) (IntKind.i64.wrap (z5+1))))
   (qb1)
def qd7 (n:Nat) (p1:List q01):Option (Int) :=
 cond (decide ((p1.length:Int) > 256))
  (some 7)
  (q5r p1 n 0)
theorem qq5 (n:Nat) (p1:List q01) (r:Int) (hF:qd7 n p1=some r):EvP Tryz.prog 122 [.isl false (List.map q03 p1)] (.int .i64 r):=by
 unfold qd7 at hF
 refine bg1 29 fn122 ?_
 refine gF hF (fun h2 hF=>?_) (fun h2 hF=>?_)
 exact gx hF
 refine go ?_
 refine gL (fun m tm σ=>∃ z5,q5r p1 m z5=some r∧tm=fr 29 [(0,.iM q03 p1),(3,.i6 z5)]∧σ=⟨[],0⟩) (fun tm σ=>qb1=some r∧tm=fr 29 []∧σ=⟨[],0⟩) n ⟨0,hF,rfl,rfl⟩ ?_ ?_
 rintro _ _ ⟨hF,rfl,rfl⟩
 unfold qb1 at hF
 exact gx hF
 rintro (_|m1) _ _ ⟨z5,hF,rfl,rfl⟩
 cases hF
 unfold q5r at hF
 refine gF hF (fun h6 hF=>?_) (fun h6 hF=>?_)
 refine go ?_
 refine WPU.block ?_
 obtain ⟨b12,h13,hF⟩:=q00 hF
 refine gn ?_
 refine z73 (fun tm σ=>tm=fr 29 [(0,.iM q03 p1),(3,.i6 z5),(28,.bool b12)]∧σ=⟨[],0⟩) ?_ ?_
 rintro _ _ ⟨rfl,rfl⟩
 refine gF hF (fun h14 hF=>?_) (fun h14 hF=>?_)
 exact gx hF
 refine go ?_
 exact lC ⟨_,hF,rfl,rfl⟩
 obtain ⟨x7,h8,h13⟩:=q00 h13
 refine go ?_
 refine RS.ix h8 ?_
 refine go ?_
 rcases gB h13 with ⟨h9,h13⟩ | ⟨h9,h13⟩
 exact gy h13
 obtain ⟨x10,h11,h13⟩:=q00 h13
 obtain rfl:=sI h13
 refine go ?_
 refine RS.ix h11 ?_
 refine go ?_
 exact xC ⟨rfl,rfl⟩
 refine go ?_
 exact xC ⟨hF,rfl,rfl⟩
def q8t (n:Nat) (p1:Int):Option (Bool) :=
 bindO (cond (decide (p1 ≥ 48))
  (some (decide (p1≤57)))
  (some false)) fun b3 =>
 some b3
theorem qj8 (n:Nat) (p1:Int) (r:Bool) (hF:q8t n p1=some r):EvP Tryz.prog 171 [.int .u8 p1] (.bool r):=by
 unfold q8t at hF
 refine bg1 9 fn171 ?_
 obtain ⟨b3,h4,hF⟩:=q00 hF
 refine gr ?_
 refine z73 (fun tm σ=>tm=fr 9 [(2,.bool b3)]∧σ=⟨[],0⟩) ?_ ?_
 rintro _ _ ⟨rfl,rfl⟩
 exact gx hF
 refine go ?_
 rcases gB h4 with ⟨h2,h4⟩ | ⟨h2,h4⟩
 exact gy h4
 exact gy h4
def qf4 (n:Nat) (p1:Int):Option (Bool) :=
 bindO (cond (decide (p1 ≥ 65))
  (some (decide (p1≤90)))
  (some false)) fun b3 =>
 some b3
theorem qpx (n:Nat) (p1:Int) (r:Bool) (hF:qf4 n p1=some r):EvP Tryz.prog 174 [.int .u8 p1] (.bool r):=by
 unfold qf4 at hF
 refine bg1 9 fn174 ?_
 obtain ⟨b3,h4,hF⟩:=q00 hF
 refine gr ?_
 refine z73 (fun tm σ=>tm=fr 9 [(2,.bool b3)]∧σ=⟨[],0⟩) ?_ ?_
 rintro _ _ ⟨rfl,rfl⟩
 exact gx hF
 refine go ?_
 rcases gB h4 with ⟨h2,h4⟩ | ⟨h2,h4⟩
 exact gy h4
 exact gy h4
def qd0 (n:Nat) (p1:Int):Option (Bool) :=
 bindO (cond (decide (p1 ≥ 97))
  (some (decide (p1≤122)))
  (some false)) fun b3 =>
 some b3
theorem qj9 (n:Nat) (p1:Int) (r:Bool) (hF:qd0 n p1=some r):EvP Tryz.prog 175 [.int .u8 p1] (.bool r):=by
 unfold qd0 at hF
 refine bg1 9 fn175 ?_
 obtain ⟨b3,h4,hF⟩:=q00 hF
 refine gr ?_
 refine z73 (fun tm σ=>tm=fr 9 [(2,.bool b3)]∧σ=⟨[],0⟩) ?_ ?_
 rintro _ _ ⟨rfl,rfl⟩
 exact gx hF
 refine go ?_
 rcases gB h4 with ⟨h2,h4⟩ | ⟨h2,h4⟩
 exact gy h4
 exact gy h4
def qeb (n:Nat) (p1:Int) (p2:Bool):Option (Bool) :=
 bindO (bindO (q8t n p1) fun r3 =>
 cond r3
  (some true)
  (cond (p1 == 45)
   (some true)
   (cond p2
    (bindO (qf4 n p1) fun r8 =>
    cond r8
     (some true)
     (cond (!p2)
      (bindO (qd0 n p1) fun r12 =>
      some r12)
      (some false)))
    (cond (!p2)
     (bindO (qd0 n p1) fun r15 =>
     some r15)
     (some false))))) fun b17 =>
 some b17
theorem qs9 (n:Nat) (p1:Int) (p2:Bool) (r:Bool) (hF:qeb n p1 p2=some r):EvP Tryz.prog 172 [.int .u8 p1,.bool p2] (.bool r):=by
 unfold qeb at hF
 refine bg2 26 fn172 ?_
 obtain ⟨b17,h18,hF⟩:=q00 hF
 refine gr ?_
 refine z73 (fun tm σ=>tm=fr 26 [(4,.bool b17)]∧σ=⟨[],0⟩) ?_ ?_
 rintro _ _ ⟨rfl,rfl⟩
 exact gx hF
 obtain ⟨r3,h4,h18⟩:=q00 h18
 refine go ?_
 refine RS.cl rfl (pC (qj8 n p1 r3 h4) _) fn171 ?_
 refine go ?_
 rcases gB h18 with ⟨h5,h18⟩ | ⟨h5,h18⟩
 obtain rfl:=sI h18
 refine go ?_
 repeat refine RS.no (qfo rfl rfl rfl) rfl rfl ?_
 refine go ?_
 repeat refine RS.no (qfo rfl rfl rfl) rfl rfl ?_
 refine go ?_
 exact xC ⟨rfl,rfl⟩
 refine go ?_
 rcases gB h18 with ⟨h6,h18⟩ | ⟨h6,h18⟩
 obtain rfl:=sI h18
 refine go ?_
 repeat refine RS.no (qfo rfl rfl rfl) rfl rfl ?_
 refine go ?_
 repeat refine RS.no (qfo rfl rfl rfl) rfl rfl ?_
 refine go ?_
 exact xC ⟨rfl,rfl⟩
 refine go ?_
 rcases gB h18 with ⟨h7,h18⟩ | ⟨h7,h18⟩
 obtain ⟨r8,h9,h18⟩:=q00 h18
 refine go ?_
 refine RS.cl rfl (pC (qpx n p1 r8 h9) _) fn174 ?_
 refine go ?_
 rcases gB h18 with ⟨h10,h18⟩ | ⟨h10,h18⟩
 obtain rfl:=sI h18
 refine go ?_
 repeat refine RS.no (qfo rfl rfl rfl) rfl rfl ?_
 refine go ?_
 exact xC ⟨rfl,rfl⟩
 refine go ?_
 rcases gB h18 with ⟨h11,h18⟩ | ⟨h11,h18⟩
 obtain ⟨r12,h13,h18⟩:=q00 h18
 obtain rfl:=sI h18
 refine go ?_
 refine RS.cl rfl (pC (qj9 n p1 r12 h13) _) fn175 ?_
 refine go ?_
 exact xC ⟨rfl,rfl⟩
 exact gy h18
 refine go ?_
 rcases gB h18 with ⟨h14,h18⟩ | ⟨h14,h18⟩
 obtain ⟨r15,h16,h18⟩:=q00 h18
 obtain rfl:=sI h18
 refine go ?_
 refine RS.cl rfl (pC (qj9 n p1 r15 h16) _) fn175 ?_
 refine go ?_
 exact xC ⟨rfl,rfl⟩
 exact gy h18
def qan   : Option (Bool) :=
 some true
def q5n (p1:List UInt8) (p2:Bool) (n:Nat):Nat→Int→Option (Bool)
 | 0,_=>none
 | m1+1,z18 =>
  cond (decide (z18<(p1.length:Int)))
   (bindO (qu6 p1 z18) fun x20 =>
   bindO (qeb n x20 p2) fun r22 =>
   cond (!r22)
    (some false)
    ((q5n p1 p2 n m1) (IntKind.i64.wrap (z18+1))))
   (qan)
def qac (n:Nat) (p1:List UInt8) (p2:Bool):Option (Bool) :=
 bindO (cond (decide ((p1.length:Int)<1))
  (some true)
  (cond (decide ((p1.length:Int) > 32))
   (some true)
   (bindO (qu6 p1 0) fun x5 =>
   bindO (q8t n x5) fun r7 =>
   cond r7
    (some true)
    (bindO (qu6 p1 0) fun x10 =>
    some (x10 == 45))))) fun b12 =>
 cond b12
  (some false)
  (q5n p1 p2 n n 0)
theorem qja (n:Nat) (p1:List UInt8) (p2:Bool) (r:Bool) (hF:qac n p1 p2=some r):EvP Tryz.prog 165 [.str p1,.bool p2] (.bool r):=by
 unfold qac at hF
 refine bg2 36 fn165 ?_
 obtain ⟨b12,h13,hF⟩:=q00 hF
 refine gr ?_
 refine z73 (fun tm σ=>tm=fr 36 [(0,.str p1),(1,.bool p2),(23,.bool b12)]∧σ=⟨[],0⟩) ?_ ?_
 rintro _ _ ⟨rfl,rfl⟩
 refine gF hF (fun h14 hF=>?_) (fun h14 hF=>?_)
 exact gx hF
 refine go ?_
 refine gL (fun m tm σ=>∃ z18,q5n p1 p2 n m z18=some r∧tm=fr 36 [(0,.str p1),(1,.bool p2),(5,.i6 z18)]∧σ=⟨[],0⟩) (fun tm σ=>qan=some r∧tm=fr 36 []∧σ=⟨[],0⟩) n ⟨0,hF,rfl,rfl⟩ ?_ ?_
 rintro _ _ ⟨hF,rfl,rfl⟩
 unfold qan at hF
 exact gx hF
 rintro (_|m1) _ _ ⟨z18,hF,rfl,rfl⟩
 cases hF
 unfold q5n at hF
 refine go ?_
 refine RS.q (u:=.i6 (p1.length:Int)) rfl (qj6 rfl rfl rfl (by simp only [lenU,un9.h])) ?_
 refine gF hF (fun h19 hF=>?_) (fun h19 hF=>?_)
 refine go ?_
 refine WPU.block ?_
 obtain ⟨x20,h21,hF⟩:=q00 hF
 obtain ⟨r22,h23,hF⟩:=q00 hF
 refine go ?_
 refine RS.q (u:=.int .u8 x20) rfl (qtu un9.h rfl rfl h21) ?_
 refine go ?_
 refine RS.cl rfl (pC (qs9 n x20 p2 r22 h23) _) fn172 ?_
 refine gF hF (fun h24 hF=>?_) (fun h24 hF=>?_)
 exact gx hF
 refine go ?_
 exact lC ⟨_,hF,rfl,rfl⟩
 refine go ?_
 exact xC ⟨hF,rfl,rfl⟩
 refine go ?_
 refine RS.q (u:=.i6 (p1.length:Int)) rfl (qj6 rfl rfl rfl (by simp only [lenU,un9.h])) ?_
 refine go ?_
 rcases gB h13 with ⟨h3,h13⟩ | ⟨h3,h13⟩
 exact gy h13
 refine go ?_
 refine RS.w (u:=.i6 (p1.length:Int)) rfl (qj6 rfl rfl rfl (by simp only [lenU,un9.h])) ?_
 refine go ?_
 rcases gB h13 with ⟨h4,h13⟩ | ⟨h4,h13⟩
 exact gy h13
 obtain ⟨x5,h6,h13⟩:=q00 h13
 obtain ⟨r7,h8,h13⟩:=q00 h13
 refine go ?_
 refine RS.w (u:=.int .u8 x5) rfl (qtu un9.h rfl rfl h6) (RS.cl rfl (pC (qj8 n x5 r7 h8) _) fn171 ?_)
 refine go ?_
 rcases gB h13 with ⟨h9,h13⟩ | ⟨h9,h13⟩
 exact gy h13
 obtain ⟨x10,h11,h13⟩:=q00 h13
 obtain rfl:=sI h13
 refine go ?_
 refine RS.w (u:=.int .u8 x10) rfl (qtu un9.h rfl rfl h11) ?_
 refine go ?_
 exact xC ⟨rfl,rfl⟩
def qea (n:Nat) (p1:List UInt8):Option (Bool) :=
 bindO (qac n p1 false) fun r2 =>
 some r2
theorem qs8 (n:Nat) (p1:List UInt8) (r:Bool) (hF:qea n p1=some r):EvP Tryz.prog 147 [.str p1] (.bool r):=by
 unfold qea at hF
 refine bg1 5 fn147 ?_
 obtain ⟨r2,h3,hF⟩:=q00 hF
 refine go ?_
 refine RS.cl rfl (pC (qja n p1 false r2 h3) _) fn165 ?_
 exact gx hF
def qcg   : Option (Int) :=
 some (-1)
def q6h (p1:List q01) (p2:List UInt8):Nat→Int→Option (Int)
 | 0,_=>none
 | m1+1,z6 =>
  cond (decide (z6<(p1.length:Int)))
   (bindO (idxO p1 z6) fun x8 =>
   cond (q22 x8.Name p2)
    (some z6)
    ((q6h p1 p2 m1) (IntKind.i64.wrap (z6+1))))
   (qcg)
def q68 (n:Nat) (p1:List q01) (p2:List UInt8):Option (Int) :=
 q6h p1 p2 n 0
theorem q92 (n:Nat) (p1:List q01) (p2:List UInt8) (r:Int) (hF:q68 n p1 p2=some r):EvP Tryz.prog 148 [.isl false (List.map q03 p1),.str p2] (.int .i64 r):=by
 unfold q68 at hF
 refine bg2 20 fn148 ?_
 refine go ?_
 refine gL (fun m tm σ=>∃ z6,q6h p1 p2 m z6=some r∧tm=fr 20 [(0,.iM q03 p1),(1,.str p2),(5,.i6 z6)]∧σ=⟨[],0⟩) (fun tm σ=>qcg=some r∧tm=fr 20 []∧σ=⟨[],0⟩) n ⟨0,hF,rfl,rfl⟩ ?_ ?_
 rintro _ _ ⟨hF,rfl,rfl⟩
 unfold qcg at hF
 exact gx hF
 rintro (_|m1) _ _ ⟨z6,hF,rfl,rfl⟩
 cases hF
 unfold q6h at hF
 refine gF hF (fun h7 hF=>?_) (fun h7 hF=>?_)
 refine go ?_
 refine WPU.block ?_
 obtain ⟨x8,h9,hF⟩:=q00 hF
 refine go ?_
 refine RS.ix h9 ?_
 refine go ?_
 refine RS.q (u:=.bool (q22 x8.Name p2)) rfl (qfh rfl rfl rfl rfl) ?_
 refine gF hF (fun h10 hF=>?_) (fun h10 hF=>?_)
 exact gx hF
 refine go ?_
 exact lC ⟨_,hF,rfl,rfl⟩
 refine go ?_
 exact xC ⟨hF,rfl,rfl⟩
def qaz   : Option (Int) :=
 some 0
def q5p (p1:List q01) (n:Nat):Nat→Int→Option (Int)
 | 0,_=>none
 | m1+1,z4 =>
  cond (decide (z4<(p1.length:Int)))
   (bindO (idxO p1 z4) fun x6 =>
   bindO (qea n x6.Name) fun r8 =>
   cond (!r8)
    (some 1)
    (bindO (idxO p1 z4) fun x11 =>
    bindO (q68 n p1 x11.Name) fun r13 =>
    cond (decide (r13<z4))
     (some 4)
     ((q5p p1 n m1) (IntKind.i64.wrap (z4+1)))))
   (qaz)
def qf7 (n:Nat) (p1:List q01):Option (Int) :=
 q5p p1 n n 0
theorem qq3 (n:Nat) (p1:List q01) (r:Int) (hF:qf7 n p1=some r):EvP Tryz.prog 123 [.isl false (List.map q03 p1)] (.int .i64 r):=by
 unfold qf7 at hF
 refine bg1 26 fn123 ?_
 refine go ?_
 refine gL (fun m tm σ=>∃ z4,q5p p1 n m z4=some r∧tm=fr 26 [(0,.iM q03 p1),(3,.i6 z4)]∧σ=⟨[],0⟩) (fun tm σ=>qaz=some r∧tm=fr 26 []∧σ=⟨[],0⟩) n ⟨0,hF,rfl,rfl⟩ ?_ ?_
 rintro _ _ ⟨hF,rfl,rfl⟩
 unfold qaz at hF
 exact gx hF
 rintro (_|m1) _ _ ⟨z4,hF,rfl,rfl⟩
 cases hF
 unfold q5p at hF
 refine gF hF (fun h5 hF=>?_) (fun h5 hF=>?_)
 refine go ?_
 refine WPU.block ?_
 obtain ⟨x6,h7,hF⟩:=q00 hF
 obtain ⟨r8,h9,hF⟩:=q00 hF
 refine go ?_
 refine RS.ix h7 ?_
 refine go ?_
 refine RS.cl rfl (pC (qs8 n x6.Name r8 h9) _) fn147 ?_
 refine gF hF (fun h10 hF=>?_) (fun h10 hF=>?_)
 exact gx hF
 obtain ⟨x11,h12,hF⟩:=q00 hF
 obtain ⟨r13,h14,hF⟩:=q00 hF
 refine go ?_
 refine RS.ix h12 ?_
 refine go ?_
 refine RS.cl rfl (pC (q92 n p1 x11.Name r13 h14) _) fn148 ?_
 refine gF hF (fun h15 hF=>?_) (fun h15 hF=>?_)
 exact gx hF
 refine go ?_
 exact lC ⟨_,hF,rfl,rfl⟩
 refine go ?_
 exact xC ⟨hF,rfl,rfl⟩
def qas   : Option (Bool) :=
 some false
def q6u (p1:List (List UInt8)) (p2:List UInt8):Nat→Int→Option (Bool)
 | 0,_=>none
 | m1+1,z6 =>
  cond (decide (z6<(p1.length:Int)))
   (bindO (idxO p1 z6) fun x8 =>
   cond (q22 x8 p2)
    (some true)
    ((q6u p1 p2 m1) (IntKind.i64.wrap (z6+1))))
   (qas)
def q49 (n:Nat) (p1:List (List UInt8)) (p2:List UInt8):Option (Bool) :=
 q6u p1 p2 n 0
theorem q4g (n:Nat) (p1:List (List UInt8)) (p2:List UInt8) (r:Bool) (hF:q49 n p1 p2=some r):EvP Tryz.prog 127 [.isl false (List.map cS p1),.str p2] (.bool r):=by
 unfold q49 at hF
 refine bg2 18 fn127 ?_
 refine go ?_
 refine gL (fun m tm σ=>∃ z6,q6u p1 p2 m z6=some r∧tm=fr 18 [(0,.iM cS p1),(1,.str p2),(5,.i6 z6)]∧σ=⟨[],0⟩) (fun tm σ=>qas=some r∧tm=fr 18 []∧σ=⟨[],0⟩) n ⟨0,hF,rfl,rfl⟩ ?_ ?_
 rintro _ _ ⟨hF,rfl,rfl⟩
 unfold qas at hF
 exact gx hF
 rintro (_|m1) _ _ ⟨z6,hF,rfl,rfl⟩
 cases hF
 unfold q6u at hF
 refine gF hF (fun h7 hF=>?_) (fun h7 hF=>?_)
 refine go ?_
 refine WPU.block ?_
 obtain ⟨x8,h9,hF⟩:=q00 hF
 refine go ?_
 refine RS.ix h9 ?_
 refine go ?_
 refine RS.q (u:=.bool (q22 x8 p2)) rfl (qfh rfl rfl rfl rfl) ?_
 refine gF hF (fun h10 hF=>?_) (fun h10 hF=>?_)
 exact gx hF
 refine go ?_
 exact lC ⟨_,hF,rfl,rfl⟩
 refine go ?_
 exact xC ⟨hF,rfl,rfl⟩
def q9h (z4:Int) (rc1:Int→Option (Int))  : Option (Int) :=
 rc1 (IntKind.i64.wrap (z4+1))
def q4x (p1:List q01) (n:Nat) (z4:Int) (rc1:Int→Option (Int)) (x6:q01):Nat→Int→Option (Int)
 | 0,_=>none
 | m2+1,z12 =>
  cond (decide (z12<(x6.Supers.length:Int)))
   (bindO (idxO x6.Supers z12) fun x14 =>
   bindO (q68 n p1 x14) fun r16 =>
   cond (decide (r16<0))
    (some 5)
    (bindO (qmc x6.Supers 0 z12) fun l19 =>
    bindO (idxO x6.Supers z12) fun x23 =>
    bindO (q49 n l19 x23) fun r25 =>
    cond r25
     (some 4)
     ((q4x p1 n z4 rc1 x6 m2) (IntKind.i64.wrap (z12+1)))))
   (q9h z4 rc1)
def q9g   : Option (Int) :=
 some 0
def q2q (p1:List q01) (n:Nat):Nat→Int→Option (Int)
 | 0,_=>none
 | m1+1,z4 =>
  cond (decide (z4<(p1.length:Int)))
   (bindO (idxO p1 z4) fun x6 =>
   q4x p1 n z4 (q2q p1 n m1) x6 n 0)
   (q9g)
def qdq (n:Nat) (p1:List q01):Option (Int) :=
 q2q p1 n n 0
theorem qo5 (n:Nat) (p1:List q01) (r:Int) (hF:qdq n p1=some r):EvP Tryz.prog 124 [.isl false (List.map q03 p1)] (.int .i64 r):=by
 unfold qdq at hF
 refine bg1 38 fn124 ?_
 refine go ?_
 refine gL (fun m tm σ=>∃ z4,q2q p1 n m z4=some r∧tm=fr 38 [(0,.iM q03 p1),(3,.i6 z4)]∧σ=⟨[],0⟩) (fun tm σ=>q9g=some r∧tm=fr 38 []∧σ=⟨[],0⟩) n ⟨0,hF,rfl,rfl⟩ ?_ ?_
 rintro _ _ ⟨hF,rfl,rfl⟩
 unfold q9g at hF
 exact gx hF
 rintro (_|m1) _ _ ⟨z4,hF,rfl,rfl⟩
 cases hF
 unfold q2q at hF
 refine gF hF (fun h5 hF=>?_) (fun h5 hF=>?_)
 refine go ?_
 refine WPU.block ?_
 obtain ⟨x6,h7,hF⟩:=q00 hF
 refine go ?_
 refine RS.ix h7 ?_
 refine go ?_
 refine gL (fun m tm σ=>∃ z12,q4x p1 n z4 (q2q p1 n m1) x6 m z12=some r∧tm=fr 38 [(0,.iM q03 p1),(3,.i6 z4),(4,.iM cS x6.Supers),(5,.i6 z12)]∧σ=⟨[],0⟩) (fun tm σ=>q9h z4 (q2q p1 n m1)=some r∧tm=fr 38 [(0,.iM q03 p1),(3,.i6 z4)]∧σ=⟨[],0⟩) n ⟨0,hF,rfl,rfl⟩ ?_ ?_
 rintro _ _ ⟨hF,rfl,rfl⟩
 unfold q9h at hF
 refine go ?_
 exact lC ⟨_,hF,rfl,rfl⟩
 rintro (_|m2) _ _ ⟨z12,hF,rfl,rfl⟩
 cases hF
 unfold q4x at hF
 refine gF hF (fun h13 hF=>?_) (fun h13 hF=>?_)
 refine go ?_
 refine WPU.block ?_
 obtain ⟨x14,h15,hF⟩:=q00 hF
 obtain ⟨r16,h17,hF⟩:=q00 hF
 refine go ?_
 refine RS.ix h15 ?_
 refine go ?_
 refine RS.cl rfl (pC (q92 n p1 x14 r16 h17) _) fn148 ?_
 refine gF hF (fun h18 hF=>?_) (fun h18 hF=>?_)
 exact gx hF
 obtain ⟨l19,h20,hF⟩:=q00 hF
 obtain ⟨h21,h22⟩:=qup cS .i64 h20
 obtain ⟨x23,h24,hF⟩:=q00 hF
 obtain ⟨r25,h26,hF⟩:=q00 hF
 refine go ?_
 refine dE [] ?_
 refine gd ?_
 refine RD.q (u:=.iM cS l19) rfl (q2c rfl qaj (qk2 rfl) qaj (qbr cS un135.h (q0g if9.h) qix h21 h22)) ?_
 refine gd ?_
 refine RD.ix h24 ?_
 refine gd ?_
 refine RD.fl rfl (pC (q4g n l19 x23 r25 h26)) fn127 ?_
 refine RD.done ⟨by kernel_rfl,trivial,?_⟩
 refine gF hF (fun h27 hF=>?_) (fun h27 hF=>?_)
 exact gx hF
 refine go ?_
 exact lC ⟨_,hF,rfl,rfl⟩
 refine go ?_
 exact xC ⟨hF,rfl,rfl⟩
 refine go ?_
 exact xC ⟨hF,rfl,rfl⟩
def qb0   : Option (Bool) :=
 some true
def q5q (p1:q01) (p2:List (List UInt8)) (n:Nat):Nat→Int→Option (Bool)
 | 0,_=>none
 | m1+1,z8 =>
  cond (decide (z8<(p1.Supers.length:Int)))
   (bindO (idxO p1.Supers z8) fun x10 =>
   bindO (q49 n p2 x10) fun r12 =>
   cond (!r12)
    (some false)
    ((q5q p1 p2 n m1) (IntKind.i64.wrap (z8+1))))
   (qb0)
def qf8 (n:Nat) (p1:q01) (p2:List (List UInt8)):Option (Bool) :=
 q5q p1 p2 n n 0
theorem qq4 (n:Nat) (p1:q01) (p2:List (List UInt8)) (r:Bool) (hF:qf8 n p1 p2=some r):EvP Tryz.prog 149 [.agg (q03 p1),.isl false (List.map cS p2)] (.bool r):=by
 unfold qf8 at hF
 refine bg2 21 fn149 ?_
 refine go ?_
 refine gL (fun m tm σ=>∃ z8,q5q p1 p2 n m z8=some r∧tm=fr 21 [(1,.iM cS p2),(2,.ptr 0 0 0),(5,.i6 z8)]∧σ=⟨[(0,.row (q03 p1) 138)],1⟩) (fun tm σ=>qb0=some r∧tm=fr 21 []∧σ=⟨[(0,.row (q03 p1) 138)],1⟩) n ⟨0,hF,rfl,rfl⟩ ?_ ?_
 rintro _ _ ⟨hF,rfl,rfl⟩
 unfold qb0 at hF
 exact gx hF
 rintro (_|m1) _ _ ⟨z8,hF,rfl,rfl⟩
 cases hF
 unfold q5q at hF
 refine gF hF (fun h9 hF=>?_) (fun h9 hF=>?_)
 refine go ?_
 refine WPU.block ?_
 obtain ⟨x10,h11,hF⟩:=q00 hF
 obtain ⟨r12,h13,hF⟩:=q00 hF
 refine go ?_
 refine RS.ix h11 ?_
 refine go ?_
 refine RS.cl rfl (pC (q4g n p2 x10 r12 h13) _) fn127 ?_
 refine gF hF (fun h14 hF=>?_) (fun h14 hF=>?_)
 exact gx hF
 refine go ?_
 exact lC ⟨_,hF,rfl,rfl⟩
 refine go ?_
 exact xC ⟨hF,rfl,rfl⟩
def q7d (rc1:Bool→(List (List UInt8))→Option ((List (List UInt8)))) (b21:Bool) (l24:List (List UInt8)):Option ((List (List UInt8))) :=
 rc1 b21 l24
def q7e (z20:Int) (rc2:Bool→(List UInt8)→Int→Option ((List (List UInt8)))) (s46:List UInt8):Option ((List (List UInt8))) :=
 rc2 true s46 (IntKind.i64.wrap (z20+1))
def q9f (l7:List (List UInt8)) (rc1:Bool→(List (List UInt8))→Option ((List (List UInt8)))) (b21:Bool) (s22:List UInt8):Option ((List (List UInt8))) :=
 cond b21
  (needO ((l7.length+1)*16≤140737488355328∧l7.length+1≤140737488355328) (
  q7d rc1 b21 (l7++[s22])))
  (q7d rc1 b21 l7)
def q2p (p1:List q01) (n:Nat) (l7:List (List UInt8)) (rc1:Bool→(List (List UInt8))→Option ((List (List UInt8)))):Nat→Bool→(List UInt8)→Int→Option ((List (List UInt8)))
 | 0,_,_,_=>none
 | m2+1,b18,s19,z20 =>
  cond (decide (z20<(p1.length:Int)))
   (bindO (bindO (idxO p1 z20) fun x28 =>
   bindO (q49 n l7 x28.Name) fun r30 =>
   cond r30
    (some true)
    (bindO (idxO p1 z20) fun x33 =>
    bindO (qf8 n x33 l7) fun r35 =>
    some (!r35))) fun b37 =>
   cond b37
    ((q2p p1 n l7 rc1 m2) b18 s19 (IntKind.i64.wrap (z20+1)))
    (bindO (cond (!b18)
     (some true)
     (bindO (idxO p1 z20) fun x41 =>
     some (q1v x41.Name s19))) fun b43 =>
    cond b43
     (bindO (idxO p1 z20) fun x47 =>
     q7e z20 (q2p p1 n l7 rc1 m2) x47.Name)
     (q7e z20 (q2p p1 n l7 rc1 m2) s19)))
   (q9f l7 rc1 b18 s19)
def q9e  (l9:List (List UInt8)):Option ((List (List UInt8))) :=
 some l9
def q26 (p1:List q01) (n:Nat):Nat→Bool→(List (List UInt8))→Option ((List (List UInt8)))
 | 0,_,_=>none
 | m1+1,b6,l7 =>
  cond b6
   (q2p p1 n l7 (q26 p1 n m1) n false [] 0)
   (q9e l7)
def qdp (n:Nat) (p1:List q01):Option ((List (List UInt8))) :=
 q26 p1 n n true ([]:List (List UInt8))
theorem qo4 (n:Nat) (p1:List q01) (r:(List (List UInt8))) (hF:qdp n p1=some r):EvP Tryz.prog 125 [.isl false (List.map q03 p1)] (.isl false (List.map cS r)):=by
 unfold qdp at hF
 refine bg1 52 fn125 ?_
 refine gr ?_
 refine gr ?_
 refine gr ?_
 refine gV 3 9 1 1 ?_
 refine gL (fun m tm σ=>∃ b6 l7 t8,q26 p1 n m b6 l7=some r∧tm=fr 52 [(0,.iM q03 p1),(3,.vl 0 t8 0 l7.length),(4,.bool b6)]∧σ=⟨q1q l7 t8,1⟩) (fun tm σ=>∃ l9 t10,q9e l9=some r∧tm=fr 52 [(3,.vl 0 t10 0 l9.length)]∧σ=⟨q1q l9 t10,1⟩) n ⟨true,([]:List (List UInt8)),0,hF,rfl,rfl⟩ ?_ ?_
 rintro _ _ ⟨l9,t10,hF,rfl,rfl⟩
 unfold q9e at hF
 refine go ?_
 obtain rfl:=sI hF
 exact rT (us:=[.vl 0 t10 0 l9.length]) (u:=.iM cS l9) (q2y rfl (q24)) (fR 0 1)
 rintro (_|m1) _ _ ⟨b6,l7,t8,hF,rfl,rfl⟩
 cases hF
 unfold q26 at hF
 refine gF hF (fun h11 hF=>?_) (fun h11 hF=>?_)
 refine go ?_
 refine WPU.block ?_
 refine go ?_
 refine gL (fun m tm σ=>∃ b18 s19 z20,q2p p1 n l7 (q26 p1 n m1) m b18 s19 z20=some r∧tm=fr 52 [(0,.iM q03 p1),(3,.vl 0 t8 0 l7.length),(4,.bool b18),(5,.str s19),(6,.i6 z20)]∧σ=⟨q1q l7 t8,1⟩) (fun tm σ=>∃ b21 s22,q9f l7 (q26 p1 n m1) b21 s22=some r∧tm=fr 52 [(0,.iM q03 p1),(3,.vl 0 t8 0 l7.length),(4,.bool b21),(5,.str s22)]∧σ=⟨q1q l7 t8,1⟩) n ⟨false,[],0,hF,rfl,rfl⟩ ?_ ?_
 rintro _ _ ⟨b21,s22,hF,rfl,rfl⟩
 unfold q9f at hF
 refine gr ?_
 refine z73 (fun tm σ=>∃ l24 t25,q7d (q26 p1 n m1) b21 l24=some r∧tm=fr 52 [(0,.iM q03 p1),(3,.vl 0 t25 0 l24.length),(4,.bool b21)]∧σ=⟨q1q l24 t25,1⟩) ?_ ?_
 rintro _ _ ⟨l24,t25,hF,rfl,rfl⟩
 unfold q7d at hF
 refine go ?_
 exact lC ⟨b21,l24,t25,hF,rfl,rfl⟩
 refine cF hF (fun h23 hF=>?_) (fun h23 hF=>?_)
 obtain ⟨h26,hF⟩:=q04 hF
 refine go ?_
 refine RS.g ?_
 refine RS.g ?_
 refine go ?_
 exact xC ⟨(l7++[s22]),(t8+1),hF,rfl,rfl⟩
 refine go ?_
 exact xC ⟨l7,t8,hF,rfl,rfl⟩
 rintro (_|m2) _ _ ⟨b18,s19,z20,hF,rfl,rfl⟩
 cases hF
 unfold q2p at hF
 refine gF hF (fun h27 hF=>?_) (fun h27 hF=>?_)
 refine go ?_
 refine WPU.block ?_
 obtain ⟨b37,h38,hF⟩:=q00 hF
 refine gn ?_
 refine z73 (fun tm σ=>tm=fr 52 [(0,.iM q03 p1),(3,.vl 0 t8 0 l7.length),(4,.bool b18),(5,.str s19),(6,.i6 z20),(29,.bool b37)]∧σ=⟨q1q l7 t8,1⟩) ?_ ?_
 rintro _ _ ⟨rfl,rfl⟩
 refine gF hF (fun h39 hF=>?_) (fun h39 hF=>?_)
 refine go ?_
 exact lC ⟨b18,s19,(IntKind.i64.wrap (z20+1)),hF,rfl,rfl⟩
 obtain ⟨b43,h44,hF⟩:=q00 hF
 refine gn ?_
 refine z73 (fun tm σ=>tm=fr 52 [(0,.iM q03 p1),(3,.vl 0 t8 0 l7.length),(5,.str s19),(6,.i6 z20),(40,.bool b43)]∧σ=⟨q1q l7 t8,1⟩) ?_ ?_
 rintro _ _ ⟨rfl,rfl⟩
 refine gn ?_
 refine z73 (fun tm σ=>∃ s46,q7e z20 (q2p p1 n l7 (q26 p1 n m1) m2) s46=some r∧tm=fr 52 [(0,.iM q03 p1),(3,.vl 0 t8 0 l7.length),(5,.str s46),(6,.i6 z20)]∧σ=⟨q1q l7 t8,1⟩) ?_ ?_
 rintro _ _ ⟨s46,hF,rfl,rfl⟩
 unfold q7e at hF
 refine go ?_
 exact lC ⟨true,s46,(IntKind.i64.wrap (z20+1)),hF,rfl,rfl⟩
 refine cF hF (fun h45 hF=>?_) (fun h45 hF=>?_)
 obtain ⟨x47,h48,hF⟩:=q00 hF
 refine go ?_
 refine RS.ix h48 ?_
 refine go ?_
 exact xC ⟨x47.Name,hF,rfl,rfl⟩
 refine go ?_
 exact xC ⟨s19,hF,rfl,rfl⟩
 refine go ?_
 rcases gB h44 with ⟨h40,h44⟩ | ⟨h40,h44⟩
 exact gy h44
 obtain ⟨x41,h42,h44⟩:=q00 h44
 obtain rfl:=sI h44
 refine go ?_
 refine RS.ix h42 ?_
 refine go ?_
 refine RS.w (u:=.bool (q1v x41.Name s19)) rfl (qfh rfl rfl rfl rfl) ?_
 refine go ?_
 exact xC ⟨rfl,rfl⟩
 obtain ⟨x28,h29,h38⟩:=q00 h38
 obtain ⟨r30,h31,h38⟩:=q00 h38
 refine go ?_
 refine RS.ix h29 ?_
 refine go ?_
 refine RS.cl rfl (vw (q4g n l7 x28.Name r30 h31) (z77 0 1)) fn127 ?_
 refine go ?_
 rcases gB h38 with ⟨h32,h38⟩ | ⟨h32,h38⟩
 exact gy h38
 obtain ⟨x33,h34,h38⟩:=q00 h38
 obtain ⟨r35,h36,h38⟩:=q00 h38
 obtain rfl:=sI h38
 refine go ?_
 refine RS.ix h34 ?_
 refine go ?_
 refine RS.cl rfl (vw (qq4 n x33 l7 r35 h36) (z77 0 1)) fn149 ?_
 refine go ?_
 exact xC ⟨rfl,rfl⟩
 refine go ?_
 exact xC ⟨b18,s19,hF,rfl,rfl⟩
 refine go ?_
 exact xC ⟨l7,t8,hF,rfl,rfl⟩
def q8a (z15:Int) (rc1:Int→Int→Option (Int)) (z25:Int):Option (Int) :=
 rc1 z25 (IntKind.i64.wrap (z15+1))
def qaw (p1:List q01) (n:Nat) (z16:Int):Option (Int) :=
 cond (z16 != 1)
  (some 1)
  (bindO (qdp n p1) fun r18 =>
  cond (decide ((r18.length:Int)<(p1.length:Int)))
   (some 6)
   (some 0))
def q3q (p1:List q01) (n:Nat):Nat→Int→Int→Option (Int)
 | 0,_,_=>none
 | m1+1,z14,z15 =>
  cond (decide (z15<(p1.length:Int)))
   (bindO (idxO p1 z15) fun x22 =>
   cond ((x22.Supers.length:Int) == 0)
    (q8a z15 (q3q p1 n m1) (IntKind.i64.wrap (z14+1)))
    (q8a z15 (q3q p1 n m1) z14))
   (qaw p1 n z14)
def qd5 (n:Nat) (p1:List q01):Option (Int) :=
 bindO (qd7 n p1) fun r2 =>
 cond (r2 != 0)
  (some r2)
  (bindO (qf7 n p1) fun r5 =>
  cond (r5 != 0)
   (some r5)
   (bindO (qdq n p1) fun r8 =>
   cond (r8 != 0)
    (some r8)
    (q3q p1 n n 0 0)))
theorem qq2 (n:Nat) (p1:List q01) (r:Int) (hF:qd5 n p1=some r):EvP Tryz.prog 93 [.isl false (List.map q03 p1)] (.int .i64 r):=by
 unfold qd5 at hF
 refine bg1 46 fn93 ?_
 obtain ⟨r2,h3,hF⟩:=q00 hF
 refine go ?_
 refine RS.cl rfl (pC (qq5 n p1 r2 h3) _) fn122 ?_
 refine gF hF (fun h4 hF=>?_) (fun h4 hF=>?_)
 exact gx hF
 obtain ⟨r5,h6,hF⟩:=q00 hF
 refine go ?_
 refine RS.cl rfl (pC (qq3 n p1 r5 h6) _) fn123 ?_
 refine gF hF (fun h7 hF=>?_) (fun h7 hF=>?_)
 exact gx hF
 obtain ⟨r8,h9,hF⟩:=q00 hF
 refine go ?_
 refine RS.cl rfl (pC (qo5 n p1 r8 h9) _) fn124 ?_
 refine gF hF (fun h10 hF=>?_) (fun h10 hF=>?_)
 exact gx hF
 refine go ?_
 refine gL (fun m tm σ=>∃ z14 z15,q3q p1 n m z14 z15=some r∧tm=fr 46 [(0,.iM q03 p1),(6,.i6 z14),(7,.i6 z15)]∧σ=⟨[],0⟩) (fun tm σ=>∃ z16,qaw p1 n z16=some r∧tm=fr 46 [(0,.iM q03 p1),(6,.i6 z16)]∧σ=⟨[],0⟩) n ⟨0,0,hF,rfl,rfl⟩ ?_ ?_
 rintro _ _ ⟨z16,hF,rfl,rfl⟩
 unfold qaw at hF
 refine gF hF (fun h17 hF=>?_) (fun h17 hF=>?_)
 exact gx hF
 obtain ⟨r18,h19,hF⟩:=q00 hF
 refine go ?_
 refine RS.cl rfl (pC (qo4 n p1 r18 h19) _) fn125 ?_
 refine gF hF (fun h20 hF=>?_) (fun h20 hF=>?_)
 exact gx hF
 exact gx hF
 rintro (_|m1) _ _ ⟨z14,z15,hF,rfl,rfl⟩
 cases hF
 unfold q3q at hF
 refine gF hF (fun h21 hF=>?_) (fun h21 hF=>?_)
 refine go ?_
 refine WPU.block ?_
 obtain ⟨x22,h23,hF⟩:=q00 hF
 refine go ?_
 refine RS.ix h23 ?_
 refine gn ?_
 refine z73 (fun tm σ=>∃ z25,q8a z15 (q3q p1 n m1) z25=some r∧tm=fr 46 [(0,.iM q03 p1),(6,.i6 z25),(7,.i6 z15)]∧σ=⟨[],0⟩) ?_ ?_
 rintro _ _ ⟨z25,hF,rfl,rfl⟩
 unfold q8a at hF
 refine go ?_
 exact lC ⟨z25,(IntKind.i64.wrap (z15+1)),hF,rfl,rfl⟩
 refine cF hF (fun h24 hF=>?_) (fun h24 hF=>?_)
 refine go ?_
 exact xC ⟨(IntKind.i64.wrap (z14+1)),hF,rfl,rfl⟩
 refine go ?_
 exact xC ⟨z14,hF,rfl,rfl⟩
 refine go ?_
 exact xC ⟨z14,hF,rfl,rfl⟩
def qbj (p1:List (List UInt8)) (p2:List UInt8) (z7:Int):Option ((List (List UInt8))) :=
 bindO (cond (decide (z7<(p1.length:Int)))
  (bindO (idxO p1 z7) fun x9 =>
  some (q22 x9 p2))
  (some false)) fun b11 =>
 cond b11
  (some p1)
  (bindO (qmc p1 0 z7) fun l14 =>
  needO (l14.length*16≤140737488355328∧l14.length≤140737488355328) (
  needO ((l14.length+1)*16≤140737488355328∧l14.length+1≤140737488355328) (
  bindO (qmc p1 z7 (p1.length:Int)) fun l20 =>
  needO (((l14++[p2]).length+l20.length)*16≤140737488355328∧(l14++[p2]).length+l20.length≤140737488355328) (
  some ((l14++[p2])++l20)))))
def q91 (p1:List (List UInt8)) (p2:List UInt8):Nat→Int→Option ((List (List UInt8)))
 | 0,_=>none
 | m1+1,z6 =>
  bindO (cond (decide (z6<(p1.length:Int)))
   (bindO (idxO p1 z6) fun x26 =>
   some (q1v x26 p2))
   (some false)) fun b28 =>
  cond b28
   ((q91 p1 p2 m1) (IntKind.i64.wrap (z6+1)))
   (qbj p1 p2 z6)
def q9d (n:Nat) (p1:List (List UInt8)) (p2:List UInt8):Option ((List (List UInt8))) :=
 q91 p1 p2 n 0
theorem qag (n:Nat) (p1:List (List UInt8)) (p2:List UInt8) (r:(List (List UInt8))) (hF:q9d n p1 p2=some r):EvP Tryz.prog 117 [.isl false (List.map cS p1),.str p2] (.isl false (List.map cS r)):=by
 unfold q9d at hF
 refine bg2 48 fn117 ?_
 refine go ?_
 refine gL (fun m tm σ=>∃ z6,q91 p1 p2 m z6=some r∧tm=fr 48 [(0,.iM cS p1),(1,.str p2),(5,.nils),(6,.i6 z6)]∧σ=⟨[],0⟩) (fun tm σ=>∃ z7,qbj p1 p2 z7=some r∧tm=fr 48 [(0,.iM cS p1),(1,.str p2),(5,.nils),(6,.i6 z7)]∧σ=⟨[],0⟩) n ⟨0,hF,rfl,rfl⟩ ?_ ?_
 rintro _ _ ⟨z7,hF,rfl,rfl⟩
 unfold qbj at hF
 obtain ⟨b11,h12,hF⟩:=q00 hF
 refine gn ?_
 refine z73 (fun tm σ=>tm=fr 48 [(0,.iM cS p1),(1,.str p2),(5,.nils),(6,.i6 z7),(32,.bool b11)]∧σ=⟨[],0⟩) ?_ ?_
 rintro _ _ ⟨rfl,rfl⟩
 refine gF hF (fun h13 hF=>?_) (fun h13 hF=>?_)
 exact gx hF
 obtain ⟨l14,h15,hF⟩:=q00 hF
 obtain ⟨h16,h17⟩:=qup cS .i64 h15
 obtain ⟨h18,hF⟩:=q04 hF
 refine go ?_
 refine RS.q (u:=.iM cS l14) rfl (q2c rfl qaj (qk2 rfl) qaj (qbr cS un135.h (q0g if9.h) qix h16 h17)) (RS.q (u:=.vl 0 0 0 l14.length) (σ':=⟨[(0,.bv cS l14 9 1 0)],1⟩) rfl (qdn rfl rfl rfl rfl (qt6 cS l14 un135.h un135.h if9.h rfl (qnh cS qix) h18)) ?_)
 obtain ⟨h19,hF⟩:=q04 hF
 refine go ?_
 refine RS.g ?_
 refine RS.g ?_
 obtain ⟨l20,h21,hF⟩:=q00 hF
 obtain ⟨h22,h23⟩:=qr5 cS .i64 h21
 obtain ⟨h24,hF⟩:=q04 hF
 refine go ?_
 refine RS.q (u:=.iM cS l20) rfl (q2c rfl (qk2 rfl) qaj qaj (qbr cS un135.h (q0g if9.h) qix h22 h23)) ?_
 refine RS.g ?_
 refine go ?_
 obtain rfl:=sI hF
 exact rT (us:=[.vl 0 2 0 (((l14++[p2])++l20).length)]) (u:=.iM cS ((l14++[p2])++l20)) (q2y rfl (q24)) (fR 0 1)
 refine go ?_
 rcases gB h12 with ⟨h8,h12⟩ | ⟨h8,h12⟩
 obtain ⟨x9,h10,h12⟩:=q00 h12
 obtain rfl:=sI h12
 refine go ?_
 refine RS.ix h10 ?_
 refine go ?_
 refine RS.w (u:=.bool (q22 x9 p2)) rfl (qfh rfl rfl rfl rfl) ?_
 refine go ?_
 exact xC ⟨rfl,rfl⟩
 exact gy h12
 rintro (_|m1) _ _ ⟨z6,hF,rfl,rfl⟩
 cases hF
 unfold q91 at hF
 obtain ⟨b28,h29,hF⟩:=q00 hF
 refine gn ?_
 refine z73 (fun tm σ=>tm=fr 48 [(0,.iM cS p1),(1,.str p2),(5,.nils),(6,.i6 z6),(18,.bool b28)]∧σ=⟨[],0⟩) ?_ ?_
 rintro _ _ ⟨rfl,rfl⟩
 refine gF hF (fun h30 hF=>?_) (fun h30 hF=>?_)
 refine go ?_
 refine WPU.block ?_
 refine go ?_
 exact lC ⟨_,hF,rfl,rfl⟩
 refine go ?_
 exact xC ⟨z6,hF,rfl,rfl⟩
 refine go ?_
 rcases gB h29 with ⟨h25,h29⟩ | ⟨h25,h29⟩
 obtain ⟨x26,h27,h29⟩:=q00 h29
 obtain rfl:=sI h29
 refine go ?_
 refine RS.ix h27 ?_
 refine go ?_
 refine RS.w (u:=.bool (q1v x26 p2)) rfl (qfh rfl rfl rfl rfl) ?_
 refine go ?_
 exact xC ⟨rfl,rfl⟩
 exact gy h29
def qax  (l7:List (List UInt8)):Option ((List (List UInt8))) :=
 some l7
def q5o (p1:List q01) (n:Nat):Nat→(List (List UInt8))→Int→Option ((List (List UInt8)))
 | 0,_,_=>none
 | m1+1,l5,z6 =>
  cond (decide (z6<(p1.length:Int)))
   (bindO (idxO p1 z6) fun x9 =>
   bindO (q9d n l5 x9.Name) fun r11 =>
   (q5o p1 n m1) r11 (IntKind.i64.wrap (z6+1)))
   (qax l5)
def qd6 (n:Nat) (p1:List q01):Option ((List (List UInt8))) :=
 q5o p1 n n [] 0
theorem qjd (n:Nat) (p1:List q01) (r:(List (List UInt8))) (hF:qd6 n p1=some r):EvP Tryz.prog 94 [.isl false (List.map q03 p1)] (.isl false (List.map cS r)):=by
 unfold qd6 at hF
 refine bg1 19 fn94 ?_
 refine gr ?_
 refine gr ?_
 refine gr ?_
 refine WPU.ghost (tm':=fr 19 [(0,.iM q03 p1),(3,.iM cS []),(4,.i6 0)]) (Gh.trans (Gh.sub (l':=[(0,.iM q03 p1),(3,.nils),(4,.i6 0)]) ⟨rfl,rfl,rfl,trivial⟩) (Gh.wkS (l':=[(0,.iM q03 p1),(3,.iM cS []),(4,.i6 0)]) (.cons (.refl _) (.cons (.nil false) (.cons (.refl _) .nil))))) NZ ?_
 refine gL (fun m tm σ=>∃ l5 z6,q5o p1 n m l5 z6=some r∧tm=fr 19 [(0,.iM q03 p1),(3,.iM cS l5),(4,.i6 z6)]∧σ=⟨[],0⟩) (fun tm σ=>∃ l7,qax l7=some r∧tm=fr 19 [(3,.iM cS l7)]∧σ=⟨[],0⟩) n ⟨[],0,hF,rfl,rfl⟩ ?_ ?_
 rintro _ _ ⟨l7,hF,rfl,rfl⟩
 unfold qax at hF
 exact gx hF
 rintro (_|m1) _ _ ⟨l5,z6,hF,rfl,rfl⟩
 cases hF
 unfold q5o at hF
 refine gF hF (fun h8 hF=>?_) (fun h8 hF=>?_)
 refine go ?_
 refine WPU.block ?_
 obtain ⟨x9,h10,hF⟩:=q00 hF
 obtain ⟨r11,h12,hF⟩:=q00 hF
 refine go ?_
 refine RS.ix h10 ?_
 refine go ?_
 refine RS.cl rfl (pC (qag n l5 x9.Name r11 h12) _) fn117 ?_
 refine go ?_
 exact lC ⟨r11,(IntKind.i64.wrap (z6+1)),hF,rfl,rfl⟩
 refine go ?_
 exact xC ⟨l5,hF,rfl,rfl⟩
def qau  (l21:List (List UInt8)):Option ((List (List UInt8))) :=
 some l21
def q4r (n:Nat) (l13:List (List UInt8)):Nat→(List (List UInt8))→Int→Option ((List (List UInt8)))
 | 0,_,_=>none
 | m2+1,l19,z20 =>
  cond (decide (z20<(l13.length:Int)))
   (bindO (idxO l13 z20) fun x23 =>
   bindO (q9d n l19 x23) fun r25 =>
   (q4r n l13 m2) r25 (IntKind.i64.wrap (z20+1)))
   (qau l19)
def q89 (z33:Int) (rc3:Int→(List (List UInt8))→Option ((List (List UInt8)))) (l53:List (List UInt8)):Option ((List (List UInt8))) :=
 rc3 (IntKind.i64.wrap (z33+1)) l53
def qav (z10:Int) (rc1:Int→(List (List UInt8))→Option ((List (List UInt8)))) (l36:List (List UInt8)):Option ((List (List UInt8))) :=
 rc1 (IntKind.i64.wrap (z10+1)) l36
def q3p (p1:List q01) (n:Nat) (z10:Int) (rc1:Int→(List (List UInt8))→Option ((List (List UInt8)))):Nat→Int→(List (List UInt8))→Option ((List (List UInt8)))
 | 0,_,_=>none
 | m3+1,z33,l34 =>
  cond (decide (z33<(p1.length:Int)))
   (bindO (bindO (idxO p1 z33) fun x39 =>
   bindO (idxO l34 z10) fun x41 =>
   bindO (q49 n x39.Supers x41) fun r43 =>
   cond r43
    (bindO (idxO p1 z33) fun x46 =>
    bindO (q49 n l34 x46.Name) fun r48 =>
    some (!r48))
    (some false)) fun b50 =>
   cond b50
    (bindO (idxO p1 z33) fun x55 =>
    needO ((l34.length+1)*16≤140737488355328∧l34.length+1≤140737488355328) (
    q89 z33 (q3p p1 n z10 rc1 m3) (l34++[x55.Name])))
    (q89 z33 (q3p p1 n z10 rc1 m3) l34))
   (qav z10 rc1 l34)
def qat (n:Nat) (l13:List (List UInt8)):Option ((List (List UInt8))) :=
 q4r n l13 n [] 0
def q35 (p1:List q01) (n:Nat):Nat→Int→(List (List UInt8))→Option ((List (List UInt8)))
 | 0,_,_=>none
 | m1+1,z10,l11 =>
  cond (decide (z10<(l11.length:Int)))
   (q3p p1 n z10 (q35 p1 n m1) n 0 l11)
   (qat n l11)
def qd4 (n:Nat) (p1:List q01) (p2:List UInt8):Option ((List (List UInt8))) :=
 bindO (q68 n p1 p2) fun r3 =>
 cond (decide (r3<0))
  (some [])
  (q35 p1 n n 0 ([p2]))
theorem qq1 (n:Nat) (p1:List q01) (p2:List UInt8) (r:(List (List UInt8))) (hF:qd4 n p1 p2=some r):EvP Tryz.prog 126 [.isl false (List.map q03 p1),.str p2] (.isl false (List.map cS r)):=by
 unfold qd4 at hF
 refine bg2 69 fn126 ?_
 obtain ⟨r3,h4,hF⟩:=q00 hF
 refine go ?_
 refine RS.cl rfl (pC (q92 n p1 p2 r3 h4) _) fn148 ?_
 refine gF hF (fun h5 hF=>?_) (fun h5 hF=>?_)
 refine go ?_
 obtain rfl:=sI hF
 exact rT (us:=[.nils]) (u:=.isl false []) (q2y rfl (q24)) wR
 refine go ?_
 refine RS.step (u:=.vl 0 0 0 ([p2].length)) (σ':=⟨[(0,.bv cS ([p2]) 9 1 0)],1⟩) rfl (qle.bslv (cs:=(List.map cS [p2]).flatten) Tryz.tb_ok rfl un135.h if9.h rfl rfl rfl rfl rfl rfl rfl rfl) rfl rfl ?_
 refine go ?_
 refine gL (fun m tm σ=>∃ z10 l11 t12,q35 p1 n m z10 l11=some r∧tm=fr 69 [(0,.iM q03 p1),(5,.vl 0 t12 0 l11.length),(6,.i6 z10)]∧σ=⟨q1q l11 t12,1⟩) (fun tm σ=>∃ l13 t14,qat n l13=some r∧tm=fr 69 [(5,.vl 0 t14 0 l13.length)]∧σ=⟨q1q l13 t14,1⟩) n ⟨0,[p2],0,hF,rfl,rfl⟩ ?_ ?_
 rintro _ _ ⟨l13,t14,hF,rfl,rfl⟩
 unfold qat at hF
 refine gr ?_
 refine gr ?_
 refine WPU.ghost (tm':=fr 69 [(5,.vl 0 t14 0 l13.length),(8,.iM cS []),(9,.i6 0)]) (Gh.trans (Gh.sub (l':=[(5,.vl 0 t14 0 l13.length),(8,.nils),(9,.i6 0)]) ⟨rfl,rfl,rfl,trivial⟩) (Gh.wkS (l':=[(5,.vl 0 t14 0 l13.length),(8,.iM cS []),(9,.i6 0)]) (.cons (.refl _) (.cons (.nil false) (.cons (.refl _) .nil))))) NZ ?_
 refine gL (fun m tm σ=>∃ l19 z20,q4r n l13 m l19 z20=some r∧tm=fr 69 [(5,.vl 0 t14 0 l13.length),(8,.iM cS l19),(9,.i6 z20)]∧σ=⟨q1q l13 t14,1⟩) (fun tm σ=>∃ l21,qau l21=some r∧tm=fr 69 [(8,.iM cS l21)]∧σ=⟨q1q l13 t14,1⟩) n ⟨[],0,hF,rfl,rfl⟩ ?_ ?_
 rintro _ _ ⟨l21,hF,rfl,rfl⟩
 unfold qau at hF
 exact gx hF
 rintro (_|m2) _ _ ⟨l19,z20,hF,rfl,rfl⟩
 cases hF
 unfold q4r at hF
 refine gF hF (fun h22 hF=>?_) (fun h22 hF=>?_)
 refine go ?_
 refine WPU.block ?_
 obtain ⟨x23,h24,hF⟩:=q00 hF
 obtain ⟨r25,h26,hF⟩:=q00 hF
 refine go ?_
 refine RS.q rfl (q25 rfl rfl (q40 cS un135.h (q0g if9.h) (by decide) qix (vo rfl) h24)) ?_
 refine RS.q rfl (q65 cS (fun x=>.str x) un9.h rfl (fun _=>rfl) rfl rfl h24) (RS.cl rfl (pC (qag n l19 x23 r25 h26) _) fn117 ?_)
 refine go ?_
 exact lC ⟨r25,(IntKind.i64.wrap (z20+1)),hF,rfl,rfl⟩
 refine go ?_
 exact xC ⟨l19,hF,rfl,rfl⟩
 rintro (_|m1) _ _ ⟨z10,l11,t12,hF,rfl,rfl⟩
 cases hF
 unfold q35 at hF
 refine gF hF (fun h27 hF=>?_) (fun h27 hF=>?_)
 refine go ?_
 refine WPU.block ?_
 refine go ?_
 refine gL (fun m tm σ=>∃ z33 l34 t35,q3p p1 n z10 (q35 p1 n m1) m z33 l34=some r∧tm=fr 69 [(0,.iM q03 p1),(5,.vl 0 t35 0 l34.length),(6,.i6 z10),(7,.i6 z33)]∧σ=⟨q1q l34 t35,1⟩) (fun tm σ=>∃ l36 t37,qav z10 (q35 p1 n m1) l36=some r∧tm=fr 69 [(0,.iM q03 p1),(5,.vl 0 t37 0 l36.length),(6,.i6 z10)]∧σ=⟨q1q l36 t37,1⟩) n ⟨0,l11,t12,hF,rfl,rfl⟩ ?_ ?_
 rintro _ _ ⟨l36,t37,hF,rfl,rfl⟩
 unfold qav at hF
 refine go ?_
 exact lC ⟨_,l36,t37,hF,rfl,rfl⟩
 rintro (_|m3) _ _ ⟨z33,l34,t35,hF,rfl,rfl⟩
 cases hF
 unfold q3p at hF
 refine gF hF (fun h38 hF=>?_) (fun h38 hF=>?_)
 refine go ?_
 refine WPU.block ?_
 obtain ⟨b50,h51,hF⟩:=q00 hF
 refine gn ?_
 refine z73 (fun tm σ=>tm=fr 69 [(0,.iM q03 p1),(5,.vl 0 t35 0 l34.length),(6,.i6 z10),(7,.i6 z33),(47,.bool b50)]∧σ=⟨q1q l34 t35,1⟩) ?_ ?_
 rintro _ _ ⟨rfl,rfl⟩
 refine gn ?_
 refine z73 (fun tm σ=>∃ l53 t54,q89 z33 (q3p p1 n z10 (q35 p1 n m1) m3) l53=some r∧tm=fr 69 [(0,.iM q03 p1),(5,.vl 0 t54 0 l53.length),(6,.i6 z10),(7,.i6 z33)]∧σ=⟨q1q l53 t54,1⟩) ?_ ?_
 rintro _ _ ⟨l53,t54,hF,rfl,rfl⟩
 unfold q89 at hF
 refine go ?_
 exact lC ⟨_,l53,t54,hF,rfl,rfl⟩
 refine cF hF (fun h52 hF=>?_) (fun h52 hF=>?_)
 obtain ⟨x55,h56,hF⟩:=q00 hF
 obtain ⟨h57,hF⟩:=q04 hF
 refine go ?_
 refine RS.ix h56 ?_
 refine go ?_
 refine RS.g ?_
 refine RS.g ?_
 refine go ?_
 exact xC ⟨(l34++[x55.Name]),(t35+1),hF,rfl,rfl⟩
 refine go ?_
 exact xC ⟨l34,t35,hF,rfl,rfl⟩
 obtain ⟨x39,h40,h51⟩:=q00 h51
 obtain ⟨x41,h42,h51⟩:=q00 h51
 obtain ⟨r43,h44,h51⟩:=q00 h51
 refine dE [] ?_
 refine gd ?_
 refine RD.ix h40 ?_
 refine gd ?_
 refine RD.q rfl (q25 rfl rfl (q40 cS un135.h (q0g if9.h) (by decide) qix (vo rfl) h42)) ?_
 refine RD.q rfl (q65 cS (fun x=>.str x) un9.h rfl (fun _=>rfl) rfl rfl h42) (RD.fl rfl (pC (q4g n x39.Supers x41 r43 h44)) fn127 ?_)
 refine gd ?_
 rcases gB h51 with ⟨h45,h51⟩ | ⟨h45,h51⟩
 obtain ⟨x46,h47,h51⟩:=q00 h51
 obtain ⟨r48,h49,h51⟩:=q00 h51
 obtain rfl:=sI h51
 refine gd ?_
 refine RD.ix h47 ?_
 refine gd ?_
 refine RD.call (u:=.bool r48) (args:=[.vl 0 t35 0 l34.length,.str x46.Name]) (qfn rfl rfl rfl h45) (q0s rfl rfl fn127 hb127 rfl rfl) (vw (q4g n l34 x46.Name r48 h49) (z77 0 1)) rfl rfl ?_
 refine gd ?_
 refine RD.done ⟨by kernel_rfl,trivial,?_⟩
 refine go ?_
 exact xC ⟨rfl,rfl⟩
 obtain rfl:=sI h51
 refine gd ?_
 refine RD.done ⟨by kernel_rfl,trivial,?_⟩
 refine go ?_
 exact xC ⟨rfl,rfl⟩
 refine go ?_
 exact xC ⟨l34,t35,hF,rfl,rfl⟩
 refine go ?_
 exact xC ⟨l11,t12,hF,rfl,rfl⟩
def q7b (p1:List Int) (z5:Int):Option ((List Int)) :=
 bindO (qmc p1 0 z5) fun l6 =>
 needO (l6.length*8≤140737488355328∧l6.length≤140737488355328) (
 some l6)
def q3u (p1:List Int):Nat→Int→Option ((List Int))
 | 0,_=>none
 | m1+1,z4 =>
  bindO (cond (decide (z4 > 0))
   (bindO (idxO p1 (IntKind.i64.wrap (z4 - 1))) fun x12 =>
   some (x12 == 0))
   (some false)) fun b14 =>
  cond b14
   ((q3u p1 m1) (IntKind.i64.wrap (z4 - 1)))
   (q7b p1 z4)
def q4p (n:Nat) (p1:List Int):Option ((List Int)) :=
 q3u p1 n (p1.length:Int)
theorem qao (n:Nat) (p1:List Int) (r:(List Int)) (hF:q4p n p1=some r):EvP Tryz.prog 120 [.isl false (List.map (cI .u64) p1)] (.isl false (List.map (cI .u64) r)):=by
 unfold q4p at hF
 refine bg1 23 fn120 ?_
 refine go ?_
 refine gL (fun m tm σ=>∃ z4,q3u p1 m z4=some r∧tm=fr 23 [(0,.iM (cI .u64) p1),(3,.i6 z4)]∧σ=⟨[],0⟩) (fun tm σ=>∃ z5,q7b p1 z5=some r∧tm=fr 23 [(0,.iM (cI .u64) p1),(3,.i6 z5)]∧σ=⟨[],0⟩) n ⟨(p1.length:Int),hF,rfl,rfl⟩ ?_ ?_
 rintro _ _ ⟨z5,hF,rfl,rfl⟩
 unfold q7b at hF
 obtain ⟨l6,h7,hF⟩:=q00 hF
 obtain ⟨h8,h9⟩:=qup (cI .u64) .i64 h7
 obtain ⟨h10,hF⟩:=q04 hF
 refine go ?_
 refine RS.q (u:=.sl 0 0 0 0) (σ':=⟨[(0,.row [] 191)],1⟩) rfl (qc4 un126.h if191.h rfl rfl rfl rfl rfl rfl rfl) ?_
 refine go ?_
 refine RS.q (u:=.iM (cI .u64) l6) rfl (q2c rfl qaj (qk2 rfl) qaj (qbr (cI .u64) un126.h (q0g if191.h) (q4c .u64) h8 h9)) (RS.q (u:=.vl 1 0 0 l6.length) (σ':=⟨[(1,.bv (cI .u64) l6 191 1 0),(0,.row [] 191)],2⟩) rfl (qdn rfl rfl rfl rfl (qt5 (cI .u64) l6 un126.h un126.h if191.h rfl rfl rfl (qnh (cI .u64) (q4c .u64)) h10)) ?_)
 refine go ?_
 obtain rfl:=sI hF
 exact rT (us:=[.vl 1 0 0 l6.length]) (u:=.iM (cI .u64) l6) (q2y rfl (q24)) (fR 1 1)
 rintro (_|m1) _ _ ⟨z4,hF,rfl,rfl⟩
 cases hF
 unfold q3u at hF
 obtain ⟨b14,h15,hF⟩:=q00 hF
 refine gn ?_
 refine z73 (fun tm σ=>tm=fr 23 [(0,.iM (cI .u64) p1),(3,.i6 z4),(15,.bool b14)]∧σ=⟨[],0⟩) ?_ ?_
 rintro _ _ ⟨rfl,rfl⟩
 refine gF hF (fun h16 hF=>?_) (fun h16 hF=>?_)
 refine go ?_
 refine WPU.block ?_
 refine go ?_
 exact lC ⟨_,hF,rfl,rfl⟩
 refine go ?_
 exact xC ⟨z4,hF,rfl,rfl⟩
 refine go ?_
 rcases gB h15 with ⟨h11,h15⟩ | ⟨h11,h15⟩
 obtain ⟨x12,h13,h15⟩:=q00 h15
 obtain rfl:=sI h15
 refine go ?_
 refine RS.ix h13 ?_
 refine go ?_
 exact xC ⟨rfl,rfl⟩
 exact gy h15
def qf5 (n:Nat) (l8:List Int):Option ((List Int)×Int) :=
 needO ((64:Int).toNat=l8.length) (
 bindO (q4p n l8) fun r10 =>
 some (r10,0))
def q8u (p1:List Int) (n:Nat):Nat→Int→(List Int)→Option ((List Int)×Int)
 | 0,_,_=>none
 | m1+1,z6,l7 =>
  cond (decide (z6<(p1.length:Int)))
   (bindO (bindO (idxO p1 z6) fun x13 =>
   cond (decide (x13<0))
    (some true)
    (bindO (idxO p1 z6) fun x16 =>
    some (decide (x16 > 4095)))) fun b18 =>
   cond b18
    (some ([],2))
    (bindO (idxO p1 z6) fun x21 =>
    bindO (idxO p1 z6) fun x24 =>
    bindO (qnw l7 0 ((64:Int).toNat) (IntKind.i64.wrap (x24.tdiv 64))) fun x27 =>
    bindO (idxO p1 z6) fun x29 =>
    needO (¬ (IntKind.u64.wrap (x29.tmod 64))<0) (
    bindO (qnw l7 0 ((64:Int).toNat) (IntKind.i64.wrap (x21.tdiv 64))) fun x33 =>
    (q8u p1 n m1) (IntKind.i64.wrap (z6+1)) (l7.set (IntKind.i64.wrap (x21.tdiv 64)).toNat (orI .u64 x27 (IntKind.u64.wrap (1*(2 ^ (min (IntKind.u64.wrap (x29.tmod 64)).toNat IntKind.u64.bits)))))))))
   (qf5 n l7)
def qjc (n:Nat) (p1:List Int):Option ((List Int)×Int) :=
 needO (0≤(64:Int)∧8*(64:Int).toNat≤281474976710656∧(64:Int)≤281474976710656) (
 q8u p1 n n 0 (List.replicate (64:Int).toNat 0))
theorem qx0 (n:Nat) (p1:List Int) (r:(List Int)×Int) (hF:qjc n p1=some r):EvP Tryz.prog 128 [.isl false (List.map (cI .i64) p1)] (.tup [.isl false (List.map (cI .u64) r.1),.int .i64 r.2]):=by
 unfold qjc at hF
 refine bg1 50 fn128 ?_
 obtain ⟨h2,hF⟩:=q04 hF
 refine go ?_
 refine RS.q (u:=.sl 0 0 ((64:Int).toNat) ((64:Int).toNat)) (σ':=⟨[(0,.row (List.map (cI .u64) (List.replicate (64:Int).toNat 0)).flatten 191)],1⟩) rfl (qzq (cI .u64) 0 rfl rfl un126.h if191.h rfl rfl rfl rfl h2) ?_
 refine go ?_
 refine gL (fun m tm σ=>∃ z6 l7,q8u p1 n m z6 l7=some r∧tm=fr 50 [(0,.iM (cI .i64) p1),(4,.sl 0 0 ((64:Int).toNat) ((64:Int).toNat)),(5,.i6 z6)]∧σ=⟨[(0,.row (List.map (cI .u64) l7).flatten 191)],1⟩) (fun tm σ=>∃ l8,qf5 n l8=some r∧tm=fr 50 [(4,.sl 0 0 ((64:Int).toNat) ((64:Int).toNat))]∧σ=⟨[(0,.row (List.map (cI .u64) l8).flatten 191)],1⟩) n ⟨0,(List.replicate (64:Int).toNat 0),hF,rfl,rfl⟩ ?_ ?_
 rintro _ _ ⟨l8,hF,rfl,rfl⟩
 unfold qf5 at hF
 obtain ⟨h9,hF⟩:=q04 hF
 refine gn ?_
 refine WPU.ghost (tm':=fr 50 [(4,.iM (cI .u64) l8)]) (σ':=⟨[],1⟩) (Gh.trans (Gh.sub (l':=[(4,.sl 0 0 ((64:Int).toNat) ((64:Int).toNat))]) ⟨rfl,trivial⟩) (Gh.fzS (l':=[(4,.iM (cI .u64) l8)]) (h':=[]) 0 (.row (List.map (cI .u64) l8).flatten 191) 1 rfl (by simp) (by simp only [fzS,qlh,qg0,qal,qkw,qg1,qky,qg3,qhv,qhu,qht,qg2,qkx,qml,qkv,qkz,qrj,qmr,z2i (q4c .u64) h9]) (by simp only [fzH,fzB,ug,Nat.beq,zC,zD,qlh,qg0,qal,qkw,qg1,qky,qg3,qhv,qhu,qht,qg2,qkx,qml,qkv,qkz,qrj,qmr,z2i (q4c .u64) h9]))) NZ ?_
 obtain ⟨r10,h11,hF⟩:=q00 hF
 refine go ?_
 refine RS.cl rfl (pC (qao n l8 r10 h11) _) fn120 ?_
 refine go ?_
 obtain rfl:=sI hF
 exact rt2 rfl rfl rfl rfl rfl
 rintro (_|m1) _ _ ⟨z6,l7,hF,rfl,rfl⟩
 cases hF
 unfold q8u at hF
 refine gF hF (fun h12 hF=>?_) (fun h12 hF=>?_)
 refine go ?_
 refine WPU.block ?_
 obtain ⟨b18,h19,hF⟩:=q00 hF
 refine gn ?_
 refine z73 (fun tm σ=>tm=fr 50 [(0,.iM (cI .i64) p1),(4,.sl 0 0 ((64:Int).toNat) ((64:Int).toNat)),(5,.i6 z6),(24,.bool b18)]∧σ=⟨[(0,.row (List.map (cI .u64) l7).flatten 191)],1⟩) ?_ ?_
 rintro _ _ ⟨rfl,rfl⟩
 refine gF hF (fun h20 hF=>?_) (fun h20 hF=>?_)
 refine go ?_
 obtain rfl:=sI hF
 exact rT (us:=[.nils,.i6 2]) (u:=.tup [.isl false [],.i6 2]) (q2y rfl (q2y rfl (q24))) wR
 obtain ⟨x21,h22,hF⟩:=q00 hF
 obtain ⟨x24,h25,hF⟩:=q00 hF
 obtain ⟨x27,h28,hF⟩:=q00 hF
 obtain ⟨x29,h30,hF⟩:=q00 hF
 obtain ⟨h32,hF⟩:=q04 hF
 obtain ⟨x33,h34,hF⟩:=q00 hF
 refine go ?_
 refine dE [] ?_
 refine gd ?_
 refine RD.ix h22 ?_
 refine gd ?_
 refine RD.q rfl (qa4 rfl rfl (quz _ (by decide)) rfl) ?_
 refine gd ?_
 refine RD.ix h25 ?_
 refine gd ?_
 refine RD.q rfl (qa4 rfl rfl (quz _ (by decide)) rfl) ?_
 refine RD.q rfl (q25 rfl rfl (qtk un126.h (q0g if191.h) rfl h28)) (RD.q (u:=.int .u64 x27) rfl (qz1 (cI .u64) (fun x=>.int .u64 x) un191.h rfl (fun _=>rfl) rfl rfl h28) ?_)
 refine gd ?_
 refine RD.ix h30 ?_
 refine gd ?_
 refine RD.q rfl (qa4 rfl rfl (z4l _ (by decide)) rfl) ?_
 refine RD.q (u:=.int .u64 (IntKind.u64.wrap (x29.tmod 64))) rfl (qpq rfl rfl (by simp only [convX,un3.h,un193.h]<;>rfl) rfl) ?_
 refine RD.q rfl (qa4 rfl rfl (ix_shl _ h32) rfl) (RD.q rfl (qa4 rfl rfl (ix_or _ _ _) rfl) (RD.q rfl (q25 rfl rfl (qtk un126.h (q0g if191.h) rfl h34)) (z7e (u:=.junk) (σ':=⟨[(0,.row (List.map (cI .u64) (l7.set (IntKind.i64.wrap (x21.tdiv 64)).toNat (orI .u64 x27 (IntKind.u64.wrap (1*(2 ^ (min (IntKind.u64.wrap (x29.tmod 64)).toNat IntKind.u64.bits))))))).flatten 191)],1⟩) rfl (z3i (cI .u64) (q0g if191.h) (q4c .u64) rfl rfl rfl rfl rfl rfl h34 rfl) rfl ?_)))
 refine RD.done ⟨by kernel_rfl,trivial,?_⟩
 refine go ?_
 exact lC ⟨_,(l7.set (IntKind.i64.wrap (x21.tdiv 64)).toNat (orI .u64 x27 (IntKind.u64.wrap (1*(2 ^ (min (IntKind.u64.wrap (x29.tmod 64)).toNat IntKind.u64.bits)))))),hF,rfl,rfl⟩
 obtain ⟨x13,h14,h19⟩:=q00 h19
 refine go ?_
 refine RS.ix h14 ?_
 refine go ?_
 rcases gB h19 with ⟨h15,h19⟩ | ⟨h15,h19⟩
 exact gy h19
 obtain ⟨x16,h17,h19⟩:=q00 h19
 obtain rfl:=sI h19
 refine go ?_
 refine RS.ix h17 ?_
 refine go ?_
 exact xC ⟨rfl,rfl⟩
 refine go ?_
 exact xC ⟨l7,hF,rfl,rfl⟩
def q9k (z11:Int) (rc1:Int→(List Int)→Option ((List Int))) (l24:List Int):Option ((List Int)) :=
 rc1 (IntKind.i64.wrap (z11+1)) l24
def qcj (n:Nat) (l14:List Int):Option ((List Int)) :=
 bindO (qjc n l14) fun r16 =>
 some r16.1
def q4h (p2:List (List UInt8)) (n:Nat) (r4:(List (List UInt8))):Nat→Int→(List Int)→Option ((List Int))
 | 0,_,_=>none
 | m1+1,z11,l12 =>
  cond (decide (z11<(p2.length:Int)))
   (bindO (idxO p2 z11) fun x19 =>
   bindO (q49 n r4 x19) fun r21 =>
   cond r21
    (needO ((l12.length+1)*8≤140737488355328∧l12.length+1≤140737488355328) (
    q9k z11 (q4h p2 n r4 m1) (l12++[z11])))
    (q9k z11 (q4h p2 n r4 m1) l12))
   (qcj n l12)
def qee (n:Nat) (p1:List q01) (p2:List (List UInt8)) (p3:List UInt8):Option ((List Int)) :=
 bindO (qd4 n p1 p3) fun r4 =>
 q4h p2 n r4 n 0 ([]:List Int)
theorem qsc (n:Nat) (p1:List q01) (p2:List (List UInt8)) (p3:List UInt8) (r:(List Int)) (hF:qee n p1 p2 p3=some r):EvP Tryz.prog 95 [.isl false (List.map q03 p1),.isl false (List.map cS p2),.str p3] (.isl false (List.map (cI .u64) r)):=by
 unfold qee at hF
 refine bg3 37 fn95 ?_
 obtain ⟨r4,h5,hF⟩:=q00 hF
 refine go ?_
 refine RS.cl rfl (pC (qq1 n p1 p3 r4 h5) _) fn126 ?_
 refine gr ?_
 refine gr ?_
 refine gV 8 3 1 1 ?_
 refine gL (fun m tm σ=>∃ z11 l12 t13,q4h p2 n r4 m z11 l12=some r∧tm=fr 37 [(1,.iM cS p2),(7,.iM cS r4),(8,.vl 0 t13 0 l12.length),(9,.i6 z11)]∧σ=⟨q7m l12 t13,1⟩) (fun tm σ=>∃ l14 t15,qcj n l14=some r∧tm=fr 37 [(8,.vl 0 t15 0 l14.length)]∧σ=⟨q7m l14 t15,1⟩) n ⟨0,([]:List Int),0,hF,rfl,rfl⟩ ?_ ?_
 rintro _ _ ⟨l14,t15,hF,rfl,rfl⟩
 unfold qcj at hF
 refine gn ?_
 refine WPU.ghost (tm':=fr 37 [(8,.iM (cI .i64) l14)]) (σ':=⟨[],1⟩) (Gh.trans (Gh.sub (l':=[(8,.vl 0 t15 0 l14.length)]) ⟨rfl,trivial⟩) (z7g 0 1)) NZ ?_
 obtain ⟨r16,h17,hF⟩:=q00 hF
 refine go ?_
 refine RS.cl rfl (pC (qx0 n l14 r16 h17) _) fn128 ?_
 exact gx hF
 rintro (_|m1) _ _ ⟨z11,l12,t13,hF,rfl,rfl⟩
 cases hF
 unfold q4h at hF
 refine gF hF (fun h18 hF=>?_) (fun h18 hF=>?_)
 refine go ?_
 refine WPU.block ?_
 obtain ⟨x19,h20,hF⟩:=q00 hF
 obtain ⟨r21,h22,hF⟩:=q00 hF
 refine go ?_
 refine RS.ix h20 ?_
 refine go ?_
 refine RS.cl rfl (pC (q4g n r4 x19 r21 h22) _) fn127 ?_
 refine gn ?_
 refine z73 (fun tm σ=>∃ l24 t25,q9k z11 (q4h p2 n r4 m1) l24=some r∧tm=fr 37 [(1,.iM cS p2),(7,.iM cS r4),(8,.vl 0 t25 0 l24.length),(9,.i6 z11)]∧σ=⟨q7m l24 t25,1⟩) ?_ ?_
 rintro _ _ ⟨l24,t25,hF,rfl,rfl⟩
 unfold q9k at hF
 refine go ?_
 exact lC ⟨_,l24,t25,hF,rfl,rfl⟩
 refine cF hF (fun h23 hF=>?_) (fun h23 hF=>?_)
 obtain ⟨h26,hF⟩:=q04 hF
 refine go ?_
 refine RS.g ?_
 refine RS.g ?_
 refine go ?_
 exact xC ⟨(l12++[z11]),(t13+1),hF,rfl,rfl⟩
 refine go ?_
 exact xC ⟨l12,t13,hF,rfl,rfl⟩
 refine go ?_
 exact xC ⟨l12,t13,hF,rfl,rfl⟩
def qaf (n:Nat) (p1:List Int) (p2:Int):Option (Int) :=
 cond (decide (p2<(p1.length:Int)))
  (bindO (idxO p1 p2) fun x4 =>
  some x4)
  (some 0)
theorem ql6 (n:Nat) (p1:List Int) (p2:Int) (r:Int) (hF:qaf n p1 p2=some r):EvP Tryz.prog 146 [.isl false (List.map (cI .u64) p1),.int .i64 p2] (.int .u64 r):=by
 unfold qaf at hF
 refine bg2 13 fn146 ?_
 refine gF hF (fun h3 hF=>?_) (fun h3 hF=>?_)
 obtain ⟨x4,h5,hF⟩:=q00 hF
 refine go ?_
 refine RS.ix h5 ?_
 exact gx hF
 exact gx hF
def q8z (n:Nat) (l11:List Int):Option ((List Int)) :=
 bindO (q4p n l11) fun r13 =>
 some r13
def qbi (p1:List Int) (p2:List Int) (n:Nat):Nat→Int→(List Int)→Option ((List Int))
 | 0,_,_=>none
 | m1+1,z8,l9 =>
  cond (decide (z8<(p1.length:Int)))
   (bindO (idxO p1 z8) fun x16 =>
   bindO (qaf n p2 z8) fun r18 =>
   needO ((l9.length+1)*8≤140737488355328∧l9.length+1≤140737488355328) (
   (qbi p1 p2 n m1) (IntKind.i64.wrap (z8+1)) (l9++[(qxk .u64 x16 r18)])))
   (q8z n l9)
def qd1 (n:Nat) (p1:List Int) (p2:List Int):Option ((List Int)) :=
 qbi p1 p2 n n 0 ([]:List Int)
theorem qn7 (n:Nat) (p1:List Int) (p2:List Int) (r:(List Int)) (hF:qd1 n p1 p2=some r):EvP Tryz.prog 119 [.isl false (List.map (cI .u64) p1),.isl false (List.map (cI .u64) p2)] (.isl false (List.map (cI .u64) r)):=by
 unfold qd1 at hF
 refine bg2 26 fn119 ?_
 refine gr ?_
 refine gr ?_
 refine gr ?_
 refine gV 5 191 1 1 ?_
 refine gL (fun m tm σ=>∃ z8 l9 t10,qbi p1 p2 n m z8 l9=some r∧tm=fr 26 [(0,.iM (cI .u64) p1),(1,.iM (cI .u64) p2),(5,.vl 0 t10 0 l9.length),(6,.i6 z8)]∧σ=⟨[(0,.bv (cI .u64) l9 191 1 t10)],1⟩) (fun tm σ=>∃ l11 t12,q8z n l11=some r∧tm=fr 26 [(5,.vl 0 t12 0 l11.length)]∧σ=⟨[(0,.bv (cI .u64) l11 191 1 t12)],1⟩) n ⟨0,([]:List Int),0,hF,rfl,rfl⟩ ?_ ?_
 rintro _ _ ⟨l11,t12,hF,rfl,rfl⟩
 unfold q8z at hF
 refine gn ?_
 refine WPU.ghost (tm':=fr 26 [(5,.iM (cI .u64) l11)]) (σ':=⟨[],1⟩) (Gh.trans (Gh.sub (l':=[(5,.vl 0 t12 0 l11.length)]) ⟨rfl,trivial⟩) (z7g 0 1)) NZ ?_
 obtain ⟨r13,h14,hF⟩:=q00 hF
 refine go ?_
 refine RS.cl rfl (pC (qao n l11 r13 h14) _) fn120 ?_
 exact gx hF
 rintro (_|m1) _ _ ⟨z8,l9,t10,hF,rfl,rfl⟩
 cases hF
 unfold qbi at hF
 refine gF hF (fun h15 hF=>?_) (fun h15 hF=>?_)
 refine go ?_
 refine WPU.block ?_
 obtain ⟨x16,h17,hF⟩:=q00 hF
 obtain ⟨r18,h19,hF⟩:=q00 hF
 obtain ⟨h20,hF⟩:=q04 hF
 refine go ?_
 refine dE [(0,9)] ?_
 refine gd ?_
 refine RD.ix h17 ?_
 refine gd ?_
 refine RD.fl rfl (pC (ql6 n p2 z8 r18 h19)) fn146 (RD.q rfl (qa4 rfl rfl (qyy _ _ _) rfl) ?_)
 refine RD.g ?_
 refine RD.g ?_
 refine gd ?_
 refine RD.done ⟨by kernel_rfl,⟨q0w rfl,trivial⟩,?_⟩
 refine go ?_
 exact lC ⟨_,(l9++[(qxk .u64 x16 r18)]),(t10+1),hF,rfl,rfl⟩
 refine go ?_
 exact xC ⟨l9,t10,hF,rfl,rfl⟩
def qf6   : Option (Bool) :=
 some true
def qcf (p1:List Int) (p2:List Int):Nat→Int→Option (Bool)
 | 0,_=>none
 | m1+1,z7 =>
  cond (decide (z7<(p1.length:Int)))
   (bindO (idxO p1 z7) fun x9 =>
   bindO (idxO p2 z7) fun x11 =>
   cond (x9 != x11)
    (some false)
    ((qcf p1 p2 m1) (IntKind.i64.wrap (z7+1))))
   (qf6)
def q90 (n:Nat) (p1:List Int) (p2:List Int):Option (Bool) :=
 cond ((p1.length:Int) != (p2.length:Int))
  (some false)
  (qcf p1 p2 n 0)
theorem ql5 (n:Nat) (p1:List Int) (p2:List Int) (r:Bool) (hF:q90 n p1 p2=some r):EvP Tryz.prog 121 [.isl false (List.map (cI .u64) p1),.isl false (List.map (cI .u64) p2)] (.bool r):=by
 unfold q90 at hF
 refine bg2 26 fn121 ?_
 refine gF hF (fun h3 hF=>?_) (fun h3 hF=>?_)
 exact gx hF
 refine go ?_
 refine gL (fun m tm σ=>∃ z7,qcf p1 p2 m z7=some r∧tm=fr 26 [(0,.iM (cI .u64) p1),(1,.iM (cI .u64) p2),(5,.i6 z7)]∧σ=⟨[],0⟩) (fun tm σ=>qf6=some r∧tm=fr 26 []∧σ=⟨[],0⟩) n ⟨0,hF,rfl,rfl⟩ ?_ ?_
 rintro _ _ ⟨hF,rfl,rfl⟩
 unfold qf6 at hF
 exact gx hF
 rintro (_|m1) _ _ ⟨z7,hF,rfl,rfl⟩
 cases hF
 unfold qcf at hF
 refine gF hF (fun h8 hF=>?_) (fun h8 hF=>?_)
 refine go ?_
 refine WPU.block ?_
 obtain ⟨x9,h10,hF⟩:=q00 hF
 obtain ⟨x11,h12,hF⟩:=q00 hF
 refine go ?_
 refine dE [] ?_
 refine gd ?_
 refine RD.ix h10 ?_
 refine gd ?_
 refine RD.ix h12 ?_
 refine gd ?_
 refine RD.done ⟨by kernel_rfl,trivial,?_⟩
 refine gF hF (fun h13 hF=>?_) (fun h13 hF=>?_)
 exact gx hF
 refine go ?_
 exact lC ⟨_,hF,rfl,rfl⟩
 refine go ?_
 exact xC ⟨hF,rfl,rfl⟩
def qf9   : Option (Bool) :=
 some false
def q8v (p1:List (List Int)) (p2:List Int) (n:Nat):Nat→Int→Option (Bool)
 | 0,_=>none
 | m1+1,z6 =>
  cond (decide (z6<(p1.length:Int)))
   (bindO (idxO p1 z6) fun x8 =>
   bindO (q90 n x8 p2) fun r10 =>
   cond r10
    (some true)
    ((q8v p1 p2 n m1) (IntKind.i64.wrap (z6+1))))
   (qf9)
def qlw (n:Nat) (p1:List (List Int)) (p2:List Int):Option (Bool) :=
 q8v p1 p2 n n 0
theorem qx1 (n:Nat) (p1:List (List Int)) (p2:List Int) (r:Bool) (hF:qlw n p1 p2=some r):EvP Tryz.prog 129 [.isl false (List.map (cL (cI .u64)) p1),.isl false (List.map (cI .u64) p2)] (.bool r):=by
 unfold qlw at hF
 refine bg2 18 fn129 ?_
 refine go ?_
 refine gL (fun m tm σ=>∃ z6,q8v p1 p2 n m z6=some r∧tm=fr 18 [(0,.iM (cL (cI .u64)) p1),(1,.iM (cI .u64) p2),(5,.i6 z6)]∧σ=⟨[],0⟩) (fun tm σ=>qf9=some r∧tm=fr 18 []∧σ=⟨[],0⟩) n ⟨0,hF,rfl,rfl⟩ ?_ ?_
 rintro _ _ ⟨hF,rfl,rfl⟩
 unfold qf9 at hF
 exact gx hF
 rintro (_|m1) _ _ ⟨z6,hF,rfl,rfl⟩
 cases hF
 unfold q8v at hF
 refine gF hF (fun h7 hF=>?_) (fun h7 hF=>?_)
 refine go ?_
 refine WPU.block ?_
 obtain ⟨x8,h9,hF⟩:=q00 hF
 obtain ⟨r10,h11,hF⟩:=q00 hF
 refine go ?_
 refine RS.ix h9 ?_
 refine go ?_
 refine RS.cl rfl (pC (ql5 n x8 p2 r10 h11) _) fn121 ?_
 refine gF hF (fun h12 hF=>?_) (fun h12 hF=>?_)
 exact gx hF
 refine go ?_
 exact lC ⟨_,hF,rfl,rfl⟩
 refine go ?_
 exact xC ⟨hF,rfl,rfl⟩
def q7g (z19:Int) (rc2:Int→(List (List Int))→Option ((List (List Int)))) (l40:List (List Int)):Option ((List (List Int))) :=
 rc2 (IntKind.i64.wrap (z19+1)) l40
def q7i (z6:Int) (rc1:Int→(List (List Int))→Option ((List (List Int)))) (l22:List (List Int)):Option ((List (List Int))) :=
 rc1 (IntKind.i64.wrap (z6+1)) l22
def q3w (n:Nat) (z6:Int) (rc1:Int→(List (List Int))→Option ((List (List Int)))):Nat→Int→(List (List Int))→Option ((List (List Int)))
 | 0,_,_=>none
 | m2+1,z19,l20 =>
  bindO (cond (decide (z19<z6))
   (some (decide ((l20.length:Int)≤256)))
   (some false)) fun b25 =>
  cond b25
   (bindO (idxO l20 z6) fun x28 =>
   bindO (idxO l20 z19) fun x30 =>
   bindO (qd1 n x28 x30) fun r32 =>
   bindO (cond (decide ((r32.length:Int) > 0))
    (bindO (qlw n l20 r32) fun r35 =>
    some (!r35))
    (some false)) fun b37 =>
   cond b37
    (needO ((l20.length+1)*24≤140737488355328∧l20.length+1≤140737488355328) (
    q7g z19 (q3w n z6 rc1 m2) (l20++[r32])))
    (q7g z19 (q3w n z6 rc1 m2) l20))
   (q7i z6 rc1 l20)
def q7h  (l9:List (List Int)):Option ((List (List Int))) :=
 some l9
def q2r (n:Nat):Nat→Int→(List (List Int))→Option ((List (List Int)))
 | 0,_,_=>none
 | m1+1,z6,l7 =>
  bindO (cond (decide (z6<(l7.length:Int)))
   (some (decide ((l7.length:Int)≤256)))
   (some false)) fun b12 =>
  cond b12
   (q3w n z6 (q2r n m1) n 0 l7)
   (q7h l7)
def qbl (n:Nat) (p1:List (List Int)):Option ((List (List Int))) :=
 needO (p1.length*24≤140737488355328∧p1.length≤140737488355328) (
 q2r n n 0 p1)
theorem qo8 (n:Nat) (p1:List (List Int)) (r:(List (List Int))) (hF:qbl n p1=some r):EvP Tryz.prog 96 [.isl false (List.map (cL (cI .u64)) p1)] (.isl false (List.map (cL (cI .u64)) r)):=by
 unfold qbl at hF
 refine bg1 54 fn96 ?_
 obtain ⟨h2,hF⟩:=q04 hF
 refine go ?_
 refine RS.q (u:=.sl 0 0 0 0) (σ':=⟨[(0,.row [] 126)],1⟩) rfl (qc4 un177.h if126.h rfl rfl rfl rfl rfl rfl rfl) ?_
 refine go ?_
 refine RS.q (u:=.vl 1 0 0 p1.length) (σ':=⟨[(1,.bv (cL (cI .u64)) p1 126 1 0),(0,.row [] 126)],2⟩) rfl (qdn rfl rfl rfl rfl (qt5 (cL (cI .u64)) p1 un177.h un177.h if126.h rfl rfl rfl (qnh (cL (cI .u64)) (qg5 (cI .u64))) h2)) ?_
 refine go ?_
 refine gL (fun m tm σ=>∃ z6 l7 t8,q2r n m z6 l7=some r∧tm=fr 54 [(3,.vl 1 t8 0 l7.length),(4,.i6 z6)]∧σ=⟨qdl l7 t8,2⟩) (fun tm σ=>∃ l9 t10,q7h l9=some r∧tm=fr 54 [(3,.vl 1 t10 0 l9.length)]∧σ=⟨qdl l9 t10,2⟩) n ⟨0,p1,0,hF,rfl,rfl⟩ ?_ ?_
 rintro _ _ ⟨l9,t10,hF,rfl,rfl⟩
 unfold q7h at hF
 refine go ?_
 obtain rfl:=sI hF
 exact rT (us:=[.vl 1 t10 0 l9.length]) (u:=.iM (cL (cI .u64)) l9) (q2y rfl (q24)) (fR 1 1)
 rintro (_|m1) _ _ ⟨z6,l7,t8,hF,rfl,rfl⟩
 cases hF
 unfold q2r at hF
 obtain ⟨b12,h13,hF⟩:=q00 hF
 refine gn ?_
 refine z73 (fun tm σ=>tm=fr 54 [(3,.vl 1 t8 0 l7.length),(4,.i6 z6),(18,.bool b12)]∧σ=⟨qdl l7 t8,2⟩) ?_ ?_
 rintro _ _ ⟨rfl,rfl⟩
 refine gF hF (fun h14 hF=>?_) (fun h14 hF=>?_)
 refine go ?_
 refine WPU.block ?_
 refine go ?_
 refine gL (fun m tm σ=>∃ z19 l20 t21,q3w n z6 (q2r n m1) m z19 l20=some r∧tm=fr 54 [(3,.vl 1 t21 0 l20.length),(4,.i6 z6),(5,.i6 z19)]∧σ=⟨qdl l20 t21,2⟩) (fun tm σ=>∃ l22 t23,q7i z6 (q2r n m1) l22=some r∧tm=fr 54 [(3,.vl 1 t23 0 l22.length),(4,.i6 z6)]∧σ=⟨qdl l22 t23,2⟩) n ⟨0,l7,t8,hF,rfl,rfl⟩ ?_ ?_
 rintro _ _ ⟨l22,t23,hF,rfl,rfl⟩
 unfold q7i at hF
 refine go ?_
 exact lC ⟨_,l22,t23,hF,rfl,rfl⟩
 rintro (_|m2) _ _ ⟨z19,l20,t21,hF,rfl,rfl⟩
 cases hF
 unfold q3w at hF
 obtain ⟨b25,h26,hF⟩:=q00 hF
 refine gn ?_
 refine z73 (fun tm σ=>tm=fr 54 [(3,.vl 1 t21 0 l20.length),(4,.i6 z6),(5,.i6 z19),(28,.bool b25)]∧σ=⟨qdl l20 t21,2⟩) ?_ ?_
 rintro _ _ ⟨rfl,rfl⟩
 refine gF hF (fun h27 hF=>?_) (fun h27 hF=>?_)
 refine go ?_
 refine WPU.block ?_
 obtain ⟨x28,h29,hF⟩:=q00 hF
 obtain ⟨x30,h31,hF⟩:=q00 hF
 obtain ⟨r32,h33,hF⟩:=q00 hF
 refine go ?_
 refine dE [] ?_
 refine gd ?_
 refine RD.q rfl (q25 rfl rfl (q40 (cL (cI .u64)) un177.h (q0g if126.h) (by decide) (qg5 (cI .u64)) (vo rfl) h29)) ?_
 refine RD.q rfl (q65 (cL (cI .u64)) (fun x=>.iM (cI .u64) x) un126.h rfl (fun _=>rfl) rfl rfl h29) ?_
 refine gd ?_
 refine RD.q rfl (q25 rfl rfl (q40 (cL (cI .u64)) un177.h (q0g if126.h) (by decide) (qg5 (cI .u64)) (vo rfl) h31)) ?_
 refine RD.q rfl (q65 (cL (cI .u64)) (fun x=>.iM (cI .u64) x) un126.h rfl (fun _=>rfl) rfl rfl h31) (RD.fl rfl (pC (qn7 n x28 x30 r32 h33)) fn119 ?_)
 refine gd ?_
 refine RD.done ⟨by kernel_rfl,trivial,?_⟩
 obtain ⟨b37,h38,hF⟩:=q00 hF
 refine gn ?_
 refine z73 (fun tm σ=>tm=fr 54 [(3,.vl 1 t21 0 l20.length),(4,.i6 z6),(5,.i6 z19),(6,.iM (cI .u64) r32),(48,.bool b37)]∧σ=⟨qdl l20 t21,2⟩) ?_ ?_
 rintro _ _ ⟨rfl,rfl⟩
 refine gn ?_
 refine z73 (fun tm σ=>∃ l40 t41,q7g z19 (q3w n z6 (q2r n m1) m2) l40=some r∧tm=fr 54 [(3,.vl 1 t41 0 l40.length),(4,.i6 z6),(5,.i6 z19)]∧σ=⟨qdl l40 t41,2⟩) ?_ ?_
 rintro _ _ ⟨l40,t41,hF,rfl,rfl⟩
 unfold q7g at hF
 refine go ?_
 exact lC ⟨_,l40,t41,hF,rfl,rfl⟩
 refine cF hF (fun h39 hF=>?_) (fun h39 hF=>?_)
 obtain ⟨h42,hF⟩:=q04 hF
 refine go ?_
 refine RS.g ?_
 refine RS.g ?_
 refine go ?_
 exact xC ⟨(l20++[r32]),(t21+1),hF,rfl,rfl⟩
 refine go ?_
 exact xC ⟨l20,t21,hF,rfl,rfl⟩
 refine go ?_
 rcases gB h38 with ⟨h34,h38⟩ | ⟨h34,h38⟩
 obtain ⟨r35,h36,h38⟩:=q00 h38
 obtain rfl:=sI h38
 refine go ?_
 refine RS.cl rfl (vw (qx1 n l20 r32 r35 h36) (z77 1 1)) fn129 ?_
 refine go ?_
 exact xC ⟨rfl,rfl⟩
 exact gy h38
 refine go ?_
 exact xC ⟨l20,t21,hF,rfl,rfl⟩
 refine go ?_
 rcases gB h26 with ⟨h24,h26⟩ | ⟨h24,h26⟩
 exact gy h26
 exact gy h26
 refine go ?_
 exact xC ⟨l7,t8,hF,rfl,rfl⟩
 refine go ?_
 rcases gB h13 with ⟨h11,h13⟩ | ⟨h11,h13⟩
 exact gy h13
 exact gy h13
def q6t (n:Nat) (l11:List Int):Option ((List Int)) :=
 bindO (q4p n l11) fun r13 =>
 some r13
def q87 (p1:List Int) (p2:List Int) (n:Nat):Nat→Int→(List Int)→Option ((List Int))
 | 0,_,_=>none
 | m1+1,z8,l9 =>
  cond (decide (z8<(p1.length:Int)))
   (bindO (idxO p1 z8) fun x16 =>
   bindO (qaf n p2 z8) fun r18 =>
   needO ((l9.length+1)*8≤140737488355328∧l9.length+1≤140737488355328) (
   (q87 p1 p2 n m1) (IntKind.i64.wrap (z8+1)) (l9++[(qfr .u64 x16 r18)])))
   (q6t n l9)
def qae (n:Nat) (p1:List Int) (p2:List Int):Option ((List Int)) :=
 q87 p1 p2 n n 0 ([]:List Int)
theorem qpz (n:Nat) (p1:List Int) (p2:List Int) (r:(List Int)) (hF:qae n p1 p2=some r):EvP Tryz.prog 153 [.isl false (List.map (cI .u64) p1),.isl false (List.map (cI .u64) p2)] (.isl false (List.map (cI .u64) r)):=by
 unfold qae at hF
 refine bg2 26 fn153 ?_
 refine gr ?_
 refine gr ?_
 refine gr ?_
 refine gV 5 191 1 1 ?_
 refine gL (fun m tm σ=>∃ z8 l9 t10,q87 p1 p2 n m z8 l9=some r∧tm=fr 26 [(0,.iM (cI .u64) p1),(1,.iM (cI .u64) p2),(5,.vl 0 t10 0 l9.length),(6,.i6 z8)]∧σ=⟨[(0,.bv (cI .u64) l9 191 1 t10)],1⟩) (fun tm σ=>∃ l11 t12,q6t n l11=some r∧tm=fr 26 [(5,.vl 0 t12 0 l11.length)]∧σ=⟨[(0,.bv (cI .u64) l11 191 1 t12)],1⟩) n ⟨0,([]:List Int),0,hF,rfl,rfl⟩ ?_ ?_
 rintro _ _ ⟨l11,t12,hF,rfl,rfl⟩
 unfold q6t at hF
 refine gn ?_
 refine WPU.ghost (tm':=fr 26 [(5,.iM (cI .u64) l11)]) (σ':=⟨[],1⟩) (Gh.trans (Gh.sub (l':=[(5,.vl 0 t12 0 l11.length)]) ⟨rfl,trivial⟩) (z7g 0 1)) NZ ?_
 obtain ⟨r13,h14,hF⟩:=q00 hF
 refine go ?_
 refine RS.cl rfl (pC (qao n l11 r13 h14) _) fn120 ?_
 exact gx hF
 rintro (_|m1) _ _ ⟨z8,l9,t10,hF,rfl,rfl⟩
 cases hF
 unfold q87 at hF
 refine gF hF (fun h15 hF=>?_) (fun h15 hF=>?_)
 refine go ?_
 refine WPU.block ?_
 obtain ⟨x16,h17,hF⟩:=q00 hF
 obtain ⟨r18,h19,hF⟩:=q00 hF
 obtain ⟨h20,hF⟩:=q04 hF
 refine go ?_
 refine dE [(0,9)] ?_
 refine gd ?_
 refine RD.ix h17 ?_
 refine gd ?_
 refine RD.fl rfl (pC (ql6 n p2 z8 r18 h19)) fn146 (RD.q rfl (qa4 rfl rfl (qro _ _ _) rfl) ?_)
 refine RD.g ?_
 refine RD.g ?_
 refine gd ?_
 refine RD.done ⟨by kernel_rfl,⟨q0w rfl,trivial⟩,?_⟩
 refine go ?_
 exact lC ⟨_,(l9++[(qfr .u64 x16 r18)]),(t10+1),hF,rfl,rfl⟩
 refine go ?_
 exact xC ⟨l9,t10,hF,rfl,rfl⟩
def q7c (n:Nat) (p1:List Int) (p2:List Int):Option (Bool) :=
 bindO (qae n p1 p2) fun r3 =>
 some ((r3.length:Int) == 0)
theorem qdy (n:Nat) (p1:List Int) (p2:List Int) (r:Bool) (hF:q7c n p1 p2=some r):EvP Tryz.prog 134 [.isl false (List.map (cI .u64) p1),.isl false (List.map (cI .u64) p2)] (.bool r):=by
 unfold q7c at hF
 refine bg2 10 fn134 ?_
 obtain ⟨r3,h4,hF⟩:=q00 hF
 refine go ?_
 refine RS.cl rfl (pC (qpz n p1 p2 r3 h4) _) fn153 ?_
 exact gx hF
def qd2 (n:Nat) (p1:List Int) (p2:List Int):Option (Bool) :=
 bindO (bindO (q7c n p1 p2) fun r3 =>
 cond r3
  (bindO (q7c n p2 p1) fun r6 =>
  some r6)
  (some false)) fun b8 =>
 some b8
theorem qpy (n:Nat) (p1:List Int) (p2:List Int) (r:Bool) (hF:qd2 n p1 p2=some r):EvP Tryz.prog 130 [.isl false (List.map (cI .u64) p1),.isl false (List.map (cI .u64) p2)] (.bool r):=by
 unfold qd2 at hF
 refine bg2 13 fn130 ?_
 obtain ⟨b8,h9,hF⟩:=q00 hF
 refine gr ?_
 refine z73 (fun tm σ=>tm=fr 13 [(4,.bool b8)]∧σ=⟨[],0⟩) ?_ ?_
 rintro _ _ ⟨rfl,rfl⟩
 exact gx hF
 obtain ⟨r3,h4,h9⟩:=q00 h9
 refine go ?_
 refine RS.cl rfl (pC (qdy n p1 p2 r3 h4) _) fn134 ?_
 refine go ?_
 rcases gB h9 with ⟨h5,h9⟩ | ⟨h5,h9⟩
 obtain ⟨r6,h7,h9⟩:=q00 h9
 obtain rfl:=sI h9
 refine go ?_
 refine RS.cl rfl (pC (qdy n p2 p1 r6 h7) _) fn134 ?_
 refine go ?_
 exact xC ⟨rfl,rfl⟩
 exact gy h9
def qec (n:Nat) (p1:List Int) (p2:Int):Option (Bool) :=
 bindO (cond (decide (p2<0))
  (some true)
  (some (decide ((IntKind.i64.wrap (p2.tdiv 64)) ≥ (p1.length:Int))))) fun b5 =>
 cond b5
  (some false)
  (bindO (idxO p1 (IntKind.i64.wrap (p2.tdiv 64))) fun x9 =>
  needO (¬ (IntKind.u64.wrap (p2.tmod 64))<0) (
  some ((qxk .u64 (x9.fdiv (2 ^ (min (IntKind.u64.wrap (p2.tmod 64)).toNat IntKind.u64.bits))) 1) == 1)))
theorem qn8 (n:Nat) (p1:List Int) (p2:Int) (r:Bool) (hF:qec n p1 p2=some r):EvP Tryz.prog 131 [.isl false (List.map (cI .u64) p1),.int .i64 p2] (.bool r):=by
 unfold qec at hF
 refine bg2 25 fn131 ?_
 obtain ⟨b5,h6,hF⟩:=q00 hF
 refine gr ?_
 refine z73 (fun tm σ=>tm=fr 25 [(0,.iM (cI .u64) p1),(1,.i6 p2),(13,.bool b5)]∧σ=⟨[],0⟩) ?_ ?_
 rintro _ _ ⟨rfl,rfl⟩
 refine gF hF (fun h7 hF=>?_) (fun h7 hF=>?_)
 exact gx hF
 obtain ⟨x9,h10,hF⟩:=q00 hF
 obtain ⟨h12,hF⟩:=q04 hF
 refine go ?_
 refine RS.q rfl (qa4 rfl rfl (quz _ (by decide)) rfl) ?_
 refine RS.ix h10 ?_
 refine go ?_
 refine RS.q rfl (qa4 rfl rfl (z4l _ (by decide)) rfl) ?_
 refine RS.q (u:=.int .u64 (IntKind.u64.wrap (p2.tmod 64))) rfl (qpq rfl rfl (by simp only [convX,un3.h,un193.h]<;>rfl) rfl) ?_
 refine RS.q rfl (qa4 rfl rfl (z4m _ h12) rfl) (RS.q rfl (qa4 rfl rfl (qyy _ _ _) rfl) ?_)
 exact gx hF
 refine go ?_
 rcases gB h6 with ⟨h3,h6⟩ | ⟨h3,h6⟩
 exact gy h6
 obtain rfl:=sI h6
 refine go ?_
 refine RS.w rfl (qa4 rfl rfl (quz _ (by decide)) rfl) ?_
 refine go ?_
 exact xC ⟨rfl,rfl⟩
def q67 (z8:Int) (rc1:(List (List UInt8))→Int→Option ((List (List UInt8)))) (l16:List (List UInt8)):Option ((List (List UInt8))) :=
 rc1 l16 (IntKind.i64.wrap (z8+1))
def q7q  (l9:List (List UInt8)):Option ((List (List UInt8))) :=
 some l9
def q2d (p1:List q01) (p2:List (List UInt8)) (n:Nat):Nat→(List (List UInt8))→Int→Option ((List (List UInt8)))
 | 0,_,_=>none
 | m1+1,l7,z8 =>
  cond (decide (z8<(p2.length:Int)))
   (bindO (idxO p2 z8) fun x11 =>
   bindO (q68 n p1 x11) fun r13 =>
   cond (decide (r13 ≥ 0))
    (bindO (idxO p2 z8) fun x17 =>
    bindO (q9d n l7 x17) fun r19 =>
    q67 z8 (q2d p1 p2 n m1) r19)
    (q67 z8 (q2d p1 p2 n m1) l7))
   (q7q l7)
def qay (n:Nat) (p1:List q01) (p2:List (List UInt8)):Option ((List (List UInt8))) :=
 q2d p1 p2 n n [] 0
theorem qlj (n:Nat) (p1:List q01) (p2:List (List UInt8)) (r:(List (List UInt8))) (hF:qay n p1 p2=some r):EvP Tryz.prog 150 [.isl false (List.map q03 p1),.isl false (List.map cS p2)] (.isl false (List.map cS r)):=by
 unfold qay at hF
 refine bg2 27 fn150 ?_
 refine gr ?_
 refine gr ?_
 refine gr ?_
 refine WPU.ghost (tm':=fr 27 [(0,.iM q03 p1),(1,.iM cS p2),(5,.iM cS []),(6,.i6 0)]) (Gh.trans (Gh.sub (l':=[(0,.iM q03 p1),(1,.iM cS p2),(5,.nils),(6,.i6 0)]) ⟨rfl,rfl,rfl,rfl,trivial⟩) (Gh.wkS (l':=[(0,.iM q03 p1),(1,.iM cS p2),(5,.iM cS []),(6,.i6 0)]) (.cons (.refl _) (.cons (.refl _) (.cons (.nil false) (.cons (.refl _) .nil)))))) NZ ?_
 refine gL (fun m tm σ=>∃ l7 z8,q2d p1 p2 n m l7 z8=some r∧tm=fr 27 [(0,.iM q03 p1),(1,.iM cS p2),(5,.iM cS l7),(6,.i6 z8)]∧σ=⟨[],0⟩) (fun tm σ=>∃ l9,q7q l9=some r∧tm=fr 27 [(5,.iM cS l9)]∧σ=⟨[],0⟩) n ⟨[],0,hF,rfl,rfl⟩ ?_ ?_
 rintro _ _ ⟨l9,hF,rfl,rfl⟩
 unfold q7q at hF
 exact gx hF
 rintro (_|m1) _ _ ⟨l7,z8,hF,rfl,rfl⟩
 cases hF
 unfold q2d at hF
 refine gF hF (fun h10 hF=>?_) (fun h10 hF=>?_)
 refine go ?_
 refine WPU.block ?_
 obtain ⟨x11,h12,hF⟩:=q00 hF
 obtain ⟨r13,h14,hF⟩:=q00 hF
 refine go ?_
 refine RS.ix h12 ?_
 refine go ?_
 refine RS.cl rfl (pC (q92 n p1 x11 r13 h14) _) fn148 ?_
 refine gn ?_
 refine z73 (fun tm σ=>∃ l16,q67 z8 (q2d p1 p2 n m1) l16=some r∧tm=fr 27 [(0,.iM q03 p1),(1,.iM cS p2),(5,.iM cS l16),(6,.i6 z8)]∧σ=⟨[],0⟩) ?_ ?_
 rintro _ _ ⟨l16,hF,rfl,rfl⟩
 unfold q67 at hF
 refine go ?_
 exact lC ⟨l16,(IntKind.i64.wrap (z8+1)),hF,rfl,rfl⟩
 refine cF hF (fun h15 hF=>?_) (fun h15 hF=>?_)
 obtain ⟨x17,h18,hF⟩:=q00 hF
 obtain ⟨r19,h20,hF⟩:=q00 hF
 refine go ?_
 refine RS.ix h18 ?_
 refine go ?_
 refine RS.cl rfl (pC (qag n l7 x17 r19 h20) _) fn117 ?_
 refine go ?_
 exact xC ⟨r19,hF,rfl,rfl⟩
 refine go ?_
 exact xC ⟨l7,hF,rfl,rfl⟩
 refine go ?_
 exact xC ⟨l7,hF,rfl,rfl⟩
def qaq  (l21:List (List UInt8)):Option ((List (List UInt8))) :=
 some l21
def q4q (n:Nat) (l13:List (List UInt8)):Nat→(List (List UInt8))→Int→Option ((List (List UInt8)))
 | 0,_,_=>none
 | m2+1,l19,z20 =>
  cond (decide (z20<(l13.length:Int)))
   (bindO (idxO l13 z20) fun x23 =>
   bindO (q9d n l19 x23) fun r25 =>
   (q4q n l13 m2) r25 (IntKind.i64.wrap (z20+1)))
   (qaq l19)
def q88 (z40:Int) (rc3:Int→(List (List UInt8))→Option ((List (List UInt8)))) (l51:List (List UInt8)):Option ((List (List UInt8))) :=
 rc3 (IntKind.i64.wrap (z40+1)) l51
def qar (z10:Int) (rc1:Int→(List (List UInt8))→Option ((List (List UInt8)))) (l43:List (List UInt8)):Option ((List (List UInt8))) :=
 rc1 (IntKind.i64.wrap (z10+1)) l43
def q3o (n:Nat) (z10:Int) (rc1:Int→(List (List UInt8))→Option ((List (List UInt8)))) (x32:q01):Nat→Int→(List (List UInt8))→Option ((List (List UInt8)))
 | 0,_,_=>none
 | m3+1,z40,l41 =>
  cond (decide (z40<(x32.Supers.length:Int)))
   (bindO (idxO x32.Supers z40) fun x46 =>
   bindO (q49 n l41 x46) fun r48 =>
   cond (!r48)
    (bindO (idxO x32.Supers z40) fun x53 =>
    needO ((l41.length+1)*16≤140737488355328∧l41.length+1≤140737488355328) (
    q88 z40 (q3o n z10 rc1 x32 m3) (l41++[x53])))
    (q88 z40 (q3o n z10 rc1 x32 m3) l41))
   (qar z10 rc1 l41)
def qap (n:Nat) (l13:List (List UInt8)):Option ((List (List UInt8))) :=
 q4q n l13 n [] 0
def q34 (p1:List q01) (n:Nat):Nat→Int→(List (List UInt8))→Option ((List (List UInt8)))
 | 0,_,_=>none
 | m1+1,z10,l11 =>
  cond (decide (z10<(l11.length:Int)))
   (bindO (idxO l11 z10) fun x28 =>
   bindO (q68 n p1 x28) fun r30 =>
   bindO (idxO p1 r30) fun x32 =>
   q3o n z10 (q34 p1 n m1) x32 n 0 l11)
   (qap n l11)
def qd3 (n:Nat) (p1:List q01) (p2:List UInt8):Option ((List (List UInt8))) :=
 bindO (q68 n p1 p2) fun r3 =>
 cond (decide (r3<0))
  (some [])
  (q34 p1 n n 0 ([p2]))
theorem qq0 (n:Nat) (p1:List q01) (p2:List UInt8) (r:(List (List UInt8))) (hF:qd3 n p1 p2=some r):EvP Tryz.prog 151 [.isl false (List.map q03 p1),.str p2] (.isl false (List.map cS r)):=by
 unfold qd3 at hF
 refine bg2 66 fn151 ?_
 obtain ⟨r3,h4,hF⟩:=q00 hF
 refine go ?_
 refine RS.cl rfl (pC (q92 n p1 p2 r3 h4) _) fn148 ?_
 refine gF hF (fun h5 hF=>?_) (fun h5 hF=>?_)
 refine go ?_
 obtain rfl:=sI hF
 exact rT (us:=[.nils]) (u:=.isl false []) (q2y rfl (q24)) wR
 refine go ?_
 refine RS.step (u:=.vl 0 0 0 ([p2].length)) (σ':=⟨[(0,.bv cS ([p2]) 9 1 0)],1⟩) rfl (qle.bslv (cs:=(List.map cS [p2]).flatten) Tryz.tb_ok rfl un135.h if9.h rfl rfl rfl rfl rfl rfl rfl rfl) rfl rfl ?_
 refine go ?_
 refine gL (fun m tm σ=>∃ z10 l11 t12,q34 p1 n m z10 l11=some r∧tm=fr 66 [(0,.iM q03 p1),(5,.vl 0 t12 0 l11.length),(6,.i6 z10)]∧σ=⟨q1q l11 t12,1⟩) (fun tm σ=>∃ l13 t14,qap n l13=some r∧tm=fr 66 [(5,.vl 0 t14 0 l13.length)]∧σ=⟨q1q l13 t14,1⟩) n ⟨0,[p2],0,hF,rfl,rfl⟩ ?_ ?_
 rintro _ _ ⟨l13,t14,hF,rfl,rfl⟩
 unfold qap at hF
 refine gr ?_
 refine gr ?_
 refine WPU.ghost (tm':=fr 66 [(5,.vl 0 t14 0 l13.length),(9,.iM cS []),(10,.i6 0)]) (Gh.trans (Gh.sub (l':=[(5,.vl 0 t14 0 l13.length),(9,.nils),(10,.i6 0)]) ⟨rfl,rfl,rfl,trivial⟩) (Gh.wkS (l':=[(5,.vl 0 t14 0 l13.length),(9,.iM cS []),(10,.i6 0)]) (.cons (.refl _) (.cons (.nil false) (.cons (.refl _) .nil))))) NZ ?_
 refine gL (fun m tm σ=>∃ l19 z20,q4q n l13 m l19 z20=some r∧tm=fr 66 [(5,.vl 0 t14 0 l13.length),(9,.iM cS l19),(10,.i6 z20)]∧σ=⟨q1q l13 t14,1⟩) (fun tm σ=>∃ l21,qaq l21=some r∧tm=fr 66 [(9,.iM cS l21)]∧σ=⟨q1q l13 t14,1⟩) n ⟨[],0,hF,rfl,rfl⟩ ?_ ?_
 rintro _ _ ⟨l21,hF,rfl,rfl⟩
 unfold qaq at hF
 exact gx hF
 rintro (_|m2) _ _ ⟨l19,z20,hF,rfl,rfl⟩
 cases hF
 unfold q4q at hF
 refine gF hF (fun h22 hF=>?_) (fun h22 hF=>?_)
 refine go ?_
 refine WPU.block ?_
 obtain ⟨x23,h24,hF⟩:=q00 hF
 obtain ⟨r25,h26,hF⟩:=q00 hF
 refine go ?_
 refine RS.q rfl (q25 rfl rfl (q40 cS un135.h (q0g if9.h) (by decide) qix (vo rfl) h24)) ?_
 refine RS.q rfl (q65 cS (fun x=>.str x) un9.h rfl (fun _=>rfl) rfl rfl h24) (RS.cl rfl (pC (qag n l19 x23 r25 h26) _) fn117 ?_)
 refine go ?_
 exact lC ⟨r25,(IntKind.i64.wrap (z20+1)),hF,rfl,rfl⟩
 refine go ?_
 exact xC ⟨l19,hF,rfl,rfl⟩
 rintro (_|m1) _ _ ⟨z10,l11,t12,hF,rfl,rfl⟩
 cases hF
 unfold q34 at hF
 refine gF hF (fun h27 hF=>?_) (fun h27 hF=>?_)
 refine go ?_
 refine WPU.block ?_
 obtain ⟨x28,h29,hF⟩:=q00 hF
 obtain ⟨r30,h31,hF⟩:=q00 hF
 obtain ⟨x32,h33,hF⟩:=q00 hF
 refine go ?_
 refine RS.q rfl (q25 rfl rfl (q40 cS un135.h (q0g if9.h) (by decide) qix (vo rfl) h29)) ?_
 refine RS.q rfl (q65 cS (fun x=>.str x) un9.h rfl (fun _=>rfl) rfl rfl h29) (RS.cl rfl (pC (q92 n p1 x28 r30 h31) _) fn148 ?_)
 refine RS.ix h33 ?_
 refine go ?_
 refine gL (fun m tm σ=>∃ z40 l41 t42,q3o n z10 (q34 p1 n m1) x32 m z40 l41=some r∧tm=fr 66 [(0,.iM q03 p1),(5,.vl 0 t42 0 l41.length),(6,.i6 z10),(7,.iM cS x32.Supers),(8,.i6 z40)]∧σ=⟨q1q l41 t42,1⟩) (fun tm σ=>∃ l43 t44,qar z10 (q34 p1 n m1) l43=some r∧tm=fr 66 [(0,.iM q03 p1),(5,.vl 0 t44 0 l43.length),(6,.i6 z10)]∧σ=⟨q1q l43 t44,1⟩) n ⟨0,l11,t12,hF,rfl,rfl⟩ ?_ ?_
 rintro _ _ ⟨l43,t44,hF,rfl,rfl⟩
 unfold qar at hF
 refine go ?_
 exact lC ⟨_,l43,t44,hF,rfl,rfl⟩
 rintro (_|m3) _ _ ⟨z40,l41,t42,hF,rfl,rfl⟩
 cases hF
 unfold q3o at hF
 refine gF hF (fun h45 hF=>?_) (fun h45 hF=>?_)
 refine go ?_
 refine WPU.block ?_
 obtain ⟨x46,h47,hF⟩:=q00 hF
 obtain ⟨r48,h49,hF⟩:=q00 hF
 refine go ?_
 refine RS.ix h47 ?_
 refine go ?_
 refine RS.cl rfl (vw (q4g n l41 x46 r48 h49) (z77 0 1)) fn127 ?_
 refine gn ?_
 refine z73 (fun tm σ=>∃ l51 t52,q88 z40 (q3o n z10 (q34 p1 n m1) x32 m3) l51=some r∧tm=fr 66 [(0,.iM q03 p1),(5,.vl 0 t52 0 l51.length),(6,.i6 z10),(7,.iM cS x32.Supers),(8,.i6 z40)]∧σ=⟨q1q l51 t52,1⟩) ?_ ?_
 rintro _ _ ⟨l51,t52,hF,rfl,rfl⟩
 unfold q88 at hF
 refine go ?_
 exact lC ⟨_,l51,t52,hF,rfl,rfl⟩
 refine cF hF (fun h50 hF=>?_) (fun h50 hF=>?_)
 obtain ⟨x53,h54,hF⟩:=q00 hF
 obtain ⟨h55,hF⟩:=q04 hF
 refine go ?_
 refine RS.ix h54 ?_
 refine go ?_
 refine RS.g ?_
 refine RS.g ?_
 refine go ?_
 exact xC ⟨(l41++[x53]),(t42+1),hF,rfl,rfl⟩
 refine go ?_
 exact xC ⟨l41,t42,hF,rfl,rfl⟩
 refine go ?_
 exact xC ⟨l41,t42,hF,rfl,rfl⟩
 refine go ?_
 exact xC ⟨l11,t12,hF,rfl,rfl⟩
def q6p (z10:Int) (rc1:Int→(List (List UInt8))→Option ((List (List UInt8)))) (l32:List (List UInt8)):Option ((List (List UInt8))) :=
 rc1 (IntKind.i64.wrap (z10+1)) l32
def q8n (r3:(List (List UInt8))) (z10:Int) (l11:List (List UInt8)) (rc1:Int→(List (List UInt8))→Option ((List (List UInt8)))) (b30:Bool):Option ((List (List UInt8))) :=
 cond b30
  (bindO (idxO r3 z10) fun x34 =>
  needO ((l11.length+1)*16≤140737488355328∧l11.length+1≤140737488355328) (
  q6p z10 rc1 (l11++[x34])))
  (q6p z10 rc1 l11)
def q4a (n:Nat) (r3:(List (List UInt8))) (z10:Int) (l11:List (List UInt8)) (rc1:Int→(List (List UInt8))→Option ((List (List UInt8)))) (r18:(List (List UInt8))):Nat→Bool→Int→Option ((List (List UInt8)))
 | 0,_,_=>none
 | m2+1,b28,z29 =>
  cond (decide (z29<(r3.length:Int)))
   (bindO (cond b28
    (cond (z29 == z10)
     (some true)
     (bindO (idxO r3 z29) fun x40 =>
     bindO (q49 n r18 x40) fun r42 =>
     some (!r42)))
    (some false)) fun b44 =>
   (q4a n r3 z10 l11 rc1 r18 m2) b44 (IntKind.i64.wrap (z29+1)))
   (q8n r3 z10 l11 rc1 b28)
def q8m  (l13:List (List UInt8)):Option ((List (List UInt8))) :=
 some l13
def q1x (p1:List q01) (n:Nat) (r3:(List (List UInt8))):Nat→Int→(List (List UInt8))→Option ((List (List UInt8)))
 | 0,_,_=>none
 | m1+1,z10,l11 =>
  cond (decide (z10<(r3.length:Int)))
   (bindO (idxO r3 z10) fun x16 =>
   bindO (qd3 n p1 x16) fun r18 =>
   q4a n r3 z10 l11 (q1x p1 n r3 m1) r18 n true 0)
   (q8m l11)
def q7p (n:Nat) (p1:List q01) (p2:List (List UInt8)):Option ((List (List UInt8))) :=
 bindO (qay n p1 p2) fun r3 =>
 q1x p1 n r3 n 0 ([]:List (List UInt8))
theorem qga (n:Nat) (p1:List q01) (p2:List (List UInt8)) (r:(List (List UInt8))) (hF:q7p n p1 p2=some r):EvP Tryz.prog 132 [.isl false (List.map q03 p1),.isl false (List.map cS p2)] (.isl false (List.map cS r)):=by
 unfold q7p at hF
 refine bg2 56 fn132 ?_
 obtain ⟨r3,h4,hF⟩:=q00 hF
 refine go ?_
 refine RS.cl rfl (pC (qlj n p1 p2 r3 h4) _) fn150 ?_
 refine gr ?_
 refine gV 5 9 1 1 ?_
 refine gL (fun m tm σ=>∃ z10 l11 t12,q1x p1 n r3 m z10 l11=some r∧tm=fr 56 [(0,.iM q03 p1),(5,.vl 0 t12 0 l11.length),(6,.iM cS r3),(7,.i6 z10)]∧σ=⟨q1q l11 t12,1⟩) (fun tm σ=>∃ l13 t14,q8m l13=some r∧tm=fr 56 [(5,.vl 0 t14 0 l13.length)]∧σ=⟨q1q l13 t14,1⟩) n ⟨0,([]:List (List UInt8)),0,hF,rfl,rfl⟩ ?_ ?_
 rintro _ _ ⟨l13,t14,hF,rfl,rfl⟩
 unfold q8m at hF
 refine go ?_
 obtain rfl:=sI hF
 exact rT (us:=[.vl 0 t14 0 l13.length]) (u:=.iM cS l13) (q2y rfl (q24)) (fR 0 1)
 rintro (_|m1) _ _ ⟨z10,l11,t12,hF,rfl,rfl⟩
 cases hF
 unfold q1x at hF
 refine gF hF (fun h15 hF=>?_) (fun h15 hF=>?_)
 refine go ?_
 refine WPU.block ?_
 obtain ⟨x16,h17,hF⟩:=q00 hF
 obtain ⟨r18,h19,hF⟩:=q00 hF
 refine go ?_
 refine RS.ix h17 ?_
 refine go ?_
 refine RS.cl rfl (pC (qq0 n p1 x16 r18 h19) _) fn151 ?_
 refine go ?_
 refine gL (fun m tm σ=>∃ b28 z29,q4a n r3 z10 l11 (q1x p1 n r3 m1) r18 m b28 z29=some r∧tm=fr 56 [(0,.iM q03 p1),(5,.vl 0 t12 0 l11.length),(6,.iM cS r3),(7,.i6 z10),(8,.iM cS r18),(9,.bool b28),(10,.i6 z29)]∧σ=⟨q1q l11 t12,1⟩) (fun tm σ=>∃ b30,q8n r3 z10 l11 (q1x p1 n r3 m1) b30=some r∧tm=fr 56 [(0,.iM q03 p1),(5,.vl 0 t12 0 l11.length),(6,.iM cS r3),(7,.i6 z10),(9,.bool b30)]∧σ=⟨q1q l11 t12,1⟩) n ⟨true,0,hF,rfl,rfl⟩ ?_ ?_
 rintro _ _ ⟨b30,hF,rfl,rfl⟩
 unfold q8n at hF
 refine gr ?_
 refine z73 (fun tm σ=>∃ l32 t33,q6p z10 (q1x p1 n r3 m1) l32=some r∧tm=fr 56 [(0,.iM q03 p1),(5,.vl 0 t33 0 l32.length),(6,.iM cS r3),(7,.i6 z10)]∧σ=⟨q1q l32 t33,1⟩) ?_ ?_
 rintro _ _ ⟨l32,t33,hF,rfl,rfl⟩
 unfold q6p at hF
 refine go ?_
 exact lC ⟨_,l32,t33,hF,rfl,rfl⟩
 refine cF hF (fun h31 hF=>?_) (fun h31 hF=>?_)
 obtain ⟨x34,h35,hF⟩:=q00 hF
 obtain ⟨h36,hF⟩:=q04 hF
 refine go ?_
 refine RS.ix h35 ?_
 refine go ?_
 refine RS.g ?_
 refine RS.g ?_
 refine go ?_
 exact xC ⟨(l11++[x34]),(t12+1),hF,rfl,rfl⟩
 refine go ?_
 exact xC ⟨l11,t12,hF,rfl,rfl⟩
 rintro (_|m2) _ _ ⟨b28,z29,hF,rfl,rfl⟩
 cases hF
 unfold q4a at hF
 refine gF hF (fun h37 hF=>?_) (fun h37 hF=>?_)
 refine go ?_
 refine WPU.block ?_
 obtain ⟨b44,h45,hF⟩:=q00 hF
 refine gn ?_
 refine z73 (fun tm σ=>tm=fr 56 [(0,.iM q03 p1),(5,.vl 0 t12 0 l11.length),(6,.iM cS r3),(7,.i6 z10),(8,.iM cS r18),(9,.bool b44),(10,.i6 z29)]∧σ=⟨q1q l11 t12,1⟩) ?_ ?_
 rintro _ _ ⟨rfl,rfl⟩
 refine go ?_
 exact lC ⟨b44,(IntKind.i64.wrap (z29+1)),hF,rfl,rfl⟩
 refine go ?_
 rcases gB h45 with ⟨h38,h45⟩ | ⟨h38,h45⟩
 refine go ?_
 rcases gB h45 with ⟨h39,h45⟩ | ⟨h39,h45⟩
 exact gy h45
 obtain ⟨x40,h41,h45⟩:=q00 h45
 obtain ⟨r42,h43,h45⟩:=q00 h45
 obtain rfl:=sI h45
 refine go ?_
 refine RS.ix h41 ?_
 refine go ?_
 refine RS.cl rfl (pC (q4g n r18 x40 r42 h43) _) fn127 ?_
 refine go ?_
 exact xC ⟨rfl,rfl⟩
 obtain rfl:=sI h45
 refine go ?_
 repeat refine RS.no (qfo rfl rfl rfl) rfl rfl ?_
 refine go ?_
 exact xC ⟨rfl,rfl⟩
 refine go ?_
 exact xC ⟨b28,hF,rfl,rfl⟩
 refine go ?_
 exact xC ⟨l11,t12,hF,rfl,rfl⟩
def q9l (r17:(List (List UInt8))) (z23:Int) (rc2:(List UInt8)→Int→Option ((List UInt8))) (s27:List UInt8):Option ((List UInt8)) :=
 bindO (idxO r17 z23) fun x28 =>
 needO (s27.length+x28.length≤9223372036854775807) (
 rc2 (s27++x28) (IntKind.i64.wrap (z23+1)))
def qcl  (s24:List UInt8):Option ((List UInt8)) :=
 some s24
def q3s (r17:(List (List UInt8))):Nat→(List UInt8)→Int→Option ((List UInt8))
 | 0,_,_=>none
 | m2+1,s22,z23 =>
  cond (decide (z23<(r17.length:Int)))
   (cond (decide (z23 > 0))
    (needO (s22.length+([38]).length≤9223372036854775807) (
    q9l r17 z23 (q3s r17 m2) (s22++[38])))
    (q9l r17 z23 (q3s r17 m2) s22))
   (qcl s22)
def q9m (z12:Int) (rc1:Int→(List (List UInt8))→Option ((List UInt8))) (l43:List (List UInt8)):Option ((List UInt8)) :=
 rc1 (IntKind.i64.wrap (z12+1)) l43
def qck (p1:List q01) (n:Nat) (l15:List (List UInt8)):Option ((List UInt8)) :=
 bindO (q7p n p1 l15) fun r17 =>
 q3s r17 n [] 0
def q4i (p1:List q01) (p2:List (List UInt8)) (p3:List (List Int)) (p4:List Int) (n:Nat):Nat→Int→(List (List UInt8))→Option ((List UInt8))
 | 0,_,_=>none
 | m1+1,z12,l13 =>
  cond (decide (z12<(p2.length:Int)))
   (bindO (idxO p3 z12) fun x33 =>
   bindO (qd2 n x33 p4) fun r35 =>
   cond r35
    (bindO (idxO p2 z12) fun x38 =>
    some x38)
    (bindO (qec n p4 z12) fun r40 =>
    cond r40
     (bindO (idxO p2 z12) fun x45 =>
     needO ((l13.length+1)*16≤140737488355328∧l13.length+1≤140737488355328) (
     q9m z12 (q4i p1 p2 p3 p4 n m1) (l13++[x45])))
     (q9m z12 (q4i p1 p2 p3 p4 n m1) l13)))
   (qck p1 n l13)
def qef (n:Nat) (p1:List q01) (p2:List (List UInt8)) (p3:List (List Int)) (p4:List Int):Option ((List UInt8)) :=
 q4i p1 p2 p3 p4 n n 0 ([]:List (List UInt8))
theorem qsd (n:Nat) (p1:List q01) (p2:List (List UInt8)) (p3:List (List Int)) (p4:List Int) (r:(List UInt8)) (hF:qef n p1 p2 p3 p4=some r):EvP Tryz.prog 97 [.isl false (List.map q03 p1),.isl false (List.map cS p2),.isl false (List.map (cL (cI .u64)) p3),.isl false (List.map (cI .u64) p4)] (.str r):=by
 unfold qef at hF
 refine bg4 59 fn97 ?_
 refine gr ?_
 refine gr ?_
 refine gr ?_
 refine gV 9 9 1 1 ?_
 refine gL (fun m tm σ=>∃ z12 l13 t14,q4i p1 p2 p3 p4 n m z12 l13=some r∧tm=fr 59 [(0,.iM q03 p1),(1,.iM cS p2),(2,.iM (cL (cI .u64)) p3),(3,.iM (cI .u64) p4),(9,.vl 0 t14 0 l13.length),(10,.i6 z12)]∧σ=⟨q1q l13 t14,1⟩) (fun tm σ=>∃ l15 t16,qck p1 n l15=some r∧tm=fr 59 [(0,.iM q03 p1),(9,.vl 0 t16 0 l15.length)]∧σ=⟨q1q l15 t16,1⟩) n ⟨0,([]:List (List UInt8)),0,hF,rfl,rfl⟩ ?_ ?_
 rintro _ _ ⟨l15,t16,hF,rfl,rfl⟩
 unfold qck at hF
 refine gn ?_
 refine WPU.ghost (tm':=fr 59 [(0,.iM q03 p1),(9,.iM cS l15)]) (σ':=⟨[],1⟩) (Gh.trans (Gh.sub (l':=[(0,.iM q03 p1),(9,.vl 0 t16 0 l15.length)]) ⟨rfl,rfl,trivial⟩) (z7g 0 1)) NZ ?_
 obtain ⟨r17,h18,hF⟩:=q00 hF
 refine go ?_
 refine RS.cl rfl (pC (qga n p1 l15 r17 h18) _) fn132 ?_
 refine go ?_
 refine gL (fun m tm σ=>∃ s22 z23,q3s r17 m s22 z23=some r∧tm=fr 59 [(9,.iM cS r17),(11,.str s22),(12,.i6 z23)]∧σ=⟨[],1⟩) (fun tm σ=>∃ s24,qcl s24=some r∧tm=fr 59 [(11,.str s24)]∧σ=⟨[],1⟩) n ⟨[],0,hF,rfl,rfl⟩ ?_ ?_
 rintro _ _ ⟨s24,hF,rfl,rfl⟩
 unfold qcl at hF
 exact gx hF
 rintro (_|m2) _ _ ⟨s22,z23,hF,rfl,rfl⟩
 cases hF
 unfold q3s at hF
 refine gF hF (fun h25 hF=>?_) (fun h25 hF=>?_)
 refine go ?_
 refine WPU.block ?_
 refine gr ?_
 refine z73 (fun tm σ=>∃ s27,q9l r17 z23 (q3s r17 m2) s27=some r∧tm=fr 59 [(9,.iM cS r17),(11,.str s27),(12,.i6 z23)]∧σ=⟨[],1⟩) ?_ ?_
 rintro _ _ ⟨s27,hF,rfl,rfl⟩
 unfold q9l at hF
 obtain ⟨x28,h29,hF⟩:=q00 hF
 obtain ⟨h30,hF⟩:=q04 hF
 refine go ?_
 refine RS.ix h29 ?_
 refine go ?_
 refine RS.q (u:=.str (s27++x28)) rfl (qfh rfl rfl (z56 h30) rfl) ?_
 refine go ?_
 exact lC ⟨(s27++x28),(IntKind.i64.wrap (z23+1)),hF,rfl,rfl⟩
 refine cF hF (fun h26 hF=>?_) (fun h26 hF=>?_)
 obtain ⟨h31,hF⟩:=q04 hF
 refine go ?_
 refine RS.q (u:=.str (s22++[38])) rfl (qfh rfl rfl (z56 h31) rfl) ?_
 refine go ?_
 exact xC ⟨(s22++[38]),hF,rfl,rfl⟩
 refine go ?_
 exact xC ⟨s22,hF,rfl,rfl⟩
 refine go ?_
 exact xC ⟨s22,hF,rfl,rfl⟩
 rintro (_|m1) _ _ ⟨z12,l13,t14,hF,rfl,rfl⟩
 cases hF
 unfold q4i at hF
 refine gF hF (fun h32 hF=>?_) (fun h32 hF=>?_)
 refine go ?_
 refine WPU.block ?_
 obtain ⟨x33,h34,hF⟩:=q00 hF
 obtain ⟨r35,h36,hF⟩:=q00 hF
 refine go ?_
 refine RS.ix h34 ?_
 refine go ?_
 refine RS.cl rfl (pC (qpy n x33 p4 r35 h36) _) fn130 ?_
 refine gF hF (fun h37 hF=>?_) (fun h37 hF=>?_)
 obtain ⟨x38,h39,hF⟩:=q00 hF
 refine go ?_
 refine RS.ix h39 ?_
 exact gx hF
 obtain ⟨r40,h41,hF⟩:=q00 hF
 refine go ?_
 refine RS.cl rfl (pC (qn8 n p4 z12 r40 h41) _) fn131 ?_
 refine gn ?_
 refine z73 (fun tm σ=>∃ l43 t44,q9m z12 (q4i p1 p2 p3 p4 n m1) l43=some r∧tm=fr 59 [(0,.iM q03 p1),(1,.iM cS p2),(2,.iM (cL (cI .u64)) p3),(3,.iM (cI .u64) p4),(9,.vl 0 t44 0 l43.length),(10,.i6 z12)]∧σ=⟨q1q l43 t44,1⟩) ?_ ?_
 rintro _ _ ⟨l43,t44,hF,rfl,rfl⟩
 unfold q9m at hF
 refine go ?_
 exact lC ⟨_,l43,t44,hF,rfl,rfl⟩
 refine cF hF (fun h42 hF=>?_) (fun h42 hF=>?_)
 obtain ⟨x45,h46,hF⟩:=q00 hF
 obtain ⟨h47,hF⟩:=q04 hF
 refine go ?_
 refine RS.ix h46 ?_
 refine go ?_
 refine RS.g ?_
 refine RS.g ?_
 refine go ?_
 exact xC ⟨(l13++[x45]),(t14+1),hF,rfl,rfl⟩
 refine go ?_
 exact xC ⟨l13,t14,hF,rfl,rfl⟩
 refine go ?_
 exact xC ⟨l13,t14,hF,rfl,rfl⟩
def q9c (z6:Int) (rc1:Int→(List Int)→Option ((List Int))) (l15:List Int):Option ((List Int)) :=
 rc1 (IntKind.i64.wrap (z6+1)) l15
def qce  (l9:List Int):Option ((List Int)) :=
 some l9
def q4f (p1:List Int) (n:Nat):Nat→Int→(List Int)→Option ((List Int))
 | 0,_,_=>none
 | m1+1,z6,l7 =>
  cond (decide (z6<(IntKind.i64.wrap (64*(p1.length:Int)))))
   (bindO (qec n p1 z6) fun r12 =>
   cond r12
    (needO ((l7.length+1)*8≤140737488355328∧l7.length+1≤140737488355328) (
    q9c z6 (q4f p1 n m1) (l7++[z6])))
    (q9c z6 (q4f p1 n m1) l7))
   (qce l7)
def qgu (n:Nat) (p1:List Int):Option ((List Int)) :=
 q4f p1 n n 0 ([]:List Int)
theorem qsa (n:Nat) (p1:List Int) (r:(List Int)) (hF:qgu n p1=some r):EvP Tryz.prog 152 [.isl false (List.map (cI .u64) p1)] (.isl false (List.map (cI .i64) r)):=by
 unfold qgu at hF
 refine bg1 20 fn152 ?_
 refine gr ?_
 refine gr ?_
 refine gr ?_
 refine gV 3 3 1 1 ?_
 refine gL (fun m tm σ=>∃ z6 l7 t8,q4f p1 n m z6 l7=some r∧tm=fr 20 [(0,.iM (cI .u64) p1),(3,.vl 0 t8 0 l7.length),(4,.i6 z6)]∧σ=⟨q7m l7 t8,1⟩) (fun tm σ=>∃ l9 t10,qce l9=some r∧tm=fr 20 [(3,.vl 0 t10 0 l9.length)]∧σ=⟨q7m l9 t10,1⟩) n ⟨0,([]:List Int),0,hF,rfl,rfl⟩ ?_ ?_
 rintro _ _ ⟨l9,t10,hF,rfl,rfl⟩
 unfold qce at hF
 refine go ?_
 obtain rfl:=sI hF
 exact rT (us:=[.vl 0 t10 0 l9.length]) (u:=.iM (cI .i64) l9) (q2y rfl (q24)) (fR 0 1)
 rintro (_|m1) _ _ ⟨z6,l7,t8,hF,rfl,rfl⟩
 cases hF
 unfold q4f at hF
 refine gF hF (fun h11 hF=>?_) (fun h11 hF=>?_)
 refine go ?_
 refine WPU.block ?_
 obtain ⟨r12,h13,hF⟩:=q00 hF
 refine go ?_
 refine RS.cl rfl (pC (qn8 n p1 z6 r12 h13) _) fn131 ?_
 refine gn ?_
 refine z73 (fun tm σ=>∃ l15 t16,q9c z6 (q4f p1 n m1) l15=some r∧tm=fr 20 [(0,.iM (cI .u64) p1),(3,.vl 0 t16 0 l15.length),(4,.i6 z6)]∧σ=⟨q7m l15 t16,1⟩) ?_ ?_
 rintro _ _ ⟨l15,t16,hF,rfl,rfl⟩
 unfold q9c at hF
 refine go ?_
 exact lC ⟨_,l15,t16,hF,rfl,rfl⟩
 refine cF hF (fun h14 hF=>?_) (fun h14 hF=>?_)
 obtain ⟨h17,hF⟩:=q04 hF
 refine go ?_
 refine RS.g ?_
 refine RS.g ?_
 refine go ?_
 exact xC ⟨(l7++[z6]),(t8+1),hF,rfl,rfl⟩
 refine go ?_
 exact xC ⟨l7,t8,hF,rfl,rfl⟩
 refine go ?_
 exact xC ⟨l7,t8,hF,rfl,rfl⟩
def qad (n:Nat) (p1:List Int):Option (Int) :=
 bindO (qgu n p1) fun r2 =>
 some (r2.length:Int)
theorem qjb (n:Nat) (p1:List Int) (r:Int) (hF:qad n p1=some r):EvP Tryz.prog 133 [.isl false (List.map (cI .u64) p1)] (.int .i64 r):=by
 unfold qad at hF
 refine bg1 6 fn133 ?_
 obtain ⟨r2,h3,hF⟩:=q00 hF
 refine go ?_
 refine RS.cl rfl (pC (qsa n p1 r2 h3) _) fn152 ?_
 exact gx hF
def qbk (n:Nat) (p1:q0l) (p2:q0l):Option (Bool) :=
 bindO (qad n p1.Code) fun r3 =>
 bindO (qad n p2.Code) fun r5 =>
 bindO (cond (decide (r3 > r5))
  (some true)
  (cond (r3 == r5)
   (some (q1v p1.Name p2.Name))
   (some false))) fun b9 =>
 some b9
theorem qo7 (n:Nat) (p1:q0l) (p2:q0l) (r:Bool) (hF:qbk n p1 p2=some r):EvP Tryz.prog 98 [.agg (q0t p1),.agg (q0t p2)] (.bool r):=by
 unfold qbk at hF
 refine bg2 28 fn98 ?_
 obtain ⟨r3,h4,hF⟩:=q00 hF
 refine go ?_
 refine RS.cl rfl (pC (qjb n p1.Code r3 h4) _) fn133 ?_
 obtain ⟨r5,h6,hF⟩:=q00 hF
 refine go ?_
 refine RS.cl rfl (pC (qjb n p2.Code r5 h6) _) fn133 ?_
 obtain ⟨b9,h10,hF⟩:=q00 hF
 refine gn ?_
 refine z73 (fun tm σ=>tm=fr 28 [(4,.bool b9)]∧σ=⟨[(1,.row (q0t p2) 128),(0,.row (q0t p1) 128)],2⟩) ?_ ?_
 rintro _ _ ⟨rfl,rfl⟩
 exact gx hF
 refine go ?_
 rcases gB h10 with ⟨h7,h10⟩ | ⟨h7,h10⟩
 obtain rfl:=sI h10
 refine go ?_
 repeat refine RS.no (qfo rfl rfl rfl) rfl rfl ?_
 refine go ?_
 exact xC ⟨rfl,rfl⟩
 refine go ?_
 rcases gB h10 with ⟨h8,h10⟩ | ⟨h8,h10⟩
 obtain rfl:=sI h10
 refine go ?_
 refine RS.w (u:=.bool (q1v p1.Name p2.Name)) rfl (qfh rfl rfl rfl rfl) ?_
 refine go ?_
 exact xC ⟨rfl,rfl⟩
 exact gy h10
def q8b (z27:Int) (l28:List q0l) (rc2:Int→(List q0l)→Option ((List q0l)×Int)) (r35:(List UInt8)) (x37:List Int) (z50:Int):Option ((List q0l)×Int) :=
 needO ((0:Int)≤z50∧z50≤((l28.length:Nat):Int)) (
 needO (0+z50.toNat≤l28.length) (
 needO (((l28.drop 0).take z50.toNat).length*40≤140737488355328∧((l28.drop 0).take z50.toNat).length≤140737488355328) (
 needO ((((l28.drop 0).take z50.toNat).length+1)*40≤140737488355328∧((l28.drop 0).take z50.toNat).length+1≤140737488355328) (
 needO ((0:Int)≤z50∧z50≤((l28.length:Nat):Int)) (
 needO ((0+z50.toNat)+(l28.length - z50.toNat)≤l28.length) (
 needO (((((l28.drop 0).take z50.toNat)++[(q0l.mk r35 x37)]).length+((l28.drop (0+z50.toNat)).take (l28.length - z50.toNat)).length)*40≤140737488355328∧(((l28.drop 0).take z50.toNat)++[(q0l.mk r35 x37)]).length+((l28.drop (0+z50.toNat)).take (l28.length - z50.toNat)).length≤140737488355328) (
 rc2 (IntKind.i64.wrap (z27+1)) ((((l28.drop 0).take z50.toNat)++[(q0l.mk r35 x37)])++((l28.drop (0+z50.toNat)).take (l28.length - z50.toNat))))))))))
def q6v (n:Nat) (z27:Int) (l28:List q0l) (rc2:Int→(List q0l)→Option ((List q0l)×Int)) (r35:(List UInt8)) (x37:List Int):Nat→Int→Option ((List q0l)×Int)
 | 0,_=>none
 | m3+1,z49 =>
  bindO (cond (decide (z49 > 0))
   (bindO (idxO l28 (IntKind.i64.wrap (z49 - 1))) fun x59 =>
   bindO (qbk n (q0l.mk r35 x37) x59) fun r61 =>
   some r61)
   (some false)) fun b63 =>
  cond b63
   ((q6v n z27 l28 rc2 r35 x37 m3) (IntKind.i64.wrap (z49 - 1)))
   (q8b z27 l28 rc2 r35 x37 z49)
def qb3  (l30:List q0l):Option ((List q0l)×Int) :=
 some (l30,0)
def q3r (p1:List q01) (n:Nat) (r5:(List (List UInt8))) (l15:List (List Int)) (r17:(List (List Int))):Nat→Int→(List q0l)→Option ((List q0l)×Int)
 | 0,_,_=>none
 | m2+1,z27,l28 =>
  cond (decide (z27<(r17.length:Int)))
   (bindO (idxO r17 z27) fun x33 =>
   bindO (qef n p1 r5 l15 x33) fun r35 =>
   bindO (idxO r17 z27) fun x37 =>
   q6v n z27 l28 (q3r p1 n r5 l15 r17 m2) r35 x37 n (l28.length:Int))
   (qb3 l28)
def qb2 (p1:List q01) (n:Nat) (r5:(List (List UInt8))) (l15:List (List Int)):Option ((List q0l)×Int) :=
 bindO (qbl n l15) fun r17 =>
 cond (decide ((r17.length:Int) > 256))
  (some ([],7))
  (q3r p1 n r5 l15 r17 n 0 ([]:List q0l))
def q5s (p1:List q01) (n:Nat) (r5:(List (List UInt8))):Nat→Int→(List (List Int))→Option ((List q0l)×Int)
 | 0,_,_=>none
 | m1+1,z12,l13 =>
  cond (decide (z12<(r5.length:Int)))
   (bindO (idxO r5 z12) fun x67 =>
   bindO (qee n p1 r5 x67) fun r69 =>
   needO ((l13.length+1)*24≤140737488355328∧l13.length+1≤140737488355328) (
   (q5s p1 n r5 m1) (IntKind.i64.wrap (z12+1)) (l13++[r69])))
   (qb2 p1 n r5 l13)
def q6i (n:Nat) (p1:List q01):Option ((List q0l)×Int) :=
 bindO (qd5 n p1) fun r2 =>
 cond (r2 != 0)
  (some ([],r2))
  (bindO (qd6 n p1) fun r5 =>
  q5s p1 n r5 n 0 ([]:List (List Int)))
theorem qch (n:Nat) (p1:List q01) (r:(List q0l)×Int) (hF:q6i n p1=some r):EvP Tryz.prog 60 [.isl false (List.map q03 p1)] (.tup [.isl false (List.map q0t r.1),.int .i64 r.2]):=by
 unfold q6i at hF
 refine bg1 92 fn60 ?_
 obtain ⟨r2,h3,hF⟩:=q00 hF
 refine go ?_
 refine RS.cl rfl (pC (qq2 n p1 r2 h3) _) fn93 ?_
 refine gF hF (fun h4 hF=>?_) (fun h4 hF=>?_)
 refine go ?_
 obtain rfl:=sI hF
 exact rT (us:=[.nils,.i6 r2]) (u:=.tup [.isl false [],.i6 r2]) (q2y rfl (q2y rfl (q24))) wR
 obtain ⟨r5,h6,hF⟩:=q00 hF
 refine go ?_
 refine RS.cl rfl (pC (qjd n p1 r5 h6) _) fn94 ?_
 refine gr ?_
 refine gr ?_
 refine gV 6 126 1 1 ?_
 refine gL (fun m tm σ=>∃ z12 l13 t14,q5s p1 n r5 m z12 l13=some r∧tm=fr 92 [(0,.iM q03 p1),(5,.iM cS r5),(6,.vl 0 t14 0 l13.length),(7,.i6 z12)]∧σ=⟨[(0,.bv (cL (cI .u64)) l13 126 1 t14)],1⟩) (fun tm σ=>∃ l15 t16,qb2 p1 n r5 l15=some r∧tm=fr 92 [(0,.iM q03 p1),(5,.iM cS r5),(6,.vl 0 t16 0 l15.length)]∧σ=⟨[(0,.bv (cL (cI .u64)) l15 126 1 t16)],1⟩) n ⟨0,([]:List (List Int)),0,hF,rfl,rfl⟩ ?_ ?_
 rintro _ _ ⟨l15,t16,hF,rfl,rfl⟩
 unfold qb2 at hF
 refine gn ?_
 refine WPU.ghost (tm':=fr 92 [(0,.iM q03 p1),(5,.iM cS r5),(6,.iM (cL (cI .u64)) l15)]) (σ':=⟨[],1⟩) (Gh.trans (Gh.sub (l':=[(0,.iM q03 p1),(5,.iM cS r5),(6,.vl 0 t16 0 l15.length)]) ⟨rfl,rfl,rfl,trivial⟩) (z7g 0 1)) NZ ?_
 obtain ⟨r17,h18,hF⟩:=q00 hF
 refine go ?_
 refine RS.cl rfl (pC (qo8 n l15 r17 h18) _) fn96 ?_
 refine gF hF (fun h19 hF=>?_) (fun h19 hF=>?_)
 refine go ?_
 obtain rfl:=sI hF
 exact rT (us:=[.nils,.i6 7]) (u:=.tup [.isl false [],.i6 7]) (q2y rfl (q2y rfl (q24))) wR
 refine gr ?_
 refine gr ?_
 refine gV 9 128 2 2 ?_
 refine gL (fun m tm σ=>∃ z27 l28 t29,q3r p1 n r5 l15 r17 m z27 l28=some r∧tm=fr 92 [(0,.iM q03 p1),(5,.iM cS r5),(6,.iM (cL (cI .u64)) l15),(8,.iM (cL (cI .u64)) r17),(9,.vl 1 t29 0 l28.length),(10,.i6 z27)]∧σ=⟨[(1,.bv q0t l28 128 2 t29)],2⟩) (fun tm σ=>∃ l30 t31,qb3 l30=some r∧tm=fr 92 [(9,.vl 1 t31 0 l30.length)]∧σ=⟨[(1,.bv q0t l30 128 2 t31)],2⟩) n ⟨0,([]:List q0l),0,hF,rfl,rfl⟩ ?_ ?_
 rintro _ _ ⟨l30,t31,hF,rfl,rfl⟩
 unfold qb3 at hF
 refine go ?_
 obtain rfl:=sI hF
 exact rT (us:=[.vl 1 t31 0 l30.length,.i6 0]) (u:=.tup [.iM q0t l30,.i6 0]) (q2y rfl (q2y rfl (q24))) (fR 1 2)
 rintro (_|m2) _ _ ⟨z27,l28,t29,hF,rfl,rfl⟩
 cases hF
 unfold q3r at hF
 refine gF hF (fun h32 hF=>?_) (fun h32 hF=>?_)
 refine go ?_
 refine WPU.block ?_
 obtain ⟨x33,h34,hF⟩:=q00 hF
 obtain ⟨r35,h36,hF⟩:=q00 hF
 obtain ⟨x37,h38,hF⟩:=q00 hF
 refine go ?_
 refine dE [(0,13),(1,13),(2,13),(3,13),(4,13),(5,13),(6,13),(8,13),(9,13),(10,13),(11,13),(12,13)] ?_
 refine gd ?_
 refine RD.ix h34 ?_
 refine gd ?_
 refine RD.fl rfl (pC (qsd n p1 r5 l15 x33 r35 h36)) fn97 ?_
 refine gd ?_
 refine RD.ix h38 ?_
 refine gd ?_
 refine RD.g ?_
 refine z7f ?_
 refine RD.done ⟨by kernel_rfl,⟨q0w rfl,⟨q0w rfl,⟨q0w rfl,⟨q0w rfl,⟨q0w rfl,⟨q25 rfl rfl (qom (cL (cI .u64)) un177.h (q0g if126.h) (qg5 (cI .u64)) h34 rfl),⟨qrt un126.h rfl rfl rfl,⟨q0w rfl,⟨q0w rfl,⟨q25 rfl rfl (qom (cL (cI .u64)) un177.h (q0g if126.h) (qg5 (cI .u64)) h38 rfl),⟨qrt un126.h rfl rfl rfl,⟨qvf bd128.h rfl rfl rfl,trivial⟩⟩⟩⟩⟩⟩⟩⟩⟩⟩⟩⟩,?_⟩
 refine go ?_
 refine gL (fun m tm σ=>∃ z49,q6v n z27 l28 (q3r p1 n r5 l15 r17 m2) r35 x37 m z49=some r∧tm=fr 92 [(0,.iM q03 p1),(5,.iM cS r5),(6,.iM (cL (cI .u64)) l15),(8,.iM (cL (cI .u64)) r17),(9,.vl 1 t29 0 l28.length),(10,.i6 z27),(11,.ptr 2 0 0),(12,.i6 z49)]∧σ=⟨qit (.str r35) x37 l28 t29,3⟩) (fun tm σ=>∃ z50,q8b z27 l28 (q3r p1 n r5 l15 r17 m2) r35 x37 z50=some r∧tm=fr 92 [(0,.iM q03 p1),(5,.iM cS r5),(6,.iM (cL (cI .u64)) l15),(8,.iM (cL (cI .u64)) r17),(9,.vl 1 t29 0 l28.length),(10,.i6 z27),(11,.ptr 2 0 0),(12,.i6 z50)]∧σ=⟨qit (.str r35) x37 l28 t29,3⟩) n ⟨(l28.length:Int),hF,rfl,rfl⟩ ?_ ?_
 rintro _ _ ⟨z50,hF,rfl,rfl⟩
 unfold q8b at hF
 obtain ⟨h51,hF⟩:=q04 hF
 obtain ⟨h52,hF⟩:=q04 hF
 obtain ⟨h53,hF⟩:=q04 hF
 refine go ?_
 refine RS.q (u:=.vl 1 t29 0 z50.toNat) rfl (q2c rfl qaj (qk2 rfl) qaj (qoa q0t un122.h (q0g if128.h) q7a (vo rfl) (Nat.le_of_eq (Nat.zero_add _)) (qkp h51.1 h51.2))) (RS.q (u:=.vl 3 0 0 (((l28.drop 0).take z50.toNat).length)) (σ':=⟨(3,.bv q0t ((l28.drop 0).take z50.toNat) 128 2 0)::qit (.str r35) x37 l28 t29,4⟩) rfl (qdn rfl rfl rfl rfl (qt6 q0t ((l28.drop 0).take z50.toNat) un122.h un122.h if128.h rfl (qw1 q0t q7a (vo rfl) h52) h53)) ?_)
 obtain ⟨h54,hF⟩:=q04 hF
 refine go ?_
 refine RS.g ?_
 refine RS.g ?_
 obtain ⟨h55,hF⟩:=q04 hF
 obtain ⟨h56,hF⟩:=q04 hF
 obtain ⟨h57,hF⟩:=q04 hF
 refine go ?_
 refine RS.q (u:=.vl 1 t29 (0+z50.toNat) (l28.length - z50.toNat)) rfl (q2c rfl (qk2 rfl) qaj qaj (qoa q0t un122.h (q0g if128.h) q7a (vo rfl) (Nat.le_of_eq (Nat.zero_add _)) (quh h55.1 h55.2))) (RS.q (u:=.vl 3 2 0 (((((l28.drop 0).take z50.toNat)++[(q0l.mk r35 x37)])++((l28.drop (0+z50.toNat)).take (l28.length - z50.toNat))).length)) (σ':=⟨(4,.row [.str r35,.iM (cI .u64) x37] 128)::(3,.bv q0t ((((l28.drop 0).take z50.toNat)++[(q0l.mk r35 x37)])++((l28.drop (0+z50.toNat)).take (l28.length - z50.toNat))) 128 2 2)::qit (.str r35) x37 l28 t29,5⟩) rfl (qdn rfl rfl rfl rfl (qkn q0t ((l28.drop (0+z50.toNat)).take (l28.length - z50.toNat)) un122.h un122.h if128.h rfl q7a rfl (qw1 q0t q7a (vo rfl) h56) h57)) ?_)
 refine go ?_
 exact ⟨m2,_,_,zN _,⟨(IntKind.i64.wrap (z27+1)),((((l28.drop 0).take z50.toNat)++[(q0l.mk r35 x37)])++((l28.drop (0+z50.toNat)).take (l28.length - z50.toNat))),2,hF,rfl,rfl⟩,NZ,Gh.trans (Gh.sub (l':=[(0,.iM q03 p1),(5,.iM cS r5),(6,.iM (cL (cI .u64)) l15),(8,.iM (cL (cI .u64)) r17),(9,.vl 3 2 0 (((((l28.drop 0).take z50.toNat)++[(q0l.mk r35 x37)])++((l28.drop (0+z50.toNat)).take (l28.length - z50.toNat))).length)),(10,.i6 (IntKind.i64.wrap (z27+1)))]) ⟨rfl,rfl,rfl,rfl,rfl,rfl,trivial⟩) (Gh.trans (Gh.mv (l':=[(0,.iM q03 p1),(5,.iM cS r5),(6,.iM (cL (cI .u64)) l15),(8,.iM (cL (cI .u64)) r17),(9,.vl 1 2 0 (((((l28.drop 0).take z50.toNat)++[(q0l.mk r35 x37)])++((l28.drop (0+z50.toNat)).take (l28.length - z50.toNat))).length)),(10,.i6 (IntKind.i64.wrap (z27+1)))]) (h':=[(4,.row [.str r35,.iM (cI .u64) x37] 128),(1,.bv q0t ((((l28.drop 0).take z50.toNat)++[(q0l.mk r35 x37)])++((l28.drop (0+z50.toNat)).take (l28.length - z50.toNat))) 128 2 2),(2,.row [.str r35,.iM (cI .u64) x37] 128)]) 1 3 NZ rfl rfl (by simp only [rS,rU,rUL,qg9,mvN,Nat.beq,zC,zD]) rfl (by simp only [avH,rB,qov,rUL,rU,qg9,qvm,mvN,Nat.beq,zC,zD,and_self])) (Gh.toC (n1:=2) ⟨rfl,rfl,rfl,rfl,rfl,rfl,trivial⟩ rfl NZ (by simp)))⟩
 rintro (_|m3) _ _ ⟨z49,hF,rfl,rfl⟩
 cases hF
 unfold q6v at hF
 obtain ⟨b63,h64,hF⟩:=q00 hF
 refine gn ?_
 refine z73 (fun tm σ=>tm=fr 92 [(0,.iM q03 p1),(5,.iM cS r5),(6,.iM (cL (cI .u64)) l15),(8,.iM (cL (cI .u64)) r17),(9,.vl 1 t29 0 l28.length),(10,.i6 z27),(11,.ptr 2 0 0),(12,.i6 z49),(73,.bool b63)]∧σ=⟨qit (.str r35) x37 l28 t29,3⟩) ?_ ?_
 rintro _ _ ⟨rfl,rfl⟩
 refine gF hF (fun h65 hF=>?_) (fun h65 hF=>?_)
 refine go ?_
 refine WPU.block ?_
 refine go ?_
 exact lC ⟨_,hF,rfl,rfl⟩
 refine go ?_
 exact xC ⟨z49,hF,rfl,rfl⟩
 refine dE [] ?_
 refine gd ?_
 rcases gB h64 with ⟨h58,h64⟩ | ⟨h58,h64⟩
 obtain ⟨x59,h60,h64⟩:=q00 h64
 obtain ⟨r61,h62,h64⟩:=q00 h64
 obtain rfl:=sI h64
 refine gd ?_
 refine RD.w rfl (q25 rfl rfl (q40 q0t un122.h (q0g if128.h) (by decide) q7a (vo rfl) h60)) ?_
 refine RD.w (u:=.agg (q0t x59)) rfl (ql2 q0t un128.h rfl (q0g if128.h) q7a rfl rfl h60 rfl) (RD.fl rfl (pC (qo7 n (q0l.mk r35 x37) x59 r61 h62)) fn98 ?_)
 refine gd ?_
 refine RD.done ⟨by kernel_rfl,trivial,?_⟩
 refine go ?_
 exact xC ⟨rfl,rfl⟩
 obtain rfl:=sI h64
 refine gd ?_
 refine RD.done ⟨by kernel_rfl,trivial,?_⟩
 refine go ?_
 exact xC ⟨rfl,rfl⟩
 refine go ?_
 exact xC ⟨l28,t29,hF,rfl,rfl⟩
 rintro (_|m1) _ _ ⟨z12,l13,t14,hF,rfl,rfl⟩
 cases hF
 unfold q5s at hF
 refine gF hF (fun h66 hF=>?_) (fun h66 hF=>?_)
 refine go ?_
 refine WPU.block ?_
 obtain ⟨x67,h68,hF⟩:=q00 hF
 obtain ⟨r69,h70,hF⟩:=q00 hF
 obtain ⟨h71,hF⟩:=q04 hF
 refine go ?_
 refine RS.ix h68 ?_
 refine go ?_
 refine RS.cl rfl (pC (qsc n p1 r5 x67 r69 h70) _) fn95 ?_
 refine RS.g ?_
 refine RS.g ?_
 refine go ?_
 exact lC ⟨_,(l13++[r69]),(t14+1),hF,rfl,rfl⟩
 refine go ?_
 exact xC ⟨l13,t14,hF,rfl,rfl⟩
def qba   : Option ((List UInt8)×Bool) :=
 some ([],false)
def q5w (p1:q01) (p2:List UInt8):Nat→Int→Option ((List UInt8)×Bool)
 | 0,_=>none
 | m1+1,z8 =>
  cond (decide (z8<(p1.Feats.length:Int)))
   (bindO (idxO p1.Feats z8) fun x10 =>
   cond (q22 x10.Feat p2)
    (bindO (idxO p1.Feats z8) fun x13 =>
    some (x13.Value,true))
    ((q5w p1 p2 m1) (IntKind.i64.wrap (z8+1))))
   (qba)
def qd9 (n:Nat) (p1:q01) (p2:List UInt8):Option ((List UInt8)×Bool) :=
 q5w p1 p2 n 0
theorem qjg (n:Nat) (p1:q01) (p2:List UInt8) (r:(List UInt8)×Bool) (hF:qd9 n p1 p2=some r):EvP Tryz.prog 118 [.agg (q03 p1),.str p2] (.tup [.str r.1,.bool r.2]):=by
 unfold qd9 at hF
 refine bg2 28 fn118 ?_
 refine go ?_
 refine gL (fun m tm σ=>∃ z8,q5w p1 p2 m z8=some r∧tm=fr 28 [(1,.str p2),(2,.ptr 0 0 0),(6,.i6 z8)]∧σ=⟨[(0,.row (q03 p1) 138)],1⟩) (fun tm σ=>qba=some r∧tm=fr 28 []∧σ=⟨[(0,.row (q03 p1) 138)],1⟩) n ⟨0,hF,rfl,rfl⟩ ?_ ?_
 rintro _ _ ⟨hF,rfl,rfl⟩
 unfold qba at hF
 refine go ?_
 obtain rfl:=sI hF
 exact rt2 rfl rfl rfl rfl rfl
 rintro (_|m1) _ _ ⟨z8,hF,rfl,rfl⟩
 cases hF
 unfold q5w at hF
 refine gF hF (fun h9 hF=>?_) (fun h9 hF=>?_)
 refine go ?_
 refine WPU.block ?_
 obtain ⟨x10,h11,hF⟩:=q00 hF
 refine go ?_
 refine RS.ix h11 ?_
 refine go ?_
 refine RS.q (u:=.bool (q22 x10.Feat p2)) rfl (qfh rfl rfl rfl rfl) ?_
 refine gF hF (fun h12 hF=>?_) (fun h12 hF=>?_)
 obtain ⟨x13,h14,hF⟩:=q00 hF
 refine go ?_
 refine RS.ix h14 ?_
 refine go ?_
 obtain rfl:=sI hF
 exact rt2 rfl rfl rfl rfl rfl
 refine go ?_
 exact lC ⟨_,hF,rfl,rfl⟩
 refine go ?_
 exact xC ⟨hF,rfl,rfl⟩
def q8d (z8:Int) (rc1:(List (List UInt8))→Int→Option ((List UInt8)×Bool)) (l21:List (List UInt8)):Option ((List UInt8)×Bool) :=
 rc1 l21 (IntKind.i64.wrap (z8+1))
def qb9 (p1:List q01) (n:Nat) (l9:List (List UInt8)):Option ((List UInt8)×Bool) :=
 bindO (q7p n p1 l9) fun r10 =>
 cond ((r10.length:Int) != 1)
  (some ([],false))
  (bindO (idxO r10 0) fun x13 =>
  some (x13,true))
def q3t (p1:List q01) (p2:List UInt8) (n:Nat):Nat→(List (List UInt8))→Int→Option ((List UInt8)×Bool)
 | 0,_,_=>none
 | m1+1,l7,z8 =>
  cond (decide (z8<(p1.length:Int)))
   (bindO (idxO p1 z8) fun x16 =>
   bindO (qd9 n x16 p2) fun r18 =>
   cond r18.2
    (bindO (idxO p1 z8) fun x22 =>
    bindO (q9d n l7 x22.Name) fun r24 =>
    q8d z8 (q3t p1 p2 n m1) r24)
    (q8d z8 (q3t p1 p2 n m1) l7))
   (qb9 p1 n l7)
def qd8 (n:Nat) (p1:List q01) (p2:List UInt8):Option ((List UInt8)×Bool) :=
 q3t p1 p2 n n [] 0
theorem qjf (n:Nat) (p1:List q01) (p2:List UInt8) (r:(List UInt8)×Bool) (hF:qd8 n p1 p2=some r):EvP Tryz.prog 100 [.isl false (List.map q03 p1),.str p2] (.tup [.str r.1,.bool r.2]):=by
 unfold qd8 at hF
 refine bg2 43 fn100 ?_
 refine gr ?_
 refine gr ?_
 refine gr ?_
 refine WPU.ghost (tm':=fr 43 [(0,.iM q03 p1),(1,.str p2),(6,.iM cS []),(7,.i6 0)]) (Gh.trans (Gh.sub (l':=[(0,.iM q03 p1),(1,.str p2),(6,.nils),(7,.i6 0)]) ⟨rfl,rfl,rfl,rfl,trivial⟩) (Gh.wkS (l':=[(0,.iM q03 p1),(1,.str p2),(6,.iM cS []),(7,.i6 0)]) (.cons (.refl _) (.cons (.refl _) (.cons (.nil false) (.cons (.refl _) .nil)))))) NZ ?_
 refine gL (fun m tm σ=>∃ l7 z8,q3t p1 p2 n m l7 z8=some r∧tm=fr 43 [(0,.iM q03 p1),(1,.str p2),(6,.iM cS l7),(7,.i6 z8)]∧σ=⟨[],0⟩) (fun tm σ=>∃ l9,qb9 p1 n l9=some r∧tm=fr 43 [(0,.iM q03 p1),(6,.iM cS l9)]∧σ=⟨[],0⟩) n ⟨[],0,hF,rfl,rfl⟩ ?_ ?_
 rintro _ _ ⟨l9,hF,rfl,rfl⟩
 unfold qb9 at hF
 obtain ⟨r10,h11,hF⟩:=q00 hF
 refine go ?_
 refine RS.cl rfl (pC (qga n p1 l9 r10 h11) _) fn132 ?_
 refine gF hF (fun h12 hF=>?_) (fun h12 hF=>?_)
 refine go ?_
 obtain rfl:=sI hF
 exact rt2 rfl rfl rfl rfl rfl
 obtain ⟨x13,h14,hF⟩:=q00 hF
 refine go ?_
 refine RS.ix h14 ?_
 refine go ?_
 obtain rfl:=sI hF
 exact rt2 rfl rfl rfl rfl rfl
 rintro (_|m1) _ _ ⟨l7,z8,hF,rfl,rfl⟩
 cases hF
 unfold q3t at hF
 refine gF hF (fun h15 hF=>?_) (fun h15 hF=>?_)
 refine go ?_
 refine WPU.block ?_
 obtain ⟨x16,h17,hF⟩:=q00 hF
 obtain ⟨r18,h19,hF⟩:=q00 hF
 refine go ?_
 refine RS.ix h17 ?_
 refine go ?_
 refine RS.cl rfl (pC (qjg n x16 p2 r18 h19) _) fn118 ?_
 refine gr ?_
 refine z73 (fun tm σ=>∃ l21,q8d z8 (q3t p1 p2 n m1) l21=some r∧tm=fr 43 [(0,.iM q03 p1),(1,.str p2),(6,.iM cS l21),(7,.i6 z8)]∧σ=⟨[],0⟩) ?_ ?_
 rintro _ _ ⟨l21,hF,rfl,rfl⟩
 unfold q8d at hF
 refine go ?_
 exact lC ⟨l21,(IntKind.i64.wrap (z8+1)),hF,rfl,rfl⟩
 refine cF hF (fun h20 hF=>?_) (fun h20 hF=>?_)
 obtain ⟨x22,h23,hF⟩:=q00 hF
 obtain ⟨r24,h25,hF⟩:=q00 hF
 refine go ?_
 refine RS.ix h23 ?_
 refine go ?_
 refine RS.cl rfl (pC (qag n l7 x22.Name r24 h25) _) fn117 ?_
 refine go ?_
 exact xC ⟨r24,hF,rfl,rfl⟩
 refine go ?_
 exact xC ⟨l7,hF,rfl,rfl⟩
 refine go ?_
 exact xC ⟨l7,hF,rfl,rfl⟩
def q6g (n:Nat) (p1:List UInt8):Option (Bool) :=
 bindO (qac n p1 true) fun r2 =>
 some r2
theorem qn6 (n:Nat) (p1:List UInt8) (r:Bool) (hF:q6g n p1=some r):EvP Tryz.prog 145 [.str p1] (.bool r):=by
 unfold q6g at hF
 refine bg1 5 fn145 ?_
 obtain ⟨r2,h3,hF⟩:=q00 hF
 refine go ?_
 refine RS.cl rfl (pC (qja n p1 true r2 h3) _) fn165 ?_
 exact gx hF
def q5g (n:Nat) (r2:(List (List UInt8))) (x9:q01) (z16:Int) (rc2:Int→Option (Int))  : Option (Int) :=
 bindO (idxO x9.Feats z16) fun x30 =>
 bindO (q49 n r2 x30.Value) fun r32 =>
 cond (!r32)
  (some 5)
  (rc2 (IntKind.i64.wrap (z16+1)))
def q2w (n:Nat) (r2:(List (List UInt8))) (x9:q01) (z16:Int) (rc2:Int→Option (Int)):Nat→Int→Option (Int)
 | 0,_=>none
 | m3+1,z29 =>
  cond (decide (z29<z16))
   (bindO (idxO x9.Feats z29) fun x36 =>
   bindO (idxO x9.Feats z16) fun x38 =>
   cond (q22 x36.Feat x38.Feat)
    (some 4)
    ((q2w n r2 x9 z16 rc2 m3) (IntKind.i64.wrap (z29+1))))
   (q5g n r2 x9 z16 rc2)
def q5f (z7:Int) (rc1:Int→Option (Int))  : Option (Int) :=
 rc1 (IntKind.i64.wrap (z7+1))
def q16 (n:Nat) (r2:(List (List UInt8))) (z7:Int) (rc1:Int→Option (Int)) (x9:q01):Nat→Int→Option (Int)
 | 0,_=>none
 | m2+1,z16 =>
  cond (decide (z16<(x9.Feats.length:Int)))
   (bindO (idxO x9.Feats z16) fun x18 =>
   bindO (q6g n x18.Feat) fun r20 =>
   cond (!r20)
    (some 1)
    (q2w n r2 x9 z16 (q16 n r2 z7 rc1 x9 m2) n 0))
   (q5f z7 rc1)
def q5e   : Option (Int) :=
 some 0
def q0p (p1:List q01) (n:Nat) (r2:(List (List UInt8))):Nat→Int→Option (Int)
 | 0,_=>none
 | m1+1,z7 =>
  cond (decide (z7<(p1.length:Int)))
   (bindO (idxO p1 z7) fun x9 =>
   q16 n r2 z7 (q0p p1 n r2 m1) x9 n 0)
   (q5e)
def q5d (n:Nat) (p1:List q01):Option (Int) :=
 bindO (qd6 n p1) fun r2 =>
 q0p p1 n r2 n 0
theorem qh8 (n:Nat) (p1:List q01) (r:Int) (hF:q5d n p1=some r):EvP Tryz.prog 116 [.isl false (List.map q03 p1)] (.int .i64 r):=by
 unfold q5d at hF
 refine bg1 58 fn116 ?_
 obtain ⟨r2,h3,hF⟩:=q00 hF
 refine go ?_
 refine RS.cl rfl (pC (qjd n p1 r2 h3) _) fn94 ?_
 refine go ?_
 refine gL (fun m tm σ=>∃ z7,q0p p1 n r2 m z7=some r∧tm=fr 58 [(0,.iM q03 p1),(3,.iM cS r2),(4,.i6 z7)]∧σ=⟨[],0⟩) (fun tm σ=>q5e=some r∧tm=fr 58 []∧σ=⟨[],0⟩) n ⟨0,hF,rfl,rfl⟩ ?_ ?_
 rintro _ _ ⟨hF,rfl,rfl⟩
 unfold q5e at hF
 exact gx hF
 rintro (_|m1) _ _ ⟨z7,hF,rfl,rfl⟩
 cases hF
 unfold q0p at hF
 refine gF hF (fun h8 hF=>?_) (fun h8 hF=>?_)
 refine go ?_
 refine WPU.block ?_
 obtain ⟨x9,h10,hF⟩:=q00 hF
 refine go ?_
 refine RS.ix h10 ?_
 refine go ?_
 refine gL (fun m tm σ=>∃ z16,q16 n r2 z7 (q0p p1 n r2 m1) x9 m z16=some r∧tm=fr 58 [(0,.iM q03 p1),(3,.iM cS r2),(4,.i6 z7),(5,.iM q0n x9.Feats),(6,.i6 z16)]∧σ=⟨[],0⟩) (fun tm σ=>q5f z7 (q0p p1 n r2 m1)=some r∧tm=fr 58 [(0,.iM q03 p1),(3,.iM cS r2),(4,.i6 z7)]∧σ=⟨[],0⟩) n ⟨0,hF,rfl,rfl⟩ ?_ ?_
 rintro _ _ ⟨hF,rfl,rfl⟩
 unfold q5f at hF
 refine go ?_
 exact lC ⟨_,hF,rfl,rfl⟩
 rintro (_|m2) _ _ ⟨z16,hF,rfl,rfl⟩
 cases hF
 unfold q16 at hF
 refine gF hF (fun h17 hF=>?_) (fun h17 hF=>?_)
 refine go ?_
 refine WPU.block ?_
 obtain ⟨x18,h19,hF⟩:=q00 hF
 obtain ⟨r20,h21,hF⟩:=q00 hF
 refine go ?_
 refine RS.ix h19 ?_
 refine go ?_
 refine RS.cl rfl (pC (qn6 n x18.Feat r20 h21) _) fn145 ?_
 refine gF hF (fun h22 hF=>?_) (fun h22 hF=>?_)
 exact gx hF
 refine go ?_
 refine gL (fun m tm σ=>∃ z29,q2w n r2 x9 z16 (q16 n r2 z7 (q0p p1 n r2 m1) x9 m2) m z29=some r∧tm=fr 58 [(0,.iM q03 p1),(3,.iM cS r2),(4,.i6 z7),(5,.iM q0n x9.Feats),(6,.i6 z16),(7,.i6 z29)]∧σ=⟨[],0⟩) (fun tm σ=>q5g n r2 x9 z16 (q16 n r2 z7 (q0p p1 n r2 m1) x9 m2)=some r∧tm=fr 58 [(0,.iM q03 p1),(3,.iM cS r2),(4,.i6 z7),(5,.iM q0n x9.Feats),(6,.i6 z16)]∧σ=⟨[],0⟩) n ⟨0,hF,rfl,rfl⟩ ?_ ?_
 rintro _ _ ⟨hF,rfl,rfl⟩
 unfold q5g at hF
 obtain ⟨x30,h31,hF⟩:=q00 hF
 obtain ⟨r32,h33,hF⟩:=q00 hF
 refine go ?_
 refine RS.ix h31 ?_
 refine go ?_
 refine RS.cl rfl (pC (q4g n r2 x30.Value r32 h33) _) fn127 ?_
 refine gF hF (fun h34 hF=>?_) (fun h34 hF=>?_)
 exact gx hF
 refine go ?_
 exact lC ⟨_,hF,rfl,rfl⟩
 rintro (_|m3) _ _ ⟨z29,hF,rfl,rfl⟩
 cases hF
 unfold q2w at hF
 refine gF hF (fun h35 hF=>?_) (fun h35 hF=>?_)
 refine go ?_
 refine WPU.block ?_
 obtain ⟨x36,h37,hF⟩:=q00 hF
 obtain ⟨x38,h39,hF⟩:=q00 hF
 refine go ?_
 refine dE [] ?_
 refine gd ?_
 refine RD.ix h37 ?_
 refine gd ?_
 refine RD.ix h39 ?_
 refine gd ?_
 refine RD.q (u:=.bool (q22 x36.Feat x38.Feat)) rfl (qfh rfl rfl rfl rfl) ?_
 refine RD.done ⟨by kernel_rfl,trivial,?_⟩
 refine gF hF (fun h40 hF=>?_) (fun h40 hF=>?_)
 exact gx hF
 refine go ?_
 exact lC ⟨_,hF,rfl,rfl⟩
 refine go ?_
 exact xC ⟨hF,rfl,rfl⟩
 refine go ?_
 exact xC ⟨hF,rfl,rfl⟩
 refine go ?_
 exact xC ⟨hF,rfl,rfl⟩
def qb8 (z6:Int) (rc1:(List (List UInt8))→Int→Option ((List (List UInt8)))) (l15:List (List UInt8)):Option ((List (List UInt8))) :=
 rc1 l15 (IntKind.i64.wrap (z6+1))
def q5v (p1:List q01) (n:Nat) (z6:Int) (rc1:(List (List UInt8))→Int→Option ((List (List UInt8)))):Nat→(List (List UInt8))→Int→Option ((List (List UInt8)))
 | 0,_,_=>none
 | m2+1,l13,z14 =>
  bindO (idxO p1 z6) fun x16 =>
  cond (decide (z14<(x16.Feats.length:Int)))
   (bindO (idxO p1 z6) fun x19 =>
   bindO (idxO x19.Feats z14) fun x21 =>
   bindO (q9d n l13 x21.Feat) fun r23 =>
   (q5v p1 n z6 rc1 m2) r23 (IntKind.i64.wrap (z14+1)))
   (qb8 z6 rc1 l13)
def qb7  (l7:List (List UInt8)):Option ((List (List UInt8))) :=
 some l7
def q37 (p1:List q01) (n:Nat):Nat→(List (List UInt8))→Int→Option ((List (List UInt8)))
 | 0,_,_=>none
 | m1+1,l5,z6 =>
  cond (decide (z6<(p1.length:Int)))
   (q5v p1 n z6 (q37 p1 n m1) n l5 0)
   (qb7 l5)
def q8w (n:Nat) (p1:List q01):Option ((List (List UInt8))) :=
 q37 p1 n n [] 0
theorem qfa (n:Nat) (p1:List q01) (r:(List (List UInt8))) (hF:q8w n p1=some r):EvP Tryz.prog 90 [.isl false (List.map q03 p1)] (.isl false (List.map cS r)):=by
 unfold q8w at hF
 refine bg1 34 fn90 ?_
 refine gr ?_
 refine gr ?_
 refine gr ?_
 refine WPU.ghost (tm':=fr 34 [(0,.iM q03 p1),(3,.iM cS []),(4,.i6 0)]) (Gh.trans (Gh.sub (l':=[(0,.iM q03 p1),(3,.nils),(4,.i6 0)]) ⟨rfl,rfl,rfl,trivial⟩) (Gh.wkS (l':=[(0,.iM q03 p1),(3,.iM cS []),(4,.i6 0)]) (.cons (.refl _) (.cons (.nil false) (.cons (.refl _) .nil))))) NZ ?_
 refine gL (fun m tm σ=>∃ l5 z6,q37 p1 n m l5 z6=some r∧tm=fr 34 [(0,.iM q03 p1),(3,.iM cS l5),(4,.i6 z6)]∧σ=⟨[],0⟩) (fun tm σ=>∃ l7,qb7 l7=some r∧tm=fr 34 [(3,.iM cS l7)]∧σ=⟨[],0⟩) n ⟨[],0,hF,rfl,rfl⟩ ?_ ?_
 rintro _ _ ⟨l7,hF,rfl,rfl⟩
 unfold qb7 at hF
 exact gx hF
 rintro (_|m1) _ _ ⟨l5,z6,hF,rfl,rfl⟩
 cases hF
 unfold q37 at hF
 refine gF hF (fun h8 hF=>?_) (fun h8 hF=>?_)
 refine go ?_
 refine WPU.block ?_
 refine go ?_
 refine gL (fun m tm σ=>∃ l13 z14,q5v p1 n z6 (q37 p1 n m1) m l13 z14=some r∧tm=fr 34 [(0,.iM q03 p1),(3,.iM cS l13),(4,.i6 z6),(5,.i6 z14)]∧σ=⟨[],0⟩) (fun tm σ=>∃ l15,qb8 z6 (q37 p1 n m1) l15=some r∧tm=fr 34 [(0,.iM q03 p1),(3,.iM cS l15),(4,.i6 z6)]∧σ=⟨[],0⟩) n ⟨l5,0,hF,rfl,rfl⟩ ?_ ?_
 rintro _ _ ⟨l15,hF,rfl,rfl⟩
 unfold qb8 at hF
 refine go ?_
 exact lC ⟨l15,(IntKind.i64.wrap (z6+1)),hF,rfl,rfl⟩
 rintro (_|m2) _ _ ⟨l13,z14,hF,rfl,rfl⟩
 cases hF
 unfold q5v at hF
 obtain ⟨x16,h17,hF⟩:=q00 hF
 refine go ?_
 refine RS.ix h17 ?_
 refine gF hF (fun h18 hF=>?_) (fun h18 hF=>?_)
 refine go ?_
 refine WPU.block ?_
 obtain ⟨x19,h20,hF⟩:=q00 hF
 obtain ⟨x21,h22,hF⟩:=q00 hF
 obtain ⟨r23,h24,hF⟩:=q00 hF
 refine go ?_
 refine RS.ix h20 ?_
 refine go ?_
 refine RS.ix h22 ?_
 refine go ?_
 refine RS.cl rfl (pC (qag n l13 x21.Feat r23 h24) _) fn117 ?_
 refine go ?_
 exact lC ⟨r23,(IntKind.i64.wrap (z14+1)),hF,rfl,rfl⟩
 refine go ?_
 exact xC ⟨l13,hF,rfl,rfl⟩
 refine go ?_
 exact xC ⟨l5,hF,rfl,rfl⟩
def q9p   : Option (Int) :=
 some (-1)
def q4y (p1:List q0l) (p2:List UInt8):Nat→Int→Option (Int)
 | 0,_=>none
 | m1+1,z6 =>
  cond (decide (z6<(p1.length:Int)))
   (bindO (idxO p1 z6) fun x8 =>
   cond (q22 x8.Name p2)
    (some z6)
    ((q4y p1 p2 m1) (IntKind.i64.wrap (z6+1))))
   (q9p)
def q94 (n:Nat) (p1:List q0l) (p2:List UInt8):Option (Int) :=
 q4y p1 p2 n 0
theorem qdz (n:Nat) (p1:List q0l) (p2:List UInt8) (r:Int) (hF:q94 n p1 p2=some r):EvP Tryz.prog 101 [.isl false (List.map q0t p1),.str p2] (.int .i64 r):=by
 unfold q94 at hF
 refine bg2 20 fn101 ?_
 refine go ?_
 refine gL (fun m tm σ=>∃ z6,q4y p1 p2 m z6=some r∧tm=fr 20 [(0,.iM q0t p1),(1,.str p2),(5,.i6 z6)]∧σ=⟨[],0⟩) (fun tm σ=>q9p=some r∧tm=fr 20 []∧σ=⟨[],0⟩) n ⟨0,hF,rfl,rfl⟩ ?_ ?_
 rintro _ _ ⟨hF,rfl,rfl⟩
 unfold q9p at hF
 exact gx hF
 rintro (_|m1) _ _ ⟨z6,hF,rfl,rfl⟩
 cases hF
 unfold q4y at hF
 refine gF hF (fun h7 hF=>?_) (fun h7 hF=>?_)
 refine go ?_
 refine WPU.block ?_
 obtain ⟨x8,h9,hF⟩:=q00 hF
 refine go ?_
 refine RS.ix h9 ?_
 refine go ?_
 refine RS.q (u:=.bool (q22 x8.Name p2)) rfl (qfh rfl rfl rfl rfl) ?_
 refine gF hF (fun h10 hF=>?_) (fun h10 hF=>?_)
 exact gx hF
 refine go ?_
 exact lC ⟨_,hF,rfl,rfl⟩
 refine go ?_
 exact xC ⟨hF,rfl,rfl⟩
def q4s (n:Nat) (p1:List q0l) (p2:Int) (p3:Int):Option (Bool) :=
 bindO (idxO p1 p3) fun x4 =>
 bindO (idxO p1 p2) fun x6 =>
 bindO (q7c n x4.Code x6.Code) fun r8 =>
 some r8
theorem q8o (n:Nat) (p1:List q0l) (p2:Int) (p3:Int) (r:Bool) (hF:q4s n p1 p2 p3=some r):EvP Tryz.prog 99 [.isl false (List.map q0t p1),.int .i64 p2,.int .i64 p3] (.bool r):=by
 unfold q4s at hF
 refine bg3 18 fn99 ?_
 obtain ⟨x4,h5,hF⟩:=q00 hF
 obtain ⟨x6,h7,hF⟩:=q00 hF
 obtain ⟨r8,h9,hF⟩:=q00 hF
 refine go ?_
 refine dE [] ?_
 refine gd ?_
 refine RD.ix h5 ?_
 refine gd ?_
 refine RD.ix h7 ?_
 refine gd ?_
 refine RD.fl rfl (pC (qdy n x4.Code x6.Code r8 h9)) fn134 ?_
 refine gd ?_
 refine RD.done ⟨by kernel_rfl,trivial,?_⟩
 exact gx hF
def q75  (b17:Bool) (l18:List Int):Option ((List Int)×Bool) :=
 some (l18,b17)
def q2j (p1:List q01) (p2:List q0l) (p3:Int) (p4:List UInt8) (n:Nat):Nat→Bool→(List Int)→Int→Option ((List Int)×Bool)
 | 0,_,_,_=>none
 | m1+1,b14,l15,z16 =>
  cond (decide (z16<(p1.length:Int)))
   (bindO (idxO p1 z16) fun x20 =>
   bindO (qd9 n x20 p4) fun r22 =>
   bindO (cond (!r22.2)
    (some true)
    (bindO (idxO p1 z16) fun x25 =>
    bindO (q94 n p2 x25.Name) fun r27 =>
    bindO (q4s n p2 r27 p3) fun r29 =>
    some (!r29))) fun b31 =>
   cond b31
    ((q2j p1 p2 p3 p4 n m1) b14 l15 (IntKind.i64.wrap (z16+1)))
    (bindO (q94 n p2 r22.1) fun r34 =>
    bindO (idxO p2 r34) fun x36 =>
    bindO (qd1 n l15 x36.Code) fun r38 =>
    (q2j p1 p2 p3 p4 n m1) true r38 (IntKind.i64.wrap (z16+1))))
   (q75 b14 l15)
def q69 (n:Nat) (p1:List q01) (p2:List q0l) (p3:Int) (p4:List UInt8):Option ((List Int)×Bool) :=
 bindO (idxO p2 0) fun x5 =>
 q2j p1 p2 p3 p4 n n false x5.Code 0
theorem qeg (n:Nat) (p1:List q01) (p2:List q0l) (p3:Int) (p4:List UInt8) (r:(List Int)×Bool) (hF:q69 n p1 p2 p3 p4=some r):EvP Tryz.prog 91 [.isl false (List.map q03 p1),.isl false (List.map q0t p2),.int .i64 p3,.str p4] (.tup [.isl false (List.map (cI .u64) r.1),.bool r.2]):=by
 unfold q69 at hF
 refine bg4 60 fn91 ?_
 obtain ⟨x5,h6,hF⟩:=q00 hF
 refine go ?_
 refine RS.ix h6 ?_
 refine go ?_
 refine gL (fun m tm σ=>∃ b14 l15 z16,q2j p1 p2 p3 p4 n m b14 l15 z16=some r∧tm=fr 60 [(0,.iM q03 p1),(1,.iM q0t p2),(2,.i6 p3),(3,.str p4),(10,.bool b14),(11,.iM (cI .u64) l15),(12,.i6 z16)]∧σ=⟨[],0⟩) (fun tm σ=>∃ b17 l18,q75 b17 l18=some r∧tm=fr 60 [(10,.bool b17),(11,.iM (cI .u64) l18)]∧σ=⟨[],0⟩) n ⟨false,x5.Code,0,hF,rfl,rfl⟩ ?_ ?_
 rintro _ _ ⟨b17,l18,hF,rfl,rfl⟩
 unfold q75 at hF
 refine go ?_
 obtain rfl:=sI hF
 exact rt2 rfl rfl rfl rfl rfl
 rintro (_|m1) _ _ ⟨b14,l15,z16,hF,rfl,rfl⟩
 cases hF
 unfold q2j at hF
 refine gF hF (fun h19 hF=>?_) (fun h19 hF=>?_)
 refine go ?_
 refine WPU.block ?_
 obtain ⟨x20,h21,hF⟩:=q00 hF
 obtain ⟨r22,h23,hF⟩:=q00 hF
 refine go ?_
 refine RS.ix h21 ?_
 refine go ?_
 refine RS.cl rfl (pC (qjg n x20 p4 r22 h23) _) fn118 ?_
 obtain ⟨b31,h32,hF⟩:=q00 hF
 refine gn ?_
 refine z73 (fun tm σ=>tm=fr 60 [(0,.iM q03 p1),(1,.iM q0t p2),(2,.i6 p3),(3,.str p4),(10,.bool b14),(11,.iM (cI .u64) l15),(12,.i6 z16),(13,.str r22.1),(48,.bool b31)]∧σ=⟨[],0⟩) ?_ ?_
 rintro _ _ ⟨rfl,rfl⟩
 refine gF hF (fun h33 hF=>?_) (fun h33 hF=>?_)
 refine go ?_
 exact lC ⟨b14,l15,(IntKind.i64.wrap (z16+1)),hF,rfl,rfl⟩
 obtain ⟨r34,h35,hF⟩:=q00 hF
 obtain ⟨x36,h37,hF⟩:=q00 hF
 obtain ⟨r38,h39,hF⟩:=q00 hF
 refine go ?_
 refine RS.cl rfl (pC (qdz n p2 r22.1 r34 h35) _) fn101 ?_
 refine RS.ix h37 ?_
 refine go ?_
 refine RS.cl rfl (pC (qn7 n l15 x36.Code r38 h39) _) fn119 ?_
 refine go ?_
 exact lC ⟨true,r38,(IntKind.i64.wrap (z16+1)),hF,rfl,rfl⟩
 refine go ?_
 rcases gB h32 with ⟨h24,h32⟩ | ⟨h24,h32⟩
 exact gy h32
 obtain ⟨x25,h26,h32⟩:=q00 h32
 obtain ⟨r27,h28,h32⟩:=q00 h32
 obtain ⟨r29,h30,h32⟩:=q00 h32
 obtain rfl:=sI h32
 refine go ?_
 refine RS.ix h26 ?_
 refine go ?_
 refine RS.cl rfl (pC (qdz n p2 x25.Name r27 h28) _) fn101 ?_
 refine go ?_
 refine RS.cl rfl (pC (q8o n p2 r27 p3 r29 h30) _) fn99 ?_
 refine go ?_
 exact xC ⟨rfl,rfl⟩
 refine go ?_
 exact xC ⟨b14,l15,hF,rfl,rfl⟩
def qb6 (z20:Int) (rc2:Int→Option (Int))  : Option (Int) :=
 rc2 (IntKind.i64.wrap (z20+1))
def q5u (p1:List q01) (n:Nat) (r2:(List q0l)×Int) (r5:(List (List UInt8))) (z20:Int) (rc2:Int→Option (Int)):Nat→Int→Option (Int)
 | 0,_=>none
 | m3+1,z27 =>
  cond (decide (z27<(r5.length:Int)))
   (bindO (idxO r5 z27) fun x29 =>
   bindO (q69 n p1 r2.1 z20 x29) fun r31 =>
   bindO (cond r31.2
    (some ((r31.1.length:Int) == 0))
    (some false)) fun b34 =>
   cond b34
    (some 11)
    ((q5u p1 n r2 r5 z20 rc2 m3) (IntKind.i64.wrap (z27+1))))
   (qb6 z20 rc2)
def qb5   : Option (Int) :=
 some 0
def q36 (p1:List q01) (n:Nat) (r2:(List q0l)×Int) (r5:(List (List UInt8))):Nat→Int→Option (Int)
 | 0,_=>none
 | m2+1,z20 =>
  cond (decide (z20<(r2.1.length:Int)))
   (q5u p1 n r2 r5 z20 (q36 p1 n r2 r5 m2) n 0)
   (qb5)
def qb4 (p1:List q01) (n:Nat) (r2:(List q0l)×Int) (r5:(List (List UInt8)))  : Option (Int) :=
 q36 p1 n r2 r5 n 0
def q5t (p1:List q01) (n:Nat) (r2:(List q0l)×Int) (r5:(List (List UInt8))):Nat→Int→Option (Int)
 | 0,_=>none
 | m1+1,z15 =>
  cond (decide (z15<(r5.length:Int)))
   (bindO (idxO r5 z15) fun x38 =>
   bindO (qd8 n p1 x38) fun r40 =>
   cond (!r40.2)
    (some 10)
    ((q5t p1 n r2 r5 m1) (IntKind.i64.wrap (z15+1))))
   (qb4 p1 n r2 r5)
def q7j (n:Nat) (p1:List q01):Option (Int) :=
 bindO (q6i n p1) fun r2 =>
 cond (r2.2 != 0)
  (some r2.2)
  (bindO (q8w n p1) fun r5 =>
  cond (decide ((r5.length:Int) > 64))
   (some 7)
   (bindO (q5d n p1) fun r8 =>
   cond (r8 != 0)
    (some r8)
    (q5t p1 n r2 r5 n 0)))
theorem qje (n:Nat) (p1:List q01) (r:Int) (hF:q7j n p1=some r):EvP Tryz.prog 89 [.isl false (List.map q03 p1)] (.int .i64 r):=by
 unfold q7j at hF
 refine bg1 78 fn89 ?_
 obtain ⟨r2,h3,hF⟩:=q00 hF
 refine go ?_
 refine RS.cl rfl (pC (qch n p1 r2 h3) _) fn60 ?_
 refine gF hF (fun h4 hF=>?_) (fun h4 hF=>?_)
 exact gx hF
 obtain ⟨r5,h6,hF⟩:=q00 hF
 refine go ?_
 refine RS.cl rfl (pC (qfa n p1 r5 h6) _) fn90 ?_
 refine gF hF (fun h7 hF=>?_) (fun h7 hF=>?_)
 exact gx hF
 obtain ⟨r8,h9,hF⟩:=q00 hF
 refine go ?_
 refine RS.cl rfl (pC (qh8 n p1 r8 h9) _) fn116 ?_
 refine gF hF (fun h10 hF=>?_) (fun h10 hF=>?_)
 exact gx hF
 refine go ?_
 refine gL (fun m tm σ=>∃ z15,q5t p1 n r2 r5 m z15=some r∧tm=fr 78 [(0,.iM q03 p1),(3,.iM q0t r2.1),(5,.iM cS r5),(7,.i6 z15)]∧σ=⟨[],0⟩) (fun tm σ=>qb4 p1 n r2 r5=some r∧tm=fr 78 [(0,.iM q03 p1),(3,.iM q0t r2.1),(5,.iM cS r5)]∧σ=⟨[],0⟩) n ⟨0,hF,rfl,rfl⟩ ?_ ?_
 rintro _ _ ⟨hF,rfl,rfl⟩
 unfold qb4 at hF
 refine go ?_
 refine gL (fun m tm σ=>∃ z20,q36 p1 n r2 r5 m z20=some r∧tm=fr 78 [(0,.iM q03 p1),(3,.iM q0t r2.1),(5,.iM cS r5),(10,.i6 z20)]∧σ=⟨[],0⟩) (fun tm σ=>qb5=some r∧tm=fr 78 []∧σ=⟨[],0⟩) n ⟨0,hF,rfl,rfl⟩ ?_ ?_
 rintro _ _ ⟨hF,rfl,rfl⟩
 unfold qb5 at hF
 exact gx hF
 rintro (_|m2) _ _ ⟨z20,hF,rfl,rfl⟩
 cases hF
 unfold q36 at hF
 refine gF hF (fun h21 hF=>?_) (fun h21 hF=>?_)
 refine go ?_
 refine WPU.block ?_
 refine go ?_
 refine gL (fun m tm σ=>∃ z27,q5u p1 n r2 r5 z20 (q36 p1 n r2 r5 m2) m z27=some r∧tm=fr 78 [(0,.iM q03 p1),(3,.iM q0t r2.1),(5,.iM cS r5),(10,.i6 z20),(11,.i6 z27)]∧σ=⟨[],0⟩) (fun tm σ=>qb6 z20 (q36 p1 n r2 r5 m2)=some r∧tm=fr 78 [(0,.iM q03 p1),(3,.iM q0t r2.1),(5,.iM cS r5),(10,.i6 z20)]∧σ=⟨[],0⟩) n ⟨0,hF,rfl,rfl⟩ ?_ ?_
 rintro _ _ ⟨hF,rfl,rfl⟩
 unfold qb6 at hF
 refine go ?_
 exact lC ⟨_,hF,rfl,rfl⟩
 rintro (_|m3) _ _ ⟨z27,hF,rfl,rfl⟩
 cases hF
 unfold q5u at hF
 refine gF hF (fun h28 hF=>?_) (fun h28 hF=>?_)
 refine go ?_
 refine WPU.block ?_
 obtain ⟨x29,h30,hF⟩:=q00 hF
 obtain ⟨r31,h32,hF⟩:=q00 hF
 refine go ?_
 refine RS.ix h30 ?_
 refine go ?_
 refine RS.cl rfl (pC (qeg n p1 r2.1 z20 x29 r31 h32) _) fn91 ?_
 obtain ⟨b34,h35,hF⟩:=q00 hF
 refine gn ?_
 refine z73 (fun tm σ=>tm=fr 78 [(0,.iM q03 p1),(3,.iM q0t r2.1),(5,.iM cS r5),(10,.i6 z20),(11,.i6 z27),(77,.bool b34)]∧σ=⟨[],0⟩) ?_ ?_
 rintro _ _ ⟨rfl,rfl⟩
 refine gF hF (fun h36 hF=>?_) (fun h36 hF=>?_)
 exact gx hF
 refine go ?_
 exact lC ⟨_,hF,rfl,rfl⟩
 refine go ?_
 rcases gB h35 with ⟨h33,h35⟩ | ⟨h33,h35⟩
 exact gy h35
 exact gy h35
 refine go ?_
 exact xC ⟨hF,rfl,rfl⟩
 refine go ?_
 exact xC ⟨hF,rfl,rfl⟩
 rintro (_|m1) _ _ ⟨z15,hF,rfl,rfl⟩
 cases hF
 unfold q5t at hF
 refine gF hF (fun h37 hF=>?_) (fun h37 hF=>?_)
 refine go ?_
 refine WPU.block ?_
 obtain ⟨x38,h39,hF⟩:=q00 hF
 obtain ⟨r40,h41,hF⟩:=q00 hF
 refine go ?_
 refine RS.ix h39 ?_
 refine go ?_
 refine RS.cl rfl (pC (qjf n p1 x38 r40 h41) _) fn100 ?_
 refine gF hF (fun h42 hF=>?_) (fun h42 hF=>?_)
 exact gx hF
 refine go ?_
 exact lC ⟨_,hF,rfl,rfl⟩
 refine go ?_
 exact xC ⟨hF,rfl,rfl⟩
def qci   : Option (Int) :=
 some (-1)
def q6j (p1:List q0l) (n:Nat) (r3:(List Int)):Nat→Int→Option (Int)
 | 0,_=>none
 | m1+1,z8 =>
  cond (decide (z8<(p1.length:Int)))
   (bindO (idxO p1 z8) fun x10 =>
   bindO (q90 n x10.Code r3) fun r12 =>
   cond r12
    (some z8)
    ((q6j p1 n r3 m1) (IntKind.i64.wrap (z8+1))))
   (qci)
def qed (n:Nat) (p1:List q0l) (p2:List Int):Option (Int) :=
 bindO (q4p n p2) fun r3 =>
 q6j p1 n r3 n 0
theorem qsb (n:Nat) (p1:List q0l) (p2:List Int) (r:Int) (hF:qed n p1 p2=some r):EvP Tryz.prog 92 [.isl false (List.map q0t p1),.isl false (List.map (cI .u64) p2)] (.int .i64 r):=by
 unfold qed at hF
 refine bg2 23 fn92 ?_
 obtain ⟨r3,h4,hF⟩:=q00 hF
 refine go ?_
 refine RS.cl rfl (pC (qao n p2 r3 h4) _) fn120 ?_
 refine go ?_
 refine gL (fun m tm σ=>∃ z8,q6j p1 n r3 m z8=some r∧tm=fr 23 [(0,.iM q0t p1),(5,.iM (cI .u64) r3),(6,.i6 z8)]∧σ=⟨[],0⟩) (fun tm σ=>qci=some r∧tm=fr 23 []∧σ=⟨[],0⟩) n ⟨0,hF,rfl,rfl⟩ ?_ ?_
 rintro _ _ ⟨hF,rfl,rfl⟩
 unfold qci at hF
 exact gx hF
 rintro (_|m1) _ _ ⟨z8,hF,rfl,rfl⟩
 cases hF
 unfold q6j at hF
 refine gF hF (fun h9 hF=>?_) (fun h9 hF=>?_)
 refine go ?_
 refine WPU.block ?_
 obtain ⟨x10,h11,hF⟩:=q00 hF
 obtain ⟨r12,h13,hF⟩:=q00 hF
 refine go ?_
 refine RS.ix h11 ?_
 refine go ?_
 refine RS.cl rfl (pC (ql5 n x10.Code r3 r12 h13) _) fn121 ?_
 refine gF hF (fun h14 hF=>?_) (fun h14 hF=>?_)
 exact gx hF
 refine go ?_
 exact lC ⟨_,hF,rfl,rfl⟩
 refine go ?_
 exact xC ⟨hF,rfl,rfl⟩
def q7k (z30:Int) (rc2:Int→(List q2h)→Option ((List (List q2h))×Int)) (l42:List q2h):Option ((List (List q2h))×Int) :=
 rc2 (IntKind.i64.wrap (z30+1)) l42
def q9o (z15:Int) (l16:List (List q2h)) (rc1:Int→(List (List q2h))→Option ((List (List q2h))×Int)) (l33:List q2h):Option ((List (List q2h))×Int) :=
 needO ((l16.length+1)*24≤140737488355328∧l16.length+1≤140737488355328) (
 rc1 (IntKind.i64.wrap (z15+1)) (l16++[l33]))
def q39 (p1:List q01) (n:Nat) (r5:(List q0l)×Int) (r7:(List (List UInt8))) (z15:Int) (l16:List (List q2h)) (rc1:Int→(List (List q2h))→Option ((List (List q2h))×Int)):Nat→Int→(List q2h)→Option ((List (List q2h))×Int)
 | 0,_,_=>none
 | m2+1,z30,l31 =>
  cond (decide (z30<(r7.length:Int)))
   (bindO (idxO r7 z30) fun x37 =>
   bindO (q69 n p1 r5.1 z15 x37) fun r39 =>
   cond r39.2
    (bindO (qed n r5.1 r39.1) fun r44 =>
    needO ((l31.length+1)*16≤140737488355328∧l31.length+1≤140737488355328) (
    q7k z30 (q39 p1 n r5 r7 z15 l16 rc1 m2) (l31++[(q2h.mk z30 r44)])))
    (q7k z30 (q39 p1 n r5 r7 z15 l16 rc1 m2) l31))
   (q9o z15 l16 rc1 l31)
def q9n  (l18:List (List q2h)):Option ((List (List q2h))×Int) :=
 some (l18,0)
def q27 (p1:List q01) (n:Nat) (r5:(List q0l)×Int) (r7:(List (List UInt8))):Nat→Int→(List (List q2h))→Option ((List (List q2h))×Int)
 | 0,_,_=>none
 | m1+1,z15,l16 =>
  cond (decide (z15<(r5.1.length:Int)))
   (q39 p1 n r5 r7 z15 l16 (q27 p1 n r5 r7 m1) n 0 ([]:List q2h))
   (q9n l16)
def q93 (n:Nat) (p1:List q01):Option ((List (List q2h))×Int) :=
 bindO (q7j n p1) fun r2 =>
 cond (r2 != 0)
  (some ([],r2))
  (bindO (q6i n p1) fun r5 =>
  bindO (q8w n p1) fun r7 =>
  q27 p1 n r5 r7 n 0 ([]:List (List q2h)))
theorem qo9 (n:Nat) (p1:List q01) (r:(List (List q2h))×Int) (hF:q93 n p1=some r):EvP Tryz.prog 59 [.isl false (List.map q03 p1)] (.tup [.isl false (List.map (cL q3e) r.1),.int .i64 r.2]):=by
 unfold q93 at hF
 refine bg1 63 fn59 ?_
 obtain ⟨r2,h3,hF⟩:=q00 hF
 refine go ?_
 refine RS.cl rfl (pC (qje n p1 r2 h3) _) fn89 ?_
 refine gF hF (fun h4 hF=>?_) (fun h4 hF=>?_)
 refine go ?_
 obtain rfl:=sI hF
 exact rT (us:=[.nils,.i6 r2]) (u:=.tup [.isl false [],.i6 r2]) (q2y rfl (q2y rfl (q24))) wR
 obtain ⟨r5,h6,hF⟩:=q00 hF
 refine go ?_
 refine RS.cl rfl (pC (qch n p1 r5 h6) _) fn60 ?_
 obtain ⟨r7,h8,hF⟩:=q00 hF
 refine go ?_
 refine RS.cl rfl (pC (qfa n p1 r7 h8) _) fn90 ?_
 refine gr ?_
 refine gr ?_
 refine gV 8 130 1 1 ?_
 refine gL (fun m tm σ=>∃ z15 l16 t17,q27 p1 n r5 r7 m z15 l16=some r∧tm=fr 63 [(0,.iM q03 p1),(5,.iM q0t r5.1),(7,.iM cS r7),(8,.vl 0 t17 0 l16.length),(9,.i6 z15)]∧σ=⟨[(0,.bv (cL q3e) l16 130 1 t17)],1⟩) (fun tm σ=>∃ l18 t19,q9n l18=some r∧tm=fr 63 [(8,.vl 0 t19 0 l18.length)]∧σ=⟨[(0,.bv (cL q3e) l18 130 1 t19)],1⟩) n ⟨0,([]:List (List q2h)),0,hF,rfl,rfl⟩ ?_ ?_
 rintro _ _ ⟨l18,t19,hF,rfl,rfl⟩
 unfold q9n at hF
 refine go ?_
 obtain rfl:=sI hF
 exact rT (us:=[.vl 0 t19 0 l18.length,.i6 0]) (u:=.tup [.iM (cL q3e) l18,.i6 0]) (q2y rfl (q2y rfl (q24))) (fR 0 1)
 rintro (_|m1) _ _ ⟨z15,l16,t17,hF,rfl,rfl⟩
 cases hF
 unfold q27 at hF
 refine gF hF (fun h20 hF=>?_) (fun h20 hF=>?_)
 refine go ?_
 refine WPU.block ?_
 refine gr ?_
 refine gr ?_
 refine gV 10 176 2 2 ?_
 refine gL (fun m tm σ=>∃ z30 l31 t32,q39 p1 n r5 r7 z15 l16 (q27 p1 n r5 r7 m1) m z30 l31=some r∧tm=fr 63 [(0,.iM q03 p1),(5,.iM q0t r5.1),(7,.iM cS r7),(8,.vl 0 t17 0 l16.length),(9,.i6 z15),(10,.vl 1 t32 0 l31.length),(11,.i6 z30)]∧σ=⟨[(1,.bv q3e l31 176 2 t32),(0,.bv (cL q3e) l16 130 1 t17)],2⟩) (fun tm σ=>∃ l33 t34,q9o z15 l16 (q27 p1 n r5 r7 m1) l33=some r∧tm=fr 63 [(0,.iM q03 p1),(5,.iM q0t r5.1),(7,.iM cS r7),(8,.vl 0 t17 0 l16.length),(9,.i6 z15),(10,.vl 1 t34 0 l33.length)]∧σ=⟨[(1,.bv q3e l33 176 2 t34),(0,.bv (cL q3e) l16 130 1 t17)],2⟩) n ⟨0,([]:List q2h),0,hF,rfl,rfl⟩ ?_ ?_
 rintro _ _ ⟨l33,t34,hF,rfl,rfl⟩
 unfold q9o at hF
 refine gn ?_
 refine WPU.ghost (tm':=fr 63 [(0,.iM q03 p1),(5,.iM q0t r5.1),(7,.iM cS r7),(8,.vl 0 t17 0 l16.length),(9,.i6 z15),(10,.iM q3e l33)]) (σ':=⟨[(0,.bv (cL q3e) l16 130 1 t17)],2⟩) (Gh.trans (Gh.sub (l':=[(0,.iM q03 p1),(5,.iM q0t r5.1),(7,.iM cS r7),(8,.vl 0 t17 0 l16.length),(9,.i6 z15),(10,.vl 1 t34 0 l33.length)]) ⟨rfl,rfl,rfl,rfl,rfl,rfl,trivial⟩) (z7g 1 2)) NZ ?_
 obtain ⟨h35,hF⟩:=q04 hF
 refine go ?_
 refine RS.g ?_
 refine RS.g ?_
 refine go ?_
 exact lC ⟨_,(l16++[l33]),(t17+1),hF,rfl,rfl⟩
 rintro (_|m2) _ _ ⟨z30,l31,t32,hF,rfl,rfl⟩
 cases hF
 unfold q39 at hF
 refine gF hF (fun h36 hF=>?_) (fun h36 hF=>?_)
 refine go ?_
 refine WPU.block ?_
 obtain ⟨x37,h38,hF⟩:=q00 hF
 obtain ⟨r39,h40,hF⟩:=q00 hF
 refine go ?_
 refine RS.ix h38 ?_
 refine go ?_
 refine RS.cl rfl (pC (qeg n p1 r5.1 z15 x37 r39 h40) _) fn91 ?_
 refine gr ?_
 refine z73 (fun tm σ=>∃ l42 t43,q7k z30 (q39 p1 n r5 r7 z15 l16 (q27 p1 n r5 r7 m1) m2) l42=some r∧tm=fr 63 [(0,.iM q03 p1),(5,.iM q0t r5.1),(7,.iM cS r7),(8,.vl 0 t17 0 l16.length),(9,.i6 z15),(10,.vl 1 t43 0 l42.length),(11,.i6 z30)]∧σ=⟨[(1,.bv q3e l42 176 2 t43),(0,.bv (cL q3e) l16 130 1 t17)],2⟩) ?_ ?_
 rintro _ _ ⟨l42,t43,hF,rfl,rfl⟩
 unfold q7k at hF
 refine go ?_
 exact lC ⟨_,l42,t43,hF,rfl,rfl⟩
 refine cF hF (fun h41 hF=>?_) (fun h41 hF=>?_)
 obtain ⟨r44,h45,hF⟩:=q00 hF
 obtain ⟨h46,hF⟩:=q04 hF
 refine go ?_
 refine RS.cl rfl (pC (qsb n r5.1 r39.1 r44 h45) _) fn92 ?_
 refine go ?_
 refine RS.g ?_
 refine RS.g ?_
 refine go ?_
 exact xC ⟨(l31++[(q2h.mk z30 r44)]),(t32+1),hF,rfl,rfl⟩
 refine go ?_
 exact xC ⟨l31,t32,hF,rfl,rfl⟩
 refine go ?_
 exact xC ⟨l31,t32,hF,rfl,rfl⟩
 refine go ?_
 exact xC ⟨l16,t17,hF,rfl,rfl⟩
def q7f (z8:Int) (rc1:Int→(List Int)→Option ((List Int))) (l31:List Int):Option ((List Int)) :=
 rc1 (IntKind.i64.wrap (z8+1)) l31
def q9j (z8:Int) (l9:List Int) (rc1:Int→(List Int)→Option ((List Int))) (b29:Bool):Option ((List Int)) :=
 cond b29
  (needO ((l9.length+1)*8≤140737488355328∧l9.length+1≤140737488355328) (
  q7f z8 rc1 (l9++[z8])))
  (q7f z8 rc1 l9)
def q3v (p1:List q0l) (p2:Int) (n:Nat) (z8:Int) (l9:List Int) (rc1:Int→(List Int)→Option ((List Int))):Nat→Bool→Int→Option ((List Int))
 | 0,_,_=>none
 | m2+1,b27,z28 =>
  cond (decide (z28<(p1.length:Int)))
   (bindO (cond b27
    (cond (z28 == p2)
     (some true)
     (cond (z28 == z8)
      (some true)
      (bindO (q4s n p1 z8 z28) fun r38 =>
      cond (!r38)
       (some true)
       (bindO (q4s n p1 z28 p2) fun r41 =>
       some (!r41)))))
    (some false)) fun b43 =>
   (q3v p1 p2 n z8 l9 rc1 m2) b43 (IntKind.i64.wrap (z28+1)))
   (q9j z8 l9 rc1 b27)
def q9i  (l11:List Int):Option ((List Int)) :=
 some l11
def q1m (p1:List q0l) (p2:Int) (n:Nat):Nat→Int→(List Int)→Option ((List Int))
 | 0,_,_=>none
 | m1+1,z8,l9 =>
  cond (decide (z8<(p1.length:Int)))
   (bindO (cond (z8 == p2)
    (some true)
    (bindO (q4s n p1 z8 p2) fun r15 =>
    some (!r15))) fun b17 =>
   cond b17
    ((q1m p1 p2 n m1) (IntKind.i64.wrap (z8+1)) l9)
    (q3v p1 p2 n z8 l9 (q1m p1 p2 n m1) n true 0))
   (q9i l9)
def qdr (n:Nat) (p1:List q0l) (p2:Int):Option ((List Int)) :=
 q1m p1 p2 n n 0 ([]:List Int)
theorem qo6 (n:Nat) (p1:List q0l) (p2:Int) (r:(List Int)) (hF:qdr n p1 p2=some r):EvP Tryz.prog 61 [.isl false (List.map q0t p1),.int .i64 p2] (.isl false (List.map (cI .i64) r)):=by
 unfold qdr at hF
 refine bg2 62 fn61 ?_
 refine gr ?_
 refine gr ?_
 refine gr ?_
 refine gV 5 3 1 1 ?_
 refine gL (fun m tm σ=>∃ z8 l9 t10,q1m p1 p2 n m z8 l9=some r∧tm=fr 62 [(0,.iM q0t p1),(1,.i6 p2),(5,.vl 0 t10 0 l9.length),(6,.i6 z8)]∧σ=⟨q7m l9 t10,1⟩) (fun tm σ=>∃ l11 t12,q9i l11=some r∧tm=fr 62 [(5,.vl 0 t12 0 l11.length)]∧σ=⟨q7m l11 t12,1⟩) n ⟨0,([]:List Int),0,hF,rfl,rfl⟩ ?_ ?_
 rintro _ _ ⟨l11,t12,hF,rfl,rfl⟩
 unfold q9i at hF
 refine go ?_
 obtain rfl:=sI hF
 exact rT (us:=[.vl 0 t12 0 l11.length]) (u:=.iM (cI .i64) l11) (q2y rfl (q24)) (fR 0 1)
 rintro (_|m1) _ _ ⟨z8,l9,t10,hF,rfl,rfl⟩
 cases hF
 unfold q1m at hF
 refine gF hF (fun h13 hF=>?_) (fun h13 hF=>?_)
 refine go ?_
 refine WPU.block ?_
 obtain ⟨b17,h18,hF⟩:=q00 hF
 refine gn ?_
 refine z73 (fun tm σ=>tm=fr 62 [(0,.iM q0t p1),(1,.i6 p2),(5,.vl 0 t10 0 l9.length),(6,.i6 z8),(24,.bool b17)]∧σ=⟨q7m l9 t10,1⟩) ?_ ?_
 rintro _ _ ⟨rfl,rfl⟩
 refine gF hF (fun h19 hF=>?_) (fun h19 hF=>?_)
 refine go ?_
 exact lC ⟨_,l9,t10,hF,rfl,rfl⟩
 refine go ?_
 refine gL (fun m tm σ=>∃ b27 z28,q3v p1 p2 n z8 l9 (q1m p1 p2 n m1) m b27 z28=some r∧tm=fr 62 [(0,.iM q0t p1),(1,.i6 p2),(5,.vl 0 t10 0 l9.length),(6,.i6 z8),(7,.bool b27),(8,.i6 z28)]∧σ=⟨q7m l9 t10,1⟩) (fun tm σ=>∃ b29,q9j z8 l9 (q1m p1 p2 n m1) b29=some r∧tm=fr 62 [(0,.iM q0t p1),(1,.i6 p2),(5,.vl 0 t10 0 l9.length),(6,.i6 z8),(7,.bool b29)]∧σ=⟨q7m l9 t10,1⟩) n ⟨true,0,hF,rfl,rfl⟩ ?_ ?_
 rintro _ _ ⟨b29,hF,rfl,rfl⟩
 unfold q9j at hF
 refine gr ?_
 refine z73 (fun tm σ=>∃ l31 t32,q7f z8 (q1m p1 p2 n m1) l31=some r∧tm=fr 62 [(0,.iM q0t p1),(1,.i6 p2),(5,.vl 0 t32 0 l31.length),(6,.i6 z8)]∧σ=⟨q7m l31 t32,1⟩) ?_ ?_
 rintro _ _ ⟨l31,t32,hF,rfl,rfl⟩
 unfold q7f at hF
 refine go ?_
 exact lC ⟨_,l31,t32,hF,rfl,rfl⟩
 refine cF hF (fun h30 hF=>?_) (fun h30 hF=>?_)
 obtain ⟨h33,hF⟩:=q04 hF
 refine go ?_
 refine RS.g ?_
 refine RS.g ?_
 refine go ?_
 exact xC ⟨(l9++[z8]),(t10+1),hF,rfl,rfl⟩
 refine go ?_
 exact xC ⟨l9,t10,hF,rfl,rfl⟩
 rintro (_|m2) _ _ ⟨b27,z28,hF,rfl,rfl⟩
 cases hF
 unfold q3v at hF
 refine gF hF (fun h34 hF=>?_) (fun h34 hF=>?_)
 refine go ?_
 refine WPU.block ?_
 obtain ⟨b43,h44,hF⟩:=q00 hF
 refine gn ?_
 refine z73 (fun tm σ=>tm=fr 62 [(0,.iM q0t p1),(1,.i6 p2),(5,.vl 0 t10 0 l9.length),(6,.i6 z8),(7,.bool b43),(8,.i6 z28)]∧σ=⟨q7m l9 t10,1⟩) ?_ ?_
 rintro _ _ ⟨rfl,rfl⟩
 refine go ?_
 exact lC ⟨b43,(IntKind.i64.wrap (z28+1)),hF,rfl,rfl⟩
 refine go ?_
 rcases gB h44 with ⟨h35,h44⟩ | ⟨h35,h44⟩
 refine go ?_
 rcases gB h44 with ⟨h36,h44⟩ | ⟨h36,h44⟩
 exact gy h44
 refine go ?_
 rcases gB h44 with ⟨h37,h44⟩ | ⟨h37,h44⟩
 exact gy h44
 obtain ⟨r38,h39,h44⟩:=q00 h44
 refine go ?_
 refine RS.cl rfl (pC (q8o n p1 z8 z28 r38 h39) _) fn99 ?_
 refine go ?_
 rcases gB h44 with ⟨h40,h44⟩ | ⟨h40,h44⟩
 exact gy h44
 obtain ⟨r41,h42,h44⟩:=q00 h44
 obtain rfl:=sI h44
 refine go ?_
 refine RS.cl rfl (pC (q8o n p1 z28 p2 r41 h42) _) fn99 ?_
 refine go ?_
 exact xC ⟨rfl,rfl⟩
 obtain rfl:=sI h44
 refine go ?_
 repeat refine RS.no (qfo rfl rfl rfl) rfl rfl ?_
 refine go ?_
 repeat refine RS.no (qfo rfl rfl rfl) rfl rfl ?_
 refine go ?_
 repeat refine RS.no (qfo rfl rfl rfl) rfl rfl ?_
 refine go ?_
 exact xC ⟨rfl,rfl⟩
 refine go ?_
 exact xC ⟨b27,hF,rfl,rfl⟩
 refine go ?_
 rcases gB h18 with ⟨h14,h18⟩ | ⟨h14,h18⟩
 exact gy h18
 obtain ⟨r15,h16,h18⟩:=q00 h18
 obtain rfl:=sI h18
 refine go ?_
 refine RS.cl rfl (pC (q8o n p1 z8 p2 r15 h16) _) fn99 ?_
 refine go ?_
 exact xC ⟨rfl,rfl⟩
 refine go ?_
 exact xC ⟨l9,t10,hF,rfl,rfl⟩
def q7r  (l18:List q0b):Option ((List q0b)×Int) :=
 some (l18,0)
def q3k (p1:List q01) (n:Nat) (r5:(List q0l)×Int) (r7:(List (List UInt8))):Nat→Int→(List q0b)→Option ((List q0b)×Int)
 | 0,_,_=>none
 | m1+1,z15,l16 =>
  cond (decide (z15<(r7.length:Int)))
   (bindO (idxO r7 z15) fun x21 =>
   bindO (qd8 n p1 x21) fun r23 =>
   bindO (idxO r7 z15) fun x25 =>
   bindO (q94 n r5.1 r23.1) fun r27 =>
   needO ((l16.length+1)*24≤140737488355328∧l16.length+1≤140737488355328) (
   (q3k p1 n r5 r7 m1) (IntKind.i64.wrap (z15+1)) (l16++[(q0b.mk x25 r27)])))
   (q7r l16)
def q8c (n:Nat) (p1:List q01):Option ((List q0b)×Int) :=
 bindO (q7j n p1) fun r2 =>
 cond (r2 != 0)
  (some ([],r2))
  (bindO (q6i n p1) fun r5 =>
  bindO (q8w n p1) fun r7 =>
  q3k p1 n r5 r7 n 0 ([]:List q0b))
theorem qlk (n:Nat) (p1:List q01) (r:(List q0b)×Int) (hF:q8c n p1=some r):EvP Tryz.prog 62 [.isl false (List.map q03 p1)] (.tup [.isl false (List.map q0k r.1),.int .i64 r.2]):=by
 unfold q8c at hF
 refine bg1 51 fn62 ?_
 obtain ⟨r2,h3,hF⟩:=q00 hF
 refine go ?_
 refine RS.cl rfl (pC (qje n p1 r2 h3) _) fn89 ?_
 refine gF hF (fun h4 hF=>?_) (fun h4 hF=>?_)
 refine go ?_
 obtain rfl:=sI hF
 exact rT (us:=[.nils,.i6 r2]) (u:=.tup [.isl false [],.i6 r2]) (q2y rfl (q2y rfl (q24))) wR
 obtain ⟨r5,h6,hF⟩:=q00 hF
 refine go ?_
 refine RS.cl rfl (pC (qch n p1 r5 h6) _) fn60 ?_
 obtain ⟨r7,h8,hF⟩:=q00 hF
 refine go ?_
 refine RS.cl rfl (pC (qfa n p1 r7 h8) _) fn90 ?_
 refine gr ?_
 refine gr ?_
 refine gV 8 187 2 1 ?_
 refine gL (fun m tm σ=>∃ z15 l16 t17,q3k p1 n r5 r7 m z15 l16=some r∧tm=fr 51 [(0,.iM q03 p1),(5,.iM q0t r5.1),(7,.iM cS r7),(8,.vl 0 t17 0 l16.length),(9,.i6 z15)]∧σ=⟨[(0,.bv q0k l16 187 2 t17)],1⟩) (fun tm σ=>∃ l18 t19,q7r l18=some r∧tm=fr 51 [(8,.vl 0 t19 0 l18.length)]∧σ=⟨[(0,.bv q0k l18 187 2 t19)],1⟩) n ⟨0,([]:List q0b),0,hF,rfl,rfl⟩ ?_ ?_
 rintro _ _ ⟨l18,t19,hF,rfl,rfl⟩
 unfold q7r at hF
 refine go ?_
 obtain rfl:=sI hF
 exact rT (us:=[.vl 0 t19 0 l18.length,.i6 0]) (u:=.tup [.iM q0k l18,.i6 0]) (q2y rfl (q2y rfl (q24))) (fR 0 2)
 rintro (_|m1) _ _ ⟨z15,l16,t17,hF,rfl,rfl⟩
 cases hF
 unfold q3k at hF
 refine gF hF (fun h20 hF=>?_) (fun h20 hF=>?_)
 refine go ?_
 refine WPU.block ?_
 obtain ⟨x21,h22,hF⟩:=q00 hF
 obtain ⟨r23,h24,hF⟩:=q00 hF
 refine go ?_
 refine RS.ix h22 ?_
 refine go ?_
 refine RS.cl rfl (pC (qjf n p1 x21 r23 h24) _) fn100 ?_
 obtain ⟨x25,h26,hF⟩:=q00 hF
 obtain ⟨r27,h28,hF⟩:=q00 hF
 obtain ⟨h29,hF⟩:=q04 hF
 refine go ?_
 refine dE [(0,9)] ?_
 refine gd ?_
 refine RD.ix h26 ?_
 refine gd ?_
 refine RD.fl rfl (pC (qdz n r5.1 r23.1 r27 h28)) fn101 ?_
 refine gd ?_
 refine RD.g ?_
 refine RD.g ?_
 refine gd ?_
 refine RD.done ⟨by kernel_rfl,⟨q0w rfl,trivial⟩,?_⟩
 refine go ?_
 exact lC ⟨_,(l16++[(q0b.mk x25 r27)]),(t17+1),hF,rfl,rfl⟩
 refine go ?_
 exact xC ⟨l16,t17,hF,rfl,rfl⟩
def q8p (p1:List q01) (n:Nat) (l16:List q1c):Option (q09×Int) :=
 bindO (q8c n p1) fun r18 =>
 some ((q09.mk l16 r18.1),0)
def q4b (p1:List q01) (n:Nat) (r2:(List (List q2h))×Int) (r5:(List q0l)×Int):Nat→Int→(List q1c)→Option (q09×Int)
 | 0,_,_=>none
 | m1+1,z13,l14 =>
  cond (decide (z13<(r5.1.length:Int)))
   (bindO (idxO r5.1 z13) fun x21 =>
   bindO (idxO r5.1 z13) fun x23 =>
   bindO (qdr n r5.1 z13) fun r25 =>
   bindO (idxO r2.1 z13) fun x27 =>
   needO ((l14.length+1)*88≤140737488355328∧l14.length+1≤140737488355328) (
   (q4b p1 n r2 r5 m1) (IntKind.i64.wrap (z13+1)) (l14++[(q1c.mk x21.Name x23.Code r25 x27)])))
   (q8p p1 n l14)
def q4j (n:Nat) (p1:List q01):Option (q09×Int) :=
 bindO (q93 n p1) fun r2 =>
 cond (r2.2 != 0)
  (some ((q09.mk [] []),r2.2))
  (bindO (q6i n p1) fun r5 =>
  q4b p1 n r2 r5 n 0 ([]:List q1c))
theorem qda (n:Nat) (p1:List q01) (r:q09×Int) (hF:q4j n p1=some r):EvP Tryz.prog 31 [.isl false (List.map q03 p1)] (.tup [.agg (q0m r.1),.int .i64 r.2]):=by
 unfold q4j at hF
 refine bg1 63 fn31 ?_
 obtain ⟨r2,h3,hF⟩:=q00 hF
 refine go ?_
 refine RS.cl rfl (pC (qo9 n p1 r2 h3) _) fn59 ?_
 refine gF hF (fun h4 hF=>?_) (fun h4 hF=>?_)
 refine go ?_
 obtain rfl:=sI hF
 exact rT (us:=[.agg [.nils,.nils],.i6 r2.2]) (u:=.tup [.agg [.isl false [],.isl false []],.i6 r2.2]) (qe0 (q86 un27.h rfl (q0g if27.h) rfl rfl rfl) (q2y rfl (q24))) wR
 obtain ⟨r5,h6,hF⟩:=q00 hF
 refine go ?_
 refine RS.cl rfl (pC (qch n p1 r5 h6) _) fn60 ?_
 refine gr ?_
 refine gr ?_
 refine WPU.ghost (tm':=fr 63 [(0,.iM q03 p1),(2,.ptr 0 0 0),(4,.iM (cL q3e) r2.1),(6,.iM q0t r5.1),(8,.ptr 1 0 0),(9,.i6 0)]) (σ':=⟨[(2,.bv q1p ([]:List q1c) 132 4 0),(1,.row [.vl 2 0 0 (([]:List q1c).length),.nils] 27),(0,.row [.nils,.nils] 27)],3⟩) (Gh.trans (z78 1 0 132 4 (by decide) NZ rfl rfl) (z75 ⟨rfl,rfl,rfl,rfl,rfl,rfl,trivial⟩ rfl)) NZ ?_
 refine gL (fun m tm σ=>∃ z13 l14 t15,q4b p1 n r2 r5 m z13 l14=some r∧tm=fr 63 [(0,.iM q03 p1),(2,.ptr 0 0 0),(4,.iM (cL q3e) r2.1),(6,.iM q0t r5.1),(8,.ptr 1 0 0),(9,.i6 z13)]∧σ=⟨[(2,.bv q1p l14 132 4 t15),(1,.row [.vl 2 t15 0 l14.length,.nils] 27),(0,.row [.nils,.nils] 27)],3⟩) (fun tm σ=>∃ l16 t17,q8p p1 n l16=some r∧tm=fr 63 [(0,.iM q03 p1),(2,.ptr 0 0 0),(8,.ptr 1 0 0)]∧σ=⟨[(2,.bv q1p l16 132 4 t17),(1,.row [.vl 2 t17 0 l16.length,.nils] 27),(0,.row [.nils,.nils] 27)],3⟩) n ⟨0,([]:List q1c),0,hF,rfl,rfl⟩ ?_ ?_
 rintro _ _ ⟨l16,t17,hF,rfl,rfl⟩
 unfold q8p at hF
 obtain ⟨r18,h19,hF⟩:=q00 hF
 refine go ?_
 refine RS.cl rfl (pC (qlk n p1 r18 h19) _) fn62 ?_
 refine go ?_
 obtain rfl:=sI hF
 exact rT (us:=[.agg [.vl 2 t17 0 l16.length,.iM q0k r18.1],.i6 0]) (u:=.tup [.agg [.iM q1p l16,.iM q0k r18.1],.i6 0]) (qe0 (q86 un27.h rfl (q0g if27.h) rfl rfl rfl) (q2y rfl (q24))) (fR 2 4)
 rintro (_|m1) _ _ ⟨z13,l14,t15,hF,rfl,rfl⟩
 cases hF
 unfold q4b at hF
 refine gF hF (fun h20 hF=>?_) (fun h20 hF=>?_)
 refine go ?_
 refine WPU.block ?_
 obtain ⟨x21,h22,hF⟩:=q00 hF
 obtain ⟨x23,h24,hF⟩:=q00 hF
 obtain ⟨r25,h26,hF⟩:=q00 hF
 obtain ⟨x27,h28,hF⟩:=q00 hF
 obtain ⟨h29,hF⟩:=q04 hF
 refine go ?_
 refine dE [(0,20),(1,20)] ?_
 refine gd ?_
 refine RD.ix h22 ?_
 refine gd ?_
 refine RD.ix h24 ?_
 refine gd ?_
 refine RD.fl rfl (pC (qo6 n r5.1 z13 r25 h26)) fn61 ?_
 refine gd ?_
 refine RD.ix h28 ?_
 refine gd ?_
 refine RD.g ?_
 refine RD.g ?_
 refine gd ?_
 refine z7f ?_
 refine RD.done ⟨by kernel_rfl,⟨q77 un27.h rfl (q0g if24.h) rfl rfl rfl,⟨q60 un24.h rfl rfl rfl rfl,trivial⟩⟩,?_⟩
 refine go ?_
 exact lC ⟨_,(l14++[(q1c.mk x21.Name x23.Code r25 x27)]),(t15+1),hF,rfl,rfl⟩
 refine go ?_
 exact xC ⟨l14,t15,hF,rfl,rfl⟩
def qhw (n:Nat)  : Option (q09) :=
 bindO (q4j n ([(q01.mk ([116,111,112]) [] ([(q1k.mk ([70]) ([116,111,112])),(q1k.mk ([71]) ([116,111,112]))])),(q01.mk ([120]) ([[116,111,112]]) []),(q01.mk ([121]) ([[116,111,112]]) [])])) fun r1 =>
 some (q09.mk r1.1.Types r1.1.Feats)
theorem qpl (n:Nat)  (r:q09) (hF:qhw n  = some r):EvP Tryz.prog 33 [] (.agg (q0m r)):=by
 unfold qhw at hF
 refine bg0 17 fn33 ?_
 obtain ⟨r1,h2,hF⟩:=q00 hF
 refine go ?_
 refine RS.q (u:=.sl 1 0 2 2) (σ':=⟨quu,2⟩) rfl (qc4 un136.h if141.h rfl rfl rfl rfl rfl rfl rfl) ?_
 refine go ?_
 refine RS.g ?_
 refine go ?_
 refine RS.g ?_
 refine go ?_
 refine RS.q (u:=.sl 4 0 3 3) (σ':=⟨(4,.row [.str ([116,111,112]),.nils,.sl 1 0 2 2,.str ([120]),.sl 2 0 1 1,.nils,.str ([121]),.sl 3 0 1 1,.nils] 138)::(3,.row [.str ([116,111,112])] 9)::(2,.row [.str ([116,111,112])] 9)::quu,5⟩) rfl (qc4 un22.h if138.h rfl rfl rfl rfl rfl rfl rfl) (z7l rfl (Gh.trans (z77 1 2) (Gh.trans (z77 2 1) (Gh.trans (z77 3 1) (Gh.trans (Gh.rowC 4) (z77 4 3))))) (pC (qda n ([(q01.mk ([116,111,112]) [] ([(q1k.mk ([70]) ([116,111,112])),(q1k.mk ([71]) ([116,111,112]))])),(q01.mk ([120]) ([[116,111,112]]) []),(q01.mk ([121]) ([[116,111,112]]) [])]) r1 h2) _) fn31 ?_)
 refine go ?_
 obtain rfl:=sI hF
 exact rT (qe0 (q86 un27.h rfl (q0g if27.h) rfl rfl rfl) (q24)) (z7c _ rfl)
def qfb (p1:List UInt8) (p2:List UInt8) (l15:List q1k):Option (q01) :=
 some (q01.mk p1 ([p2]) l15)
def qcm (p1:List UInt8) (p2:List UInt8) (p3:List (List UInt8)):Nat→Int→(List q1k)→Option (q01)
 | 0,_,_=>none
 | m1+1,z12,l13 =>
  cond (decide ((IntKind.i64.wrap (z12+1))<(p3.length:Int)))
   (bindO (idxO p3 z12) fun x18 =>
   bindO (idxO p3 (IntKind.i64.wrap (z12+1))) fun x20 =>
   needO ((l13.length+1)*32≤140737488355328∧l13.length+1≤140737488355328) (
   (qcm p1 p2 p3 m1) (IntKind.i64.wrap (z12+2)) (l13++[(q1k.mk x18 x20)])))
   (qfb p1 p2 l13)
def qfc (p1:List UInt8) (l32:List q1k):Option (q01) :=
 some (q01.mk p1 [] l32)
def qcn (p1:List UInt8) (p3:List (List UInt8)):Nat→Int→(List q1k)→Option (q01)
 | 0,_,_=>none
 | m2+1,z29,l30 =>
  cond (decide ((IntKind.i64.wrap (z29+1))<(p3.length:Int)))
   (bindO (idxO p3 z29) fun x35 =>
   bindO (idxO p3 (IntKind.i64.wrap (z29+1))) fun x37 =>
   needO ((l30.length+1)*32≤140737488355328∧l30.length+1≤140737488355328) (
   (qcn p1 p3 m2) (IntKind.i64.wrap (z29+2)) (l30++[(q1k.mk x35 x37)])))
   (qfc p1 l30)
def q3l (n:Nat) (p1:List UInt8) (p2:List UInt8) (p3:List (List UInt8)):Option (q01) :=
 cond (!q22 p2 [])
  (qcm p1 p2 p3 n 0 ([]:List q1k))
  (qcn p1 p3 n 0 ([]:List q1k))
theorem q2x (n:Nat) (p1:List UInt8) (p2:List UInt8) (p3:List (List UInt8)) (r:q01) (hF:q3l n p1 p2 p3=some r):EvP Tryz.prog 63 [.str p1,.str p2,.isl false (List.map cS p3)] (.agg (q03 r)):=by
 unfold q3l at hF
 refine bg3 39 fn63 ?_
 refine go ?_
 refine RS.q (u:=.bool (!q22 p2 [])) rfl (qfh rfl rfl rfl rfl) ?_
 refine gF hF (fun h4 hF=>?_) (fun h4 hF=>?_)
 refine go ?_
 refine RS.g ?_
 refine gr ?_
 refine WPU.ghost (tm':=fr 39 [(2,.iM cS p3),(6,.ptr 0 0 0),(7,.ptr 1 0 0),(8,.i6 0)]) (σ':=⟨(3,.bv q0n ([]:List q1k) 141 2 0)::(2,.row [.str p2] 9)::(1,.row [.str p1,.sl 2 0 1 1,.vl 3 0 0 (([]:List q1k).length)] 138)::qgo,4⟩) (Gh.trans (z78 1 2 141 2 (by decide) NZ rfl rfl) (z75 ⟨rfl,rfl,rfl,rfl,trivial⟩ rfl)) NZ ?_
 refine gL (fun m tm σ=>∃ z12 l13 t14,qcm p1 p2 p3 m z12 l13=some r∧tm=fr 39 [(2,.iM cS p3),(6,.ptr 0 0 0),(7,.ptr 1 0 0),(8,.i6 z12)]∧σ=⟨(3,.bv q0n l13 141 2 t14)::(2,.row [.str p2] 9)::(1,.row [.str p1,.sl 2 0 1 1,.vl 3 t14 0 l13.length] 138)::qgo,4⟩) (fun tm σ=>∃ l15 t16,qfb p1 p2 l15=some r∧tm=fr 39 [(6,.ptr 0 0 0),(7,.ptr 1 0 0)]∧σ=⟨(3,.bv q0n l15 141 2 t16)::(2,.row [.str p2] 9)::(1,.row [.str p1,.sl 2 0 1 1,.vl 3 t16 0 l15.length] 138)::qgo,4⟩) n ⟨0,([]:List q1k),0,hF,rfl,rfl⟩ ?_ ?_
 rintro _ _ ⟨l15,t16,hF,rfl,rfl⟩
 unfold qfb at hF
 refine go ?_
 obtain rfl:=sI hF
 exact ⟨.inr rfl,[.agg [.str p1,.sl 2 0 1 1,.vl 3 t16 0 l15.length]],qe0 (q86 un138.h rfl (q0g if138.h) rfl rfl rfl) (q24),.agg [.str p1,.iM cS ([p2]),.iM q0n l15],⟨[],0⟩,zF _,Gh.trans (z77 2 1) (Gh.trans (z77 3 2) (z7c (.agg [.str p1,.iM cS ([p2]),.iM q0n l15]) rfl)),rfl,BU.h⟩
 rintro (_|m1) _ _ ⟨z12,l13,t14,hF,rfl,rfl⟩
 cases hF
 unfold qcm at hF
 refine gF hF (fun h17 hF=>?_) (fun h17 hF=>?_)
 refine go ?_
 refine WPU.block ?_
 obtain ⟨x18,h19,hF⟩:=q00 hF
 obtain ⟨x20,h21,hF⟩:=q00 hF
 obtain ⟨h22,hF⟩:=q04 hF
 refine go ?_
 refine dE [(0,12),(1,12)] ?_
 refine gd ?_
 refine RD.ix h19 ?_
 refine gd ?_
 refine RD.ix h21 ?_
 refine gd ?_
 refine RD.g ?_
 refine RD.g ?_
 refine gd ?_
 refine z7f ?_
 refine RD.done ⟨by kernel_rfl,⟨q77 un138.h rfl (q0g if136.h) rfl rfl rfl,⟨q60 un136.h rfl rfl rfl rfl,trivial⟩⟩,?_⟩
 refine go ?_
 exact lC ⟨_,(l13++[(q1k.mk x18 x20)]),(t14+1),hF,rfl,rfl⟩
 refine go ?_
 exact xC ⟨l13,t14,hF,rfl,rfl⟩
 refine gr ?_
 refine WPU.ghost (tm':=fr 39 [(2,.iM cS p3),(6,.ptr 0 0 0),(7,.ptr 1 0 0),(8,.i6 0)]) (σ':=⟨(2,.bv q0n ([]:List q1k) 141 2 0)::(1,.row [.str p1,.nils,.vl 2 0 0 (([]:List q1k).length)] 138)::qgo,3⟩) (Gh.trans (z78 1 2 141 2 (by decide) NZ rfl rfl) (z75 ⟨rfl,rfl,rfl,rfl,trivial⟩ rfl)) NZ ?_
 refine gL (fun m tm σ=>∃ z29 l30 t31,qcn p1 p3 m z29 l30=some r∧tm=fr 39 [(2,.iM cS p3),(6,.ptr 0 0 0),(7,.ptr 1 0 0),(8,.i6 z29)]∧σ=⟨(2,.bv q0n l30 141 2 t31)::(1,.row [.str p1,.nils,.vl 2 t31 0 l30.length] 138)::qgo,3⟩) (fun tm σ=>∃ l32 t33,qfc p1 l32=some r∧tm=fr 39 [(6,.ptr 0 0 0),(7,.ptr 1 0 0)]∧σ=⟨(2,.bv q0n l32 141 2 t33)::(1,.row [.str p1,.nils,.vl 2 t33 0 l32.length] 138)::qgo,3⟩) n ⟨0,([]:List q1k),0,hF,rfl,rfl⟩ ?_ ?_
 rintro _ _ ⟨l32,t33,hF,rfl,rfl⟩
 unfold qfc at hF
 refine go ?_
 obtain rfl:=sI hF
 exact ⟨.inr rfl,[.agg [.str p1,.nils,.vl 2 t33 0 l32.length]],qe0 (q86 un138.h rfl (q0g if138.h) rfl rfl rfl) (q24),.agg [.str p1,.isl false [],.iM q0n l32],⟨[],0⟩,zF _,Gh.trans (z77 2 2) (Gh.trans (Gh.wk (.cons (.agg (.cons (.refl _) (.cons (.nil false) (.cons (.refl _) .nil)))) .nil)) (z7c (.agg [.str p1,.isl false [],.iM q0n l32]) rfl)),rfl,BU.h⟩
 rintro (_|m2) _ _ ⟨z29,l30,t31,hF,rfl,rfl⟩
 cases hF
 unfold qcn at hF
 refine gF hF (fun h34 hF=>?_) (fun h34 hF=>?_)
 refine go ?_
 refine WPU.block ?_
 obtain ⟨x35,h36,hF⟩:=q00 hF
 obtain ⟨x37,h38,hF⟩:=q00 hF
 obtain ⟨h39,hF⟩:=q04 hF
 refine go ?_
 refine dE [(0,12),(1,12)] ?_
 refine gd ?_
 refine RD.ix h36 ?_
 refine gd ?_
 refine RD.ix h38 ?_
 refine gd ?_
 refine RD.g ?_
 refine RD.g ?_
 refine gd ?_
 refine z7f ?_
 refine RD.done ⟨by kernel_rfl,⟨q77 un138.h rfl (q0g if136.h) rfl rfl rfl,⟨q60 un136.h rfl rfl rfl rfl,trivial⟩⟩,?_⟩
 refine go ?_
 exact lC ⟨_,(l30++[(q1k.mk x35 x37)]),(t31+1),hF,rfl,rfl⟩
 refine go ?_
 exact xC ⟨l30,t31,hF,rfl,rfl⟩
def q9q (n:Nat)  : Option ((List q01)) :=
 bindO (q3l n ([116,111,112]) [] []) fun r1 =>
 bindO (q3l n ([108,105,115,116]) ([116,111,112]) []) fun r3 =>
 bindO (q3l n ([99,111,110,115]) ([108,105,115,116]) ([[70,73,82,83,84],[116,111,112],[82,69,83,84],[108,105,115,116]])) fun r5 =>
 bindO (q3l n ([110,117,108,108]) ([108,105,115,116]) []) fun r7 =>
 bindO (q3l n ([100,108,105,115,116]) ([116,111,112]) ([[76,73,83,84],[108,105,115,116],[76,65,83,84],[108,105,115,116]])) fun r9 =>
 bindO (q3l n ([105,110,100,101,120]) ([116,111,112]) []) fun r11 =>
 bindO (q3l n ([104,97,110,100,108,101]) ([105,110,100,101,120]) []) fun r13 =>
 bindO (q3l n ([101,118,101,110,116]) ([105,110,100,101,120]) []) fun r15 =>
 bindO (q3l n ([101,110,116,105,116,121]) ([105,110,100,101,120]) []) fun r17 =>
 bindO (q3l n ([114,101,108]) ([116,111,112]) ([[76,65,66,69,76],[104,97,110,100,108,101]])) fun r19 =>
 bindO (q3l n ([113,101,113]) ([116,111,112]) ([[72,73,71,72],[104,97,110,100,108,101],[76,79,87],[104,97,110,100,108,101]])) fun r21 =>
 bindO (q3l n ([115,101,109]) ([116,111,112]) ([[84,79,80],[104,97,110,100,108,101],[73,78,68,69,88],[105,110,100,101,120],[82,69,76,83],[100,108,105,115,116],[67,79,78,83],[100,108,105,115,116]])) fun r23 =>
 bindO (q3l n ([115,105,103,110]) ([116,111,112]) ([[83,69,77],[115,101,109],[65,82,71,83],[108,105,115,116]])) fun r25 =>
 some ([r1,r3,r5,r7,r9,r11,r13,r15,r17,r19,r21,r23,r25])
theorem qn9 (n:Nat)  (r:(List q01)) (hF:q9q n  = some r):EvP Tryz.prog 32 [] (.isl false (List.map q03 r)):=by
 unfold q9q at hF
 refine bg0 21 fn32 ?_
 obtain ⟨r1,h2,hF⟩:=q00 hF
 obtain ⟨r3,h4,hF⟩:=q00 hF
 obtain ⟨r5,h6,hF⟩:=q00 hF
 obtain ⟨r7,h8,hF⟩:=q00 hF
 obtain ⟨r9,h10,hF⟩:=q00 hF
 obtain ⟨r11,h12,hF⟩:=q00 hF
 obtain ⟨r13,h14,hF⟩:=q00 hF
 obtain ⟨r15,h16,hF⟩:=q00 hF
 obtain ⟨r17,h18,hF⟩:=q00 hF
 obtain ⟨r19,h20,hF⟩:=q00 hF
 obtain ⟨r21,h22,hF⟩:=q00 hF
 obtain ⟨r23,h24,hF⟩:=q00 hF
 obtain ⟨r25,h26,hF⟩:=q00 hF
 refine go ?_
 refine RS.cl rfl (z7d (args':=[.str ([116,111,112]),.str [],.isl false []]) (.cons (.refl _) (.cons (.refl _) (.cons (.nil false) .nil))) (pC (q2x n ([116,111,112]) [] [] r1 h2)) _) fn63 (RS.cl rfl (z7d (args':=[.str ([108,105,115,116]),.str ([116,111,112]),.isl false []]) (.cons (.refl _) (.cons (.refl _) (.cons (.nil false) .nil))) (pC (q2x n ([108,105,115,116]) ([116,111,112]) [] r3 h4)) _) fn63 ?_)
 refine RS.g ?_
 refine z7l rfl (z77 0 1) (pC (q2x n ([99,111,110,115]) ([108,105,115,116]) ([[70,73,82,83,84],[116,111,112],[82,69,83,84],[108,105,115,116]]) r5 h6) _) fn63 (RS.cl rfl (z7d (args':=[.str ([110,117,108,108]),.str ([108,105,115,116]),.isl false []]) (.cons (.refl _) (.cons (.refl _) (.cons (.nil false) .nil))) (pC (q2x n ([110,117,108,108]) ([108,105,115,116]) [] r7 h8)) _) fn63 ?_)
 refine RS.g ?_
 refine z7l rfl (z77 1 1) (pC (q2x n ([100,108,105,115,116]) ([116,111,112]) ([[76,73,83,84],[108,105,115,116],[76,65,83,84],[108,105,115,116]]) r9 h10) _) fn63 (RS.cl rfl (z7d (args':=[.str ([105,110,100,101,120]),.str ([116,111,112]),.isl false []]) (.cons (.refl _) (.cons (.refl _) (.cons (.nil false) .nil))) (pC (q2x n ([105,110,100,101,120]) ([116,111,112]) [] r11 h12)) _) fn63 (RS.cl rfl (z7d (args':=[.str ([104,97,110,100,108,101]),.str ([105,110,100,101,120]),.isl false []]) (.cons (.refl _) (.cons (.refl _) (.cons (.nil false) .nil))) (pC (q2x n ([104,97,110,100,108,101]) ([105,110,100,101,120]) [] r13 h14)) _) fn63 (RS.cl rfl (z7d (args':=[.str ([101,118,101,110,116]),.str ([105,110,100,101,120]),.isl false []]) (.cons (.refl _) (.cons (.refl _) (.cons (.nil false) .nil))) (pC (q2x n ([101,118,101,110,116]) ([105,110,100,101,120]) [] r15 h16)) _) fn63 (RS.cl rfl (z7d (args':=[.str ([101,110,116,105,116,121]),.str ([105,110,100,101,120]),.isl false []]) (.cons (.refl _) (.cons (.refl _) (.cons (.nil false) .nil))) (pC (q2x n ([101,110,116,105,116,121]) ([105,110,100,101,120]) [] r17 h18)) _) fn63 ?_))))
 refine RS.g ?_
 refine z7l rfl (z77 2 1) (pC (q2x n ([114,101,108]) ([116,111,112]) ([[76,65,66,69,76],[104,97,110,100,108,101]]) r19 h20) _) fn63 ?_
 refine RS.g ?_
 refine z7l rfl (z77 3 1) (pC (q2x n ([113,101,113]) ([116,111,112]) ([[72,73,71,72],[104,97,110,100,108,101],[76,79,87],[104,97,110,100,108,101]]) r21 h22) _) fn63 (RS.q (u:=.sl 4 0 8 8) (σ':=⟨[(4,.row [.str ([84,79,80]),.str ([104,97,110,100,108,101]),.str ([73,78,68,69,88]),.str ([105,110,100,101,120]),.str ([82,69,76,83]),.str ([100,108,105,115,116]),.str ([67,79,78,83]),.str ([100,108,105,115,116])] 9)],5⟩) rfl (qc4 un135.h if9.h rfl rfl rfl rfl rfl rfl rfl) (z7l rfl (z77 4 1) (pC (q2x n ([115,101,109]) ([116,111,112]) ([[84,79,80],[104,97,110,100,108,101],[73,78,68,69,88],[105,110,100,101,120],[82,69,76,83],[100,108,105,115,116],[67,79,78,83],[100,108,105,115,116]]) r23 h24) _) fn63 ?_))
 refine RS.g ?_
 refine z7l rfl (z77 5 1) (pC (q2x n ([115,105,103,110]) ([116,111,112]) ([[83,69,77],[115,101,109],[65,82,71,83],[108,105,115,116]]) r25 h26) _) fn63 (RS.q (u:=.sl 6 0 13 13) (σ':=⟨[(6,.row [.str r1.Name,.iM cS r1.Supers,.iM q0n r1.Feats,.str r3.Name,.iM cS r3.Supers,.iM q0n r3.Feats,.str r5.Name,.iM cS r5.Supers,.iM q0n r5.Feats,.str r7.Name,.iM cS r7.Supers,.iM q0n r7.Feats,.str r9.Name,.iM cS r9.Supers,.iM q0n r9.Feats,.str r11.Name,.iM cS r11.Supers,.iM q0n r11.Feats,.str r13.Name,.iM cS r13.Supers,.iM q0n r13.Feats,.str r15.Name,.iM cS r15.Supers,.iM q0n r15.Feats,.str r17.Name,.iM cS r17.Supers,.iM q0n r17.Feats,.str r19.Name,.iM cS r19.Supers,.iM q0n r19.Feats,.str r21.Name,.iM cS r21.Supers,.iM q0n r21.Feats,.str r23.Name,.iM cS r23.Supers,.iM q0n r23.Feats,.str r25.Name,.iM cS r25.Supers,.iM q0n r25.Feats] 138)],7⟩) rfl (qc4 un22.h if138.h rfl rfl rfl rfl rfl rfl rfl) ?_)
 refine go ?_
 obtain rfl:=sI hF
 exact rT (us:=[.sl 6 0 13 13]) (u:=.iM q03 ([r1,r3,r5,r7,r9,r11,r13,r15,r17,r19,r21,r23,r25])) (q2y rfl (q24)) (fR 6 3)
def qeh (n:Nat) (p1:Int):Option (GFS) :=
 some (GFS.mk ([(q0j.mk p1 [])]))
theorem qgb (n:Nat) (p1:Int) (r:GFS) (hF:qeh n p1=some r):EvP Tryz.prog 36 [.int .i64 p1] (.agg [.isl false (List.map q0a r.Nodes)]):=by
 unfold qeh at hF
 refine bg1 7 fn36 ?_
 refine go ?_
 refine RS.g ?_
 refine go ?_
 obtain rfl:=sI hF
 exact ⟨.inr rfl,[.agg [.sl 1 0 1 1]],qe0 (q86 un40.h rfl (q0g if40.h) rfl rfl rfl) (q24),.agg [.iM q0a ([(q0j.mk p1 [])])],⟨[],0⟩,zF _,Gh.trans (Gh.trans (Gh.rowC 1) (z77 1 2)) (z7c (.agg [.iM q0a ([(q0j.mk p1 [])])]) rfl),rfl,BU.h⟩
def q8r (z6:Int) (rc1:Int→(List Int)→Option ((List Int))) (l28:List Int):Option ((List Int)) :=
 rc1 (IntKind.i64.wrap (z6+1)) l28
def q5b (z6:Int) (rc1:Int→(List Int)→Option ((List Int))) (x12:q0j):Nat→Int→(List Int)→Option ((List Int))
 | 0,_,_=>none
 | m2+1,z25,l26 =>
  cond (decide (z25<(x12.Arcs.length:Int)))
   (bindO (idxO x12.Arcs z25) fun x31 =>
   bindO (idxO x12.Arcs z25) fun x33 =>
   needO ((l26.length+2)*8≤140737488355328∧l26.length+2≤140737488355328) (
   (q5b z6 rc1 x12 m2) (IntKind.i64.wrap (z25+1)) (l26++[x31.Feat,x33.To])))
   (q8r z6 rc1 l26)
def q8q  (l9:List Int):Option ((List Int)) :=
 some l9
def q2u (p1:GFS) (n:Nat):Nat→Int→(List Int)→Option ((List Int))
 | 0,_,_=>none
 | m1+1,z6,l7 =>
  cond (decide (z6<(p1.Nodes.length:Int)))
   (bindO (idxO p1.Nodes z6) fun x12 =>
   bindO (idxO p1.Nodes z6) fun x14 =>
   needO ((l7.length+2)*8≤140737488355328∧l7.length+2≤140737488355328) (
   q5b z6 (q2u p1 n m1) x12 n 0 (l7++[x14.Typex,(x12.Arcs.length:Int)])))
   (q8q l7)
def q7w (n:Nat) (p1:GFS):Option ((List Int)) :=
 q2u p1 n n 0 ([(p1.Nodes.length:Int)])
theorem qgc (n:Nat) (p1:GFS) (r:(List Int)) (hF:q7w n p1=some r):EvP Tryz.prog 80 [.agg [.isl false (List.map q0a p1.Nodes)]] (.isl false (List.map (cI .i64) r)):=by
 unfold q7w at hF
 refine bg1 55 fn80 ?_
 refine go ?_
 refine RS.step (u:=.vl 1 0 0 ([(p1.Nodes.length:Int)].length)) (σ':=⟨[(1,.bv (cI .i64) ([(p1.Nodes.length:Int)]) 3 1 0),(0,.row [.iM q0a p1.Nodes] 40)],2⟩) rfl (qle.bslv (cs:=(List.map (cI .i64) [(p1.Nodes.length:Int)]).flatten) Tryz.tb_ok rfl un34.h if3.h rfl rfl rfl rfl rfl rfl rfl rfl) rfl rfl ?_
 refine go ?_
 refine gL (fun m tm σ=>∃ z6 l7 t8,q2u p1 n m z6 l7=some r∧tm=fr 55 [(1,.ptr 0 0 0),(3,.vl 1 t8 0 l7.length),(4,.i6 z6)]∧σ=⟨qgn l7 t8 p1.Nodes,2⟩) (fun tm σ=>∃ l9 t10,q8q l9=some r∧tm=fr 55 [(3,.vl 1 t10 0 l9.length)]∧σ=⟨qgn l9 t10 p1.Nodes,2⟩) n ⟨0,[(p1.Nodes.length:Int)],0,hF,rfl,rfl⟩ ?_ ?_
 rintro _ _ ⟨l9,t10,hF,rfl,rfl⟩
 unfold q8q at hF
 refine go ?_
 obtain rfl:=sI hF
 exact rT (us:=[.vl 1 t10 0 l9.length]) (u:=.iM (cI .i64) l9) (q2y rfl (q24)) (fR 1 1)
 rintro (_|m1) _ _ ⟨z6,l7,t8,hF,rfl,rfl⟩
 cases hF
 unfold q2u at hF
 refine gF hF (fun h11 hF=>?_) (fun h11 hF=>?_)
 refine go ?_
 refine WPU.block ?_
 obtain ⟨x12,h13,hF⟩:=q00 hF
 refine go ?_
 refine RS.ix h13 ?_
 obtain ⟨x14,h15,hF⟩:=q00 hF
 obtain ⟨h16,hF⟩:=q04 hF
 refine go ?_
 refine RS.ix h15 ?_
 refine go ?_
 refine RS.g ?_
 refine RS.q (u:=.vl 1 (t8+1) 0 ((l7++[x14.Typex,(x12.Arcs.length:Int)]).length)) (σ':=⟨(2,.row [.i6 x14.Typex,.i6 (x12.Arcs.length:Int)] 3)::qgn (l7++[x14.Typex,(x12.Arcs.length:Int)]) (t8+1) p1.Nodes,3⟩) rfl (qdn rfl rfl rfl rfl (qkn (cI .i64) ([x14.Typex,(x12.Arcs.length:Int)]) un34.h un34.h if3.h rfl (q4c .i64) rfl (qni (cI .i64) [x14.Typex,(x12.Arcs.length:Int)] rfl rfl rfl rfl) h16)) ?_
 refine go ?_
 refine gL (fun m tm σ=>∃ z25 l26 t27,q5b z6 (q2u p1 n m1) x12 m z25 l26=some r∧tm=fr 55 [(1,.ptr 0 0 0),(3,.vl 1 t27 0 l26.length),(4,.i6 z6),(5,.iM q06 x12.Arcs),(6,.i6 z25)]∧σ=⟨(2,.row [.i6 x14.Typex,.i6 (x12.Arcs.length:Int)] 3)::qgn l26 t27 p1.Nodes,3⟩) (fun tm σ=>∃ l28 t29,q8r z6 (q2u p1 n m1) l28=some r∧tm=fr 55 [(1,.ptr 0 0 0),(3,.vl 1 t29 0 l28.length),(4,.i6 z6)]∧σ=⟨(2,.row [.i6 x14.Typex,.i6 (x12.Arcs.length:Int)] 3)::qgn l28 t29 p1.Nodes,3⟩) n ⟨0,(l7++[x14.Typex,(x12.Arcs.length:Int)]),(t8+1),hF,rfl,rfl⟩ ?_ ?_
 rintro _ _ ⟨l28,t29,hF,rfl,rfl⟩
 unfold q8r at hF
 refine go ?_
 exact lC ⟨_,l28,t29,hF,rfl,rfl⟩
 rintro (_|m2) _ _ ⟨z25,l26,t27,hF,rfl,rfl⟩
 cases hF
 unfold q5b at hF
 refine gF hF (fun h30 hF=>?_) (fun h30 hF=>?_)
 refine go ?_
 refine WPU.block ?_
 obtain ⟨x31,h32,hF⟩:=q00 hF
 obtain ⟨x33,h34,hF⟩:=q00 hF
 obtain ⟨h35,hF⟩:=q04 hF
 refine go ?_
 refine dE [(0,11)] ?_
 refine gd ?_
 refine RD.ix h32 ?_
 refine gd ?_
 refine RD.ix h34 ?_
 refine gd ?_
 refine RD.g ?_
 refine RD.act (u:=.vl 1 (t27+1) 0 ((l26++[x31.Feat,x33.To]).length)) (σ':=⟨(3,.row [.i6 x31.Feat,.i6 x33.To] 3)::(2,.row [.i6 x14.Typex,.i6 (x12.Arcs.length:Int)] 3)::qgn (l26++[x31.Feat,x33.To]) (t27+1) p1.Nodes,4⟩) rfl (qdn rfl rfl rfl rfl (qkn (cI .i64) ([x31.Feat,x33.To]) un34.h un34.h if3.h rfl (q4c .i64) rfl (qni (cI .i64) [x31.Feat,x33.To] rfl rfl rfl rfl) h35)) rfl rfl ?_
 refine gd ?_
 refine RD.done ⟨by kernel_rfl,⟨q0w rfl,trivial⟩,?_⟩
 refine go ?_
 exact lC ⟨_,(l26++[x31.Feat,x33.To]),(t27+1),hF,rfl,rfl⟩
 refine go ?_
 exact xC ⟨l26,t27,hF,rfl,rfl⟩
 refine go ?_
 exact xC ⟨l7,t8,hF,rfl,rfl⟩
def q6q   : Option (Int) :=
 some 0
def q5a (r3:(List Int)) (r5:(List Int)):Nat→Int→Option (Int)
 | 0,_=>none
 | m1+1,z12 =>
  bindO (cond (decide (z12<(r3.length:Int)))
   (some (decide (z12<(r5.length:Int))))
   (some false)) fun b14 =>
  cond b14
   (bindO (idxO r3 z12) fun x17 =>
   bindO (idxO r5 z12) fun x19 =>
   cond (decide (x17<x19))
    (some (-1))
    (bindO (idxO r3 z12) fun x22 =>
    bindO (idxO r5 z12) fun x24 =>
    cond (decide (x22 > x24))
     (some 1)
     ((q5a r3 r5 m1) (IntKind.i64.wrap (z12+1)))))
   (q6q)
def q9r (n:Nat) (p1:GFS) (p2:GFS):Option (Int) :=
 bindO (q7w n p1) fun r3 =>
 bindO (q7w n p2) fun r5 =>
 q5a r3 r5 n 0
theorem qna (n:Nat) (p1:GFS) (p2:GFS) (r:Int) (hF:q9r n p1 p2=some r):EvP Tryz.prog 50 [.agg [.isl false (List.map q0a p1.Nodes)],.agg [.isl false (List.map q0a p2.Nodes)]] (.int .i64 r):=by
 unfold q9r at hF
 refine bg2 42 fn50 ?_
 obtain ⟨r3,h4,hF⟩:=q00 hF
 refine go ?_
 refine RS.cl rfl (pC (qgc n p1 r3 h4) _) fn80 ?_
 obtain ⟨r5,h6,hF⟩:=q00 hF
 refine go ?_
 refine RS.cl rfl (pC (qgc n p2 r5 h6) _) fn80 ?_
 refine go ?_
 refine gL (fun m tm σ=>∃ z12,q5a r3 r5 m z12=some r∧tm=fr 42 [(5,.iM (cI .i64) r3),(6,.iM (cI .i64) r5),(7,.i6 z12)]∧σ=⟨[(1,.row [.iM q0a p2.Nodes] 40),(0,.row [.iM q0a p1.Nodes] 40)],2⟩) (fun tm σ=>q6q=some r∧tm=fr 42 []∧σ=⟨[(1,.row [.iM q0a p2.Nodes] 40),(0,.row [.iM q0a p1.Nodes] 40)],2⟩) n ⟨0,hF,rfl,rfl⟩ ?_ ?_
 rintro _ _ ⟨hF,rfl,rfl⟩
 unfold q6q at hF
 exact gx hF
 rintro (_|m1) _ _ ⟨z12,hF,rfl,rfl⟩
 cases hF
 unfold q5a at hF
 obtain ⟨b14,h15,hF⟩:=q00 hF
 refine gn ?_
 refine z73 (fun tm σ=>tm=fr 42 [(5,.iM (cI .i64) r3),(6,.iM (cI .i64) r5),(7,.i6 z12),(21,.bool b14)]∧σ=⟨[(1,.row [.iM q0a p2.Nodes] 40),(0,.row [.iM q0a p1.Nodes] 40)],2⟩) ?_ ?_
 rintro _ _ ⟨rfl,rfl⟩
 refine gF hF (fun h16 hF=>?_) (fun h16 hF=>?_)
 refine go ?_
 refine WPU.block ?_
 obtain ⟨x17,h18,hF⟩:=q00 hF
 obtain ⟨x19,h20,hF⟩:=q00 hF
 refine go ?_
 refine dE [] ?_
 refine gd ?_
 refine RD.ix h18 ?_
 refine gd ?_
 refine RD.ix h20 ?_
 refine gd ?_
 refine RD.done ⟨by kernel_rfl,trivial,?_⟩
 refine gF hF (fun h21 hF=>?_) (fun h21 hF=>?_)
 exact gx hF
 obtain ⟨x22,h23,hF⟩:=q00 hF
 obtain ⟨x24,h25,hF⟩:=q00 hF
 refine go ?_
 refine dE [] ?_
 refine gd ?_
 refine RD.ix h23 ?_
 refine gd ?_
 refine RD.ix h25 ?_
 refine gd ?_
 refine RD.done ⟨by kernel_rfl,trivial,?_⟩
 refine gF hF (fun h26 hF=>?_) (fun h26 hF=>?_)
 exact gx hF
 refine go ?_
 exact lC ⟨_,hF,rfl,rfl⟩
 refine go ?_
 exact xC ⟨hF,rfl,rfl⟩
 refine go ?_
 rcases gB h15 with ⟨h13,h15⟩ | ⟨h13,h15⟩
 exact gy h15
 exact gy h15
def q4z (n:Nat) (p1:GFS) (p2:GFS):Option (Bool) :=
 bindO (q9r n p1 p2) fun r3 =>
 some (r3 == 0)
theorem q6k (n:Nat) (p1:GFS) (p2:GFS) (r:Bool) (hF:q4z n p1 p2=some r):EvP Tryz.prog 25 [.agg [.isl false (List.map q0a p1.Nodes)],.agg [.isl false (List.map q0a p2.Nodes)]] (.bool r):=by
 unfold q4z at hF
 refine bg2 9 fn25 ?_
 obtain ⟨r3,h4,hF⟩:=q00 hF
 refine go ?_
 refine RS.cl rfl (pC (qna n p1 p2 r3 h4) _) fn50 ?_
 exact gx hF
def qiw (n:Nat) (p1:List q0j):Option (GFS) :=
 some (GFS.mk p1)
theorem qk7 (n:Nat) (p1:List q0j) (r:GFS) (hF:qiw n p1=some r):EvP Tryz.prog 34 [.isl false (List.map q0a p1)] (.agg [.isl false (List.map q0a r.Nodes)]):=by
 unfold qiw at hF
 refine bg1 5 fn34 ?_
 refine go ?_
 obtain rfl:=sI hF
 exact rT (qe0 (q86 un40.h rfl (q0g if40.h) rfl rfl rfl) (q24)) (z7c _ rfl)
def qev (p1:Int) (l12:List q0f):Option (q0j) :=
 some (q0j.mk p1 l12)
def qcc (p1:Int) (p2:List Int):Nat→Int→(List q0f)→Option (q0j)
 | 0,_,_=>none
 | m1+1,z9,l10 =>
  cond (decide ((IntKind.i64.wrap (z9+1))<(p2.length:Int)))
   (bindO (idxO p2 z9) fun x15 =>
   bindO (idxO p2 (IntKind.i64.wrap (z9+1))) fun x17 =>
   needO ((l10.length+1)*16≤140737488355328∧l10.length+1≤140737488355328) (
   (qcc p1 p2 m1) (IntKind.i64.wrap (z9+2)) (l10++[(q0f.mk x15 x17)])))
   (qev p1 l10)
def qa9 (n:Nat) (p1:Int) (p2:List Int):Option (q0j) :=
 qcc p1 p2 n 0 ([]:List q0f)
theorem qbg (n:Nat) (p1:Int) (p2:List Int) (r:q0j) (hF:qa9 n p1 p2=some r):EvP Tryz.prog 35 [.int .i64 p1,.isl false (List.map (cI .i64) p2)] (.agg (q0a r)):=by
 unfold qa9 at hF
 refine bg2 32 fn35 ?_
 refine gr ?_
 refine gr ?_
 refine gr ?_
 refine WPU.ghost (tm':=fr 32 [(1,.iM (cI .i64) p2),(4,.ptr 0 0 0),(5,.ptr 1 0 0),(6,.i6 0)]) (σ':=⟨[(2,.bv q06 ([]:List q0f) 98 2 0),(1,.row [.i6 p1,.vl 2 0 0 (([]:List q0f).length)] 78),(0,.row [.i6 0,.nils] 78)],3⟩) (Gh.trans (z78 1 1 98 2 (by decide) NZ rfl rfl) (z75 ⟨rfl,rfl,rfl,rfl,trivial⟩ rfl)) NZ ?_
 refine gL (fun m tm σ=>∃ z9 l10 t11,qcc p1 p2 m z9 l10=some r∧tm=fr 32 [(1,.iM (cI .i64) p2),(4,.ptr 0 0 0),(5,.ptr 1 0 0),(6,.i6 z9)]∧σ=⟨[(2,.bv q06 l10 98 2 t11),(1,.row [.i6 p1,.vl 2 t11 0 l10.length] 78),(0,.row [.i6 0,.nils] 78)],3⟩) (fun tm σ=>∃ l12 t13,qev p1 l12=some r∧tm=fr 32 [(4,.ptr 0 0 0),(5,.ptr 1 0 0)]∧σ=⟨[(2,.bv q06 l12 98 2 t13),(1,.row [.i6 p1,.vl 2 t13 0 l12.length] 78),(0,.row [.i6 0,.nils] 78)],3⟩) n ⟨0,([]:List q0f),0,hF,rfl,rfl⟩ ?_ ?_
 rintro _ _ ⟨l12,t13,hF,rfl,rfl⟩
 unfold qev at hF
 refine go ?_
 obtain rfl:=sI hF
 exact rT (us:=[.agg [.i6 p1,.vl 2 t13 0 l12.length]]) (u:=.agg [.i6 p1,.iM q06 l12]) (qe0 (q86 un78.h rfl (q0g if78.h) rfl rfl rfl) (q24)) (fR 2 2)
 rintro (_|m1) _ _ ⟨z9,l10,t11,hF,rfl,rfl⟩
 cases hF
 unfold qcc at hF
 refine gF hF (fun h14 hF=>?_) (fun h14 hF=>?_)
 refine go ?_
 refine WPU.block ?_
 obtain ⟨x15,h16,hF⟩:=q00 hF
 obtain ⟨x17,h18,hF⟩:=q00 hF
 obtain ⟨h19,hF⟩:=q04 hF
 refine go ?_
 refine dE [(0,12),(1,12)] ?_
 refine gd ?_
 refine RD.ix h16 ?_
 refine gd ?_
 refine RD.ix h18 ?_
 refine gd ?_
 refine RD.g ?_
 refine RD.g ?_
 refine gd ?_
 refine z7f ?_
 refine RD.done ⟨by kernel_rfl,⟨q77 un78.h rfl (q0g if76.h) rfl rfl rfl,⟨q60 un76.h rfl rfl rfl rfl,trivial⟩⟩,?_⟩
 refine go ?_
 exact lC ⟨_,(l10++[(q0f.mk x15 x17)]),(t11+1),hF,rfl,rfl⟩
 refine go ?_
 exact xC ⟨l10,t11,hF,rfl,rfl⟩
end Go.Proofs
end
