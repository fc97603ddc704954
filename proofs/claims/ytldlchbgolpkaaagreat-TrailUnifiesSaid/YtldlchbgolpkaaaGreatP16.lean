/-
  Texts of the walk: U4.
-/
import Derived.Test.YtldlchbgolpkaaaGreatP15
set_option linter.unusedSimpArgs false
set_option linter.unusedVariables false
section
namespace Go.Proofs
open Go Go.Rx Go.Vx Tryz
instance:TbP Tryz.prog Tryz.tb:=⟨Tryz.tb_ok⟩
set_option maxRecDepth 20000
set_option maxHeartbeats 4000000
set_option synthInstance.maxSize 4000
set_option synthInstance.maxHeartbeats 200000
structure q0d where
 forward:Int
 kind:Int
 arcs:List q0f
def q1a (x:q0d):List U:=[.int .i64 x.forward,.int .i64 x.kind,.isl false (List.map q06 x.arcs)]
instance {a0:Int} {a1:Int} {a2:List q0f}:DeC q1a [.int .i64 a0,.int .i64 a1,.isl false (List.map q06 a2)] (q0d.mk a0 a1 a2):=⟨rfl⟩
theorem qgg (n:Nat) (x:q0d):BelL n (q1a x):=by
 simp only [q1a,BelL,Bel,true_and,and_true]
 exact q6d _ (fun q=>qfs _ q) _
theorem q11 (x:q0d):(q1a x).length=3:=rfl
instance:LenC q1a 3:=⟨q11⟩
instance:BF q1a:=⟨qgg⟩
instance (n:Nat) (x:q0d):BUL n (q1a x):=⟨qgg n x⟩
structure q08 where
 atx:Int
 old:q0d
def q1b (x:q08):List U:=[.int .i64 x.atx,.int .i64 x.old.forward,.int .i64 x.old.kind,.isl false (List.map q06 x.old.arcs)]
theorem qft (n:Nat) (x:q08):BelL n (q1b x):=by
 simp only [q1b,BelL,Bel,true_and,and_true]
 exact q6d _ (fun q=>qfs _ q) _
theorem q5c (x:q08):(q1b x).length=4:=rfl
instance:LenC q1b 4:=⟨q5c⟩
instance:BF q1b:=⟨qft⟩
structure q1e where
 cells:Int
 changes:Int
def q5z (x:q1e):List U:=[.int .i64 x.cells,.int .i64 x.changes]
instance {a0:Int} {a1:Int}:DeC q5z [.int .i64 a0,.int .i64 a1] (q1e.mk a0 a1):=⟨rfl⟩
theorem qjv (n:Nat) (x:q1e):BelL n (q5z x):=by
 simp only [q5z,BelL,Bel,true_and,and_true]
theorem qe8 (x:q1e):(q5z x).length=2:=rfl
instance:LenC q5z 2:=⟨qe8⟩
instance:BF q5z:=⟨qjv⟩
structure q20 where
 E0:Int
 E1:Int
def q1w (x:q20):List U:=[.int .i64 x.E0,.int .i64 x.E1]
instance {a0:Int} {a1:Int}:DeC q1w [.int .i64 a0,.int .i64 a1] (q20.mk a0 a1):=⟨rfl⟩
theorem qta (n:Nat) (x:q20):BelL n (q1w x):=by
 simp only [q1w,BelL,Bel,true_and,and_true]
theorem q6f (x:q20):(q1w x).length=2:=rfl
instance:LenC q1w 2:=⟨q6f⟩
instance:BF q1w:=⟨qta⟩
instance Tryz.bd85:BdC Tryz.tb 85 [.nils,.nils,.nils,.nils,.nils] [(0,2),(2,1),(3,1),(4,1)]:=⟨bdT un85.h if85.h rfl (by kernel_rfl)⟩
instance Tryz.bd94:BdC Tryz.tb 94 [.int .i64 0,.int .i64 0] [(0,1),(1,1)]:=⟨bdT un94.h if94.h rfl (by kernel_rfl)⟩
instance Tryz.bd96:BdC Tryz.tb 96 [.int .i64 0,.int .i64 0,.nils] [(0,1),(1,1),(2,1)]:=⟨bdT un96.h if96.h rfl (by kernel_rfl)⟩
instance Tryz.bd116:BdC Tryz.tb 116 [.nils,.nils,.nils,.nils,.nils] [(0,2),(2,1),(3,1),(4,1)]:=⟨bdT un116.h if116.h rfl (by kernel_rfl)⟩
instance Tryz.bd151:BdC Tryz.tb 151 [.int .i64 0,.int .i64 0,.int .i64 0,.nils] [(0,1),(1,3)]:=⟨bdT un151.h if151.h rfl (by kernel_rfl)⟩
instance Tryz.bd214:BdC Tryz.tb 214 [.nils,.nils,.nils] [(0,1),(1,1),(2,1)]:=⟨bdT un214.h if214.h rfl (by kernel_rfl)⟩
abbrev q0e (a) (b) (c:Nat) (d:Nat) (e:Nat) (f) (g) (h):=([(0,.row [.iM q1p a,.iM q0k b,.vl 1 c 0 f.length,.vl 2 d 0 g.length,.vl 3 e 0 h.length] 85),(1,.bv q1a f 96 3 c),(2,.bv q1b g 151 4 d),(3,.bv q5z h 94 2 e)]:List (Nat×B))
abbrev q1f (a) (b) (c:Nat) (d:Nat) (e:Nat) (f) (g) (h):=([(0,.row [.iM q1p a,.iM q0k b,.vl 1 c 0 f.length,.vl 2 d 0 g.length,.vl 3 e 0 h.length] 116),(1,.bv (cI .i64) f 3 1 c),(2,.bv (cI .i64) g 3 1 d),(3,.bv (cL q06) h 76 1 e)]:List (Nat×B))
abbrev q3g (a:Nat) (b) (c) (d:Nat) (e:Nat) (f:Nat) (g) (h) (i) (j):=([(0,.row [.ptr 2 0 0] 113),(1,.row [.vl 3 a 0 g.length] 101),(2,.row [.iM q1p b,.iM q0k c,.vl 4 d 0 h.length,.vl 5 e 0 i.length,.vl 6 f 0 j.length] 116),(3,.bv q1w g 100 2 a),(4,.bv (cI .i64) h 3 1 d),(5,.bv (cI .i64) i 3 1 e),(6,.bv (cL q06) j 76 1 f)]:List (Nat×B))
abbrev q8h (a:Nat) (b) (c) (d:Nat) (e:Nat) (f:Nat) (g:B) (h) (i) (j) (k):=([(0,.row [.ptr 4 0 0] 31),(1,.row [.map 5] 118),(2,.row [.vl 6 a 0 h.length] 40),(3,.row [.fn (.func 56) [] [.ptr 0 0 0,.ptr 1 0 0,.ptr 2 0 0,.ptr 3 0 0]] 102),(4,.row [.iM q1p b,.iM q0k c,.vl 7 d 0 i.length,.vl 8 e 0 j.length,.vl 9 f 0 k.length] 85),(5,g),(6,.bv q0a h 78 2 a),(7,.bv q1a i 96 3 d),(8,.bv q1b j 151 4 e),(9,.bv q5z k 94 2 f)]:List (Nat×B))
abbrev q8i (a:U) (b:Nat) (c) (d) (e:Nat) (f:Nat) (g:Nat) (h:B) (i) (j) (k) (l):=([(0,.row [.ptr 4 0 0] 113),(1,.row [a] 34),(2,.row [.vl 6 b 0 i.length] 40),(3,.row [.fn (.func 84) [] [.ptr 0 0 0,.ptr 1 0 0,.ptr 2 0 0,.ptr 3 0 0]] 102),(4,.row [.iM q1p c,.iM q0k d,.vl 7 e 0 j.length,.vl 8 f 0 k.length,.vl 9 g 0 l.length] 116),(5,h),(6,.bv q0a i 78 2 b),(7,.bv (cI .i64) j 3 1 e),(8,.bv (cI .i64) k 3 1 f),(9,.bv (cL q06) l 76 1 g)]:List (Nat×B))
abbrev qc9 (a) (b:Nat) (c) (d:Nat) (e) (f:Nat) (g) (h):=([(6,.bv q0a a 78 2 b),(5,.row [.vl 6 b 0 a.length] 40),(4,.bv (cI .i64) c 3 1 d),(3,.bv (cI .i64) e 3 1 f),(2,.row [.iM q0a g,.vl 3 f 0 e.length,.vl 4 d 0 c.length] 214),(1,.row [.nils] 40),(0,.row [.iM q0a h] 40)]:List (Nat×B))
abbrev qer (a) (b) (c:Nat) (d) (e:Nat) (f) (g:Nat) (h) (i):=([(10,.row [.iM q0a a] 40),(4,.bv q5z b 94 2 c),(3,.bv q1b d 151 4 e),(2,.bv q1a f 96 3 g),(1,.row [.iM q1p h,.iM q0k i,.vl 2 g 0 f.length,.vl 3 e 0 d.length,.vl 4 c 0 b.length] 85)]:List (Nat×B))
abbrev qca (a) (b:Nat) (c:Nat) (d) (e):=([(0,.row [.iM q0a a,.vl 1 b 0 d.length,.vl 2 c 0 e.length] 214),(1,.bv (cI .i64) d 3 1 b),(2,.bv (cI .i64) e 3 1 c)]:List (Nat×B))
abbrev qes (a) (b) (c:B) (d) (e):=([(3,.row [.iM q0a a,.iM q0a b] 40),(2,c),(1,.row [.iM q0a d] 40),(0,.row [.iM q0a e] 40)]:List (Nat×B))
abbrev qgp (a) (b) (c:Nat) (d:Nat) (e:Nat) (f:Nat) (g) (h) (i):=([(0,.row [.iM q1p a,.iM q0k b,.vl 1 c 0 d,.vl 2 e 0 h.length,.vl 3 f 0 i.length] 85),(1,.bv q1a g 96 3 c),(2,.bv q1b h 151 4 e),(3,.bv q5z i 94 2 f)]:List (Nat×B))
abbrev qcz (a) (b) (c:B):=([(2,.row [.iM q0a a] 40),(1,.row [.iM q0a b] 40),(0,c)]:List (Nat×B))
abbrev qrm (a) (b) (c) (d) (e):=([(4,.bv q5z a 94 2 0),(3,.bv q1b b 151 4 0),(2,.bv q1a c 96 3 0),(1,.row [.iM q1p d,.iM q0k e,.vl 2 0 0 (([]:List q0d).length),.vl 3 0 0 (([]:List q08).length),.vl 4 0 0 (([]:List q1e).length)] 85)]:List (Nat×B))
abbrev qrn (a) (b) (c) (d:Nat) (e) (f):=([(4,.bv q5z a 94 2 0),(3,.bv q1b b 151 4 0),(2,.bv q1a c 96 3 d),(1,.row [.iM q1p e,.iM q0k f,.vl 2 d 0 c.length,.vl 3 0 0 (([]:List q08).length),.vl 4 0 0 (([]:List q1e).length)] 85)]:List (Nat×B))
abbrev qe7 (a):=([(1,.row [.nils] 40),(0,.row [.iM q0a a] 40)]:List (Nat×B))
def qbt (n:Nat) (p1:q09):Option ((List q1c)×(List q0b)) :=
 some (p1.Types,p1.Feats)
theorem qhj (n:Nat) (p1:q09) (r:(List q1c)×(List q0b)) (hF:qbt n p1=some r):EvU Tryz.prog 12 [.agg (q0m p1)] ⟨[],0⟩ (fun u σ'=>∃ t:Nat→Nat,u = .ptr 1 0 0∧σ'=⟨[(1,.row [.isl false (List.map q1p r.1),.isl false (List.map q0k r.2),.nils,.nils,.nils] 85)],2⟩):=by
 unfold qbt at hF
 refine bg1 6 fn12 ?_
 refine go ?_
 refine RS.q (u:=.agg [.iM q1p p1.Types,.iM q0k p1.Feats,.nils,.nils,.nils]) rfl (qvf bd85.h rfl rfl (rfl)) ?_
 refine go ?_
 obtain rfl:=sI hF
 exact ⟨.inr rfl,[.ptr 1 0 0],q2y rfl (q24),.ptr 1 0 0,⟨[(1,.row [.iM q1p p1.Types,.iM q0k p1.Feats,.nils,.nils,.nils] 85)],2⟩,NL,Gh.trans (z7m (fun k=>z1c [1] k)) (Gh.to (n1:=2) [] rfl rfl NL NL BUL.h BH.h),stF [],rfl,rfl⟩
def q2l (n:Nat) (p1:List q1c) (p2:List q0b) (p3:List q0d) (p5:List q08) (p7:List q1e) (p8:Nat):Option (Int×(List q1e)×Nat) :=
 needO ((p7.length+1)*16≤140737488355328∧p7.length+1≤140737488355328) (
 some ((IntKind.i64.wrap (((p7++[(q1e.mk (p3.length:Int) (p5.length:Int))]).length:Int) - 1)),(p7++[(q1e.mk (p3.length:Int) (p5.length:Int))]),(p8+1)))
theorem q62 (n:Nat) (p1:List q1c) (p2:List q0b) (p3:List q0d) (p5:List q08) (p7:List q1e) (p8:Nat) (r:Int×(List q1e)×Nat) (hF:q2l n p1 p2 p3 p5 p7 p8=some r):∀ t4 t6:Nat,EvU Tryz.prog 18 [.ptr 0 0 0] ⟨q0e p1 p2 t4 t6 p8 p3 p5 p7,4⟩ (fun u σ'=>∃ t:Nat→Nat,u = .int .i64 r.1∧σ'=⟨q0e p1 p2 t4 t6 r.2.2 p3 p5 r.2.1,4⟩):=by
 unfold q2l at hF
 intro t4 t6
 refine bg1 29 fn18 ?_
 obtain ⟨h9,hF⟩:=q04 hF
 refine go ?_
 refine dE [(0,16),(0,17),(1,16),(2,16),(3,16),(4,16)] ?_
 refine gd ?_
 refine RD.q (u:=.ptr 0 0 0) rfl (q0o rfl rfl) ?_
 refine gd ?_
 refine RD.q (u:=.ptr 0 0 0) rfl (q0o rfl rfl) ?_
 refine gd ?_
 refine RD.q (u:=.ptr 0 0 0) rfl (q0o rfl rfl) ?_
 refine gd ?_
 refine RD.g ?_
 refine RD.g ?_
 refine RD.q (u:=.ptr 0 0 0) rfl (q0o rfl rfl) ?_
 refine gd ?_
 refine z7f ?_
 refine RD.done ⟨by kernel_rfl,⟨q0w rfl,⟨q0w rfl,⟨q0w rfl,⟨q0o rfl rfl,⟨q77 un85.h rfl (q0g if83.h) rfl rfl rfl,⟨q60 un83.h rfl rfl rfl rfl,trivial⟩⟩⟩⟩⟩⟩,?_⟩
 refine go ?_
 refine RS.q (u:=.ptr 0 0 0) rfl (q0o rfl rfl) ?_
 refine go ?_
 obtain rfl:=sI hF
 exact ⟨.inr rfl,[.i6 (IntKind.i64.wrap (((p7++[(q1e.mk (p3.length:Int) (p5.length:Int))]).length:Int) - 1))],q2y rfl (q24),.i6 (IntKind.i64.wrap (((p7++[(q1e.mk (p3.length:Int) (p5.length:Int))]).length:Int) - 1)),⟨q0e p1 p2 t4 t6 (p8+1) p3 p5 (p7++[(q1e.mk (p3.length:Int) (p5.length:Int))]),4⟩,NL,Gh.to (n1:=4) [] rfl rfl NL NL BUL.h BH.h,stF [],rfl,rfl⟩
def q3x (z23:Int) (l24:List q0d) (t25:Nat) (rc1:Int→(List q0d)→Nat→Option (Int×(List q0d)×Nat)) (x29:q0j) (l56:List q0f):Option (Int×(List q0d)×Nat) :=
 needO ((l24.length+1)*40≤140737488355328∧l24.length+1≤140737488355328) (
 rc1 (IntKind.i64.wrap (z23+1)) (l24++[(q0d.mk (-1) x29.Typex l56)]) (t25+1))
def q2z (p4:List q0d) (z23:Int) (l24:List q0d) (t25:Nat) (rc1:Int→(List q0d)→Nat→Option (Int×(List q0d)×Nat)) (x29:q0j):Nat→Int→(List q0f)→Option (Int×(List q0d)×Nat)
 | 0,_,_=>none
 | m2+1,z53,l54 =>
  cond (decide (z53<(x29.Arcs.length:Int)))
   (bindO (idxO x29.Arcs z53) fun x60 =>
   needO ((l54.length+1)*16≤140737488355328∧l54.length+1≤140737488355328) (
   (q2z p4 z23 l24 t25 rc1 x29 m2) (IntKind.i64.wrap (z53+1)) (l54++[(q0f.mk x60.Feat (IntKind.i64.wrap (x60.To+(p4.length:Int))))])))
   (q3x z23 l24 t25 rc1 x29 l54)
def q5i (p4:List q0d) (l26:List q0d) (t27:Nat):Option (Int×(List q0d)×Nat) :=
 some ((p4.length:Int),l26,t27)
def q1h (p1:GFS) (p4:List q0d) (n:Nat):Nat→Int→(List q0d)→Nat→Option (Int×(List q0d)×Nat)
 | 0,_,_,_=>none
 | m1+1,z23,l24,t25 =>
  cond (decide (z23<(p1.Nodes.length:Int)))
   (bindO (idxO p1.Nodes z23) fun x29 =>
   q2z p4 z23 l24 t25 (q1h p1 p4 n m1) x29 n 0 ([]:List q0f))
   (q5i p4 l24 t25)
def q2k (n:Nat) (p1:GFS) (p2:List q1c) (p3:List q0b) (p4:List q0d) (p5:Nat) (p6:List q08) (p8:List q1e):Option (Int×(List q0d)×Nat) :=
 q1h p1 p4 n n 0 p4 p5
theorem q4d (n:Nat) (p1:GFS) (p2:List q1c) (p3:List q0b) (p4:List q0d) (p5:Nat) (p6:List q08) (p8:List q1e) (r:Int×(List q0d)×Nat) (hF:q2k n p1 p2 p3 p4 p5 p6 p8=some r):∀ t7 t9:Nat,EvU Tryz.prog 19 [.ptr 0 0 0,.agg [.isl false (List.map q0a p1.Nodes)]] ⟨q0e p2 p3 p5 t7 t9 p4 p6 p8,4⟩ (fun u σ'=>∃ t:Nat→Nat,u = .int .i64 r.1∧σ'=⟨q0e p2 p3 r.2.2 t7 t9 r.2.1 p6 p8,4⟩):=by
 unfold q2k at hF
 intro t7 t9
 refine bg2 58 fn19 ?_
 refine go ?_
 refine RS.q (u:=.ptr 0 0 0) rfl (q0o rfl rfl) ?_
 refine go ?_
 refine gL (fun m tm σ=>∃ z23 l24 t25,q1h p1 p4 n m z23 l24 t25=some r∧tm=fr 58 [(0,.ptr 0 0 0),(5,.i6 (p4.length:Int)),(17,.iM q0a p1.Nodes),(18,.i6 (p1.Nodes.length:Int)),(19,.i6 z23)]∧σ=⟨(4,.row [.iM q0a p1.Nodes] 40)::q0e p2 p3 t25 t7 t9 l24 p6 p8,5⟩) (fun tm σ=>∃ l26 t27,q5i p4 l26 t27=some r∧tm=fr 58 [(5,.i6 (p4.length:Int))]∧σ=⟨(4,.row [.iM q0a p1.Nodes] 40)::q0e p2 p3 t27 t7 t9 l26 p6 p8,5⟩) n ⟨0,p4,p5,hF,rfl,rfl⟩ ?_ ?_
 rintro _ _ ⟨l26,t27,hF,rfl,rfl⟩
 unfold q5i at hF
 refine go ?_
 obtain rfl:=sI hF
 exact ⟨.inr rfl,[.i6 (p4.length:Int)],q2y rfl (q24),.i6 (p4.length:Int),⟨q0e p2 p3 t27 t7 t9 l26 p6 p8,4⟩,NL,Gh.to (n1:=4) [] rfl rfl NL NL BUL.h BH.h,stF [],rfl,rfl⟩
 rintro (_|m1) _ _ ⟨z23,l24,t25,hF,rfl,rfl⟩
 cases hF
 unfold q1h at hF
 refine gF hF (fun h28 hF=>?_) (fun h28 hF=>?_)
 refine go ?_
 refine WPU.block ?_
 obtain ⟨x29,h30,hF⟩:=q00 hF
 refine go ?_
 refine RS.ix h30 ?_
 refine gr ?_
 refine gr ?_
 refine WPU.ghost (tm':=fr 58 [(0,.ptr 0 0 0),(5,.i6 (p4.length:Int)),(8,.ptr 6 0 0),(17,.iM q0a p1.Nodes),(18,.i6 (p1.Nodes.length:Int)),(19,.i6 z23),(27,.iM q06 x29.Arcs),(28,.i6 (x29.Arcs.length:Int)),(29,.i6 0)]) (σ':=⟨(7,.bv q06 ([]:List q0f) 98 2 0)::(6,.row [.i6 (-1),.i6 x29.Typex,.vl 7 0 0 (([]:List q0f).length)] 96)::(5,.row (q0a x29) 78)::(4,.row [.iM q0a p1.Nodes] 40)::q0e p2 p3 t25 t7 t9 l24 p6 p8,8⟩) (Gh.trans (z78 6 2 98 2 (by decide) NL rfl rfl) (z75 ⟨rfl,rfl,rfl,rfl,rfl,rfl,rfl,rfl,rfl,trivial⟩ rfl)) NL ?_
 refine gL (fun m tm σ=>∃ z53 l54 t55,q2z p4 z23 l24 t25 (q1h p1 p4 n m1) x29 m z53 l54=some r∧tm=fr 58 [(0,.ptr 0 0 0),(5,.i6 (p4.length:Int)),(8,.ptr 6 0 0),(17,.iM q0a p1.Nodes),(18,.i6 (p1.Nodes.length:Int)),(19,.i6 z23),(27,.iM q06 x29.Arcs),(28,.i6 (x29.Arcs.length:Int)),(29,.i6 z53)]∧σ=⟨(7,.bv q06 l54 98 2 t55)::(6,.row [.i6 (-1),.i6 x29.Typex,.vl 7 t55 0 l54.length] 96)::(5,.row (q0a x29) 78)::(4,.row [.iM q0a p1.Nodes] 40)::q0e p2 p3 t25 t7 t9 l24 p6 p8,8⟩) (fun tm σ=>∃ l56 t57,q3x z23 l24 t25 (q1h p1 p4 n m1) x29 l56=some r∧tm=fr 58 [(0,.ptr 0 0 0),(5,.i6 (p4.length:Int)),(8,.ptr 6 0 0),(17,.iM q0a p1.Nodes),(18,.i6 (p1.Nodes.length:Int)),(19,.i6 z23)]∧σ=⟨(7,.bv q06 l56 98 2 t57)::(6,.row [.i6 (-1),.i6 x29.Typex,.vl 7 t57 0 l56.length] 96)::(5,.row (q0a x29) 78)::(4,.row [.iM q0a p1.Nodes] 40)::q0e p2 p3 t25 t7 t9 l24 p6 p8,8⟩) n ⟨0,([]:List q0f),0,hF,rfl,rfl⟩ ?_ ?_
 rintro _ _ ⟨l56,t57,hF,rfl,rfl⟩
 unfold q3x at hF
 refine gn ?_
 refine WPU.ghost (tm':=fr 58 [(0,.ptr 0 0 0),(5,.i6 (p4.length:Int)),(8,.ptr 6 0 0),(17,.iM q0a p1.Nodes),(18,.i6 (p1.Nodes.length:Int)),(19,.i6 z23)]) (σ':=⟨(6,.row [.i6 (-1),.i6 x29.Typex,.iM q06 l56] 96)::(5,.row (q0a x29) 78)::(4,.row [.iM q0a p1.Nodes] 40)::q0e p2 p3 t25 t7 t9 l24 p6 p8,8⟩) (Gh.trans (Gh.sub (l':=[(0,.ptr 0 0 0),(5,.i6 (p4.length:Int)),(8,.ptr 6 0 0),(17,.iM q0a p1.Nodes),(18,.i6 (p1.Nodes.length:Int)),(19,.i6 z23)]) ⟨rfl,rfl,rfl,rfl,rfl,rfl,trivial⟩) (z7g 7 2)) NL ?_
 obtain ⟨h58,hF⟩:=q04 hF
 refine go ?_
 refine dE [(0,6),(0,7),(1,6),(2,6),(3,6),(4,6)] ?_
 refine gd ?_
 refine RD.q (u:=.ptr 0 0 0) rfl (q0o rfl rfl) ?_
 refine gd ?_
 refine RD.g ?_
 refine RD.g ?_
 refine RD.q (u:=.ptr 0 0 0) rfl (q0o rfl rfl) ?_
 refine gd ?_
 refine z7f ?_
 refine RD.done ⟨by kernel_rfl,⟨q0w rfl,⟨q0w rfl,⟨q0w rfl,⟨q0o rfl rfl,⟨q77 un85.h rfl (q0g if81.h) rfl rfl rfl,⟨q60 un81.h rfl rfl rfl rfl,trivial⟩⟩⟩⟩⟩⟩,?_⟩
 refine go ?_
 exact lC ⟨_,(l24++[(q0d.mk (-1) x29.Typex l56)]),(t25+1),hF,rfl,rfl⟩
 rintro (_|m2) _ _ ⟨z53,l54,t55,hF,rfl,rfl⟩
 cases hF
 unfold q2z at hF
 refine gF hF (fun h59 hF=>?_) (fun h59 hF=>?_)
 refine go ?_
 refine WPU.block ?_
 obtain ⟨x60,h61,hF⟩:=q00 hF
 refine go ?_
 refine RS.ix h61 ?_
 obtain ⟨h62,hF⟩:=q04 hF
 refine go ?_
 refine RS.g ?_
 refine RS.g ?_
 refine go ?_
 exact lC ⟨_,(l54++[(q0f.mk x60.Feat (IntKind.i64.wrap (x60.To+(p4.length:Int))))]),(t55+1),hF,rfl,rfl⟩
 refine go ?_
 exact xC ⟨l54,t55,hF,rfl,rfl⟩
 refine go ?_
 exact xC ⟨l24,t25,hF,rfl,rfl⟩
def q5j  (l21:List q0d) (l22:List q08):Option ((List q0d)×(List q08)) :=
 some (l21,l22)
def q29 (p1:Int):Nat→(List q0d)→(List q08)→Option ((List q0d)×(List q08))
 | 0,_,_=>none
 | m1+1,l19,l20 =>
  cond (decide ((l20.length:Int) > p1))
   (bindO (idxO l20 (IntKind.i64.wrap ((l20.length:Int) - 1))) fun x24 =>
   bindO (idxO l19 x24.atx) fun x26 =>
   needO ((0:Int)≤(IntKind.i64.wrap ((l20.length:Int) - 1))∧(IntKind.i64.wrap ((l20.length:Int) - 1))≤((l20.length:Nat):Int)) (
   needO (((IntKind.i64.wrap ((l20.length:Int) - 1)).toNat)≤l20.length) (
   (q29 p1 m1) (l19.set (0+x24.atx.toNat) x24.old) (l20.take ((IntKind.i64.wrap ((l20.length:Int) - 1)).toNat)))))
   (q5j l19 l20)
def q44 (n:Nat) (p1:Int) (p2:List q1c) (p3:List q0b) (p4:List q0d) (p6:List q08) (p8:List q1e):Option ((List q0d)×(List q08)) :=
 q29 p1 n p4 p6
theorem qc5 (n:Nat) (p1:Int) (p2:List q1c) (p3:List q0b) (p4:List q0d) (p6:List q08) (p8:List q1e) (r:(List q0d)×(List q08)) (hF:q44 n p1 p2 p3 p4 p6 p8=some r):∀ t5 t7 t9:Nat,EvU Tryz.prog 44 [.ptr 0 0 0,.int .i64 p1] ⟨q0e p2 p3 t5 t7 t9 p4 p6 p8,4⟩ (fun u σ'=>∃ t:Nat→Nat,u = .tup []∧σ'=⟨q0e p2 p3 t5 t7 t9 r.1 r.2 p8,4⟩):=by
 unfold q44 at hF
 intro t5 t7 t9
 refine bg2 47 fn44 ?_
 refine go ?_
 refine gL (fun m tm σ=>∃ l19 l20,q29 p1 m l19 l20=some r∧tm=fr 47 [(0,.ptr 0 0 0),(1,.i6 p1)]∧σ=⟨q0e p2 p3 t5 t7 t9 l19 l20 p8,4⟩) (fun tm σ=>∃ l21 l22,q5j l21 l22=some r∧tm=fr 47 []∧σ=⟨q0e p2 p3 t5 t7 t9 l21 l22 p8,4⟩) n ⟨p4,p6,hF,rfl,rfl⟩ ?_ ?_
 rintro _ _ ⟨l21,l22,hF,rfl,rfl⟩
 unfold q5j at hF
 refine go ?_
 obtain rfl:=sI hF
 exact ⟨.inl rfl,[],q24,.tup [],⟨q0e p2 p3 t5 t7 t9 l21 l22 p8,4⟩,NL,Gh.to (n1:=4) [] rfl rfl NL NL BUL.h BH.h,stF [],rfl,rfl⟩
 rintro (_|m1) _ _ ⟨l19,l20,hF,rfl,rfl⟩
 cases hF
 unfold q29 at hF
 refine go ?_
 refine RS.q (u:=.ptr 0 0 0) rfl (q0o rfl rfl) ?_
 refine gF hF (fun h23 hF=>?_) (fun h23 hF=>?_)
 refine go ?_
 refine WPU.block ?_
 obtain ⟨x24,h25,hF⟩:=q00 hF
 refine go ?_
 refine dE [(0,12),(1,12),(2,12),(3,12),(4,12),(5,12),(6,12),(7,12),(8,12),(9,12),(10,12),(11,12)] ?_
 refine gd ?_
 refine RD.q (u:=.ptr 0 0 0) rfl (q0o rfl rfl) ?_
 refine gd ?_
 refine RD.q (u:=.ptr 0 0 0) rfl (q0o rfl rfl) ?_
 refine gd ?_
 refine RD.q rfl (q25 rfl rfl (q40 q1b un82.h (q0g if151.h) (by decide) q5c (vo rfl) h25)) ?_
 refine RD.q (u:=.agg (q1b x24)) rfl (ql2 q1b un151.h rfl (q0g if151.h) q5c rfl rfl h25 rfl) ?_
 refine RD.g ?_
 refine z7f ?_
 refine RD.done ⟨by kernel_rfl,⟨q0w rfl,⟨q0o rfl rfl,⟨q77 un85.h rfl (q0g if82.h) rfl rfl rfl,⟨q60 un82.h rfl rfl rfl rfl,⟨q0w rfl,⟨q0o rfl rfl,⟨q77 un85.h rfl (q0g if82.h) rfl rfl rfl,⟨q60 un82.h rfl rfl rfl rfl,⟨qj6 rfl rfl rfl (z4p un82.h rfl),⟨qa4 rfl rfl (z4n _ _ _) rfl,⟨q25 rfl rfl (q40 q1b un82.h (q0g if151.h) (by decide) q5c (vo rfl) h25),⟨ql2 q1b un151.h rfl (q0g if151.h) q5c rfl rfl h25 rfl,trivial⟩⟩⟩⟩⟩⟩⟩⟩⟩⟩⟩⟩,?_⟩
 obtain ⟨x26,h27,hF⟩:=q00 hF
 refine gn ?_
 refine z73 (fun tm σ=>tm=fr 47 [(0,.ptr 0 0 0),(1,.i6 p1)]∧σ=⟨(4,.row (q1b x24) 151)::q0e p2 p3 t5 t7 t9 (l19.set (0+x24.atx.toNat) x24.old) l20 p8,5⟩) ?_ ?_
 rintro _ _ ⟨rfl,rfl⟩
 obtain ⟨h28,hF⟩:=q04 hF
 obtain ⟨h29,hF⟩:=q04 hF
 refine gn ?_
 refine z73 (fun tm σ=>tm=fr 47 [(0,.ptr 0 0 0),(1,.i6 p1)]∧σ=⟨(4,.row (q1b x24) 151)::q0e p2 p3 t5 t7 t9 (l19.set (0+x24.atx.toNat) x24.old) (l20.take ((IntKind.i64.wrap ((l20.length:Int) - 1)).toNat)) p8,5⟩) ?_ ?_
 rintro _ _ ⟨rfl,rfl⟩
 refine go ?_
 exact lC ⟨(l19.set (0+x24.atx.toNat) x24.old),(l20.take ((IntKind.i64.wrap ((l20.length:Int) - 1)).toNat)),hF,rfl,rfl⟩
 refine dE [] ?_
 refine gd ?_
 refine RD.q (u:=.ptr 0 0 0) rfl (q0o rfl rfl) ?_
 refine gd ?_
 refine RD.q (u:=.ptr 0 0 0) rfl (q0o rfl rfl) ?_
 refine gd ?_
 refine RD.q (u:=.vl 2 t7 0 ((IntKind.i64.wrap ((l20.length:Int) - 1)).toNat)) rfl (q2c rfl qaj (qk2 rfl) qaj (qoa q1b un82.h (q0g if151.h) q5c (vo rfl) (Nat.le_of_eq (Nat.zero_add _)) (qkp h28.1 h28.2))) (RD.q (u:=.ptr 0 0 0) rfl (q0o rfl rfl) ?_)
 refine gd ?_
 refine z7f ?_
 refine RD.done ⟨by kernel_rfl,trivial,?_⟩
 refine go ?_
 exact ⟨_,_,⟨rfl,rfl⟩,NL,z7h (K:=2) q1b q5c rfl ((IntKind.i64.wrap ((l20.length:Int) - 1)).toNat) ⟨rfl,rfl,trivial⟩ (by first | (simp only [q0e]; rw [List.length_take_of_le h29]<;>rfl) | rfl)⟩
 refine dE [] ?_
 refine gd ?_
 refine RD.q (u:=.ptr 0 0 0) rfl (q0o rfl rfl) ?_
 refine gd ?_
 refine RD.q (u:=.agg (q1a x24.old)) rfl (q86 un96.h rfl (q0g if96.h) rfl rfl (rfl)) ?_
 refine RD.q rfl (q25 rfl rfl (q40 q1a un81.h (q0g if96.h) (by decide) q11 (vo rfl) h27)) ?_
 refine z7e (u:=.junk) (σ':=⟨(4,.row (q1b x24) 151)::qgp p2 p3 t5 l19.length t7 t9 (l19.set (0+x24.atx.toNat) x24.old) l20 p8,5⟩) rfl (qss q1a (q0g if96.h) q11 rfl rfl rfl rfl rfl rfl rfl (q71 h27) rfl) rfl ?_
 refine RD.done ⟨by kernel_rfl,trivial,?_⟩
 refine go ?_
 exact ⟨_,_,⟨rfl,rfl⟩,NL,z75 ⟨rfl,rfl,trivial⟩ (by simp only [q0e,qgp,List.length_set])⟩
 refine go ?_
 exact xC ⟨l19,l20,hF,rfl,rfl⟩
def q5k  (z20:Int):Option (Int) :=
 some z20
def q30 (p4:List q0d):Nat→Int→Option (Int)
 | 0,_=>none
 | m1+1,z19 =>
  bindO (idxO p4 z19) fun x21 =>
  cond (decide (x21.forward ≥ 0))
   (bindO (idxO p4 z19) fun x24 =>
   (q30 p4 m1) x24.forward)
   (q5k z19)
def q45 (n:Nat) (p1:Int) (p2:List q1c) (p3:List q0b) (p4:List q0d) (p6:List q08) (p8:List q1e):Option (Int) :=
 q30 p4 n p1
theorem q83 (n:Nat) (p1:Int) (p2:List q1c) (p3:List q0b) (p4:List q0d) (p6:List q08) (p8:List q1e) (r:Int) (hF:q45 n p1 p2 p3 p4 p6 p8=some r):∀ t5 t7 t9:Nat,EvU Tryz.prog 45 [.ptr 0 0 0,.int .i64 p1] ⟨q0e p2 p3 t5 t7 t9 p4 p6 p8,4⟩ (fun u σ'=>∃ t:Nat→Nat,u = .int .i64 r∧σ'=⟨q0e p2 p3 t5 t7 t9 p4 p6 p8,4⟩):=by
 unfold q45 at hF
 intro t5 t7 t9
 refine bg2 23 fn45 ?_
 refine go ?_
 refine gL (fun m tm σ=>∃ z19,q30 p4 m z19=some r∧tm=fr 23 [(0,.ptr 0 0 0),(1,.i6 z19)]∧σ=⟨q0e p2 p3 t5 t7 t9 p4 p6 p8,4⟩) (fun tm σ=>∃ z20,q5k z20=some r∧tm=fr 23 [(1,.i6 z20)]∧σ=⟨q0e p2 p3 t5 t7 t9 p4 p6 p8,4⟩) n ⟨p1,hF,rfl,rfl⟩ ?_ ?_
 rintro _ _ ⟨z20,hF,rfl,rfl⟩
 unfold q5k at hF
 refine go ?_
 obtain rfl:=sI hF
 exact ⟨.inr rfl,[.i6 z20],q2y rfl (q24),.i6 z20,⟨q0e p2 p3 t5 t7 t9 p4 p6 p8,4⟩,NL,Gh.to (n1:=4) [] rfl rfl NL NL BUL.h BH.h,stF [],rfl,rfl⟩
 rintro (_|m1) _ _ ⟨z19,hF,rfl,rfl⟩
 cases hF
 unfold q30 at hF
 obtain ⟨x21,h22,hF⟩:=q00 hF
 refine go ?_
 refine RS.q (u:=.ptr 0 0 0) rfl (q0o rfl rfl) ?_
 refine go ?_
 refine RS.q rfl (q25 rfl rfl (q40 q1a un81.h (q0g if96.h) (by decide) q11 (vo rfl) h22)) ?_
 refine RS.q rfl (q77 un96.h rfl (q0g if3.h) rfl (qc2 rfl) rfl) (RS.q (u:=.i6 x21.forward) rfl (qk8 q1a un3.h rfl q11 rfl rfl (q71 h22) rfl) ?_)
 refine gF hF (fun h23 hF=>?_) (fun h23 hF=>?_)
 refine go ?_
 refine WPU.block ?_
 obtain ⟨x24,h25,hF⟩:=q00 hF
 refine go ?_
 refine RS.q (u:=.ptr 0 0 0) rfl (q0o rfl rfl) ?_
 refine go ?_
 refine RS.q rfl (q25 rfl rfl (q40 q1a un81.h (q0g if96.h) (by decide) q11 (vo rfl) h25)) ?_
 refine RS.q rfl (q77 un96.h rfl (q0g if3.h) rfl (qc2 rfl) rfl) (RS.q (u:=.i6 x24.forward) rfl (qk8 q1a un3.h rfl q11 rfl rfl (q71 h25) rfl) ?_)
 refine go ?_
 exact lC ⟨x24.forward,hF,rfl,rfl⟩
 refine go ?_
 exact xC ⟨z19,hF,rfl,rfl⟩
def q85 (p1:List Int) (z5:Int):Option ((List Int)) :=
 bindO (qmc p1 0 z5) fun l6 =>
 some l6
def q5m (p1:List Int):Nat→Int→Option ((List Int))
 | 0,_=>none
 | m1+1,z4 =>
  bindO (cond (decide (z4 > 0))
   (bindO (idxO p1 (IntKind.i64.wrap (z4 - 1))) fun x11 =>
   some (x11 == 0))
   (some false)) fun b13 =>
  cond b13
   ((q5m p1 m1) (IntKind.i64.wrap (z4 - 1)))
   (q85 p1 z4)
def qeo (n:Nat) (p1:List Int):Option ((List Int)) :=
 q5m p1 n (p1.length:Int)
theorem qp6 (n:Nat) (p1:List Int) (r:(List Int)) (hF:qeo n p1=some r):EvP Tryz.prog 107 [.isl false (List.map (cI .u64) p1)] (.isl false (List.map (cI .u64) r)):=by
 unfold qeo at hF
 refine bg1 21 fn107 ?_
 refine go ?_
 refine gL (fun m tm σ=>∃ z4,q5m p1 m z4=some r∧tm=fr 21 [(0,.iM (cI .u64) p1),(3,.i6 z4)]∧σ=⟨[],0⟩) (fun tm σ=>∃ z5,q85 p1 z5=some r∧tm=fr 21 [(0,.iM (cI .u64) p1),(3,.i6 z5)]∧σ=⟨[],0⟩) n ⟨(p1.length:Int),hF,rfl,rfl⟩ ?_ ?_
 rintro _ _ ⟨z5,hF,rfl,rfl⟩
 unfold q85 at hF
 obtain ⟨l6,h7,hF⟩:=q00 hF
 obtain ⟨h8,h9⟩:=qup (cI .u64) .i64 h7
 refine go ?_
 refine RS.q (u:=.iM (cI .u64) l6) rfl (q2c rfl qaj (qk2 rfl) qaj (qbr (cI .u64) un126.h (q0g if191.h) (q4c .u64) h8 h9)) ?_
 exact gx hF
 rintro (_|m1) _ _ ⟨z4,hF,rfl,rfl⟩
 cases hF
 unfold q5m at hF
 obtain ⟨b13,h14,hF⟩:=q00 hF
 refine gn ?_
 refine z73 (fun tm σ=>tm=fr 21 [(0,.iM (cI .u64) p1),(3,.i6 z4),(15,.bool b13)]∧σ=⟨[],0⟩) ?_ ?_
 rintro _ _ ⟨rfl,rfl⟩
 refine gF hF (fun h15 hF=>?_) (fun h15 hF=>?_)
 refine go ?_
 refine WPU.block ?_
 refine go ?_
 exact lC ⟨_,hF,rfl,rfl⟩
 refine go ?_
 exact xC ⟨z4,hF,rfl,rfl⟩
 refine go ?_
 rcases gB h14 with ⟨h10,h14⟩ | ⟨h10,h14⟩
 obtain ⟨x11,h12,h14⟩:=q00 h14
 obtain rfl:=sI h14
 refine go ?_
 refine RS.ix h12 ?_
 refine go ?_
 exact xC ⟨rfl,rfl⟩
 exact gy h14
def qcx (p1:List Int) (p2:List Int) (n:Nat) (l11:List Int):Option ((List Int)) :=
 needO ((if (p2.length:Int)<(p1.length:Int) then (p2.length:Int) else (p1.length:Int)).toNat=l11.length) (
 bindO (qeo n l11) fun r13 =>
 some r13)
def qen (p1:List Int) (p2:List Int) (n:Nat):Nat→Int→(List Int)→Option ((List Int))
 | 0,_,_=>none
 | m1+1,z9,l10 =>
  cond (decide (z9<(((if (p2.length:Int)<(p1.length:Int) then (p2.length:Int) else (p1.length:Int)).toNat:Nat):Int)))
   (bindO (idxO p1 z9) fun x16 =>
   bindO (idxO p2 z9) fun x18 =>
   bindO (qnw l10 0 ((if (p2.length:Int)<(p1.length:Int) then (p2.length:Int) else (p1.length:Int)).toNat) z9) fun x20 =>
   (qen p1 p2 n m1) (IntKind.i64.wrap (z9+1)) (l10.set z9.toNat (qxk .u64 x16 x18)))
   (qcx p1 p2 n l10)
def qif (n:Nat) (p1:List Int) (p2:List Int):Option ((List Int)) :=
 needO (0≤(if (p2.length:Int)<(p1.length:Int) then (p2.length:Int) else (p1.length:Int))∧8*(if (p2.length:Int)<(p1.length:Int) then (p2.length:Int) else (p1.length:Int)).toNat≤281474976710656∧(if (p2.length:Int)<(p1.length:Int) then (p2.length:Int) else (p1.length:Int))≤281474976710656) (
 qen p1 p2 n n 0 (List.replicate (if (p2.length:Int)<(p1.length:Int) then (p2.length:Int) else (p1.length:Int)).toNat 0))
theorem qwg (n:Nat) (p1:List Int) (p2:List Int) (r:(List Int)) (hF:qif n p1 p2=some r):EvP Tryz.prog 70 [.isl false (List.map (cI .u64) p1),.isl false (List.map (cI .u64) p2)] (.isl false (List.map (cI .u64) r)):=by
 unfold qif at hF
 refine bg2 33 fn70 ?_
 obtain ⟨h3,hF⟩:=q04 hF
 refine go ?_
 refine RS.q (u:=.i6 (if (p2.length:Int)<(p1.length:Int) then (p2.length:Int) else (p1.length:Int))) rfl (op_min rfl rfl rfl rfl rfl rfl rfl) (RS.q (u:=.sl 0 0 ((if (p2.length:Int)<(p1.length:Int) then (p2.length:Int) else (p1.length:Int)).toNat) ((if (p2.length:Int)<(p1.length:Int) then (p2.length:Int) else (p1.length:Int)).toNat)) (σ':=⟨[(0,.row (List.map (cI .u64) (List.replicate (if (p2.length:Int)<(p1.length:Int) then (p2.length:Int) else (p1.length:Int)).toNat 0)).flatten 191)],1⟩) rfl (qzq (cI .u64) 0 rfl rfl un126.h if191.h rfl rfl rfl rfl h3) ?_)
 refine go ?_
 refine RS.q rfl (qj6 rfl rfl rfl (z4o un126.h rfl)) ?_
 refine go ?_
 refine gL (fun m tm σ=>∃ z9 l10,qen p1 p2 n m z9 l10=some r∧tm=fr 33 [(0,.iM (cI .u64) p1),(1,.iM (cI .u64) p2),(5,.sl 0 0 ((if (p2.length:Int)<(p1.length:Int) then (p2.length:Int) else (p1.length:Int)).toNat) ((if (p2.length:Int)<(p1.length:Int) then (p2.length:Int) else (p1.length:Int)).toNat)),(14,.i6 (((if (p2.length:Int)<(p1.length:Int) then (p2.length:Int) else (p1.length:Int)).toNat:Nat):Int)),(15,.i6 z9)]∧σ=⟨[(0,.row (List.map (cI .u64) l10).flatten 191)],1⟩) (fun tm σ=>∃ l11,qcx p1 p2 n l11=some r∧tm=fr 33 [(5,.sl 0 0 ((if (p2.length:Int)<(p1.length:Int) then (p2.length:Int) else (p1.length:Int)).toNat) ((if (p2.length:Int)<(p1.length:Int) then (p2.length:Int) else (p1.length:Int)).toNat))]∧σ=⟨[(0,.row (List.map (cI .u64) l11).flatten 191)],1⟩) n ⟨0,(List.replicate (if (p2.length:Int)<(p1.length:Int) then (p2.length:Int) else (p1.length:Int)).toNat 0),hF,rfl,rfl⟩ ?_ ?_
 rintro _ _ ⟨l11,hF,rfl,rfl⟩
 unfold qcx at hF
 obtain ⟨h12,hF⟩:=q04 hF
 refine gn ?_
 refine WPU.ghost (tm':=fr 33 [(5,.iM (cI .u64) l11)]) (σ':=⟨[],1⟩) (Gh.trans (Gh.sub (l':=[(5,.sl 0 0 ((if (p2.length:Int)<(p1.length:Int) then (p2.length:Int) else (p1.length:Int)).toNat) ((if (p2.length:Int)<(p1.length:Int) then (p2.length:Int) else (p1.length:Int)).toNat))]) ⟨rfl,trivial⟩) (Gh.fzS (l':=[(5,.iM (cI .u64) l11)]) (h':=[]) 0 (.row (List.map (cI .u64) l11).flatten 191) 1 rfl (by simp) (by simp only [fzS,qlh,qg0,qal,qkw,qg1,qky,qg3,qhv,qhu,qht,qg2,qkx,qml,qkv,qkz,qrj,qmr,z2i (q4c .u64) h12]) (by simp only [fzH,fzB,ug,Nat.beq,zC,zD,qlh,qg0,qal,qkw,qg1,qky,qg3,qhv,qhu,qht,qg2,qkx,qml,qkv,qkz,qrj,qmr,z2i (q4c .u64) h12]))) NZ ?_
 obtain ⟨r13,h14,hF⟩:=q00 hF
 refine go ?_
 refine RS.cl rfl (pC (qp6 n l11 r13 h14) _) fn107 ?_
 exact gx hF
 rintro (_|m1) _ _ ⟨z9,l10,hF,rfl,rfl⟩
 cases hF
 unfold qen at hF
 refine gF hF (fun h15 hF=>?_) (fun h15 hF=>?_)
 refine go ?_
 refine WPU.block ?_
 obtain ⟨x16,h17,hF⟩:=q00 hF
 obtain ⟨x18,h19,hF⟩:=q00 hF
 obtain ⟨x20,h21,hF⟩:=q00 hF
 refine go ?_
 refine dE [] ?_
 refine gd ?_
 refine RD.ix h17 ?_
 refine gd ?_
 refine RD.ix h19 ?_
 refine gd ?_
 refine RD.q rfl (qa4 rfl rfl (qyy _ _ _) rfl) (RD.q rfl (q25 rfl rfl (qtk un126.h (q0g if191.h) rfl h21)) (z7e (u:=.junk) (σ':=⟨[(0,.row (List.map (cI .u64) (l10.set z9.toNat (qxk .u64 x16 x18))).flatten 191)],1⟩) rfl (z3i (cI .u64) (q0g if191.h) (q4c .u64) rfl rfl rfl rfl rfl rfl h21 rfl) rfl ?_))
 refine RD.done ⟨by kernel_rfl,trivial,?_⟩
 refine go ?_
 exact lC ⟨_,(l10.set z9.toNat (qxk .u64 x16 x18)),hF,rfl,rfl⟩
 refine go ?_
 exact xC ⟨l10,hF,rfl,rfl⟩
def q3m   : Option (Int) :=
 some (-1)
def q17 (p1:List q1c) (c2:List Int) (f1:q1c→(List Int)→Option (Bool)):Nat→Int→Option (Int)
 | 0,_=>none
 | m1+1,z6 =>
  cond (decide (z6<(p1.length:Int)))
   (bindO (idxO p1 z6) fun x8 =>
   bindO (f1 x8 c2) fun r10 =>
   cond r10
    (some z6)
    ((q17 p1 c2 f1 m1) (IntKind.i64.wrap (z6+1))))
   (q3m)
def q32 (f1:q1c→(List Int)→Option (Bool)) (n:Nat) (p1:List q1c) (c2:List Int):Option (Int) :=
 q17 p1 c2 f1 n 0
theorem qbs (f1:q1c→(List Int)→Option (Bool)) (hf1:∀ (a0:q1c) (a1:List Int) (r:Bool),f1 a0 a1=some r→EvU Tryz.prog 72 [.agg (q1p a0),.iptr [.isl false (List.map (cI .u64) a1)]] ⟨[],0⟩ (fun u _=>u = .bool r∧Bel 0 u)) (n:Nat) (p1:List q1c) (c2:List Int) (r:Int) (hF:q32 f1 n p1 c2=some r):EvP Tryz.prog 71 [.isl false (List.map q1p p1),.fn (.func 72) [] [.iptr [.isl false (List.map (cI .u64) c2)]]] (.int .i64 r):=by
 unfold q32 at hF
 have hf1S:∀ (a0:q1c) (a1:List Int) (r:Bool),f1 a0 a1=some r→∀ σ,EvU Tryz.prog 72 [.agg (q1p a0),.iptr [.iM (cI .u64) a1]] σ (fun u σ'=>u = .bool r∧σ'=σ):=fun a0 a1 r h σ=>z7k (hf1 a0 a1 r h) σ
 refine bg2 19 fn71 ?_
 refine go ?_
 refine gL (fun m tm σ=>∃ z6,q17 p1 c2 f1 m z6=some r∧tm=fr 19 [(0,.iM q1p p1),(1,.fn (.func 72) [] [.iptr [.iM (cI .u64) c2]]),(7,.i6 (p1.length:Int)),(8,.i6 z6)]∧σ=⟨[],0⟩) (fun tm σ=>q3m=some r∧tm=fr 19 []∧σ=⟨[],0⟩) n ⟨0,hF,rfl,rfl⟩ ?_ ?_
 rintro _ _ ⟨hF,rfl,rfl⟩
 unfold q3m at hF
 exact gx hF
 rintro (_|m1) _ _ ⟨z6,hF,rfl,rfl⟩
 cases hF
 unfold q17 at hF
 refine gF hF (fun h7 hF=>?_) (fun h7 hF=>?_)
 refine go ?_
 refine WPU.block ?_
 obtain ⟨x8,h9,hF⟩:=q00 hF
 obtain ⟨r10,h11,hF⟩:=q00 hF
 refine go ?_
 refine RS.ix h9 ?_
 refine go ?_
 refine RS.call (u:=.bool r10) (args:=[.agg (q1p x8),.iptr [.iM (cI .u64) c2]]) rfl (q0s rfl rfl fn72 hb72 rfl (rfl)) (hf1S x8 c2 r10 h11 _) rfl rfl ?_
 refine gF hF (fun h12 hF=>?_) (fun h12 hF=>?_)
 exact gx hF
 refine go ?_
 exact lC ⟨_,hF,rfl,rfl⟩
 refine go ?_
 exact xC ⟨hF,rfl,rfl⟩
def qm7 (n:Nat) (p1:List Int) (p2:Int):Option (Int) :=
 cond (decide (p2<(p1.length:Int)))
  (bindO (idxO p1 p2) fun x4 =>
  some x4)
  (some 0)
theorem qtb (n:Nat) (p1:List Int) (p2:Int) (r:Int) (hF:qm7 n p1 p2=some r):EvP Tryz.prog 138 [.isl false (List.map (cI .u64) p1),.int .i64 p2] (.int .u64 r):=by
 unfold qm7 at hF
 refine bg2 13 fn138 ?_
 refine gF hF (fun h3 hF=>?_) (fun h3 hF=>?_)
 obtain ⟨x4,h5,hF⟩:=q00 hF
 refine go ?_
 refine RS.ix h5 ?_
 exact gx hF
 exact gx hF
def qdt   : Option (Bool) :=
 some true
def qai (p1:List Int) (p2:List Int) (n:Nat):Nat→Int→Option (Bool)
 | 0,_=>none
 | m1+1,z7 =>
  cond (decide (z7<(p1.length:Int)))
   (bindO (idxO p1 z7) fun x9 =>
   bindO (qm7 n p2 z7) fun r11 =>
   cond ((qfr .u64 x9 r11) != 0)
    (some false)
    ((qai p1 p2 n m1) (IntKind.i64.wrap (z7+1))))
   (qdt)
def qa7 (n:Nat) (p1:List Int) (p2:List Int):Option (Bool) :=
 qai p1 p2 n n 0
theorem qig (n:Nat) (p1:List Int) (p2:List Int) (r:Bool) (hF:qa7 n p1 p2=some r):EvP Tryz.prog 108 [.isl false (List.map (cI .u64) p1),.isl false (List.map (cI .u64) p2)] (.bool r):=by
 unfold qa7 at hF
 refine bg2 21 fn108 ?_
 refine go ?_
 refine gL (fun m tm σ=>∃ z7,qai p1 p2 n m z7=some r∧tm=fr 21 [(1,.iM (cI .u64) p2),(7,.iM (cI .u64) p1),(8,.i6 (p1.length:Int)),(9,.i6 z7)]∧σ=⟨[],0⟩) (fun tm σ=>qdt=some r∧tm=fr 21 []∧σ=⟨[],0⟩) n ⟨0,hF,rfl,rfl⟩ ?_ ?_
 rintro _ _ ⟨hF,rfl,rfl⟩
 unfold qdt at hF
 exact gx hF
 rintro (_|m1) _ _ ⟨z7,hF,rfl,rfl⟩
 cases hF
 unfold qai at hF
 refine gF hF (fun h8 hF=>?_) (fun h8 hF=>?_)
 refine go ?_
 refine WPU.block ?_
 obtain ⟨x9,h10,hF⟩:=q00 hF
 refine go ?_
 refine RS.ix h10 ?_
 obtain ⟨r11,h12,hF⟩:=q00 hF
 refine go ?_
 refine RS.cl rfl (pC (qtb n p2 z7 r11 h12) _) fn138 (RS.q rfl (qa4 rfl rfl (qro _ _ _) rfl) ?_)
 refine gF hF (fun h13 hF=>?_) (fun h13 hF=>?_)
 exact gx hF
 refine go ?_
 exact lC ⟨_,hF,rfl,rfl⟩
 refine go ?_
 exact xC ⟨hF,rfl,rfl⟩
def qe3 (n:Nat) (p1:List Int) (p2:List Int):Option (Bool) :=
 bindO (bindO (qa7 n p1 p2) fun r3 =>
 cond r3
  (bindO (qa7 n p2 p1) fun r6 =>
  some r6)
  (some false)) fun b8 =>
 some b8
theorem qqy (n:Nat) (p1:List Int) (p2:List Int) (r:Bool) (hF:qe3 n p1 p2=some r):EvP Tryz.prog 73 [.isl false (List.map (cI .u64) p1),.isl false (List.map (cI .u64) p2)] (.bool r):=by
 unfold qe3 at hF
 refine bg2 13 fn73 ?_
 obtain ⟨b8,h9,hF⟩:=q00 hF
 refine gr ?_
 refine z73 (fun tm σ=>tm=fr 13 [(4,.bool b8)]∧σ=⟨[],0⟩) ?_ ?_
 rintro _ _ ⟨rfl,rfl⟩
 exact gx hF
 obtain ⟨r3,h4,h9⟩:=q00 h9
 refine go ?_
 refine RS.cl rfl (pC (qig n p1 p2 r3 h4) _) fn108 ?_
 refine go ?_
 rcases gB h9 with ⟨h5,h9⟩ | ⟨h5,h9⟩
 obtain ⟨r6,h7,h9⟩:=q00 h9
 obtain rfl:=sI h9
 refine go ?_
 refine RS.cl rfl (pC (qig n p2 p1 r6 h7) _) fn108 ?_
 refine go ?_
 exact xC ⟨rfl,rfl⟩
 exact gy h9
def qa8 (n:Nat) (p1:q1c) (c2:List Int):Option (Bool) :=
 bindO (qe3 n p1.Code c2) fun r3 =>
 some r3
theorem qpi (n:Nat) (p1:q1c) (c2:List Int) (r:Bool) (hF:qa8 n p1 c2=some r):EvP Tryz.prog 72 [.agg (q1p p1),.iptr [.isl false (List.map (cI .u64) c2)]] (.bool r):=by
 unfold qa8 at hF
 refine bg2 8 fn72 ?_
 obtain ⟨r3,h4,hF⟩:=q00 hF
 refine go ?_
 refine RS.cl rfl (pC (qqy n p1.Code c2 r3 h4) _) fn73 ?_
 exact gx hF
def q4v (n:Nat) (p1:q09) (p2:Int) (p3:Int):Option (Int×Bool) :=
 bindO (idxO p1.Types p2) fun x4 =>
 bindO (idxO p1.Types p3) fun x6 =>
 bindO (qif n x4.Code x6.Code) fun r8 =>
 cond ((r8.length:Int) == 0)
  (some (0,false))
  (bindO (q32 (qa8 n) n p1.Types r8) fun r11 =>
  cond (decide (r11<0))
   (some (0,false))
   (some (r11,true)))
theorem qmn (n:Nat) (p1:q09) (p2:Int) (p3:Int) (r:Int×Bool) (hF:q4v n p1 p2 p3=some r):EvP Tryz.prog 46 [.agg (q0m p1),.int .i64 p2,.int .i64 p3] (.tup [.int .i64 r.1,.bool r.2]):=by
 unfold q4v at hF
 refine bg3 33 fn46 ?_
 obtain ⟨x4,h5,hF⟩:=q00 hF
 obtain ⟨x6,h7,hF⟩:=q00 hF
 obtain ⟨r8,h9,hF⟩:=q00 hF
 refine go ?_
 refine dE [(0,13),(1,13),(2,13),(3,13),(4,13),(5,13),(6,13),(7,13),(8,13),(9,13),(10,13),(11,13)] ?_
 refine gd ?_
 refine RD.ix h5 ?_
 refine gd ?_
 refine RD.ix h7 ?_
 refine gd ?_
 refine RD.fl rfl (pC (qwg n x4.Code x6.Code r8 h9)) fn70 ?_
 refine RD.g ?_
 refine z7f ?_
 refine RD.done ⟨by kernel_rfl,⟨q77 un27.h rfl (q0g if24.h) rfl rfl rfl,⟨q60 un24.h rfl rfl rfl rfl,⟨q0w rfl,⟨q25 rfl rfl (qom q1p un24.h (q0g if132.h) qk9 h5 rfl),⟨z6e un132.h rfl (q0g if126.h) rfl rfl,⟨qrt un126.h rfl rfl rfl,⟨q77 un27.h rfl (q0g if24.h) rfl rfl rfl,⟨q60 un24.h rfl rfl rfl rfl,⟨q0w rfl,⟨q25 rfl rfl (qom q1p un24.h (q0g if132.h) qk9 h7 rfl),⟨z6e un132.h rfl (q0g if126.h) rfl rfl,⟨qrt un126.h rfl rfl rfl,trivial⟩⟩⟩⟩⟩⟩⟩⟩⟩⟩⟩⟩,?_⟩
 refine gF hF (fun h10 hF=>?_) (fun h10 hF=>?_)
 refine go ?_
 obtain rfl:=sI hF
 exact rt2 rfl rfl rfl rfl rfl
 obtain ⟨r11,h12,hF⟩:=q00 hF
 refine go ?_
 refine RS.q rfl (qs4 rfl rfl) (RS.cl rfl (vw (qbs (qa8 n) (qpi n) n p1.Types r8 r11 h12) (z77 1 1)) fn71 ?_)
 refine gF hF (fun h13 hF=>?_) (fun h13 hF=>?_)
 refine go ?_
 obtain rfl:=sI hF
 exact rt2 rfl rfl rfl rfl rfl
 refine go ?_
 obtain rfl:=sI hF
 exact rt2 rfl rfl rfl rfl rfl
def q6r (n:Nat) (p1:List q0f):Option ((List q0f)) :=
 bothL p1 fun b2 =>
 cond b2
  (some ([]:List q0f))
  (needO (p1.length*16≤140737488355328∧p1.length≤140737488355328) (
  some p1))
theorem qjk (n:Nat) (p1:List q0f) (r:(List q0f)) (hF:q6r n p1=some r):EvU Tryz.prog 74 [.isl false (List.map q06 p1)] ⟨[],0⟩ (fun u σ'=>∃ t,u = .vl 1 t 0 r.length∧σ'=⟨[(1,.bv q06 r 98 2 t)],1+1⟩):=by
 unfold q6r at hF
 refine bg1 8 fn74 ?_
 refine go ?_
 refine RS.nilq rfl rfl un76.h rfl rfl rfl rfl ?_
 intro b2 h3
 replace hF:=qwh hF b2 fun h=>List.map_eq_nil_iff.1 (h3 h)
 refine gF hF (fun h4 hF=>?_) (fun h4 hF=>?_)
 refine go ?_
 obtain rfl:=sI hF
 exact ⟨.inr rfl,[.nils],q2y rfl q24,.vl 1 0 0 0,⟨[(1,.bv q06 ([]:List q0f) 98 2 0)],2⟩,NZ,Gh.trans (Gh.fresh (tm:=[.nils]) 98 2 (by decide) NZ) (Gh.trans (Gh.nilvec (tm:=[.nils]) 0 98 2 (by decide) NZ rfl) (Gh.trans (z7m (fun k=>Nat.beq k 1)) (Gh.to (n1:=2) [] rfl rfl NZ NL BUL.h BH.h))),0,rfl,rfl⟩
 obtain ⟨h5,hF⟩:=q04 hF
 refine go ?_
 refine RS.q (u:=.sl 0 0 0 0) (σ':=⟨[(0,.row [] 98)],1⟩) rfl (qc4 un76.h if98.h rfl rfl rfl rfl rfl rfl rfl) ?_
 refine go ?_
 refine RS.q (u:=.vl 1 0 0 p1.length) (σ':=⟨[(1,.bv q06 p1 98 2 0),(0,.row [] 98)],2⟩) rfl (qdn rfl rfl rfl rfl (qt5 q06 p1 un76.h un76.h if98.h rfl rfl rfl (qnh q06 q0z) h5)) ?_
 refine go ?_
 obtain rfl:=sI hF
 exact ⟨.inr rfl,[.vl 1 0 0 p1.length],q2y rfl q24,.vl 1 0 0 p1.length,⟨[(1,.bv q06 p1 98 2 0)],2⟩,NZ,Gh.trans (z7m (fun k=>Nat.beq k 1)) (Gh.to (n1:=2) [] rfl rfl NZ NL BUL.h BH.h),0,rfl,rfl⟩
def q0q (rc1:Int→Int→Option (Int×Bool)) (z25:Int) (z26:Int):Option (Int×Bool) :=
 rc1 z25 z26
def q1g (p1:List q0f) (p2:Int) (f2:q0f→Int→Option (Int)) (z10:Int):Option (Int×Bool) :=
 bindO (cond (decide (z10<(p1.length:Int)))
  (bindO (idxO p1 z10) fun x12 =>
  bindO (f2 x12 p2) fun r14 =>
  some (r14 == 0))
  (some false)) fun b16 =>
 some (z10,b16)
def q0h (p1:List q0f) (p2:Int) (f2:q0f→Int→Option (Int)):Nat→Int→Int→Option (Int×Bool)
 | 0,_,_=>none
 | m1+1,z8,z9 =>
  cond (decide (z8<z9))
   (bindO (idxO p1 (IntKind.i64.wrap ((IntKind.u64.wrap (IntKind.i64.wrap (z8+z9))).fdiv (2 ^ (min (1:Int).toNat IntKind.u64.bits))))) fun x20 =>
   bindO (f2 x20 p2) fun r22 =>
   cond (decide (r22<0))
    (q0q (q0h p1 p2 f2 m1) (IntKind.i64.wrap ((IntKind.i64.wrap ((IntKind.u64.wrap (IntKind.i64.wrap (z8+z9))).fdiv (2 ^ (min (1:Int).toNat IntKind.u64.bits))))+1)) z9)
    (q0q (q0h p1 p2 f2 m1) z8 (IntKind.i64.wrap ((IntKind.u64.wrap (IntKind.i64.wrap (z8+z9))).fdiv (2 ^ (min (1:Int).toNat IntKind.u64.bits))))))
   (q1g p1 p2 f2 z8)
def q1r (f2:q0f→Int→Option (Int)) (n:Nat) (p1:List q0f) (p2:Int):Option (Int×Bool) :=
 q0h p1 p2 f2 n 0 (p1.length:Int)
theorem q7x (f2:q0f→Int→Option (Int)) (hf2:∀ (a0:q0f) (a1:Int) (r:Int),f2 a0 a1=some r→EvU Tryz.prog 76 [.agg (q06 a0),.int .i64 a1] ⟨[],0⟩ (fun u _=>u = .int .i64 r∧Bel 0 u)) (n:Nat) (p1:List q0f) (p2:Int) (r:Int×Bool) (hF:q1r f2 n p1 p2=some r):EvP Tryz.prog 75 [.isl false (List.map q06 p1),.int .i64 p2,.fn (.func 76) [] []] (.tup [.int .i64 r.1,.bool r.2]):=by
 unfold q1r at hF
 have hf2S:∀ (a0:q0f) (a1:Int) (r:Int),f2 a0 a1=some r→∀ σ,EvU Tryz.prog 76 [.agg (q06 a0),.i6 a1] σ (fun u σ'=>u = .i6 r∧σ'=σ):=fun a0 a1 r h σ=>z7k (hf2 a0 a1 r h) σ
 refine bg3 49 fn75 ?_
 refine go ?_
 refine gL (fun m tm σ=>∃ z8 z9,q0h p1 p2 f2 m z8 z9=some r∧tm=fr 49 [(0,.iM q06 p1),(1,.i6 p2),(2,.fn (.func 76) [] []),(8,.i6 (p1.length:Int)),(9,.i6 z8),(10,.i6 z9)]∧σ=⟨[],0⟩) (fun tm σ=>∃ z10,q1g p1 p2 f2 z10=some r∧tm=fr 49 [(0,.iM q06 p1),(1,.i6 p2),(2,.fn (.func 76) [] []),(8,.i6 (p1.length:Int)),(9,.i6 z10)]∧σ=⟨[],0⟩) n ⟨0,(p1.length:Int),hF,rfl,rfl⟩ ?_ ?_
 rintro _ _ ⟨z10,hF,rfl,rfl⟩
 unfold q1g at hF
 obtain ⟨b16,h17,hF⟩:=q00 hF
 refine gn ?_
 refine z73 (fun tm σ=>tm=fr 49 [(6,.i6 z10),(7,.bool b16)]∧σ=⟨[],0⟩) ?_ ?_
 rintro _ _ ⟨rfl,rfl⟩
 refine go ?_
 obtain rfl:=sI hF
 exact rt2 rfl rfl rfl rfl rfl
 refine go ?_
 rcases gB h17 with ⟨h11,h17⟩ | ⟨h11,h17⟩
 obtain ⟨x12,h13,h17⟩:=q00 h17
 obtain ⟨r14,h15,h17⟩:=q00 h17
 obtain rfl:=sI h17
 refine go ?_
 refine RS.ix h13 ?_
 refine go ?_
 refine RS.cl rfl (hf2S x12 p2 r14 h15 _) fn76 ?_
 refine go ?_
 exact xC ⟨rfl,rfl⟩
 exact gy h17
 rintro (_|m1) _ _ ⟨z8,z9,hF,rfl,rfl⟩
 cases hF
 unfold q0h at hF
 refine gF hF (fun h18 hF=>?_) (fun h18 hF=>?_)
 refine go ?_
 refine WPU.block ?_
 refine go ?_
 refine RS.q (u:=.int .u64 (IntKind.u64.wrap (IntKind.i64.wrap (z8+z9)))) rfl (qpq rfl rfl (by simp only [convX,un3.h,un193.h]<;>rfl) rfl) ?_
 refine RS.q rfl (qa4 rfl rfl (z4m _ (by decide)) rfl) ?_
 refine RS.q (u:=.i6 (IntKind.i64.wrap ((IntKind.u64.wrap (IntKind.i64.wrap (z8+z9))).fdiv (2 ^ (min (1:Int).toNat IntKind.u64.bits))))) rfl (qpq rfl rfl (by simp only [convX,un193.h,un3.h]<;>rfl) rfl) ?_
 obtain ⟨x20,h21,hF⟩:=q00 hF
 obtain ⟨r22,h23,hF⟩:=q00 hF
 refine go ?_
 refine RS.ix h21 ?_
 refine go ?_
 refine RS.cl rfl (hf2S x20 p2 r22 h23 _) fn76 ?_
 refine gn ?_
 refine z73 (fun tm σ=>∃ z25 z26,q0q (q0h p1 p2 f2 m1) z25 z26=some r∧tm=fr 49 [(0,.iM q06 p1),(1,.i6 p2),(2,.fn (.func 76) [] []),(8,.i6 (p1.length:Int)),(9,.i6 z25),(10,.i6 z26)]∧σ=⟨[],0⟩) ?_ ?_
 rintro _ _ ⟨z25,z26,hF,rfl,rfl⟩
 unfold q0q at hF
 refine go ?_
 exact lC ⟨z25,z26,hF,rfl,rfl⟩
 refine cF hF (fun h24 hF=>?_) (fun h24 hF=>?_)
 refine go ?_
 exact xC ⟨(IntKind.i64.wrap ((IntKind.i64.wrap ((IntKind.u64.wrap (IntKind.i64.wrap (z8+z9))).fdiv (2 ^ (min (1:Int).toNat IntKind.u64.bits))))+1)),z9,hF,rfl,rfl⟩
 refine go ?_
 exact xC ⟨z8,(IntKind.i64.wrap ((IntKind.u64.wrap (IntKind.i64.wrap (z8+z9))).fdiv (2 ^ (min (1:Int).toNat IntKind.u64.bits)))),hF,rfl,rfl⟩
 refine go ?_
 exact xC ⟨z8,hF,rfl,rfl⟩
def q5y (n:Nat) (p1:q0f) (p2:Int):Option (Int) :=
 some (IntKind.i64.wrap (p1.Feat - p2))
theorem qll (n:Nat) (p1:q0f) (p2:Int) (r:Int) (hF:q5y n p1 p2=some r):EvP Tryz.prog 76 [.agg (q06 p1),.int .i64 p2] (.int .i64 r):=by
 unfold q5y at hF
 refine bg2 9 fn76 ?_
 exact gx hF
def qa0  (l17:List q20) (l19:List q0f):Option ((List q0f)×(List q20)) :=
 some (l19,l17)
def q52 (p2:List q0f) (n:Nat):Nat→Int→(List q20)→(List q0f)→Option ((List q0f)×(List q20))
 | 0,_,_,_=>none
 | m1+1,z12,l13,l15 =>
  cond (decide (z12<(p2.length:Int)))
   (bindO (idxO p2 z12) fun x22 =>
   bindO (q1r (q5y n) n l15 x22.Feat) fun r24 =>
   cond r24.2
    (bindO (idxO l15 r24.1) fun x27 =>
    needO ((l13.length+1)*16≤140737488355328∧l13.length+1≤140737488355328) (
    (q52 p2 n m1) (IntKind.i64.wrap (z12+1)) (l13++[(q20.mk x27.To x22.To)]) l15))
    (bindO (q61 n r24.1 l15 x22.Feat x22.To) fun r30 =>
    (q52 p2 n m1) (IntKind.i64.wrap (z12+1)) l13 r30))
   (qa0 l13 l15)
def qbu (n:Nat) (p1:List q0f) (p2:List q0f):Option ((List q0f)×(List q20)) :=
 bindO (q6r n p1) fun r3 =>
 q52 p2 n n 0 ([]:List q20) r3
theorem qob (n:Nat) (p1:List q0f) (p2:List q0f) (r:(List q0f)×(List q20)) (hF:qbu n p1 p2=some r):EvP Tryz.prog 47 [.isl false (List.map q06 p1),.isl false (List.map q06 p2)] (.tup [.isl false (List.map q06 r.1),.isl false (List.map q1w r.2)]):=by
 unfold qbu at hF
 refine bg2 47 fn47 ?_
 obtain ⟨r3,h4,hF⟩:=q00 hF
 refine go ?_
 refine z74 (R:=fun u σ'=>u = .vl 1 0 0 r3.length∧σ'=⟨[(1,.bv q06 r3 98 2 0)],2⟩) (args:=[.iM q06 p1]) rfl (q0s rfl rfl fn74 hb74 rfl rfl) (EvU.own0 q06 (qjk n p1 r3 h4) _ 1 rfl) rfl rfl ?_
 rintro _ _ ⟨rfl,rfl⟩
 refine gr ?_
 refine gr ?_
 refine gV 7 100 2 3 ?_
 refine gL (fun m tm σ=>∃ z12 l13,∃ t14 l15 t16,q52 p2 n m z12 l13 l15=some r∧tm=fr 47 [(6,.vl 1 t16 0 l15.length),(7,.vl 2 t14 0 l13.length),(14,.iM q06 p2),(15,.i6 (p2.length:Int)),(16,.i6 z12)]∧σ=⟨[(2,.bv q1w l13 100 2 t14),(1,.bv q06 l15 98 2 t16)],3⟩) (fun tm σ=>∃ l17 t18,∃ l19 t20,qa0 l17 l19=some r∧tm=fr 47 [(6,.vl 1 t20 0 l19.length),(7,.vl 2 t18 0 l17.length)]∧σ=⟨[(2,.bv q1w l17 100 2 t18),(1,.bv q06 l19 98 2 t20)],3⟩) n ⟨0,([]:List q20),0,r3,0,hF,rfl,rfl⟩ ?_ ?_
 rintro _ _ ⟨l17,t18,l19,t20,hF,rfl,rfl⟩
 unfold qa0 at hF
 refine go ?_
 obtain rfl:=sI hF
 exact ⟨.inr rfl,[.vl 1 t20 0 l19.length,.vl 2 t18 0 l17.length],q2y rfl (q2y rfl (q24)),.tup [.iM q06 l19,.iM q1w l17],⟨[],0⟩,zF _,Gh.trans (z77 1 2) (Gh.trans (z77 2 2) (z7c (.tup [.iM q06 l19,.iM q1w l17]) rfl)),rfl,BU.h⟩
 rintro (_|m1) _ _ ⟨z12,l13,t14,l15,t16,hF,rfl,rfl⟩
 cases hF
 unfold q52 at hF
 refine gF hF (fun h21 hF=>?_) (fun h21 hF=>?_)
 refine go ?_
 refine WPU.block ?_
 obtain ⟨x22,h23,hF⟩:=q00 hF
 refine go ?_
 refine RS.ix h23 ?_
 obtain ⟨r24,h25,hF⟩:=q00 hF
 refine go ?_
 refine RS.cl rfl (EvU.viewT (q7x (q5y n) (qll n) n l15 x22.Feat r24 h25) BUL.h (by simp only [toV,toVL,okL,okC,zC]<;>rfl) (fun m=>by simp [ren,renL]) (z77 1 2)) fn75 ?_
 refine gF hF (fun h26 hF=>?_) (fun h26 hF=>?_)
 obtain ⟨x27,h28,hF⟩:=q00 hF
 obtain ⟨h29,hF⟩:=q04 hF
 refine go ?_
 refine dE [(0,9)] ?_
 refine gd ?_
 refine RD.q rfl (q25 rfl rfl (q40 q06 un76.h (q0g if98.h) (by decide) q0z (vo rfl) h28)) ?_
 refine RD.q rfl (q77 un98.h rfl (q0g if3.h) rfl (qc2 rfl) rfl) (RD.q (u:=.i6 x27.To) rfl (qk8 q06 un3.h rfl q0z rfl rfl (q71 h28) rfl) ?_)
 refine gd ?_
 refine RD.q (u:=.agg [.i6 x27.To,.i6 x22.To]) rfl (qj5 rfl (by kernel_rfl)) ?_
 refine RD.g ?_
 refine RD.g ?_
 refine gd ?_
 refine RD.done ⟨by kernel_rfl,⟨q0w rfl,trivial⟩,?_⟩
 refine go ?_
 exact lC ⟨_,(l13++[(q20.mk x27.To x22.To)]),(t14+1),l15,t16,hF,rfl,rfl⟩
 obtain ⟨r30,h31,hF⟩:=q00 hF
 refine go ?_
 refine RS.q (u:=.sl 4 0 1 1) (σ':=⟨[(4,.row (q06 x22) 98),(3,.row (q06 x22) 98),(2,.bv q1w l13 100 2 t14),(1,.bv q06 l15 98 2 t16)],5⟩) rfl (qc4 un76.h if98.h rfl rfl rfl rfl rfl rfl rfl) (z74 (args:=[.vl 1 t16 0 l15.length,.i6 r24.1,.sl 4 0 1 1]) rfl (q0s rfl rfl fn77 hb77 rfl rfl) (EvU.st [1,4] (qfm n r24.1 l15 x22.Feat x22.To r30 h31 t16)) rfl rfl ?_)
 rintro _ _ ⟨t32,rfl,rfl⟩
 refine go ?_
 exact lC ⟨_,l13,t14,r30,(t32 0),hF,rfl,rfl⟩
 refine go ?_
 exact xC ⟨l13,t14,l15,t16,hF,rfl,rfl⟩
def q7z (n:Nat) (p1:Int) (p2:Int) (p3:Int) (p4:List q1c) (p5:List q0b) (p6:List q0d) (p8:List q08) (p9:Nat) (p10:List q1e):Option ((List q0d)×(List q08)×Nat) :=
 bindO (idxO p6 p1) fun x12 =>
 needO ((p8.length+1)*48≤140737488355328∧p8.length+1≤140737488355328) (
 bindO (idxO p6 p1) fun x15 =>
 some ((p6.set (0+p1.toNat) (q0d.mk p2 p3 [])),(p8++[(q08.mk p1 x12)]),(p9+1)))
theorem qi8 (n:Nat) (p1:Int) (p2:Int) (p3:Int) (p4:List q1c) (p5:List q0b) (p6:List q0d) (p8:List q08) (p9:Nat) (p10:List q1e) (r:(List q0d)×(List q08)×Nat) (hF:q7z n p1 p2 p3 p4 p5 p6 p8 p9 p10=some r):∀ t7 t11:Nat,EvU Tryz.prog 48 [.ptr 0 0 0,.int .i64 p1,.agg [.int .i64 p2,.int .i64 p3,.nils]] ⟨q0e p4 p5 t7 p9 t11 p6 p8 p10,4⟩ (fun u σ'=>∃ t:Nat→Nat,u = .tup []∧σ'=⟨q0e p4 p5 t7 r.2.2 t11 r.1 r.2.1 p10,4⟩):=by
 unfold q7z at hF
 intro t7 t11
 refine bg3 31 fn48 ?_
 obtain ⟨x12,h13,hF⟩:=q00 hF
 obtain ⟨h14,hF⟩:=q04 hF
 refine go ?_
 refine dE [(0,14),(0,15),(1,14),(2,14),(3,14),(4,14)] ?_
 refine gd ?_
 refine RD.q (u:=.ptr 0 0 0) rfl (q0o rfl rfl) ?_
 refine gd ?_
 refine RD.q (u:=.ptr 0 0 0) rfl (q0o rfl rfl) ?_
 refine gd ?_
 refine RD.q rfl (q25 rfl rfl (q40 q1a un81.h (q0g if96.h) (by decide) q11 (vo rfl) h13)) ?_
 refine RD.q (u:=.agg (q1a x12)) rfl (ql2 q1a un96.h rfl (q0g if96.h) q11 rfl rfl h13 rfl) ?_
 refine gd ?_
 refine RD.g ?_
 refine RD.act (u:=.vl 2 (p9+1) 0 ((p8++[(q08.mk p1 x12)]).length)) (σ':=⟨[(5,.row [.i6 p1,.i6 x12.forward,.i6 x12.kind,.iM q06 x12.arcs] 151),(4,.row [.i6 p2,.i6 p3,.nils] 96),(0,.row [.iM q1p p4,.iM q0k p5,.vl 1 t7 0 p6.length,.vl 2 p9 0 p8.length,.vl 3 t11 0 p10.length] 85),(1,.bv q1a p6 96 3 t7),(2,.bv q1b (p8++[(q08.mk p1 x12)]) 151 4 (p9+1)),(3,.bv q5z p10 94 2 t11)],6⟩) rfl (qdn rfl rfl rfl (rfl) (qkn q1b ([(q08.mk p1 x12)]) un82.h un82.h if151.h rfl q5c rfl (qni q1b [(q08.mk p1 x12)] rfl rfl rfl rfl) h14)) rfl rfl (RD.q (u:=.ptr 0 0 0) rfl (q0o rfl rfl) ?_)
 refine gd ?_
 refine z7f ?_
 refine RD.done ⟨by kernel_rfl,⟨q0w rfl,⟨q0w rfl,⟨q0w rfl,⟨q0o rfl rfl,⟨q77 un85.h rfl (q0g if82.h) rfl rfl rfl,⟨q60 un82.h rfl rfl rfl rfl,trivial⟩⟩⟩⟩⟩⟩,?_⟩
 obtain ⟨x15,h16,hF⟩:=q00 hF
 refine gn ?_
 refine z73 (fun tm σ=>tm=fr 31 []∧σ=⟨(5,.row [.i6 p1,.i6 x12.forward,.i6 x12.kind,.iM q06 x12.arcs] 151)::(4,.row [.i6 p2,.i6 p3,.nils] 96)::q0e p4 p5 t7 (p9+1) t11 (p6.set (0+p1.toNat) (q0d.mk p2 p3 [])) (p8++[(q08.mk p1 x12)]) p10,6⟩) ?_ ?_
 rintro _ _ ⟨rfl,rfl⟩
 refine go ?_
 obtain rfl:=sI hF
 exact ⟨.inl rfl,[],q24,.tup [],⟨q0e p4 p5 t7 (p9+1) t11 (p6.set (0+p1.toNat) (q0d.mk p2 p3 [])) (p8++[(q08.mk p1 x12)]) p10,4⟩,NL,Gh.to (n1:=4) [] rfl rfl NL NL BUL.h BH.h,stF [],rfl,rfl⟩
 refine dE [] ?_
 refine gd ?_
 refine RD.q (u:=.ptr 0 0 0) rfl (q0o rfl rfl) ?_
 refine gd ?_
 refine RD.q rfl (q25 rfl rfl (q40 q1a un81.h (q0g if96.h) (by decide) q11 (vo rfl) h16)) ?_
 refine z7e (u:=.junk) (σ':=⟨(5,.row [.i6 p1,.i6 x12.forward,.i6 x12.kind,.iM q06 x12.arcs] 151)::(4,.row [.i6 p2,.i6 p3,.nils] 96)::qgp p4 p5 t7 p6.length (p9+1) t11 (p6.set (0+p1.toNat) (q0d.mk p2 p3 [])) (p8++[(q08.mk p1 x12)]) p10,6⟩) rfl (qss q1a (q0g if96.h) q11 rfl rfl rfl rfl rfl rfl rfl (q71 h16) rfl) rfl ?_
 refine RD.done ⟨by kernel_rfl,trivial,?_⟩
 refine go ?_
 exact ⟨_,_,⟨rfl,rfl⟩,NL,z75 trivial (by simp only [q0e,qgp,List.length_set])⟩
def q7y (n:Nat) (p1:Int) (p2:q0d) (p3:List q1c) (p4:List q0b) (p5:List q0d) (p7:List q08) (p8:Nat) (p9:List q1e):Option ((List q0d)×(List q08)×Nat) :=
 bindO (idxO p5 p1) fun x11 =>
 needO ((p7.length+1)*48≤140737488355328∧p7.length+1≤140737488355328) (
 bindO (idxO p5 p1) fun x14 =>
 some ((p5.set (0+p1.toNat) p2),(p7++[(q08.mk p1 x11)]),(p8+1)))
theorem qi7 (n:Nat) (p1:Int) (p2:q0d) (p3:List q1c) (p4:List q0b) (p5:List q0d) (p7:List q08) (p8:Nat) (p9:List q1e) (r:(List q0d)×(List q08)×Nat) (hF:q7y n p1 p2 p3 p4 p5 p7 p8 p9=some r):∀ t6 t10:Nat,EvU Tryz.prog 48 [.ptr 0 0 0,.int .i64 p1,.agg (q1a p2)] ⟨q0e p3 p4 t6 p8 t10 p5 p7 p9,4⟩ (fun u σ'=>∃ t:Nat→Nat,u = .tup []∧σ'=⟨q0e p3 p4 t6 r.2.2 t10 r.1 r.2.1 p9,4⟩):=by
 unfold q7y at hF
 intro t6 t10
 refine bg3 31 fn48 ?_
 obtain ⟨x11,h12,hF⟩:=q00 hF
 obtain ⟨h13,hF⟩:=q04 hF
 refine go ?_
 refine dE [(0,14),(0,15),(1,14),(2,14),(3,14),(4,14)] ?_
 refine gd ?_
 refine RD.q (u:=.ptr 0 0 0) rfl (q0o rfl rfl) ?_
 refine gd ?_
 refine RD.q (u:=.ptr 0 0 0) rfl (q0o rfl rfl) ?_
 refine gd ?_
 refine RD.q rfl (q25 rfl rfl (q40 q1a un81.h (q0g if96.h) (by decide) q11 (vo rfl) h12)) ?_
 refine RD.q (u:=.agg (q1a x11)) rfl (ql2 q1a un96.h rfl (q0g if96.h) q11 rfl rfl h12 rfl) ?_
 refine gd ?_
 refine RD.g ?_
 refine RD.act (u:=.vl 2 (p8+1) 0 ((p7++[(q08.mk p1 x11)]).length)) (σ':=⟨[(5,.row [.i6 p1,.i6 x11.forward,.i6 x11.kind,.iM q06 x11.arcs] 151),(4,.row (q1a p2) 96),(0,.row [.iM q1p p3,.iM q0k p4,.vl 1 t6 0 p5.length,.vl 2 p8 0 p7.length,.vl 3 t10 0 p9.length] 85),(1,.bv q1a p5 96 3 t6),(2,.bv q1b (p7++[(q08.mk p1 x11)]) 151 4 (p8+1)),(3,.bv q5z p9 94 2 t10)],6⟩) rfl (qdn rfl rfl rfl (rfl) (qkn q1b ([(q08.mk p1 x11)]) un82.h un82.h if151.h rfl q5c rfl (qni q1b [(q08.mk p1 x11)] rfl rfl rfl rfl) h13)) rfl rfl (RD.q (u:=.ptr 0 0 0) rfl (q0o rfl rfl) ?_)
 refine gd ?_
 refine z7f ?_
 refine RD.done ⟨by kernel_rfl,⟨q0w rfl,⟨q0w rfl,⟨q0w rfl,⟨q0o rfl rfl,⟨q77 un85.h rfl (q0g if82.h) rfl rfl rfl,⟨q60 un82.h rfl rfl rfl rfl,trivial⟩⟩⟩⟩⟩⟩,?_⟩
 obtain ⟨x14,h15,hF⟩:=q00 hF
 refine gn ?_
 refine z73 (fun tm σ=>tm=fr 31 []∧σ=⟨(5,.row [.i6 p1,.i6 x11.forward,.i6 x11.kind,.iM q06 x11.arcs] 151)::(4,.row (q1a p2) 96)::q0e p3 p4 t6 (p8+1) t10 (p5.set (0+p1.toNat) p2) (p7++[(q08.mk p1 x11)]) p9,6⟩) ?_ ?_
 rintro _ _ ⟨rfl,rfl⟩
 refine go ?_
 obtain rfl:=sI hF
 exact ⟨.inl rfl,[],q24,.tup [],⟨q0e p3 p4 t6 (p8+1) t10 (p5.set (0+p1.toNat) p2) (p7++[(q08.mk p1 x11)]) p9,4⟩,NL,Gh.to (n1:=4) [] rfl rfl NL NL BUL.h BH.h,stF [],rfl,rfl⟩
 refine dE [] ?_
 refine gd ?_
 refine RD.q (u:=.ptr 0 0 0) rfl (q0o rfl rfl) ?_
 refine gd ?_
 refine RD.q rfl (q25 rfl rfl (q40 q1a un81.h (q0g if96.h) (by decide) q11 (vo rfl) h15)) ?_
 refine z7e (u:=.junk) (σ':=⟨(5,.row [.i6 p1,.i6 x11.forward,.i6 x11.kind,.iM q06 x11.arcs] 151)::(4,.row (q1a p2) 96)::qgp p3 p4 t6 p5.length (p8+1) t10 (p5.set (0+p1.toNat) p2) (p7++[(q08.mk p1 x11)]) p9,6⟩) rfl (qss q1a (q0g if96.h) q11 rfl rfl rfl rfl rfl rfl rfl (q71 h15) rfl) rfl ?_
 refine RD.done ⟨by kernel_rfl,trivial,?_⟩
 refine go ?_
 exact ⟨_,_,⟨rfl,rfl⟩,NL,z75 trivial (by simp only [q0e,qgp,List.length_set])⟩
def q56  (l34:List q20) (l36:List q0d) (l37:List q08) (t38:Nat):Option (Bool×(List q0d)×(List q08)×Nat) :=
 some (true,l36,l37,t38)
def q13 (p3:List q1c) (p4:List q0b) (p7:List q08) (p9:List q1e) (n:Nat):Nat→(List q20)→(List q0d)→(List q08)→Nat→Option (Bool×(List q0d)×(List q08)×Nat)
 | 0,_,_,_,_=>none
 | m1+1,l29,l31,l32,t33 =>
  cond (decide ((l29.length:Int) > 0))
   (bindO (idxO l29 (IntKind.i64.wrap ((l29.length:Int) - 1))) fun x40 =>
   needO ((0:Int)≤(IntKind.i64.wrap ((l29.length:Int) - 1))∧(IntKind.i64.wrap ((l29.length:Int) - 1))≤((l29.length:Nat):Int)) (
   needO (((IntKind.i64.wrap ((l29.length:Int) - 1)).toNat)≤l29.length) (
   bindO (q45 n x40.E0 p3 p4 l31 l32 p9) fun r44 =>
   bindO (q45 n x40.E1 p3 p4 l31 l32 p9) fun r47 =>
   cond (r44 == r47)
    ((q13 p3 p4 p7 p9 n m1) (l29.take ((IntKind.i64.wrap ((l29.length:Int) - 1)).toNat)) l31 l32 t33)
    (bindO (idxO l31 r44) fun x51 =>
    bindO (idxO l31 r47) fun x53 =>
    bindO (q4v n (q09.mk p3 p4) x51.kind x53.kind) fun r55 =>
    cond (!r55.2)
     (bindO (q44 n (p7.length:Int) p3 p4 l31 l32 p9) fun r58 =>
     some (false,r58.1,r58.2,t33))
     (bindO (idxO l31 r44) fun x61 =>
     bindO (idxO l31 r47) fun x63 =>
     bindO (qbu n x61.arcs x63.arcs) fun r65 =>
     bindO (q7y n r44 (q0d.mk (-1) r55.1 r65.1) p3 p4 l31 l32 t33 p9) fun r67 =>
     bindO (q7z n r47 r44 0 p3 p4 r67.1 r67.2.1 r67.2.2 p9) fun r70 =>
     needO (((l29.take ((IntKind.i64.wrap ((l29.length:Int) - 1)).toNat)).length+r65.2.length)*16≤140737488355328∧(l29.take ((IntKind.i64.wrap ((l29.length:Int) - 1)).toNat)).length+r65.2.length≤140737488355328) (
     (q13 p3 p4 p7 p9 n m1) ((l29.take ((IntKind.i64.wrap ((l29.length:Int) - 1)).toNat))++r65.2) r70.1 r70.2.1 r70.2.2))))))
   (q56 l29 l31 l32 t33)
def q1u (n:Nat) (p1:Int) (p2:Int) (p3:List q1c) (p4:List q0b) (p5:List q0d) (p7:List q08) (p8:Nat) (p9:List q1e):Option (Bool×(List q0d)×(List q08)×Nat) :=
 bindO (cond (decide (p1<0))
  (some true)
  (cond (decide (p1 ≥ (p5.length:Int)))
   (some true)
   (cond (decide (p2<0))
    (some true)
    (some (decide (p2 ≥ (p5.length:Int))))))) fun b14 =>
 cond b14
  (some (false,p5,p7,p8))
  (q13 p3 p4 p7 p9 n n ([(q20.mk p1 p2)]) p5 p7 p8)
theorem q3y (n:Nat) (p1:Int) (p2:Int) (p3:List q1c) (p4:List q0b) (p5:List q0d) (p7:List q08) (p8:Nat) (p9:List q1e) (r:Bool×(List q0d)×(List q08)×Nat) (hF:q1u n p1 p2 p3 p4 p5 p7 p8 p9=some r):∀ t6 t10:Nat,EvU Tryz.prog 20 [.ptr 0 0 0,.int .i64 p1,.int .i64 p2] ⟨q0e p3 p4 t6 p8 t10 p5 p7 p9,4⟩ (fun u σ'=>∃ t:Nat→Nat,u = .bool r.1∧σ'=⟨q0e p3 p4 t6 r.2.2.2 t10 r.2.1 r.2.2.1 p9,4⟩):=by
 unfold q1u at hF
 intro t6 t10
 refine EvU.of_bodyD Tryz.tb_ok fn20 rfl ?_
 refine BdU.ghost (tm':=fr 135 [(0,.ptr 0 0 0),(1,.i6 p1),(2,.i6 p2)]) (z7b NL) (zF _) ?_
 refine BdU.seq Tryz.tb_ok ?_
 refine gr ?_
 refine BdU.seq Tryz.tb_ok ?_
 obtain ⟨b14,h15,hF⟩:=q00 hF
 refine gn ?_
 refine z73 (fun tm σ=>tm=fr 135 [(1,.i6 p1),(2,.i6 p2),(3,.ptr 4 0 0),(6,.ptr 5 0 0),(39,.bool b14)]∧σ=⟨(5,.row [.bool false] 4)::(4,.row [.ptr 0 0 0] 31)::q0e p3 p4 t6 p8 t10 p5 p7 p9,6⟩) ?_ ?_
 rintro _ _ ⟨rfl,rfl⟩
 refine gF hF (fun h16 hF=>?_) (fun h16 hF=>?_)
 refine go ?_
 obtain rfl:=sI hF
 exact ⟨rfl,[.bool false],qe0 (q60 un4.h rfl rfl rfl rfl) (q24),.bool false,⟨q0e p3 p4 t6 p8 t10 p5 p7 p9,4⟩,NL,Gh.to (n1:=4) [] rfl rfl NL NL BUL.h BH.h,stF [],rfl,rfl⟩
 refine gn ?_
 refine BdU.seq Tryz.tb_ok ?_
 refine go ?_
 refine RS.q (u:=.ptr 0 0 0) rfl (q0o rfl rfl) ?_
 refine gn ?_
 refine BdU.dfr Tryz.tb_ok 1 rfl rfl rfl rfl ?_
 refine RS.q rfl (qs4 rfl rfl) ?_
 refine RS.done ⟨43,[.ptr 5 0 0,.ptr 4 0 0,.ptr 6 0 0],q0s rfl rfl fn43 hb43 rfl rfl,RS.done ⟨rfl,?_⟩⟩
 refine go ?_
 refine RS.q (u:=.agg [.i6 p1,.i6 p2]) rfl (qj5 rfl (by kernel_rfl)) ?_
 refine RS.step (u:=.vl 7 0 0 ([(q20.mk p1 p2)].length)) (σ':=⟨(7,.bv q1w ([(q20.mk p1 p2)]) 100 2 0)::(6,.row [.i6 (p7.length:Int)] 3)::(5,.row [.bool false] 4)::(4,.row [.ptr 0 0 0] 31)::q0e p3 p4 t6 p8 t10 p5 p7 p9,8⟩) rfl (qle.bslv (cs:=(List.map q1w [(q20.mk p1 p2)]).flatten) Tryz.tb_ok rfl un101.h if100.h rfl rfl rfl rfl rfl rfl rfl rfl) rfl rfl ?_
 refine go ?_
 refine gL (fun m tm σ=>∃ l29 t30,∃ l31 l32 t33,q13 p3 p4 p7 p9 n m l29 l31 l32 t33=some r∧tm=fr 135 [(3,.ptr 4 0 0),(6,.ptr 5 0 0),(8,.vl 7 t30 0 l29.length)]∧σ=⟨(7,.bv q1w l29 100 2 t30)::(6,.row [.i6 (p7.length:Int)] 3)::(5,.row [.bool false] 4)::(4,.row [.ptr 0 0 0] 31)::q0e p3 p4 t6 t33 t10 l31 l32 p9,8⟩) (fun tm σ=>∃ l34 t35,∃ l36 l37 t38,q56 l34 l36 l37 t38=some r∧tm=fr 135 [(6,.ptr 5 0 0)]∧σ=⟨(7,.bv q1w l34 100 2 t35)::(6,.row [.i6 (p7.length:Int)] 3)::(5,.row [.bool false] 4)::(4,.row [.ptr 0 0 0] 31)::q0e p3 p4 t6 t38 t10 l36 l37 p9,8⟩) n ⟨[(q20.mk p1 p2)],0,p5,p7,p8,hF,rfl,rfl⟩ ?_ ?_
 rintro _ _ ⟨l34,t35,l36,l37,t38,hF,rfl,rfl⟩
 unfold q56 at hF
 refine gr ?_
 refine ⟨.inr rfl,_,_,fn43,rfl,?_⟩
 refine WPU.ghost (tm':=fr 8 [(0,.ptr 5 0 0),(1,.ptr 4 0 0),(2,.ptr 6 0 0)]) (z7b NL) (zF _) ?_
 refine go ?_
 refine z76 (t:=false) rfl (fun hc=>by cases hc) (fun _=>?_)
 refine go ?_
 obtain rfl:=sI hF
 exact ⟨.inl rfl,⟨_,q24⟩,[.bool true],qe0 (q60 un4.h rfl rfl rfl rfl) (q24),.bool true,⟨q0e p3 p4 t6 t38 t10 l36 l37 p9,4⟩,NL,Gh.to (n1:=4) [] rfl rfl NL NL BUL.h BH.h,stF [],rfl,rfl⟩
 rintro (_|m1) _ _ ⟨l29,t30,l31,l32,t33,hF,rfl,rfl⟩
 cases hF
 unfold q13 at hF
 refine gF hF (fun h39 hF=>?_) (fun h39 hF=>?_)
 refine go ?_
 refine WPU.block ?_
 obtain ⟨x40,h41,hF⟩:=q00 hF
 refine go ?_
 refine RS.q rfl (q25 rfl rfl (q40 q1w un101.h (q0g if100.h) (by decide) q6f (vo rfl) h41)) ?_
 refine RS.q (u:=.agg [.i6 x40.E0,.i6 x40.E1]) rfl (ql2 q1w un100.h rfl (q0g if100.h) q6f rfl rfl h41 rfl) ?_
 obtain ⟨h42,hF⟩:=q04 hF
 obtain ⟨h43,hF⟩:=q04 hF
 refine gn ?_
 refine z73 (fun tm σ=>tm=fr 135 [(3,.ptr 4 0 0),(6,.ptr 5 0 0),(8,.vl 7 t30 0 ((l29.take ((IntKind.i64.wrap ((l29.length:Int) - 1)).toNat)).length)),(9,.ptr 8 0 0)]∧σ=⟨(8,.row [.i6 x40.E0,.i6 x40.E1] 100)::(7,.bv q1w (l29.take ((IntKind.i64.wrap ((l29.length:Int) - 1)).toNat)) 100 2 t30)::(6,.row [.i6 (p7.length:Int)] 3)::(5,.row [.bool false] 4)::(4,.row [.ptr 0 0 0] 31)::q0e p3 p4 t6 t33 t10 l31 l32 p9,9⟩) ?_ ?_
 rintro _ _ ⟨rfl,rfl⟩
 obtain ⟨r44,h45,hF⟩:=q00 hF
 obtain ⟨r47,h48,hF⟩:=q00 hF
 refine go ?_
 refine dE [(4,3),(5,3),(6,3)] ?_
 refine gd ?_
 refine RD.q rfl (q25 rfl rfl (qws un100.h (q0g if3.h) rfl (by decide) rfl)) ?_
 refine gd ?_
 refine z79 (u:=.i6 r44) (σ1:=⟨(8,.row [.i6 x40.E0,.i6 x40.E1] 100)::(7,.bv q1w (l29.take ((IntKind.i64.wrap ((l29.length:Int) - 1)).toNat)) 100 2 t30)::(6,.row [.i6 (p7.length:Int)] 3)::(5,.row [.bool false] 4)::(4,.row [.ptr 0 0 0] 31)::q0e p3 p4 t6 t33 t10 l31 l32 p9,9⟩) (args:=[.ptr 0 0 0,.i6 x40.E0]) rfl (q0s rfl rfl fn45 hb45 rfl rfl) ((EvU.st [0,1,2,3] (q83 n x40.E0 p3 p4 l31 l32 p9 r44 h45 t6 t33 t10)).mono fun _ _ ⟨_,h⟩=>h) rfl rfl ?_
 refine gd ?_
 refine RD.q rfl (q25 rfl rfl (qws un100.h (q0g if3.h) rfl (by decide) rfl)) ?_
 refine gd ?_
 refine z79 (u:=.i6 r47) (σ1:=⟨(8,.row [.i6 x40.E0,.i6 x40.E1] 100)::(7,.bv q1w (l29.take ((IntKind.i64.wrap ((l29.length:Int) - 1)).toNat)) 100 2 t30)::(6,.row [.i6 (p7.length:Int)] 3)::(5,.row [.bool false] 4)::(4,.row [.ptr 0 0 0] 31)::q0e p3 p4 t6 t33 t10 l31 l32 p9,9⟩) (args:=[.ptr 0 0 0,.i6 x40.E1]) rfl (q0s rfl rfl fn45 hb45 rfl rfl) ((EvU.st [0,1,2,3] (q83 n x40.E1 p3 p4 l31 l32 p9 r47 h48 t6 t33 t10)).mono fun _ _ ⟨_,h⟩=>h) rfl rfl ?_
 refine gd ?_
 refine RD.done ⟨by kernel_rfl,⟨q60 un31.h rfl rfl rfl rfl,⟨q25 rfl rfl (qws un100.h (q0g if3.h) rfl (by decide) rfl),⟨q60 un3.h rfl rfl rfl rfl,trivial⟩⟩⟩,?_⟩
 refine gF hF (fun h50 hF=>?_) (fun h50 hF=>?_)
 refine go ?_
 exact lC ⟨(l29.take ((IntKind.i64.wrap ((l29.length:Int) - 1)).toNat)),t30,l31,l32,t33,hF,rfl,rfl⟩
 obtain ⟨x51,h52,hF⟩:=q00 hF
 obtain ⟨x53,h54,hF⟩:=q00 hF
 obtain ⟨r55,h56,hF⟩:=q00 hF
 refine go ?_
 refine dE [] ?_
 refine gd ?_
 refine RD.q (u:=.ptr 0 0 0) rfl (q0o rfl rfl) ?_
 refine gd ?_
 refine RD.q (u:=.ptr 0 0 0) rfl (q0o rfl rfl) ?_
 refine gd ?_
 refine RD.q rfl (q25 rfl rfl (q40 q1a un81.h (q0g if96.h) (by decide) q11 (vo rfl) h52)) ?_
 refine RD.q rfl (q77 un96.h rfl (q0g if3.h) rfl (qc2 rfl) rfl) (RD.q (u:=.i6 x51.kind) rfl (qk8 q1a un3.h rfl q11 rfl rfl (q71 h52) rfl) ?_)
 refine gd ?_
 refine RD.q (u:=.ptr 0 0 0) rfl (q0o rfl rfl) ?_
 refine gd ?_
 refine RD.q rfl (q25 rfl rfl (q40 q1a un81.h (q0g if96.h) (by decide) q11 (vo rfl) h54)) ?_
 refine RD.q rfl (q77 un96.h rfl (q0g if3.h) rfl (qc2 rfl) rfl) (RD.q (u:=.i6 x53.kind) rfl (qk8 q1a un3.h rfl q11 rfl rfl (q71 h54) rfl) (RD.fl rfl (pC (qmn n (q09.mk p3 p4) x51.kind x53.kind r55 h56)) fn46 ?_))
 refine gd ?_
 refine RD.done ⟨by kernel_rfl,trivial,?_⟩
 refine gF hF (fun h57 hF=>?_) (fun h57 hF=>?_)
 refine gr ?_
 refine ⟨.inr rfl,_,_,fn43,rfl,?_⟩
 refine WPU.ghost (tm':=fr 8 [(0,.ptr 5 0 0),(1,.ptr 4 0 0),(2,.ptr 6 0 0)]) (z7b NL) (zF _) ?_
 refine go ?_
 refine z76 (t:=true) rfl (fun _=>?_) (fun hc=>by cases hc)
 obtain ⟨r58,h59,hF⟩:=q00 hF
 refine go ?_
 refine z74 (args:=[.ptr 0 0 0,.i6 (p7.length:Int)]) rfl (q0s rfl rfl fn44 hb44 rfl rfl) (EvU.st [0,1,2,3] (qc5 n (p7.length:Int) p3 p4 l31 l32 p9 r58 h59 t6 t33 t10)) rfl rfl ?_
 rintro _ _ ⟨t60,rfl,rfl⟩
 refine go ?_
 obtain rfl:=sI hF
 exact ⟨.inl rfl,⟨_,q24⟩,[.bool false],qe0 (q60 un4.h rfl rfl rfl rfl) (q24),.bool false,⟨q0e p3 p4 t6 t33 t10 r58.1 r58.2 p9,4⟩,NL,Gh.to (n1:=4) [] rfl rfl NL NL BUL.h BH.h,stF [],rfl,rfl⟩
 obtain ⟨x61,h62,hF⟩:=q00 hF
 obtain ⟨x63,h64,hF⟩:=q00 hF
 obtain ⟨r65,h66,hF⟩:=q00 hF
 refine go ?_
 refine dE [] ?_
 refine gd ?_
 refine RD.q (u:=.ptr 0 0 0) rfl (q0o rfl rfl) ?_
 refine gd ?_
 refine RD.q rfl (q25 rfl rfl (q40 q1a un81.h (q0g if96.h) (by decide) q11 (vo rfl) h62)) ?_
 refine RD.q rfl (q77 un96.h rfl (q0g if76.h) rfl (qc2 rfl) rfl) (RD.q (u:=.iM q06 x61.arcs) rfl (qk8 q1a un76.h rfl q11 rfl rfl (q71 h62) rfl) ?_)
 refine gd ?_
 refine RD.q (u:=.ptr 0 0 0) rfl (q0o rfl rfl) ?_
 refine gd ?_
 refine RD.q rfl (q25 rfl rfl (q40 q1a un81.h (q0g if96.h) (by decide) q11 (vo rfl) h64)) ?_
 refine RD.q rfl (q77 un96.h rfl (q0g if76.h) rfl (qc2 rfl) rfl) (RD.q (u:=.iM q06 x63.arcs) rfl (qk8 q1a un76.h rfl q11 rfl rfl (q71 h64) rfl) (RD.fl rfl (pC (qob n x61.arcs x63.arcs r65 h66)) fn47 ?_))
 refine gd ?_
 refine RD.done ⟨by kernel_rfl,trivial,?_⟩
 obtain ⟨r67,h68,hF⟩:=q00 hF
 refine go ?_
 refine z74 (args:=[.ptr 0 0 0,.i6 r44,.agg [.i6 (-1),.i6 r55.1,.iM q06 r65.1]]) rfl (q0s rfl rfl fn48 hb48 rfl rfl) (EvU.st [0,1,2,3] (qi7 n r44 (q0d.mk (-1) r55.1 r65.1) p3 p4 l31 l32 t33 p9 r67 h68 t6 t10)) rfl rfl ?_
 rintro _ _ ⟨t69,rfl,rfl⟩
 obtain ⟨r70,h71,hF⟩:=q00 hF
 refine go ?_
 refine z74 (args:=[.ptr 0 0 0,.i6 r47,.agg [.i6 r44,.i6 0,.nils]]) rfl (q0s rfl rfl fn48 hb48 rfl rfl) (EvU.st [0,1,2,3] (qi8 n r47 r44 0 p3 p4 r67.1 r67.2.1 r67.2.2 p9 r70 h71 t6 t10)) rfl rfl ?_
 rintro _ _ ⟨t72,rfl,rfl⟩
 obtain ⟨h73,hF⟩:=q04 hF
 refine go ?_
 refine RS.g ?_
 refine go ?_
 exact lC ⟨((l29.take ((IntKind.i64.wrap ((l29.length:Int) - 1)).toNat))++r65.2),(t30+1),r70.1,r70.2.1,r70.2.2,hF,rfl,rfl⟩
 refine go ?_
 refine RS.q (u:=.vl 7 t30 0 ((IntKind.i64.wrap ((l29.length:Int) - 1)).toNat)) rfl (q2c rfl qaj (qk2 rfl) qaj (qoa q1w un101.h (q0g if100.h) q6f (vo rfl) (Nat.le_of_eq (Nat.zero_add _)) (qkp h42.1 h42.2))) ?_
 refine go ?_
 exact ⟨_,_,⟨rfl,rfl⟩,NL,z7h (K:=7) q1w q6f rfl ((IntKind.i64.wrap ((l29.length:Int) - 1)).toNat) ⟨rfl,rfl,(by rw [List.length_take_of_le h43]<;>rfl),rfl,trivial⟩ (by first | (simp only [q0e]; rw [List.length_take_of_le h43]<;>rfl) | rfl)⟩
 refine go ?_
 exact xC ⟨l29,t30,l31,l32,t33,hF,rfl,rfl⟩
 refine go ?_
 rcases gB h15 with ⟨h11,h15⟩ | ⟨h11,h15⟩
 exact gy h15
 refine go ?_
 refine RS.w (u:=.ptr 0 0 0) rfl (q0o rfl rfl) ?_
 refine go ?_
 rcases gB h15 with ⟨h12,h15⟩ | ⟨h12,h15⟩
 exact gy h15
 refine go ?_
 rcases gB h15 with ⟨h13,h15⟩ | ⟨h13,h15⟩
 exact gy h15
 obtain rfl:=sI h15
 refine go ?_
 refine RS.w (u:=.ptr 0 0 0) rfl (q0o rfl rfl) ?_
 refine go ?_
 exact xC ⟨rfl,rfl⟩
def q3c (n:Nat) (p1:Int) (p2:List q1c) (p3:List q0b) (p4:List q0d) (p6:List q08) (p8:List q1e):Option (Bool×(List q0d)×(List q08)×(List q1e)) :=
 bindO (cond (decide (p1<0))
  (some true)
  (some (decide (p1 ≥ (p8.length:Int))))) fun b11 =>
 cond b11
  (some (false,p4,p6,p8))
  (bindO (idxO p8 p1) fun x14 =>
  bindO (q44 n x14.changes p2 p3 p4 p6 p8) fun r16 =>
  needO ((0:Int)≤x14.cells∧x14.cells≤((r16.1.length:Nat):Int)) (
  needO (x14.cells.toNat≤r16.1.length) (
  needO ((0:Int)≤(IntKind.i64.wrap (p1+1))∧(IntKind.i64.wrap (p1+1))≤((p8.length:Nat):Int)) (
  needO (((IntKind.i64.wrap (p1+1)).toNat)≤p8.length) (
  some (true,(r16.1.take x14.cells.toNat),r16.2,(p8.take ((IntKind.i64.wrap (p1+1)).toNat))))))))
theorem q82 (n:Nat) (p1:Int) (p2:List q1c) (p3:List q0b) (p4:List q0d) (p6:List q08) (p8:List q1e) (r:Bool×(List q0d)×(List q08)×(List q1e)) (hF:q3c n p1 p2 p3 p4 p6 p8=some r):∀ t5 t7 t9:Nat,EvU Tryz.prog 21 [.ptr 0 0 0,.int .i64 p1] ⟨q0e p2 p3 t5 t7 t9 p4 p6 p8,4⟩ (fun u σ'=>∃ t:Nat→Nat,u = .bool r.1∧σ'=⟨q0e p2 p3 t5 t7 t9 r.2.1 r.2.2.1 r.2.2.2,4⟩):=by
 unfold q3c at hF
 intro t5 t7 t9
 refine bg2 48 fn21 ?_
 obtain ⟨b11,h12,hF⟩:=q00 hF
 refine gr ?_
 refine z73 (fun tm σ=>tm=fr 48 [(0,.ptr 0 0 0),(1,.i6 p1),(16,.bool b11)]∧σ=⟨q0e p2 p3 t5 t7 t9 p4 p6 p8,4⟩) ?_ ?_
 rintro _ _ ⟨rfl,rfl⟩
 refine gF hF (fun h13 hF=>?_) (fun h13 hF=>?_)
 refine go ?_
 obtain rfl:=sI hF
 exact ⟨.inr rfl,[.bool false],q2y rfl (q24),.bool false,⟨q0e p2 p3 t5 t7 t9 p4 p6 p8,4⟩,NL,Gh.to (n1:=4) [] rfl rfl NL NL BUL.h BH.h,stF [],rfl,rfl⟩
 obtain ⟨x14,h15,hF⟩:=q00 hF
 refine go ?_
 refine RS.q (u:=.ptr 0 0 0) rfl (q0o rfl rfl) ?_
 refine go ?_
 refine RS.q rfl (q25 rfl rfl (q40 q5z un83.h (q0g if94.h) (by decide) qe8 (vo rfl) h15)) ?_
 refine RS.q (u:=.agg (q5z x14)) rfl (ql2 q5z un94.h rfl (q0g if94.h) qe8 rfl rfl h15 rfl) ?_
 obtain ⟨r16,h17,hF⟩:=q00 hF
 refine go ?_
 refine z74 (args:=[.ptr 0 0 0,.i6 x14.changes]) rfl (q0s rfl rfl fn44 hb44 rfl rfl) (EvU.st [0,1,2,3] (qc5 n x14.changes p2 p3 p4 p6 p8 r16 h17 t5 t7 t9)) rfl rfl ?_
 rintro _ _ ⟨t18,rfl,rfl⟩
 obtain ⟨h19,hF⟩:=q04 hF
 obtain ⟨h20,hF⟩:=q04 hF
 refine gn ?_
 refine z73 (fun tm σ=>tm=fr 48 [(0,.ptr 0 0 0),(1,.i6 p1)]∧σ=⟨(4,.row (q5z x14) 94)::q0e p2 p3 t5 t7 t9 (r16.1.take x14.cells.toNat) r16.2 p8,5⟩) ?_ ?_
 rintro _ _ ⟨rfl,rfl⟩
 obtain ⟨h21,hF⟩:=q04 hF
 obtain ⟨h22,hF⟩:=q04 hF
 refine gn ?_
 refine z73 (fun tm σ=>tm=fr 48 []∧σ=⟨(4,.row (q5z x14) 94)::q0e p2 p3 t5 t7 t9 (r16.1.take x14.cells.toNat) r16.2 (p8.take ((IntKind.i64.wrap (p1+1)).toNat)),5⟩) ?_ ?_
 rintro _ _ ⟨rfl,rfl⟩
 refine go ?_
 obtain rfl:=sI hF
 exact ⟨.inr rfl,[.bool true],q2y rfl (q24),.bool true,⟨q0e p2 p3 t5 t7 t9 (r16.1.take x14.cells.toNat) r16.2 (p8.take ((IntKind.i64.wrap (p1+1)).toNat)),4⟩,NL,Gh.to (n1:=4) [] rfl rfl NL NL BUL.h BH.h,stF [],rfl,rfl⟩
 refine go ?_
 refine RS.q (u:=.ptr 0 0 0) rfl (q0o rfl rfl) ?_
 refine go ?_
 refine RS.q (u:=.vl 3 t9 0 ((IntKind.i64.wrap (p1+1)).toNat)) rfl (q2c rfl qaj (qk2 rfl) qaj (qoa q5z un83.h (q0g if94.h) qe8 (vo rfl) (Nat.le_of_eq (Nat.zero_add _)) (qkp h21.1 h21.2))) (RS.q (u:=.ptr 0 0 0) rfl (q0o rfl rfl) ?_)
 refine go ?_
 exact ⟨_,_,⟨rfl,rfl⟩,NL,z7h (K:=3) q5z qe8 rfl ((IntKind.i64.wrap (p1+1)).toNat) trivial (by first | (simp only [q0e]; rw [List.length_take_of_le h22]<;>rfl) | rfl)⟩
 refine dE [] ?_
 refine gd ?_
 refine RD.q (u:=.ptr 0 0 0) rfl (q0o rfl rfl) ?_
 refine gd ?_
 refine RD.q (u:=.vl 1 t5 0 x14.cells.toNat) rfl (q2c rfl qaj (qk2 rfl) qaj (qoa q1a un81.h (q0g if96.h) q11 (vo rfl) (Nat.le_of_eq (Nat.zero_add _)) (qkp h19.1 h19.2))) (RD.q (u:=.ptr 0 0 0) rfl (q0o rfl rfl) ?_)
 refine gd ?_
 refine z7f ?_
 refine RD.done ⟨by kernel_rfl,trivial,?_⟩
 refine go ?_
 exact ⟨_,_,⟨rfl,rfl⟩,NL,z7h (K:=1) q1a q11 rfl x14.cells.toNat ⟨rfl,rfl,trivial⟩ (by first | (simp only [q0e]; rw [List.length_take_of_le h20]<;>rfl) | rfl)⟩
 refine go ?_
 rcases gB h12 with ⟨h10,h12⟩ | ⟨h10,h12⟩
 exact gy h12
 obtain rfl:=sI h12
 refine go ?_
 refine RS.w (u:=.ptr 0 0 0) rfl (q0o rfl rfl) ?_
 refine go ?_
 exact xC ⟨rfl,rfl⟩
def q6c (n:Nat) (p1:List q1c) (p2:List q0b) (p3:List q0d) (p5:List q08) (p7:List q1e):Option (Int) :=
 some (p3.length:Int)
theorem qde (n:Nat) (p1:List q1c) (p2:List q0b) (p3:List q0d) (p5:List q08) (p7:List q1e) (r:Int) (hF:q6c n p1 p2 p3 p5 p7=some r):∀ t4 t6 t8:Nat,EvU Tryz.prog 23 [.ptr 0 0 0] ⟨q0e p1 p2 t4 t6 t8 p3 p5 p7,4⟩ (fun u σ'=>∃ t:Nat→Nat,u = .int .i64 r∧σ'=⟨q0e p1 p2 t4 t6 t8 p3 p5 p7,4⟩):=by
 unfold q6c at hF
 intro t4 t6 t8
 refine bg1 8 fn23 ?_
 refine go ?_
 refine RS.q (u:=.ptr 0 0 0) rfl (q0o rfl rfl) ?_
 refine go ?_
 obtain rfl:=sI hF
 exact ⟨.inr rfl,[.i6 (p3.length:Int)],q2y rfl (q24),.i6 (p3.length:Int),⟨q0e p1 p2 t4 t6 t8 p3 p5 p7,4⟩,NL,Gh.to (n1:=4) [] rfl rfl NL NL BUL.h BH.h,stF [],rfl,rfl⟩
def q3b (p5:List q0j) (l46:List q0f) (w48:qem Int Int) (l49:List q0j) (t50:Nat):Option (Int×(qem Int Int)×(List q0j)×Nat) :=
 bindO (idxO l49 (p5.length:Int)) fun x51 =>
 some ((p5.length:Int),w48,(l49.set (0+(p5.length:Int).toNat) (q0j.mk x51.Typex l46)),t50)
def q2e (p2:List q1c) (p3:List q0b) (p5:List q0j) (p7:List q0d) (p9:List q08) (p11:List q1e) (x20:q0d) (self:Int→(List q1c)→(List q0b)→(qem Int Int)→(List q0j)→Nat→(List q0d)→(List q08)→(List q1e)→Option (Int×(qem Int Int)×(List q0j)×Nat)):Nat→Int→(List q0f)→(qem Int Int)→(List q0j)→Nat→Option (Int×(qem Int Int)×(List q0j)×Nat)
 | 0,_,_,_,_,_=>none
 | m1+1,z40,l41,w43,l44,t45 =>
  cond (decide (z40<(x20.arcs.length:Int)))
   (bindO (idxO x20.arcs z40) fun x54 =>
   bindO (self x54.To p2 p3 w43 l44 t45 p7 p9 p11) fun r56 =>
   needO ((l41.length+1)*16≤140737488355328∧l41.length+1≤140737488355328) (
   (q2e p2 p3 p5 p7 p9 p11 x20 self m1) (IntKind.i64.wrap (z40+1)) (l41++[(q0f.mk x54.Feat r56.1)]) r56.2.1 r56.2.2.1 r56.2.2.2))
   (q3b p5 l41 w43 l44 t45)
def q55 (n:Nat) (self:Int→(List q1c)→(List q0b)→(qem Int Int)→(List q0j)→Nat→(List q0d)→(List q08)→(List q1e)→Option (Int×(qem Int Int)×(List q0j)×Nat)) (p1:Int) (p2:List q1c) (p3:List q0b) (p4:qem Int Int) (p5:List q0j) (p6:Nat) (p7:List q0d) (p9:List q08) (p11:List q1e):Option (Int×(qem Int Int)×(List q0j)×Nat) :=
 bindO (q45 n p1 p2 p3 p7 p9 p11) fun r13 =>
 cond ((qz5 (fun a b=>a == b) p4 r13).isSome)
  (some (((qz5 (fun a b=>a == b) p4 r13).getD 0),p4,p5,p6))
  (bindO (idxO p7 r13) fun x17 =>
  needO ((p5.length+1)*32≤140737488355328∧p5.length+1≤140737488355328) (
  bindO (idxO p7 r13) fun x20 =>
  q2e p2 p3 p5 p7 p9 p11 x20 self n 0 ([]:List q0f) (qv7 (fun a b=>a == b) p4 r13 (p5.length:Int)) (p5++[(q0j.mk x17.kind [])]) (p6+1)))
def q21:Nat→Int→(List q1c)→(List q0b)→(qem Int Int)→(List q0j)→Nat→(List q0d)→(List q08)→(List q1e)→Option (Int×(qem Int Int)×(List q0j)×Nat)
 | 0,_,_,_,_,_,_,_,_,_=>none
 | n+1,p1,p2,p3,p4,p5,p6,p7,p9,p11=>q55 n (q21 n) p1 p2 p3 p4 p5 p6 p7 p9 p11
theorem qa5:∀ (n:Nat) (p1:Int) (p2:List q1c) (p3:List q0b) (p4:qem Int Int) (p5:List q0j) (p6:Nat) (p7:List q0d) (p9:List q08) (p11:List q1e) (r:Int×(qem Int Int)×(List q0j)×Nat),q21 n p1 p2 p3 p4 p5 p6 p7 p9 p11=some r→∀ t8 t10 t12:Nat,EvU Tryz.prog 56 [.int .i64 p1,.ptr 0 0 0,.ptr 1 0 0,.ptr 2 0 0,.ptr 3 0 0] ⟨q8h p6 p2 p3 t8 t10 t12 (.map (List.map (mE (fun x=>.int .i64 x) (fun x=>.int .i64 x)) p4.es) p4.cl) p5 p7 p9 p11,10⟩ (fun u σ'=>∃ t:Nat→Nat,u = .int .i64 r.1∧σ'=⟨q8h r.2.2.2 p2 p3 t8 t10 t12 (.map (List.map (mE (fun x=>.int .i64 x) (fun x=>.int .i64 x)) r.2.1.es) r.2.1.cl) r.2.2.1 p7 p9 p11,10⟩)
 | 0,p1,p2,p3,p4,p5,p6,p7,p9,p11,r,hF=>by cases hF
 | n+1,p1,p2,p3,p4,p5,p6,p7,p9,p11,r,hF=>by
  have ih:=qa5 n
  unfold q21 q55 at hF
  intro t8 t10 t12
  refine bg5 75 fn56 ?_
  obtain ⟨r13,h14,hF⟩:=q00 hF
  refine go ?_
  refine z74 (args:=[.ptr 4 0 0,.i6 p1]) rfl (q0s rfl rfl fn45 hb45 rfl rfl) (EvU.st [4,7,8,9] (q83 n p1 p2 p3 p7 p9 p11 r13 h14 t8 t10 t12)) rfl rfl ?_
  rintro _ _ ⟨t15,rfl,rfl⟩
  refine go ?_
  refine RS.q (u:=.tup [.i6 ((qz5 (fun a b=>a == b) p4 r13).getD 0),.bool ((qz5 (fun a b=>a == b) p4 r13).isSome)]) rfl (z35 (kU:=(fun x=>.i6 x)) (vU:=(fun x=>.i6 x)) (m:=p4) (k:=r13) (zv:=0) (qz0 un3.h) un118.h rfl rfl rfl if3.h rfl) ?_
  refine gF hF (fun h16 hF=>?_) (fun h16 hF=>?_)
  refine go ?_
  obtain rfl:=sI hF
  exact ⟨.inr rfl,[.i6 ((qz5 (fun a b=>a == b) p4 r13).getD 0)],q2y rfl (q24),.i6 ((qz5 (fun a b=>a == b) p4 r13).getD 0),⟨q8h p6 p2 p3 t8 t10 t12 (.map (List.map (mE (fun x=>.i6 x) (fun x=>.i6 x)) p4.es) p4.cl) p5 p7 p9 p11,10⟩,NL,Gh.to (n1:=10) [] rfl rfl NL NL BUL.h BH.h,stF [],rfl,rfl⟩
  refine go ?_
  refine z7i (u:=.junk) (σ':=⟨q8h p6 p2 p3 t8 t10 t12 (.map (List.map (mE (fun x=>.i6 x) (fun x=>.i6 x)) (qv7 (fun a b=>a == b) p4 r13 (p5.length:Int)).es) (qv7 (fun a b=>a == b) p4 r13 (p5.length:Int)).cl) p5 p7 p9 p11,10⟩) rfl (op_mup (kU:=(fun x=>.i6 x)) (vU:=(fun x=>.i6 x)) (m:=p4) (k:=r13) (v:=(p5.length:Int)) (qz0 un3.h) un118.h rfl rfl rfl rfl rfl) rfl ?_
  obtain ⟨x17,h18,hF⟩:=q00 hF
  obtain ⟨h19,hF⟩:=q04 hF
  refine go ?_
  refine dE [(0,11),(1,11)] ?_
  refine gd ?_
  refine RD.q (u:=.ptr 4 0 0) rfl (q0o rfl rfl) ?_
  refine gd ?_
  refine RD.q rfl (q25 rfl rfl (q40 q1a un81.h (q0g if96.h) (by decide) q11 (vo rfl) h18)) ?_
  refine RD.q rfl (q77 un96.h rfl (q0g if3.h) rfl (qc2 rfl) rfl) (RD.q (u:=.i6 x17.kind) rfl (qk8 q1a un3.h rfl q11 rfl rfl (q71 h18) rfl) ?_)
  refine gd ?_
  refine RD.g ?_
  refine RD.g ?_
  refine gd ?_
  refine z7f ?_
  refine RD.done ⟨by kernel_rfl,⟨q77 un40.h rfl (q0g if33.h) rfl rfl rfl,⟨q60 un33.h rfl rfl rfl rfl,trivial⟩⟩,?_⟩
  obtain ⟨x20,h21,hF⟩:=q00 hF
  refine go ?_
  refine RS.q (u:=.ptr 4 0 0) rfl (q0o rfl rfl) ?_
  refine go ?_
  refine RS.q rfl (q25 rfl rfl (q40 q1a un81.h (q0g if96.h) (by decide) q11 (vo rfl) h21)) ?_
  refine RS.q rfl (q77 un96.h rfl (q0g if76.h) rfl (qc2 rfl) rfl) (RS.q (u:=.iM q06 x20.arcs) rfl (qk8 q1a un76.h rfl q11 rfl rfl (q71 h21) rfl) ?_)
  refine gn ?_
  refine WPU.ghost (tm':=fr 75 [(3,.ptr 2 0 0),(4,.ptr 3 0 0),(9,.i6 (p5.length:Int)),(10,.vl 11 0 0 (([]:List q0f).length)),(51,.iM q06 x20.arcs),(52,.i6 (x20.arcs.length:Int)),(53,.i6 0)]) (σ':=⟨(11,.bv q06 ([]:List q0f) 98 2 0)::(10,.row [.i6 x17.kind,.nils] 78)::q8h (p6+1) p2 p3 t8 t10 t12 (.map (List.map (mE (fun x=>.i6 x) (fun x=>.i6 x)) (qv7 (fun a b=>a == b) p4 r13 (p5.length:Int)).es) (qv7 (fun a b=>a == b) p4 r13 (p5.length:Int)).cl) (p5++[(q0j.mk x17.kind [])]) p7 p9 p11,12⟩) (Gh.trans (z7j 10 98 2 (by decide) NL rfl rfl) (z75 ⟨rfl,rfl,rfl,rfl,rfl,rfl,rfl,trivial⟩ rfl)) NL ?_
  refine gL (fun m tm σ=>∃ z40 l41 t42,∃ w43:qem Int Int,∃ l44 t45,q2e p2 p3 p5 p7 p9 p11 x20 (q21 n) m z40 l41 w43 l44 t45=some r∧tm=fr 75 [(3,.ptr 2 0 0),(4,.ptr 3 0 0),(9,.i6 (p5.length:Int)),(10,.vl 11 t42 0 l41.length),(51,.iM q06 x20.arcs),(52,.i6 (x20.arcs.length:Int)),(53,.i6 z40)]∧σ=⟨(11,.bv q06 l41 98 2 t42)::(10,.row [.i6 x17.kind,.nils] 78)::q8h t45 p2 p3 t8 t10 t12 (.map (List.map (mE (fun x=>.i6 x) (fun x=>.i6 x)) w43.es) w43.cl) l44 p7 p9 p11,12⟩) (fun tm σ=>∃ l46 t47,∃ w48:qem Int Int,∃ l49 t50,q3b p5 l46 w48 l49 t50=some r∧tm=fr 75 [(3,.ptr 2 0 0),(9,.i6 (p5.length:Int)),(10,.vl 11 t47 0 l46.length)]∧σ=⟨(11,.bv q06 l46 98 2 t47)::(10,.row [.i6 x17.kind,.nils] 78)::q8h t50 p2 p3 t8 t10 t12 (.map (List.map (mE (fun x=>.i6 x) (fun x=>.i6 x)) w48.es) w48.cl) l49 p7 p9 p11,12⟩) n ⟨0,([]:List q0f),0,(qv7 (fun a b=>a == b) p4 r13 (p5.length:Int)),(p5++[(q0j.mk x17.kind [])]),(p6+1),hF,rfl,rfl⟩ ?_ ?_
  rintro _ _ ⟨l46,t47,w48,l49,t50,hF,rfl,rfl⟩
  unfold q3b at hF
  refine gn ?_
  refine WPU.ghost (tm':=fr 75 [(3,.ptr 2 0 0),(9,.i6 (p5.length:Int)),(10,.iM q06 l46)]) (σ':=⟨(10,.row [.i6 x17.kind,.nils] 78)::q8h t50 p2 p3 t8 t10 t12 (.map (List.map (mE (fun x=>.i6 x) (fun x=>.i6 x)) w48.es) w48.cl) l49 p7 p9 p11,12⟩) (Gh.trans (Gh.sub (l':=[(3,.ptr 2 0 0),(9,.i6 (p5.length:Int)),(10,.vl 11 t47 0 l46.length)]) ⟨rfl,rfl,rfl,trivial⟩) (Gh.fzS (l':=[(3,.ptr 2 0 0),(9,.i6 (p5.length:Int)),(10,.iM q06 l46)]) (h':=[(10,.row [.i6 x17.kind,.nils] 78),(0,.row [.ptr 4 0 0] 31),(1,.row [.map 5] 118),(2,.row [.vl 6 t50 0 l49.length] 40),(3,.row [.fn (.func 56) [] [.ptr 0 0 0,.ptr 1 0 0,.ptr 2 0 0,.ptr 3 0 0]] 102),(4,.row [.iM q1p p2,.iM q0k p3,.vl 7 t8 0 p7.length,.vl 8 t10 0 p9.length,.vl 9 t12 0 p11.length] 85),(5,.map (List.map (mE (fun x=>.i6 x) (fun x=>.i6 x)) w48.es) w48.cl),(6,.bv q0a l49 78 2 t50),(7,.bv q1a p7 96 3 t8),(8,.bv q1b p9 151 4 t10),(9,.bv q5z p11 94 2 t12)]) 11 (.bv q06 l46 98 2 t47) 2 rfl (by simp) (by simp only [fzS,qlh,qg0,qal,qkw,qg1,qky,qg3,qhv,qhu,qht,qg2,qkx,qml,qkv,qkz,qrj,qmr,z5y q0z,qdh (show Nat.beq 0 11=false from rfl),qdg (show Nat.beq 0 11=false from rfl),qdf (show Nat.beq 0 11=false from rfl),qdh (show Nat.beq 1 11=false from rfl),qdg (show Nat.beq 1 11=false from rfl),qdf (show Nat.beq 1 11=false from rfl),qdh (show Nat.beq 2 11=false from rfl),qdg (show Nat.beq 2 11=false from rfl),qdf (show Nat.beq 2 11=false from rfl),qdh (show Nat.beq 3 11=false from rfl),qdg (show Nat.beq 3 11=false from rfl),qdf (show Nat.beq 3 11=false from rfl),qdh (show Nat.beq 4 11=false from rfl),qdg (show Nat.beq 4 11=false from rfl),qdf (show Nat.beq 4 11=false from rfl),qdh (show Nat.beq 5 11=false from rfl),qdg (show Nat.beq 5 11=false from rfl),qdf (show Nat.beq 5 11=false from rfl),qdh (show Nat.beq 6 11=false from rfl),qdg (show Nat.beq 6 11=false from rfl),qdf (show Nat.beq 6 11=false from rfl),qdh (show Nat.beq 7 11=false from rfl),qdg (show Nat.beq 7 11=false from rfl),qdf (show Nat.beq 7 11=false from rfl),qdh (show Nat.beq 8 11=false from rfl),qdg (show Nat.beq 8 11=false from rfl),qdf (show Nat.beq 8 11=false from rfl),qdh (show Nat.beq 9 11=false from rfl),qdg (show Nat.beq 9 11=false from rfl),qdf (show Nat.beq 9 11=false from rfl),q70 _ _ _ (q8g 11 (fun q=>qe2 _ q) l49),q70 _ _ _ (q8g 11 (fun q=>qgg _ q) p7),q70 _ _ _ (q8g 11 (fun q=>qft _ q) p9),q70 _ _ _ (q8g 11 (fun q=>qjv _ q) p11),fz_mE]) (by simp only [fzH,fzB,ug,Nat.beq,zC,zD,qlh,qg0,qal,qkw,qg1,qky,qg3,qhv,qhu,qht,qg2,qkx,qml,qkv,qkz,qrj,qmr,z5y q0z,qdh (show Nat.beq 0 11=false from rfl),qdg (show Nat.beq 0 11=false from rfl),qdf (show Nat.beq 0 11=false from rfl),qdh (show Nat.beq 1 11=false from rfl),qdg (show Nat.beq 1 11=false from rfl),qdf (show Nat.beq 1 11=false from rfl),qdh (show Nat.beq 2 11=false from rfl),qdg (show Nat.beq 2 11=false from rfl),qdf (show Nat.beq 2 11=false from rfl),qdh (show Nat.beq 3 11=false from rfl),qdg (show Nat.beq 3 11=false from rfl),qdf (show Nat.beq 3 11=false from rfl),qdh (show Nat.beq 4 11=false from rfl),qdg (show Nat.beq 4 11=false from rfl),qdf (show Nat.beq 4 11=false from rfl),qdh (show Nat.beq 5 11=false from rfl),qdg (show Nat.beq 5 11=false from rfl),qdf (show Nat.beq 5 11=false from rfl),qdh (show Nat.beq 6 11=false from rfl),qdg (show Nat.beq 6 11=false from rfl),qdf (show Nat.beq 6 11=false from rfl),qdh (show Nat.beq 7 11=false from rfl),qdg (show Nat.beq 7 11=false from rfl),qdf (show Nat.beq 7 11=false from rfl),qdh (show Nat.beq 8 11=false from rfl),qdg (show Nat.beq 8 11=false from rfl),qdf (show Nat.beq 8 11=false from rfl),qdh (show Nat.beq 9 11=false from rfl),qdg (show Nat.beq 9 11=false from rfl),qdf (show Nat.beq 9 11=false from rfl),q70 _ _ _ (q8g 11 (fun q=>qe2 _ q) l49),q70 _ _ _ (q8g 11 (fun q=>qgg _ q) p7),q70 _ _ _ (q8g 11 (fun q=>qft _ q) p9),q70 _ _ _ (q8g 11 (fun q=>qjv _ q) p11),fz_mE]))) NL ?_
  obtain ⟨x51,h52,hF⟩:=q00 hF
  refine gn ?_
  refine z73 (fun tm σ=>tm=fr 75 [(9,.i6 (p5.length:Int))]∧σ=⟨(10,.row [.i6 x17.kind,.nils] 78)::q8h t50 p2 p3 t8 t10 t12 (.map (List.map (mE (fun x=>.i6 x) (fun x=>.i6 x)) w48.es) w48.cl) (l49.set (0+(p5.length:Int).toNat) (q0j.mk x51.Typex l46)) p7 p9 p11,12⟩) ?_ ?_
  rintro _ _ ⟨rfl,rfl⟩
  refine go ?_
  obtain rfl:=sI hF
  exact ⟨.inr rfl,[.i6 (p5.length:Int)],q2y rfl (q24),.i6 (p5.length:Int),⟨q8h t50 p2 p3 t8 t10 t12 (.map (List.map (mE (fun x=>.i6 x) (fun x=>.i6 x)) w48.es) w48.cl) (l49.set (0+(p5.length:Int).toNat) (q0j.mk x51.Typex l46)) p7 p9 p11,10⟩,NL,Gh.to (n1:=10) [] rfl rfl NL NL BUL.h BH.h,stF [],rfl,rfl⟩
  refine go ?_
  refine RS.q rfl (q25 rfl rfl (q40 q0a un33.h (q0g if78.h) (by decide) qcu (vo rfl) h52)) ?_
  refine RS.q rfl (q77 un78.h rfl (q0g if76.h) rfl (qc2 rfl) rfl) (z7i (u:=.junk) (σ':=⟨[(10,.row [.i6 x17.kind,.nils] 78),(0,.row [.ptr 4 0 0] 31),(1,.row [.map 5] 118),(2,.row [.vl 6 t50 0 l49.length] 40),(3,.row [.fn (.func 56) [] [.ptr 0 0 0,.ptr 1 0 0,.ptr 2 0 0,.ptr 3 0 0]] 102),(4,.row [.iM q1p p2,.iM q0k p3,.vl 7 t8 0 p7.length,.vl 8 t10 0 p9.length,.vl 9 t12 0 p11.length] 85),(5,.map (List.map (mE (fun x=>.i6 x) (fun x=>.i6 x)) w48.es) w48.cl),(6,.bv q0a (l49.set (0+(p5.length:Int).toNat) (q0j.mk x51.Typex l46)) 78 2 t50),(7,.bv q1a p7 96 3 t8),(8,.bv q1b p9 151 4 t10),(9,.bv q5z p11 94 2 t12)],12⟩) rfl (z6t (y:=(q0j.mk x51.Typex l46)) q0a (q0g if76.h) qcu rfl rfl rfl rfl rfl rfl (q71 h52) rfl rfl) rfl ?_)
  refine go ?_
  exact ⟨_,_,⟨rfl,rfl⟩,NL,z75 ⟨rfl,trivial⟩ (by simp only [q8h,List.length_set])⟩
  rintro (_|m1) _ _ ⟨z40,l41,t42,w43,l44,t45,hF,rfl,rfl⟩
  cases hF
  unfold q2e at hF
  refine gF hF (fun h53 hF=>?_) (fun h53 hF=>?_)
  refine go ?_
  refine WPU.block ?_
  obtain ⟨x54,h55,hF⟩:=q00 hF
  refine go ?_
  refine RS.ix h55 ?_
  obtain ⟨r56,h57,hF⟩:=q00 hF
  obtain ⟨h59,hF⟩:=q04 hF
  refine go ?_
  refine dE [(0,6),(0,8),(1,6),(2,6)] ?_
  refine gd ?_
  refine z79 (u:=.i6 r56.1) (σ1:=⟨(12,.row (q06 x54) 98)::(11,.bv q06 l41 98 2 t42)::(10,.row [.i6 x17.kind,.nils] 78)::q8h r56.2.2.2 p2 p3 t8 t10 t12 (.map (List.map (mE (fun x=>.i6 x) (fun x=>.i6 x)) r56.2.1.es) r56.2.1.cl) r56.2.2.1 p7 p9 p11,13⟩) (args:=[.i6 x54.To,.ptr 0 0 0,.ptr 1 0 0,.ptr 2 0 0,.ptr 3 0 0]) rfl (q0s rfl rfl fn56 hb56 rfl (rfl)) ((EvU.st [0,1,2,3,4,5,6,7,8,9] (ih x54.To p2 p3 w43 l44 t45 p7 p9 p11 r56 h57 t8 t10 t12)).mono fun _ _ ⟨_,h⟩=>h) rfl rfl ?_
  refine gd ?_
  refine RD.g ?_
  refine RD.g ?_
  refine gd ?_
  refine RD.done ⟨by kernel_rfl,⟨q0w rfl,⟨q0w rfl,⟨q77 un98.h rfl (q0g if3.h) rfl rfl rfl,⟨q60 un3.h rfl rfl rfl rfl,trivial⟩⟩⟩⟩,?_⟩
  refine go ?_
  exact lC ⟨_,(l41++[(q0f.mk x54.Feat r56.1)]),(t42+1),r56.2.1,r56.2.2.1,r56.2.2.2,hF,rfl,rfl⟩
  refine go ?_
  exact xC ⟨l41,t42,w43,l44,t45,hF,rfl,rfl⟩
def q1i (n:Nat) (p1:Int) (p2:List q1c) (p3:List q0b) (p4:List q0d) (p6:List q08) (p8:List q1e):Option (GFS×Bool) :=
 bindO (cond (decide (p1<0))
  (some true)
  (some (decide (p1 ≥ (p4.length:Int))))) fun b11 =>
 cond b11
  (some ((GFS.mk []),false))
  (bindO (q21 n p1 p2 p3 (qxc:qem Int Int) ([]:List q0j) 0 p4 p6 p8) fun r14 =>
  some ((GFS.mk r14.2.2.1),true))
theorem q2i (n:Nat) (p1:Int) (p2:List q1c) (p3:List q0b) (p4:List q0d) (p6:List q08) (p8:List q1e) (r:GFS×Bool) (hF:q1i n p1 p2 p3 p4 p6 p8=some r):∀ t5 t7 t9:Nat,EvU Tryz.prog 28 [.ptr 0 0 0,.int .i64 p1] ⟨q0e p2 p3 t5 t7 t9 p4 p6 p8,4⟩ (fun u σ'=>∃ t:Nat→Nat,u = .tup [.agg [.isl false (List.map q0a r.1.Nodes)],.bool r.2]∧σ'=⟨q0e p2 p3 t5 t7 t9 p4 p6 p8,4⟩):=by
 unfold q1i at hF
 intro t5 t7 t9
 refine bg2 27 fn28 ?_
 obtain ⟨b11,h12,hF⟩:=q00 hF
 refine gr ?_
 refine z73 (fun tm σ=>tm=fr 27 [(1,.i6 p1),(2,.ptr 4 0 0),(4,.ptr 5 0 0),(19,.bool b11)]∧σ=⟨(5,.row [.nils] 40)::(4,.row [.ptr 0 0 0] 31)::q0e p2 p3 t5 t7 t9 p4 p6 p8,6⟩) ?_ ?_
 rintro _ _ ⟨rfl,rfl⟩
 refine gF hF (fun h13 hF=>?_) (fun h13 hF=>?_)
 refine go ?_
 obtain rfl:=sI hF
 exact ⟨.inr rfl,[.agg [.nils],.bool false],qe0 (q86 un40.h rfl (q0g if40.h) rfl rfl rfl) (q2y rfl (q24)),.tup [.agg [.isl false []],.bool false],⟨q0e p2 p3 t5 t7 t9 p4 p6 p8,4⟩,NL,Gh.trans (Gh.wk (.cons (.tup (.cons (.agg (.cons (.nil false) .nil)) (.cons (.refl _) .nil))) .nil)) (Gh.to (n1:=4) [] rfl rfl NL NL BUL.h BH.h),stF [],rfl,rfl⟩
 refine go ?_
 refine RS.q (u:=.map 6) (σ':=⟨(6,.map (List.map (mE (fun x=>.i6 x) (fun x=>.i6 x)) (qxc:qem Int Int).es) (qxc:qem Int Int).cl)::(5,.row [.nils] 40)::(4,.row [.ptr 0 0 0] 31)::q0e p2 p3 t5 t7 t9 p4 p6 p8,7⟩) rfl (z6f) ?_
 refine go ?_
 refine RS.q rfl (qs4 rfl rfl) ?_
 refine gn ?_
 refine WPU.ghost (tm':=fr 27 [(1,.i6 p1),(4,.ptr 5 0 0),(7,.ptr 8 0 0),(8,.ptr 9 0 0)]) (σ':=⟨(10,.bv q0a ([]:List q0j) 78 2 0)::(9,.row [.fn (.func 56) [] [.ptr 4 0 0,.ptr 7 0 0,.ptr 8 0 0,.ptr 9 0 0]] 102)::(8,.row [.vl 10 0 0 (([]:List q0j).length)] 40)::(7,.row [.map 6] 118)::(6,.map (List.map (mE (fun x=>.i6 x) (fun x=>.i6 x)) (qxc:qem Int Int).es) (qxc:qem Int Int).cl)::(5,.row [.nils] 40)::(4,.row [.ptr 0 0 0] 31)::q0e p2 p3 t5 t7 t9 p4 p6 p8,11⟩) (Gh.trans (z78 8 0 78 2 (by decide) NL rfl rfl) (z75 ⟨rfl,rfl,rfl,rfl,trivial⟩ rfl)) NL ?_
 obtain ⟨r14,h15,hF⟩:=q00 hF
 refine go ?_
 refine z74 (args:=[.i6 p1,.ptr 4 0 0,.ptr 7 0 0,.ptr 8 0 0,.ptr 9 0 0]) rfl (q0s rfl rfl fn56 hb56 rfl (rfl)) (EvU.st [4,7,8,9,0,6,10,1,2,3] (qa5 n p1 p2 p3 (qxc:qem Int Int) ([]:List q0j) 0 p4 p6 p8 r14 h15 t5 t7 t9)) rfl rfl ?_
 rintro _ _ ⟨t16,rfl,rfl⟩
 refine go ?_
 obtain rfl:=sI hF
 exact ⟨.inr rfl,[.agg [.vl 10 r14.2.2.2 0 r14.2.2.1.length],.bool true],qe0 (q86 un40.h rfl (q0g if40.h) rfl rfl rfl) (q2y rfl (q24)),.tup [.agg [.iM q0a r14.2.2.1],.bool true],⟨q0e p2 p3 t5 t7 t9 p4 p6 p8,4⟩,NL,Gh.trans (tm':=[.tup [.agg [.vl 10 r14.2.2.2 0 r14.2.2.1.length],.bool true]]) (σ':=⟨(10,.bv q0a r14.2.2.1 78 2 r14.2.2.2)::q0e p2 p3 t5 t7 t9 p4 p6 p8,11⟩) (z7m (fun k=>z1c [10,0,1,2,3] k)) (Gh.trans (z77 10 2) (Gh.to (n1:=4) [] rfl rfl NL NL BUL.h BH.h)),stF [],rfl,rfl⟩
 refine go ?_
 rcases gB h12 with ⟨h10,h12⟩ | ⟨h10,h12⟩
 exact gy h12
 obtain rfl:=sI h12
 refine go ?_
 refine RS.w (u:=.ptr 0 0 0) rfl (q0o rfl rfl) ?_
 refine go ?_
 exact xC ⟨rfl,rfl⟩
def q41 (n:Nat)  : Option (Bool) :=
 bindO (qhw n) fun r1 =>
 bindO (qbt n r1) fun r3 =>
 bindO (qa9 n 0 ([0,1])) fun r6 =>
 bindO (qa9 n 1 []) fun r8 =>
 bindO (qiw n ([r6,r8])) fun r10 =>
 bindO (q2k n r10 r3.1 r3.2 ([]:List q0d) 0 ([]:List q08) ([]:List q1e)) fun r12 =>
 cond (r12.1 != 0)
  (some false)
  (bindO (qa9 n 0 ([0,1])) fun r16 =>
  bindO (qa9 n 0 []) fun r18 =>
  bindO (qiw n ([r16,r18])) fun r20 =>
  bindO (q2k n r20 r3.1 r3.2 r12.2.1 r12.2.2 ([]:List q08) ([]:List q1e)) fun r22 =>
  cond (r22.1 != 2)
   (some false)
   (bindO (qa9 n 2 []) fun r26 =>
   bindO (qiw n ([r26])) fun r28 =>
   bindO (q2k n r28 r3.1 r3.2 r22.2.1 r22.2.2 ([]:List q08) ([]:List q1e)) fun r30 =>
   cond (r30.1 != 4)
    (some false)
    (bindO (q6c n r3.1 r3.2 r30.2.1 ([]:List q08) ([]:List q1e)) fun r34 =>
    cond (r34 != 5)
     (some false)
     (bindO (q2l n r3.1 r3.2 r30.2.1 ([]:List q08) ([]:List q1e) 0) fun r41 =>
     bindO (q2l n r3.1 r3.2 r30.2.1 ([]:List q08) r41.2.1 r41.2.2) fun r44 =>
     cond (r41.1 != 0)
      (some false)
      (cond (r44.1 != 1)
       (some false)
       (bindO (q1u n 0 2 r3.1 r3.2 r30.2.1 ([]:List q08) 0 r44.2.1) fun r49 =>
       cond (!r49.1)
        (some false)
        (bindO (q1i n 3 r3.1 r3.2 r49.2.1 r49.2.2.1 r44.2.1) fun r57 =>
        cond (!r57.2)
         (some false)
         (bindO (qeh n 1) fun r61 =>
         bindO (q4z n (GFS.mk r57.1.Nodes) r61) fun r63 =>
         cond (!r63)
          (some false)
          (bindO (q1u n 3 4 r3.1 r3.2 r49.2.1 r49.2.2.1 r49.2.2.2 r44.2.1) fun r66 =>
          cond r66.1
           (some false)
           (bindO (q1u n 0 5 r3.1 r3.2 r66.2.1 r66.2.2.1 r66.2.2.2 r44.2.1) fun r70 =>
           cond r70.1
            (some false)
            (bindO (q1u n (-1) 0 r3.1 r3.2 r70.2.1 r70.2.2.1 r70.2.2.2 r44.2.1) fun r74 =>
            cond r74.1
             (some false)
             (bindO (q1i n 4 r3.1 r3.2 r74.2.1 r74.2.2.1 r44.2.1) fun r82 =>
             cond (!r82.2)
              (some false)
              (bindO (qeh n 2) fun r86 =>
              bindO (q4z n (GFS.mk r82.1.Nodes) r86) fun r88 =>
              cond (!r88)
               (some false)
               (bindO (q3c n 0 r3.1 r3.2 r74.2.1 r74.2.2.1 r44.2.1) fun r91 =>
               cond (!r91.1)
                (some false)
                (bindO (q3c n 1 r3.1 r3.2 r91.2.1 r91.2.2.1 r91.2.2.2) fun r95 =>
                cond r95.1
                 (some false)
                 (bindO (q2l n r3.1 r3.2 r95.2.1 r95.2.2.1 r95.2.2.2 r44.2.2) fun r99 =>
                 cond (r99.1 != 1)
                  (some false)
                  (bindO (q1i n 3 r3.1 r3.2 r95.2.1 r95.2.2.1 r99.2.1) fun r108 =>
                  bindO (q1i n 5 r3.1 r3.2 r95.2.1 r95.2.2.1 r99.2.1) fun r111 =>
                  bindO (cond r108.2
                   (bindO (qeh n 0) fun r115 =>
                   bindO (q4z n (GFS.mk r108.1.Nodes) r115) fun r117 =>
                   cond r117
                    (some (!r111.2))
                    (some false))
                   (some false)) fun b120 =>
                  some b120)))))))))))))))))
theorem qc1 (n:Nat)  (r:Bool) (hF:q41 n  = some r):EvP Tryz.prog 11 [] (.bool r):=by
 unfold q41 at hF
 refine bg0 136 fn11 ?_
 obtain ⟨r1,h2,hF⟩:=q00 hF
 obtain ⟨r3,h4,hF⟩:=q00 hF
 refine go ?_
 refine RS.cl rfl (pC (qpl n r1 h2) _) fn33 (z74 (args:=[.agg (q0m r1)]) rfl (q0s rfl rfl fn12 hb12 rfl rfl) (EvU.st [] (qhj n r1 r3 h4 )) rfl rfl ?_)
 rintro _ _ ⟨t5,rfl,rfl⟩
 refine gn ?_
 refine WPU.ghost (tm':=fr 136 [(1,.ptr 1 0 0)]) (σ':=⟨[(2,.bv q1a ([]:List q0d) 96 3 0),(1,.row [.iM q1p r3.1,.iM q0k r3.2,.vl 2 0 0 (([]:List q0d).length),.nils,.nils] 85)],3⟩) (Gh.trans (z78 1 2 96 3 (by decide) NZ rfl rfl) (z75 ⟨rfl,trivial⟩ rfl)) NZ ?_
 refine WPU.ghost (tm':=fr 136 [(1,.ptr 1 0 0)]) (σ':=⟨[(3,.bv q1b ([]:List q08) 151 4 0),(2,.bv q1a ([]:List q0d) 96 3 0),(1,.row [.iM q1p r3.1,.iM q0k r3.2,.vl 2 0 0 (([]:List q0d).length),.vl 3 0 0 (([]:List q08).length),.nils] 85)],4⟩) (Gh.trans (z78 1 3 151 4 (by decide) NZ rfl rfl) (z75 ⟨rfl,trivial⟩ rfl)) NZ ?_
 refine WPU.ghost (tm':=fr 136 [(1,.ptr 1 0 0)]) (σ':=⟨qrm (([]:List q1e)) (([]:List q08)) (([]:List q0d)) r3.1 r3.2,5⟩) (Gh.trans (z78 1 4 94 2 (by decide) NZ rfl rfl) (z75 ⟨rfl,trivial⟩ rfl)) NZ ?_
 obtain ⟨r6,h7,hF⟩:=q00 hF
 obtain ⟨r8,h9,hF⟩:=q00 hF
 obtain ⟨r10,h11,hF⟩:=q00 hF
 obtain ⟨r12,h13,hF⟩:=q00 hF
 refine go ?_
 refine RS.q (u:=.bool false) rfl (op_nil rfl rfl rfl (nc_pn un31.h rfl rfl)) ?_
 refine go ?_
 refine RS.g ?_
 refine z7l rfl (z77 5 1) (pC (qbg n 0 ([0,1]) r6 h7) _) fn35 (RS.cl rfl (z7d (args':=[.i6 1,.isl false []]) (.cons (.refl _) (.cons (.nil false) .nil)) (pC (qbg n 1 [] r8 h9)) _) fn35 (RS.w (u:=.sl 6 0 2 2) (σ':=⟨(6,.row [.i6 r6.Typex,.iM q06 r6.Arcs,.i6 r8.Typex,.iM q06 r8.Arcs] 78)::qrm (([]:List q1e)) (([]:List q08)) (([]:List q0d)) r3.1 r3.2,7⟩) rfl (qc4 un33.h if78.h rfl rfl rfl rfl rfl rfl rfl) (z7l rfl (z77 6 2) (pC (qk7 n ([r6,r8]) r10 h11) _) fn34 (z74 (args:=[.ptr 1 0 0,.agg [.iM q0a r10.Nodes]]) (qfn rfl rfl rfl rfl) (q0s rfl rfl fn19 hb19 rfl rfl) (EvU.st [1,2,3,4] (q4d n r10 r3.1 r3.2 ([]:List q0d) 0 ([]:List q08) ([]:List q1e) r12 h13 0 0)) rfl rfl ?_))))
 rintro _ _ ⟨t14,rfl,rfl⟩
 refine go ?_
 rcases gB hF with ⟨h15,hF⟩ | ⟨h15,hF⟩
 refine go ?_
 refine z76 (t:=true) rfl (fun _=>?_) (fun hc=>by cases hc)
 exact gx hF
 obtain ⟨r16,h17,hF⟩:=q00 hF
 obtain ⟨r18,h19,hF⟩:=q00 hF
 obtain ⟨r20,h21,hF⟩:=q00 hF
 obtain ⟨r22,h23,hF⟩:=q00 hF
 refine go ?_
 refine RS.g ?_
 refine z7l rfl (z77 7 1) (pC (qbg n 0 ([0,1]) r16 h17) _) fn35 (RS.cl rfl (z7d (args':=[.i6 0,.isl false []]) (.cons (.refl _) (.cons (.nil false) .nil)) (pC (qbg n 0 [] r18 h19)) _) fn35 (RS.w (u:=.sl 8 0 2 2) (σ':=⟨(8,.row [.i6 r16.Typex,.iM q06 r16.Arcs,.i6 r18.Typex,.iM q06 r18.Arcs] 78)::qrn (([]:List q1e)) (([]:List q08)) r12.2.1 r12.2.2 r3.1 r3.2,9⟩) rfl (qc4 un33.h if78.h rfl rfl rfl rfl rfl rfl rfl) (z7l rfl (z77 8 2) (pC (qk7 n ([r16,r18]) r20 h21) _) fn34 (z74 (args:=[.ptr 1 0 0,.agg [.iM q0a r20.Nodes]]) (qfn rfl rfl rfl h15) (q0s rfl rfl fn19 hb19 rfl rfl) (EvU.st [1,2,3,4] (q4d n r20 r3.1 r3.2 r12.2.1 r12.2.2 ([]:List q08) ([]:List q1e) r22 h23 0 0)) rfl rfl ?_))))
 rintro _ _ ⟨t24,rfl,rfl⟩
 refine go ?_
 rcases gB hF with ⟨h25,hF⟩ | ⟨h25,hF⟩
 refine go ?_
 refine z76 (t:=true) rfl (fun _=>?_) (fun hc=>by cases hc)
 exact gx hF
 obtain ⟨r26,h27,hF⟩:=q00 hF
 obtain ⟨r28,h29,hF⟩:=q00 hF
 obtain ⟨r30,h31,hF⟩:=q00 hF
 refine go ?_
 refine RS.cl rfl (z7d (args':=[.i6 2,.isl false []]) (.cons (.refl _) (.cons (.nil false) .nil)) (pC (qbg n 2 [] r26 h27)) _) fn35 (RS.w (u:=.sl 9 0 1 1) (σ':=⟨(9,.row (q0a r26) 78)::qrn (([]:List q1e)) (([]:List q08)) r22.2.1 r22.2.2 r3.1 r3.2,10⟩) rfl (qc4 un33.h if78.h rfl rfl rfl rfl rfl rfl rfl) (z7l rfl (z77 9 2) (pC (qk7 n ([r26]) r28 h29) _) fn34 (z74 (args:=[.ptr 1 0 0,.agg [.iM q0a r28.Nodes]]) (qfn rfl rfl rfl h25) (q0s rfl rfl fn19 hb19 rfl rfl) (EvU.st [1,2,3,4] (q4d n r28 r3.1 r3.2 r22.2.1 r22.2.2 ([]:List q08) ([]:List q1e) r30 h31 0 0)) rfl rfl ?_)))
 rintro _ _ ⟨t32,rfl,rfl⟩
 refine go ?_
 rcases gB hF with ⟨h33,hF⟩ | ⟨h33,hF⟩
 refine go ?_
 refine z76 (t:=true) rfl (fun _=>?_) (fun hc=>by cases hc)
 exact gx hF
 obtain ⟨r34,h35,hF⟩:=q00 hF
 refine go ?_
 refine z74 (args:=[.ptr 1 0 0]) (qfn rfl rfl rfl h33) (q0s rfl rfl fn23 hb23 rfl rfl) (EvU.st [1,2,3,4] (qde n r3.1 r3.2 r30.2.1 ([]:List q08) ([]:List q1e) r34 h35 r30.2.2 0 0)) rfl rfl ?_
 rintro _ _ ⟨t36,rfl,rfl⟩
 refine gF hF (fun h40 hF=>?_) (fun h40 hF=>?_)
 exact gx hF
 obtain ⟨r41,h42,hF⟩:=q00 hF
 obtain ⟨r44,h45,hF⟩:=q00 hF
 refine go ?_
 refine z74 (args:=[.ptr 1 0 0]) rfl (q0s rfl rfl fn18 hb18 rfl rfl) (EvU.st [1,2,3,4] (q62 n r3.1 r3.2 r30.2.1 ([]:List q08) ([]:List q1e) 0 r41 h42 r30.2.2 0)) rfl rfl ?_
 rintro _ _ ⟨t43,rfl,rfl⟩
 refine go ?_
 refine z74 (args:=[.ptr 1 0 0]) rfl (q0s rfl rfl fn18 hb18 rfl rfl) (EvU.st [1,2,3,4] (q62 n r3.1 r3.2 r30.2.1 ([]:List q08) r41.2.1 r41.2.2 r44 h45 r30.2.2 0)) rfl rfl ?_
 rintro _ _ ⟨t46,rfl,rfl⟩
 refine go ?_
 rcases gB hF with ⟨h47,hF⟩ | ⟨h47,hF⟩
 refine go ?_
 refine z76 (t:=true) rfl (fun _=>?_) (fun hc=>by cases hc)
 exact gx hF
 refine go ?_
 rcases gB hF with ⟨h48,hF⟩ | ⟨h48,hF⟩
 refine go ?_
 refine z76 (t:=true) rfl (fun _=>?_) (fun hc=>by cases hc)
 exact gx hF
 obtain ⟨r49,h50,hF⟩:=q00 hF
 refine go ?_
 refine z74 (args:=[.ptr 1 0 0,.i6 0,.i6 2]) (qfn rfl rfl rfl h48) (q0s rfl rfl fn20 hb20 rfl rfl) (EvU.st [1,2,3,4] (q3y n 0 2 r3.1 r3.2 r30.2.1 ([]:List q08) 0 r44.2.1 r49 h50 r30.2.2 r44.2.2)) rfl rfl ?_
 rintro _ _ ⟨t51,rfl,rfl⟩
 refine gF hF (fun h56 hF=>?_) (fun h56 hF=>?_)
 exact gx hF
 obtain ⟨r57,h58,hF⟩:=q00 hF
 refine go ?_
 refine z74 (args:=[.ptr 1 0 0,.i6 3]) rfl (q0s rfl rfl fn28 hb28 rfl rfl) (EvU.st [1,2,3,4] (q2i n 3 r3.1 r3.2 r49.2.1 r49.2.2.1 r44.2.1 r57 h58 r30.2.2 r49.2.2.2 r44.2.2)) rfl rfl ?_
 rintro _ _ ⟨t59,rfl,rfl⟩
 refine go ?_
 refine dE [] ?_
 refine gd ?_
 rcases gB hF with ⟨h60,hF⟩ | ⟨h60,hF⟩
 refine gd ?_
 refine RD.done ⟨by kernel_rfl,trivial,?_⟩
 refine go ?_
 refine z76 (t:=true) rfl (fun _=>?_) (fun hc=>by cases hc)
 exact gx hF
 obtain ⟨r61,h62,hF⟩:=q00 hF
 obtain ⟨r63,h64,hF⟩:=q00 hF
 refine gd ?_
 refine RD.fl rfl (pC (qgb n 1 r61 h62)) fn36 (RD.fl rfl (pC (q6k n (GFS.mk r57.1.Nodes) r61 r63 h64)) fn25 ?_)
 refine gd ?_
 rcases gB hF with ⟨h65,hF⟩ | ⟨h65,hF⟩
 refine gd ?_
 refine RD.done ⟨by kernel_rfl,trivial,?_⟩
 refine go ?_
 refine z76 (t:=true) rfl (fun _=>?_) (fun hc=>by cases hc)
 exact gx hF
 obtain ⟨r66,h67,hF⟩:=q00 hF
 refine gd ?_
 refine z79 (u:=.bool r66.1) (σ1:=⟨qer r57.1.Nodes r44.2.1 r44.2.2 r66.2.2.1 r66.2.2.2 r66.2.1 r30.2.2 r3.1 r3.2,11⟩) (args:=[.ptr 1 0 0,.i6 3,.i6 4]) (qfn rfl rfl rfl h65) (q0s rfl rfl fn20 hb20 rfl rfl) ((EvU.st [1,2,3,4] (q3y n 3 4 r3.1 r3.2 r49.2.1 r49.2.2.1 r49.2.2.2 r44.2.1 r66 h67 r30.2.2 r44.2.2)).mono fun _ _ ⟨_,h⟩=>h) rfl rfl ?_
 refine gd ?_
 rcases gB hF with ⟨h69,hF⟩ | ⟨h69,hF⟩
 refine gd ?_
 refine RD.done ⟨by kernel_rfl,trivial,?_⟩
 refine go ?_
 refine z76 (t:=true) rfl (fun _=>?_) (fun hc=>by cases hc)
 exact gx hF
 obtain ⟨r70,h71,hF⟩:=q00 hF
 refine gd ?_
 refine z79 (u:=.bool r70.1) (σ1:=⟨qer r57.1.Nodes r44.2.1 r44.2.2 r70.2.2.1 r70.2.2.2 r70.2.1 r30.2.2 r3.1 r3.2,11⟩) (args:=[.ptr 1 0 0,.i6 0,.i6 5]) (qfn rfl rfl rfl h69) (q0s rfl rfl fn20 hb20 rfl rfl) ((EvU.st [1,2,3,4] (q3y n 0 5 r3.1 r3.2 r66.2.1 r66.2.2.1 r66.2.2.2 r44.2.1 r70 h71 r30.2.2 r44.2.2)).mono fun _ _ ⟨_,h⟩=>h) rfl rfl ?_
 refine gd ?_
 rcases gB hF with ⟨h73,hF⟩ | ⟨h73,hF⟩
 refine gd ?_
 refine RD.done ⟨by kernel_rfl,trivial,?_⟩
 refine go ?_
 refine z76 (t:=true) rfl (fun _=>?_) (fun hc=>by cases hc)
 exact gx hF
 obtain ⟨r74,h75,hF⟩:=q00 hF
 refine gd ?_
 refine z79 (u:=.bool r74.1) (σ1:=⟨qer r57.1.Nodes r44.2.1 r44.2.2 r74.2.2.1 r74.2.2.2 r74.2.1 r30.2.2 r3.1 r3.2,11⟩) (args:=[.ptr 1 0 0,.i6 (-1),.i6 0]) (qfn rfl rfl rfl h73) (q0s rfl rfl fn20 hb20 rfl rfl) ((EvU.st [1,2,3,4] (q3y n (-1) 0 r3.1 r3.2 r70.2.1 r70.2.2.1 r70.2.2.2 r44.2.1 r74 h75 r30.2.2 r44.2.2)).mono fun _ _ ⟨_,h⟩=>h) rfl rfl ?_
 refine gd ?_
 refine RD.done ⟨by kernel_rfl,trivial,?_⟩
 refine gF hF (fun h81 hF=>?_) (fun h81 hF=>?_)
 exact gx hF
 obtain ⟨r82,h83,hF⟩:=q00 hF
 refine go ?_
 refine z74 (args:=[.ptr 1 0 0,.i6 4]) rfl (q0s rfl rfl fn28 hb28 rfl rfl) (EvU.st [1,2,3,4] (q2i n 4 r3.1 r3.2 r74.2.1 r74.2.2.1 r44.2.1 r82 h83 r30.2.2 r74.2.2.2 r44.2.2)) rfl rfl ?_
 rintro _ _ ⟨t84,rfl,rfl⟩
 refine go ?_
 refine dE [] ?_
 refine gd ?_
 rcases gB hF with ⟨h85,hF⟩ | ⟨h85,hF⟩
 refine gd ?_
 refine RD.done ⟨by kernel_rfl,trivial,?_⟩
 refine go ?_
 refine z76 (t:=true) rfl (fun _=>?_) (fun hc=>by cases hc)
 exact gx hF
 obtain ⟨r86,h87,hF⟩:=q00 hF
 obtain ⟨r88,h89,hF⟩:=q00 hF
 refine gd ?_
 refine RD.fl rfl (pC (qgb n 2 r86 h87)) fn36 (RD.fl rfl (pC (q6k n (GFS.mk r82.1.Nodes) r86 r88 h89)) fn25 ?_)
 refine gd ?_
 rcases gB hF with ⟨h90,hF⟩ | ⟨h90,hF⟩
 refine gd ?_
 refine RD.done ⟨by kernel_rfl,trivial,?_⟩
 refine go ?_
 refine z76 (t:=true) rfl (fun _=>?_) (fun hc=>by cases hc)
 exact gx hF
 obtain ⟨r91,h92,hF⟩:=q00 hF
 refine gd ?_
 refine z79 (u:=.bool r91.1) (σ1:=⟨(11,.row [.iM q0a r82.1.Nodes] 40)::qer r57.1.Nodes r91.2.2.2 r44.2.2 r91.2.2.1 r74.2.2.2 r91.2.1 r30.2.2 r3.1 r3.2,12⟩) (args:=[.ptr 1 0 0,.i6 0]) (qfn rfl rfl rfl h90) (q0s rfl rfl fn21 hb21 rfl rfl) ((EvU.st [1,2,3,4] (q82 n 0 r3.1 r3.2 r74.2.1 r74.2.2.1 r44.2.1 r91 h92 r30.2.2 r74.2.2.2 r44.2.2)).mono fun _ _ ⟨_,h⟩=>h) rfl rfl ?_
 refine gd ?_
 rcases gB hF with ⟨h94,hF⟩ | ⟨h94,hF⟩
 refine gd ?_
 refine RD.done ⟨by kernel_rfl,trivial,?_⟩
 refine go ?_
 refine z76 (t:=true) rfl (fun _=>?_) (fun hc=>by cases hc)
 exact gx hF
 obtain ⟨r95,h96,hF⟩:=q00 hF
 refine gd ?_
 refine z79 (u:=.bool r95.1) (σ1:=⟨(11,.row [.iM q0a r82.1.Nodes] 40)::qer r57.1.Nodes r95.2.2.2 r44.2.2 r95.2.2.1 r74.2.2.2 r95.2.1 r30.2.2 r3.1 r3.2,12⟩) (args:=[.ptr 1 0 0,.i6 1]) (qfn rfl rfl rfl h94) (q0s rfl rfl fn21 hb21 rfl rfl) ((EvU.st [1,2,3,4] (q82 n 1 r3.1 r3.2 r91.2.1 r91.2.2.1 r91.2.2.2 r95 h96 r30.2.2 r74.2.2.2 r44.2.2)).mono fun _ _ ⟨_,h⟩=>h) rfl rfl ?_
 refine gd ?_
 rcases gB hF with ⟨h98,hF⟩ | ⟨h98,hF⟩
 refine gd ?_
 refine RD.done ⟨by kernel_rfl,trivial,?_⟩
 refine go ?_
 refine z76 (t:=true) rfl (fun _=>?_) (fun hc=>by cases hc)
 exact gx hF
 obtain ⟨r99,h100,hF⟩:=q00 hF
 refine gd ?_
 refine z79 (u:=.i6 r99.1) (σ1:=⟨(11,.row [.iM q0a r82.1.Nodes] 40)::qer r57.1.Nodes r99.2.1 r99.2.2 r95.2.2.1 r74.2.2.2 r95.2.1 r30.2.2 r3.1 r3.2,12⟩) (args:=[.ptr 1 0 0]) (qfn rfl rfl rfl h98) (q0s rfl rfl fn18 hb18 rfl rfl) ((EvU.st [1,2,3,4] (q62 n r3.1 r3.2 r95.2.1 r95.2.2.1 r95.2.2.2 r44.2.2 r99 h100 r30.2.2 r74.2.2.2)).mono fun _ _ ⟨_,h⟩=>h) rfl rfl ?_
 refine gd ?_
 refine RD.done ⟨by kernel_rfl,trivial,?_⟩
 refine gF hF (fun h107 hF=>?_) (fun h107 hF=>?_)
 exact gx hF
 obtain ⟨r108,h109,hF⟩:=q00 hF
 refine go ?_
 refine z74 (args:=[.ptr 1 0 0,.i6 3]) rfl (q0s rfl rfl fn28 hb28 rfl rfl) (EvU.st [1,2,3,4] (q2i n 3 r3.1 r3.2 r95.2.1 r95.2.2.1 r99.2.1 r108 h109 r30.2.2 r74.2.2.2 r99.2.2)) rfl rfl ?_
 rintro _ _ ⟨t110,rfl,rfl⟩
 obtain ⟨r111,h112,hF⟩:=q00 hF
 refine go ?_
 refine z74 (args:=[.ptr 1 0 0,.i6 5]) rfl (q0s rfl rfl fn28 hb28 rfl rfl) (EvU.st [1,2,3,4] (q2i n 5 r3.1 r3.2 r95.2.1 r95.2.2.1 r99.2.1 r111 h112 r30.2.2 r74.2.2.2 r99.2.2)) rfl rfl ?_
 rintro _ _ ⟨t113,rfl,rfl⟩
 obtain ⟨b120,h121,hF⟩:=q00 hF
 refine gn ?_
 refine z73 (fun tm σ=>tm=fr 136 [(0,.bool b120)]∧σ=⟨(13,.row [.iM q0a r111.1.Nodes] 40)::(12,.row [.iM q0a r108.1.Nodes] 40)::(11,.row [.iM q0a r82.1.Nodes] 40)::qer r57.1.Nodes r99.2.1 r99.2.2 r95.2.2.1 r74.2.2.2 r95.2.1 r30.2.2 r3.1 r3.2,14⟩) ?_ ?_
 rintro _ _ ⟨rfl,rfl⟩
 exact gx hF
 refine dE [] ?_
 refine gd ?_
 rcases gB h121 with ⟨h114,h121⟩ | ⟨h114,h121⟩
 obtain ⟨r115,h116,h121⟩:=q00 h121
 obtain ⟨r117,h118,h121⟩:=q00 h121
 refine gd ?_
 refine RD.fl rfl (pC (qgb n 0 r115 h116)) fn36 (RD.fl rfl (pC (q6k n (GFS.mk r108.1.Nodes) r115 r117 h118)) fn25 ?_)
 refine gd ?_
 rcases gB h121 with ⟨h119,h121⟩ | ⟨h119,h121⟩
 obtain rfl:=sI h121
 refine gd ?_
 refine RD.done ⟨by kernel_rfl,trivial,?_⟩
 refine go ?_
 exact xC ⟨rfl,rfl⟩
 obtain rfl:=sI h121
 refine gd ?_
 refine RD.done ⟨by kernel_rfl,trivial,?_⟩
 refine go ?_
 exact xC ⟨rfl,rfl⟩
 obtain rfl:=sI h121
 refine gd ?_
 refine RD.done ⟨by kernel_rfl,trivial,?_⟩
 refine go ?_
 exact xC ⟨rfl,rfl⟩
def q74  (l23:List GFS):Option ((List GFS)) :=
 some l23
def q43 (p1:List q1c) (p2:List q0b) (p3:List q0d) (p5:List q08) (p7:List q1e) (n:Nat):Nat→Int→(List GFS)→Option ((List GFS))
 | 0,_,_=>none
 | m1+1,z20,l21 =>
  bindO (q6c n p1 p2 p3 p5 p7) fun r25 =>
  cond (decide (z20<r25))
   (bindO (q1i n z20 p1 p2 p3 p5 p7) fun r29 =>
   needO ((l21.length+1)*24≤140737488355328∧l21.length+1≤140737488355328) (
   (q43 p1 p2 p3 p5 p7 n m1) (IntKind.i64.wrap (z20+1)) (l21++[(GFS.mk r29.1.Nodes)])))
   (q74 l21)
def q4w (n:Nat) (p1:List q1c) (p2:List q0b) (p3:List q0d) (p5:List q08) (p7:List q1e):Option ((List GFS)) :=
 q43 p1 p2 p3 p5 p7 n n 0 ([]:List GFS)
theorem q7o (n:Nat) (p1:List q1c) (p2:List q0b) (p3:List q0d) (p5:List q08) (p7:List q1e) (r:(List GFS)) (hF:q4w n p1 p2 p3 p5 p7=some r):∀ t4 t6 t8:Nat,EvU Tryz.prog 17 [.ptr 0 0 0] ⟨q0e p1 p2 t4 t6 t8 p3 p5 p7,4⟩ (fun u σ'=>∃ t:Nat→Nat,u = .isl false (List.map qnu r)∧σ'=⟨q0e p1 p2 t4 t6 t8 p3 p5 p7,4⟩):=by
 unfold q4w at hF
 intro t4 t6 t8
 refine bg1 24 fn17 ?_
 refine gr ?_
 refine gr ?_
 refine gr ?_
 refine WPU.ghost (tm':=fr 24 [(0,.ptr 0 0 0),(3,.vl 4 0 0 (([]:List GFS).length)),(4,.i6 0)]) (σ':=⟨(4,.bv qnu ([]:List GFS) 40 1 0)::q0e p1 p2 t4 t6 t8 p3 p5 p7,5⟩) (Gh.trans (z7j 3 40 1 (by decide) NL rfl rfl) (z75 ⟨rfl,rfl,rfl,trivial⟩ rfl)) NL ?_
 refine gL (fun m tm σ=>∃ z20 l21 t22,q43 p1 p2 p3 p5 p7 n m z20 l21=some r∧tm=fr 24 [(0,.ptr 0 0 0),(3,.vl 4 t22 0 l21.length),(4,.i6 z20)]∧σ=⟨(4,.bv qnu l21 40 1 t22)::q0e p1 p2 t4 t6 t8 p3 p5 p7,5⟩) (fun tm σ=>∃ l23 t24,q74 l23=some r∧tm=fr 24 [(3,.vl 4 t24 0 l23.length)]∧σ=⟨(4,.bv qnu l23 40 1 t24)::q0e p1 p2 t4 t6 t8 p3 p5 p7,5⟩) n ⟨0,([]:List GFS),0,hF,rfl,rfl⟩ ?_ ?_
 rintro _ _ ⟨l23,t24,hF,rfl,rfl⟩
 unfold q74 at hF
 refine go ?_
 obtain rfl:=sI hF
 exact ⟨.inr rfl,[.vl 4 t24 0 l23.length],q2y rfl (q24),.iM qnu l23,⟨q0e p1 p2 t4 t6 t8 p3 p5 p7,4⟩,NL,Gh.trans (z77 4 1) (Gh.to (n1:=4) [] rfl rfl NL NL BUL.h BH.h),stF [],rfl,rfl⟩
 rintro (_|m1) _ _ ⟨z20,l21,t22,hF,rfl,rfl⟩
 cases hF
 unfold q43 at hF
 obtain ⟨r25,h26,hF⟩:=q00 hF
 refine go ?_
 refine z74 (args:=[.ptr 0 0 0]) rfl (q0s rfl rfl fn23 hb23 rfl rfl) (EvU.st [0,1,2,3] (qde n p1 p2 p3 p5 p7 r25 h26 t4 t6 t8)) rfl rfl ?_
 rintro _ _ ⟨t27,rfl,rfl⟩
 refine gF hF (fun h28 hF=>?_) (fun h28 hF=>?_)
 refine go ?_
 refine WPU.block ?_
 obtain ⟨r29,h30,hF⟩:=q00 hF
 refine go ?_
 refine z74 (args:=[.ptr 0 0 0,.i6 z20]) rfl (q0s rfl rfl fn28 hb28 rfl rfl) (EvU.st [0,1,2,3] (q2i n z20 p1 p2 p3 p5 p7 r29 h30 t4 t6 t8)) rfl rfl ?_
 rintro _ _ ⟨t31,rfl,rfl⟩
 obtain ⟨h32,hF⟩:=q04 hF
 refine go ?_
 refine RS.g ?_
 refine RS.g ?_
 refine go ?_
 exact lC ⟨_,(l21++[(GFS.mk r29.1.Nodes)]),(t22+1),hF,rfl,rfl⟩
 refine go ?_
 exact xC ⟨l21,t22,hF,rfl,rfl⟩
def q7t   : Option (Bool) :=
 some true
def q4u (p1:List GFS) (p2:List GFS) (n:Nat):Nat→Int→Option (Bool)
 | 0,_=>none
 | m1+1,z7 =>
  cond (decide (z7<(p1.length:Int)))
   (bindO (idxO p1 z7) fun x9 =>
   bindO (idxO p2 z7) fun x11 =>
   bindO (q4z n x9 x11) fun r13 =>
   cond (!r13)
    (some false)
    ((q4u p1 p2 n m1) (IntKind.i64.wrap (z7+1))))
   (q7t)
def q5x (n:Nat) (p1:List GFS) (p2:List GFS):Option (Bool) :=
 cond ((p1.length:Int) != (p2.length:Int))
  (some false)
  (q4u p1 p2 n n 0)
theorem qbx (n:Nat) (p1:List GFS) (p2:List GFS) (r:Bool) (hF:q5x n p1 p2=some r):EvP Tryz.prog 22 [.isl false (List.map qnu p1),.isl false (List.map qnu p2)] (.bool r):=by
 unfold q5x at hF
 refine bg2 27 fn22 ?_
 refine gF hF (fun h3 hF=>?_) (fun h3 hF=>?_)
 exact gx hF
 refine go ?_
 refine gL (fun m tm σ=>∃ z7,q4u p1 p2 n m z7=some r∧tm=fr 27 [(0,.iM qnu p1),(1,.iM qnu p2),(5,.i6 z7)]∧σ=⟨[],0⟩) (fun tm σ=>q7t=some r∧tm=fr 27 []∧σ=⟨[],0⟩) n ⟨0,hF,rfl,rfl⟩ ?_ ?_
 rintro _ _ ⟨hF,rfl,rfl⟩
 unfold q7t at hF
 exact gx hF
 rintro (_|m1) _ _ ⟨z7,hF,rfl,rfl⟩
 cases hF
 unfold q4u at hF
 refine gF hF (fun h8 hF=>?_) (fun h8 hF=>?_)
 refine go ?_
 refine WPU.block ?_
 obtain ⟨x9,h10,hF⟩:=q00 hF
 obtain ⟨x11,h12,hF⟩:=q00 hF
 obtain ⟨r13,h14,hF⟩:=q00 hF
 refine go ?_
 refine dE [] ?_
 refine gd ?_
 refine RD.ix h10 ?_
 refine gd ?_
 refine RD.ix h12 ?_
 refine gd ?_
 refine RD.fl rfl (pC (q6k n x9 x11 r13 h14)) fn25 ?_
 refine gd ?_
 refine RD.done ⟨by kernel_rfl,trivial,?_⟩
 refine gF hF (fun h15 hF=>?_) (fun h15 hF=>?_)
 exact gx hF
 refine go ?_
 exact lC ⟨_,hF,rfl,rfl⟩
 refine go ?_
 exact xC ⟨hF,rfl,rfl⟩
def qbc   : Option (Bool) :=
 some true
def q6y (p1:GFS):Nat→Int→Option (Bool)
 | 0,_=>none
 | m1+1,z5 =>
  cond (decide (z5<(p1.Nodes.length:Int)))
   (bindO (idxO p1.Nodes z5) fun x7 =>
   cond (decide ((x7.Arcs.length:Int) > 12))
    (some false)
    ((q6y p1 m1) (IntKind.i64.wrap (z5+1))))
   (qbc)
def qdc (n:Nat) (p1:GFS):Option (Bool) :=
 cond (decide ((p1.Nodes.length:Int) > 12))
  (some false)
  (q6y p1 n 0)
theorem qq8 (n:Nat) (p1:GFS) (r:Bool) (hF:qdc n p1=some r):EvP Tryz.prog 51 [.agg [.isl false (List.map q0a p1.Nodes)]] (.bool r):=by
 unfold qdc at hF
 refine bg1 23 fn51 ?_
 refine gF hF (fun h2 hF=>?_) (fun h2 hF=>?_)
 exact gx hF
 refine go ?_
 refine gL (fun m tm σ=>∃ z5,q6y p1 m z5=some r∧tm=fr 23 [(1,.ptr 0 0 0),(3,.i6 z5)]∧σ=⟨[(0,.row [.iM q0a p1.Nodes] 40)],1⟩) (fun tm σ=>qbc=some r∧tm=fr 23 []∧σ=⟨[(0,.row [.iM q0a p1.Nodes] 40)],1⟩) n ⟨0,hF,rfl,rfl⟩ ?_ ?_
 rintro _ _ ⟨hF,rfl,rfl⟩
 unfold qbc at hF
 exact gx hF
 rintro (_|m1) _ _ ⟨z5,hF,rfl,rfl⟩
 cases hF
 unfold q6y at hF
 refine gF hF (fun h6 hF=>?_) (fun h6 hF=>?_)
 refine go ?_
 refine WPU.block ?_
 obtain ⟨x7,h8,hF⟩:=q00 hF
 refine go ?_
 refine RS.ix h8 ?_
 refine gF hF (fun h9 hF=>?_) (fun h9 hF=>?_)
 exact gx hF
 refine go ?_
 exact lC ⟨_,hF,rfl,rfl⟩
 refine go ?_
 exact xC ⟨hF,rfl,rfl⟩
def q6a (p1:List q0f) (z6:Int) (l7:List q0f) (rc1:Int→(List q0f)→Option ((List q0f))) (z18:Int):Option ((List q0f)) :=
 needO ((0:Int)≤z18∧z18≤((l7.length:Nat):Int)) (
 needO (0+z18.toNat≤l7.length) (
 needO (((l7.drop 0).take z18.toNat).length*16≤140737488355328∧((l7.drop 0).take z18.toNat).length≤140737488355328) (
 bindO (idxO p1 z6) fun x22 =>
 needO ((((l7.drop 0).take z18.toNat).length+1)*16≤140737488355328∧((l7.drop 0).take z18.toNat).length+1≤140737488355328) (
 needO ((0:Int)≤z18∧z18≤((l7.length:Nat):Int)) (
 needO ((0+z18.toNat)+(l7.length - z18.toNat)≤l7.length) (
 needO (((((l7.drop 0).take z18.toNat)++[x22]).length+((l7.drop (0+z18.toNat)).take (l7.length - z18.toNat)).length)*16≤140737488355328∧(((l7.drop 0).take z18.toNat)++[x22]).length+((l7.drop (0+z18.toNat)).take (l7.length - z18.toNat)).length≤140737488355328) (
 rc1 (IntKind.i64.wrap (z6+1)) ((((l7.drop 0).take z18.toNat)++[x22])++((l7.drop (0+z18.toNat)).take (l7.length - z18.toNat))))))))))
def q6b (p1:List q0f) (z6:Int) (l7:List q0f) (rc1:Int→(List q0f)→Option ((List q0f))):Nat→Int→Option ((List q0f))
 | 0,_=>none
 | m2+1,z17 =>
  bindO (cond (decide (z17 > 0))
   (bindO (idxO l7 (IntKind.i64.wrap (z17 - 1))) fun x29 =>
   bindO (idxO p1 z6) fun x31 =>
   some (decide (x29.Feat > x31.Feat)))
   (some false)) fun b33 =>
  cond b33
   ((q6b p1 z6 l7 rc1 m2) (IntKind.i64.wrap (z17 - 1)))
   (q6a p1 z6 l7 rc1 z17)
def q9u  (l9:List q0f):Option ((List q0f)) :=
 some l9
def q3a (p1:List q0f) (n:Nat):Nat→Int→(List q0f)→Option ((List q0f))
 | 0,_,_=>none
 | m1+1,z6,l7 =>
  cond (decide (z6<(p1.length:Int)))
   (q6b p1 z6 l7 (q3a p1 n m1) n (l7.length:Int))
   (q9u l7)
def qbm (n:Nat) (p1:List q0f):Option ((List q0f)) :=
 q3a p1 n n 0 ([]:List q0f)
theorem qhi (n:Nat) (p1:List q0f) (r:(List q0f)) (hF:qbm n p1=some r):EvU Tryz.prog 137 [.isl false (List.map q06 p1)] ⟨[],0⟩ (fun u σ'=>∃ t,u = .vl 0 t 0 r.length∧σ'=⟨[(0,.bv q06 r 98 2 t)],0+1⟩):=by
 unfold qbm at hF
 refine bg1 52 fn137 ?_
 refine gr ?_
 refine gr ?_
 refine gr ?_
 refine gV 3 98 2 1 ?_
 refine gL (fun m tm σ=>∃ z6 l7 t8,q3a p1 n m z6 l7=some r∧tm=fr 52 [(0,.iM q06 p1),(3,.vl 0 t8 0 l7.length),(4,.i6 z6)]∧σ=⟨[(0,.bv q06 l7 98 2 t8)],1⟩) (fun tm σ=>∃ l9 t10,q9u l9=some r∧tm=fr 52 [(3,.vl 0 t10 0 l9.length)]∧σ=⟨[(0,.bv q06 l9 98 2 t10)],1⟩) n ⟨0,([]:List q0f),0,hF,rfl,rfl⟩ ?_ ?_
 rintro _ _ ⟨l9,t10,hF,rfl,rfl⟩
 unfold q9u at hF
 refine go ?_
 obtain rfl:=sI hF
 exact ⟨.inr rfl,[.vl 0 t10 0 l9.length],q2y rfl q24,.vl 0 t10 0 l9.length,⟨[(0,.bv q06 l9 98 2 t10)],1⟩,NZ,Gh.trans (z7m (fun k=>Nat.beq k 0)) (Gh.to (n1:=1) [] rfl rfl NZ NL BUL.h BH.h),t10,rfl,rfl⟩
 rintro (_|m1) _ _ ⟨z6,l7,t8,hF,rfl,rfl⟩
 cases hF
 unfold q3a at hF
 refine gF hF (fun h11 hF=>?_) (fun h11 hF=>?_)
 refine go ?_
 refine WPU.block ?_
 refine go ?_
 refine gL (fun m tm σ=>∃ z17,q6b p1 z6 l7 (q3a p1 n m1) m z17=some r∧tm=fr 52 [(0,.iM q06 p1),(3,.vl 0 t8 0 l7.length),(4,.i6 z6),(5,.i6 z17)]∧σ=⟨[(0,.bv q06 l7 98 2 t8)],1⟩) (fun tm σ=>∃ z18,q6a p1 z6 l7 (q3a p1 n m1) z18=some r∧tm=fr 52 [(0,.iM q06 p1),(3,.vl 0 t8 0 l7.length),(4,.i6 z6),(5,.i6 z18)]∧σ=⟨[(0,.bv q06 l7 98 2 t8)],1⟩) n ⟨(l7.length:Int),hF,rfl,rfl⟩ ?_ ?_
 rintro _ _ ⟨z18,hF,rfl,rfl⟩
 unfold q6a at hF
 obtain ⟨h19,hF⟩:=q04 hF
 obtain ⟨h20,hF⟩:=q04 hF
 obtain ⟨h21,hF⟩:=q04 hF
 refine go ?_
 refine RS.q (u:=.vl 0 t8 0 z18.toNat) rfl (q2c rfl qaj (qk2 rfl) qaj (qoa q06 un76.h (q0g if98.h) q0z (vo rfl) (Nat.le_of_eq (Nat.zero_add _)) (qkp h19.1 h19.2))) (RS.q (u:=.vl 1 0 0 (((l7.drop 0).take z18.toNat).length)) (σ':=⟨[(1,.bv q06 ((l7.drop 0).take z18.toNat) 98 2 0),(0,.bv q06 l7 98 2 t8)],2⟩) rfl (qdn rfl rfl rfl rfl (qt6 q06 ((l7.drop 0).take z18.toNat) un76.h un76.h if98.h rfl (qw1 q06 q0z (vo rfl) h20) h21)) ?_)
 obtain ⟨x22,h23,hF⟩:=q00 hF
 obtain ⟨h24,hF⟩:=q04 hF
 refine go ?_
 refine RS.ix h23 ?_
 refine go ?_
 refine RS.q (u:=.sl 2 0 1 1) (σ':=⟨[(2,.row (q06 x22) 98),(1,.bv q06 ((l7.drop 0).take z18.toNat) 98 2 0),(0,.bv q06 l7 98 2 t8)],3⟩) rfl (qc4 un76.h if98.h rfl rfl rfl rfl rfl rfl rfl) ?_
 refine RS.g ?_
 obtain ⟨h25,hF⟩:=q04 hF
 obtain ⟨h26,hF⟩:=q04 hF
 obtain ⟨h27,hF⟩:=q04 hF
 refine go ?_
 refine RS.q (u:=.vl 0 t8 (0+z18.toNat) (l7.length - z18.toNat)) rfl (q2c rfl (qk2 rfl) qaj qaj (qoa q06 un76.h (q0g if98.h) q0z (vo rfl) (Nat.le_of_eq (Nat.zero_add _)) (quh h25.1 h25.2))) (RS.q (u:=.vl 1 2 0 (((((l7.drop 0).take z18.toNat)++[x22])++((l7.drop (0+z18.toNat)).take (l7.length - z18.toNat))).length)) (σ':=⟨[(2,.row (q06 x22) 98),(1,.bv q06 ((((l7.drop 0).take z18.toNat)++[x22])++((l7.drop (0+z18.toNat)).take (l7.length - z18.toNat))) 98 2 2),(0,.bv q06 l7 98 2 t8)],3⟩) rfl (qdn rfl rfl rfl rfl (qkn q06 ((l7.drop (0+z18.toNat)).take (l7.length - z18.toNat)) un76.h un76.h if98.h rfl q0z rfl (qw1 q06 q0z (vo rfl) h26) h27)) ?_)
 refine go ?_
 exact ⟨m1,_,_,zN _,⟨(IntKind.i64.wrap (z6+1)),((((l7.drop 0).take z18.toNat)++[x22])++((l7.drop (0+z18.toNat)).take (l7.length - z18.toNat))),2,hF,rfl,rfl⟩,NZ,Gh.trans (Gh.sub (l':=[(0,.iM q06 p1),(3,.vl 1 2 0 (((((l7.drop 0).take z18.toNat)++[x22])++((l7.drop (0+z18.toNat)).take (l7.length - z18.toNat))).length)),(4,.i6 (IntKind.i64.wrap (z6+1)))]) ⟨rfl,rfl,rfl,trivial⟩) (Gh.trans (Gh.mv (l':=[(0,.iM q06 p1),(3,.vl 0 2 0 (((((l7.drop 0).take z18.toNat)++[x22])++((l7.drop (0+z18.toNat)).take (l7.length - z18.toNat))).length)),(4,.i6 (IntKind.i64.wrap (z6+1)))]) (h':=[(2,.row (q06 x22) 98),(0,.bv q06 ((((l7.drop 0).take z18.toNat)++[x22])++((l7.drop (0+z18.toNat)).take (l7.length - z18.toNat))) 98 2 2)]) 0 1 NZ rfl rfl (by simp only [rS,rU,rUL,qg9,mvN,Nat.beq,zC,zD]) rfl (by simp only [avH,rB,qov,rUL,rU,qg9,qvm,mvN,Nat.beq,zC,zD,and_self])) (Gh.toC (n1:=1) ⟨rfl,rfl,rfl,trivial⟩ rfl NZ (by simp)))⟩
 rintro (_|m2) _ _ ⟨z17,hF,rfl,rfl⟩
 cases hF
 unfold q6b at hF
 obtain ⟨b33,h34,hF⟩:=q00 hF
 refine gn ?_
 refine z73 (fun tm σ=>tm=fr 52 [(0,.iM q06 p1),(3,.vl 0 t8 0 l7.length),(4,.i6 z6),(5,.i6 z17),(30,.bool b33)]∧σ=⟨[(0,.bv q06 l7 98 2 t8)],1⟩) ?_ ?_
 rintro _ _ ⟨rfl,rfl⟩
 refine gF hF (fun h35 hF=>?_) (fun h35 hF=>?_)
 refine go ?_
 refine WPU.block ?_
 refine go ?_
 exact lC ⟨_,hF,rfl,rfl⟩
 refine go ?_
 exact xC ⟨z17,hF,rfl,rfl⟩
 refine dE [] ?_
 refine gd ?_
 rcases gB h34 with ⟨h28,h34⟩ | ⟨h28,h34⟩
 obtain ⟨x29,h30,h34⟩:=q00 h34
 obtain ⟨x31,h32,h34⟩:=q00 h34
 obtain rfl:=sI h34
 refine gd ?_
 refine RD.w rfl (q25 rfl rfl (q40 q06 un76.h (q0g if98.h) (by decide) q0z (vo rfl) h30)) ?_
 refine RD.w rfl (q77 un98.h rfl (q0g if3.h) rfl (qc2 rfl) rfl) (RD.w (u:=.i6 x29.Feat) rfl (qk8 q06 un3.h rfl q0z rfl rfl (q71 h30) rfl) ?_)
 refine gd ?_
 refine RD.ix h32 ?_
 refine gd ?_
 refine RD.done ⟨by kernel_rfl,trivial,?_⟩
 refine go ?_
 exact xC ⟨rfl,rfl⟩
 obtain rfl:=sI h34
 refine gd ?_
 refine RD.done ⟨by kernel_rfl,trivial,?_⟩
 refine go ?_
 exact xC ⟨rfl,rfl⟩
 refine go ?_
 exact xC ⟨l7,t8,hF,rfl,rfl⟩
def q2m (z23:Int) (rc1:Int→(List Int)→(List Int)→Option ((List Int)×(List Int))) (l36:List Int) (l37:List Int):Option ((List Int)×(List Int)) :=
 rc1 (IntKind.i64.wrap (z23+1)) l36 l37
def q54  (l27:List Int) (l28:List Int):Option ((List Int)×(List Int)) :=
 some (l27,l28)
def q1l (p2:List q0j) (r12:List q0f) (self:Int→(List q0j)→(List Int)→(List Int)→Option ((List Int)×(List Int))):Nat→Int→(List Int)→(List Int)→Option ((List Int)×(List Int))
 | 0,_,_,_=>none
 | m1+1,z23,l24,l25 =>
  cond (decide (z23<(r12.length:Int)))
   (bindO (idxO r12 z23) fun x31 =>
   bindO (idxO l24 x31.To) fun x33 =>
   cond (decide (x33<0))
    (bindO (idxO r12 z23) fun x39 =>
    bindO (self x39.To p2 l24 l25) fun r41 =>
    q2m z23 (q1l p2 r12 self m1) r41.1 r41.2)
    (q2m z23 (q1l p2 r12 self m1) l24 l25))
   (q54 l24 l25)
def q5h (n:Nat) (self:Int→(List q0j)→(List Int)→(List Int)→Option ((List Int)×(List Int))) (p1:Int) (p2:List q0j) (p3:List Int) (p5:List Int):Option ((List Int)×(List Int)) :=
 bindO (idxO p3 p1) fun x7 =>
 needO ((p5.length+1)*8≤140737488355328∧p5.length+1≤140737488355328) (
 bindO (idxO p2 p1) fun x10 =>
 bindO (qbm n x10.Arcs) fun r12 =>
 q1l p2 r12 self n 0 (p3.set (0+p1.toNat) (p5.length:Int)) (p5++[p1]))
def q1t:Nat→Int→(List q0j)→(List Int)→(List Int)→Option ((List Int)×(List Int))
 | 0,_,_,_,_=>none
 | n+1,p1,p2,p3,p5=>q5h n (q1t n) p1 p2 p3 p5
theorem qbn:∀ (n:Nat) (p1:Int) (p2:List q0j) (p3:List Int) (p5:List Int) (r:(List Int)×(List Int)),q1t n p1 p2 p3 p5=some r→∀ t4 t6:Nat,EvU Tryz.prog 136 [.ptr 0 0 0,.int .i64 p1] ⟨qca p2 t4 t6 p3 p5,3⟩ (fun u σ'=>∃ t:Nat→Nat,u = .tup []∧σ'=⟨qca p2 t4 (t 0) r.1 r.2,3⟩)
 | 0,p1,p2,p3,p5,r,hF=>by cases hF
 | n+1,p1,p2,p3,p5,r,hF=>by
  have ih:=qbn n
  unfold q1t q5h at hF
  intro t4 t6
  refine bg2 62 fn136 ?_
  obtain ⟨x7,h8,hF⟩:=q00 hF
  refine gn ?_
  refine z73 (fun tm σ=>tm=fr 62 [(0,.ptr 0 0 0),(1,.i6 p1)]∧σ=⟨qca p2 t4 t6 (p3.set (0+p1.toNat) (p5.length:Int)) p5,3⟩) ?_ ?_
  rintro _ _ ⟨rfl,rfl⟩
  obtain ⟨h9,hF⟩:=q04 hF
  refine go ?_
  refine RS.q (u:=.ptr 0 0 0) rfl (q0o rfl rfl) ?_
  refine go ?_
  refine RS.g ?_
  refine RS.g ?_
  refine RS.q (u:=.ptr 0 0 0) rfl (q0o rfl rfl) ?_
  obtain ⟨x10,h11,hF⟩:=q00 hF
  obtain ⟨r12,h13,hF⟩:=q00 hF
  refine go ?_
  refine RS.q (u:=.ptr 0 0 0) rfl (q0o rfl rfl) ?_
  refine go ?_
  refine RS.ix h11 ?_
  refine go ?_
  refine z74 (R:=fun u σ'=>u = .vl 4 0 0 r12.length∧σ'=⟨(4,.bv q06 r12 98 2 0)::(3,.row [.i6 p1] 3)::qca p2 t4 (t6+1) (p3.set (0+p1.toNat) (p5.length:Int)) (p5++[p1]),5⟩) (args:=[.iM q06 x10.Arcs]) rfl (q0s rfl rfl fn137 hb137 rfl rfl) (EvU.own0 q06 (qhi n x10.Arcs r12 h13) _ 4 rfl) rfl rfl ?_
  rintro _ _ ⟨rfl,rfl⟩
  refine go ?_
  refine gL (fun m tm σ=>∃ z23 l24,∃ l25 t26,q1l p2 r12 (q1t n) m z23 l24 l25=some r∧tm=fr 62 [(0,.ptr 0 0 0),(4,.vl 4 0 0 r12.length),(5,.i6 z23)]∧σ=⟨(4,.bv q06 r12 98 2 0)::(3,.row [.i6 p1] 3)::qca p2 t4 t26 l24 l25,5⟩) (fun tm σ=>∃ l27 l28 t29,q54 l27 l28=some r∧tm=fr 62 []∧σ=⟨(4,.bv q06 r12 98 2 0)::(3,.row [.i6 p1] 3)::qca p2 t4 t29 l27 l28,5⟩) n ⟨0,(p3.set (0+p1.toNat) (p5.length:Int)),(p5++[p1]),(t6+1),hF,rfl,rfl⟩ ?_ ?_
  rintro _ _ ⟨l27,l28,t29,hF,rfl,rfl⟩
  unfold q54 at hF
  refine go ?_
  obtain rfl:=sI hF
  exact ⟨.inl rfl,[],q24,.tup [],⟨qca p2 t4 t29 l27 l28,3⟩,NL,Gh.to (n1:=3) [] rfl rfl NL NL BUL.h BH.h,stF [t29],rfl,rfl⟩
  rintro (_|m1) _ _ ⟨z23,l24,l25,t26,hF,rfl,rfl⟩
  cases hF
  unfold q1l at hF
  refine gF hF (fun h30 hF=>?_) (fun h30 hF=>?_)
  refine go ?_
  refine WPU.block ?_
  obtain ⟨x31,h32,hF⟩:=q00 hF
  obtain ⟨x33,h34,hF⟩:=q00 hF
  refine go ?_
  refine dE [] ?_
  refine gd ?_
  refine RD.q (u:=.ptr 0 0 0) rfl (q0o rfl rfl) ?_
  refine gd ?_
  refine RD.q rfl (q25 rfl rfl (q40 q06 un76.h (q0g if98.h) (by decide) q0z (vo rfl) h32)) ?_
  refine RD.q rfl (q77 un98.h rfl (q0g if3.h) rfl (qc2 rfl) rfl) (RD.q (u:=.i6 x31.To) rfl (qk8 q06 un3.h rfl q0z rfl rfl (q71 h32) rfl) ?_)
  refine RD.q rfl (q25 rfl rfl (q40 (cI .i64) un34.h (q0g if3.h) (by decide) (q4c .i64) (vo rfl) h34)) ?_
  refine RD.q rfl (q65 (cI .i64) (fun x=>.i6 x) un3.h rfl (fun _=>rfl) rfl rfl h34) ?_
  refine gd ?_
  refine RD.done ⟨by kernel_rfl,trivial,?_⟩
  refine gn ?_
  refine z73 (fun tm σ=>∃ l36 l37 t38,q2m z23 (q1l p2 r12 (q1t n) m1) l36 l37=some r∧tm=fr 62 [(0,.ptr 0 0 0),(4,.vl 4 0 0 r12.length),(5,.i6 z23)]∧σ=⟨(4,.bv q06 r12 98 2 0)::(3,.row [.i6 p1] 3)::qca p2 t4 t38 l36 l37,5⟩) ?_ ?_
  rintro _ _ ⟨l36,l37,t38,hF,rfl,rfl⟩
  unfold q2m at hF
  refine go ?_
  exact lC ⟨_,l36,l37,t38,hF,rfl,rfl⟩
  refine cF hF (fun h35 hF=>?_) (fun h35 hF=>?_)
  obtain ⟨x39,h40,hF⟩:=q00 hF
  obtain ⟨r41,h42,hF⟩:=q00 hF
  refine go ?_
  refine RS.q rfl (q25 rfl rfl (q40 q06 un76.h (q0g if98.h) (by decide) q0z (vo rfl) h40)) ?_
  refine RS.q rfl (q77 un98.h rfl (q0g if3.h) rfl (qc2 rfl) rfl) (RS.q (u:=.i6 x39.To) rfl (qk8 q06 un3.h rfl q0z rfl rfl (q71 h40) rfl) (z74 (args:=[.ptr 0 0 0,.i6 x39.To]) rfl (q0s rfl rfl fn136 hb136 rfl rfl) (EvU.st [0,1,2] (ih x39.To p2 l24 l25 r41 h42 t4 t26)) rfl rfl ?_))
  rintro _ _ ⟨t43,rfl,rfl⟩
  refine go ?_
  exact xC ⟨r41.1,r41.2,(t43 0),hF,rfl,rfl⟩
  refine go ?_
  exact xC ⟨l24,l25,t26,hF,rfl,rfl⟩
  refine go ?_
  exact xC ⟨l24,l25,t26,hF,rfl,rfl⟩
  refine dE [] ?_
  refine gd ?_
  refine RD.q (u:=.ptr 0 0 0) rfl (q0o rfl rfl) ?_
  refine gd ?_
  refine RD.q (u:=.ptr 0 0 0) rfl (q0o rfl rfl) ?_
  refine gd ?_
  refine RD.q rfl (q25 rfl rfl (q40 (cI .i64) un34.h (q0g if3.h) (by decide) (q4c .i64) (vo rfl) h8)) ?_
  refine z7e (u:=.junk) (σ':=⟨[(0,.row [.iM q0a p2,.vl 1 t4 0 p3.length,.vl 2 t6 0 p5.length] 214),(1,.bv (cI .i64) (p3.set (0+p1.toNat) (p5.length:Int)) 3 1 t4),(2,.bv (cI .i64) p5 3 1 t6)],3⟩) rfl (qss (cI .i64) (q0g if3.h) (q4c .i64) rfl rfl rfl rfl rfl rfl rfl (q71 h8) rfl) rfl ?_
  refine RD.done ⟨by kernel_rfl,trivial,?_⟩
  refine go ?_
  exact ⟨_,_,⟨rfl,rfl⟩,NL,z75 ⟨rfl,rfl,trivial⟩ (by simp only [qca,List.length_set])⟩
def q9t (z26:Int) (l27:List q0j) (rc2:Int→(List q0j)→Option (GFS)) (x34:q0j) (l54:List q0f):Option (GFS) :=
 needO ((l27.length+1)*32≤140737488355328∧l27.length+1≤140737488355328) (
 rc2 (IntKind.i64.wrap (z26+1)) (l27++[(q0j.mk x34.Typex l54)]))
def q6l (r14:(List Int)×(List Int)) (z26:Int) (l27:List q0j) (rc2:Int→(List q0j)→Option (GFS)) (x34:q0j):Nat→Int→(List q0f)→Option (GFS)
 | 0,_,_=>none
 | m3+1,z52,l53 =>
  cond (decide (z52<(l53.length:Int)))
   (bindO (idxO l53 z52) fun x57 =>
   bindO (idxO r14.1 x57.To) fun x59 =>
   bindO (idxO l53 z52) fun x61 =>
   (q6l r14 z26 l27 rc2 x34 m3) (IntKind.i64.wrap (z52+1)) (l53.set (0+z52.toNat) (q0f.mk x61.Feat x59)))
   (q9t z26 l27 rc2 x34 l53)
def qco  (l29:List q0j):Option (GFS) :=
 some (GFS.mk l29)
def q4k (p1:GFS) (n:Nat) (r14:(List Int)×(List Int)):Nat→Int→(List q0j)→Option (GFS)
 | 0,_,_=>none
 | m2+1,z26,l27 =>
  cond (decide (z26<(r14.2.length:Int)))
   (bindO (idxO r14.2 z26) fun x32 =>
   bindO (idxO p1.Nodes x32) fun x34 =>
   bindO (qbm n x34.Arcs) fun r36 =>
   q6l r14 z26 l27 (q4k p1 n r14 m2) x34 n 0 r36)
   (qco l27)
def q9s (p1:GFS) (p2:Int) (n:Nat) (l12:List Int):Option (GFS) :=
 bindO (q1t n p2 p1.Nodes l12 ([]:List Int)) fun r14 =>
 q4k p1 n r14 n 0 ([]:List q0j)
def q7s (p1:GFS) (p2:Int) (n:Nat):Nat→Int→(List Int)→Option (GFS)
 | 0,_,_=>none
 | m1+1,z9,l10 =>
  cond (decide (z9<(p1.Nodes.length:Int)))
   (needO ((l10.length+1)*8≤140737488355328∧l10.length+1≤140737488355328) (
   (q7s p1 p2 n m1) (IntKind.i64.wrap (z9+1)) (l10++[(-1)])))
   (q9s p1 p2 n l10)
def qei (n:Nat) (p1:GFS) (p2:Int):Option (GFS) :=
 q7s p1 p2 n n 0 ([]:List Int)
theorem qse (n:Nat) (p1:GFS) (p2:Int) (r:GFS) (hF:qei n p1 p2=some r):EvP Tryz.prog 106 [.agg [.isl false (List.map q0a p1.Nodes)],.int .i64 p2] (.agg [.isl false (List.map q0a r.Nodes)]):=by
 unfold qei at hF
 refine bg2 88 fn106 ?_
 refine gr ?_
 refine gr ?_
 refine gr ?_
 refine WPU.ghost (tm':=fr 88 [(1,.i6 p2),(2,.ptr 0 0 0),(4,.ptr 1 0 0),(5,.ptr 2 0 0),(6,.i6 0)]) (σ':=⟨(3,.bv (cI .i64) ([]:List Int) 3 1 0)::(2,.row [.iM q0a p1.Nodes,.vl 3 0 0 (([]:List Int).length),.nils] 214)::qe7 p1.Nodes,4⟩) (Gh.trans (z78 2 1 3 1 (by decide) NZ rfl rfl) (z75 ⟨rfl,rfl,rfl,rfl,rfl,trivial⟩ rfl)) NZ ?_
 refine gL (fun m tm σ=>∃ z9 l10 t11,q7s p1 p2 n m z9 l10=some r∧tm=fr 88 [(1,.i6 p2),(2,.ptr 0 0 0),(4,.ptr 1 0 0),(5,.ptr 2 0 0),(6,.i6 z9)]∧σ=⟨(3,.bv (cI .i64) l10 3 1 t11)::(2,.row [.iM q0a p1.Nodes,.vl 3 t11 0 l10.length,.nils] 214)::qe7 p1.Nodes,4⟩) (fun tm σ=>∃ l12 t13,q9s p1 p2 n l12=some r∧tm=fr 88 [(1,.i6 p2),(2,.ptr 0 0 0),(4,.ptr 1 0 0),(5,.ptr 2 0 0)]∧σ=⟨(3,.bv (cI .i64) l12 3 1 t13)::(2,.row [.iM q0a p1.Nodes,.vl 3 t13 0 l12.length,.nils] 214)::qe7 p1.Nodes,4⟩) n ⟨0,([]:List Int),0,hF,rfl,rfl⟩ ?_ ?_
 rintro _ _ ⟨l12,t13,hF,rfl,rfl⟩
 unfold q9s at hF
 refine gn ?_
 refine WPU.ghost (tm':=fr 88 [(1,.i6 p2),(2,.ptr 0 0 0),(4,.ptr 1 0 0),(5,.ptr 2 0 0)]) (σ':=⟨(4,.bv (cI .i64) ([]:List Int) 3 1 0)::(3,.bv (cI .i64) l12 3 1 t13)::(2,.row [.iM q0a p1.Nodes,.vl 3 t13 0 l12.length,.vl 4 0 0 (([]:List Int).length)] 214)::qe7 p1.Nodes,5⟩) (Gh.trans (z78 2 2 3 1 (by decide) NZ rfl rfl) (z75 ⟨rfl,rfl,rfl,rfl,trivial⟩ rfl)) NZ ?_
 obtain ⟨r14,h15,hF⟩:=q00 hF
 refine go ?_
 refine z74 (args:=[.ptr 2 0 0,.i6 p2]) rfl (q0s rfl rfl fn136 hb136 rfl rfl) (EvU.st [2,3,4] (qbn n p2 p1.Nodes l12 ([]:List Int) r14 h15 t13 0)) rfl rfl ?_
 rintro _ _ ⟨t16,rfl,rfl⟩
 refine gr ?_
 refine gr ?_
 refine WPU.ghost (tm':=fr 88 [(2,.ptr 0 0 0),(4,.ptr 1 0 0),(5,.ptr 2 0 0),(7,.ptr 5 0 0),(8,.i6 0)]) (σ':=⟨(6,.bv q0a ([]:List q0j) 78 2 0)::(5,.row [.vl 6 0 0 (([]:List q0j).length)] 40)::(4,.bv (cI .i64) r14.2 3 1 (t16 0))::(3,.bv (cI .i64) r14.1 3 1 t13)::(2,.row [.iM q0a p1.Nodes,.vl 3 t13 0 r14.1.length,.vl 4 (t16 0) 0 r14.2.length] 214)::qe7 p1.Nodes,7⟩) (Gh.trans (z78 5 0 78 2 (by decide) NZ rfl rfl) (z75 ⟨rfl,rfl,rfl,rfl,rfl,trivial⟩ rfl)) NZ ?_
 refine gL (fun m tm σ=>∃ z26 l27 t28,q4k p1 n r14 m z26 l27=some r∧tm=fr 88 [(2,.ptr 0 0 0),(4,.ptr 1 0 0),(5,.ptr 2 0 0),(7,.ptr 5 0 0),(8,.i6 z26)]∧σ=⟨qc9 l27 t28 r14.2 (t16 0) r14.1 t13 p1.Nodes p1.Nodes,7⟩) (fun tm σ=>∃ l29 t30,qco l29=some r∧tm=fr 88 [(4,.ptr 1 0 0),(7,.ptr 5 0 0)]∧σ=⟨qc9 l29 t30 r14.2 (t16 0) r14.1 t13 p1.Nodes p1.Nodes,7⟩) n ⟨0,([]:List q0j),0,hF,rfl,rfl⟩ ?_ ?_
 rintro _ _ ⟨l29,t30,hF,rfl,rfl⟩
 unfold qco at hF
 refine go ?_
 obtain rfl:=sI hF
 exact rT (us:=[.agg [.vl 6 t30 0 l29.length]]) (u:=.agg [.iM q0a l29]) (qe0 (q86 un40.h rfl (q0g if40.h) rfl rfl rfl) (q24)) (fR 6 2)
 rintro (_|m2) _ _ ⟨z26,l27,t28,hF,rfl,rfl⟩
 cases hF
 unfold q4k at hF
 refine go ?_
 refine RS.q (u:=.ptr 2 0 0) rfl (q0o rfl rfl) ?_
 refine gF hF (fun h31 hF=>?_) (fun h31 hF=>?_)
 refine go ?_
 refine WPU.block ?_
 obtain ⟨x32,h33,hF⟩:=q00 hF
 obtain ⟨x34,h35,hF⟩:=q00 hF
 refine go ?_
 refine dE [(0,11),(1,11),(2,11),(3,11),(4,11),(5,11),(6,11),(7,11),(8,11),(9,11),(10,11)] ?_
 refine gd ?_
 refine RD.q (u:=.ptr 2 0 0) rfl (q0o rfl rfl) ?_
 refine gd ?_
 refine RD.q rfl (q25 rfl rfl (q40 (cI .i64) un34.h (q0g if3.h) (by decide) (q4c .i64) (vo rfl) h33)) ?_
 refine RD.q rfl (q65 (cI .i64) (fun x=>.i6 x) un3.h rfl (fun _=>rfl) rfl rfl h33) ?_
 refine RD.ix h35 ?_
 refine gd ?_
 refine RD.g ?_
 refine z7f ?_
 refine RD.done ⟨by kernel_rfl,⟨q77 un40.h rfl (q0g if33.h) rfl rfl rfl,⟨q60 un33.h rfl rfl rfl rfl,⟨q0w rfl,⟨q0o rfl rfl,⟨q77 un214.h rfl (q0g if34.h) rfl rfl rfl,⟨q60 un34.h rfl rfl rfl rfl,⟨q0w rfl,⟨q25 rfl rfl (q40 (cI .i64) un34.h (q0g if3.h) (by decide) (q4c .i64) (vo rfl) h33),⟨q65 (cI .i64) (fun x=>.i6 x) un3.h rfl (fun _=>rfl) rfl rfl h33,⟨q25 rfl rfl (qom q0a un33.h (q0g if78.h) qcu h35 rfl),⟨z4q un78.h rfl (q0g if78.h) rfl rfl,trivial⟩⟩⟩⟩⟩⟩⟩⟩⟩⟩⟩,?_⟩
 obtain ⟨r36,h37,hF⟩:=q00 hF
 refine go ?_
 refine z74 (R:=fun u σ'=>u = .vl 8 0 0 r36.length∧σ'=⟨(8,.bv q06 r36 98 2 0)::(7,.row (q0a x34) 78)::qc9 l27 t28 r14.2 (t16 0) r14.1 t13 p1.Nodes p1.Nodes,9⟩) (args:=[.iM q06 x34.Arcs]) rfl (q0s rfl rfl fn137 hb137 rfl rfl) (EvU.own0 q06 (qhi n x34.Arcs r36 h37) _ 8 rfl) rfl rfl ?_
 rintro _ _ ⟨rfl,rfl⟩
 refine go ?_
 refine gL (fun m tm σ=>∃ z52 l53,q6l r14 z26 l27 (q4k p1 n r14 m2) x34 m z52 l53=some r∧tm=fr 88 [(2,.ptr 0 0 0),(4,.ptr 1 0 0),(5,.ptr 2 0 0),(7,.ptr 5 0 0),(8,.i6 z26),(9,.ptr 7 0 0),(10,.vl 8 0 0 l53.length),(11,.i6 z52)]∧σ=⟨(8,.bv q06 l53 98 2 0)::(7,.row (q0a x34) 78)::qc9 l27 t28 r14.2 (t16 0) r14.1 t13 p1.Nodes p1.Nodes,9⟩) (fun tm σ=>∃ l54,q9t z26 l27 (q4k p1 n r14 m2) x34 l54=some r∧tm=fr 88 [(2,.ptr 0 0 0),(4,.ptr 1 0 0),(5,.ptr 2 0 0),(7,.ptr 5 0 0),(8,.i6 z26),(9,.ptr 7 0 0),(10,.vl 8 0 0 l54.length)]∧σ=⟨(8,.bv q06 l54 98 2 0)::(7,.row (q0a x34) 78)::qc9 l27 t28 r14.2 (t16 0) r14.1 t13 p1.Nodes p1.Nodes,9⟩) n ⟨0,r36,hF,rfl,rfl⟩ ?_ ?_
 rintro _ _ ⟨l54,hF,rfl,rfl⟩
 unfold q9t at hF
 refine gn ?_
 refine WPU.ghost (tm':=fr 88 [(2,.ptr 0 0 0),(4,.ptr 1 0 0),(5,.ptr 2 0 0),(7,.ptr 5 0 0),(8,.i6 z26),(9,.ptr 7 0 0),(10,.iM q06 l54)]) (σ':=⟨(7,.row (q0a x34) 78)::qc9 l27 t28 r14.2 (t16 0) r14.1 t13 p1.Nodes p1.Nodes,9⟩) (Gh.trans (Gh.sub (l':=[(2,.ptr 0 0 0),(4,.ptr 1 0 0),(5,.ptr 2 0 0),(7,.ptr 5 0 0),(8,.i6 z26),(9,.ptr 7 0 0),(10,.vl 8 0 0 l54.length)]) ⟨rfl,rfl,rfl,rfl,rfl,rfl,rfl,trivial⟩) (z7g 8 2)) NZ ?_
 obtain ⟨h55,hF⟩:=q04 hF
 refine go ?_
 refine RS.g ?_
 refine RS.g ?_
 refine go ?_
 exact lC ⟨_,(l27++[(q0j.mk x34.Typex l54)]),(t28+1),hF,rfl,rfl⟩
 rintro (_|m3) _ _ ⟨z52,l53,hF,rfl,rfl⟩
 cases hF
 unfold q6l at hF
 refine gF hF (fun h56 hF=>?_) (fun h56 hF=>?_)
 refine go ?_
 refine WPU.block ?_
 obtain ⟨x57,h58,hF⟩:=q00 hF
 obtain ⟨x59,h60,hF⟩:=q00 hF
 obtain ⟨x61,h62,hF⟩:=q00 hF
 refine gn ?_
 refine z73 (fun tm σ=>tm=fr 88 [(2,.ptr 0 0 0),(4,.ptr 1 0 0),(5,.ptr 2 0 0),(7,.ptr 5 0 0),(8,.i6 z26),(9,.ptr 7 0 0),(10,.vl 8 0 0 ((l53.set (0+z52.toNat) (q0f.mk x61.Feat x59)).length)),(11,.i6 z52)]∧σ=⟨(8,.bv q06 (l53.set (0+z52.toNat) (q0f.mk x61.Feat x59)) 98 2 0)::(7,.row (q0a x34) 78)::qc9 l27 t28 r14.2 (t16 0) r14.1 t13 p1.Nodes p1.Nodes,9⟩) ?_ ?_
 rintro _ _ ⟨rfl,rfl⟩
 refine go ?_
 exact lC ⟨_,(l53.set (0+z52.toNat) (q0f.mk x61.Feat x59)),hF,rfl,rfl⟩
 refine dE [] ?_
 refine gd ?_
 refine RD.q (u:=.ptr 2 0 0) rfl (q0o rfl rfl) ?_
 refine gd ?_
 refine RD.q rfl (q25 rfl rfl (q40 q06 un76.h (q0g if98.h) (by decide) q0z (vo rfl) h58)) ?_
 refine RD.q rfl (q77 un98.h rfl (q0g if3.h) rfl (qc2 rfl) rfl) (RD.q (u:=.i6 x57.To) rfl (qk8 q06 un3.h rfl q0z rfl rfl (q71 h58) rfl) ?_)
 refine RD.q rfl (q25 rfl rfl (q40 (cI .i64) un34.h (q0g if3.h) (by decide) (q4c .i64) (vo rfl) h60)) ?_
 refine RD.q rfl (q65 (cI .i64) (fun x=>.i6 x) un3.h rfl (fun _=>rfl) rfl rfl h60) ?_
 refine RD.q rfl (q25 rfl rfl (q40 q06 un76.h (q0g if98.h) (by decide) q0z (vo rfl) h62)) ?_
 refine RD.q rfl (q77 un98.h rfl (q0g if3.h) rfl (qc2 rfl) rfl) (z7e (u:=.junk) (σ':=⟨(8,.bv q06 (l53.set (0+z52.toNat) (q0f.mk x61.Feat x59)) 98 2 0)::(7,.row (q0a x34) 78)::qc9 l27 t28 r14.2 (t16 0) r14.1 t13 p1.Nodes p1.Nodes,9⟩) rfl (z6t (y:=(q0f.mk x61.Feat x59)) q06 (q0g if3.h) q0z rfl rfl rfl rfl rfl rfl (q71 h62) rfl rfl) rfl ?_)
 refine RD.done ⟨by kernel_rfl,trivial,?_⟩
 refine go ?_
 exact ⟨_,_,⟨rfl,rfl⟩,NZ,z75 ⟨rfl,rfl,rfl,rfl,rfl,rfl,(by simp only [qe7,qc9,List.length_set]; rfl),rfl,trivial⟩ rfl⟩
 refine go ?_
 exact xC ⟨l53,hF,rfl,rfl⟩
 refine go ?_
 exact xC ⟨l27,t28,hF,rfl,rfl⟩
 rintro (_|m1) _ _ ⟨z9,l10,t11,hF,rfl,rfl⟩
 cases hF
 unfold q7s at hF
 refine gF hF (fun h63 hF=>?_) (fun h63 hF=>?_)
 refine go ?_
 refine WPU.block ?_
 obtain ⟨h64,hF⟩:=q04 hF
 refine go ?_
 refine RS.q (u:=.ptr 2 0 0) rfl (q0o rfl rfl) ?_
 refine go ?_
 refine RS.g ?_
 refine RS.g ?_
 refine RS.q (u:=.ptr 2 0 0) rfl (q0o rfl rfl) ?_
 refine go ?_
 exact lC ⟨_,(l10++[(-1)]),(t11+1),hF,rfl,rfl⟩
 refine go ?_
 exact xC ⟨l10,t11,hF,rfl,rfl⟩
def qcq (z6:Int) (rc1:Int→Option (Int))  : Option (Int) :=
 rc1 (IntKind.i64.wrap (z6+1))
def q7u (p1:List q0f) (z6:Int) (rc1:Int→Option (Int)):Nat→Int→Option (Int)
 | 0,_=>none
 | m2+1,z23 =>
  cond (decide (z23<z6))
   (bindO (idxO p1 z23) fun x25 =>
   bindO (idxO p1 z6) fun x27 =>
   cond (x25.Feat == x27.Feat)
    (some 4)
    ((q7u p1 z6 rc1 m2) (IntKind.i64.wrap (z23+1))))
   (qcq z6 rc1)
def qcp   : Option (Int) :=
 some 0
def q4l (p1:List q0f) (p2:Int) (n:Nat):Nat→Int→Option (Int)
 | 0,_=>none
 | m1+1,z6 =>
  cond (decide (z6<(p1.length:Int)))
   (bindO (bindO (idxO p1 z6) fun x8 =>
   cond (decide (x8.Feat<0))
    (some true)
    (bindO (idxO p1 z6) fun x11 =>
    cond (decide (x11.To<0))
     (some true)
     (bindO (idxO p1 z6) fun x14 =>
     some (decide (x14.To ≥ p2))))) fun b16 =>
   cond b16
    (some 2)
    (q7u p1 z6 (q4l p1 p2 n m1) n 0))
   (qcp)
def qgv (n:Nat) (p1:List q0f) (p2:Int):Option (Int) :=
 q4l p1 p2 n n 0
theorem qsf (n:Nat) (p1:List q0f) (p2:Int) (r:Int) (hF:qgv n p1 p2=some r):EvP Tryz.prog 140 [.isl false (List.map q06 p1),.int .i64 p2] (.int .i64 r):=by
 unfold qgv at hF
 refine bg2 52 fn140 ?_
 refine go ?_
 refine gL (fun m tm σ=>∃ z6,q4l p1 p2 n m z6=some r∧tm=fr 52 [(0,.iM q06 p1),(1,.i6 p2),(5,.i6 z6)]∧σ=⟨[],0⟩) (fun tm σ=>qcp=some r∧tm=fr 52 []∧σ=⟨[],0⟩) n ⟨0,hF,rfl,rfl⟩ ?_ ?_
 rintro _ _ ⟨hF,rfl,rfl⟩
 unfold qcp at hF
 exact gx hF
 rintro (_|m1) _ _ ⟨z6,hF,rfl,rfl⟩
 cases hF
 unfold q4l at hF
 refine gF hF (fun h7 hF=>?_) (fun h7 hF=>?_)
 refine go ?_
 refine WPU.block ?_
 obtain ⟨b16,h17,hF⟩:=q00 hF
 refine gn ?_
 refine z73 (fun tm σ=>tm=fr 52 [(0,.iM q06 p1),(1,.i6 p2),(5,.i6 z6),(35,.bool b16)]∧σ=⟨[],0⟩) ?_ ?_
 rintro _ _ ⟨rfl,rfl⟩
 refine gF hF (fun h18 hF=>?_) (fun h18 hF=>?_)
 exact gx hF
 refine go ?_
 refine gL (fun m tm σ=>∃ z23,q7u p1 z6 (q4l p1 p2 n m1) m z23=some r∧tm=fr 52 [(0,.iM q06 p1),(1,.i6 p2),(5,.i6 z6),(6,.i6 z23)]∧σ=⟨[],0⟩) (fun tm σ=>qcq z6 (q4l p1 p2 n m1)=some r∧tm=fr 52 [(0,.iM q06 p1),(1,.i6 p2),(5,.i6 z6)]∧σ=⟨[],0⟩) n ⟨0,hF,rfl,rfl⟩ ?_ ?_
 rintro _ _ ⟨hF,rfl,rfl⟩
 unfold qcq at hF
 refine go ?_
 exact lC ⟨_,hF,rfl,rfl⟩
 rintro (_|m2) _ _ ⟨z23,hF,rfl,rfl⟩
 cases hF
 unfold q7u at hF
 refine gF hF (fun h24 hF=>?_) (fun h24 hF=>?_)
 refine go ?_
 refine WPU.block ?_
 obtain ⟨x25,h26,hF⟩:=q00 hF
 obtain ⟨x27,h28,hF⟩:=q00 hF
 refine go ?_
 refine dE [] ?_
 refine gd ?_
 refine RD.ix h26 ?_
 refine gd ?_
 refine RD.ix h28 ?_
 refine gd ?_
 refine RD.done ⟨by kernel_rfl,trivial,?_⟩
 refine gF hF (fun h29 hF=>?_) (fun h29 hF=>?_)
 exact gx hF
 refine go ?_
 exact lC ⟨_,hF,rfl,rfl⟩
 refine go ?_
 exact xC ⟨hF,rfl,rfl⟩
 obtain ⟨x8,h9,h17⟩:=q00 h17
 refine go ?_
 refine RS.ix h9 ?_
 refine go ?_
 rcases gB h17 with ⟨h10,h17⟩ | ⟨h10,h17⟩
 exact gy h17
 obtain ⟨x11,h12,h17⟩:=q00 h17
 refine go ?_
 refine RS.ix h12 ?_
 refine go ?_
 rcases gB h17 with ⟨h13,h17⟩ | ⟨h13,h17⟩
 exact gy h17
 obtain ⟨x14,h15,h17⟩:=q00 h17
 obtain rfl:=sI h17
 refine go ?_
 refine RS.ix h15 ?_
 refine go ?_
 exact xC ⟨rfl,rfl⟩
 refine go ?_
 exact xC ⟨hF,rfl,rfl⟩
def qcr   : Option (Int) :=
 some 0
def q7v (p1:GFS) (n:Nat):Nat→Int→Option (Int)
 | 0,_=>none
 | m1+1,z6 =>
  cond (decide (z6<(p1.Nodes.length:Int)))
   (bindO (idxO p1.Nodes z6) fun x8 =>
   cond (decide (x8.Typex<0))
    (some 2)
    (bindO (idxO p1.Nodes z6) fun x11 =>
    bindO (qgv n x11.Arcs (p1.Nodes.length:Int)) fun r13 =>
    cond (r13 != 0)
     (some r13)
     ((q7v p1 n m1) (IntKind.i64.wrap (z6+1)))))
   (qcr)
def qej (n:Nat) (p1:GFS):Option (Int) :=
 cond ((p1.Nodes.length:Int) == 0)
  (some 1)
  (cond (decide ((p1.Nodes.length:Int) > 4096))
   (some 7)
   (q7v p1 n n 0))
theorem qsg (n:Nat) (p1:GFS) (r:Int) (hF:qej n p1=some r):EvP Tryz.prog 111 [.agg [.isl false (List.map q0a p1.Nodes)]] (.int .i64 r):=by
 unfold qej at hF
 refine bg1 40 fn111 ?_
 refine gF hF (fun h2 hF=>?_) (fun h2 hF=>?_)
 exact gx hF
 refine gF hF (fun h3 hF=>?_) (fun h3 hF=>?_)
 exact gx hF
 refine go ?_
 refine gL (fun m tm σ=>∃ z6,q7v p1 n m z6=some r∧tm=fr 40 [(1,.ptr 0 0 0),(3,.i6 z6)]∧σ=⟨[(0,.row [.iM q0a p1.Nodes] 40)],1⟩) (fun tm σ=>qcr=some r∧tm=fr 40 []∧σ=⟨[(0,.row [.iM q0a p1.Nodes] 40)],1⟩) n ⟨0,hF,rfl,rfl⟩ ?_ ?_
 rintro _ _ ⟨hF,rfl,rfl⟩
 unfold qcr at hF
 exact gx hF
 rintro (_|m1) _ _ ⟨z6,hF,rfl,rfl⟩
 cases hF
 unfold q7v at hF
 refine gF hF (fun h7 hF=>?_) (fun h7 hF=>?_)
 refine go ?_
 refine WPU.block ?_
 obtain ⟨x8,h9,hF⟩:=q00 hF
 refine go ?_
 refine RS.ix h9 ?_
 refine gF hF (fun h10 hF=>?_) (fun h10 hF=>?_)
 exact gx hF
 obtain ⟨x11,h12,hF⟩:=q00 hF
 obtain ⟨r13,h14,hF⟩:=q00 hF
 refine go ?_
 refine dE [] ?_
 refine gd ?_
 refine RD.ix h12 ?_
 refine gd ?_
 refine RD.fl rfl (pC (qsf n x11.Arcs (p1.Nodes.length:Int) r13 h14)) fn140 ?_
 refine gd ?_
 refine RD.done ⟨by kernel_rfl,trivial,?_⟩
 refine gF hF (fun h15 hF=>?_) (fun h15 hF=>?_)
 exact gx hF
 refine go ?_
 exact lC ⟨_,hF,rfl,rfl⟩
 refine go ?_
 exact xC ⟨hF,rfl,rfl⟩
def qdb (n:Nat) (p1:GFS):Option (GFS×Int) :=
 bindO (qej n p1) fun r2 =>
 cond (r2 != 0)
  (some ((GFS.mk []),r2))
  (bindO (qei n p1 0) fun r5 =>
  some (r5,0))
theorem qq6 (n:Nat) (p1:GFS) (r:GFS×Int) (hF:qdb n p1=some r):EvP Tryz.prog 81 [.agg [.isl false (List.map q0a p1.Nodes)]] (.tup [.agg [.isl false (List.map q0a r.1.Nodes)],.int .i64 r.2]):=by
 unfold qdb at hF
 refine bg1 13 fn81 ?_
 obtain ⟨r2,h3,hF⟩:=q00 hF
 refine go ?_
 refine RS.cl rfl (pC (qsg n p1 r2 h3) _) fn111 ?_
 refine gF hF (fun h4 hF=>?_) (fun h4 hF=>?_)
 refine go ?_
 obtain rfl:=sI hF
 exact rT (us:=[.agg [.nils],.i6 r2]) (u:=.tup [.agg [.isl false []],.i6 r2]) (qe0 (q86 un40.h rfl (q0g if40.h) rfl rfl rfl) (q2y rfl (q24))) wR
 obtain ⟨r5,h6,hF⟩:=q00 hF
 refine go ?_
 refine RS.cl rfl (pC (qse n p1 0 r5 h6) _) fn106 ?_
 refine go ?_
 obtain rfl:=sI hF
 exact rT (qe0 (q86 un40.h rfl (q0g if40.h) rfl rfl rfl) (q2y rfl (q24))) (z7c _ rfl)
def qbb (z11:Int) (rc1:Int→Option (Int))  : Option (Int) :=
 rc1 (IntKind.i64.wrap (z11+1))
def q6x (p1:q09) (z11:Int) (rc1:Int→Option (Int)) (x16:q0j):Nat→Int→Option (Int)
 | 0,_=>none
 | m2+1,z27 =>
  cond (decide (z27<(x16.Arcs.length:Int)))
   (bindO (idxO x16.Arcs z27) fun x29 =>
   cond (decide (x29.Feat ≥ (p1.Feats.length:Int)))
    (some 2)
    ((q6x p1 z11 rc1 x16 m2) (IntKind.i64.wrap (z27+1))))
   (qbb z11 rc1)
def q6w (p2:GFS) (n:Nat) (r3:GFS×Int)  : Option (Int) :=
 bindO (q4z n p2 (GFS.mk r3.1.Nodes)) fun r12 =>
 cond (!r12)
  (some 3)
  (some 0)
def q4t (p1:q09) (p2:GFS) (n:Nat) (r3:GFS×Int):Nat→Int→Option (Int)
 | 0,_=>none
 | m1+1,z11 =>
  cond (decide (z11<(p2.Nodes.length:Int)))
   (bindO (idxO p2.Nodes z11) fun x16 =>
   cond (decide (x16.Typex ≥ (p1.Types.length:Int)))
    (some 2)
    (q6x p1 z11 (q4t p1 p2 n r3 m1) x16 n 0))
   (q6w p2 n r3)
def qah (n:Nat) (p1:q09) (p2:GFS):Option (Int) :=
 bindO (qdb n p2) fun r3 =>
 cond (r3.2 != 0)
  (some r3.2)
  (q4t p1 p2 n r3 n 0)
theorem qq7 (n:Nat) (p1:q09) (p2:GFS) (r:Int) (hF:qah n p1 p2=some r):EvP Tryz.prog 52 [.agg (q0m p1),.agg [.isl false (List.map q0a p2.Nodes)]] (.int .i64 r):=by
 unfold qah at hF
 refine bg2 57 fn52 ?_
 obtain ⟨r3,h4,hF⟩:=q00 hF
 refine go ?_
 refine RS.cl rfl (pC (qq6 n p2 r3 h4) _) fn81 ?_
 refine gF hF (fun h5 hF=>?_) (fun h5 hF=>?_)
 exact gx hF
 refine go ?_
 refine gL (fun m tm σ=>∃ z11,q4t p1 p2 n r3 m z11=some r∧tm=fr 57 [(2,.ptr 0 0 0),(3,.ptr 1 0 0),(5,.ptr 2 0 0),(7,.i6 z11)]∧σ=⟨qcz r3.1.Nodes p2.Nodes (.row (q0m p1) 27),3⟩) (fun tm σ=>q6w p2 n r3=some r∧tm=fr 57 [(3,.ptr 1 0 0),(5,.ptr 2 0 0)]∧σ=⟨qcz r3.1.Nodes p2.Nodes (.row (q0m p1) 27),3⟩) n ⟨0,hF,rfl,rfl⟩ ?_ ?_
 rintro _ _ ⟨hF,rfl,rfl⟩
 unfold q6w at hF
 obtain ⟨r12,h13,hF⟩:=q00 hF
 refine go ?_
 refine RS.cl rfl (pC (q6k n p2 (GFS.mk r3.1.Nodes) r12 h13) _) fn25 ?_
 refine gF hF (fun h14 hF=>?_) (fun h14 hF=>?_)
 exact gx hF
 exact gx hF
 rintro (_|m1) _ _ ⟨z11,hF,rfl,rfl⟩
 cases hF
 unfold q4t at hF
 refine gF hF (fun h15 hF=>?_) (fun h15 hF=>?_)
 refine go ?_
 refine WPU.block ?_
 obtain ⟨x16,h17,hF⟩:=q00 hF
 refine go ?_
 refine RS.ix h17 ?_
 refine gF hF (fun h18 hF=>?_) (fun h18 hF=>?_)
 exact gx hF
 refine go ?_
 refine gL (fun m tm σ=>∃ z27,q6x p1 z11 (q4t p1 p2 n r3 m1) x16 m z27=some r∧tm=fr 57 [(2,.ptr 0 0 0),(3,.ptr 1 0 0),(5,.ptr 2 0 0),(7,.i6 z11),(8,.ptr 3 0 0),(9,.i6 z27)]∧σ=⟨(3,.row (q0a x16) 78)::qcz r3.1.Nodes p2.Nodes (.row (q0m p1) 27),4⟩) (fun tm σ=>qbb z11 (q4t p1 p2 n r3 m1)=some r∧tm=fr 57 [(2,.ptr 0 0 0),(3,.ptr 1 0 0),(5,.ptr 2 0 0),(7,.i6 z11)]∧σ=⟨(3,.row (q0a x16) 78)::qcz r3.1.Nodes p2.Nodes (.row (q0m p1) 27),4⟩) n ⟨0,hF,rfl,rfl⟩ ?_ ?_
 rintro _ _ ⟨hF,rfl,rfl⟩
 unfold qbb at hF
 refine go ?_
 exact lC ⟨_,hF,rfl,rfl⟩
 rintro (_|m2) _ _ ⟨z27,hF,rfl,rfl⟩
 cases hF
 unfold q6x at hF
 refine gF hF (fun h28 hF=>?_) (fun h28 hF=>?_)
 refine go ?_
 refine WPU.block ?_
 obtain ⟨x29,h30,hF⟩:=q00 hF
 refine go ?_
 refine dE [] ?_
 refine gd ?_
 refine RD.ix h30 ?_
 refine gd ?_
 refine RD.done ⟨by kernel_rfl,trivial,?_⟩
 refine gF hF (fun h31 hF=>?_) (fun h31 hF=>?_)
 exact gx hF
 refine go ?_
 exact lC ⟨_,hF,rfl,rfl⟩
 refine go ?_
 exact xC ⟨hF,rfl,rfl⟩
 refine go ?_
 exact xC ⟨hF,rfl,rfl⟩
def qcb   : Option (Bool) :=
 some true
def q7n (p1:q09) (p2:List GFS) (n:Nat):Nat→Int→Option (Bool)
 | 0,_=>none
 | m1+1,z8 =>
  cond (decide (z8<(p2.length:Int)))
   (bindO (idxO p2 z8) fun x10 =>
   bindO (bindO (qdc n x10) fun r12 =>
   cond (!r12)
    (some true)
    (bindO (qah n p1 x10) fun r15 =>
    some (r15 != 0))) fun b17 =>
   cond b17
    (some false)
    ((q7n p1 p2 n m1) (IntKind.i64.wrap (z8+1))))
   (qcb)
def qgq (n:Nat) (p1:q09) (p2:List GFS):Option (Bool) :=
 q7n p1 p2 n n 0
theorem qrq (n:Nat) (p1:q09) (p2:List GFS) (r:Bool) (hF:qgq n p1 p2=some r):EvP Tryz.prog 26 [.agg (q0m p1),.isl false (List.map qnu p2)] (.bool r):=by
 unfold qgq at hF
 refine bg2 23 fn26 ?_
 refine go ?_
 refine gL (fun m tm σ=>∃ z8,q7n p1 p2 n m z8=some r∧tm=fr 23 [(2,.ptr 0 0 0),(7,.iM qnu p2),(8,.i6 (p2.length:Int)),(9,.i6 z8)]∧σ=⟨[(0,.row (q0m p1) 27)],1⟩) (fun tm σ=>qcb=some r∧tm=fr 23 []∧σ=⟨[(0,.row (q0m p1) 27)],1⟩) n ⟨0,hF,rfl,rfl⟩ ?_ ?_
 rintro _ _ ⟨hF,rfl,rfl⟩
 unfold qcb at hF
 exact gx hF
 rintro (_|m1) _ _ ⟨z8,hF,rfl,rfl⟩
 cases hF
 unfold q7n at hF
 refine gF hF (fun h9 hF=>?_) (fun h9 hF=>?_)
 refine go ?_
 refine WPU.block ?_
 obtain ⟨x10,h11,hF⟩:=q00 hF
 refine go ?_
 refine RS.ix h11 ?_
 obtain ⟨b17,h18,hF⟩:=q00 hF
 refine gn ?_
 refine z73 (fun tm σ=>tm=fr 23 [(2,.ptr 0 0 0),(7,.iM qnu p2),(8,.i6 (p2.length:Int)),(9,.i6 z8),(21,.bool b17)]∧σ=⟨[(1,.row [.iM q0a x10.Nodes] 40),(0,.row (q0m p1) 27)],2⟩) ?_ ?_
 rintro _ _ ⟨rfl,rfl⟩
 refine gF hF (fun h19 hF=>?_) (fun h19 hF=>?_)
 exact gx hF
 refine go ?_
 exact lC ⟨_,hF,rfl,rfl⟩
 obtain ⟨r12,h13,h18⟩:=q00 h18
 refine go ?_
 refine RS.cl rfl (pC (qq8 n x10 r12 h13) _) fn51 ?_
 refine go ?_
 rcases gB h18 with ⟨h14,h18⟩ | ⟨h14,h18⟩
 exact gy h18
 obtain ⟨r15,h16,h18⟩:=q00 h18
 obtain rfl:=sI h18
 refine go ?_
 refine RS.cl rfl (pC (qq7 n p1 x10 r15 h16) _) fn52 ?_
 refine go ?_
 exact xC ⟨rfl,rfl⟩
 refine go ?_
 exact xC ⟨hF,rfl,rfl⟩
def q3d (p4:List Int) (z22:Int) (l23:List Int) (l25:List Int) (l27:List (List q0f)) (rc1:Int→(List Int)→(List Int)→(List (List q0f))→Option ((List Int)×(List Int)×(List (List q0f)))) (x36:q0j) (l64:List q0f):Option ((List Int)×(List Int)×(List (List q0f))) :=
 needO ((l27.length+1)*24≤140737488355328∧l27.length+1≤140737488355328) (
 rc1 (IntKind.i64.wrap (z22+1)) (l23++[(IntKind.i64.wrap ((p4.length:Int)+z22))]) (l25++[x36.Typex]) (l27++[l64]))
def q2f (p4:List Int) (z22:Int) (l23:List Int) (l25:List Int) (l27:List (List q0f)) (rc1:Int→(List Int)→(List Int)→(List (List q0f))→Option ((List Int)×(List Int)×(List (List q0f)))) (x36:q0j):Nat→Int→(List q0f)→Option ((List Int)×(List Int)×(List (List q0f)))
 | 0,_,_=>none
 | m2+1,z61,l62 =>
  cond (decide (z61<(x36.Arcs.length:Int)))
   (bindO (idxO x36.Arcs z61) fun x68 =>
   needO ((l62.length+1)*16≤140737488355328∧l62.length+1≤140737488355328) (
   (q2f p4 z22 l23 l25 l27 rc1 x36 m2) (IntKind.i64.wrap (z61+1)) (l62++[(q0f.mk x68.Feat (IntKind.i64.wrap (x68.To+(p4.length:Int))))])))
   (q3d p4 z22 l23 l25 l27 rc1 x36 l62)
def q4m  (l29:List Int) (l31:List Int) (l33:List (List q0f)):Option ((List Int)×(List Int)×(List (List q0f))) :=
 some (l29,l31,l33)
def q15 (p1:List q0j) (p4:List Int) (n:Nat):Nat→Int→(List Int)→(List Int)→(List (List q0f))→Option ((List Int)×(List Int)×(List (List q0f)))
 | 0,_,_,_,_=>none
 | m1+1,z22,l23,l25,l27 =>
  cond (decide (z22<(p1.length:Int)))
   (bindO (idxO p1 z22) fun x36 =>
   needO ((l23.length+1)*8≤140737488355328∧l23.length+1≤140737488355328) (
   needO ((l25.length+1)*8≤140737488355328∧l25.length+1≤140737488355328) (
   q2f p4 z22 l23 l25 l27 (q15 p1 p4 n m1) x36 n 0 ([]:List q0f))))
   (q4m l23 l25 l27)
def q4e (n:Nat) (p1:List q0j) (p2:List q1c) (p3:List q0b) (p4:List Int) (p6:List Int) (p8:List (List q0f)):Option ((List Int)×(List Int)×(List (List q0f))) :=
 q15 p1 p4 n n 0 p4 p6 p8
theorem qa6 (n:Nat) (p1:List q0j) (p2:List q1c) (p3:List q0b) (p4:List Int) (p6:List Int) (p8:List (List q0f)) (r:(List Int)×(List Int)×(List (List q0f))) (hF:q4e n p1 p2 p3 p4 p6 p8=some r):∀ t5 t7 t9:Nat,EvU Tryz.prog 53 [.ptr 0 0 0,.isl false (List.map q0a p1)] ⟨q1f p2 p3 t5 t7 t9 p4 p6 p8,4⟩ (fun u σ'=>∃ t:Nat→Nat,u = .tup []∧σ'=⟨q1f p2 p3 (t 0) (t 1) (t 2) r.1 r.2.1 r.2.2,4⟩):=by
 unfold q4e at hF
 intro t5 t7 t9
 refine bg2 74 fn53 ?_
 refine go ?_
 refine RS.q (u:=.ptr 0 0 0) rfl (q0o rfl rfl) ?_
 refine go ?_
 refine gL (fun m tm σ=>∃ z22 l23,∃ t24 l25,∃ t26 l27 t28,q15 p1 p4 n m z22 l23 l25 l27=some r∧tm=fr 74 [(0,.ptr 0 0 0),(4,.i6 (p4.length:Int)),(15,.iM q0a p1),(16,.i6 (p1.length:Int)),(17,.i6 z22)]∧σ=⟨q1f p2 p3 t24 t26 t28 l23 l25 l27,4⟩) (fun tm σ=>∃ l29 t30,∃ l31 t32,∃ l33 t34,q4m l29 l31 l33=some r∧tm=fr 74 []∧σ=⟨q1f p2 p3 t30 t32 t34 l29 l31 l33,4⟩) n ⟨0,p4,t5,p6,t7,p8,t9,hF,rfl,rfl⟩ ?_ ?_
 rintro _ _ ⟨l29,t30,l31,t32,l33,t34,hF,rfl,rfl⟩
 unfold q4m at hF
 refine go ?_
 obtain rfl:=sI hF
 exact ⟨.inl rfl,[],q24,.tup [],⟨q1f p2 p3 t30 t32 t34 l29 l31 l33,4⟩,NL,Gh.to (n1:=4) [] rfl rfl NL NL BUL.h BH.h,stF [t30,t32,t34],rfl,rfl⟩
 rintro (_|m1) _ _ ⟨z22,l23,t24,l25,t26,l27,t28,hF,rfl,rfl⟩
 cases hF
 unfold q15 at hF
 refine gF hF (fun h35 hF=>?_) (fun h35 hF=>?_)
 refine go ?_
 refine WPU.block ?_
 obtain ⟨x36,h37,hF⟩:=q00 hF
 refine go ?_
 refine RS.ix h37 ?_
 obtain ⟨h38,hF⟩:=q04 hF
 refine go ?_
 refine RS.q (u:=.ptr 0 0 0) rfl (q0o rfl rfl) ?_
 refine go ?_
 refine RS.g ?_
 refine RS.g ?_
 refine RS.q (u:=.ptr 0 0 0) rfl (q0o rfl rfl) ?_
 obtain ⟨h39,hF⟩:=q04 hF
 refine go ?_
 refine dE [(0,7),(0,8),(1,7),(2,7),(3,7),(4,7)] ?_
 refine gd ?_
 refine RD.q (u:=.ptr 0 0 0) rfl (q0o rfl rfl) ?_
 refine gd ?_
 refine RD.g ?_
 refine RD.g ?_
 refine RD.q (u:=.ptr 0 0 0) rfl (q0o rfl rfl) ?_
 refine gd ?_
 refine z7f ?_
 refine RD.done ⟨by kernel_rfl,⟨q0w rfl,⟨q0w rfl,⟨q0w rfl,⟨q0o rfl rfl,⟨q77 un116.h rfl (q0g if34.h) rfl rfl rfl,⟨q60 un34.h rfl rfl rfl rfl,trivial⟩⟩⟩⟩⟩⟩,?_⟩
 refine gr ?_
 refine gr ?_
 refine WPU.ghost (tm':=fr 74 [(0,.ptr 0 0 0),(4,.i6 (p4.length:Int)),(7,.vl 7 0 0 (([]:List q0f).length)),(15,.iM q0a p1),(16,.i6 (p1.length:Int)),(17,.i6 z22),(46,.iM q06 x36.Arcs),(47,.i6 (x36.Arcs.length:Int)),(48,.i6 0)]) (σ':=⟨(7,.bv q06 ([]:List q0f) 98 2 0)::(6,.row [.i6 x36.Typex] 3)::(5,.row [.i6 (IntKind.i64.wrap ((p4.length:Int)+z22))] 3)::(4,.row (q0a x36) 78)::q1f p2 p3 (t24+1) (t26+1) t28 (l23++[(IntKind.i64.wrap ((p4.length:Int)+z22))]) (l25++[x36.Typex]) l27,8⟩) (Gh.trans (z7j 7 98 2 (by decide) NL rfl rfl) (z75 ⟨rfl,rfl,rfl,rfl,rfl,rfl,rfl,rfl,rfl,trivial⟩ rfl)) NL ?_
 refine gL (fun m tm σ=>∃ z61 l62 t63,q2f p4 z22 l23 l25 l27 (q15 p1 p4 n m1) x36 m z61 l62=some r∧tm=fr 74 [(0,.ptr 0 0 0),(4,.i6 (p4.length:Int)),(7,.vl 7 t63 0 l62.length),(15,.iM q0a p1),(16,.i6 (p1.length:Int)),(17,.i6 z22),(46,.iM q06 x36.Arcs),(47,.i6 (x36.Arcs.length:Int)),(48,.i6 z61)]∧σ=⟨(7,.bv q06 l62 98 2 t63)::(6,.row [.i6 x36.Typex] 3)::(5,.row [.i6 (IntKind.i64.wrap ((p4.length:Int)+z22))] 3)::(4,.row (q0a x36) 78)::q1f p2 p3 (t24+1) (t26+1) t28 (l23++[(IntKind.i64.wrap ((p4.length:Int)+z22))]) (l25++[x36.Typex]) l27,8⟩) (fun tm σ=>∃ l64 t65,q3d p4 z22 l23 l25 l27 (q15 p1 p4 n m1) x36 l64=some r∧tm=fr 74 [(0,.ptr 0 0 0),(4,.i6 (p4.length:Int)),(7,.vl 7 t65 0 l64.length),(15,.iM q0a p1),(16,.i6 (p1.length:Int)),(17,.i6 z22)]∧σ=⟨(7,.bv q06 l64 98 2 t65)::(6,.row [.i6 x36.Typex] 3)::(5,.row [.i6 (IntKind.i64.wrap ((p4.length:Int)+z22))] 3)::(4,.row (q0a x36) 78)::q1f p2 p3 (t24+1) (t26+1) t28 (l23++[(IntKind.i64.wrap ((p4.length:Int)+z22))]) (l25++[x36.Typex]) l27,8⟩) n ⟨0,([]:List q0f),0,hF,rfl,rfl⟩ ?_ ?_
 rintro _ _ ⟨l64,t65,hF,rfl,rfl⟩
 unfold q3d at hF
 refine gn ?_
 refine WPU.ghost (tm':=fr 74 [(0,.ptr 0 0 0),(4,.i6 (p4.length:Int)),(7,.iM q06 l64),(15,.iM q0a p1),(16,.i6 (p1.length:Int)),(17,.i6 z22)]) (σ':=⟨(6,.row [.i6 x36.Typex] 3)::(5,.row [.i6 (IntKind.i64.wrap ((p4.length:Int)+z22))] 3)::(4,.row (q0a x36) 78)::q1f p2 p3 (t24+1) (t26+1) t28 (l23++[(IntKind.i64.wrap ((p4.length:Int)+z22))]) (l25++[x36.Typex]) l27,8⟩) (Gh.trans (Gh.sub (l':=[(0,.ptr 0 0 0),(4,.i6 (p4.length:Int)),(7,.vl 7 t65 0 l64.length),(15,.iM q0a p1),(16,.i6 (p1.length:Int)),(17,.i6 z22)]) ⟨rfl,rfl,rfl,rfl,rfl,rfl,trivial⟩) (z7g 7 2)) NL ?_
 obtain ⟨h66,hF⟩:=q04 hF
 refine go ?_
 refine RS.q (u:=.ptr 0 0 0) rfl (q0o rfl rfl) ?_
 refine go ?_
 refine RS.g ?_
 refine RS.g ?_
 refine RS.q (u:=.ptr 0 0 0) rfl (q0o rfl rfl) ?_
 refine go ?_
 exact lC ⟨_,(l23++[(IntKind.i64.wrap ((p4.length:Int)+z22))]),(t24+1),(l25++[x36.Typex]),(t26+1),(l27++[l64]),(t28+1),hF,rfl,rfl⟩
 rintro (_|m2) _ _ ⟨z61,l62,t63,hF,rfl,rfl⟩
 cases hF
 unfold q2f at hF
 refine gF hF (fun h67 hF=>?_) (fun h67 hF=>?_)
 refine go ?_
 refine WPU.block ?_
 obtain ⟨x68,h69,hF⟩:=q00 hF
 refine go ?_
 refine RS.ix h69 ?_
 obtain ⟨h70,hF⟩:=q04 hF
 refine go ?_
 refine RS.g ?_
 refine RS.g ?_
 refine go ?_
 exact lC ⟨_,(l62++[(q0f.mk x68.Feat (IntKind.i64.wrap (x68.To+(p4.length:Int))))]),(t63+1),hF,rfl,rfl⟩
 refine go ?_
 exact xC ⟨l62,t63,hF,rfl,rfl⟩
 refine go ?_
 exact xC ⟨l23,t24,l25,t26,l27,t28,hF,rfl,rfl⟩
def q1d (rc1:(List q0f)→(List q0f)→(List q0f)→(List q20)→Option (Bool×(List q20)×(List Int)×(List Int)×(List (List q0f)))) (l68:List q0f) (l69:List q0f) (l70:List q0f) (l71:List q20):Option (Bool×(List q20)×(List Int)×(List Int)×(List (List q0f))) :=
 rc1 l68 l69 l70 l71
def q1s (rc1:(List q0f)→(List q0f)→(List q0f)→(List q20)→Option (Bool×(List q20)×(List Int)×(List Int)×(List (List q0f)))) (l88:List q0f) (l89:List q0f) (l90:List q0f) (l91:List q20):Option (Bool×(List q20)×(List Int)×(List Int)×(List (List q0f))) :=
 q1d rc1 l88 l89 l90 l91
def q2g (p1:Int) (p2:Int) (p7:List Int) (p9:List Int) (p11:List (List q0f)) (r17:Int×Bool) (l49:List q0f) (l51:List q20):Option (Bool×(List q20)×(List Int)×(List Int)×(List (List q0f))) :=
 bindO (idxO p11 p1) fun x53 =>
 some (true,l51,(p7.set (0+p2.toNat) p1),(p9.set (0+p1.toNat) r17.1),(p11.set (0+p1.toNat) l49))
def q0i (p1:Int) (p2:Int) (p7:List Int) (p9:List Int) (p11:List (List q0f)) (r17:Int×Bool):Nat→(List q0f)→(List q0f)→(List q0f)→(List q20)→Option (Bool×(List q20)×(List Int)×(List Int)×(List (List q0f)))
 | 0,_,_,_,_=>none
 | m1+1,l43,l44,l45,l47 =>
  bindO (cond (decide ((l43.length:Int) > 0))
   (some true)
   (some (decide ((l44.length:Int) > 0)))) fun b56 =>
  cond b56
   (bindO (cond ((l44.length:Int) == 0)
    (some true)
    (cond (decide ((l43.length:Int) > 0))
     (bindO (idxO l43 0) fun x61 =>
     bindO (idxO l44 0) fun x63 =>
     some (decide (x61.Feat<x63.Feat)))
     (some false))) fun b65 =>
   cond b65
    (bindO (idxO l43 0) fun x73 =>
    needO ((l45.length+1)*16≤140737488355328∧l45.length+1≤140737488355328) (
    bindO (qmc l43 1 (l43.length:Int)) fun l76 =>
    q1d (q0i p1 p2 p7 p9 p11 r17 m1) l76 l44 (l45++[x73]) l47))
    (bindO (cond ((l43.length:Int) == 0)
     (some true)
     (bindO (idxO l44 0) fun x81 =>
     bindO (idxO l43 0) fun x83 =>
     some (decide (x81.Feat<x83.Feat)))) fun b85 =>
    cond b85
     (bindO (idxO l44 0) fun x93 =>
     needO ((l45.length+1)*16≤140737488355328∧l45.length+1≤140737488355328) (
     bindO (qmc l44 1 (l44.length:Int)) fun l96 =>
     q1s (q0i p1 p2 p7 p9 p11 r17 m1) l43 l96 (l45++[x93]) l47))
     (bindO (idxO l43 0) fun x100 =>
     bindO (idxO l44 0) fun x102 =>
     needO ((l47.length+1)*16≤140737488355328∧l47.length+1≤140737488355328) (
     bindO (idxO l43 0) fun x105 =>
     needO ((l45.length+1)*16≤140737488355328∧l45.length+1≤140737488355328) (
     bindO (qmc l43 1 (l43.length:Int)) fun l108 =>
     bindO (qmc l44 1 (l44.length:Int)) fun l112 =>
     q1s (q0i p1 p2 p7 p9 p11 r17 m1) l108 l112 (l45++[x105]) (l47++[(q20.mk x100.To x102.To)]))))))
   (q2g p1 p2 p7 p9 p11 r17 l45 l47)
def q4n (n:Nat) (p1:Int) (p2:Int) (p3:List q1c) (p4:List q0b) (p5:List q20) (p7:List Int) (p9:List Int) (p11:List (List q0f)):Option (Bool×(List q20)×(List Int)×(List Int)×(List (List q0f))) :=
 bindO (idxO p9 p1) fun x13 =>
 bindO (idxO p9 p2) fun x15 =>
 bindO (q4v n (q09.mk p3 p4) x13 x15) fun r17 =>
 cond (!r17.2)
  (some (false,p5,p7,p9,p11))
  (bindO (idxO p7 p2) fun x20 =>
  bindO (idxO p9 p1) fun x22 =>
  bindO (idxO p11 p1) fun x24 =>
  bindO (idxO p11 p2) fun x26 =>
  q0i p1 p2 p7 p9 p11 r17 n x24 x26 ([]:List q0f) p5)
theorem qe1 (n:Nat) (p1:Int) (p2:Int) (p3:List q1c) (p4:List q0b) (p5:List q20) (p7:List Int) (p9:List Int) (p11:List (List q0f)) (r:Bool×(List q20)×(List Int)×(List Int)×(List (List q0f))) (hF:q4n n p1 p2 p3 p4 p5 p7 p9 p11=some r):∀ t6 t8 t10 t12:Nat,EvU Tryz.prog 82 [.int .i64 p1,.int .i64 p2,.ptr 0 0 0,.ptr 1 0 0] ⟨q3g t6 p3 p4 t8 t10 t12 p5 p7 p9 p11,7⟩ (fun u σ'=>∃ t:Nat→Nat,u = .bool r.1∧σ'=⟨q3g (t 0) p3 p4 t8 t10 t12 r.2.1 r.2.2.1 r.2.2.2.1 r.2.2.2.2,7⟩):=by
 unfold q4n at hF
 intro t6 t8 t10 t12
 refine bg4 152 fn82 ?_
 obtain ⟨x13,h14,hF⟩:=q00 hF
 obtain ⟨x15,h16,hF⟩:=q00 hF
 obtain ⟨r17,h18,hF⟩:=q00 hF
 refine go ?_
 refine dE [] ?_
 refine gd ?_
 refine RD.q (u:=.ptr 2 0 0) rfl (q0o rfl rfl) ?_
 refine gd ?_
 refine RD.q (u:=.ptr 2 0 0) rfl (q0o rfl rfl) ?_
 refine gd ?_
 refine RD.q rfl (q25 rfl rfl (q40 (cI .i64) un34.h (q0g if3.h) (by decide) (q4c .i64) (vo rfl) h14)) ?_
 refine RD.q rfl (q65 (cI .i64) (fun x=>.i6 x) un3.h rfl (fun _=>rfl) rfl rfl h14) ?_
 refine gd ?_
 refine RD.q (u:=.ptr 2 0 0) rfl (q0o rfl rfl) ?_
 refine gd ?_
 refine RD.q rfl (q25 rfl rfl (q40 (cI .i64) un34.h (q0g if3.h) (by decide) (q4c .i64) (vo rfl) h16)) ?_
 refine RD.q rfl (q65 (cI .i64) (fun x=>.i6 x) un3.h rfl (fun _=>rfl) rfl rfl h16) (RD.fl rfl (pC (qmn n (q09.mk p3 p4) x13 x15 r17 h18)) fn46 ?_)
 refine gd ?_
 refine RD.done ⟨by kernel_rfl,trivial,?_⟩
 refine gF hF (fun h19 hF=>?_) (fun h19 hF=>?_)
 refine go ?_
 obtain rfl:=sI hF
 exact ⟨.inr rfl,[.bool false],q2y rfl (q24),.bool false,⟨q3g t6 p3 p4 t8 t10 t12 p5 p7 p9 p11,7⟩,NL,Gh.to (n1:=7) [] rfl rfl NL NL BUL.h BH.h,stF [t6],rfl,rfl⟩
 obtain ⟨x20,h21,hF⟩:=q00 hF
 refine gn ?_
 refine z73 (fun tm σ=>tm=fr 152 [(0,.i6 p1),(1,.i6 p2),(2,.ptr 0 0 0),(3,.ptr 1 0 0),(7,.i6 r17.1)]∧σ=⟨q3g t6 p3 p4 t8 t10 t12 p5 (p7.set (0+p2.toNat) p1) p9 p11,7⟩) ?_ ?_
 rintro _ _ ⟨rfl,rfl⟩
 obtain ⟨x22,h23,hF⟩:=q00 hF
 refine gn ?_
 refine z73 (fun tm σ=>tm=fr 152 [(0,.i6 p1),(1,.i6 p2),(2,.ptr 0 0 0),(3,.ptr 1 0 0)]∧σ=⟨q3g t6 p3 p4 t8 t10 t12 p5 (p7.set (0+p2.toNat) p1) (p9.set (0+p1.toNat) r17.1) p11,7⟩) ?_ ?_
 rintro _ _ ⟨rfl,rfl⟩
 obtain ⟨x24,h25,hF⟩:=q00 hF
 obtain ⟨x26,h27,hF⟩:=q00 hF
 refine go ?_
 refine dE [] ?_
 refine gd ?_
 refine RD.q (u:=.ptr 2 0 0) rfl (q0o rfl rfl) ?_
 refine gd ?_
 refine RD.q rfl (q25 rfl rfl (q40 (cL q06) un114.h (q0g if76.h) (by decide) (qg5 q06) (vo rfl) h25)) ?_
 refine RD.q rfl (q65 (cL q06) (fun x=>.iM q06 x) un76.h rfl (fun _=>rfl) rfl rfl h25) ?_
 refine gd ?_
 refine RD.q (u:=.ptr 2 0 0) rfl (q0o rfl rfl) ?_
 refine gd ?_
 refine RD.q rfl (q25 rfl rfl (q40 (cL q06) un114.h (q0g if76.h) (by decide) (qg5 q06) (vo rfl) h27)) ?_
 refine RD.q rfl (q65 (cL q06) (fun x=>.iM q06 x) un76.h rfl (fun _=>rfl) rfl rfl h27) ?_
 refine gd ?_
 refine RD.done ⟨by kernel_rfl,trivial,?_⟩
 refine gr ?_
 refine WPU.ghost (tm':=fr 152 [(0,.i6 p1),(2,.ptr 0 0 0),(3,.ptr 1 0 0),(9,.iM q06 x24),(10,.iM q06 x26),(11,.vl 7 0 0 (([]:List q0f).length))]) (σ':=⟨(7,.bv q06 ([]:List q0f) 98 2 0)::q3g t6 p3 p4 t8 t10 t12 p5 (p7.set (0+p2.toNat) p1) (p9.set (0+p1.toNat) r17.1) p11,8⟩) (Gh.trans (z7j 11 98 2 (by decide) NL rfl rfl) (z75 ⟨rfl,rfl,rfl,rfl,rfl,rfl,trivial⟩ rfl)) NL ?_
 refine gL (fun m tm σ=>∃ l43 l44,∃ l45 t46,∃ l47 t48,q0i p1 p2 p7 p9 p11 r17 m l43 l44 l45 l47=some r∧tm=fr 152 [(0,.i6 p1),(2,.ptr 0 0 0),(3,.ptr 1 0 0),(9,.iM q06 l43),(10,.iM q06 l44),(11,.vl 7 t46 0 l45.length)]∧σ=⟨(7,.bv q06 l45 98 2 t46)::q3g t48 p3 p4 t8 t10 t12 l47 (p7.set (0+p2.toNat) p1) (p9.set (0+p1.toNat) r17.1) p11,8⟩) (fun tm σ=>∃ l49 t50,∃ l51 t52,q2g p1 p2 p7 p9 p11 r17 l49 l51=some r∧tm=fr 152 [(0,.i6 p1),(2,.ptr 0 0 0),(11,.vl 7 t50 0 l49.length)]∧σ=⟨(7,.bv q06 l49 98 2 t50)::q3g t52 p3 p4 t8 t10 t12 l51 (p7.set (0+p2.toNat) p1) (p9.set (0+p1.toNat) r17.1) p11,8⟩) n ⟨x24,x26,([]:List q0f),0,p5,t6,hF,rfl,rfl⟩ ?_ ?_
 rintro _ _ ⟨l49,t50,l51,t52,hF,rfl,rfl⟩
 unfold q2g at hF
 refine gn ?_
 refine WPU.ghost (tm':=fr 152 [(0,.i6 p1),(2,.ptr 0 0 0),(11,.iM q06 l49)]) (σ':=⟨q3g t52 p3 p4 t8 t10 t12 l51 (p7.set (0+p2.toNat) p1) (p9.set (0+p1.toNat) r17.1) p11,8⟩) (Gh.trans (Gh.sub (l':=[(0,.i6 p1),(2,.ptr 0 0 0),(11,.vl 7 t50 0 l49.length)]) ⟨rfl,rfl,rfl,trivial⟩) (z7g 7 2)) NL ?_
 obtain ⟨x53,h54,hF⟩:=q00 hF
 refine gn ?_
 refine z73 (fun tm σ=>tm=fr 152 []∧σ=⟨q3g t52 p3 p4 t8 t10 t12 l51 (p7.set (0+p2.toNat) p1) (p9.set (0+p1.toNat) r17.1) (p11.set (0+p1.toNat) l49),8⟩) ?_ ?_
 rintro _ _ ⟨rfl,rfl⟩
 refine go ?_
 obtain rfl:=sI hF
 exact ⟨.inr rfl,[.bool true],q2y rfl (q24),.bool true,⟨q3g t52 p3 p4 t8 t10 t12 l51 (p7.set (0+p2.toNat) p1) (p9.set (0+p1.toNat) r17.1) (p11.set (0+p1.toNat) l49),7⟩,NL,Gh.to (n1:=7) [] rfl rfl NL NL BUL.h BH.h,stF [t52],rfl,rfl⟩
 refine go ?_
 refine RS.q (u:=.ptr 2 0 0) rfl (q0o rfl rfl) ?_
 refine go ?_
 refine RS.q rfl (q25 rfl rfl (q40 (cL q06) un114.h (q0g if76.h) (by decide) (qg5 q06) (vo rfl) h54)) ?_
 refine z7i (u:=.junk) (σ':=⟨[(0,.row [.ptr 2 0 0] 113),(1,.row [.vl 3 t52 0 l51.length] 101),(2,.row [.iM q1p p3,.iM q0k p4,.vl 4 t8 0 ((p7.set (0+p2.toNat) p1).length),.vl 5 t10 0 ((p9.set (0+p1.toNat) r17.1).length),.vl 6 t12 0 p11.length] 116),(3,.bv q1w l51 100 2 t52),(4,.bv (cI .i64) (p7.set (0+p2.toNat) p1) 3 1 t8),(5,.bv (cI .i64) (p9.set (0+p1.toNat) r17.1) 3 1 t10),(6,.bv (cL q06) (p11.set (0+p1.toNat) l49) 76 1 t12)],8⟩) rfl (qss (cL q06) (q0g if76.h) (qg5 q06) rfl rfl rfl rfl rfl rfl rfl (q71 h54) rfl) rfl ?_
 refine go ?_
 exact ⟨_,_,⟨rfl,rfl⟩,NL,z75 trivial (by simp only [q3g,List.length_set])⟩
 rintro (_|m1) _ _ ⟨l43,l44,l45,t46,l47,t48,hF,rfl,rfl⟩
 cases hF
 unfold q0i at hF
 obtain ⟨b56,h57,hF⟩:=q00 hF
 refine gn ?_
 refine z73 (fun tm σ=>tm=fr 152 [(0,.i6 p1),(2,.ptr 0 0 0),(3,.ptr 1 0 0),(9,.iM q06 l43),(10,.iM q06 l44),(11,.vl 7 t46 0 l45.length),(71,.bool b56)]∧σ=⟨(7,.bv q06 l45 98 2 t46)::q3g t48 p3 p4 t8 t10 t12 l47 (p7.set (0+p2.toNat) p1) (p9.set (0+p1.toNat) r17.1) p11,8⟩) ?_ ?_
 rintro _ _ ⟨rfl,rfl⟩
 refine gF hF (fun h58 hF=>?_) (fun h58 hF=>?_)
 refine go ?_
 refine WPU.block ?_
 refine go ?_
 refine WPU.block ?_
 obtain ⟨b65,h66,hF⟩:=q00 hF
 refine gn ?_
 refine z73 (fun tm σ=>tm=fr 152 [(0,.i6 p1),(2,.ptr 0 0 0),(3,.ptr 1 0 0),(9,.iM q06 l43),(10,.iM q06 l44),(11,.vl 7 t46 0 l45.length),(94,.bool b65)]∧σ=⟨(7,.bv q06 l45 98 2 t46)::q3g t48 p3 p4 t8 t10 t12 l47 (p7.set (0+p2.toNat) p1) (p9.set (0+p1.toNat) r17.1) p11,8⟩) ?_ ?_
 rintro _ _ ⟨rfl,rfl⟩
 refine gn ?_
 refine z73 (fun tm σ=>∃ l68 l69,∃ l70 l71 t72,q1d (q0i p1 p2 p7 p9 p11 r17 m1) l68 l69 l70 l71=some r∧tm=fr 152 [(0,.i6 p1),(2,.ptr 0 0 0),(3,.ptr 1 0 0),(9,.iM q06 l68),(10,.iM q06 l69),(11,.vl 7 (t46+1) 0 l70.length)]∧σ=⟨(7,.bv q06 l70 98 2 (t46+1))::q3g t72 p3 p4 t8 t10 t12 l71 (p7.set (0+p2.toNat) p1) (p9.set (0+p1.toNat) r17.1) p11,8⟩) ?_ ?_
 rintro _ _ ⟨l68,l69,l70,l71,t72,hF,rfl,rfl⟩
 unfold q1d at hF
 refine go ?_
 exact lC ⟨l68,l69,l70,(t46+1),l71,t72,hF,rfl,rfl⟩
 refine cF hF (fun h67 hF=>?_) (fun h67 hF=>?_)
 obtain ⟨x73,h74,hF⟩:=q00 hF
 obtain ⟨h75,hF⟩:=q04 hF
 obtain ⟨l76,h77,hF⟩:=q00 hF
 obtain ⟨h78,h79⟩:=qr5 q06 .i64 h77
 refine go ?_
 refine dE [(0,4),(6,4),(6,5),(7,4),(7,5)] ?_
 refine gd ?_
 refine RD.ix h74 ?_
 refine gd ?_
 refine RD.act (u:=.sl 8 0 1 1) (σ':=⟨(8,.row (q06 x73) 98)::(7,.bv q06 l45 98 2 t46)::q3g t48 p3 p4 t8 t10 t12 l47 (p7.set (0+p2.toNat) p1) (p9.set (0+p1.toNat) r17.1) p11,9⟩) rfl (qc4 un76.h if98.h rfl rfl rfl rfl rfl rfl rfl) rfl rfl ?_
 refine RD.g ?_
 refine gd ?_
 refine RD.q (u:=.iM q06 l76) rfl (q2c rfl (qk2 rfl) qaj qaj (qbr q06 un76.h (q0g if98.h) q0z h78 h79)) ?_
 refine gd ?_
 refine RD.done ⟨by kernel_rfl,⟨q0w rfl,⟨q0w rfl,⟨q0w rfl,⟨q2c rfl (qk2 rfl) qaj qaj (qbr q06 un76.h (q0g if98.h) q0z h78 h79),⟨q2c rfl (qk2 rfl) qaj qaj (qbr q06 un76.h (q0g if98.h) q0z h78 h79),trivial⟩⟩⟩⟩⟩,?_⟩
 refine go ?_
 exact xC ⟨l76,l44,(l45++[x73]),l47,t48,hF,rfl,rfl⟩
 obtain ⟨b85,h86,hF⟩:=q00 hF
 refine gn ?_
 refine z73 (fun tm σ=>tm=fr 152 [(0,.i6 p1),(2,.ptr 0 0 0),(3,.ptr 1 0 0),(9,.iM q06 l43),(10,.iM q06 l44),(11,.vl 7 t46 0 l45.length),(122,.bool b85)]∧σ=⟨(7,.bv q06 l45 98 2 t46)::q3g t48 p3 p4 t8 t10 t12 l47 (p7.set (0+p2.toNat) p1) (p9.set (0+p1.toNat) r17.1) p11,8⟩) ?_ ?_
 rintro _ _ ⟨rfl,rfl⟩
 refine gn ?_
 refine z73 (fun tm σ=>∃ l88 l89,∃ l90 l91 t92,q1s (q0i p1 p2 p7 p9 p11 r17 m1) l88 l89 l90 l91=some r∧tm=fr 152 [(0,.i6 p1),(2,.ptr 0 0 0),(3,.ptr 1 0 0),(9,.iM q06 l88),(10,.iM q06 l89),(11,.vl 7 (t46+1) 0 l90.length)]∧σ=⟨(7,.bv q06 l90 98 2 (t46+1))::q3g t92 p3 p4 t8 t10 t12 l91 (p7.set (0+p2.toNat) p1) (p9.set (0+p1.toNat) r17.1) p11,8⟩) ?_ ?_
 rintro _ _ ⟨l88,l89,l90,l91,t92,hF,rfl,rfl⟩
 unfold q1s at hF
 refine go ?_
 exact xC ⟨l88,l89,l90,l91,t92,hF,rfl,rfl⟩
 refine cF hF (fun h87 hF=>?_) (fun h87 hF=>?_)
 obtain ⟨x93,h94,hF⟩:=q00 hF
 obtain ⟨h95,hF⟩:=q04 hF
 obtain ⟨l96,h97,hF⟩:=q00 hF
 obtain ⟨h98,h99⟩:=qr5 q06 .i64 h97
 refine go ?_
 refine dE [(0,4),(6,4),(6,5),(7,4),(7,5)] ?_
 refine gd ?_
 refine RD.ix h94 ?_
 refine gd ?_
 refine RD.act (u:=.sl 8 0 1 1) (σ':=⟨(8,.row (q06 x93) 98)::(7,.bv q06 l45 98 2 t46)::q3g t48 p3 p4 t8 t10 t12 l47 (p7.set (0+p2.toNat) p1) (p9.set (0+p1.toNat) r17.1) p11,9⟩) rfl (qc4 un76.h if98.h rfl rfl rfl rfl rfl rfl rfl) rfl rfl ?_
 refine RD.g ?_
 refine gd ?_
 refine RD.q (u:=.iM q06 l96) rfl (q2c rfl (qk2 rfl) qaj qaj (qbr q06 un76.h (q0g if98.h) q0z h98 h99)) ?_
 refine gd ?_
 refine RD.done ⟨by kernel_rfl,⟨q0w rfl,⟨q0w rfl,⟨q0w rfl,⟨q2c rfl (qk2 rfl) qaj qaj (qbr q06 un76.h (q0g if98.h) q0z h98 h99),⟨q2c rfl (qk2 rfl) qaj qaj (qbr q06 un76.h (q0g if98.h) q0z h98 h99),trivial⟩⟩⟩⟩⟩,?_⟩
 refine go ?_
 exact xC ⟨l43,l96,(l45++[x93]),l47,t48,hF,rfl,rfl⟩
 obtain ⟨x100,h101,hF⟩:=q00 hF
 obtain ⟨x102,h103,hF⟩:=q00 hF
 obtain ⟨h104,hF⟩:=q04 hF
 refine go ?_
 refine dE [(0,10)] ?_
 refine gd ?_
 refine RD.ix h101 ?_
 refine gd ?_
 refine RD.ix h103 ?_
 refine gd ?_
 refine RD.q (u:=.agg [.i6 x100.To,.i6 x102.To]) rfl (qj5 rfl (by kernel_rfl)) ?_
 refine RD.g ?_
 refine RD.g ?_
 refine z7f ?_
 refine RD.done ⟨by kernel_rfl,⟨q60 un101.h rfl rfl rfl rfl,trivial⟩,?_⟩
 obtain ⟨x105,h106,hF⟩:=q00 hF
 obtain ⟨h107,hF⟩:=q04 hF
 obtain ⟨l108,h109,hF⟩:=q00 hF
 obtain ⟨h110,h111⟩:=qr5 q06 .i64 h109
 obtain ⟨l112,h113,hF⟩:=q00 hF
 obtain ⟨h114,h115⟩:=qr5 q06 .i64 h113
 refine go ?_
 refine dE [(0,4),(6,4),(6,5),(7,4),(7,5),(8,4),(8,5),(9,4),(9,5)] ?_
 refine gd ?_
 refine RD.ix h106 ?_
 refine gd ?_
 refine RD.act (u:=.sl 9 0 1 1) (σ':=⟨(9,.row (q06 x105) 98)::(8,.row [.i6 x100.To,.i6 x102.To] 100)::(7,.bv q06 l45 98 2 t46)::q3g (t48+1) p3 p4 t8 t10 t12 (l47++[(q20.mk x100.To x102.To)]) (p7.set (0+p2.toNat) p1) (p9.set (0+p1.toNat) r17.1) p11,10⟩) rfl (qc4 un76.h if98.h rfl rfl rfl rfl rfl rfl rfl) rfl rfl ?_
 refine RD.g ?_
 refine gd ?_
 refine RD.q (u:=.iM q06 l108) rfl (q2c rfl (qk2 rfl) qaj qaj (qbr q06 un76.h (q0g if98.h) q0z h110 h111)) ?_
 refine gd ?_
 refine RD.q (u:=.iM q06 l112) rfl (q2c rfl (qk2 rfl) qaj qaj (qbr q06 un76.h (q0g if98.h) q0z h114 h115)) ?_
 refine gd ?_
 refine RD.done ⟨by kernel_rfl,⟨q0w rfl,⟨q0w rfl,⟨q0w rfl,⟨q2c rfl (qk2 rfl) qaj qaj (qbr q06 un76.h (q0g if98.h) q0z h110 h111),⟨q2c rfl (qk2 rfl) qaj qaj (qbr q06 un76.h (q0g if98.h) q0z h110 h111),⟨q0w rfl,⟨q0w rfl,⟨q2c rfl (qk2 rfl) qaj qaj (qbr q06 un76.h (q0g if98.h) q0z h114 h115),⟨q2c rfl (qk2 rfl) qaj qaj (qbr q06 un76.h (q0g if98.h) q0z h114 h115),trivial⟩⟩⟩⟩⟩⟩⟩⟩⟩,?_⟩
 refine go ?_
 exact xC ⟨l108,l112,(l45++[x105]),(l47++[(q20.mk x100.To x102.To)]),(t48+1),hF,rfl,rfl⟩
 refine dE [] ?_
 refine gd ?_
 rcases gB h86 with ⟨h80,h86⟩ | ⟨h80,h86⟩
 obtain rfl:=sI h86
 refine gd ?_
 refine RD.done ⟨by kernel_rfl,trivial,?_⟩
 refine go ?_
 exact xC ⟨rfl,rfl⟩
 obtain ⟨x81,h82,h86⟩:=q00 h86
 obtain ⟨x83,h84,h86⟩:=q00 h86
 obtain rfl:=sI h86
 refine gd ?_
 refine RD.ix h82 ?_
 refine gd ?_
 refine RD.ix h84 ?_
 refine gd ?_
 refine RD.done ⟨by kernel_rfl,trivial,?_⟩
 refine go ?_
 exact xC ⟨rfl,rfl⟩
 refine dE [] ?_
 refine gd ?_
 rcases gB h66 with ⟨h59,h66⟩ | ⟨h59,h66⟩
 obtain rfl:=sI h66
 refine gd ?_
 repeat refine RD.no (qfo rfl rfl rfl) rfl rfl ?_
 refine gd ?_
 refine RD.done ⟨by kernel_rfl,trivial,?_⟩
 refine go ?_
 exact xC ⟨rfl,rfl⟩
 refine gd ?_
 rcases gB h66 with ⟨h60,h66⟩ | ⟨h60,h66⟩
 obtain ⟨x61,h62,h66⟩:=q00 h66
 obtain ⟨x63,h64,h66⟩:=q00 h66
 obtain rfl:=sI h66
 refine gd ?_
 refine RD.ix h62 ?_
 refine gd ?_
 refine RD.ix h64 ?_
 refine gd ?_
 refine RD.done ⟨by kernel_rfl,trivial,?_⟩
 refine go ?_
 exact xC ⟨rfl,rfl⟩
 obtain rfl:=sI h66
 refine gd ?_
 refine RD.done ⟨by kernel_rfl,trivial,?_⟩
 refine go ?_
 exact xC ⟨rfl,rfl⟩
 refine go ?_
 exact xC ⟨l45,t46,l47,t48,hF,rfl,rfl⟩
 refine go ?_
 rcases gB h57 with ⟨h55,h57⟩ | ⟨h55,h57⟩
 exact gy h57
 exact gy h57
 refine go ?_
 refine RS.q (u:=.ptr 2 0 0) rfl (q0o rfl rfl) ?_
 refine go ?_
 refine RS.q rfl (q25 rfl rfl (q40 (cI .i64) un34.h (q0g if3.h) (by decide) (q4c .i64) (vo rfl) h23)) ?_
 refine z7i (u:=.junk) (σ':=⟨[(0,.row [.ptr 2 0 0] 113),(1,.row [.vl 3 t6 0 p5.length] 101),(2,.row [.iM q1p p3,.iM q0k p4,.vl 4 t8 0 ((p7.set (0+p2.toNat) p1).length),.vl 5 t10 0 p9.length,.vl 6 t12 0 p11.length] 116),(3,.bv q1w p5 100 2 t6),(4,.bv (cI .i64) (p7.set (0+p2.toNat) p1) 3 1 t8),(5,.bv (cI .i64) (p9.set (0+p1.toNat) r17.1) 3 1 t10),(6,.bv (cL q06) p11 76 1 t12)],7⟩) rfl (qss (cI .i64) (q0g if3.h) (q4c .i64) rfl rfl rfl rfl rfl rfl rfl (q71 h23) rfl) rfl ?_
 refine go ?_
 exact ⟨_,_,⟨rfl,rfl⟩,NL,z75 ⟨rfl,rfl,rfl,rfl,trivial⟩ (by simp only [q3g,List.length_set])⟩
 refine go ?_
 refine RS.q (u:=.ptr 2 0 0) rfl (q0o rfl rfl) ?_
 refine go ?_
 refine RS.q rfl (q25 rfl rfl (q40 (cI .i64) un34.h (q0g if3.h) (by decide) (q4c .i64) (vo rfl) h21)) ?_
 refine z7i (u:=.junk) (σ':=⟨[(0,.row [.ptr 2 0 0] 113),(1,.row [.vl 3 t6 0 p5.length] 101),(2,.row [.iM q1p p3,.iM q0k p4,.vl 4 t8 0 p7.length,.vl 5 t10 0 p9.length,.vl 6 t12 0 p11.length] 116),(3,.bv q1w p5 100 2 t6),(4,.bv (cI .i64) (p7.set (0+p2.toNat) p1) 3 1 t8),(5,.bv (cI .i64) p9 3 1 t10),(6,.bv (cL q06) p11 76 1 t12)],7⟩) rfl (qss (cI .i64) (q0g if3.h) (q4c .i64) rfl rfl rfl rfl rfl rfl rfl (q71 h21) rfl) rfl ?_
 refine go ?_
 exact ⟨_,_,⟨rfl,rfl⟩,NL,z75 ⟨rfl,rfl,rfl,rfl,rfl,trivial⟩ (by simp only [q3g,List.length_set])⟩
def q46  (z21:Int) (l22:List Int):Option (Int×(List Int)) :=
 some (z21,l22)
def q23  : Nat→Int→(List Int)→Option (Int×(List Int))
 | 0,_,_=>none
 | m1+1,z19,l20 =>
  bindO (idxO l20 z19) fun x23 =>
  cond (x23 != z19)
   (bindO (idxO l20 z19) fun x26 =>
   bindO (idxO l20 x26) fun x28 =>
   bindO (idxO l20 z19) fun x30 =>
   bindO (idxO (l20.set (0+z19.toNat) x28) z19) fun x32 =>
   (q23 m1) x32 (l20.set (0+z19.toNat) x28))
   (q46 z19 l20)
def q31 (n:Nat) (p1:Int) (p2:List q1c) (p3:List q0b) (p4:List Int) (p6:List Int) (p8:List (List q0f)):Option (Int×(List Int)) :=
 q23 n p1 p4
theorem q6m (n:Nat) (p1:Int) (p2:List q1c) (p3:List q0b) (p4:List Int) (p6:List Int) (p8:List (List q0f)) (r:Int×(List Int)) (hF:q31 n p1 p2 p3 p4 p6 p8=some r):∀ t5 t7 t9:Nat,EvU Tryz.prog 83 [.ptr 0 0 0,.int .i64 p1] ⟨q1f p2 p3 t5 t7 t9 p4 p6 p8,4⟩ (fun u σ'=>∃ t:Nat→Nat,u = .int .i64 r.1∧σ'=⟨q1f p2 p3 t5 t7 t9 r.2 p6 p8,4⟩):=by
 unfold q31 at hF
 intro t5 t7 t9
 refine bg2 41 fn83 ?_
 refine go ?_
 refine gL (fun m tm σ=>∃ z19 l20,q23 m z19 l20=some r∧tm=fr 41 [(0,.ptr 0 0 0),(1,.i6 z19)]∧σ=⟨q1f p2 p3 t5 t7 t9 l20 p6 p8,4⟩) (fun tm σ=>∃ z21 l22,q46 z21 l22=some r∧tm=fr 41 [(1,.i6 z21)]∧σ=⟨q1f p2 p3 t5 t7 t9 l22 p6 p8,4⟩) n ⟨p1,p4,hF,rfl,rfl⟩ ?_ ?_
 rintro _ _ ⟨z21,l22,hF,rfl,rfl⟩
 unfold q46 at hF
 refine go ?_
 obtain rfl:=sI hF
 exact ⟨.inr rfl,[.i6 z21],q2y rfl (q24),.i6 z21,⟨q1f p2 p3 t5 t7 t9 l22 p6 p8,4⟩,NL,Gh.to (n1:=4) [] rfl rfl NL NL BUL.h BH.h,stF [],rfl,rfl⟩
 rintro (_|m1) _ _ ⟨z19,l20,hF,rfl,rfl⟩
 cases hF
 unfold q23 at hF
 obtain ⟨x23,h24,hF⟩:=q00 hF
 refine go ?_
 refine RS.q (u:=.ptr 0 0 0) rfl (q0o rfl rfl) ?_
 refine go ?_
 refine RS.q rfl (q25 rfl rfl (q40 (cI .i64) un34.h (q0g if3.h) (by decide) (q4c .i64) (vo rfl) h24)) ?_
 refine RS.q rfl (q65 (cI .i64) (fun x=>.i6 x) un3.h rfl (fun _=>rfl) rfl rfl h24) ?_
 refine gF hF (fun h25 hF=>?_) (fun h25 hF=>?_)
 refine go ?_
 refine WPU.block ?_
 obtain ⟨x26,h27,hF⟩:=q00 hF
 obtain ⟨x28,h29,hF⟩:=q00 hF
 obtain ⟨x30,h31,hF⟩:=q00 hF
 refine gn ?_
 refine z73 (fun tm σ=>tm=fr 41 [(0,.ptr 0 0 0),(1,.i6 z19)]∧σ=⟨q1f p2 p3 t5 t7 t9 (l20.set (0+z19.toNat) x28) p6 p8,4⟩) ?_ ?_
 rintro _ _ ⟨rfl,rfl⟩
 obtain ⟨x32,h33,hF⟩:=q00 hF
 refine go ?_
 refine RS.q (u:=.ptr 0 0 0) rfl (q0o rfl rfl) ?_
 refine go ?_
 refine RS.q rfl (q25 rfl rfl (q40 (cI .i64) un34.h (q0g if3.h) (by decide) (q4c .i64) (vo rfl) h33)) ?_
 refine RS.q rfl (q65 (cI .i64) (fun x=>.i6 x) un3.h rfl (fun _=>rfl) rfl rfl h33) ?_
 refine go ?_
 exact lC ⟨x32,(l20.set (0+z19.toNat) x28),hF,rfl,rfl⟩
 refine dE [] ?_
 refine gd ?_
 refine RD.q (u:=.ptr 0 0 0) rfl (q0o rfl rfl) ?_
 refine gd ?_
 refine RD.q (u:=.ptr 0 0 0) rfl (q0o rfl rfl) ?_
 refine gd ?_
 refine RD.q (u:=.ptr 0 0 0) rfl (q0o rfl rfl) ?_
 refine gd ?_
 refine RD.q rfl (q25 rfl rfl (q40 (cI .i64) un34.h (q0g if3.h) (by decide) (q4c .i64) (vo rfl) h27)) ?_
 refine RD.q rfl (q65 (cI .i64) (fun x=>.i6 x) un3.h rfl (fun _=>rfl) rfl rfl h27) ?_
 refine RD.q rfl (q25 rfl rfl (q40 (cI .i64) un34.h (q0g if3.h) (by decide) (q4c .i64) (vo rfl) h29)) ?_
 refine RD.q rfl (q65 (cI .i64) (fun x=>.i6 x) un3.h rfl (fun _=>rfl) rfl rfl h29) ?_
 refine RD.q rfl (q25 rfl rfl (q40 (cI .i64) un34.h (q0g if3.h) (by decide) (q4c .i64) (vo rfl) h31)) ?_
 refine z7e (u:=.junk) (σ':=⟨[(0,.row [.iM q1p p2,.iM q0k p3,.vl 1 t5 0 l20.length,.vl 2 t7 0 p6.length,.vl 3 t9 0 p8.length] 116),(1,.bv (cI .i64) (l20.set (0+z19.toNat) x28) 3 1 t5),(2,.bv (cI .i64) p6 3 1 t7),(3,.bv (cL q06) p8 76 1 t9)],4⟩) rfl (qss (cI .i64) (q0g if3.h) (q4c .i64) rfl rfl rfl rfl rfl rfl rfl (q71 h31) rfl) rfl ?_
 refine RD.done ⟨by kernel_rfl,trivial,?_⟩
 refine go ?_
 exact ⟨_,_,⟨rfl,rfl⟩,NL,z75 ⟨rfl,rfl,trivial⟩ (by simp only [q1f,List.length_set])⟩
 refine go ?_
 exact xC ⟨z19,l20,hF,rfl,rfl⟩
def q47  (l26:List q20) (l28:List Int) (l29:List Int) (l30:List (List q0f)):Option (Bool×(List Int)×(List Int)×(List (List q0f))) :=
 some (true,l28,l29,l30)
def q12 (p3:List q1c) (p4:List q0b) (n:Nat):Nat→(List q20)→(List Int)→(List Int)→(List (List q0f))→Option (Bool×(List Int)×(List Int)×(List (List q0f)))
 | 0,_,_,_,_=>none
 | m1+1,l21,l23,l24,l25 =>
  cond (decide ((l21.length:Int) > 0))
   (bindO (idxO l21 (IntKind.i64.wrap ((l21.length:Int) - 1))) fun x32 =>
   needO ((0:Int)≤(IntKind.i64.wrap ((l21.length:Int) - 1))∧(IntKind.i64.wrap ((l21.length:Int) - 1))≤((l21.length:Nat):Int)) (
   needO (((IntKind.i64.wrap ((l21.length:Int) - 1)).toNat)≤l21.length) (
   bindO (q31 n x32.E0 p3 p4 l23 l24 l25) fun r36 =>
   bindO (q31 n x32.E1 p3 p4 r36.2 l24 l25) fun r39 =>
   cond (r36.1 != r39.1)
    (bindO (q4n n r36.1 r39.1 p3 p4 (l21.take ((IntKind.i64.wrap ((l21.length:Int) - 1)).toNat)) r39.2 l24 l25) fun r43 =>
    cond (!r43.1)
     (some (false,r43.2.2.1,r43.2.2.2.1,r43.2.2.2.2))
     ((q12 p3 p4 n m1) r43.2.1 r43.2.2.1 r43.2.2.2.1 r43.2.2.2.2))
    ((q12 p3 p4 n m1) (l21.take ((IntKind.i64.wrap ((l21.length:Int) - 1)).toNat)) r39.2 l24 l25))))
   (q47 l21 l23 l24 l25)
def q5l (n:Nat) (p1:Int) (p2:Int) (p3:List q1c) (p4:List q0b) (p5:List Int) (p7:List Int) (p9:List (List q0f)):Option (Bool×(List Int)×(List Int)×(List (List q0f))) :=
 q12 p3 p4 n n ([(q20.mk p1 p2)]) p5 p7 p9
theorem qff (n:Nat) (p1:Int) (p2:Int) (p3:List q1c) (p4:List q0b) (p5:List Int) (p7:List Int) (p9:List (List q0f)) (r:Bool×(List Int)×(List Int)×(List (List q0f))) (hF:q5l n p1 p2 p3 p4 p5 p7 p9=some r):∀ t6 t8 t10:Nat,EvU Tryz.prog 54 [.ptr 0 0 0,.int .i64 p1,.int .i64 p2] ⟨q1f p3 p4 t6 t8 t10 p5 p7 p9,4⟩ (fun u σ'=>∃ t:Nat→Nat,u = .bool r.1∧σ'=⟨q1f p3 p4 t6 t8 t10 r.2.1 r.2.2.1 r.2.2.2,4⟩):=by
 unfold q5l at hF
 intro t6 t8 t10
 refine bg3 49 fn54 ?_
 refine go ?_
 refine RS.q (u:=.agg [.i6 p1,.i6 p2]) rfl (qj5 rfl (by kernel_rfl)) ?_
 refine RS.step (u:=.vl 5 0 0 ([(q20.mk p1 p2)].length)) (σ':=⟨(5,.bv q1w ([(q20.mk p1 p2)]) 100 2 0)::(4,.row [.ptr 0 0 0] 113)::q1f p3 p4 t6 t8 t10 p5 p7 p9,6⟩) rfl (qle.bslv (cs:=(List.map q1w [(q20.mk p1 p2)]).flatten) Tryz.tb_ok rfl un101.h if100.h rfl rfl rfl rfl rfl rfl rfl rfl) rfl rfl ?_
 refine go ?_
 refine RS.q rfl (qs4 rfl rfl) ?_
 refine go ?_
 refine gL (fun m tm σ=>∃ l21 t22,∃ l23 l24 l25,q12 p3 p4 n m l21 l23 l24 l25=some r∧tm=fr 49 [(3,.ptr 4 0 0),(7,.ptr 6 0 0),(8,.fn (.func 82) [] [.ptr 4 0 0,.ptr 6 0 0])]∧σ=⟨(6,.row [.vl 5 t22 0 l21.length] 101)::(5,.bv q1w l21 100 2 t22)::(4,.row [.ptr 0 0 0] 113)::q1f p3 p4 t6 t8 t10 l23 l24 l25,7⟩) (fun tm σ=>∃ l26 t27,∃ l28 l29 l30,q47 l26 l28 l29 l30=some r∧tm=fr 49 []∧σ=⟨(6,.row [.vl 5 t27 0 l26.length] 101)::(5,.bv q1w l26 100 2 t27)::(4,.row [.ptr 0 0 0] 113)::q1f p3 p4 t6 t8 t10 l28 l29 l30,7⟩) n ⟨[(q20.mk p1 p2)],0,p5,p7,p9,hF,rfl,rfl⟩ ?_ ?_
 rintro _ _ ⟨l26,t27,l28,l29,l30,hF,rfl,rfl⟩
 unfold q47 at hF
 refine go ?_
 obtain rfl:=sI hF
 exact ⟨.inr rfl,[.bool true],q2y rfl (q24),.bool true,⟨q1f p3 p4 t6 t8 t10 l28 l29 l30,4⟩,NL,Gh.to (n1:=4) [] rfl rfl NL NL BUL.h BH.h,stF [],rfl,rfl⟩
 rintro (_|m1) _ _ ⟨l21,t22,l23,l24,l25,hF,rfl,rfl⟩
 cases hF
 unfold q12 at hF
 refine gF hF (fun h31 hF=>?_) (fun h31 hF=>?_)
 refine go ?_
 refine WPU.block ?_
 obtain ⟨x32,h33,hF⟩:=q00 hF
 refine go ?_
 refine RS.q rfl (q25 rfl rfl (q40 q1w un101.h (q0g if100.h) (by decide) q6f (vo rfl) h33)) ?_
 refine RS.q (u:=.agg [.i6 x32.E0,.i6 x32.E1]) rfl (ql2 q1w un100.h rfl (q0g if100.h) q6f rfl rfl h33 rfl) ?_
 obtain ⟨h34,hF⟩:=q04 hF
 obtain ⟨h35,hF⟩:=q04 hF
 refine gn ?_
 refine z73 (fun tm σ=>tm=fr 49 [(3,.ptr 4 0 0),(7,.ptr 6 0 0),(8,.fn (.func 82) [] [.ptr 4 0 0,.ptr 6 0 0]),(9,.ptr 7 0 0)]∧σ=⟨(7,.row [.i6 x32.E0,.i6 x32.E1] 100)::(6,.row [.vl 5 t22 0 ((l21.take ((IntKind.i64.wrap ((l21.length:Int) - 1)).toNat)).length)] 101)::(5,.bv q1w (l21.take ((IntKind.i64.wrap ((l21.length:Int) - 1)).toNat)) 100 2 t22)::(4,.row [.ptr 0 0 0] 113)::q1f p3 p4 t6 t8 t10 l23 l24 l25,8⟩) ?_ ?_
 rintro _ _ ⟨rfl,rfl⟩
 obtain ⟨r36,h37,hF⟩:=q00 hF
 obtain ⟨r39,h40,hF⟩:=q00 hF
 refine go ?_
 refine dE [(4,3),(5,3),(6,3)] ?_
 refine gd ?_
 refine RD.q rfl (q25 rfl rfl (qws un100.h (q0g if3.h) rfl (by decide) rfl)) ?_
 refine gd ?_
 refine z79 (u:=.i6 r36.1) (σ1:=⟨(7,.row [.i6 x32.E0,.i6 x32.E1] 100)::(6,.row [.vl 5 t22 0 ((l21.take ((IntKind.i64.wrap ((l21.length:Int) - 1)).toNat)).length)] 101)::(5,.bv q1w (l21.take ((IntKind.i64.wrap ((l21.length:Int) - 1)).toNat)) 100 2 t22)::(4,.row [.ptr 0 0 0] 113)::q1f p3 p4 t6 t8 t10 r36.2 l24 l25,8⟩) (args:=[.ptr 0 0 0,.i6 x32.E0]) rfl (q0s rfl rfl fn83 hb83 rfl rfl) ((EvU.st [0,1,2,3] (q6m n x32.E0 p3 p4 l23 l24 l25 r36 h37 t6 t8 t10)).mono fun _ _ ⟨_,h⟩=>h) rfl rfl ?_
 refine gd ?_
 refine RD.q rfl (q25 rfl rfl (qws un100.h (q0g if3.h) rfl (by decide) rfl)) ?_
 refine gd ?_
 refine z79 (u:=.i6 r39.1) (σ1:=⟨(7,.row [.i6 x32.E0,.i6 x32.E1] 100)::(6,.row [.vl 5 t22 0 ((l21.take ((IntKind.i64.wrap ((l21.length:Int) - 1)).toNat)).length)] 101)::(5,.bv q1w (l21.take ((IntKind.i64.wrap ((l21.length:Int) - 1)).toNat)) 100 2 t22)::(4,.row [.ptr 0 0 0] 113)::q1f p3 p4 t6 t8 t10 r39.2 l24 l25,8⟩) (args:=[.ptr 0 0 0,.i6 x32.E1]) rfl (q0s rfl rfl fn83 hb83 rfl rfl) ((EvU.st [0,1,2,3] (q6m n x32.E1 p3 p4 r36.2 l24 l25 r39 h40 t6 t8 t10)).mono fun _ _ ⟨_,h⟩=>h) rfl rfl ?_
 refine gd ?_
 refine RD.done ⟨by kernel_rfl,⟨q60 un113.h rfl rfl rfl rfl,⟨q25 rfl rfl (qws un100.h (q0g if3.h) rfl (by decide) rfl),⟨q60 un3.h rfl rfl rfl rfl,trivial⟩⟩⟩,?_⟩
 refine go ?_
 rcases gB hF with ⟨h42,hF⟩ | ⟨h42,hF⟩
 obtain ⟨r43,h44,hF⟩:=q00 hF
 refine go ?_
 refine z74 (args:=[.i6 r36.1,.i6 r39.1,.ptr 4 0 0,.ptr 6 0 0]) (qfn rfl rfl rfl h42) (q0s rfl rfl fn82 hb82 rfl (rfl)) (EvU.st [4,6,0,5,1,2,3] (qe1 n r36.1 r39.1 p3 p4 (l21.take ((IntKind.i64.wrap ((l21.length:Int) - 1)).toNat)) r39.2 l24 l25 r43 h44 t22 t6 t8 t10)) rfl rfl ?_
 rintro _ _ ⟨t45,rfl,rfl⟩
 refine gF hF (fun h52 hF=>?_) (fun h52 hF=>?_)
 refine go ?_
 obtain rfl:=sI hF
 exact ⟨.inr rfl,[.bool false],q2y rfl (q24),.bool false,⟨q1f p3 p4 t6 t8 t10 r43.2.2.1 r43.2.2.2.1 r43.2.2.2.2,4⟩,NL,Gh.to (n1:=4) [] rfl rfl NL NL BUL.h BH.h,stF [],rfl,rfl⟩
 refine go ?_
 exact lC ⟨r43.2.1,(t45 0),r43.2.2.1,r43.2.2.2.1,r43.2.2.2.2,hF,rfl,rfl⟩
 refine go ?_
 refine z76 (t:=false) rfl (fun hc=>by cases hc) (fun _=>?_)
 refine go ?_
 exact lC ⟨(l21.take ((IntKind.i64.wrap ((l21.length:Int) - 1)).toNat)),t22,r39.2,l24,l25,hF,rfl,rfl⟩
 refine go ?_
 refine RS.q (u:=.vl 5 t22 0 ((IntKind.i64.wrap ((l21.length:Int) - 1)).toNat)) rfl (q2c rfl qaj (qk2 rfl) qaj (qoa q1w un101.h (q0g if100.h) q6f (vo rfl) (Nat.le_of_eq (Nat.zero_add _)) (qkp h34.1 h34.2))) ?_
 refine go ?_
 exact ⟨_,_,⟨rfl,rfl⟩,NL,z7h (K:=5) q1w q6f rfl ((IntKind.i64.wrap ((l21.length:Int) - 1)).toNat) ⟨rfl,rfl,rfl,rfl,trivial⟩ (by first | (simp only [q1f]; rw [List.length_take_of_le h35]<;>rfl) | rfl)⟩
 refine go ?_
 exact xC ⟨l21,t22,l23,l24,l25,hF,rfl,rfl⟩
def q2a (p6:List q0j) (l54:List q0f) (l56:List Int) (l57:List q0j) (t58:Nat) (l59:List Int):Option (Int×(List Int)×(List q0j)×Nat×(List Int)) :=
 bindO (idxO l57 (p6.length:Int)) fun x60 =>
 some ((p6.length:Int),l56,(l57.set (0+(p6.length:Int).toNat) (q0j.mk x60.Typex l54)),t58,l59)
def q1n (p2:Nat) (p3:List q1c) (p4:List q0b) (p6:List q0j) (p10:List Int) (p12:List (List q0f)) (x27:List q0f) (self:Int→Nat→(List q1c)→(List q0b)→(List Int)→(List q0j)→Nat→(List Int)→(List Int)→(List (List q0f))→Option (Int×(List Int)×(List q0j)×Nat×(List Int))):Nat→Int→(List q0f)→(List Int)→(List q0j)→Nat→(List Int)→Option (Int×(List Int)×(List q0j)×Nat×(List Int))
 | 0,_,_,_,_,_,_=>none
 | m1+1,z47,l48,l50,l51,t52,l53 =>
  cond (decide (z47<(x27.length:Int)))
   (bindO (idxO x27 z47) fun x63 =>
   bindO (self x63.To p2 p3 p4 l50 l51 t52 l53 p10 p12) fun r65 =>
   needO ((l48.length+1)*16≤140737488355328∧l48.length+1≤140737488355328) (
   (q1n p2 p3 p4 p6 p10 p12 x27 self m1) (IntKind.i64.wrap (z47+1)) (l48++[(q0f.mk x63.Feat r65.1)]) r65.2.1 r65.2.2.1 r65.2.2.2.1 r65.2.2.2.2))
   (q2a p6 l48 l50 l51 t52 l53)
def q3h (n:Nat) (self:Int→Nat→(List q1c)→(List q0b)→(List Int)→(List q0j)→Nat→(List Int)→(List Int)→(List (List q0f))→Option (Int×(List Int)×(List q0j)×Nat×(List Int))) (p1:Int) (p2:Nat) (p3:List q1c) (p4:List q0b) (p5:List Int) (p6:List q0j) (p7:Nat) (p8:List Int) (p10:List Int) (p12:List (List q0f)):Option (Int×(List Int)×(List q0j)×Nat×(List Int)) :=
 bindO (q31 n p1 p3 p4 p8 p10 p12) fun r14 =>
 bindO (qnw p5 0 p2 r14.1) fun x17 =>
 cond (decide (x17 ≥ 0))
  (bindO (qnw p5 0 p2 r14.1) fun x20 =>
  some (x20,p5,p6,p7,r14.2))
  (bindO (qnw p5 0 p2 r14.1) fun x22 =>
  bindO (idxO p10 r14.1) fun x24 =>
  needO ((p6.length+1)*32≤140737488355328∧p6.length+1≤140737488355328) (
  bindO (idxO p12 r14.1) fun x27 =>
  q1n p2 p3 p4 p6 p10 p12 x27 self n 0 ([]:List q0f) (p5.set r14.1.toNat (p6.length:Int)) (p6++[(q0j.mk x24 [])]) (p7+1) r14.2))
def q19:Nat→Int→Nat→(List q1c)→(List q0b)→(List Int)→(List q0j)→Nat→(List Int)→(List Int)→(List (List q0f))→Option (Int×(List Int)×(List q0j)×Nat×(List Int))
 | 0,_,_,_,_,_,_,_,_,_,_=>none
 | n+1,p1,p2,p3,p4,p5,p6,p7,p8,p10,p12=>q3h n (q19 n) p1 p2 p3 p4 p5 p6 p7 p8 p10 p12
theorem q80:∀ (n:Nat) (p1:Int) (p2:Nat) (p3:List q1c) (p4:List q0b) (p5:List Int) (p6:List q0j) (p7:Nat) (p8:List Int) (p10:List Int) (p12:List (List q0f)) (r:Int×(List Int)×(List q0j)×Nat×(List Int)),q19 n p1 p2 p3 p4 p5 p6 p7 p8 p10 p12=some r→∀ t9 t11 t13:Nat,EvU Tryz.prog 84 [.int .i64 p1,.ptr 0 0 0,.ptr 1 0 0,.ptr 2 0 0,.ptr 3 0 0] ⟨q8i (.sl 5 0 p2 p2) p7 p3 p4 t9 t11 t13 (.row (List.map (cI .i64) p5).flatten 3) p6 p8 p10 p12,10⟩ (fun u σ'=>∃ t:Nat→Nat,u = .int .i64 r.1∧σ'=⟨q8i (.sl 5 0 p2 p2) r.2.2.2.1 p3 p4 t9 t11 t13 (.row (List.map (cI .i64) r.2.1).flatten 3) r.2.2.1 r.2.2.2.2 p10 p12,10⟩)
 | 0,p1,p2,p3,p4,p5,p6,p7,p8,p10,p12,r,hF=>by cases hF
 | n+1,p1,p2,p3,p4,p5,p6,p7,p8,p10,p12,r,hF=>by
  have ih:=q80 n
  unfold q19 q3h at hF
  intro t9 t11 t13
  refine bg5 73 fn84 ?_
  obtain ⟨r14,h15,hF⟩:=q00 hF
  refine go ?_
  refine z74 (args:=[.ptr 4 0 0,.i6 p1]) rfl (q0s rfl rfl fn83 hb83 rfl rfl) (EvU.st [4,7,8,9] (q6m n p1 p3 p4 p8 p10 p12 r14 h15 t9 t11 t13)) rfl rfl ?_
  rintro _ _ ⟨t16,rfl,rfl⟩
  obtain ⟨x17,h18,hF⟩:=q00 hF
  refine go ?_
  refine RS.q rfl (q25 rfl rfl (qtk un34.h (q0g if3.h) rfl h18)) (RS.q (u:=.i6 x17) rfl (qz1 (cI .i64) (fun x=>.i6 x) un3.h rfl (fun _=>rfl) rfl rfl h18) ?_)
  refine gF hF (fun h19 hF=>?_) (fun h19 hF=>?_)
  obtain ⟨x20,h21,hF⟩:=q00 hF
  refine go ?_
  refine RS.q rfl (q25 rfl rfl (qtk un34.h (q0g if3.h) rfl h21)) (RS.q (u:=.i6 x20) rfl (qz1 (cI .i64) (fun x=>.i6 x) un3.h rfl (fun _=>rfl) rfl rfl h21) ?_)
  refine go ?_
  obtain rfl:=sI hF
  exact ⟨.inr rfl,[.i6 x20],q2y rfl (q24),.i6 x20,⟨q8i (.sl 5 0 p2 p2) p7 p3 p4 t9 t11 t13 (.row (List.map (cI .i64) p5).flatten 3) p6 r14.2 p10 p12,10⟩,NL,Gh.to (n1:=10) [] rfl rfl NL NL BUL.h BH.h,stF [],rfl,rfl⟩
  obtain ⟨x22,h23,hF⟩:=q00 hF
  refine go ?_
  refine RS.q rfl (q25 rfl rfl (qtk un34.h (q0g if3.h) rfl h23)) (z7i (u:=.junk) (σ':=⟨q8i (.sl 5 0 p2 p2) p7 p3 p4 t9 t11 t13 (.row (List.map (cI .i64) (p5.set r14.1.toNat (p6.length:Int))).flatten 3) p6 r14.2 p10 p12,10⟩) rfl (z3i (cI .i64) (q0g if3.h) (q4c .i64) rfl rfl rfl rfl rfl rfl h23 rfl) rfl ?_)
  obtain ⟨x24,h25,hF⟩:=q00 hF
  obtain ⟨h26,hF⟩:=q04 hF
  refine go ?_
  refine dE [(0,10),(1,10)] ?_
  refine gd ?_
  refine RD.q (u:=.ptr 4 0 0) rfl (q0o rfl rfl) ?_
  refine gd ?_
  refine RD.q rfl (q25 rfl rfl (q40 (cI .i64) un34.h (q0g if3.h) (by decide) (q4c .i64) (vo rfl) h25)) ?_
  refine RD.q rfl (q65 (cI .i64) (fun x=>.i6 x) un3.h rfl (fun _=>rfl) rfl rfl h25) ?_
  refine gd ?_
  refine RD.g ?_
  refine RD.g ?_
  refine gd ?_
  refine z7f ?_
  refine RD.done ⟨by kernel_rfl,⟨q77 un40.h rfl (q0g if33.h) rfl rfl rfl,⟨q60 un33.h rfl rfl rfl rfl,trivial⟩⟩,?_⟩
  obtain ⟨x27,h28,hF⟩:=q00 hF
  refine go ?_
  refine RS.q (u:=.ptr 4 0 0) rfl (q0o rfl rfl) ?_
  refine go ?_
  refine RS.q rfl (q25 rfl rfl (q40 (cL q06) un114.h (q0g if76.h) (by decide) (qg5 q06) (vo rfl) h28)) ?_
  refine RS.q rfl (q65 (cL q06) (fun x=>.iM q06 x) un76.h rfl (fun _=>rfl) rfl rfl h28) ?_
  refine gn ?_
  refine WPU.ghost (tm':=fr 73 [(3,.ptr 2 0 0),(4,.ptr 3 0 0),(7,.i6 (p6.length:Int)),(8,.vl 11 0 0 (([]:List q0f).length)),(49,.iM q06 x27),(50,.i6 (x27.length:Int)),(51,.i6 0)]) (σ':=⟨(11,.bv q06 ([]:List q0f) 98 2 0)::(10,.row [.i6 x24,.nils] 78)::q8i (.sl 5 0 p2 p2) (p7+1) p3 p4 t9 t11 t13 (.row (List.map (cI .i64) (p5.set r14.1.toNat (p6.length:Int))).flatten 3) (p6++[(q0j.mk x24 [])]) r14.2 p10 p12,12⟩) (Gh.trans (z7j 8 98 2 (by decide) NL rfl rfl) (z75 ⟨rfl,rfl,rfl,rfl,rfl,rfl,rfl,trivial⟩ rfl)) NL ?_
  refine gL (fun m tm σ=>∃ z47 l48,∃ t49 l50,∃ l51 t52 l53,q1n p2 p3 p4 p6 p10 p12 x27 (q19 n) m z47 l48 l50 l51 t52 l53=some r∧tm=fr 73 [(3,.ptr 2 0 0),(4,.ptr 3 0 0),(7,.i6 (p6.length:Int)),(8,.vl 11 t49 0 l48.length),(49,.iM q06 x27),(50,.i6 (x27.length:Int)),(51,.i6 z47)]∧σ=⟨(11,.bv q06 l48 98 2 t49)::(10,.row [.i6 x24,.nils] 78)::q8i (.sl 5 0 p2 p2) t52 p3 p4 t9 t11 t13 (.row (List.map (cI .i64) l50).flatten 3) l51 l53 p10 p12,12⟩) (fun tm σ=>∃ l54 t55,∃ l56 l57,∃ t58 l59,q2a p6 l54 l56 l57 t58 l59=some r∧tm=fr 73 [(3,.ptr 2 0 0),(7,.i6 (p6.length:Int)),(8,.vl 11 t55 0 l54.length)]∧σ=⟨(11,.bv q06 l54 98 2 t55)::(10,.row [.i6 x24,.nils] 78)::q8i (.sl 5 0 p2 p2) t58 p3 p4 t9 t11 t13 (.row (List.map (cI .i64) l56).flatten 3) l57 l59 p10 p12,12⟩) n ⟨0,([]:List q0f),0,(p5.set r14.1.toNat (p6.length:Int)),(p6++[(q0j.mk x24 [])]),(p7+1),r14.2,hF,rfl,rfl⟩ ?_ ?_
  rintro _ _ ⟨l54,t55,l56,l57,t58,l59,hF,rfl,rfl⟩
  unfold q2a at hF
  refine gn ?_
  refine WPU.ghost (tm':=fr 73 [(3,.ptr 2 0 0),(7,.i6 (p6.length:Int)),(8,.iM q06 l54)]) (σ':=⟨(10,.row [.i6 x24,.nils] 78)::q8i (.sl 5 0 p2 p2) t58 p3 p4 t9 t11 t13 (.row (List.map (cI .i64) l56).flatten 3) l57 l59 p10 p12,12⟩) (Gh.trans (Gh.sub (l':=[(3,.ptr 2 0 0),(7,.i6 (p6.length:Int)),(8,.vl 11 t55 0 l54.length)]) ⟨rfl,rfl,rfl,trivial⟩) (z7g 11 2)) NL ?_
  obtain ⟨x60,h61,hF⟩:=q00 hF
  refine gn ?_
  refine z73 (fun tm σ=>tm=fr 73 [(7,.i6 (p6.length:Int))]∧σ=⟨(10,.row [.i6 x24,.nils] 78)::q8i (.sl 5 0 p2 p2) t58 p3 p4 t9 t11 t13 (.row (List.map (cI .i64) l56).flatten 3) (l57.set (0+(p6.length:Int).toNat) (q0j.mk x60.Typex l54)) l59 p10 p12,12⟩) ?_ ?_
  rintro _ _ ⟨rfl,rfl⟩
  refine go ?_
  obtain rfl:=sI hF
  exact ⟨.inr rfl,[.i6 (p6.length:Int)],q2y rfl (q24),.i6 (p6.length:Int),⟨q8i (.sl 5 0 p2 p2) t58 p3 p4 t9 t11 t13 (.row (List.map (cI .i64) l56).flatten 3) (l57.set (0+(p6.length:Int).toNat) (q0j.mk x60.Typex l54)) l59 p10 p12,10⟩,NL,Gh.to (n1:=10) [] rfl rfl NL NL BUL.h BH.h,stF [],rfl,rfl⟩
  refine go ?_
  refine RS.q rfl (q25 rfl rfl (q40 q0a un33.h (q0g if78.h) (by decide) qcu (vo rfl) h61)) ?_
  refine RS.q rfl (q77 un78.h rfl (q0g if76.h) rfl (qc2 rfl) rfl) (z7i (u:=.junk) (σ':=⟨[(10,.row [.i6 x24,.nils] 78),(0,.row [.ptr 4 0 0] 113),(1,.row [.sl 5 0 p2 p2] 34),(2,.row [.vl 6 t58 0 l57.length] 40),(3,.row [.fn (.func 84) [] [.ptr 0 0 0,.ptr 1 0 0,.ptr 2 0 0,.ptr 3 0 0]] 102),(4,.row [.iM q1p p3,.iM q0k p4,.vl 7 t9 0 l59.length,.vl 8 t11 0 p10.length,.vl 9 t13 0 p12.length] 116),(5,.row (List.map (cI .i64) l56).flatten 3),(6,.bv q0a (l57.set (0+(p6.length:Int).toNat) (q0j.mk x60.Typex l54)) 78 2 t58),(7,.bv (cI .i64) l59 3 1 t9),(8,.bv (cI .i64) p10 3 1 t11),(9,.bv (cL q06) p12 76 1 t13)],12⟩) rfl (z6t (y:=(q0j.mk x60.Typex l54)) q0a (q0g if76.h) qcu rfl rfl rfl rfl rfl rfl (q71 h61) rfl rfl) rfl ?_)
  refine go ?_
  exact ⟨_,_,⟨rfl,rfl⟩,NL,z75 ⟨rfl,trivial⟩ (by simp only [q8i,List.length_set])⟩
  rintro (_|m1) _ _ ⟨z47,l48,t49,l50,l51,t52,l53,hF,rfl,rfl⟩
  cases hF
  unfold q1n at hF
  refine gF hF (fun h62 hF=>?_) (fun h62 hF=>?_)
  refine go ?_
  refine WPU.block ?_
  obtain ⟨x63,h64,hF⟩:=q00 hF
  refine go ?_
  refine RS.ix h64 ?_
  obtain ⟨r65,h66,hF⟩:=q00 hF
  obtain ⟨h68,hF⟩:=q04 hF
  refine go ?_
  refine dE [(0,6),(0,8),(1,6),(2,6)] ?_
  refine gd ?_
  refine z79 (u:=.i6 r65.1) (σ1:=⟨(12,.row (q06 x63) 98)::(11,.bv q06 l48 98 2 t49)::(10,.row [.i6 x24,.nils] 78)::q8i (.sl 5 0 p2 p2) r65.2.2.2.1 p3 p4 t9 t11 t13 (.row (List.map (cI .i64) r65.2.1).flatten 3) r65.2.2.1 r65.2.2.2.2 p10 p12,13⟩) (args:=[.i6 x63.To,.ptr 0 0 0,.ptr 1 0 0,.ptr 2 0 0,.ptr 3 0 0]) rfl (q0s rfl rfl fn84 hb84 rfl (rfl)) ((EvU.st [0,1,2,3,4,5,6,7,8,9] (ih x63.To p2 p3 p4 l50 l51 t52 l53 p10 p12 r65 h66 t9 t11 t13)).mono fun _ _ ⟨_,h⟩=>h) rfl rfl ?_
  refine gd ?_
  refine RD.g ?_
  refine RD.g ?_
  refine gd ?_
  refine RD.done ⟨by kernel_rfl,⟨q0w rfl,⟨q0w rfl,⟨q77 un98.h rfl (q0g if3.h) rfl rfl rfl,⟨q60 un3.h rfl rfl rfl rfl,trivial⟩⟩⟩⟩,?_⟩
  refine go ?_
  exact lC ⟨_,(l48++[(q0f.mk x63.Feat r65.1)]),(t49+1),r65.2.1,r65.2.2.1,r65.2.2.2.1,r65.2.2.2.2,hF,rfl,rfl⟩
  refine go ?_
  exact xC ⟨l48,t49,l50,l51,t52,l53,hF,rfl,rfl⟩
def q2t (p1:Int) (p2:List q1c) (p3:List q0b) (p4:List Int) (p6:List Int) (p8:List (List q0f)) (n:Nat) (l25:List Int):Option (GFS×(List Int)) :=
 bindO (q19 n p1 ((p4.length:Int).toNat) p2 p3 l25 ([]:List q0j) 0 p4 p6 p8) fun r26 =>
 some ((GFS.mk r26.2.2.1),r26.2.2.2.2)
def q1z (p1:Int) (p2:List q1c) (p3:List q0b) (p4:List Int) (p6:List Int) (p8:List (List q0f)) (n:Nat):Nat→Int→(List Int)→Option (GFS×(List Int))
 | 0,_,_=>none
 | m1+1,z23,l24 =>
  cond (decide (z23<(((p4.length:Int).toNat:Nat):Int)))
   (bindO (qnw l24 0 ((p4.length:Int).toNat) z23) fun x30 =>
   (q1z p1 p2 p3 p4 p6 p8 n m1) (IntKind.i64.wrap (z23+1)) (l24.set z23.toNat (-1)))
   (q2t p1 p2 p3 p4 p6 p8 n l24)
def q3i (n:Nat) (p1:Int) (p2:List q1c) (p3:List q0b) (p4:List Int) (p6:List Int) (p8:List (List q0f)):Option (GFS×(List Int)) :=
 needO (0≤(p4.length:Int)∧8*(p4.length:Int).toNat≤281474976710656∧(p4.length:Int)≤281474976710656) (
 q1z p1 p2 p3 p4 p6 p8 n n 0 (List.replicate (p4.length:Int).toNat 0))
theorem qek (n:Nat) (p1:Int) (p2:List q1c) (p3:List q0b) (p4:List Int) (p6:List Int) (p8:List (List q0f)) (r:GFS×(List Int)) (hF:q3i n p1 p2 p3 p4 p6 p8=some r):∀ t5 t7 t9:Nat,EvU Tryz.prog 55 [.ptr 0 0 0,.int .i64 p1] ⟨q1f p2 p3 t5 t7 t9 p4 p6 p8,4⟩ (fun u σ'=>∃ t:Nat→Nat,u = .agg [.isl false (List.map q0a r.1.Nodes)]∧σ'=⟨q1f p2 p3 t5 t7 t9 r.2 p6 p8,4⟩):=by
 unfold q3i at hF
 intro t5 t7 t9
 refine bg2 29 fn55 ?_
 obtain ⟨h10,hF⟩:=q04 hF
 refine go ?_
 refine RS.q (u:=.ptr 0 0 0) rfl (q0o rfl rfl) ?_
 refine go ?_
 refine RS.q (u:=.sl 6 0 ((p4.length:Int).toNat) ((p4.length:Int).toNat)) (σ':=⟨(6,.row (List.map (cI .i64) (List.replicate (p4.length:Int).toNat 0)).flatten 3)::(5,.row [.nils] 40)::(4,.row [.ptr 0 0 0] 113)::q1f p2 p3 t5 t7 t9 p4 p6 p8,7⟩) rfl (qzq (cI .i64) 0 rfl rfl un34.h if3.h rfl rfl rfl rfl h10) ?_
 refine go ?_
 refine RS.q rfl (qj6 rfl rfl rfl (z4o un34.h rfl)) ?_
 refine go ?_
 refine gL (fun m tm σ=>∃ z23 l24,q1z p1 p2 p3 p4 p6 p8 n m z23 l24=some r∧tm=fr 29 [(1,.i6 p1),(2,.ptr 4 0 0),(4,.ptr 5 0 0),(5,.ptr 7 0 0),(16,.i6 (((p4.length:Int).toNat:Nat):Int)),(17,.i6 z23)]∧σ=⟨(7,.row [.sl 6 0 ((p4.length:Int).toNat) ((p4.length:Int).toNat)] 34)::(6,.row (List.map (cI .i64) l24).flatten 3)::(5,.row [.nils] 40)::(4,.row [.ptr 0 0 0] 113)::q1f p2 p3 t5 t7 t9 p4 p6 p8,8⟩) (fun tm σ=>∃ l25,q2t p1 p2 p3 p4 p6 p8 n l25=some r∧tm=fr 29 [(1,.i6 p1),(2,.ptr 4 0 0),(4,.ptr 5 0 0),(5,.ptr 7 0 0)]∧σ=⟨(7,.row [.sl 6 0 ((p4.length:Int).toNat) ((p4.length:Int).toNat)] 34)::(6,.row (List.map (cI .i64) l25).flatten 3)::(5,.row [.nils] 40)::(4,.row [.ptr 0 0 0] 113)::q1f p2 p3 t5 t7 t9 p4 p6 p8,8⟩) n ⟨0,(List.replicate (p4.length:Int).toNat 0),hF,rfl,rfl⟩ ?_ ?_
 rintro _ _ ⟨l25,hF,rfl,rfl⟩
 unfold q2t at hF
 refine go ?_
 refine RS.q rfl (qs4 rfl rfl) ?_
 refine gn ?_
 refine WPU.ghost (tm':=fr 29 [(1,.i6 p1),(4,.ptr 5 0 0),(7,.ptr 8 0 0),(8,.ptr 9 0 0)]) (σ':=⟨(10,.bv q0a ([]:List q0j) 78 2 0)::(9,.row [.fn (.func 84) [] [.ptr 4 0 0,.ptr 7 0 0,.ptr 8 0 0,.ptr 9 0 0]] 102)::(8,.row [.vl 10 0 0 (([]:List q0j).length)] 40)::(7,.row [.sl 6 0 ((p4.length:Int).toNat) ((p4.length:Int).toNat)] 34)::(6,.row (List.map (cI .i64) l25).flatten 3)::(5,.row [.nils] 40)::(4,.row [.ptr 0 0 0] 113)::q1f p2 p3 t5 t7 t9 p4 p6 p8,11⟩) (Gh.trans (z78 8 0 78 2 (by decide) NL rfl rfl) (z75 ⟨rfl,rfl,rfl,rfl,trivial⟩ rfl)) NL ?_
 obtain ⟨r26,h27,hF⟩:=q00 hF
 refine go ?_
 refine z74 (args:=[.i6 p1,.ptr 4 0 0,.ptr 7 0 0,.ptr 8 0 0,.ptr 9 0 0]) rfl (q0s rfl rfl fn84 hb84 rfl (rfl)) (EvU.st [4,7,8,9,0,6,10,1,2,3] (q80 n p1 ((p4.length:Int).toNat) p2 p3 l25 ([]:List q0j) 0 p4 p6 p8 r26 h27 t5 t7 t9)) rfl rfl ?_
 rintro _ _ ⟨t28,rfl,rfl⟩
 refine go ?_
 obtain rfl:=sI hF
 exact ⟨.inr rfl,[.agg [.vl 10 r26.2.2.2.1 0 r26.2.2.1.length]],qe0 (q86 un40.h rfl (q0g if40.h) rfl rfl rfl) (q24),.agg [.iM q0a r26.2.2.1],⟨q1f p2 p3 t5 t7 t9 r26.2.2.2.2 p6 p8,4⟩,NL,Gh.trans (z77 10 2) (Gh.to (n1:=4) [] rfl rfl NL NL BUL.h BH.h),stF [],rfl,rfl⟩
 rintro (_|m1) _ _ ⟨z23,l24,hF,rfl,rfl⟩
 cases hF
 unfold q1z at hF
 refine gF hF (fun h29 hF=>?_) (fun h29 hF=>?_)
 refine go ?_
 refine WPU.block ?_
 obtain ⟨x30,h31,hF⟩:=q00 hF
 refine go ?_
 refine RS.q rfl (q25 rfl rfl (qtk un34.h (q0g if3.h) rfl h31)) (z7i (u:=.junk) (σ':=⟨(7,.row [.sl 6 0 ((p4.length:Int).toNat) ((p4.length:Int).toNat)] 34)::(6,.row (List.map (cI .i64) (l24.set z23.toNat (-1))).flatten 3)::(5,.row [.nils] 40)::(4,.row [.ptr 0 0 0] 113)::q1f p2 p3 t5 t7 t9 p4 p6 p8,8⟩) rfl (z3i (cI .i64) (q0g if3.h) (q4c .i64) rfl rfl rfl rfl rfl rfl h31 rfl) rfl ?_)
 refine go ?_
 exact lC ⟨_,(l24.set z23.toNat (-1)),hF,rfl,rfl⟩
 refine go ?_
 exact xC ⟨l24,hF,rfl,rfl⟩
def qfe (n:Nat) (p1:q09) (p2:GFS) (p3:GFS):Option (GFS×Bool) :=
 bindO (q4e n p2.Nodes p1.Types p1.Feats ([]:List Int) ([]:List Int) ([]:List (List q0f))) fun r4 =>
 bindO (q4e n p3.Nodes p1.Types p1.Feats r4.1 r4.2.1 r4.2.2) fun r7 =>
 bindO (q5l n 0 (p2.Nodes.length:Int) p1.Types p1.Feats r7.1 r7.2.1 r7.2.2) fun r10 =>
 cond (!r10.1)
  (some ((GFS.mk []),false))
  (bindO (q3i n 0 p1.Types p1.Feats r10.2.1 r10.2.2.1 r10.2.2.2) fun r14 =>
  some ((GFS.mk r14.1.Nodes),true))
theorem qql (n:Nat) (p1:q09) (p2:GFS) (p3:GFS) (r:GFS×Bool) (hF:qfe n p1 p2 p3=some r):EvP Tryz.prog 27 [.agg (q0m p1),.agg [.isl false (List.map q0a p2.Nodes)],.agg [.isl false (List.map q0a p3.Nodes)]] (.tup [.agg [.isl false (List.map q0a r.1.Nodes)],.bool r.2]):=by
 unfold qfe at hF
 refine bg3 29 fn27 ?_
 refine go ?_
 refine RS.q (u:=.agg [.iM q1p p1.Types,.iM q0k p1.Feats,.nils,.nils,.nils]) rfl (qvf bd116.h rfl rfl (rfl)) ?_
 refine gn ?_
 refine WPU.ghost (tm':=fr 29 [(4,.ptr 1 0 0),(5,.ptr 2 0 0),(6,.ptr 3 0 0),(8,.ptr 4 0 0)]) (σ':=⟨(5,.bv (cI .i64) ([]:List Int) 3 1 0)::(4,.row [.iM q1p p1.Types,.iM q0k p1.Feats,.vl 5 0 0 (([]:List Int).length),.nils,.nils] 116)::(3,.row [.nils] 40)::qcz p3.Nodes p2.Nodes (.row (q0m p1) 27),6⟩) (Gh.trans (z78 4 2 3 1 (by decide) NZ rfl rfl) (z75 ⟨rfl,rfl,rfl,rfl,trivial⟩ rfl)) NZ ?_
 refine WPU.ghost (tm':=fr 29 [(4,.ptr 1 0 0),(5,.ptr 2 0 0),(6,.ptr 3 0 0),(8,.ptr 4 0 0)]) (σ':=⟨(6,.bv (cI .i64) ([]:List Int) 3 1 0)::(5,.bv (cI .i64) ([]:List Int) 3 1 0)::(4,.row [.iM q1p p1.Types,.iM q0k p1.Feats,.vl 5 0 0 (([]:List Int).length),.vl 6 0 0 (([]:List Int).length),.nils] 116)::(3,.row [.nils] 40)::qcz p3.Nodes p2.Nodes (.row (q0m p1) 27),7⟩) (Gh.trans (z78 4 3 3 1 (by decide) NZ rfl rfl) (z75 ⟨rfl,rfl,rfl,rfl,trivial⟩ rfl)) NZ ?_
 refine WPU.ghost (tm':=fr 29 [(4,.ptr 1 0 0),(5,.ptr 2 0 0),(6,.ptr 3 0 0),(8,.ptr 4 0 0)]) (σ':=⟨(7,.bv (cL q06) ([]:List (List q0f)) 76 1 0)::(6,.bv (cI .i64) ([]:List Int) 3 1 0)::(5,.bv (cI .i64) ([]:List Int) 3 1 0)::(4,.row [.iM q1p p1.Types,.iM q0k p1.Feats,.vl 5 0 0 (([]:List Int).length),.vl 6 0 0 (([]:List Int).length),.vl 7 0 0 (([]:List (List q0f)).length)] 116)::(3,.row [.nils] 40)::qcz p3.Nodes p2.Nodes (.row (q0m p1) 27),8⟩) (Gh.trans (z78 4 4 76 1 (by decide) NZ rfl rfl) (z75 ⟨rfl,rfl,rfl,rfl,trivial⟩ rfl)) NZ ?_
 obtain ⟨r4,h5,hF⟩:=q00 hF
 refine go ?_
 refine z74 (args:=[.ptr 4 0 0,.iM q0a p2.Nodes]) rfl (q0s rfl rfl fn53 hb53 rfl rfl) (EvU.st [4,5,6,7] (qa6 n p2.Nodes p1.Types p1.Feats ([]:List Int) ([]:List Int) ([]:List (List q0f)) r4 h5 0 0 0)) rfl rfl ?_
 rintro _ _ ⟨t6,rfl,rfl⟩
 obtain ⟨r7,h8,hF⟩:=q00 hF
 refine go ?_
 refine z74 (args:=[.ptr 4 0 0,.iM q0a p3.Nodes]) rfl (q0s rfl rfl fn53 hb53 rfl rfl) (EvU.st [4,5,6,7] (qa6 n p3.Nodes p1.Types p1.Feats r4.1 r4.2.1 r4.2.2 r7 h8 (t6 0) (t6 1) (t6 2))) rfl rfl ?_
 rintro _ _ ⟨t9,rfl,rfl⟩
 obtain ⟨r10,h11,hF⟩:=q00 hF
 refine go ?_
 refine z74 (args:=[.ptr 4 0 0,.i6 0,.i6 (p2.Nodes.length:Int)]) rfl (q0s rfl rfl fn54 hb54 rfl rfl) (EvU.st [4,5,6,7] (qff n 0 (p2.Nodes.length:Int) p1.Types p1.Feats r7.1 r7.2.1 r7.2.2 r10 h11 (t9 0) (t9 1) (t9 2))) rfl rfl ?_
 rintro _ _ ⟨t12,rfl,rfl⟩
 refine gF hF (fun h13 hF=>?_) (fun h13 hF=>?_)
 refine go ?_
 obtain rfl:=sI hF
 exact rT (us:=[.agg [.nils],.bool false]) (u:=.tup [.agg [.isl false []],.bool false]) (qe0 (q86 un40.h rfl (q0g if40.h) rfl rfl rfl) (q2y rfl (q24))) wR
 obtain ⟨r14,h15,hF⟩:=q00 hF
 refine go ?_
 refine z74 (args:=[.ptr 4 0 0,.i6 0]) rfl (q0s rfl rfl fn55 hb55 rfl rfl) (EvU.st [4,5,6,7] (qek n 0 p1.Types p1.Feats r10.2.1 r10.2.2.1 r10.2.2.2 r14 h15 (t9 0) (t9 1) (t9 2))) rfl rfl ?_
 rintro _ _ ⟨t16,rfl,rfl⟩
 refine go ?_
 obtain rfl:=sI hF
 exact rT (qe0 (q86 un40.h rfl (q0g if40.h) rfl rfl rfl) (q2y rfl (q24))) (z7c _ rfl)
def q42 (n:Nat)  : Option (q09) :=
 bindO (q9q n) fun r3 =>
 bindO (q4j n r3) fun r5 =>
 some (q09.mk r5.1.Types r5.1.Feats)
def q79 (n:Nat) (p1:List q01):Option (q09) :=
 cond (decide ((p1.length:Int)≤12))
  (bindO (q4j n p1) fun r7 =>
  cond (r7.2 == 0)
   (some (q09.mk r7.1.Types r7.1.Feats))
   (q42 n))
  (q42 n)
theorem qk6 (n:Nat) (p1:List q01) (r:q09) (hF:q79 n p1=some r):EvP Tryz.prog 9 [.isl false (List.map q03 p1)] (.agg (q0m r)):=by
 unfold q79 at hF
 refine bg1 24 fn9 ?_
 refine gr ?_
 refine gr ?_
 refine z73 (fun tm σ=>q42 n=some r∧tm=fr 24 [(2,.ptr 0 0 0)]∧σ=⟨[(0,.row [.nils,.nils] 27)],1⟩) ?_ ?_
 rintro _ _ ⟨hF,rfl,rfl⟩
 unfold q42 at hF
 obtain ⟨r3,h4,hF⟩:=q00 hF
 obtain ⟨r5,h6,hF⟩:=q00 hF
 refine go ?_
 refine RS.cl rfl (pC (qn9 n r3 h4) _) fn32 (RS.cl rfl (pC (qda n r3 r5 h6) _) fn31 ?_)
 refine go ?_
 obtain rfl:=sI hF
 exact rT (qe0 (q86 un27.h rfl (q0g if27.h) rfl rfl rfl) (q24)) (z7c _ rfl)
 refine cF hF (fun h2 hF=>?_) (fun h2 hF=>?_)
 obtain ⟨r7,h8,hF⟩:=q00 hF
 refine go ?_
 refine RS.cl rfl (pC (qda n p1 r7 h8) _) fn31 ?_
 refine gF hF (fun h9 hF=>?_) (fun h9 hF=>?_)
 refine go ?_
 obtain rfl:=sI hF
 exact rT (qe0 (q86 un27.h rfl (q0g if27.h) rfl rfl rfl) (q24)) (z7c _ rfl)
 refine go ?_
 exact xC ⟨hF,rfl,rfl⟩
 refine go ?_
 exact xC ⟨hF,rfl,rfl⟩
def q73 (n:Nat) (p1:List q01) (p2:GFS) (p3:GFS):Option (Bool) :=
 bindO (q79 n p1) fun r4 =>
 bindO (qgq n r4 ([p2,p3])) fun r6 =>
 cond (!r6)
  (bindO (q41 n) fun r9 =>
  some r9)
  (bindO (qbt n r4) fun r11 =>
  bindO (q2k n p2 r11.1 r11.2 ([]:List q0d) 0 ([]:List q08) ([]:List q1e)) fun r14 =>
  bindO (q2k n p3 r11.1 r11.2 r14.2.1 r14.2.2 ([]:List q08) ([]:List q1e)) fun r17 =>
  bindO (q2l n r11.1 r11.2 r17.2.1 ([]:List q08) ([]:List q1e) 0) fun r20 =>
  bindO (qfe n r4 p2 p3) fun r23 =>
  bindO (q4w n r11.1 r11.2 r17.2.1 ([]:List q08) r20.2.1) fun r25 =>
  bindO (q1u n r14.1 r17.1 r11.1 r11.2 r17.2.1 ([]:List q08) 0 r20.2.1) fun r28 =>
  cond (!(r28.1 == r23.2))
   (some false)
   (bindO (q1i n r14.1 r11.1 r11.2 r28.2.1 r28.2.2.1 r20.2.1) fun r32 =>
   bindO (q1i n r17.1 r11.1 r11.2 r28.2.1 r28.2.2.1 r20.2.1) fun r35 =>
   bindO (cond (!r32.2)
    (some true)
    (cond (!r35.2)
     (some true)
     (cond r23.2
      (bindO (q4z n (GFS.mk r32.1.Nodes) (GFS.mk r23.1.Nodes)) fun r41 =>
      cond (!r41)
       (some true)
       (bindO (q4z n (GFS.mk r35.1.Nodes) (GFS.mk r23.1.Nodes)) fun r44 =>
       cond (!r44)
        (some true)
        (cond (!r23.2)
         (bindO (q4w n r11.1 r11.2 r28.2.1 r28.2.2.1 r20.2.1) fun r48 =>
         bindO (q5x n r48 r25) fun r51 =>
         some (!r51))
         (some false))))
      (cond (!r23.2)
       (bindO (q4w n r11.1 r11.2 r28.2.1 r28.2.2.1 r20.2.1) fun r54 =>
       bindO (q5x n r54 r25) fun r57 =>
       some (!r57))
       (some false))))) fun b59 =>
   cond b59
    (some false)
    (bindO (bindO (q3c n r20.1 r11.1 r11.2 r28.2.1 r28.2.2.1 r20.2.1) fun r62 =>
    cond r62.1
     (bindO (q4w n r11.1 r11.2 r62.2.1 r62.2.2.1 r62.2.2.2) fun r66 =>
     bindO (q5x n r66 r25) fun r69 =>
     cond r69
      (bindO (q41 n) fun r72 =>
      some (r72,r62.2.2.2,r62.2.2.1,r62.2.1))
      (some (false,r62.2.2.2,r62.2.2.1,r62.2.1)))
     (some (false,r62.2.2.2,r62.2.2.1,r62.2.1))) fun j79 =>
    some j79.1)))
theorem qh5 (n:Nat) (p1:List q01) (p2:GFS) (p3:GFS) (r:Bool) (hF:q73 n p1 p2 p3=some r):EvP Tryz.prog 6 [.isl false (List.map q03 p1),.agg [.isl false (List.map q0a p2.Nodes)],.agg [.isl false (List.map q0a p3.Nodes)]] (.bool r):=by
 unfold q73 at hF
 refine bg3 109 fn6 ?_
 obtain ⟨r4,h5,hF⟩:=q00 hF
 refine go ?_
 refine RS.cl rfl (pC (qk6 n p1 r4 h5) _) fn9 ?_
 obtain ⟨r6,h7,hF⟩:=q00 hF
 refine go ?_
 refine RS.g ?_
 refine RS.cl rfl (vw (qrq n r4 ([p2,p3]) r6 h7) (z77 3 1)) fn26 ?_
 refine gF hF (fun h8 hF=>?_) (fun h8 hF=>?_)
 obtain ⟨r9,h10,hF⟩:=q00 hF
 refine go ?_
 refine RS.cl rfl (pC (qc1 n r9 h10) _) fn11 ?_
 exact gx hF
 obtain ⟨r11,h12,hF⟩:=q00 hF
 refine go ?_
 refine z74 (args:=[.agg (q0m r4)]) rfl (q0s rfl rfl fn12 hb12 rfl rfl) (EvU.st [] (qhj n r4 r11 h12 )) rfl rfl ?_
 rintro _ _ ⟨t13,rfl,rfl⟩
 refine gn ?_
 refine WPU.ghost (tm':=fr 109 [(4,.ptr 0 0 0),(5,.ptr 1 0 0),(7,.ptr 2 0 0),(8,.ptr 5 0 0)]) (σ':=⟨(6,.bv q1a ([]:List q0d) 96 3 0)::(5,.row [.iM q1p r11.1,.iM q0k r11.2,.vl 6 0 0 (([]:List q0d).length),.nils,.nils] 85)::qes p2.Nodes p3.Nodes (.row (q0m r4) 27) p3.Nodes p2.Nodes,7⟩) (Gh.trans (z78 5 2 96 3 (by decide) NZ rfl rfl) (z75 ⟨rfl,rfl,rfl,rfl,trivial⟩ rfl)) NZ ?_
 refine WPU.ghost (tm':=fr 109 [(4,.ptr 0 0 0),(5,.ptr 1 0 0),(7,.ptr 2 0 0),(8,.ptr 5 0 0)]) (σ':=⟨(7,.bv q1b ([]:List q08) 151 4 0)::(6,.bv q1a ([]:List q0d) 96 3 0)::(5,.row [.iM q1p r11.1,.iM q0k r11.2,.vl 6 0 0 (([]:List q0d).length),.vl 7 0 0 (([]:List q08).length),.nils] 85)::qes p2.Nodes p3.Nodes (.row (q0m r4) 27) p3.Nodes p2.Nodes,8⟩) (Gh.trans (z78 5 3 151 4 (by decide) NZ rfl rfl) (z75 ⟨rfl,rfl,rfl,rfl,trivial⟩ rfl)) NZ ?_
 refine WPU.ghost (tm':=fr 109 [(4,.ptr 0 0 0),(5,.ptr 1 0 0),(7,.ptr 2 0 0),(8,.ptr 5 0 0)]) (σ':=⟨(8,.bv q5z ([]:List q1e) 94 2 0)::(7,.bv q1b ([]:List q08) 151 4 0)::(6,.bv q1a ([]:List q0d) 96 3 0)::(5,.row [.iM q1p r11.1,.iM q0k r11.2,.vl 6 0 0 (([]:List q0d).length),.vl 7 0 0 (([]:List q08).length),.vl 8 0 0 (([]:List q1e).length)] 85)::qes p2.Nodes p3.Nodes (.row (q0m r4) 27) p3.Nodes p2.Nodes,9⟩) (Gh.trans (z78 5 4 94 2 (by decide) NZ rfl rfl) (z75 ⟨rfl,rfl,rfl,rfl,trivial⟩ rfl)) NZ ?_
 obtain ⟨r14,h15,hF⟩:=q00 hF
 obtain ⟨r17,h18,hF⟩:=q00 hF
 refine go ?_
 refine dE [(3,2),(4,2)] ?_
 refine gd ?_
 refine z79 (u:=.i6 r14.1) (σ1:=⟨(8,.bv q5z ([]:List q1e) 94 2 0)::(7,.bv q1b ([]:List q08) 151 4 0)::(6,.bv q1a r14.2.1 96 3 r14.2.2)::(5,.row [.iM q1p r11.1,.iM q0k r11.2,.vl 6 r14.2.2 0 r14.2.1.length,.vl 7 0 0 (([]:List q08).length),.vl 8 0 0 (([]:List q1e).length)] 85)::qes p2.Nodes p3.Nodes (.row (q0m r4) 27) p3.Nodes p2.Nodes,9⟩) (args:=[.ptr 5 0 0,.agg [.iM q0a p2.Nodes]]) rfl (q0s rfl rfl fn19 hb19 rfl rfl) ((EvU.st [5,6,7,8] (q4d n p2 r11.1 r11.2 ([]:List q0d) 0 ([]:List q08) ([]:List q1e) r14 h15 0 0)).mono fun _ _ ⟨_,h⟩=>h) rfl rfl ?_
 refine gd ?_
 refine z79 (u:=.i6 r17.1) (σ1:=⟨(8,.bv q5z ([]:List q1e) 94 2 0)::(7,.bv q1b ([]:List q08) 151 4 0)::(6,.bv q1a r17.2.1 96 3 r17.2.2)::(5,.row [.iM q1p r11.1,.iM q0k r11.2,.vl 6 r17.2.2 0 r17.2.1.length,.vl 7 0 0 (([]:List q08).length),.vl 8 0 0 (([]:List q1e).length)] 85)::qes p2.Nodes p3.Nodes (.row (q0m r4) 27) p3.Nodes p2.Nodes,9⟩) (args:=[.ptr 5 0 0,.agg [.iM q0a p3.Nodes]]) rfl (q0s rfl rfl fn19 hb19 rfl rfl) ((EvU.st [5,6,7,8] (q4d n p3 r11.1 r11.2 r14.2.1 r14.2.2 ([]:List q08) ([]:List q1e) r17 h18 0 0)).mono fun _ _ ⟨_,h⟩=>h) rfl rfl ?_
 refine gd ?_
 refine RD.done ⟨by kernel_rfl,⟨q0w rfl,⟨q86 un40.h rfl (q0g if40.h) rfl rfl rfl,trivial⟩⟩,?_⟩
 obtain ⟨r20,h21,hF⟩:=q00 hF
 refine go ?_
 refine z74 (args:=[.ptr 5 0 0]) rfl (q0s rfl rfl fn18 hb18 rfl rfl) (EvU.st [5,6,7,8] (q62 n r11.1 r11.2 r17.2.1 ([]:List q08) ([]:List q1e) 0 r20 h21 r17.2.2 0)) rfl rfl ?_
 rintro _ _ ⟨t22,rfl,rfl⟩
 obtain ⟨r23,h24,hF⟩:=q00 hF
 refine go ?_
 refine RS.cl rfl (pC (qql n r4 p2 p3 r23 h24) _) fn27 ?_
 obtain ⟨r25,h26,hF⟩:=q00 hF
 refine go ?_
 refine z74 (args:=[.ptr 5 0 0]) rfl (q0s rfl rfl fn17 hb17 rfl rfl) (EvU.st [5,6,7,8] (q7o n r11.1 r11.2 r17.2.1 ([]:List q08) r20.2.1 r25 h26 r17.2.2 0 r20.2.2)) rfl rfl ?_
 rintro _ _ ⟨t27,rfl,rfl⟩
 obtain ⟨r28,h29,hF⟩:=q00 hF
 refine go ?_
 refine z74 (args:=[.ptr 5 0 0,.i6 r14.1,.i6 r17.1]) rfl (q0s rfl rfl fn20 hb20 rfl rfl) (EvU.st [5,6,7,8] (q3y n r14.1 r17.1 r11.1 r11.2 r17.2.1 ([]:List q08) 0 r20.2.1 r28 h29 r17.2.2 r20.2.2)) rfl rfl ?_
 rintro _ _ ⟨t30,rfl,rfl⟩
 refine go ?_
 refine RS.q (u:=.bool (!(r28.1 == r23.2))) rfl (qzo rfl rfl (by simp only [g2,toV,qnz,qcy,eqv,zC,ofV,un4.h])) ?_
 refine gF hF (fun h31 hF=>?_) (fun h31 hF=>?_)
 exact gx hF
 obtain ⟨r32,h33,hF⟩:=q00 hF
 refine go ?_
 refine z74 (args:=[.ptr 5 0 0,.i6 r14.1]) rfl (q0s rfl rfl fn28 hb28 rfl rfl) (EvU.st [5,6,7,8] (q2i n r14.1 r11.1 r11.2 r28.2.1 r28.2.2.1 r20.2.1 r32 h33 r17.2.2 r28.2.2.2 r20.2.2)) rfl rfl ?_
 rintro _ _ ⟨t34,rfl,rfl⟩
 obtain ⟨r35,h36,hF⟩:=q00 hF
 refine go ?_
 refine z74 (args:=[.ptr 5 0 0,.i6 r17.1]) rfl (q0s rfl rfl fn28 hb28 rfl rfl) (EvU.st [5,6,7,8] (q2i n r17.1 r11.1 r11.2 r28.2.1 r28.2.2.1 r20.2.1 r35 h36 r17.2.2 r28.2.2.2 r20.2.2)) rfl rfl ?_
 rintro _ _ ⟨t37,rfl,rfl⟩
 obtain ⟨b59,h60,hF⟩:=q00 hF
 refine gn ?_
 refine z73 (fun tm σ=>tm=fr 109 [(8,.ptr 5 0 0),(11,.i6 r20.1),(14,.iM qnu r25),(96,.bool b59)]∧σ=⟨(11,.row [.iM q0a r35.1.Nodes] 40)::(10,.row [.iM q0a r32.1.Nodes] 40)::(9,.row [.iM q0a r23.1.Nodes] 40)::(8,.bv q5z r20.2.1 94 2 r20.2.2)::(7,.bv q1b r28.2.2.1 151 4 r28.2.2.2)::(6,.bv q1a r28.2.1 96 3 r17.2.2)::(5,.row [.iM q1p r11.1,.iM q0k r11.2,.vl 6 r17.2.2 0 r28.2.1.length,.vl 7 r28.2.2.2 0 r28.2.2.1.length,.vl 8 r20.2.2 0 r20.2.1.length] 85)::qes p2.Nodes p3.Nodes (.row (q0m r4) 27) p3.Nodes p2.Nodes,12⟩) ?_ ?_
 rintro _ _ ⟨rfl,rfl⟩
 refine gF hF (fun h61 hF=>?_) (fun h61 hF=>?_)
 exact gx hF
 obtain ⟨j79,h78,hF⟩:=q00 hF
 refine gn ?_
 refine z73 (fun tm σ=>tm=fr 109 [(6,.bool j79.1)]∧σ=⟨(11,.row [.iM q0a r35.1.Nodes] 40)::(10,.row [.iM q0a r32.1.Nodes] 40)::(9,.row [.iM q0a r23.1.Nodes] 40)::(8,.bv q5z j79.2.1 94 2 r20.2.2)::(7,.bv q1b j79.2.2.1 151 4 r28.2.2.2)::(6,.bv q1a j79.2.2.2 96 3 r17.2.2)::(5,.row [.iM q1p r11.1,.iM q0k r11.2,.vl 6 r17.2.2 0 j79.2.2.2.length,.vl 7 r28.2.2.2 0 j79.2.2.1.length,.vl 8 r20.2.2 0 j79.2.1.length] 85)::qes p2.Nodes p3.Nodes (.row (q0m r4) 27) p3.Nodes p2.Nodes,12⟩) ?_ ?_
 rintro _ _ ⟨rfl,rfl⟩
 exact gx hF
 obtain ⟨r62,h63,h78⟩:=q00 h78
 refine go ?_
 refine z74 (args:=[.ptr 5 0 0,.i6 r20.1]) rfl (q0s rfl rfl fn21 hb21 rfl rfl) (EvU.st [5,6,7,8] (q82 n r20.1 r11.1 r11.2 r28.2.1 r28.2.2.1 r20.2.1 r62 h63 r17.2.2 r28.2.2.2 r20.2.2)) rfl rfl ?_
 rintro _ _ ⟨t64,rfl,rfl⟩
 refine go ?_
 rcases gB h78 with ⟨h65,h78⟩ | ⟨h65,h78⟩
 obtain ⟨r66,h67,h78⟩:=q00 h78
 obtain ⟨r69,h70,h78⟩:=q00 h78
 refine go ?_
 refine z74 (args:=[.ptr 5 0 0]) (qfn rfl rfl rfl h65) (q0s rfl rfl fn17 hb17 rfl rfl) (EvU.st [5,6,7,8] (q7o n r11.1 r11.2 r62.2.1 r62.2.2.1 r62.2.2.2 r66 h67 r17.2.2 r28.2.2.2 r20.2.2)) rfl rfl ?_
 rintro _ _ ⟨t68,rfl,rfl⟩
 refine go ?_
 refine RS.cl rfl (pC (qbx n r66 r25 r69 h70) _) fn22 ?_
 refine go ?_
 rcases gB h78 with ⟨h71,h78⟩ | ⟨h71,h78⟩
 obtain ⟨r72,h73,h78⟩:=q00 h78
 obtain rfl:=sI h78
 refine RS.cl rfl (pC (qc1 n r72 h73) _) fn11 ?_
 refine go ?_
 exact xC ⟨rfl,rfl⟩
 exact gy h78
 exact gy h78
 refine go ?_
 rcases gB h60 with ⟨h38,h60⟩ | ⟨h38,h60⟩
 obtain rfl:=sI h60
 refine go ?_
 repeat refine RS.no (qfo rfl rfl rfl) rfl rfl ?_
 refine go ?_
 repeat refine RS.no (qfo rfl rfl rfl) rfl rfl ?_
 refine go ?_
 exact xC ⟨rfl,rfl⟩
 refine go ?_
 rcases gB h60 with ⟨h39,h60⟩ | ⟨h39,h60⟩
 obtain rfl:=sI h60
 refine go ?_
 repeat refine RS.no (qfo rfl rfl rfl) rfl rfl ?_
 refine go ?_
 repeat refine RS.no (qfo rfl rfl rfl) rfl rfl ?_
 refine go ?_
 exact xC ⟨rfl,rfl⟩
 refine go ?_
 rcases gB h60 with ⟨h40,h60⟩ | ⟨h40,h60⟩
 obtain ⟨r41,h42,h60⟩:=q00 h60
 refine go ?_
 refine RS.cl rfl (pC (q6k n (GFS.mk r32.1.Nodes) (GFS.mk r23.1.Nodes) r41 h42) _) fn25 ?_
 refine go ?_
 rcases gB h60 with ⟨h43,h60⟩ | ⟨h43,h60⟩
 obtain rfl:=sI h60
 refine go ?_
 repeat refine RS.no (qfo rfl rfl rfl) rfl rfl ?_
 refine go ?_
 exact xC ⟨rfl,rfl⟩
 obtain ⟨r44,h45,h60⟩:=q00 h60
 refine go ?_
 refine RS.cl rfl (pC (q6k n (GFS.mk r35.1.Nodes) (GFS.mk r23.1.Nodes) r44 h45) _) fn25 ?_
 refine go ?_
 rcases gB h60 with ⟨h46,h60⟩ | ⟨h46,h60⟩
 obtain rfl:=sI h60
 refine go ?_
 repeat refine RS.no (qfo rfl rfl rfl) rfl rfl ?_
 refine go ?_
 exact xC ⟨rfl,rfl⟩
 refine go ?_
 rcases gB h60 with ⟨h47,h60⟩ | ⟨h47,h60⟩
 obtain ⟨r48,h49,h60⟩:=q00 h60
 obtain ⟨r51,h52,h60⟩:=q00 h60
 obtain rfl:=sI h60
 refine go ?_
 refine z74 (args:=[.ptr 5 0 0]) (qfn rfl rfl rfl h47) (q0s rfl rfl fn17 hb17 rfl rfl) (EvU.st [5,6,7,8] (q7o n r11.1 r11.2 r28.2.1 r28.2.2.1 r20.2.1 r48 h49 r17.2.2 r28.2.2.2 r20.2.2)) rfl rfl ?_
 rintro _ _ ⟨t50,rfl,rfl⟩
 refine go ?_
 refine RS.cl rfl (pC (qbx n r48 r25 r51 h52) _) fn22 ?_
 refine go ?_
 exact xC ⟨rfl,rfl⟩
 exact gy h60
 refine go ?_
 repeat refine RS.no (qfo rfl rfl rfl) rfl rfl ?_
 refine go ?_
 rcases gB h60 with ⟨h53,h60⟩ | ⟨h53,h60⟩
 obtain ⟨r54,h55,h60⟩:=q00 h60
 obtain ⟨r57,h58,h60⟩:=q00 h60
 obtain rfl:=sI h60
 refine go ?_
 refine z74 (args:=[.ptr 5 0 0]) (qfn rfl rfl rfl h53) (q0s rfl rfl fn17 hb17 rfl rfl) (EvU.st [5,6,7,8] (q7o n r11.1 r11.2 r28.2.1 r28.2.2.1 r20.2.1 r54 h55 r17.2.2 r28.2.2.2 r20.2.2)) rfl rfl ?_
 rintro _ _ ⟨t56,rfl,rfl⟩
 refine go ?_
 refine RS.cl rfl (pC (qbx n r54 r25 r57 h58) _) fn22 ?_
 refine go ?_
 exact xC ⟨rfl,rfl⟩
 exact gy h60
end Go.Proofs
end
