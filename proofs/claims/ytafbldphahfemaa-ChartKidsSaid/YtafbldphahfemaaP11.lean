/-
  Texts of the walk: C1.
-/
import Derived.Test.YtafbldphahfemaaP10
section
namespace Go.Proofs
open Go Go.Rx Go.Vx Try
instance:TbI Try.prog Try.tb:=⟨Try.tb_ok⟩
set_option maxRecDepth 10000
set_option linter.unusedSimpArgs false
set_option linter.unusedVariables false
inductive GDeriv where
 | mk (Kind:Int) (Name:List UInt8) (From:Int) (To:Int) (Kids:List GDeriv)
def GDeriv.Kind:GDeriv→Int
 | .mk a0 _ _ _ _=>a0
def GDeriv.Name:GDeriv→List UInt8
 | .mk _ a1 _ _ _=>a1
def GDeriv.From:GDeriv→Int
 | .mk _ _ a2 _ _=>a2
def GDeriv.To:GDeriv→Int
 | .mk _ _ _ a3 _=>a3
def GDeriv.Kids:GDeriv→List GDeriv
 | .mk _ _ _ _ a4=>a4
mutual
def cGDeriv:GDeriv→List U
 | .mk a0 a1 a2 a3 a4=>[.int .i64 a0,.str a1,.int .i64 a2,.int .i64 a3,.isl false (q5i a4)]
def q5i:List GDeriv→List (List U)
 | []=>[]
 | x::l=>cGDeriv x::q5i l
end
theorem qab:∀ l,q5i l=l.map cGDeriv
 | []=>by simp [q5i]
 | x::l=>by simp [q5i,qab l]
def xGDeriv (x:GDeriv):List U:=[.int .i64 x.Kind,.str x.Name,.int .i64 x.From,.int .i64 x.To,.isl false (List.map cGDeriv x.Kids)]
theorem q1j (x:GDeriv):cGDeriv x=xGDeriv x:=by
 cases x; simp only [cGDeriv,qab]; rfl
mutual
theorem q50 (n:Nat):∀ x,BelL n (cGDeriv x)
 | .mk a0 a1 a2 a3 a4=>by simp only [cGDeriv,BelL,Bel,true_and,and_true]; exact q8x n a4
theorem q8x (n:Nat):∀ l,BelR n (q5i l)
 | []=>by simp [q5i,BelR]
 | x::l=>by simp only [q5i,BelR]; exact ⟨q50 n x,q8x n l⟩
end
theorem q17 (x:GDeriv):(cGDeriv x).length=5:=by rw [q1j]; rfl
theorem qb5 (n:Nat) (x:GDeriv):BelL n (xGDeriv x):=by rw [← q1j]; exact q50 n x
instance:BF cGDeriv:=⟨q50⟩
instance (n:Nat) (x:GDeriv):BUL n (xGDeriv x):=⟨qb5 n x⟩
theorem fz_xGDeriv (K:Nat) (b:B) (sz:Nat) (x:GDeriv):fzL K b sz (xGDeriv x)=xGDeriv x:=q1n _ _ _ (qb5 K x)
structure GArc where
 Feat:Int
 To:Int
def cGArc (x:GArc):List U:=[.int .i64 x.Feat,.int .i64 x.To]
theorem bel_cGArc (n:Nat) (x:GArc):BelL n (cGArc x):=by
 simp only [cGArc,BelL,Bel,true_and,and_true]
def eqGArc (x y:GArc):Bool:=((x.Feat == y.Feat)&&(x.To == y.To))
structure GNode where
 Typex:Int
 Arcs:List GArc
def cGNode (x:GNode):List U:=[.int .i64 x.Typex,.isl false (List.map cGArc x.Arcs)]
theorem bel_cGNode (n:Nat) (x:GNode):BelL n (cGNode x):=by
 simp only [cGNode,BelL,Bel,true_and,and_true]
 exact q80 _ (fun q=>bel_cGArc _ q) _
theorem len_cGNode (x:GNode):(cGNode x).length=2:=rfl
structure GFS where
 Nodes:List GNode
def cGFS (x:GFS):List U:=[.isl false (List.map cGNode x.Nodes)]
structure GEdge where
 From:Int
 To:Int
 Unary:Int
 Kind:Int
 Name:List UInt8
 Kids:List Int
 Lex:GDeriv
 FS:GFS
def cGEdge (x:GEdge):List U:=[.int .i64 x.From,.int .i64 x.To,.int .i64 x.Unary,.int .i64 x.Kind,.str x.Name,.isl false (List.map (cI .i64) x.Kids),.int .i64 x.Lex.Kind,.str x.Lex.Name,.int .i64 x.Lex.From,.int .i64 x.Lex.To,.isl false (List.map cGDeriv x.Lex.Kids),.isl false (List.map cGNode x.FS.Nodes)]
theorem q5y (n:Nat) (x:GEdge):BelL n (cGEdge x):=by
 simp only [cGEdge,BelL,Bel,true_and,and_true]
 exact ⟨q80 _ (fun q=>q5t _ .i64 q) _,q80 _ (fun q=>q50 _ q) _,q80 _ (fun q=>bel_cGNode _ q) _⟩
theorem q0f (x:GEdge):(cGEdge x).length=12:=rfl
instance:BF cGEdge:=⟨q5y⟩
instance (n:Nat) (x:GEdge):BUL n (cGEdge x):=⟨q5y n x⟩
theorem q70 (K:Nat) (b:B) (sz:Nat) (x:GEdge):fzL K b sz (cGEdge x)=cGEdge x:=q1n _ _ _ (q5y K x)
structure GChart where
 Words:Int
 Edges:List GEdge
def cGChart (x:GChart):List U:=[.int .i64 x.Words,.isl false (List.map cGEdge x.Edges)]
theorem q8l (n:Nat) (x:GChart):BelL n (cGChart x):=by
 simp only [cGChart,BelL,Bel,true_and,and_true]
 exact q80 _ (fun q=>q5y _ q) _
theorem len_cGChart (x:GChart):(cGChart x).length=2:=rfl
instance:BF cGChart:=⟨q8l⟩
instance (n:Nat) (x:GChart):BUL n (cGChart x):=⟨q8l n x⟩
theorem q0k (K:Nat) (b:B) (sz:Nat) (x:GChart):fzL K b sz (cGChart x)=cGChart x:=q1n _ _ _ (q8l K x)
theorem Try.bd24:BdT Try.tb 24 [.int .i64 0,.nils] [(0,1),(1,1)]:=bdT und24 inf24 rfl (by kernel_rfl)
theorem Try.bd37:BdT Try.tb 37 [.int .i64 0,.str [],.int .i64 0,.int .i64 0,.nils] [(0,1),(1,1),(2,1),(3,1),(4,1)]:=bdT und37 inf37 rfl (by kernel_rfl)
theorem Try.bd42:BdT Try.tb 42 [.int .i64 0,.int .i64 0,.int .i64 0,.int .i64 0,.str [],.nils,.int .i64 0,.str [],.int .i64 0,.int .i64 0,.nils,.nils] [(0,1),(1,1),(2,1),(3,1),(4,1),(5,1),(6,5),(11,1)]:=bdT und42 inf42 rfl (by kernel_rfl)
def q4s   : Option (Int) :=
 some 0
def q2h (p1:List Int):Nat→Int→Option (Int)
 | 0,_=>none
 | m1+1,z6 =>
  cond (decide (z6<(p1.length:Int)))
   (bindO (idxO p1 z6) fun x8 =>
   cond (x8 != 0)
    (some x8)
    ((q2h p1 m1) (IntKind.i64.wrap (z6+1))))
   (q4s)
def q3e (n:Nat) (p1:List Int):Option (Int) :=
 q2h p1 n 0
theorem qad (n:Nat) (p1:List Int) (r:Int) (hF:q3e n p1=some r):EvU Try.prog 46 [.isl false (List.map (cI .i64) p1)] ⟨[],0⟩ (fun u _=>u = .int .i64 r∧Bel 0 u):=by
 unfold q3e at hF
 refine EvU.of_body Try.tb_ok fn46 rfl ?_
 refine WPU.ghost (tm':=fr 18 [(0,.isl false (List.map (cI .i64) p1))]) (Gh.start (Nat.le_of_ble_eq_true rfl)) (Nat.zero_le _) ?_
 refine sr ?_
 refine se ?_
 refine se ?_
 refine RS.q rfl (q0l rfl rfl rfl (q0e (cI .i64) und34)) (RS.mv rfl rfl rfl rfl ?_)
 refine sd ?_
 refine WPU.ghost (tm':=fr 18 [(3,.int .i64 0),(6,.isl false (List.map (cI .i64) p1)),(7,.int .i64 (p1.length:Int)),(8,.int .i64 0)]) (Gh.sub ⟨rfl,rfl,rfl,rfl,trivial⟩) (Nat.zero_le _) ?_
 refine WPU.loopK (fun m tm σ=>∃ z6:Int,q2h p1 m z6=some r∧tm=fr 18 [(3,.int .i64 0),(6,.isl false (List.map (cI .i64) p1)),(7,.int .i64 (p1.length:Int)),(8,.int .i64 z6)]∧σ=⟨[],0⟩) (fun tm σ=>q4s=some r∧tm=fr 18 [(3,.int .i64 0)]∧σ=⟨[],0⟩) n ⟨0,hF,rfl,rfl⟩ ?_ ?_
 rintro _ _ ⟨hF,rfl,rfl⟩
 unfold q4s at hF
 refine sr ?_
 refine sd ?_
 refine WPU.ret ?_
 refine st ?_
 have hr:=Option.some.inj hF
 subst hr
 exact ⟨.inr rfl,[.int .i64 0],q1g rfl (q1b),.int .i64 0,⟨[],0⟩,Nat.le_refl _,Gh.toR (.int .i64 0) rfl,rfl,BU.h⟩
 rintro m1 _ _ ⟨z6,hF,rfl,rfl⟩
 rcases m1 with _ | m1
 cases hF
 unfold q2h at hF
 refine sr ?_
 refine RS.q rfl (q02 rfl rfl (q1q _ _ _) rfl) ?_
 refine sd ?_
 refine WPU.condS (t:=(decide (z6<(p1.length:Int)))) rfl (fun h7=>?_) (fun h7=>?_)
 replace hF:=q0a h7 hF
 refine st ?_
 refine WPU.skip ?_
 refine st ?_
 refine WPU.block ?_
 refine st ?_
 obtain ⟨x8,h9,hF⟩:=q00 hF
 refine sr ?_
 refine RS.q (u:=.iptr [.int .i64 x8]) rfl (q1e rfl rfl (q0p (cI .i64) und34 (q01 inf3) (q2j .i64) h9 rfl)) (RS.q (u:=.int .i64 x8) rfl (q19 und3 rfl rfl rfl) ?_)
 refine se ?_
 repeat refine RS.mv rfl rfl rfl rfl ?_
 refine RS.q rfl (q02 rfl rfl (q0c _ _ _) rfl) ?_
 refine sd ?_
 refine WPU.condS (t:=(x8 != 0)) rfl (fun h10=>?_) (fun h10=>?_)
 replace hF:=q0a h10 hF
 refine sr ?_
 refine sd ?_
 refine WPU.ret ?_
 refine st ?_
 have hr:=Option.some.inj hF
 subst hr
 exact ⟨.inr rfl,[.int .i64 x8],q1g rfl (q1b),.int .i64 x8,⟨[],0⟩,Nat.le_refl _,Gh.toR (.int .i64 x8) rfl,rfl,BU.h⟩
 replace hF:=q09 h10 hF
 refine st ?_
 refine WPU.skip ?_
 refine sr ?_
 refine RS.q rfl (q02 rfl rfl (q35 _ _ _) rfl) (RS.mv rfl rfl rfl rfl ?_)
 refine sd ?_
 exact ⟨m1,_,_,Nat.lt_succ_self _,⟨(IntKind.i64.wrap (z6+1)),hF,rfl,rfl⟩,(Nat.zero_le _),Gh.toC (n1:=0) ⟨rfl,rfl,rfl,rfl,trivial⟩ rfl (Nat.zero_le _) (by simp)⟩
 replace hF:=q09 h7 hF
 refine st ?_
 refine WPU.exit ?_
 refine st ?_
 exact ⟨_,_,⟨hF,rfl,rfl⟩,(Nat.zero_le _),Gh.toC (n1:=0) ⟨rfl,trivial⟩ rfl (Nat.zero_le _) (by simp)⟩
def q3t (n:Nat) (p1:Int):Option (Bool) :=
 some (p1 != p1)
theorem qbg (n:Nat) (p1:Int) (r:Bool) (hF:q3t n p1=some r):EvU Try.prog 58 [.int .i64 p1] ⟨[],0⟩ (fun u _=>u = .bool r∧Bel 0 u):=by
 unfold q3t at hF
 refine EvU.of_body Try.tb_ok fn58 rfl ?_
 refine WPU.ghost (tm':=fr 6 [(0,.int .i64 p1)]) (Gh.start (Nat.le_of_ble_eq_true rfl)) (Nat.zero_le _) ?_
 refine sr ?_
 refine se ?_
 repeat refine RS.mv rfl rfl rfl rfl ?_
 refine RS.q rfl (q02 rfl rfl (q0c _ _ _) rfl) ?_
 refine sd ?_
 refine WPU.ret ?_
 refine st ?_
 have hr:=Option.some.inj hF
 subst hr
 exact ⟨.inr rfl,[.bool (p1 != p1)],q1g rfl (q1b),.bool (p1 != p1),⟨[],0⟩,Nat.le_refl _,Gh.toR (.bool (p1 != p1)) rfl,rfl,BU.h⟩
theorem q7f (n:Nat) (p1:Int) (r:Bool) (hF:q3t n p1=some r) (σ:Sg):EvU Try.prog 58 [.int .i64 p1] σ (fun u σ'=>u = .bool r∧σ'=σ) :=
 EvU.pure1C (qbg n p1 r hF) σ
def q1d (n:Nat) (p1:Int) (p2:Int):Option (Int) :=
 bindO (q3t n p1) fun r3 =>
 bindO (q3t n p2) fun r5 =>
 cond r3
  (cond r5
   (some 0)
   (some (-1)))
  (cond r5
   (some 1)
   (cond (decide (p1<p2))
    (some (-1))
    (cond (decide (p1 > p2))
     (some 1)
     (some 0))))
theorem q9z (n:Nat) (p1:Int) (p2:Int) (r:Int) (hF:q1d n p1 p2=some r):EvU Try.prog 47 [.int .i64 p1,.int .i64 p2] ⟨[],0⟩ (fun u _=>u = .int .i64 r∧Bel 0 u):=by
 unfold q1d at hF
 refine EvU.of_body Try.tb_ok fn47 rfl ?_
 refine WPU.ghost (tm':=fr 20 [(0,.int .i64 p1),(1,.int .i64 p2)]) (Gh.start (Nat.le_of_ble_eq_true rfl)) (Nat.zero_le _) ?_
 refine sr ?_
 refine sd ?_
 obtain ⟨r3,h4,hF⟩:=q00 hF
 refine sr ?_
 refine RS.call (u:=.bool r3) (args:=[.int .i64 p1]) rfl (q0b rfl rfl fn58 hb58 rfl rfl) (q7f n p1 r3 h4 _) rfl rfl ?_
 refine sd ?_
 obtain ⟨r5,h6,hF⟩:=q00 hF
 refine sr ?_
 refine RS.call (u:=.bool r5) (args:=[.int .i64 p2]) rfl (q0b rfl rfl fn58 hb58 rfl rfl) (q7f n p2 r5 h6 _) rfl rfl ?_
 refine se ?_
 refine sd ?_
 refine WPU.condS (t:=r3) rfl (fun h7=>?_) (fun h7=>?_)
 replace hF:=q0a h7 hF
 refine sr ?_
 refine sd ?_
 refine WPU.condS (t:=r5) rfl (fun h8=>?_) (fun h8=>?_)
 replace hF:=q0a h8 hF
 refine sr ?_
 refine sd ?_
 refine WPU.ret ?_
 refine st ?_
 have hr:=Option.some.inj hF
 subst hr
 exact ⟨.inr rfl,[.int .i64 0],q1g rfl (q1b),.int .i64 0,⟨[],0⟩,Nat.le_refl _,Gh.toR (.int .i64 0) rfl,rfl,BU.h⟩
 replace hF:=q09 h8 hF
 refine st ?_
 refine WPU.skip ?_
 refine sr ?_
 refine sd ?_
 refine WPU.ret ?_
 refine st ?_
 have hr:=Option.some.inj hF
 subst hr
 exact ⟨.inr rfl,[.int .i64 (-1)],q1g rfl (q1b),.int .i64 (-1),⟨[],0⟩,Nat.le_refl _,Gh.toR (.int .i64 (-1)) rfl,rfl,BU.h⟩
 replace hF:=q09 h7 hF
 refine st ?_
 refine WPU.skip ?_
 refine sr ?_
 refine sd ?_
 refine WPU.condS (t:=r5) rfl (fun h9=>?_) (fun h9=>?_)
 replace hF:=q0a h9 hF
 refine sr ?_
 refine sd ?_
 refine WPU.ret ?_
 refine st ?_
 have hr:=Option.some.inj hF
 subst hr
 exact ⟨.inr rfl,[.int .i64 1],q1g rfl (q1b),.int .i64 1,⟨[],0⟩,Nat.le_refl _,Gh.toR (.int .i64 1) rfl,rfl,BU.h⟩
 replace hF:=q09 h9 hF
 refine st ?_
 refine WPU.skip ?_
 refine sr ?_
 repeat refine RS.mv rfl rfl rfl rfl ?_
 refine RS.q rfl (q02 rfl rfl (q1q _ _ _) rfl) ?_
 refine sd ?_
 refine WPU.condS (t:=(decide (p1<p2))) rfl (fun h10=>?_) (fun h10=>?_)
 replace hF:=q0a h10 hF
 refine sr ?_
 refine sd ?_
 refine WPU.ret ?_
 refine st ?_
 have hr:=Option.some.inj hF
 subst hr
 exact ⟨.inr rfl,[.int .i64 (-1)],q1g rfl (q1b),.int .i64 (-1),⟨[],0⟩,Nat.le_refl _,Gh.toR (.int .i64 (-1)) rfl,rfl,BU.h⟩
 replace hF:=q09 h10 hF
 refine st ?_
 refine WPU.skip ?_
 refine sr ?_
 repeat refine RS.mv rfl rfl rfl rfl ?_
 refine RS.q rfl (q02 rfl rfl (q6a _ _ _) rfl) ?_
 refine sd ?_
 refine WPU.condS (t:=(decide (p1 > p2))) rfl (fun h11=>?_) (fun h11=>?_)
 replace hF:=q0a h11 hF
 refine sr ?_
 refine sd ?_
 refine WPU.ret ?_
 refine st ?_
 have hr:=Option.some.inj hF
 subst hr
 exact ⟨.inr rfl,[.int .i64 1],q1g rfl (q1b),.int .i64 1,⟨[],0⟩,Nat.le_refl _,Gh.toR (.int .i64 1) rfl,rfl,BU.h⟩
 replace hF:=q09 h11 hF
 refine st ?_
 refine WPU.skip ?_
 refine sr ?_
 refine sd ?_
 refine WPU.ret ?_
 refine st ?_
 have hr:=Option.some.inj hF
 subst hr
 exact ⟨.inr rfl,[.int .i64 0],q1g rfl (q1b),.int .i64 0,⟨[],0⟩,Nat.le_refl _,Gh.toR (.int .i64 0) rfl,rfl,BU.h⟩
theorem q2b (n:Nat) (p1:Int) (p2:Int) (r:Int) (hF:q1d n p1 p2=some r) (σ:Sg):EvU Try.prog 47 [.int .i64 p1,.int .i64 p2] σ (fun u σ'=>u = .int .i64 r∧σ'=σ) :=
 EvU.pure1C (q9z n p1 p2 r hF) σ
def q2r (n:Nat) (p1:List UInt8):Option (Bool) :=
 some (!bytesEq p1 p1)
theorem q92 (n:Nat) (p1:List UInt8) (r:Bool) (hF:q2r n p1=some r):EvU Try.prog 59 [.str p1] ⟨[],0⟩ (fun u _=>u = .bool r∧Bel 0 u):=by
 unfold q2r at hF
 refine EvU.of_body Try.tb_ok fn59 rfl ?_
 refine WPU.ghost (tm':=fr 6 [(0,.str p1)]) (Gh.start (Nat.le_of_ble_eq_true rfl)) (Nat.zero_le _) ?_
 refine sr ?_
 refine se ?_
 repeat refine RS.mv rfl rfl rfl rfl ?_
 refine RS.q (u:=.bool (!bytesEq p1 p1)) rfl (q30 rfl rfl rfl rfl) ?_
 refine sd ?_
 refine WPU.ret ?_
 refine st ?_
 have hr:=Option.some.inj hF
 subst hr
 exact ⟨.inr rfl,[.bool (!bytesEq p1 p1)],q1g rfl (q1b),.bool (!bytesEq p1 p1),⟨[],0⟩,Nat.le_refl _,Gh.toR (.bool (!bytesEq p1 p1)) rfl,rfl,BU.h⟩
theorem q67 (n:Nat) (p1:List UInt8) (r:Bool) (hF:q2r n p1=some r) (σ:Sg):EvU Try.prog 59 [.str p1] σ (fun u σ'=>u = .bool r∧σ'=σ) :=
 EvU.pure1C (q92 n p1 r hF) σ
def q2c (n:Nat) (p1:List UInt8) (p2:List UInt8):Option (Int) :=
 bindO (q2r n p1) fun r3 =>
 bindO (q2r n p2) fun r5 =>
 cond r3
  (cond r5
   (some 0)
   (some (-1)))
  (cond r5
   (some 1)
   (cond (bytesLt p1 p2)
    (some (-1))
    (cond (!(bytesLt p1 p2 || bytesEq p1 p2))
     (some 1)
     (some 0))))
theorem q8e (n:Nat) (p1:List UInt8) (p2:List UInt8) (r:Int) (hF:q2c n p1 p2=some r):EvU Try.prog 52 [.str p1,.str p2] ⟨[],0⟩ (fun u _=>u = .int .i64 r∧Bel 0 u):=by
 unfold q2c at hF
 refine EvU.of_body Try.tb_ok fn52 rfl ?_
 refine WPU.ghost (tm':=fr 20 [(0,.str p1),(1,.str p2)]) (Gh.start (Nat.le_of_ble_eq_true rfl)) (Nat.zero_le _) ?_
 refine sr ?_
 refine sd ?_
 obtain ⟨r3,h4,hF⟩:=q00 hF
 refine sr ?_
 refine RS.call (u:=.bool r3) (args:=[.str p1]) rfl (q0b rfl rfl fn59 hb59 rfl rfl) (q67 n p1 r3 h4 _) rfl rfl ?_
 refine sd ?_
 obtain ⟨r5,h6,hF⟩:=q00 hF
 refine sr ?_
 refine RS.call (u:=.bool r5) (args:=[.str p2]) rfl (q0b rfl rfl fn59 hb59 rfl rfl) (q67 n p2 r5 h6 _) rfl rfl ?_
 refine se ?_
 refine sd ?_
 refine WPU.condS (t:=r3) rfl (fun h7=>?_) (fun h7=>?_)
 replace hF:=q0a h7 hF
 refine sr ?_
 refine sd ?_
 refine WPU.condS (t:=r5) rfl (fun h8=>?_) (fun h8=>?_)
 replace hF:=q0a h8 hF
 refine sr ?_
 refine sd ?_
 refine WPU.ret ?_
 refine st ?_
 have hr:=Option.some.inj hF
 subst hr
 exact ⟨.inr rfl,[.int .i64 0],q1g rfl (q1b),.int .i64 0,⟨[],0⟩,Nat.le_refl _,Gh.toR (.int .i64 0) rfl,rfl,BU.h⟩
 replace hF:=q09 h8 hF
 refine st ?_
 refine WPU.skip ?_
 refine sr ?_
 refine sd ?_
 refine WPU.ret ?_
 refine st ?_
 have hr:=Option.some.inj hF
 subst hr
 exact ⟨.inr rfl,[.int .i64 (-1)],q1g rfl (q1b),.int .i64 (-1),⟨[],0⟩,Nat.le_refl _,Gh.toR (.int .i64 (-1)) rfl,rfl,BU.h⟩
 replace hF:=q09 h7 hF
 refine st ?_
 refine WPU.skip ?_
 refine sr ?_
 refine sd ?_
 refine WPU.condS (t:=r5) rfl (fun h9=>?_) (fun h9=>?_)
 replace hF:=q0a h9 hF
 refine sr ?_
 refine sd ?_
 refine WPU.ret ?_
 refine st ?_
 have hr:=Option.some.inj hF
 subst hr
 exact ⟨.inr rfl,[.int .i64 1],q1g rfl (q1b),.int .i64 1,⟨[],0⟩,Nat.le_refl _,Gh.toR (.int .i64 1) rfl,rfl,BU.h⟩
 replace hF:=q09 h9 hF
 refine st ?_
 refine WPU.skip ?_
 refine sr ?_
 repeat refine RS.mv rfl rfl rfl rfl ?_
 refine RS.q (u:=.bool (bytesLt p1 p2)) rfl (q30 rfl rfl rfl rfl) ?_
 refine sd ?_
 refine WPU.condS (t:=(bytesLt p1 p2)) rfl (fun h10=>?_) (fun h10=>?_)
 replace hF:=q0a h10 hF
 refine sr ?_
 refine sd ?_
 refine WPU.ret ?_
 refine st ?_
 have hr:=Option.some.inj hF
 subst hr
 exact ⟨.inr rfl,[.int .i64 (-1)],q1g rfl (q1b),.int .i64 (-1),⟨[],0⟩,Nat.le_refl _,Gh.toR (.int .i64 (-1)) rfl,rfl,BU.h⟩
 replace hF:=q09 h10 hF
 refine st ?_
 refine WPU.skip ?_
 refine sr ?_
 repeat refine RS.mv rfl rfl rfl rfl ?_
 refine RS.q (u:=.bool (!(bytesLt p1 p2 || bytesEq p1 p2))) rfl (q30 rfl rfl rfl rfl) ?_
 refine sd ?_
 refine WPU.condS (t:=(!(bytesLt p1 p2 || bytesEq p1 p2))) rfl (fun h11=>?_) (fun h11=>?_)
 replace hF:=q0a h11 hF
 refine sr ?_
 refine sd ?_
 refine WPU.ret ?_
 refine st ?_
 have hr:=Option.some.inj hF
 subst hr
 exact ⟨.inr rfl,[.int .i64 1],q1g rfl (q1b),.int .i64 1,⟨[],0⟩,Nat.le_refl _,Gh.toR (.int .i64 1) rfl,rfl,BU.h⟩
 replace hF:=q09 h11 hF
 refine st ?_
 refine WPU.skip ?_
 refine sr ?_
 refine sd ?_
 refine WPU.ret ?_
 refine st ?_
 have hr:=Option.some.inj hF
 subst hr
 exact ⟨.inr rfl,[.int .i64 0],q1g rfl (q1b),.int .i64 0,⟨[],0⟩,Nat.le_refl _,Gh.toR (.int .i64 0) rfl,rfl,BU.h⟩
theorem q7l (n:Nat) (p1:List UInt8) (p2:List UInt8) (r:Int) (hF:q2c n p1 p2=some r) (σ:Sg):EvU Try.prog 52 [.str p1,.str p2] σ (fun u σ'=>u = .int .i64 r∧σ'=σ) :=
 EvU.pure1C (q8e n p1 p2 r hF) σ
def q0w (p1:List GDeriv) (p2:List GDeriv)  : Option (Int) :=
 cond (decide ((p1.length:Int)<(p2.length:Int)))
  (some (-1))
  (some 0)
def q0i (p1:List GDeriv) (p2:List GDeriv) (f2:GDeriv→GDeriv→Option (Int)):Nat→Int→Option (Int)
 | 0,_=>none
 | m1+1,z8 =>
  cond (decide (z8<(p1.length:Int)))
   (bindO (idxO p1 z8) fun x11 =>
   cond (decide (z8 ≥ (p2.length:Int)))
    (some 1)
    (bindO (idxO p2 z8) fun x14 =>
    bindO (f2 x11 x14) fun r16 =>
    cond (r16 != 0)
     (some r16)
     ((q0i p1 p2 f2 m1) (IntKind.i64.wrap (z8+1)))))
   (q0w p1 p2)
def q0t (f2:GDeriv→GDeriv→Option (Int)) (n:Nat) (p1:List GDeriv) (p2:List GDeriv):Option (Int) :=
 q0i p1 p2 f2 n 0
theorem q4m (f2:GDeriv→GDeriv→Option (Int)) (hf2:∀ (a0:GDeriv) (a1:GDeriv) (r:Int),f2 a0 a1=some r→EvU Try.prog 35 [.agg (xGDeriv a0),.agg (xGDeriv a1)] ⟨[],0⟩ (fun u _=>u = .int .i64 r∧Bel 0 u)) (n:Nat) (p1:List GDeriv) (p2:List GDeriv) (r:Int) (hF:q0t f2 n p1 p2=some r):EvU Try.prog 53 [.isl false (List.map cGDeriv p1),.isl false (List.map cGDeriv p2),.fn (.func 35) [] []] ⟨[],0⟩ (fun u _=>u = .int .i64 r∧Bel 0 u):=by
 unfold q0t at hF
 have hf2S:∀ (a0:GDeriv) (a1:GDeriv) (r:Int),f2 a0 a1=some r→∀ σ,EvU Try.prog 35 [.agg (xGDeriv a0),.agg (xGDeriv a1)] σ (fun u σ'=>u = .int .i64 r∧σ'=σ):=fun a0 a1 r h σ=>EvU.pure1C (hf2 a0 a1 r h) σ
 refine EvU.of_body Try.tb_ok fn53 rfl ?_
 refine WPU.ghost (tm':=fr 39 [(0,.isl false (List.map cGDeriv p1)),(1,.isl false (List.map cGDeriv p2)),(2,.fn (.func 35) [] [])]) (Gh.start (Nat.le_of_ble_eq_true rfl)) (Nat.zero_le _) ?_
 refine sr ?_
 refine se ?_
 refine RS.q rfl (q0l rfl rfl rfl (q0e cGDeriv und35)) (RS.mv rfl rfl rfl rfl ?_)
 refine sd ?_
 refine WPU.ghost (tm':=fr 39 [(0,.isl false (List.map cGDeriv p1)),(1,.isl false (List.map cGDeriv p2)),(2,.fn (.func 35) [] []),(11,.isl false (List.map cGDeriv p1)),(12,.int .i64 (p1.length:Int)),(13,.int .i64 0)]) (Gh.sub ⟨rfl,rfl,rfl,rfl,rfl,rfl,trivial⟩) (Nat.zero_le _) ?_
 refine WPU.loopK (fun m tm σ=>∃ z8:Int,q0i p1 p2 f2 m z8=some r∧tm=fr 39 [(0,.isl false (List.map cGDeriv p1)),(1,.isl false (List.map cGDeriv p2)),(2,.fn (.func 35) [] []),(11,.isl false (List.map cGDeriv p1)),(12,.int .i64 (p1.length:Int)),(13,.int .i64 z8)]∧σ=⟨[],0⟩) (fun tm σ=>q0w p1 p2=some r∧tm=fr 39 [(0,.isl false (List.map cGDeriv p1)),(1,.isl false (List.map cGDeriv p2))]∧σ=⟨[],0⟩) n ⟨0,hF,rfl,rfl⟩ ?_ ?_
 rintro _ _ ⟨hF,rfl,rfl⟩
 unfold q0w at hF
 refine sr ?_
 refine RS.q rfl (q0l rfl rfl rfl (q0e cGDeriv und35)) (RS.mv rfl rfl rfl rfl (RS.q rfl (q0l rfl rfl rfl (q0e cGDeriv und35)) (RS.q rfl (q02 rfl rfl (q1q _ _ _) rfl) ?_)))
 refine sd ?_
 refine WPU.condS (t:=(decide ((p1.length:Int)<(p2.length:Int)))) rfl (fun h9=>?_) (fun h9=>?_)
 replace hF:=q0a h9 hF
 refine sr ?_
 refine sd ?_
 refine WPU.ret ?_
 refine st ?_
 have hr:=Option.some.inj hF
 subst hr
 exact ⟨.inr rfl,[.int .i64 (-1)],q1g rfl (q1b),.int .i64 (-1),⟨[],0⟩,Nat.le_refl _,Gh.toR (.int .i64 (-1)) rfl,rfl,BU.h⟩
 replace hF:=q09 h9 hF
 refine st ?_
 refine WPU.skip ?_
 refine sr ?_
 refine sd ?_
 refine WPU.ret ?_
 refine st ?_
 have hr:=Option.some.inj hF
 subst hr
 exact ⟨.inr rfl,[.int .i64 0],q1g rfl (q1b),.int .i64 0,⟨[],0⟩,Nat.le_refl _,Gh.toR (.int .i64 0) rfl,rfl,BU.h⟩
 rintro m1 _ _ ⟨z8,hF,rfl,rfl⟩
 rcases m1 with _ | m1
 cases hF
 unfold q0i at hF
 refine sr ?_
 refine RS.q rfl (q02 rfl rfl (q1q _ _ _) rfl) ?_
 refine sd ?_
 refine WPU.condS (t:=(decide (z8<(p1.length:Int)))) rfl (fun h10=>?_) (fun h10=>?_)
 replace hF:=q0a h10 hF
 refine st ?_
 refine WPU.skip ?_
 refine st ?_
 refine WPU.block ?_
 refine st ?_
 obtain ⟨x11,h12,hF⟩:=q00 hF
 refine sr ?_
 refine RS.q (u:=.iptr (xGDeriv x11)) rfl (q1e rfl rfl (q0p cGDeriv und35 (q01 inf37) q17 h12 (q1j x11))) (RS.q (u:=.agg (xGDeriv x11)) rfl (q3a und37 rfl (q01 inf37) rfl rfl) (RS.q (u:=.ptr 0 0 0) (σ':=⟨[(0,.row [.int .i64 0,.str [],.int .i64 0,.int .i64 0,.nils] 37)],1⟩) rfl (q1i inf37 rfl rfl) (RS.as rfl rfl rfl rfl (RS.opn (u:=.junk) (σ':=⟨[(0,.row (xGDeriv x11) 37)],1⟩) rfl (q0h (q01 inf37) rfl rfl rfl rfl rfl rfl rfl rfl) rfl ?_))))
 refine se ?_
 repeat refine RS.mv rfl rfl rfl rfl ?_
 refine RS.q rfl (q0l rfl rfl rfl (q0e cGDeriv und35)) (RS.q rfl (q02 rfl rfl (qah _ _ _) rfl) ?_)
 refine sd ?_
 refine WPU.condS (t:=(decide (z8 ≥ (p2.length:Int)))) rfl (fun h13=>?_) (fun h13=>?_)
 replace hF:=q0a h13 hF
 refine sr ?_
 refine sd ?_
 refine WPU.ret ?_
 refine st ?_
 have hr:=Option.some.inj hF
 subst hr
 exact ⟨.inr rfl,[.int .i64 1],q1g rfl (q1b),.int .i64 1,⟨[],0⟩,Nat.le_refl _,Gh.toR (.int .i64 1) rfl,rfl,BU.h⟩
 replace hF:=q09 h13 hF
 refine st ?_
 refine WPU.skip ?_
 refine st ?_
 obtain ⟨x14,h15,hF⟩:=q00 hF
 refine sr ?_
 repeat refine RS.mv rfl rfl rfl rfl ?_
 refine RS.q (u:=.iptr (xGDeriv x14)) rfl (q1e rfl rfl (q0p cGDeriv und35 (q01 inf37) q17 h15 (q1j x14))) (RS.q (u:=.agg (xGDeriv x14)) rfl (q3a und37 rfl (q01 inf37) rfl rfl) (RS.q (u:=.ptr 1 0 0) (σ':=⟨[(1,.row [.int .i64 0,.str [],.int .i64 0,.int .i64 0,.nils] 37),(0,.row (xGDeriv x11) 37)],2⟩) rfl (q1i inf37 rfl rfl) (RS.opn (u:=.junk) (σ':=⟨[(1,.row (xGDeriv x14) 37),(0,.row (xGDeriv x11) 37)],2⟩) rfl (q0h (q01 inf37) rfl rfl rfl rfl rfl rfl rfl rfl) rfl ?_)))
 refine sd ?_
 obtain ⟨r16,h17,hF⟩:=q00 hF
 refine sr ?_
 refine RS.q (u:=.agg (xGDeriv x11)) rfl (q0o und37 rfl (q01 inf37) rfl rfl rfl) (RS.q (u:=.agg (xGDeriv x14)) rfl (q0o und37 rfl (q01 inf37) rfl rfl rfl) (RS.call (u:=.int .i64 r16) (args:=[.agg (xGDeriv x11),.agg (xGDeriv x14)]) rfl (q0b rfl rfl fn35 hb35 rfl rfl) (hf2S x11 x14 r16 h17 _) rfl rfl ?_))
 refine se ?_
 refine RS.q rfl (q02 rfl rfl (q0c _ _ _) rfl) ?_
 refine sd ?_
 refine WPU.condS (t:=(r16 != 0)) rfl (fun h18=>?_) (fun h18=>?_)
 replace hF:=q0a h18 hF
 refine sr ?_
 refine sd ?_
 refine WPU.ret ?_
 refine st ?_
 have hr:=Option.some.inj hF
 subst hr
 exact ⟨.inr rfl,[.int .i64 r16],q1g rfl (q1b),.int .i64 r16,⟨[],0⟩,Nat.le_refl _,Gh.toR (.int .i64 r16) rfl,rfl,BU.h⟩
 replace hF:=q09 h18 hF
 refine st ?_
 refine WPU.skip ?_
 refine sr ?_
 refine RS.q rfl (q02 rfl rfl (q35 _ _ _) rfl) (RS.mv rfl rfl rfl rfl ?_)
 refine sd ?_
 exact ⟨m1,_,_,Nat.lt_succ_self _,⟨(IntKind.i64.wrap (z8+1)),hF,rfl,rfl⟩,(Nat.zero_le _),Gh.toC (n1:=0) ⟨rfl,rfl,rfl,rfl,rfl,rfl,trivial⟩ rfl (Nat.zero_le _) (by simp)⟩
 replace hF:=q09 h10 hF
 refine st ?_
 refine WPU.exit ?_
 refine st ?_
 exact ⟨_,_,⟨hF,rfl,rfl⟩,(Nat.zero_le _),Gh.toC (n1:=0) ⟨rfl,rfl,trivial⟩ rfl (Nat.zero_le _) (by simp)⟩
theorem q4i (f2:GDeriv→GDeriv→Option (Int)) (hf2:∀ (a0:GDeriv) (a1:GDeriv) (r:Int),f2 a0 a1=some r→EvU Try.prog 35 [.agg (xGDeriv a0),.agg (xGDeriv a1)] ⟨[],0⟩ (fun u _=>u = .int .i64 r∧Bel 0 u)) (n:Nat) (p1:List GDeriv) (p2:List GDeriv) (r:Int) (hF:q0t f2 n p1 p2=some r) (σ:Sg):EvU Try.prog 53 [.isl false (List.map cGDeriv p1),.isl false (List.map cGDeriv p2),.fn (.func 35) [] []] σ (fun u σ'=>u = .int .i64 r∧σ'=σ) :=
 EvU.pure1C (q4m f2 hf2 n p1 p2 r hF) σ
def q68 (n:Nat) (self:GDeriv→GDeriv→Option (Int)) (p1:GDeriv) (p2:GDeriv):Option (Int) :=
 bindO (q1d n p1.From p2.From) fun r3 =>
 bindO (q1d n p1.To p2.To) fun r5 =>
 bindO (q1d n p1.Kind p2.Kind) fun r7 =>
 bindO (q2c n p1.Name p2.Name) fun r9 =>
 bindO (q3e n ([r3,r5,r7,r9])) fun r11 =>
 cond (r11 != 0)
  (some r11)
  (bindO (q0t self n p1.Kids p2.Kids) fun r14 =>
  some r14)
def q1t:Nat→GDeriv→GDeriv→Option (Int)
 | 0,_,_=>none
 | n+1,p1,p2=>q68 n (q1t n) p1 p2
theorem q7m:∀ (n:Nat) (p1:GDeriv) (p2:GDeriv) (r:Int),q1t n p1 p2=some r→EvU Try.prog 35 [.agg (xGDeriv p1),.agg (xGDeriv p2)] ⟨[],0⟩ (fun u _=>u = .int .i64 r∧Bel 0 u)
 | 0,p1,p2,r,hF=>by cases hF
 | n+1,p1,p2,r,hF=>by
  have ih:=q7m n
  have ihS:∀ (p1:GDeriv) (p2:GDeriv) (r:Int),q1t n p1 p2=some r→∀ σ,EvU Try.prog 35 [.agg (xGDeriv p1),.agg (xGDeriv p2)] σ (fun u σ'=>u = .int .i64 r∧σ'=σ):=fun p1 p2 r h σ=>EvU.pure1C (ih p1 p2 r h) σ
  unfold q1t q68 at hF
  refine EvU.of_body Try.tb_ok fn35 rfl ?_
  refine WPU.ghost (tm':=fr 36 [(0,.agg (xGDeriv p1)),(1,.agg (xGDeriv p2))]) (Gh.start (Nat.le_of_ble_eq_true rfl)) (Nat.zero_le _) ?_
  refine sr ?_
  refine RS.q (u:=.ptr 0 0 0) (σ':=⟨[(0,.row (xGDeriv p1) 37)],1⟩) rfl (q3x rfl rfl rfl) (RS.q (u:=.ptr 1 0 0) (σ':=⟨[(1,.row (xGDeriv p2) 37),(0,.row (xGDeriv p1) 37)],2⟩) rfl (q3x rfl rfl rfl) ?_)
  refine sd ?_
  obtain ⟨r3,h4,hF⟩:=q00 hF
  obtain ⟨r5,h6,hF⟩:=q00 hF
  obtain ⟨r7,h8,hF⟩:=q00 hF
  obtain ⟨r9,h10,hF⟩:=q00 hF
  obtain ⟨r11,h12,hF⟩:=q00 hF
  refine WPU.drawE Try.tb_ok [] (by kernel_rfl) ?_
  refine RD.q (u:=.ptr 0 0 2) rfl (q07 und37 rfl (q01 inf3) rfl rfl rfl) (RD.q (u:=.int .i64 p1.From) rfl (q05 und3 rfl rfl rfl rfl) (RD.q (u:=.ptr 1 0 2) rfl (q07 und37 rfl (q01 inf3) rfl rfl rfl) (RD.q (u:=.int .i64 p2.From) rfl (q05 und3 rfl rfl rfl rfl) (RD.free (u:=.int .i64 r3) (args:=[.int .i64 p1.From,.int .i64 p2.From]) rfl (q0b rfl rfl fn47 hb47 rfl rfl) (fun s=>q2b n p1.From p2.From r3 h4 s) rfl rfl (RD.q (u:=.ptr 0 0 3) rfl (q07 und37 rfl (q01 inf3) rfl rfl rfl) (RD.q (u:=.int .i64 p1.To) rfl (q05 und3 rfl rfl rfl rfl) (RD.q (u:=.ptr 1 0 3) rfl (q07 und37 rfl (q01 inf3) rfl rfl rfl) ?_)))))))
  refine RD.q (u:=.int .i64 p2.To) rfl (q05 und3 rfl rfl rfl rfl) (RD.free (u:=.int .i64 r5) (args:=[.int .i64 p1.To,.int .i64 p2.To]) rfl (q0b rfl rfl fn47 hb47 rfl rfl) (fun s=>q2b n p1.To p2.To r5 h6 s) rfl rfl (RD.q (u:=.ptr 0 0 0) rfl (q07 und37 rfl (q01 inf3) rfl rfl rfl) (RD.q (u:=.int .i64 p1.Kind) rfl (q05 und3 rfl rfl rfl rfl) (RD.q (u:=.ptr 1 0 0) rfl (q07 und37 rfl (q01 inf3) rfl rfl rfl) (RD.q (u:=.int .i64 p2.Kind) rfl (q05 und3 rfl rfl rfl rfl) (RD.free (u:=.int .i64 r7) (args:=[.int .i64 p1.Kind,.int .i64 p2.Kind]) rfl (q0b rfl rfl fn47 hb47 rfl rfl) (fun s=>q2b n p1.Kind p2.Kind r7 h8 s) rfl rfl (RD.q (u:=.ptr 0 0 1) rfl (q07 und37 rfl (q01 inf9) rfl rfl rfl) ?_)))))))
  refine RD.q (u:=.str p1.Name) rfl (q05 und9 rfl rfl rfl rfl) (RD.q (u:=.ptr 1 0 1) rfl (q07 und37 rfl (q01 inf9) rfl rfl rfl) (RD.q (u:=.str p2.Name) rfl (q05 und9 rfl rfl rfl rfl) (RD.free (u:=.int .i64 r9) (args:=[.str p1.Name,.str p2.Name]) rfl (q0b rfl rfl fn52 hb52 rfl rfl) (fun s=>q7l n p1.Name p2.Name r9 h10 s) rfl rfl (RD.act (u:=.sl 2 0 4 4) (σ':=⟨[(2,.row [.int .i64 r3,.int .i64 r5,.int .i64 r7,.int .i64 r9] 3),(1,.row (xGDeriv p2) 37),(0,.row (xGDeriv p1) 37)],3⟩) rfl (q71 und34 inf3 rfl rfl rfl rfl rfl rfl rfl) rfl rfl ?_))))
  refine RD.call (u:=.int .i64 r11) (args:=[.sl 2 0 4 4]) rfl (q0b rfl rfl fn46 hb46 rfl rfl) (EvU.view (qad n ([r3,r5,r7,r9]) r11 h12) BUL.h (by simp only [toV,toVL,okL,okC,cond_true]<;>rfl) (fun m=>by simp [ren,renL]) (Gh.fz (tm':=[.isl false (List.map (cI .i64) ([r3,r5,r7,r9]))]) (h':=[(1,.row (xGDeriv p2) 37),(0,.row (xGDeriv p1) 37)]) 2 (.row [.int .i64 r3,.int .i64 r5,.int .i64 r7,.int .i64 r9] 3) 1 rfl (by simp) (by simp only [oneU,q0x,q0m,q1x,q12,q20,q16,q15,q14,q13,q0y,q1y,q1z,q1w,q21,q39,junkT,q69,q6h,fz_xGDeriv,Nat.reduceLeDiff,Nat.reduceMul,List.length_cons,List.length_nil,Nat.reduceAdd]<;>simp only [chunks,List.take,List.drop,List.map,cI,cB,cS,cL]) (by simp only [fzH,fzB,ug,Nat.beq,cond_true,cond_false,oneU,q0x,q0m,q1x,q12,q20,q16,q15,q14,q13,q0y,q1y,q1z,q1w,q21,q39,junkT,q69,q6h,fz_xGDeriv,Nat.reduceLeDiff,Nat.reduceMul,List.length_cons,List.length_nil,Nat.reduceAdd]<;>simp only [chunks,List.take,List.drop,List.map,cI,cB,cS,cL]))) rfl rfl ?_
  refine RD.as rfl rfl rfl rfl ?_
  refine RD.done ⟨by kernel_rfl,trivial,?_⟩
  refine sr ?_
  refine RS.q rfl (q02 rfl rfl (q0c _ _ _) rfl) ?_
  refine sd ?_
  refine WPU.condS (t:=(r11 != 0)) rfl (fun h13=>?_) (fun h13=>?_)
  replace hF:=q0a h13 hF
  refine sr ?_
  refine sd ?_
  refine WPU.ret ?_
  refine st ?_
  have hr:=Option.some.inj hF
  subst hr
  exact ⟨.inr rfl,[.int .i64 r11],q1g rfl (q1b),.int .i64 r11,⟨[],0⟩,Nat.le_refl _,Gh.toR (.int .i64 r11) rfl,rfl,BU.h⟩
  replace hF:=q09 h13 hF
  refine st ?_
  refine WPU.skip ?_
  refine st ?_
  obtain ⟨r14,h15,hF⟩:=q00 hF
  refine sr ?_
  refine RS.q (u:=.ptr 0 0 4) rfl (q07 und37 rfl (q01 inf35) rfl rfl rfl) (RS.q (u:=.isl false (List.map cGDeriv p1.Kids)) rfl (q05 und35 rfl rfl rfl rfl) (RS.q (u:=.ptr 1 0 4) rfl (q07 und37 rfl (q01 inf35) rfl rfl rfl) (RS.q (u:=.isl false (List.map cGDeriv p2.Kids)) rfl (q05 und35 rfl rfl rfl rfl) (RS.call (u:=.int .i64 r14) (args:=[.isl false (List.map cGDeriv p1.Kids),.isl false (List.map cGDeriv p2.Kids),.fn (.func 35) [] []]) rfl (q0b rfl rfl fn53 hb53 rfl rfl) (q4i (q1t n) ih n p1.Kids p2.Kids r14 h15 _) rfl rfl ?_))))
  refine sd ?_
  refine WPU.ret ?_
  refine st ?_
  have hr:=Option.some.inj hF
  subst hr
  exact ⟨.inr rfl,[.int .i64 r14],q1g rfl (q1b),.int .i64 r14,⟨[],0⟩,Nat.le_refl _,Gh.toR (.int .i64 r14) rfl,rfl,BU.h⟩
theorem q47 (n:Nat) (p1:GDeriv) (p2:GDeriv) (r:Int) (hF:q1t n p1 p2=some r) (σ:Sg):EvU Try.prog 35 [.agg (xGDeriv p1),.agg (xGDeriv p2)] σ (fun u σ'=>u = .int .i64 r∧σ'=σ) :=
 EvU.pure1C (q7m n p1 p2 r hF) σ
def q3s (n:Nat) (p1:Int) (p2:Int) (c3:GChart) (c4:List GDeriv):Option (Int) :=
 bindO (idxO c3.Edges p1) fun x5 =>
 bindO (idxO c3.Edges p2) fun x7 =>
 bindO (q1d n (IntKind.i64.wrap (x5.To - x5.From)) (IntKind.i64.wrap (x7.To - x7.From))) fun r9 =>
 bindO (q1d n x5.From x7.From) fun r11 =>
 bindO (q1d n x5.Unary x7.Unary) fun r13 =>
 bindO (q3e n ([r9,r11,r13])) fun r15 =>
 cond (r15 != 0)
  (some r15)
  (bindO (idxO c4 p1) fun x18 =>
  bindO (idxO c4 p2) fun x20 =>
  bindO (q1t n x18 x20) fun r22 =>
  some r22)
theorem qbb (n:Nat) (p1:Int) (p2:Int) (c3:GChart) (c4:List GDeriv) (r:Int) (hF:q3s n p1 p2 c3 c4=some r):EvU Try.prog 45 [.int .i64 p1,.int .i64 p2,.iptr (cGChart c3),.iptr [.isl false (List.map cGDeriv c4)]] ⟨[],0⟩ (fun u _=>u = .int .i64 r∧Bel 0 u):=by
 unfold q3s at hF
 refine EvU.of_body Try.tb_ok fn45 rfl ?_
 refine WPU.ghost (tm':=fr 55 [(0,.int .i64 p1),(1,.int .i64 p2),(2,.iptr (cGChart c3)),(3,.iptr [.isl false (List.map cGDeriv c4)])]) (Gh.start (Nat.le_of_ble_eq_true rfl)) (Nat.zero_le _) ?_
 refine sr ?_
 refine sd ?_
 obtain ⟨x5,h6,hF⟩:=q00 hF
 obtain ⟨x7,h8,hF⟩:=q00 hF
 refine WPU.drawQ Try.tb_ok [(10,[.int .i64 0,.int .i64 0,.int .i64 0,.int .i64 0,.str [],.nils,.int .i64 0,.str [],.int .i64 0,.int .i64 0,.nils,.nils],42),(11,[.int .i64 0,.int .i64 0,.int .i64 0,.int .i64 0,.str [],.nils,.int .i64 0,.str [],.int .i64 0,.int .i64 0,.nils,.nils],42)] [(5,12),(6,12),(7,12),(8,12),(9,12)] (nb:=0) (σe:=⟨[],2⟩) (σ1:=⟨[(1,.row [.int .i64 0,.int .i64 0,.int .i64 0,.int .i64 0,.str [],.nils,.int .i64 0,.str [],.int .i64 0,.int .i64 0,.nils,.nils] 42),(0,.row [.int .i64 0,.int .i64 0,.int .i64 0,.int .i64 0,.str [],.nils,.int .i64 0,.str [],.int .i64 0,.int .i64 0,.nils,.nils] 42)],2⟩) (q:=[⟨10,0,[.int .i64 0,.int .i64 0,.int .i64 0,.int .i64 0,.str [],.nils,.int .i64 0,.str [],.int .i64 0,.int .i64 0,.nils,.nils],42⟩,⟨11,1,[.int .i64 0,.int .i64 0,.int .i64 0,.int .i64 0,.str [],.nils,.int .i64 0,.str [],.int .i64 0,.int .i64 0,.nils,.nils],42⟩]) (by kernel_rfl) (List.cons_ne_nil _ _) ⟨⟨_,_,_,inf42,rfl,rfl⟩,⟨_,_,_,inf42,rfl,rfl⟩,trivial⟩ rfl rfl rfl rfl ?_
 refine RQ.early (u:=.iptr [.isl false (List.map cGEdge c3.Edges)]) rfl (q4f und24 rfl (q01 inf22) rfl rfl) (q4f und24 rfl (q01 inf22) rfl rfl) rfl BU.h rfl rfl ?_
 refine RQ.early (u:=.isl false (List.map cGEdge c3.Edges)) rfl (q19 und22 rfl rfl rfl) (q19 und22 rfl rfl rfl) rfl BU.h rfl rfl ?_
 refine RQ.early (u:=.int .i64 p1) rfl (q06 rfl) (q06 rfl) rfl BU.h rfl rfl ?_
 refine RQ.early (u:=.iptr (cGEdge x5)) rfl (q1e rfl rfl (q0p cGEdge und22 (q01 inf42) q0f h6 rfl)) (q1e rfl rfl (q0p cGEdge und22 (q01 inf42) q0f h6 rfl)) rfl BU.h rfl rfl ?_
 refine RQ.early (u:=.agg (cGEdge x5)) rfl (q3a und42 rfl (q01 inf42) rfl rfl) (q3a und42 rfl (q01 inf42) rfl rfl) rfl BU.h rfl rfl ?_
 refine RQ.early (u:=.iptr [.isl false (List.map cGEdge c3.Edges)]) rfl (q4f und24 rfl (q01 inf22) rfl rfl) (q4f und24 rfl (q01 inf22) rfl rfl) rfl BU.h rfl rfl ?_
 refine RQ.early (u:=.isl false (List.map cGEdge c3.Edges)) rfl (q19 und22 rfl rfl rfl) (q19 und22 rfl rfl rfl) rfl BU.h rfl rfl ?_
 refine RQ.early (u:=.int .i64 p2) rfl (q06 rfl) (q06 rfl) rfl BU.h rfl rfl ?_
 refine RQ.early (u:=.iptr (cGEdge x7)) rfl (q1e rfl rfl (q0p cGEdge und22 (q01 inf42) q0f h8 rfl)) (q1e rfl rfl (q0p cGEdge und22 (q01 inf42) q0f h8 rfl)) rfl BU.h rfl rfl ?_
 refine RQ.early (u:=.agg (cGEdge x7)) rfl (q3a und42 rfl (q01 inf42) rfl rfl) (q3a und42 rfl (q01 inf42) rfl rfl) rfl BU.h rfl rfl ?_
 refine RQ.alloc rfl rfl rfl rfl rfl ?_
 refine RQ.alloc rfl rfl rfl rfl rfl ?_
 refine RQ.actn (u:=.junk) (σ':=⟨[(1,.row [.int .i64 0,.int .i64 0,.int .i64 0,.int .i64 0,.str [],.nils,.int .i64 0,.str [],.int .i64 0,.int .i64 0,.nils,.nils] 42),(0,.row (cGEdge x5) 42)],2⟩) rfl (q0h (q01 inf42) rfl rfl rfl rfl rfl rfl rfl rfl) rfl ?_
 refine RQ.actn (u:=.junk) (σ':=⟨[(1,.row (cGEdge x7) 42),(0,.row (cGEdge x5) 42)],2⟩) rfl (q0h (q01 inf42) rfl rfl rfl rfl rfl rfl rfl rfl) rfl ?_
 refine RQ.done ⟨by kernel_rfl,by kernel_rfl,⟨q4f und24 rfl (q01 inf22) rfl rfl,⟨q19 und22 rfl rfl rfl,⟨q06 rfl,⟨q1e rfl rfl (q0p cGEdge und22 (q01 inf42) q0f h8 rfl),⟨q3a und42 rfl (q01 inf42) rfl rfl,trivial⟩⟩⟩⟩⟩,?_⟩
 refine st ?_
 obtain ⟨r9,h10,hF⟩:=q00 hF
 obtain ⟨r11,h12,hF⟩:=q00 hF
 obtain ⟨r13,h14,hF⟩:=q00 hF
 obtain ⟨r15,h16,hF⟩:=q00 hF
 refine WPU.drawE Try.tb_ok [] (by kernel_rfl) ?_
 refine RD.q (u:=.ptr 0 0 1) rfl (q07 und42 rfl (q01 inf3) rfl rfl rfl) (RD.q (u:=.int .i64 x5.To) rfl (q05 und3 rfl rfl rfl rfl) (RD.q (u:=.ptr 0 0 0) rfl (q07 und42 rfl (q01 inf3) rfl rfl rfl) (RD.q (u:=.int .i64 x5.From) rfl (q05 und3 rfl rfl rfl rfl) (RD.q rfl (q02 rfl rfl (ix_sub _ _ _) rfl) (RD.q (u:=.ptr 1 0 1) rfl (q07 und42 rfl (q01 inf3) rfl rfl rfl) (RD.q (u:=.int .i64 x7.To) rfl (q05 und3 rfl rfl rfl rfl) (RD.q (u:=.ptr 1 0 0) rfl (q07 und42 rfl (q01 inf3) rfl rfl rfl) ?_)))))))
 refine RD.q (u:=.int .i64 x7.From) rfl (q05 und3 rfl rfl rfl rfl) (RD.q rfl (q02 rfl rfl (ix_sub _ _ _) rfl) (RD.free (u:=.int .i64 r9) (args:=[.int .i64 (IntKind.i64.wrap (x5.To - x5.From)),.int .i64 (IntKind.i64.wrap (x7.To - x7.From))]) rfl (q0b rfl rfl fn47 hb47 rfl rfl) (fun s=>q2b n (IntKind.i64.wrap (x5.To - x5.From)) (IntKind.i64.wrap (x7.To - x7.From)) r9 h10 s) rfl rfl (RD.q (u:=.ptr 0 0 0) rfl (q07 und42 rfl (q01 inf3) rfl rfl rfl) (RD.q (u:=.int .i64 x5.From) rfl (q05 und3 rfl rfl rfl rfl) (RD.q (u:=.ptr 1 0 0) rfl (q07 und42 rfl (q01 inf3) rfl rfl rfl) (RD.q (u:=.int .i64 x7.From) rfl (q05 und3 rfl rfl rfl rfl) (RD.free (u:=.int .i64 r11) (args:=[.int .i64 x5.From,.int .i64 x7.From]) rfl (q0b rfl rfl fn47 hb47 rfl rfl) (fun s=>q2b n x5.From x7.From r11 h12 s) rfl rfl ?_)))))))
 refine RD.q (u:=.ptr 0 0 2) rfl (q07 und42 rfl (q01 inf3) rfl rfl rfl) (RD.q (u:=.int .i64 x5.Unary) rfl (q05 und3 rfl rfl rfl rfl) (RD.q (u:=.ptr 1 0 2) rfl (q07 und42 rfl (q01 inf3) rfl rfl rfl) (RD.q (u:=.int .i64 x7.Unary) rfl (q05 und3 rfl rfl rfl rfl) (RD.free (u:=.int .i64 r13) (args:=[.int .i64 x5.Unary,.int .i64 x7.Unary]) rfl (q0b rfl rfl fn47 hb47 rfl rfl) (fun s=>q2b n x5.Unary x7.Unary r13 h14 s) rfl rfl (RD.act (u:=.sl 2 0 3 3) (σ':=⟨[(2,.row [.int .i64 r9,.int .i64 r11,.int .i64 r13] 3),(1,.row (cGEdge x7) 42),(0,.row (cGEdge x5) 42)],3⟩) rfl (q71 und34 inf3 rfl rfl rfl rfl rfl rfl rfl) rfl rfl ?_)))))
 refine RD.call (u:=.int .i64 r15) (args:=[.sl 2 0 3 3]) rfl (q0b rfl rfl fn46 hb46 rfl rfl) (EvU.view (qad n ([r9,r11,r13]) r15 h16) BUL.h (by simp only [toV,toVL,okL,okC,cond_true]<;>rfl) (fun m=>by simp [ren,renL]) (Gh.fz (tm':=[.isl false (List.map (cI .i64) ([r9,r11,r13]))]) (h':=[(1,.row (cGEdge x7) 42),(0,.row (cGEdge x5) 42)]) 2 (.row [.int .i64 r9,.int .i64 r11,.int .i64 r13] 3) 1 rfl (by simp) (by simp only [oneU,q0x,q0m,q1x,q12,q20,q16,q15,q14,q13,q0y,q1y,q1z,q1w,q21,q39,junkT,q69,q6h,q70,Nat.reduceLeDiff,Nat.reduceMul,List.length_cons,List.length_nil,Nat.reduceAdd]<;>simp only [chunks,List.take,List.drop,List.map,cI,cB,cS,cL]) (by simp only [fzH,fzB,ug,Nat.beq,cond_true,cond_false,oneU,q0x,q0m,q1x,q12,q20,q16,q15,q14,q13,q0y,q1y,q1z,q1w,q21,q39,junkT,q69,q6h,q70,Nat.reduceLeDiff,Nat.reduceMul,List.length_cons,List.length_nil,Nat.reduceAdd]<;>simp only [chunks,List.take,List.drop,List.map,cI,cB,cS,cL]))) rfl rfl ?_
 refine RD.as rfl rfl rfl rfl ?_
 refine RD.done ⟨by kernel_rfl,trivial,?_⟩
 refine sr ?_
 refine RS.q rfl (q02 rfl rfl (q0c _ _ _) rfl) ?_
 refine sd ?_
 refine WPU.condS (t:=(r15 != 0)) rfl (fun h17=>?_) (fun h17=>?_)
 replace hF:=q0a h17 hF
 refine sr ?_
 refine sd ?_
 refine WPU.ret ?_
 refine st ?_
 have hr:=Option.some.inj hF
 subst hr
 exact ⟨.inr rfl,[.int .i64 r15],q1g rfl (q1b),.int .i64 r15,⟨[],0⟩,Nat.le_refl _,Gh.toR (.int .i64 r15) rfl,rfl,BU.h⟩
 replace hF:=q09 h17 hF
 refine st ?_
 refine WPU.skip ?_
 refine st ?_
 obtain ⟨x18,h19,hF⟩:=q00 hF
 obtain ⟨x20,h21,hF⟩:=q00 hF
 obtain ⟨r22,h23,hF⟩:=q00 hF
 refine WPU.drawE Try.tb_ok [] (by kernel_rfl) ?_
 refine RD.q (u:=.isl false (List.map cGDeriv c4)) rfl (q19 und35 rfl rfl rfl) (RD.mv rfl rfl rfl rfl (RD.q (u:=.iptr (xGDeriv x18)) rfl (q1e rfl rfl (q0p cGDeriv und35 (q01 inf37) q17 h19 (q1j x18))) (RD.q (u:=.agg (xGDeriv x18)) rfl (q3a und37 rfl (q01 inf37) rfl rfl) (RD.q (u:=.isl false (List.map cGDeriv c4)) rfl (q19 und35 rfl rfl rfl) (RD.mv rfl rfl rfl rfl (RD.q (u:=.iptr (xGDeriv x20)) rfl (q1e rfl rfl (q0p cGDeriv und35 (q01 inf37) q17 h21 (q1j x20))) (RD.q (u:=.agg (xGDeriv x20)) rfl (q3a und37 rfl (q01 inf37) rfl rfl) ?_)))))))
 refine RD.free (u:=.int .i64 r22) (args:=[.agg (xGDeriv x18),.agg (xGDeriv x20)]) rfl (q0b rfl rfl fn35 hb35 rfl rfl) (fun s=>q47 n x18 x20 r22 h23 s) rfl rfl (RD.as rfl rfl rfl rfl ?_)
 refine RD.done ⟨by kernel_rfl,trivial,?_⟩
 refine st ?_
 refine WPU.ret ?_
 refine st ?_
 have hr:=Option.some.inj hF
 subst hr
 exact ⟨.inr rfl,[.int .i64 r22],q1g rfl (q1b),.int .i64 r22,⟨[],0⟩,Nat.le_refl _,Gh.toR (.int .i64 r22) rfl,rfl,BU.h⟩
def q5j (n:Nat) (p1:Int):Option (GChart×Int) :=
 bindO (cond (decide (p1<1))
  (some true)
  (some (decide (p1 > 32)))) fun b3 =>
 cond b3
  (some ((GChart.mk 0 []),2))
  (some ((GChart.mk p1 []),0))
theorem chart_New_0 (n:Nat) (p1:Int) (r:GChart×Int) (hF:q5j n p1=some r):EvU Try.prog 9 [.int .i64 p1] ⟨[],0⟩ (fun u _=>u = .tup [.agg (cGChart r.1),.int .i64 r.2]∧Bel 0 u):=by
 unfold q5j at hF
 refine EvU.of_body Try.tb_ok fn9 rfl ?_
 refine WPU.ghost (tm':=fr 13 [(0,.int .i64 p1)]) (Gh.start (Nat.le_of_ble_eq_true rfl)) (Nat.zero_le _) ?_
 refine sr ?_
 refine RS.q (u:=.ptr 0 0 0) (σ':=⟨[(0,.row [.int .i64 0,.nils] 24)],1⟩) rfl (q1i inf24 rfl rfl) ?_
 refine sd ?_
 obtain ⟨b3,h4,hF⟩:=q00 hF
 refine WPU.joinK (fun tm σ=>tm=fr 13 [(0,.int .i64 p1),(2,.ptr 0 0 0),(9,.bool b3)]∧σ=⟨[(0,.row [.int .i64 0,.nils] 24)],1⟩) ?_ ?_
 rintro _ _ ⟨rfl,rfl⟩
 refine st ?_
 refine WPU.condS (t:=b3) rfl (fun h5=>?_) (fun h5=>?_)
 replace hF:=q0a h5 hF
 refine sr ?_
 refine RS.q (u:=.agg [.int .i64 0,.nils]) rfl (q7g bd24 rfl rfl rfl) (RS.opn (u:=.junk) (σ':=⟨[(0,.row [.int .i64 0,.nils] 24)],1⟩) rfl (q0h (q01 inf24) rfl rfl rfl rfl rfl rfl rfl rfl) rfl ?_)
 refine sd ?_
 refine WPU.ret ?_
 refine st ?_
 have hr:=Option.some.inj hF
 subst hr
 exact ⟨.inr rfl,[.agg [.int .i64 0,.nils],.int .i64 2],q9i (q0o und24 rfl (q01 inf24) rfl rfl rfl) (q1g rfl (q1b)),.tup [.agg [.int .i64 0,.isl false []],.int .i64 2],⟨[],0⟩,Nat.le_refl _,Gh.trans (Gh.wk (.cons (.tup (.cons (.agg (.cons (.refl _) (.cons (.nil false) .nil))) (.cons (.refl _) .nil))) .nil)) (Gh.toR (.tup [.agg [.int .i64 0,.isl false []],.int .i64 2]) rfl),rfl,BU.h⟩
 replace hF:=q09 h5 hF
 refine st ?_
 refine WPU.skip ?_
 refine sr ?_
 refine RS.q (u:=.agg [.int .i64 p1,.nils]) rfl (q7g bd24 rfl rfl rfl) (RS.opn (u:=.junk) (σ':=⟨[(0,.row [.int .i64 p1,.nils] 24)],1⟩) rfl (q0h (q01 inf24) rfl rfl rfl rfl rfl rfl rfl rfl) rfl ?_)
 refine sd ?_
 refine WPU.ret ?_
 refine st ?_
 have hr:=Option.some.inj hF
 subst hr
 exact ⟨.inr rfl,[.agg [.int .i64 p1,.nils],.int .i64 0],q9i (q0o und24 rfl (q01 inf24) rfl rfl rfl) (q1g rfl (q1b)),.tup [.agg [.int .i64 p1,.isl false []],.int .i64 0],⟨[],0⟩,Nat.le_refl _,Gh.trans (Gh.wk (.cons (.tup (.cons (.agg (.cons (.refl _) (.cons (.nil false) .nil))) (.cons (.refl _) .nil))) .nil)) (Gh.toR (.tup [.agg [.int .i64 p1,.isl false []],.int .i64 0]) rfl),rfl,BU.h⟩
 rcases q0j (decide (p1<1)) with h2 | h2
 replace h4:=q0a h2 h4
 replace h4:=Option.some.inj h4
 subst h4
 refine sr ?_
 refine RS.q rfl (q02 rfl rfl (q1q _ _ _) rfl) (RS.mv rfl rfl rfl rfl ?_)
 repeat refine RS.no (want0 rfl rfl rfl h2) rfl rfl ?_
 refine RS.q (u:=.bool true) rfl (q04 rfl h2 rfl) ?_
 refine sd ?_
 exact ⟨_,_,⟨rfl,rfl⟩,(Nat.zero_le _),Gh.toC (n1:=1) ⟨rfl,rfl,rfl,trivial⟩ rfl (Nat.zero_le _) (by simp)⟩
 replace h4:=q09 h2 h4
 replace h4:=Option.some.inj h4
 subst h4
 refine sr ?_
 refine RS.q rfl (q02 rfl rfl (q1q _ _ _) rfl) (RS.mv rfl rfl rfl rfl (RS.op (want1 rfl rfl rfl h2) (q06 rfl) rfl rfl (RS.op (want1 rfl rfl rfl h2) (q02 rfl rfl (q6a _ _ _) rfl) rfl rfl (RS.q (u:=.bool (decide (p1 > 32))) rfl (q03 rfl h2 rfl) ?_))))
 refine sd ?_
 exact ⟨_,_,⟨rfl,rfl⟩,(Nat.zero_le _),Gh.toC (n1:=1) ⟨rfl,rfl,rfl,trivial⟩ rfl (Nat.zero_le _) (by simp)⟩
theorem q6n (n:Nat) (p1:Int) (r:GChart×Int) (hF:q5j n p1=some r) (σ:Sg):EvU Try.prog 9 [.int .i64 p1] σ (fun u σ'=>u = .tup [.agg (cGChart r.1),.int .i64 r.2]∧σ'=σ) :=
 EvU.pure1C (chart_New_0 n p1 r hF) σ
def qbr (n:Nat) (p1:Int):Option (GChart×Int) :=
 bindO (cond (decide (p1<1))
  (some true)
  (some (decide (p1 > 32)))) fun b3 =>
 cond b3
  (some ((GChart.mk 0 []),2))
  (some ((GChart.mk p1 []),0))
def q63 (n:Nat) (p1:Int) (p2:Int):Option (Int) :=
 cond (decide (p1<p2))
  (some (-1))
  (cond (decide (p1 > p2))
   (some 1)
   (some 0))
def q5r (p1:GDeriv) (p2:GDeriv) (n:Nat)  : Option (Int) :=
 bindO (q63 n (p1.Kids.length:Int) (p2.Kids.length:Int)) fun r26 =>
 some r26
def q4c (p1:GDeriv) (p2:GDeriv) (n:Nat) (self:GDeriv→GDeriv→Option (Int)):Nat→Int→Option (Int)
 | 0,_=>none
 | m1+1,z25 =>
  bindO (cond (decide (z25<(p1.Kids.length:Int)))
   (some (decide (z25<(p2.Kids.length:Int))))
   (some false)) fun b29 =>
  cond b29
   (bindO (idxO p1.Kids z25) fun x32 =>
   bindO (idxO p2.Kids z25) fun x34 =>
   bindO (self x32 x34) fun r36 =>
   cond (r36 != 0)
    (some r36)
    ((q4c p1 p2 n self m1) (IntKind.i64.wrap (z25+1))))
   (q5r p1 p2 n)
def q7s (n:Nat) (self:GDeriv→GDeriv→Option (Int)) (p1:GDeriv) (p2:GDeriv):Option (Int) :=
 cond (p1.From != p2.From)
  (bindO (q63 n p1.From p2.From) fun r4 =>
  some r4)
  (cond (p1.To != p2.To)
   (bindO (q63 n p1.To p2.To) fun r7 =>
   some r7)
   (cond (p1.Kind != p2.Kind)
    (bindO (q63 n p1.Kind p2.Kind) fun r10 =>
    some r10)
    (cond (!bytesEq p1.Name p2.Name)
     (cond (bytesLt p1.Name p2.Name)
      (some (-1))
      (some 1))
     (q4c p1 p2 n self n 0))))
def q37:Nat→GDeriv→GDeriv→Option (Int)
 | 0,_,_=>none
 | n+1,p1,p2=>q7s n (q37 n) p1 p2
def qbt (z7:Int) (rc1:Int→Option (Bool))  : Option (Bool) :=
 rc1 (IntKind.i64.wrap (z7+1))
def q7v (z7:Int) (rc1:Int→Option (Bool)) (x9:GNode) (x11:GNode):Nat→Int→Option (Bool)
 | 0,_=>none
 | m2+1,z25 =>
  cond (decide (z25<(x9.Arcs.length:Int)))
   (bindO (idxO x9.Arcs z25) fun x27 =>
   bindO (idxO x11.Arcs z25) fun x29 =>
   cond (!(eqGArc x27 x29))
    (some false)
    ((q7v z7 rc1 x9 x11 m2) (IntKind.i64.wrap (z25+1))))
   (qbt z7 rc1)
def qbs   : Option (Bool) :=
 some true
def q7u (p1:GFS) (p2:GFS) (n:Nat):Nat→Int→Option (Bool)
 | 0,_=>none
 | m1+1,z7 =>
  cond (decide (z7<(p1.Nodes.length:Int)))
   (bindO (idxO p1.Nodes z7) fun x9 =>
   bindO (idxO p2.Nodes z7) fun x11 =>
   bindO (cond (x9.Typex != x11.Typex)
    (some true)
    (some ((x9.Arcs.length:Int) != (x11.Arcs.length:Int)))) fun b14 =>
   cond b14
    (some false)
    (q7v z7 (q7u p1 p2 n m1) x9 x11 n 0))
   (qbs)
def ref32_SameFS (n:Nat) (p1:GFS) (p2:GFS):Option (Bool) :=
 cond ((p1.Nodes.length:Int) != (p2.Nodes.length:Int))
  (some false)
  (q7u p1 p2 n n 0)
def q43  (z13:Int):Option (Int) :=
 some z13
def q3g (p1:GDeriv) (p2:Int) (self:GDeriv→Int→Option (Int)):Nat→Int→Int→Option (Int)
 | 0,_,_=>none
 | m1+1,z11,z12 =>
  bindO (cond (decide (z12<(p1.Kids.length:Int)))
   (some (decide (z11<p2)))
   (some false)) fun b15 =>
  cond b15
   (bindO (idxO p1.Kids z12) fun x18 =>
   bindO (self x18 (IntKind.i64.wrap (p2 - z11))) fun r20 =>
   (q3g p1 p2 self m1) (IntKind.i64.wrap (z11+r20)) (IntKind.i64.wrap (z12+1)))
   (q43 z11)
def q7e (n:Nat) (self:GDeriv→Int→Option (Int)) (p1:GDeriv) (p2:Int):Option (Int) :=
 q3g p1 p2 self n 1 0
def q2x:Nat→GDeriv→Int→Option (Int)
 | 0,_,_=>none
 | n+1,p1,p2=>q7e n (q2x n) p1 p2
theorem q9h:∀ (n:Nat) (p1:GDeriv) (p2:Int) (r:Int),q2x n p1 p2=some r→EvU Try.prog 33 [.agg (xGDeriv p1),.int .i64 p2] ⟨[],0⟩ (fun u _=>u = .int .i64 r∧Bel 0 u)
 | 0,p1,p2,r,hF=>by cases hF
 | n+1,p1,p2,r,hF=>by
  have ih:=q9h n
  have ihS:∀ (p1:GDeriv) (p2:Int) (r:Int),q2x n p1 p2=some r→∀ σ,EvU Try.prog 33 [.agg (xGDeriv p1),.int .i64 p2] σ (fun u σ'=>u = .int .i64 r∧σ'=σ):=fun p1 p2 r h σ=>EvU.pure1C (ih p1 p2 r h) σ
  unfold q2x q7e at hF
  refine EvU.of_body Try.tb_ok fn33 rfl ?_
  refine WPU.ghost (tm':=fr 31 [(0,.agg (xGDeriv p1)),(1,.int .i64 p2)]) (Gh.start (Nat.le_of_ble_eq_true rfl)) (Nat.zero_le _) ?_
  refine sr ?_
  refine RS.q (u:=.ptr 0 0 0) (σ':=⟨[(0,.row (xGDeriv p1) 37)],1⟩) rfl (q3x rfl rfl rfl) ?_
  refine se ?_
  refine se ?_
  refine sd ?_
  refine WPU.ghost (tm':=fr 31 [(1,.int .i64 p2),(2,.ptr 0 0 0),(5,.int .i64 1),(6,.int .i64 0)]) (Gh.sub ⟨rfl,rfl,rfl,rfl,trivial⟩) (Nat.zero_le _) ?_
  refine WPU.loopK (fun m tm σ=>∃ z11:Int,∃ z12:Int,q3g p1 p2 (q2x n) m z11 z12=some r∧tm=fr 31 [(1,.int .i64 p2),(2,.ptr 0 0 0),(5,.int .i64 z11),(6,.int .i64 z12)]∧σ=⟨[(0,.row (xGDeriv p1) 37)],1⟩) (fun tm σ=>∃ z13:Int,q43 z13=some r∧tm=fr 31 [(5,.int .i64 z13)]∧σ=⟨[(0,.row (xGDeriv p1) 37)],1⟩) n ⟨1,0,hF,rfl,rfl⟩ ?_ ?_
  rintro _ _ ⟨z13,hF,rfl,rfl⟩
  unfold q43 at hF
  refine sr ?_
  refine sd ?_
  refine WPU.ret ?_
  refine st ?_
  have hr:=Option.some.inj hF
  subst hr
  exact ⟨.inr rfl,[.int .i64 z13],q1g rfl (q1b),.int .i64 z13,⟨[],0⟩,Nat.le_refl _,Gh.toR (.int .i64 z13) rfl,rfl,BU.h⟩
  rintro m1 _ _ ⟨z11,z12,hF,rfl,rfl⟩
  rcases m1 with _ | m1
  cases hF
  unfold q3g at hF
  refine st ?_
  obtain ⟨b15,h16,hF⟩:=q00 hF
  refine WPU.joinK (fun tm σ=>tm=fr 31 [(1,.int .i64 p2),(2,.ptr 0 0 0),(5,.int .i64 z11),(6,.int .i64 z12),(16,.bool b15)]∧σ=⟨[(0,.row (xGDeriv p1) 37)],1⟩) ?_ ?_
  rintro _ _ ⟨rfl,rfl⟩
  refine st ?_
  refine WPU.condS (t:=b15) rfl (fun h17=>?_) (fun h17=>?_)
  replace hF:=q0a h17 hF
  refine st ?_
  refine WPU.skip ?_
  refine st ?_
  refine WPU.block ?_
  refine st ?_
  obtain ⟨x18,h19,hF⟩:=q00 hF
  obtain ⟨r20,h21,hF⟩:=q00 hF
  refine sr ?_
  refine RS.q (u:=.ptr 0 0 4) rfl (q07 und37 rfl (q01 inf35) rfl rfl rfl) (RS.q (u:=.isl false (List.map cGDeriv p1.Kids)) rfl (q05 und35 rfl rfl rfl rfl) (RS.mv rfl rfl rfl rfl (RS.q (u:=.iptr (xGDeriv x18)) rfl (q1e rfl rfl (q0p cGDeriv und35 (q01 inf37) q17 h19 (q1j x18))) (RS.q (u:=.agg (xGDeriv x18)) rfl (q3a und37 rfl (q01 inf37) rfl rfl) ?_))))
  repeat refine RS.mv rfl rfl rfl rfl ?_
  refine RS.q rfl (q02 rfl rfl (ix_sub _ _ _) rfl) (RS.call (u:=.int .i64 r20) (args:=[.agg (xGDeriv x18),.int .i64 (IntKind.i64.wrap (p2 - z11))]) rfl (q0b rfl rfl fn33 hb33 rfl rfl) (ihS x18 (IntKind.i64.wrap (p2 - z11)) r20 h21 _) rfl rfl (RS.q rfl (q02 rfl rfl (q35 _ _ _) rfl) ?_))
  refine se ?_
  refine RS.q rfl (q02 rfl rfl (q35 _ _ _) rfl) ?_
  refine sd ?_
  exact ⟨m1,_,_,Nat.lt_succ_self _,⟨(IntKind.i64.wrap (z11+r20)),(IntKind.i64.wrap (z12+1)),hF,rfl,rfl⟩,(Nat.zero_le _),Gh.toC (n1:=1) ⟨rfl,rfl,rfl,rfl,trivial⟩ rfl (Nat.zero_le _) (by simp)⟩
  replace hF:=q09 h17 hF
  refine st ?_
  refine WPU.exit ?_
  refine st ?_
  exact ⟨_,_,⟨z11,hF,rfl,rfl⟩,(Nat.zero_le _),Gh.toC (n1:=1) ⟨rfl,trivial⟩ rfl (Nat.zero_le _) (by simp)⟩
  rcases q0j (decide (z12<(p1.Kids.length:Int))) with h14 | h14
  replace h16:=q0a h14 h16
  replace h16:=Option.some.inj h16
  subst h16
  refine sr ?_
  refine RS.q (u:=.ptr 0 0 4) rfl (q07 und37 rfl (q01 inf35) rfl rfl rfl) (RS.q (u:=.isl false (List.map cGDeriv p1.Kids)) rfl (q05 und35 rfl rfl rfl rfl) (RS.q rfl (q0l rfl rfl rfl (q0e cGDeriv und35)) (RS.q rfl (q02 rfl rfl (q1q _ _ _) rfl) (RS.mv rfl rfl rfl rfl (RS.op (want1 rfl rfl rfl h14) (q06 rfl) rfl rfl (RS.op (want1 rfl rfl rfl h14) (q06 rfl) rfl rfl (RS.op (want1 rfl rfl rfl h14) (q02 rfl rfl (q1q _ _ _) rfl) rfl rfl ?_)))))))
  refine RS.q (u:=.bool (decide (z11<p2))) rfl (q04 rfl h14 rfl) ?_
  refine sd ?_
  exact ⟨_,_,⟨rfl,rfl⟩,(Nat.zero_le _),Gh.toC (n1:=1) ⟨rfl,rfl,rfl,rfl,rfl,trivial⟩ rfl (Nat.zero_le _) (by simp)⟩
  replace h16:=q09 h14 h16
  replace h16:=Option.some.inj h16
  subst h16
  refine sr ?_
  refine RS.q (u:=.ptr 0 0 4) rfl (q07 und37 rfl (q01 inf35) rfl rfl rfl) (RS.q (u:=.isl false (List.map cGDeriv p1.Kids)) rfl (q05 und35 rfl rfl rfl rfl) (RS.q rfl (q0l rfl rfl rfl (q0e cGDeriv und35)) (RS.q rfl (q02 rfl rfl (q1q _ _ _) rfl) (RS.mv rfl rfl rfl rfl ?_))))
  repeat refine RS.no (want0 rfl rfl rfl h14) rfl rfl ?_
  refine RS.q (u:=.bool false) rfl (q03 rfl h14 rfl) ?_
  refine sd ?_
  exact ⟨_,_,⟨rfl,rfl⟩,(Nat.zero_le _),Gh.toC (n1:=1) ⟨rfl,rfl,rfl,rfl,rfl,trivial⟩ rfl (Nat.zero_le _) (by simp)⟩
theorem q6y (n:Nat) (p1:GDeriv) (p2:Int) (r:Int) (hF:q2x n p1 p2=some r) (σ:Sg):EvU Try.prog 33 [.agg (xGDeriv p1),.int .i64 p2] σ (fun u σ'=>u = .int .i64 r∧σ'=σ) :=
 EvU.pure1C (q9h n p1 p2 r hF) σ
def q5e (z6:Int) (rc1:Int→Option (Bool))  : Option (Bool) :=
 rc1 (IntKind.i64.wrap (z6+1))
def q2w (p1:List GEdge) (z6:Int) (rc1:Int→Option (Bool)):Nat→Int→Option (Bool)
 | 0,_=>none
 | m2+1,z24 =>
  bindO (idxO p1 z6) fun x25 =>
  cond (decide (z24<(x25.FS.Nodes.length:Int)))
   (bindO (idxO p1 z6) fun x28 =>
   bindO (idxO x28.FS.Nodes z24) fun x30 =>
   cond (decide ((x30.Arcs.length:Int) > 20))
    (some false)
    ((q2w p1 z6 rc1 m2) (IntKind.i64.wrap (z24+1))))
   (q5e z6 rc1)
def q5d   : Option (Bool) :=
 some true
def q28 (p1:List GEdge) (n:Nat):Nat→Int→Option (Bool)
 | 0,_=>none
 | m1+1,z6 =>
  cond (decide (z6<(p1.length:Int)))
   (bindO (bindO (idxO p1 z6) fun x8 =>
   bindO (q2x n x8.Lex 21) fun r10 =>
   cond (decide (r10 > 20))
    (some true)
    (bindO (idxO p1 z6) fun x13 =>
    cond (decide ((x13.FS.Nodes.length:Int) > 20))
     (some true)
     (bindO (idxO p1 z6) fun x16 =>
     some (decide ((x16.Kids.length:Int) > 10))))) fun b18 =>
   cond b18
    (some false)
    (q2w p1 z6 (q28 p1 n m1) n 0))
   (q5d)
def q4g (n:Nat) (p1:List GEdge) (p2:Int):Option (Bool) :=
 cond (decide ((p1.length:Int) > p2))
  (some false)
  (q28 p1 n n 0)
theorem ref32_Light_0 (n:Nat) (p1:List GEdge) (p2:Int) (r:Bool) (hF:q4g n p1 p2=some r):EvU Try.prog 13 [.isl false (List.map cGEdge p1),.int .i64 p2] ⟨[],0⟩ (fun u _=>u = .bool r∧Bel 0 u):=by
 unfold q4g at hF
 refine EvU.of_body Try.tb_ok fn13 rfl ?_
 refine WPU.ghost (tm':=fr 66 [(0,.isl false (List.map cGEdge p1)),(1,.int .i64 p2)]) (Gh.start (Nat.le_of_ble_eq_true rfl)) (Nat.zero_le _) ?_
 refine sr ?_
 refine se ?_
 refine RS.q rfl (q0l rfl rfl rfl (q0e cGEdge und22)) (RS.mv rfl rfl rfl rfl (RS.q rfl (q02 rfl rfl (q6a _ _ _) rfl) ?_))
 refine sd ?_
 refine WPU.condS (t:=(decide ((p1.length:Int) > p2))) rfl (fun h3=>?_) (fun h3=>?_)
 replace hF:=q0a h3 hF
 refine sr ?_
 refine sd ?_
 refine WPU.ret ?_
 refine st ?_
 have hr:=Option.some.inj hF
 subst hr
 exact ⟨.inr rfl,[.bool false],q1g rfl (q1b),.bool false,⟨[],0⟩,Nat.le_refl _,Gh.toR (.bool false) rfl,rfl,BU.h⟩
 replace hF:=q09 h3 hF
 refine st ?_
 refine WPU.skip ?_
 refine sr ?_
 refine sd ?_
 refine WPU.ghost (tm':=fr 66 [(0,.isl false (List.map cGEdge p1)),(5,.int .i64 0)]) (Gh.sub ⟨rfl,rfl,trivial⟩) (Nat.zero_le _) ?_
 refine WPU.loopK (fun m tm σ=>∃ z6:Int,q28 p1 n m z6=some r∧tm=fr 66 [(0,.isl false (List.map cGEdge p1)),(5,.int .i64 z6)]∧σ=⟨[],0⟩) (fun tm σ=>q5d=some r∧tm=fr 66 []∧σ=⟨[],0⟩) n ⟨0,hF,rfl,rfl⟩ ?_ ?_
 rintro _ _ ⟨hF,rfl,rfl⟩
 unfold q5d at hF
 refine sr ?_
 refine sd ?_
 refine WPU.ret ?_
 refine st ?_
 have hr:=Option.some.inj hF
 subst hr
 exact ⟨.inr rfl,[.bool true],q1g rfl (q1b),.bool true,⟨[],0⟩,Nat.le_refl _,Gh.toR (.bool true) rfl,rfl,BU.h⟩
 rintro m1 _ _ ⟨z6,hF,rfl,rfl⟩
 rcases m1 with _ | m1
 cases hF
 unfold q28 at hF
 refine sr ?_
 repeat refine RS.mv rfl rfl rfl rfl ?_
 refine RS.q rfl (q0l rfl rfl rfl (q0e cGEdge und22)) (RS.q rfl (q02 rfl rfl (q1q _ _ _) rfl) ?_)
 refine sd ?_
 refine WPU.condS (t:=(decide (z6<(p1.length:Int)))) rfl (fun h7=>?_) (fun h7=>?_)
 replace hF:=q0a h7 hF
 refine st ?_
 refine WPU.skip ?_
 refine st ?_
 refine WPU.block ?_
 refine st ?_
 obtain ⟨b18,h19,hF⟩:=q00 hF
 refine WPU.joinK (fun tm σ=>tm=fr 66 [(0,.isl false (List.map cGEdge p1)),(5,.int .i64 z6),(42,.bool b18)]∧σ=⟨[],0⟩) ?_ ?_
 rintro _ _ ⟨rfl,rfl⟩
 refine st ?_
 refine WPU.condS (t:=b18) rfl (fun h20=>?_) (fun h20=>?_)
 replace hF:=q0a h20 hF
 refine sr ?_
 refine sd ?_
 refine WPU.ret ?_
 refine st ?_
 have hr:=Option.some.inj hF
 subst hr
 exact ⟨.inr rfl,[.bool false],q1g rfl (q1b),.bool false,⟨[],0⟩,Nat.le_refl _,Gh.toR (.bool false) rfl,rfl,BU.h⟩
 replace hF:=q09 h20 hF
 refine st ?_
 refine WPU.skip ?_
 refine sr ?_
 refine sd ?_
 refine WPU.ghost (tm':=fr 66 [(0,.isl false (List.map cGEdge p1)),(5,.int .i64 z6),(6,.int .i64 0)]) (Gh.sub ⟨rfl,rfl,rfl,trivial⟩) (Nat.zero_le _) ?_
 refine WPU.loopK (fun m tm σ=>∃ z24:Int,q2w p1 z6 (q28 p1 n m1) m z24=some r∧tm=fr 66 [(0,.isl false (List.map cGEdge p1)),(5,.int .i64 z6),(6,.int .i64 z24)]∧σ=⟨[],0⟩) (fun tm σ=>q5e z6 (q28 p1 n m1)=some r∧tm=fr 66 [(0,.isl false (List.map cGEdge p1)),(5,.int .i64 z6)]∧σ=⟨[],0⟩) n ⟨0,hF,rfl,rfl⟩ ?_ ?_
 rintro _ _ ⟨hF,rfl,rfl⟩
 unfold q5e at hF
 refine sr ?_
 refine RS.q rfl (q02 rfl rfl (q35 _ _ _) rfl) ?_
 refine sd ?_
 exact ⟨m1,_,_,Nat.lt_succ_self _,⟨(IntKind.i64.wrap (z6+1)),hF,rfl,rfl⟩,(Nat.zero_le _),Gh.toC (n1:=0) ⟨rfl,rfl,trivial⟩ rfl (Nat.zero_le _) (by simp)⟩
 rintro m2 _ _ ⟨z24,hF,rfl,rfl⟩
 rcases m2 with _ | m2
 cases hF
 unfold q2w at hF
 refine st ?_
 obtain ⟨x25,h26,hF⟩:=q00 hF
 refine sr ?_
 repeat refine RS.mv rfl rfl rfl rfl ?_
 refine RS.q (u:=.iptr (cGEdge x25)) rfl (q1e rfl rfl (q0p cGEdge und22 (q01 inf42) q0f h26 rfl)) (RS.q (u:=.iptr [.isl false (List.map cGNode x25.FS.Nodes)]) rfl (q4f und42 rfl (q01 inf40) rfl rfl) (RS.q (u:=.iptr [.isl false (List.map cGNode x25.FS.Nodes)]) rfl (q4f und40 rfl (q01 inf38) rfl rfl) (RS.q (u:=.isl false (List.map cGNode x25.FS.Nodes)) rfl (q19 und38 rfl rfl rfl) (RS.q rfl (q0l rfl rfl rfl (q0e cGNode und38)) (RS.q rfl (q02 rfl rfl (q1q _ _ _) rfl) ?_)))))
 refine sd ?_
 refine WPU.condS (t:=(decide (z24<(x25.FS.Nodes.length:Int)))) rfl (fun h27=>?_) (fun h27=>?_)
 replace hF:=q0a h27 hF
 refine st ?_
 refine WPU.skip ?_
 refine st ?_
 refine WPU.block ?_
 refine st ?_
 obtain ⟨x28,h29,hF⟩:=q00 hF
 obtain ⟨x30,h31,hF⟩:=q00 hF
 refine sr ?_
 repeat refine RS.mv rfl rfl rfl rfl ?_
 refine RS.q (u:=.iptr (cGEdge x28)) rfl (q1e rfl rfl (q0p cGEdge und22 (q01 inf42) q0f h29 rfl)) (RS.q (u:=.iptr [.isl false (List.map cGNode x28.FS.Nodes)]) rfl (q4f und42 rfl (q01 inf40) rfl rfl) (RS.q (u:=.iptr [.isl false (List.map cGNode x28.FS.Nodes)]) rfl (q4f und40 rfl (q01 inf38) rfl rfl) (RS.q (u:=.isl false (List.map cGNode x28.FS.Nodes)) rfl (q19 und38 rfl rfl rfl) (RS.mv rfl rfl rfl rfl (RS.q (u:=.iptr (cGNode x30)) rfl (q1e rfl rfl (q0p cGNode und38 (q01 inf62) len_cGNode h31 rfl)) (RS.q (u:=.iptr [.isl false (List.map cGArc x30.Arcs)]) rfl (q4f und62 rfl (q01 inf60) rfl rfl) (RS.q (u:=.isl false (List.map cGArc x30.Arcs)) rfl (q19 und60 rfl rfl rfl) ?_)))))))
 refine RS.q rfl (q0l rfl rfl rfl (q0e cGArc und60)) (RS.q rfl (q02 rfl rfl (q6a _ _ _) rfl) ?_)
 refine sd ?_
 refine WPU.condS (t:=(decide ((x30.Arcs.length:Int) > 20))) rfl (fun h32=>?_) (fun h32=>?_)
 replace hF:=q0a h32 hF
 refine sr ?_
 refine sd ?_
 refine WPU.ret ?_
 refine st ?_
 have hr:=Option.some.inj hF
 subst hr
 exact ⟨.inr rfl,[.bool false],q1g rfl (q1b),.bool false,⟨[],0⟩,Nat.le_refl _,Gh.toR (.bool false) rfl,rfl,BU.h⟩
 replace hF:=q09 h32 hF
 refine st ?_
 refine WPU.skip ?_
 refine sr ?_
 refine RS.q rfl (q02 rfl rfl (q35 _ _ _) rfl) ?_
 refine sd ?_
 exact ⟨m2,_,_,Nat.lt_succ_self _,⟨(IntKind.i64.wrap (z24+1)),hF,rfl,rfl⟩,(Nat.zero_le _),Gh.toC (n1:=0) ⟨rfl,rfl,rfl,trivial⟩ rfl (Nat.zero_le _) (by simp)⟩
 replace hF:=q09 h27 hF
 refine st ?_
 refine WPU.exit ?_
 refine st ?_
 exact ⟨_,_,⟨hF,rfl,rfl⟩,(Nat.zero_le _),Gh.toC (n1:=0) ⟨rfl,rfl,trivial⟩ rfl (Nat.zero_le _) (by simp)⟩
 obtain ⟨x8,h9,h19⟩:=q00 h19
 obtain ⟨r10,h11,h19⟩:=q00 h19
 rcases q0j (decide (r10 > 20)) with h12 | h12
 replace h19:=q0a h12 h19
 replace h19:=Option.some.inj h19
 subst h19
 refine sr ?_
 repeat refine RS.mv rfl rfl rfl rfl ?_
 refine RS.q (u:=.iptr (cGEdge x8)) rfl (q1e rfl rfl (q0p cGEdge und22 (q01 inf42) q0f h9 rfl)) (RS.q (u:=.iptr [.int .i64 x8.Lex.Kind,.str x8.Lex.Name,.int .i64 x8.Lex.From,.int .i64 x8.Lex.To,.isl false (List.map cGDeriv x8.Lex.Kids),.isl false (List.map cGNode x8.FS.Nodes)]) rfl (q4f und42 rfl (q01 inf37) rfl rfl) (RS.q (u:=.agg (xGDeriv x8.Lex)) rfl (q3a und37 rfl (q01 inf37) rfl rfl) (RS.call (u:=.int .i64 r10) (args:=[.agg (xGDeriv x8.Lex),.int .i64 21]) rfl (q0b rfl rfl fn33 hb33 rfl rfl) (q6y n x8.Lex 21 r10 h11 _) rfl rfl (RS.q rfl (q02 rfl rfl (q6a _ _ _) rfl) (RS.mv rfl rfl rfl rfl ?_)))))
 repeat refine RS.no (want0 rfl rfl rfl h12) rfl rfl ?_
 refine RS.q (u:=.bool true) rfl (q04 rfl h12 rfl) (RS.mv rfl rfl rfl rfl ?_)
 repeat refine RS.no (want0 rfl rfl rfl rfl) rfl rfl ?_
 refine RS.q (u:=.bool true) rfl (q04 rfl rfl rfl) ?_
 refine sd ?_
 exact ⟨_,_,⟨rfl,rfl⟩,(Nat.zero_le _),Gh.toC (n1:=0) ⟨rfl,rfl,rfl,trivial⟩ rfl (Nat.zero_le _) (by simp)⟩
 replace h19:=q09 h12 h19
 obtain ⟨x13,h14,h19⟩:=q00 h19
 rcases q0j (decide ((x13.FS.Nodes.length:Int) > 20)) with h15 | h15
 replace h19:=q0a h15 h19
 replace h19:=Option.some.inj h19
 subst h19
 refine sr ?_
 repeat refine RS.mv rfl rfl rfl rfl ?_
 refine RS.q (u:=.iptr (cGEdge x8)) rfl (q1e rfl rfl (q0p cGEdge und22 (q01 inf42) q0f h9 rfl)) (RS.q (u:=.iptr [.int .i64 x8.Lex.Kind,.str x8.Lex.Name,.int .i64 x8.Lex.From,.int .i64 x8.Lex.To,.isl false (List.map cGDeriv x8.Lex.Kids),.isl false (List.map cGNode x8.FS.Nodes)]) rfl (q4f und42 rfl (q01 inf37) rfl rfl) (RS.q (u:=.agg (xGDeriv x8.Lex)) rfl (q3a und37 rfl (q01 inf37) rfl rfl) (RS.call (u:=.int .i64 r10) (args:=[.agg (xGDeriv x8.Lex),.int .i64 21]) rfl (q0b rfl rfl fn33 hb33 rfl rfl) (q6y n x8.Lex 21 r10 h11 _) rfl rfl (RS.q rfl (q02 rfl rfl (q6a _ _ _) rfl) (RS.mv rfl rfl rfl rfl (RS.op (want1 rfl rfl rfl h12) (q06 rfl) rfl rfl (RS.op (want1 rfl rfl rfl h12) (q06 rfl) rfl rfl ?_)))))))
 refine RS.op (u:=.iptr (cGEdge x13)) (want1 rfl rfl rfl h12) (q1e rfl rfl (q0p cGEdge und22 (q01 inf42) q0f h14 rfl)) rfl rfl (RS.op (u:=.iptr [.isl false (List.map cGNode x13.FS.Nodes)]) (want1 rfl rfl rfl h12) (q4f und42 rfl (q01 inf40) rfl rfl) rfl rfl (RS.op (u:=.iptr [.isl false (List.map cGNode x13.FS.Nodes)]) (want1 rfl rfl rfl h12) (q4f und40 rfl (q01 inf38) rfl rfl) rfl rfl (RS.op (u:=.isl false (List.map cGNode x13.FS.Nodes)) (want1 rfl rfl rfl h12) (q19 und38 rfl rfl rfl) rfl rfl (RS.op (want1 rfl rfl rfl h12) (q0l rfl rfl rfl (q0e cGNode und38)) rfl rfl (RS.op (want1 rfl rfl rfl h12) (q02 rfl rfl (q6a _ _ _) rfl) rfl rfl (RS.q (u:=.bool (decide ((x13.FS.Nodes.length:Int) > 20))) rfl (q03 rfl h12 rfl) (RS.mv rfl rfl rfl rfl ?_)))))))
 repeat refine RS.no (want0 rfl rfl rfl h15) rfl rfl ?_
 refine RS.q (u:=.bool true) rfl (q04 rfl h15 rfl) ?_
 refine sd ?_
 exact ⟨_,_,⟨rfl,rfl⟩,(Nat.zero_le _),Gh.toC (n1:=0) ⟨rfl,rfl,rfl,trivial⟩ rfl (Nat.zero_le _) (by simp)⟩
 replace h19:=q09 h15 h19
 obtain ⟨x16,h17,h19⟩:=q00 h19
 replace h19:=Option.some.inj h19
 subst h19
 refine sr ?_
 repeat refine RS.mv rfl rfl rfl rfl ?_
 refine RS.q (u:=.iptr (cGEdge x8)) rfl (q1e rfl rfl (q0p cGEdge und22 (q01 inf42) q0f h9 rfl)) (RS.q (u:=.iptr [.int .i64 x8.Lex.Kind,.str x8.Lex.Name,.int .i64 x8.Lex.From,.int .i64 x8.Lex.To,.isl false (List.map cGDeriv x8.Lex.Kids),.isl false (List.map cGNode x8.FS.Nodes)]) rfl (q4f und42 rfl (q01 inf37) rfl rfl) (RS.q (u:=.agg (xGDeriv x8.Lex)) rfl (q3a und37 rfl (q01 inf37) rfl rfl) (RS.call (u:=.int .i64 r10) (args:=[.agg (xGDeriv x8.Lex),.int .i64 21]) rfl (q0b rfl rfl fn33 hb33 rfl rfl) (q6y n x8.Lex 21 r10 h11 _) rfl rfl (RS.q rfl (q02 rfl rfl (q6a _ _ _) rfl) (RS.mv rfl rfl rfl rfl (RS.op (want1 rfl rfl rfl h12) (q06 rfl) rfl rfl (RS.op (want1 rfl rfl rfl h12) (q06 rfl) rfl rfl ?_)))))))
 refine RS.op (u:=.iptr (cGEdge x13)) (want1 rfl rfl rfl h12) (q1e rfl rfl (q0p cGEdge und22 (q01 inf42) q0f h14 rfl)) rfl rfl (RS.op (u:=.iptr [.isl false (List.map cGNode x13.FS.Nodes)]) (want1 rfl rfl rfl h12) (q4f und42 rfl (q01 inf40) rfl rfl) rfl rfl (RS.op (u:=.iptr [.isl false (List.map cGNode x13.FS.Nodes)]) (want1 rfl rfl rfl h12) (q4f und40 rfl (q01 inf38) rfl rfl) rfl rfl (RS.op (u:=.isl false (List.map cGNode x13.FS.Nodes)) (want1 rfl rfl rfl h12) (q19 und38 rfl rfl rfl) rfl rfl (RS.op (want1 rfl rfl rfl h12) (q0l rfl rfl rfl (q0e cGNode und38)) rfl rfl (RS.op (want1 rfl rfl rfl h12) (q02 rfl rfl (q6a _ _ _) rfl) rfl rfl (RS.q (u:=.bool (decide ((x13.FS.Nodes.length:Int) > 20))) rfl (q03 rfl h12 rfl) (RS.mv rfl rfl rfl rfl ?_)))))))
 refine RS.op (want1 rfl rfl rfl h15) (q06 rfl) rfl rfl (RS.op (want1 rfl rfl rfl h15) (q06 rfl) rfl rfl (RS.op (u:=.iptr (cGEdge x16)) (want1 rfl rfl rfl h15) (q1e rfl rfl (q0p cGEdge und22 (q01 inf42) q0f h17 rfl)) rfl rfl (RS.op (u:=.iptr [.isl false (List.map (cI .i64) x16.Kids),.int .i64 x16.Lex.Kind,.str x16.Lex.Name,.int .i64 x16.Lex.From,.int .i64 x16.Lex.To,.isl false (List.map cGDeriv x16.Lex.Kids),.isl false (List.map cGNode x16.FS.Nodes)]) (want1 rfl rfl rfl h15) (q4f und42 rfl (q01 inf34) rfl rfl) rfl rfl (RS.op (u:=.isl false (List.map (cI .i64) x16.Kids)) (want1 rfl rfl rfl h15) (q19 und34 rfl rfl rfl) rfl rfl (RS.op (want1 rfl rfl rfl h15) (q0l rfl rfl rfl (q0e (cI .i64) und34)) rfl rfl (RS.op (want1 rfl rfl rfl h15) (q02 rfl rfl (q6a _ _ _) rfl) rfl rfl (RS.q (u:=.bool (decide ((x16.Kids.length:Int) > 10))) rfl (q03 rfl h15 rfl) ?_)))))))
 refine sd ?_
 exact ⟨_,_,⟨rfl,rfl⟩,(Nat.zero_le _),Gh.toC (n1:=0) ⟨rfl,rfl,rfl,trivial⟩ rfl (Nat.zero_le _) (by simp)⟩
 replace hF:=q09 h7 hF
 refine st ?_
 refine WPU.exit ?_
 refine st ?_
 exact ⟨_,_,⟨hF,rfl,rfl⟩,(Nat.zero_le _),Gh.toC (n1:=0) trivial rfl (Nat.zero_le _) (by simp)⟩
theorem ref32_Light_ok (n:Nat) (p1:List GEdge) (p2:Int) (r:Bool) (hF:q4g n p1 p2=some r) (σ:Sg):EvU Try.prog 13 [.isl false (List.map cGEdge p1),.int .i64 p2] σ (fun u σ'=>u = .bool r∧σ'=σ) :=
 EvU.pure1C (ref32_Light_0 n p1 p2 r hF) σ
def q64 (n:Nat) (self:GDeriv→Option (Bool)) (p1:GDeriv):Option (Bool) :=
 cond (p1.Kind == 0)
  (some ((p1.Kids.length:Int) == 0))
  (cond (p1.Kind == 1)
   (bindO (cond ((p1.Kids.length:Int) == 1)
    (bindO (idxO p1.Kids 0) fun x5 =>
    cond (x5.From == p1.From)
     (bindO (idxO p1.Kids 0) fun x8 =>
     cond (x8.To == p1.To)
      (bindO (idxO p1.Kids 0) fun x11 =>
      bindO (self x11) fun r13 =>
      some r13)
      (some false))
     (some false))
    (some false)) fun b15 =>
   some b15)
   (some false))
def q2s:Nat→GDeriv→Option (Bool)
 | 0,_=>none
 | n+1,p1=>q64 n (q2s n) p1
theorem q7k:∀ (n:Nat) (p1:GDeriv) (r:Bool),q2s n p1=some r→EvU Try.prog 50 [.agg (xGDeriv p1)] ⟨[],0⟩ (fun u _=>u = .bool r∧Bel 0 u)
 | 0,p1,r,hF=>by cases hF
 | n+1,p1,r,hF=>by
  have ih:=q7k n
  have ihS:∀ (p1:GDeriv) (r:Bool),q2s n p1=some r→∀ σ,EvU Try.prog 50 [.agg (xGDeriv p1)] σ (fun u σ'=>u = .bool r∧σ'=σ):=fun p1 r h σ=>EvU.pure1C (ih p1 r h) σ
  unfold q2s q64 at hF
  refine EvU.of_body Try.tb_ok fn50 rfl ?_
  refine WPU.ghost (tm':=fr 44 [(0,.agg (xGDeriv p1))]) (Gh.start (Nat.le_of_ble_eq_true rfl)) (Nat.zero_le _) ?_
  refine sr ?_
  refine RS.q (u:=.ptr 0 0 0) (σ':=⟨[(0,.row (xGDeriv p1) 37)],1⟩) rfl (q3x rfl rfl rfl) ?_
  refine se ?_
  refine RS.q (u:=.ptr 0 0 0) rfl (q07 und37 rfl (q01 inf3) rfl rfl rfl) (RS.q (u:=.int .i64 p1.Kind) rfl (q05 und3 rfl rfl rfl rfl) ?_)
  refine sd ?_
  refine WPU.block ?_
  refine sr ?_
  refine RS.q rfl (q02 rfl rfl (q0d _ _ _) rfl) ?_
  refine sd ?_
  refine WPU.condS (t:=(p1.Kind == 0)) rfl (fun h2=>?_) (fun h2=>?_)
  replace hF:=q0a h2 hF
  refine sr ?_
  refine RS.q (u:=.ptr 0 0 4) rfl (q07 und37 rfl (q01 inf35) rfl rfl rfl) (RS.q (u:=.isl false (List.map cGDeriv p1.Kids)) rfl (q05 und35 rfl rfl rfl rfl) (RS.q rfl (q0l rfl rfl rfl (q0e cGDeriv und35)) (RS.q rfl (q02 rfl rfl (q0d _ _ _) rfl) ?_)))
  refine sd ?_
  refine WPU.ret ?_
  refine st ?_
  have hr:=Option.some.inj hF
  subst hr
  exact ⟨.inr rfl,[.bool ((p1.Kids.length:Int) == 0)],q1g rfl (q1b),.bool ((p1.Kids.length:Int) == 0),⟨[],0⟩,Nat.le_refl _,Gh.toR (.bool ((p1.Kids.length:Int) == 0)) rfl,rfl,BU.h⟩
  replace hF:=q09 h2 hF
  refine sr ?_
  refine RS.q rfl (q02 rfl rfl (q0d _ _ _) rfl) ?_
  refine sd ?_
  refine WPU.condS (t:=(p1.Kind == 1)) rfl (fun h3=>?_) (fun h3=>?_)
  replace hF:=q0a h3 hF
  refine st ?_
  obtain ⟨b15,h16,hF⟩:=q00 hF
  refine WPU.joinK (fun tm σ=>tm=fr 44 [(2,.bool b15)]∧σ=⟨[(0,.row (xGDeriv p1) 37)],1⟩) ?_ ?_
  rintro _ _ ⟨rfl,rfl⟩
  refine st ?_
  refine WPU.ret ?_
  refine st ?_
  have hr:=Option.some.inj hF
  subst hr
  exact ⟨.inr rfl,[.bool b15],q1g rfl (q1b),.bool b15,⟨[],0⟩,Nat.le_refl _,Gh.toR (.bool b15) rfl,rfl,BU.h⟩
  rcases q0j ((p1.Kids.length:Int) == 1) with h4 | h4
  replace h16:=q0a h4 h16
  obtain ⟨x5,h6,h16⟩:=q00 h16
  rcases q0j (x5.From == p1.From) with h7 | h7
  replace h16:=q0a h7 h16
  obtain ⟨x8,h9,h16⟩:=q00 h16
  rcases q0j (x8.To == p1.To) with h10 | h10
  replace h16:=q0a h10 h16
  obtain ⟨x11,h12,h16⟩:=q00 h16
  obtain ⟨r13,h14,h16⟩:=q00 h16
  replace h16:=Option.some.inj h16
  subst h16
  refine WPU.drawE Try.tb_ok [] (by kernel_rfl) ?_
  refine RD.q (u:=.ptr 0 0 4) rfl (q07 und37 rfl (q01 inf35) rfl rfl rfl) (RD.q (u:=.isl false (List.map cGDeriv p1.Kids)) rfl (q05 und35 rfl rfl rfl rfl) (RD.q rfl (q0l rfl rfl rfl (q0e cGDeriv und35)) (RD.q rfl (q02 rfl rfl (q0d _ _ _) rfl) (RD.mv rfl rfl rfl rfl (RD.look (u:=.ptr 0 0 4) (want1 rfl rfl rfl h4) (q07 und37 rfl (q01 inf35) rfl rfl rfl) rfl rfl (RD.look (u:=.isl false (List.map cGDeriv p1.Kids)) (want1 rfl rfl rfl h4) (q05 und35 rfl rfl rfl rfl) rfl rfl (RD.look (u:=.iptr (xGDeriv x5)) (want1 rfl rfl rfl h4) (q1e rfl rfl (q0p cGDeriv und35 (q01 inf37) q17 h6 (q1j x5))) rfl rfl ?_)))))))
  refine RD.look (u:=.iptr [.int .i64 x5.From,.int .i64 x5.To,.isl false (List.map cGDeriv x5.Kids)]) (want1 rfl rfl rfl h4) (q4f und37 rfl (q01 inf3) rfl rfl) rfl rfl (RD.look (u:=.int .i64 x5.From) (want1 rfl rfl rfl h4) (q19 und3 rfl rfl rfl) rfl rfl (RD.look (u:=.ptr 0 0 2) (want1 rfl rfl rfl h4) (q07 und37 rfl (q01 inf3) rfl rfl rfl) rfl rfl (RD.look (u:=.int .i64 p1.From) (want1 rfl rfl rfl h4) (q05 und3 rfl rfl rfl rfl) rfl rfl (RD.look (want1 rfl rfl rfl h4) (q02 rfl rfl (q0d _ _ _) rfl) rfl rfl (RD.q (u:=.bool (x5.From == p1.From)) rfl (q04 rfl h4 rfl) (RD.mv rfl rfl rfl rfl (RD.look (u:=.ptr 0 0 4) (want1 rfl rfl rfl h7) (q07 und37 rfl (q01 inf35) rfl rfl rfl) rfl rfl ?_)))))))
  refine RD.look (u:=.isl false (List.map cGDeriv p1.Kids)) (want1 rfl rfl rfl h7) (q05 und35 rfl rfl rfl rfl) rfl rfl (RD.look (u:=.iptr (xGDeriv x8)) (want1 rfl rfl rfl h7) (q1e rfl rfl (q0p cGDeriv und35 (q01 inf37) q17 h9 (q1j x8))) rfl rfl (RD.look (u:=.iptr [.int .i64 x8.To,.isl false (List.map cGDeriv x8.Kids)]) (want1 rfl rfl rfl h7) (q4f und37 rfl (q01 inf3) rfl rfl) rfl rfl (RD.look (u:=.int .i64 x8.To) (want1 rfl rfl rfl h7) (q19 und3 rfl rfl rfl) rfl rfl (RD.look (u:=.ptr 0 0 3) (want1 rfl rfl rfl h7) (q07 und37 rfl (q01 inf3) rfl rfl rfl) rfl rfl (RD.look (u:=.int .i64 p1.To) (want1 rfl rfl rfl h7) (q05 und3 rfl rfl rfl rfl) rfl rfl (RD.look (want1 rfl rfl rfl h7) (q02 rfl rfl (q0d _ _ _) rfl) rfl rfl (RD.q (u:=.bool (x8.To == p1.To)) rfl (q04 rfl h7 rfl) ?_)))))))
  refine RD.mv rfl rfl rfl rfl (RD.look (u:=.ptr 0 0 4) (want1 rfl rfl rfl h10) (q07 und37 rfl (q01 inf35) rfl rfl rfl) rfl rfl (RD.look (u:=.isl false (List.map cGDeriv p1.Kids)) (want1 rfl rfl rfl h10) (q05 und35 rfl rfl rfl rfl) rfl rfl (RD.look (u:=.iptr (xGDeriv x11)) (want1 rfl rfl rfl h10) (q1e rfl rfl (q0p cGDeriv und35 (q01 inf37) q17 h12 (q1j x11))) rfl rfl (RD.look (u:=.agg (xGDeriv x11)) (want1 rfl rfl rfl h10) (q3a und37 rfl (q01 inf37) rfl rfl) rfl rfl (RD.free (u:=.bool r13) (args:=[.agg (xGDeriv x11)]) (want1 rfl rfl rfl h10) (q0b rfl rfl fn50 hb50 rfl rfl) (fun s=>ihS x11 r13 h14 s) rfl rfl (RD.q (u:=.bool r13) rfl (q04 rfl h10 rfl) (RD.as rfl rfl rfl rfl ?_)))))))
  refine RD.done ⟨by kernel_rfl,trivial,?_⟩
  refine st ?_
  exact ⟨_,_,⟨rfl,rfl⟩,(Nat.zero_le _),Gh.toC (n1:=1) ⟨rfl,trivial⟩ rfl (Nat.zero_le _) (by simp)⟩
  replace h16:=q09 h10 h16
  replace h16:=Option.some.inj h16
  subst h16
  refine WPU.drawE Try.tb_ok [] (by kernel_rfl) ?_
  refine RD.q (u:=.ptr 0 0 4) rfl (q07 und37 rfl (q01 inf35) rfl rfl rfl) (RD.q (u:=.isl false (List.map cGDeriv p1.Kids)) rfl (q05 und35 rfl rfl rfl rfl) (RD.q rfl (q0l rfl rfl rfl (q0e cGDeriv und35)) (RD.q rfl (q02 rfl rfl (q0d _ _ _) rfl) (RD.mv rfl rfl rfl rfl (RD.look (u:=.ptr 0 0 4) (want1 rfl rfl rfl h4) (q07 und37 rfl (q01 inf35) rfl rfl rfl) rfl rfl (RD.look (u:=.isl false (List.map cGDeriv p1.Kids)) (want1 rfl rfl rfl h4) (q05 und35 rfl rfl rfl rfl) rfl rfl (RD.look (u:=.iptr (xGDeriv x5)) (want1 rfl rfl rfl h4) (q1e rfl rfl (q0p cGDeriv und35 (q01 inf37) q17 h6 (q1j x5))) rfl rfl ?_)))))))
  refine RD.look (u:=.iptr [.int .i64 x5.From,.int .i64 x5.To,.isl false (List.map cGDeriv x5.Kids)]) (want1 rfl rfl rfl h4) (q4f und37 rfl (q01 inf3) rfl rfl) rfl rfl (RD.look (u:=.int .i64 x5.From) (want1 rfl rfl rfl h4) (q19 und3 rfl rfl rfl) rfl rfl (RD.look (u:=.ptr 0 0 2) (want1 rfl rfl rfl h4) (q07 und37 rfl (q01 inf3) rfl rfl rfl) rfl rfl (RD.look (u:=.int .i64 p1.From) (want1 rfl rfl rfl h4) (q05 und3 rfl rfl rfl rfl) rfl rfl (RD.look (want1 rfl rfl rfl h4) (q02 rfl rfl (q0d _ _ _) rfl) rfl rfl (RD.q (u:=.bool (x5.From == p1.From)) rfl (q04 rfl h4 rfl) (RD.mv rfl rfl rfl rfl (RD.look (u:=.ptr 0 0 4) (want1 rfl rfl rfl h7) (q07 und37 rfl (q01 inf35) rfl rfl rfl) rfl rfl ?_)))))))
  refine RD.look (u:=.isl false (List.map cGDeriv p1.Kids)) (want1 rfl rfl rfl h7) (q05 und35 rfl rfl rfl rfl) rfl rfl (RD.look (u:=.iptr (xGDeriv x8)) (want1 rfl rfl rfl h7) (q1e rfl rfl (q0p cGDeriv und35 (q01 inf37) q17 h9 (q1j x8))) rfl rfl (RD.look (u:=.iptr [.int .i64 x8.To,.isl false (List.map cGDeriv x8.Kids)]) (want1 rfl rfl rfl h7) (q4f und37 rfl (q01 inf3) rfl rfl) rfl rfl (RD.look (u:=.int .i64 x8.To) (want1 rfl rfl rfl h7) (q19 und3 rfl rfl rfl) rfl rfl (RD.look (u:=.ptr 0 0 3) (want1 rfl rfl rfl h7) (q07 und37 rfl (q01 inf3) rfl rfl rfl) rfl rfl (RD.look (u:=.int .i64 p1.To) (want1 rfl rfl rfl h7) (q05 und3 rfl rfl rfl rfl) rfl rfl (RD.look (want1 rfl rfl rfl h7) (q02 rfl rfl (q0d _ _ _) rfl) rfl rfl (RD.q (u:=.bool (x8.To == p1.To)) rfl (q04 rfl h7 rfl) ?_)))))))
  refine RD.mv rfl rfl rfl rfl ?_
  repeat refine RD.no (want0 rfl rfl rfl h10) rfl rfl ?_
  refine RD.q (u:=.bool false) rfl (q03 rfl h10 rfl) (RD.as rfl rfl rfl rfl ?_)
  refine RD.done ⟨by kernel_rfl,trivial,?_⟩
  refine st ?_
  exact ⟨_,_,⟨rfl,rfl⟩,(Nat.zero_le _),Gh.toC (n1:=1) ⟨rfl,trivial⟩ rfl (Nat.zero_le _) (by simp)⟩
  replace h16:=q09 h7 h16
  replace h16:=Option.some.inj h16
  subst h16
  refine WPU.drawE Try.tb_ok [] (by kernel_rfl) ?_
  refine RD.q (u:=.ptr 0 0 4) rfl (q07 und37 rfl (q01 inf35) rfl rfl rfl) (RD.q (u:=.isl false (List.map cGDeriv p1.Kids)) rfl (q05 und35 rfl rfl rfl rfl) (RD.q rfl (q0l rfl rfl rfl (q0e cGDeriv und35)) (RD.q rfl (q02 rfl rfl (q0d _ _ _) rfl) (RD.mv rfl rfl rfl rfl (RD.look (u:=.ptr 0 0 4) (want1 rfl rfl rfl h4) (q07 und37 rfl (q01 inf35) rfl rfl rfl) rfl rfl (RD.look (u:=.isl false (List.map cGDeriv p1.Kids)) (want1 rfl rfl rfl h4) (q05 und35 rfl rfl rfl rfl) rfl rfl (RD.look (u:=.iptr (xGDeriv x5)) (want1 rfl rfl rfl h4) (q1e rfl rfl (q0p cGDeriv und35 (q01 inf37) q17 h6 (q1j x5))) rfl rfl ?_)))))))
  refine RD.look (u:=.iptr [.int .i64 x5.From,.int .i64 x5.To,.isl false (List.map cGDeriv x5.Kids)]) (want1 rfl rfl rfl h4) (q4f und37 rfl (q01 inf3) rfl rfl) rfl rfl (RD.look (u:=.int .i64 x5.From) (want1 rfl rfl rfl h4) (q19 und3 rfl rfl rfl) rfl rfl (RD.look (u:=.ptr 0 0 2) (want1 rfl rfl rfl h4) (q07 und37 rfl (q01 inf3) rfl rfl rfl) rfl rfl (RD.look (u:=.int .i64 p1.From) (want1 rfl rfl rfl h4) (q05 und3 rfl rfl rfl rfl) rfl rfl (RD.look (want1 rfl rfl rfl h4) (q02 rfl rfl (q0d _ _ _) rfl) rfl rfl (RD.q (u:=.bool (x5.From == p1.From)) rfl (q04 rfl h4 rfl) (RD.mv rfl rfl rfl rfl ?_))))))
  repeat refine RD.no (want0 rfl rfl rfl h7) rfl rfl ?_
  refine RD.q (u:=.bool false) rfl (q03 rfl h7 rfl) (RD.mv rfl rfl rfl rfl ?_)
  repeat refine RD.no (want0 rfl rfl rfl rfl) rfl rfl ?_
  refine RD.q (u:=.bool false) rfl (q03 rfl rfl rfl) (RD.as rfl rfl rfl rfl ?_)
  refine RD.done ⟨by kernel_rfl,trivial,?_⟩
  refine st ?_
  exact ⟨_,_,⟨rfl,rfl⟩,(Nat.zero_le _),Gh.toC (n1:=1) ⟨rfl,trivial⟩ rfl (Nat.zero_le _) (by simp)⟩
  replace h16:=q09 h4 h16
  replace h16:=Option.some.inj h16
  subst h16
  refine WPU.drawE Try.tb_ok [] (by kernel_rfl) ?_
  refine RD.q (u:=.ptr 0 0 4) rfl (q07 und37 rfl (q01 inf35) rfl rfl rfl) (RD.q (u:=.isl false (List.map cGDeriv p1.Kids)) rfl (q05 und35 rfl rfl rfl rfl) (RD.q rfl (q0l rfl rfl rfl (q0e cGDeriv und35)) (RD.q rfl (q02 rfl rfl (q0d _ _ _) rfl) (RD.mv rfl rfl rfl rfl ?_))))
  repeat refine RD.no (want0 rfl rfl rfl h4) rfl rfl ?_
  refine RD.q (u:=.bool false) rfl (q03 rfl h4 rfl) (RD.mv rfl rfl rfl rfl ?_)
  repeat refine RD.no (want0 rfl rfl rfl rfl) rfl rfl ?_
  refine RD.q (u:=.bool false) rfl (q03 rfl rfl rfl) (RD.mv rfl rfl rfl rfl ?_)
  repeat refine RD.no (want0 rfl rfl rfl rfl) rfl rfl ?_
  refine RD.q (u:=.bool false) rfl (q03 rfl rfl rfl) (RD.as rfl rfl rfl rfl ?_)
  refine RD.done ⟨by kernel_rfl,trivial,?_⟩
  refine st ?_
  exact ⟨_,_,⟨rfl,rfl⟩,(Nat.zero_le _),Gh.toC (n1:=1) ⟨rfl,trivial⟩ rfl (Nat.zero_le _) (by simp)⟩
  replace hF:=q09 h3 hF
  refine st ?_
  refine WPU.skip ?_
  refine sr ?_
  refine sd ?_
  refine WPU.ret ?_
  refine st ?_
  have hr:=Option.some.inj hF
  subst hr
  exact ⟨.inr rfl,[.bool false],q1g rfl (q1b),.bool false,⟨[],0⟩,Nat.le_refl _,Gh.toR (.bool false) rfl,rfl,BU.h⟩
theorem q46 (n:Nat) (p1:GDeriv) (r:Bool) (hF:q2s n p1=some r) (σ:Sg):EvU Try.prog 50 [.agg (xGDeriv p1)] σ (fun u σ'=>u = .bool r∧σ'=σ) :=
 EvU.pure1C (q7k n p1 r hF) σ
def q60 (n:Nat) (p1:GDeriv):Option (Bool) :=
 bindO (cond (p1.Kind == 0)
  (cond (bytesEq p1.Name [])
   (cond (p1.From == 0)
    (cond (p1.To == 0)
     (some ((p1.Kids.length:Int) == 0))
     (some false))
    (some false))
   (some false))
  (some false)) fun b6 =>
 some b6
theorem chart_zero_0 (n:Nat) (p1:GDeriv) (r:Bool) (hF:q60 n p1=some r):EvU Try.prog 51 [.agg (xGDeriv p1)] ⟨[],0⟩ (fun u _=>u = .bool r∧Bel 0 u):=by
 unfold q60 at hF
 refine EvU.of_body Try.tb_ok fn51 rfl ?_
 refine WPU.ghost (tm':=fr 27 [(0,.agg (xGDeriv p1))]) (Gh.start (Nat.le_of_ble_eq_true rfl)) (Nat.zero_le _) ?_
 refine sr ?_
 refine RS.q (u:=.ptr 0 0 0) (σ':=⟨[(0,.row (xGDeriv p1) 37)],1⟩) rfl (q3x rfl rfl rfl) ?_
 refine sd ?_
 obtain ⟨b6,h7,hF⟩:=q00 hF
 refine WPU.joinK (fun tm σ=>tm=fr 27 [(2,.bool b6)]∧σ=⟨[(0,.row (xGDeriv p1) 37)],1⟩) ?_ ?_
 rintro _ _ ⟨rfl,rfl⟩
 refine st ?_
 refine WPU.ret ?_
 refine st ?_
 have hr:=Option.some.inj hF
 subst hr
 exact ⟨.inr rfl,[.bool b6],q1g rfl (q1b),.bool b6,⟨[],0⟩,Nat.le_refl _,Gh.toR (.bool b6) rfl,rfl,BU.h⟩
 rcases q0j (p1.Kind == 0) with h2 | h2
 replace h7:=q0a h2 h7
 rcases q0j (bytesEq p1.Name []) with h3 | h3
 replace h7:=q0a h3 h7
 rcases q0j (p1.From == 0) with h4 | h4
 replace h7:=q0a h4 h7
 rcases q0j (p1.To == 0) with h5 | h5
 replace h7:=q0a h5 h7
 replace h7:=Option.some.inj h7
 subst h7
 refine sr ?_
 refine RS.q (u:=.ptr 0 0 0) rfl (q07 und37 rfl (q01 inf3) rfl rfl rfl) (RS.q (u:=.int .i64 p1.Kind) rfl (q05 und3 rfl rfl rfl rfl) (RS.q rfl (q02 rfl rfl (q0d _ _ _) rfl) (RS.mv rfl rfl rfl rfl (RS.op (u:=.ptr 0 0 1) (want1 rfl rfl rfl h2) (q07 und37 rfl (q01 inf9) rfl rfl rfl) rfl rfl (RS.op (u:=.str p1.Name) (want1 rfl rfl rfl h2) (q05 und9 rfl rfl rfl rfl) rfl rfl (RS.op (u:=.bool (bytesEq p1.Name [])) (want1 rfl rfl rfl h2) (q30 rfl rfl rfl rfl) rfl rfl (RS.q (u:=.bool (bytesEq p1.Name [])) rfl (q04 rfl h2 rfl) ?_)))))))
 refine RS.mv rfl rfl rfl rfl (RS.op (u:=.ptr 0 0 2) (want1 rfl rfl rfl h3) (q07 und37 rfl (q01 inf3) rfl rfl rfl) rfl rfl (RS.op (u:=.int .i64 p1.From) (want1 rfl rfl rfl h3) (q05 und3 rfl rfl rfl rfl) rfl rfl (RS.op (want1 rfl rfl rfl h3) (q02 rfl rfl (q0d _ _ _) rfl) rfl rfl (RS.q (u:=.bool (p1.From == 0)) rfl (q04 rfl h3 rfl) (RS.mv rfl rfl rfl rfl (RS.op (u:=.ptr 0 0 3) (want1 rfl rfl rfl h4) (q07 und37 rfl (q01 inf3) rfl rfl rfl) rfl rfl (RS.op (u:=.int .i64 p1.To) (want1 rfl rfl rfl h4) (q05 und3 rfl rfl rfl rfl) rfl rfl ?_)))))))
 refine RS.op (want1 rfl rfl rfl h4) (q02 rfl rfl (q0d _ _ _) rfl) rfl rfl (RS.q (u:=.bool (p1.To == 0)) rfl (q04 rfl h4 rfl) (RS.mv rfl rfl rfl rfl (RS.op (u:=.ptr 0 0 4) (want1 rfl rfl rfl h5) (q07 und37 rfl (q01 inf35) rfl rfl rfl) rfl rfl (RS.op (u:=.isl false (List.map cGDeriv p1.Kids)) (want1 rfl rfl rfl h5) (q05 und35 rfl rfl rfl rfl) rfl rfl (RS.op (want1 rfl rfl rfl h5) (q0l rfl rfl rfl (q0e cGDeriv und35)) rfl rfl (RS.op (want1 rfl rfl rfl h5) (q02 rfl rfl (q0d _ _ _) rfl) rfl rfl (RS.q (u:=.bool ((p1.Kids.length:Int) == 0)) rfl (q04 rfl h5 rfl) ?_)))))))
 refine sd ?_
 exact ⟨_,_,⟨rfl,rfl⟩,(Nat.zero_le _),Gh.toC (n1:=1) ⟨rfl,trivial⟩ rfl (Nat.zero_le _) (by simp)⟩
 replace h7:=q09 h5 h7
 replace h7:=Option.some.inj h7
 subst h7
 refine sr ?_
 refine RS.q (u:=.ptr 0 0 0) rfl (q07 und37 rfl (q01 inf3) rfl rfl rfl) (RS.q (u:=.int .i64 p1.Kind) rfl (q05 und3 rfl rfl rfl rfl) (RS.q rfl (q02 rfl rfl (q0d _ _ _) rfl) (RS.mv rfl rfl rfl rfl (RS.op (u:=.ptr 0 0 1) (want1 rfl rfl rfl h2) (q07 und37 rfl (q01 inf9) rfl rfl rfl) rfl rfl (RS.op (u:=.str p1.Name) (want1 rfl rfl rfl h2) (q05 und9 rfl rfl rfl rfl) rfl rfl (RS.op (u:=.bool (bytesEq p1.Name [])) (want1 rfl rfl rfl h2) (q30 rfl rfl rfl rfl) rfl rfl (RS.q (u:=.bool (bytesEq p1.Name [])) rfl (q04 rfl h2 rfl) ?_)))))))
 refine RS.mv rfl rfl rfl rfl (RS.op (u:=.ptr 0 0 2) (want1 rfl rfl rfl h3) (q07 und37 rfl (q01 inf3) rfl rfl rfl) rfl rfl (RS.op (u:=.int .i64 p1.From) (want1 rfl rfl rfl h3) (q05 und3 rfl rfl rfl rfl) rfl rfl (RS.op (want1 rfl rfl rfl h3) (q02 rfl rfl (q0d _ _ _) rfl) rfl rfl (RS.q (u:=.bool (p1.From == 0)) rfl (q04 rfl h3 rfl) (RS.mv rfl rfl rfl rfl (RS.op (u:=.ptr 0 0 3) (want1 rfl rfl rfl h4) (q07 und37 rfl (q01 inf3) rfl rfl rfl) rfl rfl (RS.op (u:=.int .i64 p1.To) (want1 rfl rfl rfl h4) (q05 und3 rfl rfl rfl rfl) rfl rfl ?_)))))))
 refine RS.op (want1 rfl rfl rfl h4) (q02 rfl rfl (q0d _ _ _) rfl) rfl rfl (RS.q (u:=.bool (p1.To == 0)) rfl (q04 rfl h4 rfl) (RS.mv rfl rfl rfl rfl ?_))
 repeat refine RS.no (want0 rfl rfl rfl h5) rfl rfl ?_
 refine RS.q (u:=.bool false) rfl (q03 rfl h5 rfl) ?_
 refine sd ?_
 exact ⟨_,_,⟨rfl,rfl⟩,(Nat.zero_le _),Gh.toC (n1:=1) ⟨rfl,trivial⟩ rfl (Nat.zero_le _) (by simp)⟩
 replace h7:=q09 h4 h7
 replace h7:=Option.some.inj h7
 subst h7
 refine sr ?_
 refine RS.q (u:=.ptr 0 0 0) rfl (q07 und37 rfl (q01 inf3) rfl rfl rfl) (RS.q (u:=.int .i64 p1.Kind) rfl (q05 und3 rfl rfl rfl rfl) (RS.q rfl (q02 rfl rfl (q0d _ _ _) rfl) (RS.mv rfl rfl rfl rfl (RS.op (u:=.ptr 0 0 1) (want1 rfl rfl rfl h2) (q07 und37 rfl (q01 inf9) rfl rfl rfl) rfl rfl (RS.op (u:=.str p1.Name) (want1 rfl rfl rfl h2) (q05 und9 rfl rfl rfl rfl) rfl rfl (RS.op (u:=.bool (bytesEq p1.Name [])) (want1 rfl rfl rfl h2) (q30 rfl rfl rfl rfl) rfl rfl (RS.q (u:=.bool (bytesEq p1.Name [])) rfl (q04 rfl h2 rfl) ?_)))))))
 refine RS.mv rfl rfl rfl rfl (RS.op (u:=.ptr 0 0 2) (want1 rfl rfl rfl h3) (q07 und37 rfl (q01 inf3) rfl rfl rfl) rfl rfl (RS.op (u:=.int .i64 p1.From) (want1 rfl rfl rfl h3) (q05 und3 rfl rfl rfl rfl) rfl rfl (RS.op (want1 rfl rfl rfl h3) (q02 rfl rfl (q0d _ _ _) rfl) rfl rfl (RS.q (u:=.bool (p1.From == 0)) rfl (q04 rfl h3 rfl) (RS.mv rfl rfl rfl rfl ?_)))))
 repeat refine RS.no (want0 rfl rfl rfl h4) rfl rfl ?_
 refine RS.q (u:=.bool false) rfl (q03 rfl h4 rfl) (RS.mv rfl rfl rfl rfl ?_)
 repeat refine RS.no (want0 rfl rfl rfl rfl) rfl rfl ?_
 refine RS.q (u:=.bool false) rfl (q03 rfl rfl rfl) ?_
 refine sd ?_
 exact ⟨_,_,⟨rfl,rfl⟩,(Nat.zero_le _),Gh.toC (n1:=1) ⟨rfl,trivial⟩ rfl (Nat.zero_le _) (by simp)⟩
 replace h7:=q09 h3 h7
 replace h7:=Option.some.inj h7
 subst h7
 refine sr ?_
 refine RS.q (u:=.ptr 0 0 0) rfl (q07 und37 rfl (q01 inf3) rfl rfl rfl) (RS.q (u:=.int .i64 p1.Kind) rfl (q05 und3 rfl rfl rfl rfl) (RS.q rfl (q02 rfl rfl (q0d _ _ _) rfl) (RS.mv rfl rfl rfl rfl (RS.op (u:=.ptr 0 0 1) (want1 rfl rfl rfl h2) (q07 und37 rfl (q01 inf9) rfl rfl rfl) rfl rfl (RS.op (u:=.str p1.Name) (want1 rfl rfl rfl h2) (q05 und9 rfl rfl rfl rfl) rfl rfl (RS.op (u:=.bool (bytesEq p1.Name [])) (want1 rfl rfl rfl h2) (q30 rfl rfl rfl rfl) rfl rfl (RS.q (u:=.bool (bytesEq p1.Name [])) rfl (q04 rfl h2 rfl) ?_)))))))
 refine RS.mv rfl rfl rfl rfl ?_
 repeat refine RS.no (want0 rfl rfl rfl h3) rfl rfl ?_
 refine RS.q (u:=.bool false) rfl (q03 rfl h3 rfl) (RS.mv rfl rfl rfl rfl ?_)
 repeat refine RS.no (want0 rfl rfl rfl rfl) rfl rfl ?_
 refine RS.q (u:=.bool false) rfl (q03 rfl rfl rfl) (RS.mv rfl rfl rfl rfl ?_)
 repeat refine RS.no (want0 rfl rfl rfl rfl) rfl rfl ?_
 refine RS.q (u:=.bool false) rfl (q03 rfl rfl rfl) ?_
 refine sd ?_
 exact ⟨_,_,⟨rfl,rfl⟩,(Nat.zero_le _),Gh.toC (n1:=1) ⟨rfl,trivial⟩ rfl (Nat.zero_le _) (by simp)⟩
 replace h7:=q09 h2 h7
 replace h7:=Option.some.inj h7
 subst h7
 refine sr ?_
 refine RS.q (u:=.ptr 0 0 0) rfl (q07 und37 rfl (q01 inf3) rfl rfl rfl) (RS.q (u:=.int .i64 p1.Kind) rfl (q05 und3 rfl rfl rfl rfl) (RS.q rfl (q02 rfl rfl (q0d _ _ _) rfl) (RS.mv rfl rfl rfl rfl ?_)))
 repeat refine RS.no (want0 rfl rfl rfl h2) rfl rfl ?_
 refine RS.q (u:=.bool false) rfl (q03 rfl h2 rfl) (RS.mv rfl rfl rfl rfl ?_)
 repeat refine RS.no (want0 rfl rfl rfl rfl) rfl rfl ?_
 refine RS.q (u:=.bool false) rfl (q03 rfl rfl rfl) (RS.mv rfl rfl rfl rfl ?_)
 repeat refine RS.no (want0 rfl rfl rfl rfl) rfl rfl ?_
 refine RS.q (u:=.bool false) rfl (q03 rfl rfl rfl) (RS.mv rfl rfl rfl rfl ?_)
 repeat refine RS.no (want0 rfl rfl rfl rfl) rfl rfl ?_
 refine RS.q (u:=.bool false) rfl (q03 rfl rfl rfl) ?_
 refine sd ?_
 exact ⟨_,_,⟨rfl,rfl⟩,(Nat.zero_le _),Gh.toC (n1:=1) ⟨rfl,trivial⟩ rfl (Nat.zero_le _) (by simp)⟩
theorem q76 (n:Nat) (p1:GDeriv) (r:Bool) (hF:q60 n p1=some r) (σ:Sg):EvU Try.prog 51 [.agg (xGDeriv p1)] σ (fun u σ'=>u = .bool r∧σ'=σ) :=
 EvU.pure1C (chart_zero_0 n p1 r hF) σ
def q32 (p2:GEdge) (z41:Int) (z43:Int):Option (Bool) :=
 bindO (cond (z41 == p2.To)
  (cond (p2.Unary == z43)
   (some (decide (z43≤2)))
   (some false))
  (some false)) fun b46 =>
 some b46
def q4r (p1:GChart) (p2:GEdge) (z41:Int):Option (Bool) :=
 cond ((p2.Kids.length:Int) == 1)
  (bindO (idxO p2.Kids 0) fun x48 =>
  bindO (idxO p1.Edges x48) fun x50 =>
  q32 p2 z41 (IntKind.i64.wrap (x50.Unary+1)))
  (q32 p2 z41 0)
def q33 (p1:GChart) (p2:GEdge):Nat→Int→Int→Option (Bool)
 | 0,_,_=>none
 | m1+1,z39,z40 =>
  cond (decide (z40<(p2.Kids.length:Int)))
   (bindO (idxO p2.Kids z40) fun x53 =>
   bindO (cond (decide (x53<0))
    (some true)
    (cond (decide (x53 ≥ (p1.Edges.length:Int)))
     (some true)
     (bindO (idxO p1.Edges x53) fun x57 =>
     some (x57.From != z39)))) fun b59 =>
   cond b59
    (some false)
    (bindO (idxO p1.Edges x53) fun x62 =>
    (q33 p1 p2 m1) x62.To (IntKind.i64.wrap (z40+1))))
   (q4r p1 p2 z39)
def q4k (n:Nat) (p1:GChart) (p2:GEdge):Option (Bool) :=
 cond (p2.Kind == 1)
  (bindO (cond ((p2.Kids.length:Int) == 0)
   (cond (p2.Unary == 0)
    (bindO (q2s n p2.Lex) fun r6 =>
    cond r6
     (cond (p2.Lex.From == p2.From)
      (cond (p2.Lex.To == p2.To)
       (some (bytesEq p2.Name p2.Lex.Name))
       (some false))
      (some false))
     (some false))
    (some false))
   (some false)) fun b11 =>
  some b11)
  (bindO (cond (bytesEq p2.Name [])
   (some true)
   (bindO (q60 n p2.Lex) fun r14 =>
   cond (!r14)
    (some true)
    (cond ((p2.Kids.length:Int) == 0)
     (some true)
     (some (decide ((p2.Kids.length:Int) > 2)))))) fun b18 =>
  cond b18
   (some false)
   (q33 p1 p2 n p2.From 0))
theorem chart_formed_0 (n:Nat) (p1:GChart) (p2:GEdge) (r:Bool) (hF:q4k n p1 p2=some r):EvU Try.prog 34 [.agg (cGChart p1),.agg (cGEdge p2)] ⟨[],0⟩ (fun u _=>u = .bool r∧Bel 0 u):=by
 unfold q4k at hF
 refine EvU.of_body Try.tb_ok fn34 rfl ?_
 refine WPU.ghost (tm':=fr 134 [(0,.agg (cGChart p1)),(1,.agg (cGEdge p2))]) (Gh.start (Nat.le_of_ble_eq_true rfl)) (Nat.zero_le _) ?_
 refine sr ?_
 refine RS.q (u:=.ptr 0 0 0) (σ':=⟨[(0,.row (cGChart p1) 24)],1⟩) rfl (q3x rfl rfl rfl) (RS.q (u:=.ptr 1 0 0) (σ':=⟨[(1,.row (cGEdge p2) 42),(0,.row (cGChart p1) 24)],2⟩) rfl (q3x rfl rfl rfl) ?_)
 refine se ?_
 refine RS.q (u:=.ptr 1 0 3) rfl (q07 und42 rfl (q01 inf3) rfl rfl rfl) (RS.q (u:=.int .i64 p2.Kind) rfl (q05 und3 rfl rfl rfl rfl) (RS.q rfl (q02 rfl rfl (q0d _ _ _) rfl) ?_))
 refine sd ?_
 refine WPU.condS (t:=(p2.Kind == 1)) rfl (fun h3=>?_) (fun h3=>?_)
 replace hF:=q0a h3 hF
 refine st ?_
 obtain ⟨b11,h12,hF⟩:=q00 hF
 refine WPU.joinK (fun tm σ=>tm=fr 134 [(4,.bool b11)]∧σ=⟨[(1,.row (cGEdge p2) 42),(0,.row (cGChart p1) 24)],2⟩) ?_ ?_
 rintro _ _ ⟨rfl,rfl⟩
 refine st ?_
 refine WPU.ret ?_
 refine st ?_
 have hr:=Option.some.inj hF
 subst hr
 exact ⟨.inr rfl,[.bool b11],q1g rfl (q1b),.bool b11,⟨[],0⟩,Nat.le_refl _,Gh.toR (.bool b11) rfl,rfl,BU.h⟩
 rcases q0j ((p2.Kids.length:Int) == 0) with h4 | h4
 replace h12:=q0a h4 h12
 rcases q0j (p2.Unary == 0) with h5 | h5
 replace h12:=q0a h5 h12
 obtain ⟨r6,h7,h12⟩:=q00 h12
 rcases q0j r6 with h8 | h8
 replace h12:=q0a h8 h12
 rcases q0j (p2.Lex.From == p2.From) with h9 | h9
 replace h12:=q0a h9 h12
 rcases q0j (p2.Lex.To == p2.To) with h10 | h10
 replace h12:=q0a h10 h12
 replace h12:=Option.some.inj h12
 subst h12
 refine sr ?_
 refine RS.q (u:=.ptr 1 0 5) rfl (q07 und42 rfl (q01 inf34) rfl rfl rfl) (RS.q (u:=.isl false (List.map (cI .i64) p2.Kids)) rfl (q05 und34 rfl rfl rfl rfl) (RS.q rfl (q0l rfl rfl rfl (q0e (cI .i64) und34)) (RS.q rfl (q02 rfl rfl (q0d _ _ _) rfl) (RS.mv rfl rfl rfl rfl (RS.op (u:=.ptr 1 0 2) (want1 rfl rfl rfl h4) (q07 und42 rfl (q01 inf3) rfl rfl rfl) rfl rfl (RS.op (u:=.int .i64 p2.Unary) (want1 rfl rfl rfl h4) (q05 und3 rfl rfl rfl rfl) rfl rfl (RS.op (want1 rfl rfl rfl h4) (q02 rfl rfl (q0d _ _ _) rfl) rfl rfl ?_)))))))
 refine RS.q (u:=.bool (p2.Unary == 0)) rfl (q04 rfl h4 rfl) (RS.mv rfl rfl rfl rfl (RS.op (u:=.ptr 1 0 6) (want1 rfl rfl rfl h5) (q07 und42 rfl (q01 inf37) rfl rfl rfl) rfl rfl (RS.op (u:=.agg (xGDeriv p2.Lex)) (want1 rfl rfl rfl h5) (q0o und37 rfl (q01 inf37) rfl rfl rfl) rfl rfl (RS.call (u:=.bool r6) (args:=[.agg (xGDeriv p2.Lex)]) (want1 rfl rfl rfl h5) (q0b rfl rfl fn50 hb50 rfl rfl) (q46 n p2.Lex r6 h7 _) rfl rfl (RS.q (u:=.bool r6) rfl (q04 rfl h5 rfl) (RS.mv rfl rfl rfl rfl (RS.op (u:=.ptr 1 0 6) (want1 rfl rfl rfl h8) (q07 und42 rfl (q01 inf37) rfl rfl rfl) rfl rfl ?_)))))))
 refine RS.op (u:=.ptr 1 0 8) (want1 rfl rfl rfl h8) (q07 und37 rfl (q01 inf3) rfl rfl rfl) rfl rfl (RS.op (u:=.int .i64 p2.Lex.From) (want1 rfl rfl rfl h8) (q05 und3 rfl rfl rfl rfl) rfl rfl (RS.op (u:=.ptr 1 0 0) (want1 rfl rfl rfl h8) (q07 und42 rfl (q01 inf3) rfl rfl rfl) rfl rfl (RS.op (u:=.int .i64 p2.From) (want1 rfl rfl rfl h8) (q05 und3 rfl rfl rfl rfl) rfl rfl (RS.op (want1 rfl rfl rfl h8) (q02 rfl rfl (q0d _ _ _) rfl) rfl rfl (RS.q (u:=.bool (p2.Lex.From == p2.From)) rfl (q04 rfl h8 rfl) (RS.mv rfl rfl rfl rfl (RS.op (u:=.ptr 1 0 6) (want1 rfl rfl rfl h9) (q07 und42 rfl (q01 inf37) rfl rfl rfl) rfl rfl ?_)))))))
 refine RS.op (u:=.ptr 1 0 9) (want1 rfl rfl rfl h9) (q07 und37 rfl (q01 inf3) rfl rfl rfl) rfl rfl (RS.op (u:=.int .i64 p2.Lex.To) (want1 rfl rfl rfl h9) (q05 und3 rfl rfl rfl rfl) rfl rfl (RS.op (u:=.ptr 1 0 1) (want1 rfl rfl rfl h9) (q07 und42 rfl (q01 inf3) rfl rfl rfl) rfl rfl (RS.op (u:=.int .i64 p2.To) (want1 rfl rfl rfl h9) (q05 und3 rfl rfl rfl rfl) rfl rfl (RS.op (want1 rfl rfl rfl h9) (q02 rfl rfl (q0d _ _ _) rfl) rfl rfl (RS.q (u:=.bool (p2.Lex.To == p2.To)) rfl (q04 rfl h9 rfl) (RS.mv rfl rfl rfl rfl (RS.op (u:=.ptr 1 0 4) (want1 rfl rfl rfl h10) (q07 und42 rfl (q01 inf9) rfl rfl rfl) rfl rfl ?_)))))))
 refine RS.op (u:=.str p2.Name) (want1 rfl rfl rfl h10) (q05 und9 rfl rfl rfl rfl) rfl rfl (RS.op (u:=.ptr 1 0 6) (want1 rfl rfl rfl h10) (q07 und42 rfl (q01 inf37) rfl rfl rfl) rfl rfl (RS.op (u:=.ptr 1 0 7) (want1 rfl rfl rfl h10) (q07 und37 rfl (q01 inf9) rfl rfl rfl) rfl rfl (RS.op (u:=.str p2.Lex.Name) (want1 rfl rfl rfl h10) (q05 und9 rfl rfl rfl rfl) rfl rfl (RS.op (u:=.bool (bytesEq p2.Name p2.Lex.Name)) (want1 rfl rfl rfl h10) (q30 rfl rfl rfl rfl) rfl rfl (RS.q (u:=.bool (bytesEq p2.Name p2.Lex.Name)) rfl (q04 rfl h10 rfl) ?_)))))
 refine sd ?_
 exact ⟨_,_,⟨rfl,rfl⟩,(Nat.zero_le _),Gh.toC (n1:=2) ⟨rfl,trivial⟩ rfl (Nat.zero_le _) (by simp)⟩
 replace h12:=q09 h10 h12
 replace h12:=Option.some.inj h12
 subst h12
 refine sr ?_
 refine RS.q (u:=.ptr 1 0 5) rfl (q07 und42 rfl (q01 inf34) rfl rfl rfl) (RS.q (u:=.isl false (List.map (cI .i64) p2.Kids)) rfl (q05 und34 rfl rfl rfl rfl) (RS.q rfl (q0l rfl rfl rfl (q0e (cI .i64) und34)) (RS.q rfl (q02 rfl rfl (q0d _ _ _) rfl) (RS.mv rfl rfl rfl rfl (RS.op (u:=.ptr 1 0 2) (want1 rfl rfl rfl h4) (q07 und42 rfl (q01 inf3) rfl rfl rfl) rfl rfl (RS.op (u:=.int .i64 p2.Unary) (want1 rfl rfl rfl h4) (q05 und3 rfl rfl rfl rfl) rfl rfl (RS.op (want1 rfl rfl rfl h4) (q02 rfl rfl (q0d _ _ _) rfl) rfl rfl ?_)))))))
 refine RS.q (u:=.bool (p2.Unary == 0)) rfl (q04 rfl h4 rfl) (RS.mv rfl rfl rfl rfl (RS.op (u:=.ptr 1 0 6) (want1 rfl rfl rfl h5) (q07 und42 rfl (q01 inf37) rfl rfl rfl) rfl rfl (RS.op (u:=.agg (xGDeriv p2.Lex)) (want1 rfl rfl rfl h5) (q0o und37 rfl (q01 inf37) rfl rfl rfl) rfl rfl (RS.call (u:=.bool r6) (args:=[.agg (xGDeriv p2.Lex)]) (want1 rfl rfl rfl h5) (q0b rfl rfl fn50 hb50 rfl rfl) (q46 n p2.Lex r6 h7 _) rfl rfl (RS.q (u:=.bool r6) rfl (q04 rfl h5 rfl) (RS.mv rfl rfl rfl rfl (RS.op (u:=.ptr 1 0 6) (want1 rfl rfl rfl h8) (q07 und42 rfl (q01 inf37) rfl rfl rfl) rfl rfl ?_)))))))
 refine RS.op (u:=.ptr 1 0 8) (want1 rfl rfl rfl h8) (q07 und37 rfl (q01 inf3) rfl rfl rfl) rfl rfl (RS.op (u:=.int .i64 p2.Lex.From) (want1 rfl rfl rfl h8) (q05 und3 rfl rfl rfl rfl) rfl rfl (RS.op (u:=.ptr 1 0 0) (want1 rfl rfl rfl h8) (q07 und42 rfl (q01 inf3) rfl rfl rfl) rfl rfl (RS.op (u:=.int .i64 p2.From) (want1 rfl rfl rfl h8) (q05 und3 rfl rfl rfl rfl) rfl rfl (RS.op (want1 rfl rfl rfl h8) (q02 rfl rfl (q0d _ _ _) rfl) rfl rfl (RS.q (u:=.bool (p2.Lex.From == p2.From)) rfl (q04 rfl h8 rfl) (RS.mv rfl rfl rfl rfl (RS.op (u:=.ptr 1 0 6) (want1 rfl rfl rfl h9) (q07 und42 rfl (q01 inf37) rfl rfl rfl) rfl rfl ?_)))))))
 refine RS.op (u:=.ptr 1 0 9) (want1 rfl rfl rfl h9) (q07 und37 rfl (q01 inf3) rfl rfl rfl) rfl rfl (RS.op (u:=.int .i64 p2.Lex.To) (want1 rfl rfl rfl h9) (q05 und3 rfl rfl rfl rfl) rfl rfl (RS.op (u:=.ptr 1 0 1) (want1 rfl rfl rfl h9) (q07 und42 rfl (q01 inf3) rfl rfl rfl) rfl rfl (RS.op (u:=.int .i64 p2.To) (want1 rfl rfl rfl h9) (q05 und3 rfl rfl rfl rfl) rfl rfl (RS.op (want1 rfl rfl rfl h9) (q02 rfl rfl (q0d _ _ _) rfl) rfl rfl (RS.q (u:=.bool (p2.Lex.To == p2.To)) rfl (q04 rfl h9 rfl) (RS.mv rfl rfl rfl rfl ?_))))))
 repeat refine RS.no (want0 rfl rfl rfl h10) rfl rfl ?_
 refine RS.q (u:=.bool false) rfl (q03 rfl h10 rfl) ?_
 refine sd ?_
 exact ⟨_,_,⟨rfl,rfl⟩,(Nat.zero_le _),Gh.toC (n1:=2) ⟨rfl,trivial⟩ rfl (Nat.zero_le _) (by simp)⟩
 replace h12:=q09 h9 h12
 replace h12:=Option.some.inj h12
 subst h12
 refine sr ?_
 refine RS.q (u:=.ptr 1 0 5) rfl (q07 und42 rfl (q01 inf34) rfl rfl rfl) (RS.q (u:=.isl false (List.map (cI .i64) p2.Kids)) rfl (q05 und34 rfl rfl rfl rfl) (RS.q rfl (q0l rfl rfl rfl (q0e (cI .i64) und34)) (RS.q rfl (q02 rfl rfl (q0d _ _ _) rfl) (RS.mv rfl rfl rfl rfl (RS.op (u:=.ptr 1 0 2) (want1 rfl rfl rfl h4) (q07 und42 rfl (q01 inf3) rfl rfl rfl) rfl rfl (RS.op (u:=.int .i64 p2.Unary) (want1 rfl rfl rfl h4) (q05 und3 rfl rfl rfl rfl) rfl rfl (RS.op (want1 rfl rfl rfl h4) (q02 rfl rfl (q0d _ _ _) rfl) rfl rfl ?_)))))))
 refine RS.q (u:=.bool (p2.Unary == 0)) rfl (q04 rfl h4 rfl) (RS.mv rfl rfl rfl rfl (RS.op (u:=.ptr 1 0 6) (want1 rfl rfl rfl h5) (q07 und42 rfl (q01 inf37) rfl rfl rfl) rfl rfl (RS.op (u:=.agg (xGDeriv p2.Lex)) (want1 rfl rfl rfl h5) (q0o und37 rfl (q01 inf37) rfl rfl rfl) rfl rfl (RS.call (u:=.bool r6) (args:=[.agg (xGDeriv p2.Lex)]) (want1 rfl rfl rfl h5) (q0b rfl rfl fn50 hb50 rfl rfl) (q46 n p2.Lex r6 h7 _) rfl rfl (RS.q (u:=.bool r6) rfl (q04 rfl h5 rfl) (RS.mv rfl rfl rfl rfl (RS.op (u:=.ptr 1 0 6) (want1 rfl rfl rfl h8) (q07 und42 rfl (q01 inf37) rfl rfl rfl) rfl rfl ?_)))))))
 refine RS.op (u:=.ptr 1 0 8) (want1 rfl rfl rfl h8) (q07 und37 rfl (q01 inf3) rfl rfl rfl) rfl rfl (RS.op (u:=.int .i64 p2.Lex.From) (want1 rfl rfl rfl h8) (q05 und3 rfl rfl rfl rfl) rfl rfl (RS.op (u:=.ptr 1 0 0) (want1 rfl rfl rfl h8) (q07 und42 rfl (q01 inf3) rfl rfl rfl) rfl rfl (RS.op (u:=.int .i64 p2.From) (want1 rfl rfl rfl h8) (q05 und3 rfl rfl rfl rfl) rfl rfl (RS.op (want1 rfl rfl rfl h8) (q02 rfl rfl (q0d _ _ _) rfl) rfl rfl (RS.q (u:=.bool (p2.Lex.From == p2.From)) rfl (q04 rfl h8 rfl) (RS.mv rfl rfl rfl rfl ?_))))))
 repeat refine RS.no (want0 rfl rfl rfl h9) rfl rfl ?_
 refine RS.q (u:=.bool false) rfl (q03 rfl h9 rfl) (RS.mv rfl rfl rfl rfl ?_)
 repeat refine RS.no (want0 rfl rfl rfl rfl) rfl rfl ?_
 refine RS.q (u:=.bool false) rfl (q03 rfl rfl rfl) ?_
 refine sd ?_
 exact ⟨_,_,⟨rfl,rfl⟩,(Nat.zero_le _),Gh.toC (n1:=2) ⟨rfl,trivial⟩ rfl (Nat.zero_le _) (by simp)⟩
 replace h12:=q09 h8 h12
 replace h12:=Option.some.inj h12
 subst h12
 refine sr ?_
 refine RS.q (u:=.ptr 1 0 5) rfl (q07 und42 rfl (q01 inf34) rfl rfl rfl) (RS.q (u:=.isl false (List.map (cI .i64) p2.Kids)) rfl (q05 und34 rfl rfl rfl rfl) (RS.q rfl (q0l rfl rfl rfl (q0e (cI .i64) und34)) (RS.q rfl (q02 rfl rfl (q0d _ _ _) rfl) (RS.mv rfl rfl rfl rfl (RS.op (u:=.ptr 1 0 2) (want1 rfl rfl rfl h4) (q07 und42 rfl (q01 inf3) rfl rfl rfl) rfl rfl (RS.op (u:=.int .i64 p2.Unary) (want1 rfl rfl rfl h4) (q05 und3 rfl rfl rfl rfl) rfl rfl (RS.op (want1 rfl rfl rfl h4) (q02 rfl rfl (q0d _ _ _) rfl) rfl rfl ?_)))))))
 refine RS.q (u:=.bool (p2.Unary == 0)) rfl (q04 rfl h4 rfl) (RS.mv rfl rfl rfl rfl (RS.op (u:=.ptr 1 0 6) (want1 rfl rfl rfl h5) (q07 und42 rfl (q01 inf37) rfl rfl rfl) rfl rfl (RS.op (u:=.agg (xGDeriv p2.Lex)) (want1 rfl rfl rfl h5) (q0o und37 rfl (q01 inf37) rfl rfl rfl) rfl rfl (RS.call (u:=.bool r6) (args:=[.agg (xGDeriv p2.Lex)]) (want1 rfl rfl rfl h5) (q0b rfl rfl fn50 hb50 rfl rfl) (q46 n p2.Lex r6 h7 _) rfl rfl (RS.q (u:=.bool r6) rfl (q04 rfl h5 rfl) (RS.mv rfl rfl rfl rfl ?_))))))
 repeat refine RS.no (want0 rfl rfl rfl h8) rfl rfl ?_
 refine RS.q (u:=.bool false) rfl (q03 rfl h8 rfl) (RS.mv rfl rfl rfl rfl ?_)
 repeat refine RS.no (want0 rfl rfl rfl rfl) rfl rfl ?_
 refine RS.q (u:=.bool false) rfl (q03 rfl rfl rfl) (RS.mv rfl rfl rfl rfl ?_)
 repeat refine RS.no (want0 rfl rfl rfl rfl) rfl rfl ?_
 refine RS.q (u:=.bool false) rfl (q03 rfl rfl rfl) ?_
 refine sd ?_
 exact ⟨_,_,⟨rfl,rfl⟩,(Nat.zero_le _),Gh.toC (n1:=2) ⟨rfl,trivial⟩ rfl (Nat.zero_le _) (by simp)⟩
 replace h12:=q09 h5 h12
 replace h12:=Option.some.inj h12
 subst h12
 refine sr ?_
 refine RS.q (u:=.ptr 1 0 5) rfl (q07 und42 rfl (q01 inf34) rfl rfl rfl) (RS.q (u:=.isl false (List.map (cI .i64) p2.Kids)) rfl (q05 und34 rfl rfl rfl rfl) (RS.q rfl (q0l rfl rfl rfl (q0e (cI .i64) und34)) (RS.q rfl (q02 rfl rfl (q0d _ _ _) rfl) (RS.mv rfl rfl rfl rfl (RS.op (u:=.ptr 1 0 2) (want1 rfl rfl rfl h4) (q07 und42 rfl (q01 inf3) rfl rfl rfl) rfl rfl (RS.op (u:=.int .i64 p2.Unary) (want1 rfl rfl rfl h4) (q05 und3 rfl rfl rfl rfl) rfl rfl (RS.op (want1 rfl rfl rfl h4) (q02 rfl rfl (q0d _ _ _) rfl) rfl rfl ?_)))))))
 refine RS.q (u:=.bool (p2.Unary == 0)) rfl (q04 rfl h4 rfl) (RS.mv rfl rfl rfl rfl ?_)
 repeat refine RS.no (want0 rfl rfl rfl h5) rfl rfl ?_
 refine RS.q (u:=.bool false) rfl (q03 rfl h5 rfl) (RS.mv rfl rfl rfl rfl ?_)
 repeat refine RS.no (want0 rfl rfl rfl rfl) rfl rfl ?_
 refine RS.q (u:=.bool false) rfl (q03 rfl rfl rfl) (RS.mv rfl rfl rfl rfl ?_)
 repeat refine RS.no (want0 rfl rfl rfl rfl) rfl rfl ?_
 refine RS.q (u:=.bool false) rfl (q03 rfl rfl rfl) (RS.mv rfl rfl rfl rfl ?_)
 repeat refine RS.no (want0 rfl rfl rfl rfl) rfl rfl ?_
 refine RS.q (u:=.bool false) rfl (q03 rfl rfl rfl) ?_
 refine sd ?_
 exact ⟨_,_,⟨rfl,rfl⟩,(Nat.zero_le _),Gh.toC (n1:=2) ⟨rfl,trivial⟩ rfl (Nat.zero_le _) (by simp)⟩
 replace h12:=q09 h4 h12
 replace h12:=Option.some.inj h12
 subst h12
 refine sr ?_
 refine RS.q (u:=.ptr 1 0 5) rfl (q07 und42 rfl (q01 inf34) rfl rfl rfl) (RS.q (u:=.isl false (List.map (cI .i64) p2.Kids)) rfl (q05 und34 rfl rfl rfl rfl) (RS.q rfl (q0l rfl rfl rfl (q0e (cI .i64) und34)) (RS.q rfl (q02 rfl rfl (q0d _ _ _) rfl) (RS.mv rfl rfl rfl rfl ?_))))
 repeat refine RS.no (want0 rfl rfl rfl h4) rfl rfl ?_
 refine RS.q (u:=.bool false) rfl (q03 rfl h4 rfl) (RS.mv rfl rfl rfl rfl ?_)
 repeat refine RS.no (want0 rfl rfl rfl rfl) rfl rfl ?_
 refine RS.q (u:=.bool false) rfl (q03 rfl rfl rfl) (RS.mv rfl rfl rfl rfl ?_)
 repeat refine RS.no (want0 rfl rfl rfl rfl) rfl rfl ?_
 refine RS.q (u:=.bool false) rfl (q03 rfl rfl rfl) (RS.mv rfl rfl rfl rfl ?_)
 repeat refine RS.no (want0 rfl rfl rfl rfl) rfl rfl ?_
 refine RS.q (u:=.bool false) rfl (q03 rfl rfl rfl) (RS.mv rfl rfl rfl rfl ?_)
 repeat refine RS.no (want0 rfl rfl rfl rfl) rfl rfl ?_
 refine RS.q (u:=.bool false) rfl (q03 rfl rfl rfl) ?_
 refine sd ?_
 exact ⟨_,_,⟨rfl,rfl⟩,(Nat.zero_le _),Gh.toC (n1:=2) ⟨rfl,trivial⟩ rfl (Nat.zero_le _) (by simp)⟩
 replace hF:=q09 h3 hF
 refine st ?_
 refine WPU.skip ?_
 refine st ?_
 obtain ⟨b18,h19,hF⟩:=q00 hF
 refine WPU.joinK (fun tm σ=>tm=fr 134 [(2,.ptr 0 0 0),(3,.ptr 1 0 0),(70,.bool b18)]∧σ=⟨[(1,.row (cGEdge p2) 42),(0,.row (cGChart p1) 24)],2⟩) ?_ ?_
 rintro _ _ ⟨rfl,rfl⟩
 refine st ?_
 refine WPU.condS (t:=b18) rfl (fun h20=>?_) (fun h20=>?_)
 replace hF:=q0a h20 hF
 refine sr ?_
 refine sd ?_
 refine WPU.ret ?_
 refine st ?_
 have hr:=Option.some.inj hF
 subst hr
 exact ⟨.inr rfl,[.bool false],q1g rfl (q1b),.bool false,⟨[],0⟩,Nat.le_refl _,Gh.toR (.bool false) rfl,rfl,BU.h⟩
 replace hF:=q09 h20 hF
 refine st ?_
 refine WPU.skip ?_
 refine sr ?_
 refine RS.q (u:=.ptr 1 0 0) rfl (q07 und42 rfl (q01 inf3) rfl rfl rfl) (RS.q (u:=.int .i64 p2.From) rfl (q05 und3 rfl rfl rfl rfl) ?_)
 refine se ?_
 refine RS.q (u:=.ptr 1 0 5) rfl (q07 und42 rfl (q01 inf34) rfl rfl rfl) (RS.q (u:=.isl false (List.map (cI .i64) p2.Kids)) rfl (q05 und34 rfl rfl rfl rfl) (RS.q rfl (q0l rfl rfl rfl (q0e (cI .i64) und34)) (RS.mv rfl rfl rfl rfl ?_)))
 refine sd ?_
 refine WPU.ghost (tm':=fr 134 [(2,.ptr 0 0 0),(3,.ptr 1 0 0),(5,.int .i64 p2.From),(74,.isl false (List.map (cI .i64) p2.Kids)),(75,.int .i64 (p2.Kids.length:Int)),(76,.int .i64 0)]) (Gh.sub ⟨rfl,rfl,rfl,rfl,rfl,rfl,trivial⟩) (Nat.zero_le _) ?_
 refine WPU.loopK (fun m tm σ=>∃ z39:Int,∃ z40:Int,q33 p1 p2 m z39 z40=some r∧tm=fr 134 [(2,.ptr 0 0 0),(3,.ptr 1 0 0),(5,.int .i64 z39),(74,.isl false (List.map (cI .i64) p2.Kids)),(75,.int .i64 (p2.Kids.length:Int)),(76,.int .i64 z40)]∧σ=⟨[(1,.row (cGEdge p2) 42),(0,.row (cGChart p1) 24)],2⟩) (fun tm σ=>∃ z41:Int,q4r p1 p2 z41=some r∧tm=fr 134 [(2,.ptr 0 0 0),(3,.ptr 1 0 0),(5,.int .i64 z41)]∧σ=⟨[(1,.row (cGEdge p2) 42),(0,.row (cGChart p1) 24)],2⟩) n ⟨p2.From,0,hF,rfl,rfl⟩ ?_ ?_
 rintro _ _ ⟨z41,hF,rfl,rfl⟩
 unfold q4r at hF
 refine sr ?_
 refine se ?_
 refine RS.q (u:=.ptr 1 0 5) rfl (q07 und42 rfl (q01 inf34) rfl rfl rfl) (RS.q (u:=.isl false (List.map (cI .i64) p2.Kids)) rfl (q05 und34 rfl rfl rfl rfl) (RS.q rfl (q0l rfl rfl rfl (q0e (cI .i64) und34)) (RS.q rfl (q02 rfl rfl (q0d _ _ _) rfl) ?_)))
 refine sd ?_
 refine WPU.joinK (fun tm σ=>∃ z43:Int,q32 p2 z41 z43=some r∧tm=fr 134 [(3,.ptr 1 0 0),(5,.int .i64 z41),(8,.int .i64 z43)]∧σ=⟨[(1,.row (cGEdge p2) 42),(0,.row (cGChart p1) 24)],2⟩) ?_ ?_
 rintro _ _ ⟨z43,hF,rfl,rfl⟩
 unfold q32 at hF
 refine st ?_
 obtain ⟨b46,h47,hF⟩:=q00 hF
 refine WPU.joinK (fun tm σ=>tm=fr 134 [(4,.bool b46)]∧σ=⟨[(1,.row (cGEdge p2) 42),(0,.row (cGChart p1) 24)],2⟩) ?_ ?_
 rintro _ _ ⟨rfl,rfl⟩
 refine st ?_
 refine WPU.ret ?_
 refine st ?_
 have hr:=Option.some.inj hF
 subst hr
 exact ⟨.inr rfl,[.bool b46],q1g rfl (q1b),.bool b46,⟨[],0⟩,Nat.le_refl _,Gh.toR (.bool b46) rfl,rfl,BU.h⟩
 rcases q0j (z41 == p2.To) with h44 | h44
 replace h47:=q0a h44 h47
 rcases q0j (p2.Unary == z43) with h45 | h45
 replace h47:=q0a h45 h47
 replace h47:=Option.some.inj h47
 subst h47
 refine sr ?_
 refine RS.q (u:=.ptr 1 0 1) rfl (q07 und42 rfl (q01 inf3) rfl rfl rfl) (RS.q (u:=.int .i64 p2.To) rfl (q05 und3 rfl rfl rfl rfl) (RS.q rfl (q02 rfl rfl (q0d _ _ _) rfl) (RS.mv rfl rfl rfl rfl (RS.op (u:=.ptr 1 0 2) (want1 rfl rfl rfl h44) (q07 und42 rfl (q01 inf3) rfl rfl rfl) rfl rfl (RS.op (u:=.int .i64 p2.Unary) (want1 rfl rfl rfl h44) (q05 und3 rfl rfl rfl rfl) rfl rfl (RS.op (want1 rfl rfl rfl h44) (q06 rfl) rfl rfl (RS.op (want1 rfl rfl rfl h44) (q02 rfl rfl (q0d _ _ _) rfl) rfl rfl ?_)))))))
 refine RS.q (u:=.bool (p2.Unary == z43)) rfl (q04 rfl h44 rfl) (RS.mv rfl rfl rfl rfl (RS.op (want1 rfl rfl rfl h45) (q06 rfl) rfl rfl (RS.op (want1 rfl rfl rfl h45) (q02 rfl rfl (ix_leq _ _ _) rfl) rfl rfl (RS.q (u:=.bool (decide (z43≤2))) rfl (q04 rfl h45 rfl) ?_))))
 refine sd ?_
 exact ⟨_,_,⟨rfl,rfl⟩,(Nat.zero_le _),Gh.toC (n1:=2) ⟨rfl,trivial⟩ rfl (Nat.zero_le _) (by simp)⟩
 replace h47:=q09 h45 h47
 replace h47:=Option.some.inj h47
 subst h47
 refine sr ?_
 refine RS.q (u:=.ptr 1 0 1) rfl (q07 und42 rfl (q01 inf3) rfl rfl rfl) (RS.q (u:=.int .i64 p2.To) rfl (q05 und3 rfl rfl rfl rfl) (RS.q rfl (q02 rfl rfl (q0d _ _ _) rfl) (RS.mv rfl rfl rfl rfl (RS.op (u:=.ptr 1 0 2) (want1 rfl rfl rfl h44) (q07 und42 rfl (q01 inf3) rfl rfl rfl) rfl rfl (RS.op (u:=.int .i64 p2.Unary) (want1 rfl rfl rfl h44) (q05 und3 rfl rfl rfl rfl) rfl rfl (RS.op (want1 rfl rfl rfl h44) (q06 rfl) rfl rfl (RS.op (want1 rfl rfl rfl h44) (q02 rfl rfl (q0d _ _ _) rfl) rfl rfl ?_)))))))
 refine RS.q (u:=.bool (p2.Unary == z43)) rfl (q04 rfl h44 rfl) (RS.mv rfl rfl rfl rfl ?_)
 repeat refine RS.no (want0 rfl rfl rfl h45) rfl rfl ?_
 refine RS.q (u:=.bool false) rfl (q03 rfl h45 rfl) ?_
 refine sd ?_
 exact ⟨_,_,⟨rfl,rfl⟩,(Nat.zero_le _),Gh.toC (n1:=2) ⟨rfl,trivial⟩ rfl (Nat.zero_le _) (by simp)⟩
 replace h47:=q09 h44 h47
 replace h47:=Option.some.inj h47
 subst h47
 refine sr ?_
 refine RS.q (u:=.ptr 1 0 1) rfl (q07 und42 rfl (q01 inf3) rfl rfl rfl) (RS.q (u:=.int .i64 p2.To) rfl (q05 und3 rfl rfl rfl rfl) (RS.q rfl (q02 rfl rfl (q0d _ _ _) rfl) (RS.mv rfl rfl rfl rfl ?_)))
 repeat refine RS.no (want0 rfl rfl rfl h44) rfl rfl ?_
 refine RS.q (u:=.bool false) rfl (q03 rfl h44 rfl) (RS.mv rfl rfl rfl rfl ?_)
 repeat refine RS.no (want0 rfl rfl rfl rfl) rfl rfl ?_
 refine RS.q (u:=.bool false) rfl (q03 rfl rfl rfl) ?_
 refine sd ?_
 exact ⟨_,_,⟨rfl,rfl⟩,(Nat.zero_le _),Gh.toC (n1:=2) ⟨rfl,trivial⟩ rfl (Nat.zero_le _) (by simp)⟩
 refine WPU.condS (t:=((p2.Kids.length:Int) == 1)) rfl (fun h42=>?_) (fun h42=>?_)
 replace hF:=q0a h42 hF
 refine st ?_
 obtain ⟨x48,h49,hF⟩:=q00 hF
 obtain ⟨x50,h51,hF⟩:=q00 hF
 refine WPU.drawE Try.tb_ok [] (by kernel_rfl) ?_
 refine RD.q (u:=.ptr 0 0 1) rfl (q07 und24 rfl (q01 inf22) rfl rfl rfl) (RD.q (u:=.isl false (List.map cGEdge p1.Edges)) rfl (q05 und22 rfl rfl rfl rfl) (RD.q (u:=.ptr 1 0 5) rfl (q07 und42 rfl (q01 inf34) rfl rfl rfl) (RD.q (u:=.isl false (List.map (cI .i64) p2.Kids)) rfl (q05 und34 rfl rfl rfl rfl) (RD.q (u:=.iptr [.int .i64 x48]) rfl (q1e rfl rfl (q0p (cI .i64) und34 (q01 inf3) (q2j .i64) h49 rfl)) (RD.q (u:=.int .i64 x48) rfl (q19 und3 rfl rfl rfl) (RD.q (u:=.iptr (cGEdge x50)) rfl (q1e rfl rfl (q0p cGEdge und22 (q01 inf42) q0f h51 rfl)) (RD.q (u:=.iptr [.int .i64 x50.Unary,.int .i64 x50.Kind,.str x50.Name,.isl false (List.map (cI .i64) x50.Kids),.int .i64 x50.Lex.Kind,.str x50.Lex.Name,.int .i64 x50.Lex.From,.int .i64 x50.Lex.To,.isl false (List.map cGDeriv x50.Lex.Kids),.isl false (List.map cGNode x50.FS.Nodes)]) rfl (q4f und42 rfl (q01 inf3) rfl rfl) ?_)))))))
 refine RD.q (u:=.int .i64 x50.Unary) rfl (q19 und3 rfl rfl rfl) (RD.q rfl (q02 rfl rfl (q35 _ _ _) rfl) (RD.as rfl rfl rfl rfl ?_))
 refine RD.done ⟨by kernel_rfl,trivial,?_⟩
 refine st ?_
 exact ⟨_,_,⟨(IntKind.i64.wrap (x50.Unary+1)),hF,rfl,rfl⟩,(Nat.zero_le _),Gh.toC (n1:=2) ⟨rfl,rfl,rfl,trivial⟩ rfl (Nat.zero_le _) (by simp)⟩
 replace hF:=q09 h42 hF
 refine st ?_
 refine WPU.skip ?_
 refine st ?_
 exact ⟨_,_,⟨0,hF,rfl,rfl⟩,(Nat.zero_le _),Gh.toC (n1:=2) ⟨rfl,rfl,rfl,trivial⟩ rfl (Nat.zero_le _) (by simp)⟩
 rintro m1 _ _ ⟨z39,z40,hF,rfl,rfl⟩
 rcases m1 with _ | m1
 cases hF
 unfold q33 at hF
 refine sr ?_
 refine RS.q rfl (q02 rfl rfl (q1q _ _ _) rfl) ?_
 refine sd ?_
 refine WPU.condS (t:=(decide (z40<(p2.Kids.length:Int)))) rfl (fun h52=>?_) (fun h52=>?_)
 replace hF:=q0a h52 hF
 refine st ?_
 refine WPU.skip ?_
 refine st ?_
 refine WPU.block ?_
 refine st ?_
 obtain ⟨x53,h54,hF⟩:=q00 hF
 refine sr ?_
 refine RS.q (u:=.iptr [.int .i64 x53]) rfl (q1e rfl rfl (q0p (cI .i64) und34 (q01 inf3) (q2j .i64) h54 rfl)) (RS.q (u:=.int .i64 x53) rfl (q19 und3 rfl rfl rfl) ?_)
 refine sd ?_
 obtain ⟨b59,h60,hF⟩:=q00 hF
 refine WPU.joinK (fun tm σ=>tm=fr 134 [(2,.ptr 0 0 0),(3,.ptr 1 0 0),(7,.int .i64 x53),(74,.isl false (List.map (cI .i64) p2.Kids)),(75,.int .i64 (p2.Kids.length:Int)),(76,.int .i64 z40),(98,.bool b59)]∧σ=⟨[(1,.row (cGEdge p2) 42),(0,.row (cGChart p1) 24)],2⟩) ?_ ?_
 rintro _ _ ⟨rfl,rfl⟩
 refine st ?_
 refine WPU.condS (t:=b59) rfl (fun h61=>?_) (fun h61=>?_)
 replace hF:=q0a h61 hF
 refine sr ?_
 refine sd ?_
 refine WPU.ret ?_
 refine st ?_
 have hr:=Option.some.inj hF
 subst hr
 exact ⟨.inr rfl,[.bool false],q1g rfl (q1b),.bool false,⟨[],0⟩,Nat.le_refl _,Gh.toR (.bool false) rfl,rfl,BU.h⟩
 replace hF:=q09 h61 hF
 refine st ?_
 refine WPU.skip ?_
 refine st ?_
 obtain ⟨x62,h63,hF⟩:=q00 hF
 refine sr ?_
 refine RS.q (u:=.ptr 0 0 1) rfl (q07 und24 rfl (q01 inf22) rfl rfl rfl) (RS.q (u:=.isl false (List.map cGEdge p1.Edges)) rfl (q05 und22 rfl rfl rfl rfl) (RS.mv rfl rfl rfl rfl (RS.q (u:=.iptr (cGEdge x62)) rfl (q1e rfl rfl (q0p cGEdge und22 (q01 inf42) q0f h63 rfl)) (RS.q (u:=.iptr [.int .i64 x62.To,.int .i64 x62.Unary,.int .i64 x62.Kind,.str x62.Name,.isl false (List.map (cI .i64) x62.Kids),.int .i64 x62.Lex.Kind,.str x62.Lex.Name,.int .i64 x62.Lex.From,.int .i64 x62.Lex.To,.isl false (List.map cGDeriv x62.Lex.Kids),.isl false (List.map cGNode x62.FS.Nodes)]) rfl (q4f und42 rfl (q01 inf3) rfl rfl) (RS.q (u:=.int .i64 x62.To) rfl (q19 und3 rfl rfl rfl) ?_)))))
 refine se ?_
 refine RS.q rfl (q02 rfl rfl (q35 _ _ _) rfl) (RS.mv rfl rfl rfl rfl ?_)
 refine sd ?_
 exact ⟨m1,_,_,Nat.lt_succ_self _,⟨x62.To,(IntKind.i64.wrap (z40+1)),hF,rfl,rfl⟩,(Nat.zero_le _),Gh.toC (n1:=2) ⟨rfl,rfl,rfl,rfl,rfl,rfl,trivial⟩ rfl (Nat.zero_le _) (by simp)⟩
 rcases q0j (decide (x53<0)) with h55 | h55
 replace h60:=q0a h55 h60
 replace h60:=Option.some.inj h60
 subst h60
 refine sr ?_
 refine RS.q rfl (q02 rfl rfl (q1q _ _ _) rfl) (RS.mv rfl rfl rfl rfl ?_)
 repeat refine RS.no (want0 rfl rfl rfl h55) rfl rfl ?_
 refine RS.q (u:=.bool true) rfl (q04 rfl h55 rfl) (RS.mv rfl rfl rfl rfl ?_)
 repeat refine RS.no (want0 rfl rfl rfl rfl) rfl rfl ?_
 refine RS.q (u:=.bool true) rfl (q04 rfl rfl rfl) ?_
 refine sd ?_
 exact ⟨_,_,⟨rfl,rfl⟩,(Nat.zero_le _),Gh.toC (n1:=2) ⟨rfl,rfl,rfl,rfl,rfl,rfl,rfl,trivial⟩ rfl (Nat.zero_le _) (by simp)⟩
 replace h60:=q09 h55 h60
 rcases q0j (decide (x53 ≥ (p1.Edges.length:Int))) with h56 | h56
 replace h60:=q0a h56 h60
 replace h60:=Option.some.inj h60
 subst h60
 refine sr ?_
 refine RS.q rfl (q02 rfl rfl (q1q _ _ _) rfl) (RS.mv rfl rfl rfl rfl (RS.op (want1 rfl rfl rfl h55) (q06 rfl) rfl rfl (RS.op (u:=.ptr 0 0 1) (want1 rfl rfl rfl h55) (q07 und24 rfl (q01 inf22) rfl rfl rfl) rfl rfl (RS.op (u:=.isl false (List.map cGEdge p1.Edges)) (want1 rfl rfl rfl h55) (q05 und22 rfl rfl rfl rfl) rfl rfl (RS.op (want1 rfl rfl rfl h55) (q0l rfl rfl rfl (q0e cGEdge und22)) rfl rfl (RS.op (want1 rfl rfl rfl h55) (q02 rfl rfl (qah _ _ _) rfl) rfl rfl (RS.q (u:=.bool (decide (x53 ≥ (p1.Edges.length:Int)))) rfl (q03 rfl h55 rfl) ?_)))))))
 refine RS.mv rfl rfl rfl rfl ?_
 repeat refine RS.no (want0 rfl rfl rfl h56) rfl rfl ?_
 refine RS.q (u:=.bool true) rfl (q04 rfl h56 rfl) ?_
 refine sd ?_
 exact ⟨_,_,⟨rfl,rfl⟩,(Nat.zero_le _),Gh.toC (n1:=2) ⟨rfl,rfl,rfl,rfl,rfl,rfl,rfl,trivial⟩ rfl (Nat.zero_le _) (by simp)⟩
 replace h60:=q09 h56 h60
 obtain ⟨x57,h58,h60⟩:=q00 h60
 replace h60:=Option.some.inj h60
 subst h60
 refine sr ?_
 refine RS.q rfl (q02 rfl rfl (q1q _ _ _) rfl) (RS.mv rfl rfl rfl rfl (RS.op (want1 rfl rfl rfl h55) (q06 rfl) rfl rfl (RS.op (u:=.ptr 0 0 1) (want1 rfl rfl rfl h55) (q07 und24 rfl (q01 inf22) rfl rfl rfl) rfl rfl (RS.op (u:=.isl false (List.map cGEdge p1.Edges)) (want1 rfl rfl rfl h55) (q05 und22 rfl rfl rfl rfl) rfl rfl (RS.op (want1 rfl rfl rfl h55) (q0l rfl rfl rfl (q0e cGEdge und22)) rfl rfl (RS.op (want1 rfl rfl rfl h55) (q02 rfl rfl (qah _ _ _) rfl) rfl rfl (RS.q (u:=.bool (decide (x53 ≥ (p1.Edges.length:Int)))) rfl (q03 rfl h55 rfl) ?_)))))))
 refine RS.mv rfl rfl rfl rfl (RS.op (u:=.ptr 0 0 1) (want1 rfl rfl rfl h56) (q07 und24 rfl (q01 inf22) rfl rfl rfl) rfl rfl (RS.op (u:=.isl false (List.map cGEdge p1.Edges)) (want1 rfl rfl rfl h56) (q05 und22 rfl rfl rfl rfl) rfl rfl (RS.op (want1 rfl rfl rfl h56) (q06 rfl) rfl rfl (RS.op (u:=.iptr (cGEdge x57)) (want1 rfl rfl rfl h56) (q1e rfl rfl (q0p cGEdge und22 (q01 inf42) q0f h58 rfl)) rfl rfl (RS.op (u:=.iptr (cGEdge x57)) (want1 rfl rfl rfl h56) (q4f und42 rfl (q01 inf3) rfl rfl) rfl rfl (RS.op (u:=.int .i64 x57.From) (want1 rfl rfl rfl h56) (q19 und3 rfl rfl rfl) rfl rfl (RS.op (want1 rfl rfl rfl h56) (q06 rfl) rfl rfl ?_)))))))
 refine RS.op (want1 rfl rfl rfl h56) (q02 rfl rfl (q0c _ _ _) rfl) rfl rfl (RS.q (u:=.bool (x57.From != z39)) rfl (q03 rfl h56 rfl) ?_)
 refine sd ?_
 exact ⟨_,_,⟨rfl,rfl⟩,(Nat.zero_le _),Gh.toC (n1:=2) ⟨rfl,rfl,rfl,rfl,rfl,rfl,rfl,trivial⟩ rfl (Nat.zero_le _) (by simp)⟩
 replace hF:=q09 h52 hF
 refine st ?_
 refine WPU.exit ?_
 refine st ?_
 exact ⟨_,_,⟨z39,hF,rfl,rfl⟩,(Nat.zero_le _),Gh.toC (n1:=2) ⟨rfl,rfl,rfl,trivial⟩ rfl (Nat.zero_le _) (by simp)⟩
 rcases q0j (bytesEq p2.Name []) with h13 | h13
 replace h19:=q0a h13 h19
 replace h19:=Option.some.inj h19
 subst h19
 refine sr ?_
 refine RS.q (u:=.ptr 1 0 4) rfl (q07 und42 rfl (q01 inf9) rfl rfl rfl) (RS.q (u:=.str p2.Name) rfl (q05 und9 rfl rfl rfl rfl) (RS.q (u:=.bool (bytesEq p2.Name [])) rfl (q30 rfl rfl rfl rfl) (RS.mv rfl rfl rfl rfl ?_)))
 repeat refine RS.no (want0 rfl rfl rfl h13) rfl rfl ?_
 refine RS.q (u:=.bool true) rfl (q04 rfl h13 rfl) (RS.mv rfl rfl rfl rfl ?_)
 repeat refine RS.no (want0 rfl rfl rfl rfl) rfl rfl ?_
 refine RS.q (u:=.bool true) rfl (q04 rfl rfl rfl) (RS.mv rfl rfl rfl rfl ?_)
 repeat refine RS.no (want0 rfl rfl rfl rfl) rfl rfl ?_
 refine RS.q (u:=.bool true) rfl (q04 rfl rfl rfl) ?_
 refine sd ?_
 exact ⟨_,_,⟨rfl,rfl⟩,(Nat.zero_le _),Gh.toC (n1:=2) ⟨rfl,rfl,rfl,trivial⟩ rfl (Nat.zero_le _) (by simp)⟩
 replace h19:=q09 h13 h19
 obtain ⟨r14,h15,h19⟩:=q00 h19
 rcases q0j (!r14) with h16 | h16
 replace h19:=q0a h16 h19
 replace h19:=Option.some.inj h19
 subst h19
 refine sr ?_
 refine RS.q (u:=.ptr 1 0 4) rfl (q07 und42 rfl (q01 inf9) rfl rfl rfl) (RS.q (u:=.str p2.Name) rfl (q05 und9 rfl rfl rfl rfl) (RS.q (u:=.bool (bytesEq p2.Name [])) rfl (q30 rfl rfl rfl rfl) (RS.mv rfl rfl rfl rfl (RS.op (u:=.ptr 1 0 6) (want1 rfl rfl rfl h13) (q07 und42 rfl (q01 inf37) rfl rfl rfl) rfl rfl (RS.op (u:=.agg (xGDeriv p2.Lex)) (want1 rfl rfl rfl h13) (q0o und37 rfl (q01 inf37) rfl rfl rfl) rfl rfl (RS.call (u:=.bool r14) (args:=[.agg (xGDeriv p2.Lex)]) (want1 rfl rfl rfl h13) (q0b rfl rfl fn51 hb51 rfl rfl) (q76 n p2.Lex r14 h15 _) rfl rfl (RS.op (u:=.bool (!r14)) (want1 rfl rfl rfl h13) (op_un rfl rfl rfl rfl) rfl rfl ?_)))))))
 refine RS.q (u:=.bool (!r14)) rfl (q03 rfl h13 rfl) (RS.mv rfl rfl rfl rfl ?_)
 repeat refine RS.no (want0 rfl rfl rfl h16) rfl rfl ?_
 refine RS.q (u:=.bool true) rfl (q04 rfl h16 rfl) (RS.mv rfl rfl rfl rfl ?_)
 repeat refine RS.no (want0 rfl rfl rfl rfl) rfl rfl ?_
 refine RS.q (u:=.bool true) rfl (q04 rfl rfl rfl) ?_
 refine sd ?_
 exact ⟨_,_,⟨rfl,rfl⟩,(Nat.zero_le _),Gh.toC (n1:=2) ⟨rfl,rfl,rfl,trivial⟩ rfl (Nat.zero_le _) (by simp)⟩
 replace h19:=q09 h16 h19
 rcases q0j ((p2.Kids.length:Int) == 0) with h17 | h17
 replace h19:=q0a h17 h19
 replace h19:=Option.some.inj h19
 subst h19
 refine sr ?_
 refine RS.q (u:=.ptr 1 0 4) rfl (q07 und42 rfl (q01 inf9) rfl rfl rfl) (RS.q (u:=.str p2.Name) rfl (q05 und9 rfl rfl rfl rfl) (RS.q (u:=.bool (bytesEq p2.Name [])) rfl (q30 rfl rfl rfl rfl) (RS.mv rfl rfl rfl rfl (RS.op (u:=.ptr 1 0 6) (want1 rfl rfl rfl h13) (q07 und42 rfl (q01 inf37) rfl rfl rfl) rfl rfl (RS.op (u:=.agg (xGDeriv p2.Lex)) (want1 rfl rfl rfl h13) (q0o und37 rfl (q01 inf37) rfl rfl rfl) rfl rfl (RS.call (u:=.bool r14) (args:=[.agg (xGDeriv p2.Lex)]) (want1 rfl rfl rfl h13) (q0b rfl rfl fn51 hb51 rfl rfl) (q76 n p2.Lex r14 h15 _) rfl rfl (RS.op (u:=.bool (!r14)) (want1 rfl rfl rfl h13) (op_un rfl rfl rfl rfl) rfl rfl ?_)))))))
 refine RS.q (u:=.bool (!r14)) rfl (q03 rfl h13 rfl) (RS.mv rfl rfl rfl rfl (RS.op (u:=.ptr 1 0 5) (want1 rfl rfl rfl h16) (q07 und42 rfl (q01 inf34) rfl rfl rfl) rfl rfl (RS.op (u:=.isl false (List.map (cI .i64) p2.Kids)) (want1 rfl rfl rfl h16) (q05 und34 rfl rfl rfl rfl) rfl rfl (RS.op (want1 rfl rfl rfl h16) (q0l rfl rfl rfl (q0e (cI .i64) und34)) rfl rfl (RS.op (want1 rfl rfl rfl h16) (q02 rfl rfl (q0d _ _ _) rfl) rfl rfl (RS.q (u:=.bool ((p2.Kids.length:Int) == 0)) rfl (q03 rfl h16 rfl) (RS.mv rfl rfl rfl rfl ?_)))))))
 repeat refine RS.no (want0 rfl rfl rfl h17) rfl rfl ?_
 refine RS.q (u:=.bool true) rfl (q04 rfl h17 rfl) ?_
 refine sd ?_
 exact ⟨_,_,⟨rfl,rfl⟩,(Nat.zero_le _),Gh.toC (n1:=2) ⟨rfl,rfl,rfl,trivial⟩ rfl (Nat.zero_le _) (by simp)⟩
 replace h19:=q09 h17 h19
 replace h19:=Option.some.inj h19
 subst h19
 refine sr ?_
 refine RS.q (u:=.ptr 1 0 4) rfl (q07 und42 rfl (q01 inf9) rfl rfl rfl) (RS.q (u:=.str p2.Name) rfl (q05 und9 rfl rfl rfl rfl) (RS.q (u:=.bool (bytesEq p2.Name [])) rfl (q30 rfl rfl rfl rfl) (RS.mv rfl rfl rfl rfl (RS.op (u:=.ptr 1 0 6) (want1 rfl rfl rfl h13) (q07 und42 rfl (q01 inf37) rfl rfl rfl) rfl rfl (RS.op (u:=.agg (xGDeriv p2.Lex)) (want1 rfl rfl rfl h13) (q0o und37 rfl (q01 inf37) rfl rfl rfl) rfl rfl (RS.call (u:=.bool r14) (args:=[.agg (xGDeriv p2.Lex)]) (want1 rfl rfl rfl h13) (q0b rfl rfl fn51 hb51 rfl rfl) (q76 n p2.Lex r14 h15 _) rfl rfl (RS.op (u:=.bool (!r14)) (want1 rfl rfl rfl h13) (op_un rfl rfl rfl rfl) rfl rfl ?_)))))))
 refine RS.q (u:=.bool (!r14)) rfl (q03 rfl h13 rfl) (RS.mv rfl rfl rfl rfl (RS.op (u:=.ptr 1 0 5) (want1 rfl rfl rfl h16) (q07 und42 rfl (q01 inf34) rfl rfl rfl) rfl rfl (RS.op (u:=.isl false (List.map (cI .i64) p2.Kids)) (want1 rfl rfl rfl h16) (q05 und34 rfl rfl rfl rfl) rfl rfl (RS.op (want1 rfl rfl rfl h16) (q0l rfl rfl rfl (q0e (cI .i64) und34)) rfl rfl (RS.op (want1 rfl rfl rfl h16) (q02 rfl rfl (q0d _ _ _) rfl) rfl rfl (RS.q (u:=.bool ((p2.Kids.length:Int) == 0)) rfl (q03 rfl h16 rfl) (RS.mv rfl rfl rfl rfl ?_)))))))
 refine RS.op (u:=.ptr 1 0 5) (want1 rfl rfl rfl h17) (q07 und42 rfl (q01 inf34) rfl rfl rfl) rfl rfl (RS.op (u:=.isl false (List.map (cI .i64) p2.Kids)) (want1 rfl rfl rfl h17) (q05 und34 rfl rfl rfl rfl) rfl rfl (RS.op (want1 rfl rfl rfl h17) (q0l rfl rfl rfl (q0e (cI .i64) und34)) rfl rfl (RS.op (want1 rfl rfl rfl h17) (q02 rfl rfl (q6a _ _ _) rfl) rfl rfl (RS.q (u:=.bool (decide ((p2.Kids.length:Int) > 2))) rfl (q03 rfl h17 rfl) ?_))))
 refine sd ?_
 exact ⟨_,_,⟨rfl,rfl⟩,(Nat.zero_le _),Gh.toC (n1:=2) ⟨rfl,rfl,rfl,trivial⟩ rfl (Nat.zero_le _) (by simp)⟩
theorem qbd (n:Nat) (p1:GChart) (p2:GEdge) (r:Bool) (hF:q4k n p1 p2=some r) (σ:Sg):EvU Try.prog 34 [.agg (cGChart p1),.agg (cGEdge p2)] σ (fun u σ'=>u = .bool r∧σ'=σ) :=
 EvU.pure1C (chart_formed_0 n p1 p2 r hF) σ
def q38   : Option (Bool) :=
 some true
def q25 (p1:List Int) (p2:List Int):Nat→Int→Option (Bool)
 | 0,_=>none
 | m1+1,z8 =>
  cond (decide (z8<(p1.length:Int)))
   (bindO (idxO p1 z8) fun x10 =>
   bindO (idxO p2 z8) fun x12 =>
   cond (x10 != x12)
    (some false)
    ((q25 p1 p2 m1) (IntKind.i64.wrap (z8+1))))
   (q38)
def q2f (n:Nat) (p1:List Int) (p2:List Int):Option (Bool) :=
 cond ((p1.length:Int) != (p2.length:Int))
  (some false)
  (q25 p1 p2 n 0)
theorem q9m (n:Nat) (p1:List Int) (p2:List Int) (r:Bool) (hF:q2f n p1 p2=some r):EvU Try.prog 36 [.isl false (List.map (cI .i64) p1),.isl false (List.map (cI .i64) p2)] ⟨[],0⟩ (fun u _=>u = .bool r∧Bel 0 u):=by
 unfold q2f at hF
 refine EvU.of_body Try.tb_ok fn36 rfl ?_
 refine WPU.ghost (tm':=fr 26 [(0,.isl false (List.map (cI .i64) p1)),(1,.isl false (List.map (cI .i64) p2))]) (Gh.start (Nat.le_of_ble_eq_true rfl)) (Nat.zero_le _) ?_
 refine sr ?_
 refine se ?_
 refine RS.q rfl (q0l rfl rfl rfl (q0e (cI .i64) und34)) (RS.mv rfl rfl rfl rfl (RS.q rfl (q0l rfl rfl rfl (q0e (cI .i64) und34)) (RS.q rfl (q02 rfl rfl (q0c _ _ _) rfl) ?_)))
 refine sd ?_
 refine WPU.condS (t:=((p1.length:Int) != (p2.length:Int))) rfl (fun h3=>?_) (fun h3=>?_)
 replace hF:=q0a h3 hF
 refine sr ?_
 refine sd ?_
 refine WPU.ret ?_
 refine st ?_
 have hr:=Option.some.inj hF
 subst hr
 exact ⟨.inr rfl,[.bool false],q1g rfl (q1b),.bool false,⟨[],0⟩,Nat.le_refl _,Gh.toR (.bool false) rfl,rfl,BU.h⟩
 replace hF:=q09 h3 hF
 refine st ?_
 refine WPU.skip ?_
 refine sr ?_
 refine RS.q rfl (q0l rfl rfl rfl (q0e (cI .i64) und34)) (RS.mv rfl rfl rfl rfl ?_)
 refine sd ?_
 refine WPU.ghost (tm':=fr 26 [(0,.isl false (List.map (cI .i64) p1)),(1,.isl false (List.map (cI .i64) p2)),(12,.int .i64 (p1.length:Int)),(13,.int .i64 0)]) (Gh.sub ⟨rfl,rfl,rfl,rfl,trivial⟩) (Nat.zero_le _) ?_
 refine WPU.loopK (fun m tm σ=>∃ z8:Int,q25 p1 p2 m z8=some r∧tm=fr 26 [(0,.isl false (List.map (cI .i64) p1)),(1,.isl false (List.map (cI .i64) p2)),(12,.int .i64 (p1.length:Int)),(13,.int .i64 z8)]∧σ=⟨[],0⟩) (fun tm σ=>q38=some r∧tm=fr 26 []∧σ=⟨[],0⟩) n ⟨0,hF,rfl,rfl⟩ ?_ ?_
 rintro _ _ ⟨hF,rfl,rfl⟩
 unfold q38 at hF
 refine sr ?_
 refine sd ?_
 refine WPU.ret ?_
 refine st ?_
 have hr:=Option.some.inj hF
 subst hr
 exact ⟨.inr rfl,[.bool true],q1g rfl (q1b),.bool true,⟨[],0⟩,Nat.le_refl _,Gh.toR (.bool true) rfl,rfl,BU.h⟩
 rintro m1 _ _ ⟨z8,hF,rfl,rfl⟩
 rcases m1 with _ | m1
 cases hF
 unfold q25 at hF
 refine sr ?_
 refine RS.q rfl (q02 rfl rfl (q1q _ _ _) rfl) ?_
 refine sd ?_
 refine WPU.condS (t:=(decide (z8<(p1.length:Int)))) rfl (fun h9=>?_) (fun h9=>?_)
 replace hF:=q0a h9 hF
 refine st ?_
 refine WPU.skip ?_
 refine st ?_
 refine WPU.block ?_
 refine sr ?_
 refine sd ?_
 obtain ⟨x10,h11,hF⟩:=q00 hF
 obtain ⟨x12,h13,hF⟩:=q00 hF
 refine WPU.drawE Try.tb_ok [] (by kernel_rfl) ?_
 repeat refine RD.mv rfl rfl rfl rfl ?_
 refine RD.q (u:=.iptr [.int .i64 x10]) rfl (q1e rfl rfl (q0p (cI .i64) und34 (q01 inf3) (q2j .i64) h11 rfl)) (RD.q (u:=.int .i64 x10) rfl (q19 und3 rfl rfl rfl) ?_)
 repeat refine RD.mv rfl rfl rfl rfl ?_
 refine RD.q (u:=.iptr [.int .i64 x12]) rfl (q1e rfl rfl (q0p (cI .i64) und34 (q01 inf3) (q2j .i64) h13 rfl)) (RD.q (u:=.int .i64 x12) rfl (q19 und3 rfl rfl rfl) (RD.q rfl (q02 rfl rfl (q0c _ _ _) rfl) ?_))
 refine RD.done ⟨by kernel_rfl,trivial,?_⟩
 refine st ?_
 refine WPU.condS (t:=(x10 != x12)) rfl (fun h14=>?_) (fun h14=>?_)
 replace hF:=q0a h14 hF
 refine sr ?_
 refine sd ?_
 refine WPU.ret ?_
 refine st ?_
 have hr:=Option.some.inj hF
 subst hr
 exact ⟨.inr rfl,[.bool false],q1g rfl (q1b),.bool false,⟨[],0⟩,Nat.le_refl _,Gh.toR (.bool false) rfl,rfl,BU.h⟩
 replace hF:=q09 h14 hF
 refine st ?_
 refine WPU.skip ?_
 refine sr ?_
 refine RS.q rfl (q02 rfl rfl (q35 _ _ _) rfl) (RS.mv rfl rfl rfl rfl ?_)
 refine sd ?_
 exact ⟨m1,_,_,Nat.lt_succ_self _,⟨(IntKind.i64.wrap (z8+1)),hF,rfl,rfl⟩,(Nat.zero_le _),Gh.toC (n1:=0) ⟨rfl,rfl,rfl,rfl,trivial⟩ rfl (Nat.zero_le _) (by simp)⟩
 replace hF:=q09 h9 hF
 refine st ?_
 refine WPU.exit ?_
 refine st ?_
 exact ⟨_,_,⟨hF,rfl,rfl⟩,(Nat.zero_le _),Gh.toC (n1:=0) trivial rfl (Nat.zero_le _) (by simp)⟩
theorem q6f (n:Nat) (p1:List Int) (p2:List Int) (r:Bool) (hF:q2f n p1 p2=some r) (σ:Sg):EvU Try.prog 36 [.isl false (List.map (cI .i64) p1),.isl false (List.map (cI .i64) p2)] σ (fun u σ'=>u = .bool r∧σ'=σ) :=
 EvU.pure1C (q9m n p1 p2 r hF) σ
def q6l (p1:GChart) (p2:GEdge)  : Option (GChart×Int×Int) :=
 bindO (cutF p1.Edges (p1.Edges.length:Int)) fun l34 =>
 needO ((l34.length+1)*160≤140737488355328∧l34.length+1≤140737488355328) (
 some ((GChart.mk p1.Words (l34++[p2])),(p1.Edges.length:Int),0))
def q3l (p1:GChart) (p2:GEdge) (n:Nat):Nat→Int→Option (GChart×Int×Int)
 | 0,_=>none
 | m1+1,z33 =>
  cond (decide (z33<(p1.Edges.length:Int)))
   (bindO (idxO p1.Edges z33) fun x38 =>
   bindO (cond (x38.Kind != p2.Kind)
    (some true)
    (cond (!bytesEq x38.Name p2.Name)
     (some true)
     (cond (x38.From != p2.From)
      (some true)
      (some (x38.To != p2.To))))) fun b43 =>
   cond b43
    ((q3l p1 p2 n m1) (IntKind.i64.wrap (z33+1)))
    (bindO (cond (p2.Kind == 1)
     (bindO (q1t n x38.Lex p2.Lex) fun r47 =>
     cond (r47 == 0)
      (some true)
      (cond (p2.Kind == 2)
       (bindO (q2f n x38.Kids p2.Kids) fun r51 =>
       some r51)
       (some false)))
     (cond (p2.Kind == 2)
      (bindO (q2f n x38.Kids p2.Kids) fun r54 =>
      some r54)
      (some false))) fun b56 =>
    cond b56
     (some (p1,z33,4))
     ((q3l p1 p2 n m1) (IntKind.i64.wrap (z33+1)))))
   (q6l p1 p2)
def q31 (n:Nat) (p1:GChart) (p2:GEdge):Option (GChart×Int×Int) :=
 bindO (cond (decide (p2.From<0))
  (some true)
  (cond (decide (p2.From ≥ p2.To))
   (some true)
   (some (decide (p2.To > p1.Words))))) fun b5 =>
 cond b5
  (some (p1,0,2))
  (bindO (cond (p2.Kind != 1)
   (some (p2.Kind != 2))
   (some false)) fun b9 =>
  cond b9
   (some (p1,0,14))
   (bindO (q4k n p1 p2) fun r12 =>
   cond (!r12)
    (some (p1,0,13))
    (q3l p1 p2 n n 0)))
theorem chart_Add_0 (n:Nat) (p1:GChart) (p2:GEdge) (r:GChart×Int×Int) (hF:q31 n p1 p2=some r):EvU Try.prog 14 [.agg (cGChart p1),.agg (cGEdge p2)] ⟨[],0⟩ (fun u _=>u = .tup [.agg (cGChart r.1),.int .i64 r.2.1,.int .i64 r.2.2]∧Bel 0 u):=by
 unfold q31 at hF
 refine EvU.of_body Try.tb_ok fn14 rfl ?_
 refine WPU.ghost (tm':=fr 117 [(0,.agg (cGChart p1)),(1,.agg (cGEdge p2))]) (Gh.start (Nat.le_of_ble_eq_true rfl)) (Nat.zero_le _) ?_
 refine sr ?_
 refine RS.q (u:=.ptr 0 0 0) (σ':=⟨[(0,.row (cGChart p1) 24)],1⟩) rfl (q3x rfl rfl rfl) (RS.q (u:=.ptr 1 0 0) (σ':=⟨[(1,.row (cGEdge p2) 42),(0,.row (cGChart p1) 24)],2⟩) rfl (q3x rfl rfl rfl) (RS.q (u:=.ptr 2 0 0) (σ':=⟨[(2,.row [.int .i64 0,.nils] 24),(1,.row (cGEdge p2) 42),(0,.row (cGChart p1) 24)],3⟩) rfl (q1i inf24 rfl rfl) ?_))
 repeat refine RS.as rfl rfl rfl rfl ?_
 refine sd ?_
 obtain ⟨b5,h6,hF⟩:=q00 hF
 refine WPU.joinK (fun tm σ=>tm=fr 117 [(2,.ptr 0 0 0),(3,.ptr 1 0 0),(4,.ptr 2 0 0),(26,.bool b5)]∧σ=⟨[(2,.row [.int .i64 0,.nils] 24),(1,.row (cGEdge p2) 42),(0,.row (cGChart p1) 24)],3⟩) ?_ ?_
 rintro _ _ ⟨rfl,rfl⟩
 refine st ?_
 refine WPU.condS (t:=b5) rfl (fun h7=>?_) (fun h7=>?_)
 replace hF:=q0a h7 hF
 refine sr ?_
 refine RS.q (u:=.agg (cGChart p1)) rfl (q0o und24 rfl (q01 inf24) rfl rfl rfl) (RS.opn (u:=.junk) (σ':=⟨[(2,.row (cGChart p1) 24),(1,.row (cGEdge p2) 42),(0,.row (cGChart p1) 24)],3⟩) rfl (q0h (q01 inf24) rfl rfl rfl rfl rfl rfl rfl rfl) rfl ?_)
 repeat refine RS.as rfl rfl rfl rfl ?_
 refine sd ?_
 refine WPU.ret ?_
 refine st ?_
 have hr:=Option.some.inj hF
 subst hr
 exact ⟨.inr rfl,[.agg (cGChart p1),.int .i64 0,.int .i64 2],q9i (q0o und24 rfl (q01 inf24) rfl rfl rfl) (q1g rfl (q1g rfl (q1b))),.tup [.agg (cGChart p1),.int .i64 0,.int .i64 2],⟨[],0⟩,Nat.le_refl _,Gh.toR (.tup [.agg (cGChart p1),.int .i64 0,.int .i64 2]) rfl,rfl,BU.h⟩
 replace hF:=q09 h7 hF
 refine st ?_
 refine WPU.skip ?_
 refine st ?_
 obtain ⟨b9,h10,hF⟩:=q00 hF
 refine WPU.joinK (fun tm σ=>tm=fr 117 [(2,.ptr 0 0 0),(3,.ptr 1 0 0),(4,.ptr 2 0 0),(35,.bool b9)]∧σ=⟨[(2,.row [.int .i64 0,.nils] 24),(1,.row (cGEdge p2) 42),(0,.row (cGChart p1) 24)],3⟩) ?_ ?_
 rintro _ _ ⟨rfl,rfl⟩
 refine st ?_
 refine WPU.condS (t:=b9) rfl (fun h11=>?_) (fun h11=>?_)
 replace hF:=q0a h11 hF
 refine sr ?_
 refine RS.q (u:=.agg (cGChart p1)) rfl (q0o und24 rfl (q01 inf24) rfl rfl rfl) (RS.opn (u:=.junk) (σ':=⟨[(2,.row (cGChart p1) 24),(1,.row (cGEdge p2) 42),(0,.row (cGChart p1) 24)],3⟩) rfl (q0h (q01 inf24) rfl rfl rfl rfl rfl rfl rfl rfl) rfl ?_)
 repeat refine RS.as rfl rfl rfl rfl ?_
 refine sd ?_
 refine WPU.ret ?_
 refine st ?_
 have hr:=Option.some.inj hF
 subst hr
 exact ⟨.inr rfl,[.agg (cGChart p1),.int .i64 0,.int .i64 14],q9i (q0o und24 rfl (q01 inf24) rfl rfl rfl) (q1g rfl (q1g rfl (q1b))),.tup [.agg (cGChart p1),.int .i64 0,.int .i64 14],⟨[],0⟩,Nat.le_refl _,Gh.toR (.tup [.agg (cGChart p1),.int .i64 0,.int .i64 14]) rfl,rfl,BU.h⟩
 replace hF:=q09 h11 hF
 refine st ?_
 refine WPU.skip ?_
 refine st ?_
 obtain ⟨r12,h13,hF⟩:=q00 hF
 refine sr ?_
 refine RS.q (u:=.agg (cGChart p1)) rfl (q0o und24 rfl (q01 inf24) rfl rfl rfl) (RS.q (u:=.agg (cGEdge p2)) rfl (q0o und42 rfl (q01 inf42) rfl rfl rfl) (RS.call (u:=.bool r12) (args:=[.agg (cGChart p1),.agg (cGEdge p2)]) rfl (q0b rfl rfl fn34 hb34 rfl rfl) (qbd n p1 p2 r12 h13 _) rfl rfl (RS.q (u:=.bool (!r12)) rfl (op_un rfl rfl rfl rfl) ?_)))
 refine sd ?_
 refine WPU.condS (t:=(!r12)) rfl (fun h14=>?_) (fun h14=>?_)
 replace hF:=q0a h14 hF
 refine sr ?_
 refine RS.q (u:=.agg (cGChart p1)) rfl (q0o und24 rfl (q01 inf24) rfl rfl rfl) (RS.opn (u:=.junk) (σ':=⟨[(2,.row (cGChart p1) 24),(1,.row (cGEdge p2) 42),(0,.row (cGChart p1) 24)],3⟩) rfl (q0h (q01 inf24) rfl rfl rfl rfl rfl rfl rfl rfl) rfl ?_)
 repeat refine RS.as rfl rfl rfl rfl ?_
 refine sd ?_
 refine WPU.ret ?_
 refine st ?_
 have hr:=Option.some.inj hF
 subst hr
 exact ⟨.inr rfl,[.agg (cGChart p1),.int .i64 0,.int .i64 13],q9i (q0o und24 rfl (q01 inf24) rfl rfl rfl) (q1g rfl (q1g rfl (q1b))),.tup [.agg (cGChart p1),.int .i64 0,.int .i64 13],⟨[],0⟩,Nat.le_refl _,Gh.toR (.tup [.agg (cGChart p1),.int .i64 0,.int .i64 13]) rfl,rfl,BU.h⟩
 replace hF:=q09 h14 hF
 refine st ?_
 refine WPU.skip ?_
 refine sr ?_
 refine RS.q (u:=.ptr 0 0 1) rfl (q07 und24 rfl (q01 inf22) rfl rfl rfl) (RS.q (u:=.isl false (List.map cGEdge p1.Edges)) rfl (q05 und22 rfl rfl rfl rfl) (RS.q rfl (q0l rfl rfl rfl (q0e cGEdge und22)) (RS.mv rfl rfl rfl rfl ?_)))
 refine sd ?_
 refine WPU.ghost (tm':=fr 117 [(2,.ptr 0 0 0),(3,.ptr 1 0 0),(4,.ptr 2 0 0),(43,.isl false (List.map cGEdge p1.Edges)),(44,.int .i64 (p1.Edges.length:Int)),(45,.int .i64 0)]) (Gh.sub ⟨rfl,rfl,rfl,rfl,rfl,rfl,trivial⟩) (Nat.zero_le _) ?_
 refine WPU.loopK (fun m tm σ=>∃ z33:Int,q3l p1 p2 n m z33=some r∧tm=fr 117 [(2,.ptr 0 0 0),(3,.ptr 1 0 0),(4,.ptr 2 0 0),(43,.isl false (List.map cGEdge p1.Edges)),(44,.int .i64 (p1.Edges.length:Int)),(45,.int .i64 z33)]∧σ=⟨[(2,.row [.int .i64 0,.nils] 24),(1,.row (cGEdge p2) 42),(0,.row (cGChart p1) 24)],3⟩) (fun tm σ=>q6l p1 p2=some r∧tm=fr 117 [(2,.ptr 0 0 0),(3,.ptr 1 0 0),(4,.ptr 2 0 0)]∧σ=⟨[(2,.row [.int .i64 0,.nils] 24),(1,.row (cGEdge p2) 42),(0,.row (cGChart p1) 24)],3⟩) n ⟨0,hF,rfl,rfl⟩ ?_ ?_
 rintro _ _ ⟨hF,rfl,rfl⟩
 unfold q6l at hF
 refine sr ?_
 refine RS.q (u:=.ptr 0 0 1) rfl (q07 und24 rfl (q01 inf22) rfl rfl rfl) (RS.q (u:=.isl false (List.map cGEdge p1.Edges)) rfl (q05 und22 rfl rfl rfl rfl) (RS.q rfl (q0l rfl rfl rfl (q0e cGEdge und22)) ?_))
 refine sd ?_
 obtain ⟨l34,h35,hF⟩:=q00 hF
 obtain ⟨h36,hF⟩:=q0v hF
 refine WPU.drawE Try.tb_ok [(0,8),(0,9),(1,8),(1,9),(2,8),(3,8),(4,8),(5,8),(6,8),(11,8),(11,9),(11,12)] (by kernel_rfl) ?_
 refine RD.q (u:=.ptr 0 0 0) rfl (q07 und24 rfl (q01 inf3) rfl rfl rfl) (RD.q (u:=.int .i64 p1.Words) rfl (q05 und3 rfl rfl rfl rfl) (RD.q (u:=.ptr 0 0 1) rfl (q07 und24 rfl (q01 inf22) rfl rfl rfl) (RD.q (u:=.isl false (List.map cGEdge p1.Edges)) rfl (q05 und22 rfl rfl rfl rfl) ?_)))
 repeat refine RD.mv rfl rfl rfl rfl ?_
 refine RD.q (u:=.isl true (List.map cGEdge l34)) rfl (op_slice rfl em_n (em_s rfl) (em_s rfl) (sl_full cGEdge und22 (q01 inf42) q0f h35)) (RD.q (u:=.agg (cGEdge p2)) rfl (q0o und42 rfl (q01 inf42) rfl rfl rfl) (RD.act (u:=.sl 3 0 1 1) (σ':=⟨[(3,.row (cGEdge p2) 42),(2,.row [.int .i64 0,.nils] 24),(1,.row (cGEdge p2) 42),(0,.row (cGChart p1) 24)],4⟩) rfl (q71 und22 inf42 rfl rfl rfl rfl rfl rfl rfl) rfl rfl (RD.act (u:=.vl 4 0 0 ((l34++[p2]).length)) (σ':=⟨[(4,.vec (List.map cGEdge (l34++[p2])).flatten 42 12 0),(3,.row (cGEdge p2) 42),(2,.row [.int .i64 0,.nils] 24),(1,.row (cGEdge p2) 42),(0,.row (cGChart p1) 24)],5⟩) rfl (op_app rfl rfl rfl rfl (app_full cGEdge ([p2]) und22 und22 inf42 rfl q0f (qbz cGEdge [p2] rfl rfl rfl rfl) (Nat.le_of_ble_eq_true rfl) h36)) rfl rfl (RD.q (u:=.agg [.int .i64 p1.Words,.vl 4 0 0 ((l34++[p2]).length)]) rfl (q7g bd24 rfl rfl rfl) (RD.mv rfl rfl rfl rfl (RD.actn (u:=.junk) (σ':=⟨[(4,.vec (List.map cGEdge (l34++[p2])).flatten 42 12 0),(3,.row (cGEdge p2) 42),(2,.row [.int .i64 p1.Words,.vl 4 0 0 ((l34++[p2]).length)] 24),(1,.row (cGEdge p2) 42),(0,.row (cGChart p1) 24)],5⟩) rfl (q0h (q01 inf24) rfl rfl rfl rfl rfl rfl rfl rfl) rfl ?_))))))
 repeat refine RD.as rfl rfl rfl rfl ?_
 refine RD.done ⟨by kernel_rfl,⟨q07 und24 rfl (q01 inf3) rfl rfl rfl,⟨q07 und24 rfl (q01 inf3) rfl rfl rfl,⟨q05 und3 rfl rfl rfl rfl,⟨q05 und3 rfl rfl rfl rfl,⟨q07 und24 rfl (q01 inf22) rfl rfl rfl,⟨q05 und22 rfl rfl rfl rfl,⟨q06 rfl,⟨q06 rfl,⟨op_slice rfl em_n (em_s rfl) (em_s rfl) (sl_full cGEdge und22 (q01 inf42) q0f h35),⟨q06 rfl,⟨q06 rfl,⟨q06 rfl,trivial⟩⟩⟩⟩⟩⟩⟩⟩⟩⟩⟩⟩,?_⟩
 refine st ?_
 refine WPU.ret ?_
 refine st ?_
 have hr:=Option.some.inj hF
 subst hr
 exact ⟨.inr rfl,[.agg [.int .i64 p1.Words,.vl 4 0 0 ((l34++[p2]).length)],.int .i64 (p1.Edges.length:Int),.int .i64 0],q9i (q0o und24 rfl (q01 inf24) rfl rfl rfl) (q1g rfl (q1g rfl (q1b))),.tup [.agg [.int .i64 p1.Words,.isl false (List.map cGEdge (l34++[p2]))],.int .i64 (p1.Edges.length:Int),.int .i64 0],⟨[],0⟩,Nat.le_refl _,Gh.trans (Gh.fz (tm':=[.tup [.agg [.int .i64 p1.Words,.isl false (List.map cGEdge (l34++[p2]))],.int .i64 (p1.Edges.length:Int),.int .i64 0]]) (h':=[(3,.row (cGEdge p2) 42),(2,.row [.int .i64 p1.Words,.isl false (List.map cGEdge (l34++[p2]))] 24),(1,.row (cGEdge p2) 42),(0,.row (cGChart p1) 24)]) 4 (.vec (List.map cGEdge (l34++[p2])).flatten 42 12 0) 12 rfl (by simp) (by simp only [oneU,q0x,q0m,q1x,q12,q20,q16,q15,q14,q13,q0y,q1y,q1z,q1w,q21,q39,junkT,fz_vl q0f,q0k,q70]) (by simp only [fzH,fzB,ug,Nat.beq,cond_true,cond_false,oneU,q0x,q0m,q1x,q12,q20,q16,q15,q14,q13,q0y,q1y,q1z,q1w,q21,q39,junkT,fz_vl q0f,q0k,q70])) (Gh.toR (.tup [.agg [.int .i64 p1.Words,.isl false (List.map cGEdge (l34++[p2]))],.int .i64 (p1.Edges.length:Int),.int .i64 0]) rfl),rfl,BU.h⟩
 rintro m1 _ _ ⟨z33,hF,rfl,rfl⟩
 rcases m1 with _ | m1
 cases hF
 unfold q3l at hF
 refine sr ?_
 refine RS.q rfl (q02 rfl rfl (q1q _ _ _) rfl) ?_
 refine sd ?_
 refine WPU.condS (t:=(decide (z33<(p1.Edges.length:Int)))) rfl (fun h37=>?_) (fun h37=>?_)
 replace hF:=q0a h37 hF
 refine st ?_
 refine WPU.skip ?_
 refine st ?_
 refine WPU.block ?_
 refine st ?_
 obtain ⟨x38,h39,hF⟩:=q00 hF
 refine sr ?_
 refine RS.q (u:=.iptr (cGEdge x38)) rfl (q1e rfl rfl (q0p cGEdge und22 (q01 inf42) q0f h39 rfl)) (RS.q (u:=.agg (cGEdge x38)) rfl (q3a und42 rfl (q01 inf42) rfl rfl) (RS.q (u:=.ptr 3 0 0) (σ':=⟨[(3,.row [.int .i64 0,.int .i64 0,.int .i64 0,.int .i64 0,.str [],.nils,.int .i64 0,.str [],.int .i64 0,.int .i64 0,.nils,.nils] 42),(2,.row [.int .i64 0,.nils] 24),(1,.row (cGEdge p2) 42),(0,.row (cGChart p1) 24)],4⟩) rfl (q1i inf42 rfl rfl) (RS.as rfl rfl rfl rfl (RS.opn (u:=.junk) (σ':=⟨[(3,.row (cGEdge x38) 42),(2,.row [.int .i64 0,.nils] 24),(1,.row (cGEdge p2) 42),(0,.row (cGChart p1) 24)],4⟩) rfl (q0h (q01 inf42) rfl rfl rfl rfl rfl rfl rfl rfl) rfl ?_))))
 refine sd ?_
 obtain ⟨b43,h44,hF⟩:=q00 hF
 refine WPU.joinK (fun tm σ=>tm=fr 117 [(2,.ptr 0 0 0),(3,.ptr 1 0 0),(4,.ptr 2 0 0),(7,.int .i64 z33),(8,.ptr 3 0 0),(43,.isl false (List.map cGEdge p1.Edges)),(44,.int .i64 (p1.Edges.length:Int)),(45,.int .i64 z33),(75,.bool b43)]∧σ=⟨[(3,.row (cGEdge x38) 42),(2,.row [.int .i64 0,.nils] 24),(1,.row (cGEdge p2) 42),(0,.row (cGChart p1) 24)],4⟩) ?_ ?_
 rintro _ _ ⟨rfl,rfl⟩
 refine st ?_
 refine WPU.condS (t:=b43) rfl (fun h45=>?_) (fun h45=>?_)
 replace hF:=q0a h45 hF
 refine st ?_
 refine WPU.exit ?_
 refine sr ?_
 refine RS.q rfl (q02 rfl rfl (q35 _ _ _) rfl) (RS.mv rfl rfl rfl rfl ?_)
 refine sd ?_
 exact ⟨m1,_,_,Nat.lt_succ_self _,⟨(IntKind.i64.wrap (z33+1)),hF,rfl,rfl⟩,(Nat.zero_le _),Gh.toC (n1:=3) ⟨rfl,rfl,rfl,rfl,rfl,rfl,trivial⟩ rfl (Nat.zero_le _) (by simp)⟩
 replace hF:=q09 h45 hF
 refine st ?_
 refine WPU.skip ?_
 refine st ?_
 obtain ⟨b56,h57,hF⟩:=q00 hF
 refine WPU.joinK (fun tm σ=>tm=fr 117 [(2,.ptr 0 0 0),(3,.ptr 1 0 0),(4,.ptr 2 0 0),(7,.int .i64 z33),(43,.isl false (List.map cGEdge p1.Edges)),(44,.int .i64 (p1.Edges.length:Int)),(45,.int .i64 z33),(98,.bool b56)]∧σ=⟨[(3,.row (cGEdge x38) 42),(2,.row [.int .i64 0,.nils] 24),(1,.row (cGEdge p2) 42),(0,.row (cGChart p1) 24)],4⟩) ?_ ?_
 rintro _ _ ⟨rfl,rfl⟩
 refine st ?_
 refine WPU.condS (t:=b56) rfl (fun h58=>?_) (fun h58=>?_)
 replace hF:=q0a h58 hF
 refine sr ?_
 refine RS.q (u:=.agg (cGChart p1)) rfl (q0o und24 rfl (q01 inf24) rfl rfl rfl) (RS.mv rfl rfl rfl rfl (RS.opn (u:=.junk) (σ':=⟨[(3,.row (cGEdge x38) 42),(2,.row (cGChart p1) 24),(1,.row (cGEdge p2) 42),(0,.row (cGChart p1) 24)],4⟩) rfl (q0h (q01 inf24) rfl rfl rfl rfl rfl rfl rfl rfl) rfl ?_))
 repeat refine RS.as rfl rfl rfl rfl ?_
 refine sd ?_
 refine WPU.ret ?_
 refine st ?_
 have hr:=Option.some.inj hF
 subst hr
 exact ⟨.inr rfl,[.agg (cGChart p1),.int .i64 z33,.int .i64 4],q9i (q0o und24 rfl (q01 inf24) rfl rfl rfl) (q1g rfl (q1g rfl (q1b))),.tup [.agg (cGChart p1),.int .i64 z33,.int .i64 4],⟨[],0⟩,Nat.le_refl _,Gh.toR (.tup [.agg (cGChart p1),.int .i64 z33,.int .i64 4]) rfl,rfl,BU.h⟩
 replace hF:=q09 h58 hF
 refine st ?_
 refine WPU.skip ?_
 refine sr ?_
 refine RS.q rfl (q02 rfl rfl (q35 _ _ _) rfl) (RS.mv rfl rfl rfl rfl ?_)
 refine sd ?_
 exact ⟨m1,_,_,Nat.lt_succ_self _,⟨(IntKind.i64.wrap (z33+1)),hF,rfl,rfl⟩,(Nat.zero_le _),Gh.toC (n1:=3) ⟨rfl,rfl,rfl,rfl,rfl,rfl,trivial⟩ rfl (Nat.zero_le _) (by simp)⟩
 rcases q0j (p2.Kind == 1) with h46 | h46
 replace h57:=q0a h46 h57
 obtain ⟨r47,h48,h57⟩:=q00 h57
 rcases q0j (r47 == 0) with h49 | h49
 replace h57:=q0a h49 h57
 replace h57:=Option.some.inj h57
 subst h57
 refine sr ?_
 refine RS.q (u:=.ptr 1 0 3) rfl (q07 und42 rfl (q01 inf3) rfl rfl rfl) (RS.q (u:=.int .i64 p2.Kind) rfl (q05 und3 rfl rfl rfl rfl) (RS.q rfl (q02 rfl rfl (q0d _ _ _) rfl) (RS.mv rfl rfl rfl rfl (RS.op (u:=.ptr 3 0 6) (want1 rfl rfl rfl h46) (q07 und42 rfl (q01 inf37) rfl rfl rfl) rfl rfl (RS.op (u:=.agg (xGDeriv x38.Lex)) (want1 rfl rfl rfl h46) (q0o und37 rfl (q01 inf37) rfl rfl rfl) rfl rfl (RS.op (u:=.ptr 1 0 6) (want1 rfl rfl rfl h46) (q07 und42 rfl (q01 inf37) rfl rfl rfl) rfl rfl (RS.op (u:=.agg (xGDeriv p2.Lex)) (want1 rfl rfl rfl h46) (q0o und37 rfl (q01 inf37) rfl rfl rfl) rfl rfl ?_)))))))
 refine RS.call (u:=.int .i64 r47) (args:=[.agg (xGDeriv x38.Lex),.agg (xGDeriv p2.Lex)]) (want1 rfl rfl rfl h46) (q0b rfl rfl fn35 hb35 rfl rfl) (q47 n x38.Lex p2.Lex r47 h48 _) rfl rfl (RS.op (want1 rfl rfl rfl h46) (q02 rfl rfl (q0d _ _ _) rfl) rfl rfl (RS.q (u:=.bool (r47 == 0)) rfl (q04 rfl h46 rfl) (RS.mv rfl rfl rfl rfl ?_)))
 repeat refine RS.no (want0 rfl rfl rfl h49) rfl rfl ?_
 repeat refine RS.no (wantT rfl rfl rfl) rfl rfl ?_
 refine RS.no (want0 rfl rfl rfl h49) rfl rfl (RS.q (u:=.bool true) rfl (q04 rfl h49 rfl) ?_)
 refine sd ?_
 exact ⟨_,_,⟨rfl,rfl⟩,(Nat.zero_le _),Gh.toC (n1:=4) ⟨rfl,rfl,rfl,rfl,rfl,rfl,rfl,rfl,trivial⟩ rfl (Nat.zero_le _) (by simp)⟩
 replace h57:=q09 h49 h57
 rcases q0j (p2.Kind == 2) with h50 | h50
 replace h57:=q0a h50 h57
 obtain ⟨r51,h52,h57⟩:=q00 h57
 replace h57:=Option.some.inj h57
 subst h57
 refine sr ?_
 refine RS.q (u:=.ptr 1 0 3) rfl (q07 und42 rfl (q01 inf3) rfl rfl rfl) (RS.q (u:=.int .i64 p2.Kind) rfl (q05 und3 rfl rfl rfl rfl) (RS.q rfl (q02 rfl rfl (q0d _ _ _) rfl) (RS.mv rfl rfl rfl rfl (RS.op (u:=.ptr 3 0 6) (want1 rfl rfl rfl h46) (q07 und42 rfl (q01 inf37) rfl rfl rfl) rfl rfl (RS.op (u:=.agg (xGDeriv x38.Lex)) (want1 rfl rfl rfl h46) (q0o und37 rfl (q01 inf37) rfl rfl rfl) rfl rfl (RS.op (u:=.ptr 1 0 6) (want1 rfl rfl rfl h46) (q07 und42 rfl (q01 inf37) rfl rfl rfl) rfl rfl (RS.op (u:=.agg (xGDeriv p2.Lex)) (want1 rfl rfl rfl h46) (q0o und37 rfl (q01 inf37) rfl rfl rfl) rfl rfl ?_)))))))
 refine RS.call (u:=.int .i64 r47) (args:=[.agg (xGDeriv x38.Lex),.agg (xGDeriv p2.Lex)]) (want1 rfl rfl rfl h46) (q0b rfl rfl fn35 hb35 rfl rfl) (q47 n x38.Lex p2.Lex r47 h48 _) rfl rfl (RS.op (want1 rfl rfl rfl h46) (q02 rfl rfl (q0d _ _ _) rfl) rfl rfl (RS.q (u:=.bool (r47 == 0)) rfl (q04 rfl h46 rfl) (RS.mv rfl rfl rfl rfl (RS.op (u:=.ptr 1 0 3) (want1 rfl rfl rfl h49) (q07 und42 rfl (q01 inf3) rfl rfl rfl) rfl rfl (RS.op (u:=.int .i64 p2.Kind) (want1 rfl rfl rfl h49) (q05 und3 rfl rfl rfl rfl) rfl rfl (RS.op (want1 rfl rfl rfl h49) (q02 rfl rfl (q0d _ _ _) rfl) rfl rfl (RS.op (want1 rfl rfl rfl h49) (q06 rfl) rfl rfl ?_)))))))
 refine RS.op (u:=.ptr 3 0 5) (want1 rfl rfl rfl h50) (q07 und42 rfl (q01 inf34) rfl rfl rfl) rfl rfl (RS.op (u:=.isl false (List.map (cI .i64) x38.Kids)) (want1 rfl rfl rfl h50) (q05 und34 rfl rfl rfl rfl) rfl rfl (RS.op (u:=.ptr 1 0 5) (want1 rfl rfl rfl h50) (q07 und42 rfl (q01 inf34) rfl rfl rfl) rfl rfl (RS.op (u:=.isl false (List.map (cI .i64) p2.Kids)) (want1 rfl rfl rfl h50) (q05 und34 rfl rfl rfl rfl) rfl rfl (RS.call (u:=.bool r51) (args:=[.isl false (List.map (cI .i64) x38.Kids),.isl false (List.map (cI .i64) p2.Kids)]) (want1 rfl rfl rfl h50) (q0b rfl rfl fn36 hb36 rfl rfl) (q6f n x38.Kids p2.Kids r51 h52 _) rfl rfl (RS.op (u:=.bool r51) (want1 rfl rfl rfl h49) (q04 rfl h50 rfl) rfl rfl (RS.q (u:=.bool r51) rfl (q03 rfl h49 rfl) ?_))))))
 refine sd ?_
 exact ⟨_,_,⟨rfl,rfl⟩,(Nat.zero_le _),Gh.toC (n1:=4) ⟨rfl,rfl,rfl,rfl,rfl,rfl,rfl,rfl,trivial⟩ rfl (Nat.zero_le _) (by simp)⟩
 replace h57:=q09 h50 h57
 replace h57:=Option.some.inj h57
 subst h57
 refine sr ?_
 refine RS.q (u:=.ptr 1 0 3) rfl (q07 und42 rfl (q01 inf3) rfl rfl rfl) (RS.q (u:=.int .i64 p2.Kind) rfl (q05 und3 rfl rfl rfl rfl) (RS.q rfl (q02 rfl rfl (q0d _ _ _) rfl) (RS.mv rfl rfl rfl rfl (RS.op (u:=.ptr 3 0 6) (want1 rfl rfl rfl h46) (q07 und42 rfl (q01 inf37) rfl rfl rfl) rfl rfl (RS.op (u:=.agg (xGDeriv x38.Lex)) (want1 rfl rfl rfl h46) (q0o und37 rfl (q01 inf37) rfl rfl rfl) rfl rfl (RS.op (u:=.ptr 1 0 6) (want1 rfl rfl rfl h46) (q07 und42 rfl (q01 inf37) rfl rfl rfl) rfl rfl (RS.op (u:=.agg (xGDeriv p2.Lex)) (want1 rfl rfl rfl h46) (q0o und37 rfl (q01 inf37) rfl rfl rfl) rfl rfl ?_)))))))
 refine RS.call (u:=.int .i64 r47) (args:=[.agg (xGDeriv x38.Lex),.agg (xGDeriv p2.Lex)]) (want1 rfl rfl rfl h46) (q0b rfl rfl fn35 hb35 rfl rfl) (q47 n x38.Lex p2.Lex r47 h48 _) rfl rfl (RS.op (want1 rfl rfl rfl h46) (q02 rfl rfl (q0d _ _ _) rfl) rfl rfl (RS.q (u:=.bool (r47 == 0)) rfl (q04 rfl h46 rfl) (RS.mv rfl rfl rfl rfl (RS.op (u:=.ptr 1 0 3) (want1 rfl rfl rfl h49) (q07 und42 rfl (q01 inf3) rfl rfl rfl) rfl rfl (RS.op (u:=.int .i64 p2.Kind) (want1 rfl rfl rfl h49) (q05 und3 rfl rfl rfl rfl) rfl rfl (RS.op (want1 rfl rfl rfl h49) (q02 rfl rfl (q0d _ _ _) rfl) rfl rfl (RS.op (want1 rfl rfl rfl h49) (q06 rfl) rfl rfl ?_)))))))
 repeat refine RS.no (want0 rfl rfl rfl h50) rfl rfl ?_
 refine RS.op (u:=.bool false) (want1 rfl rfl rfl h49) (q03 rfl h50 rfl) rfl rfl (RS.q (u:=.bool false) rfl (q03 rfl h49 rfl) ?_)
 refine sd ?_
 exact ⟨_,_,⟨rfl,rfl⟩,(Nat.zero_le _),Gh.toC (n1:=4) ⟨rfl,rfl,rfl,rfl,rfl,rfl,rfl,rfl,trivial⟩ rfl (Nat.zero_le _) (by simp)⟩
 replace h57:=q09 h46 h57
 rcases q0j (p2.Kind == 2) with h53 | h53
 replace h57:=q0a h53 h57
 obtain ⟨r54,h55,h57⟩:=q00 h57
 replace h57:=Option.some.inj h57
 subst h57
 refine sr ?_
 refine RS.q (u:=.ptr 1 0 3) rfl (q07 und42 rfl (q01 inf3) rfl rfl rfl) (RS.q (u:=.int .i64 p2.Kind) rfl (q05 und3 rfl rfl rfl rfl) (RS.q rfl (q02 rfl rfl (q0d _ _ _) rfl) (RS.mv rfl rfl rfl rfl ?_)))
 repeat refine RS.no (want0 rfl rfl rfl h46) rfl rfl ?_
 refine RS.q (u:=.bool false) rfl (q03 rfl h46 rfl) (RS.mv rfl rfl rfl rfl (RS.op (u:=.ptr 1 0 3) (want1 rfl rfl rfl rfl) (q07 und42 rfl (q01 inf3) rfl rfl rfl) rfl rfl (RS.op (u:=.int .i64 p2.Kind) (want1 rfl rfl rfl rfl) (q05 und3 rfl rfl rfl rfl) rfl rfl (RS.op (want1 rfl rfl rfl rfl) (q02 rfl rfl (q0d _ _ _) rfl) rfl rfl (RS.op (want1 rfl rfl rfl rfl) (q06 rfl) rfl rfl (RS.op (u:=.ptr 3 0 5) (want1 rfl rfl rfl h53) (q07 und42 rfl (q01 inf34) rfl rfl rfl) rfl rfl (RS.op (u:=.isl false (List.map (cI .i64) x38.Kids)) (want1 rfl rfl rfl h53) (q05 und34 rfl rfl rfl rfl) rfl rfl ?_)))))))
 refine RS.op (u:=.ptr 1 0 5) (want1 rfl rfl rfl h53) (q07 und42 rfl (q01 inf34) rfl rfl rfl) rfl rfl (RS.op (u:=.isl false (List.map (cI .i64) p2.Kids)) (want1 rfl rfl rfl h53) (q05 und34 rfl rfl rfl rfl) rfl rfl (RS.call (u:=.bool r54) (args:=[.isl false (List.map (cI .i64) x38.Kids),.isl false (List.map (cI .i64) p2.Kids)]) (want1 rfl rfl rfl h53) (q0b rfl rfl fn36 hb36 rfl rfl) (q6f n x38.Kids p2.Kids r54 h55 _) rfl rfl (RS.op (u:=.bool r54) (want1 rfl rfl rfl rfl) (q04 rfl h53 rfl) rfl rfl (RS.q (u:=.bool r54) rfl (q03 rfl rfl rfl) ?_))))
 refine sd ?_
 exact ⟨_,_,⟨rfl,rfl⟩,(Nat.zero_le _),Gh.toC (n1:=4) ⟨rfl,rfl,rfl,rfl,rfl,rfl,rfl,rfl,trivial⟩ rfl (Nat.zero_le _) (by simp)⟩
 replace h57:=q09 h53 h57
 replace h57:=Option.some.inj h57
 subst h57
 refine sr ?_
 refine RS.q (u:=.ptr 1 0 3) rfl (q07 und42 rfl (q01 inf3) rfl rfl rfl) (RS.q (u:=.int .i64 p2.Kind) rfl (q05 und3 rfl rfl rfl rfl) (RS.q rfl (q02 rfl rfl (q0d _ _ _) rfl) (RS.mv rfl rfl rfl rfl ?_)))
 repeat refine RS.no (want0 rfl rfl rfl h46) rfl rfl ?_
 refine RS.q (u:=.bool false) rfl (q03 rfl h46 rfl) (RS.mv rfl rfl rfl rfl (RS.op (u:=.ptr 1 0 3) (want1 rfl rfl rfl rfl) (q07 und42 rfl (q01 inf3) rfl rfl rfl) rfl rfl (RS.op (u:=.int .i64 p2.Kind) (want1 rfl rfl rfl rfl) (q05 und3 rfl rfl rfl rfl) rfl rfl (RS.op (want1 rfl rfl rfl rfl) (q02 rfl rfl (q0d _ _ _) rfl) rfl rfl (RS.op (want1 rfl rfl rfl rfl) (q06 rfl) rfl rfl ?_)))))
 repeat refine RS.no (want0 rfl rfl rfl h53) rfl rfl ?_
 refine RS.op (u:=.bool false) (want1 rfl rfl rfl rfl) (q03 rfl h53 rfl) rfl rfl (RS.q (u:=.bool false) rfl (q03 rfl rfl rfl) ?_)
 refine sd ?_
 exact ⟨_,_,⟨rfl,rfl⟩,(Nat.zero_le _),Gh.toC (n1:=4) ⟨rfl,rfl,rfl,rfl,rfl,rfl,rfl,rfl,trivial⟩ rfl (Nat.zero_le _) (by simp)⟩
 rcases q0j (x38.Kind != p2.Kind) with h40 | h40
 replace h44:=q0a h40 h44
 replace h44:=Option.some.inj h44
 subst h44
 refine sr ?_
 refine RS.q (u:=.ptr 3 0 3) rfl (q07 und42 rfl (q01 inf3) rfl rfl rfl) (RS.q (u:=.int .i64 x38.Kind) rfl (q05 und3 rfl rfl rfl rfl) (RS.q (u:=.ptr 1 0 3) rfl (q07 und42 rfl (q01 inf3) rfl rfl rfl) (RS.q (u:=.int .i64 p2.Kind) rfl (q05 und3 rfl rfl rfl rfl) (RS.q rfl (q02 rfl rfl (q0c _ _ _) rfl) (RS.mv rfl rfl rfl rfl ?_)))))
 repeat refine RS.no (want0 rfl rfl rfl h40) rfl rfl ?_
 refine RS.q (u:=.bool true) rfl (q04 rfl h40 rfl) (RS.mv rfl rfl rfl rfl ?_)
 repeat refine RS.no (want0 rfl rfl rfl rfl) rfl rfl ?_
 refine RS.q (u:=.bool true) rfl (q04 rfl rfl rfl) (RS.mv rfl rfl rfl rfl ?_)
 repeat refine RS.no (want0 rfl rfl rfl rfl) rfl rfl ?_
 refine RS.q (u:=.bool true) rfl (q04 rfl rfl rfl) ?_
 refine sd ?_
 exact ⟨_,_,⟨rfl,rfl⟩,(Nat.zero_le _),Gh.toC (n1:=4) ⟨rfl,rfl,rfl,rfl,rfl,rfl,rfl,rfl,rfl,trivial⟩ rfl (Nat.zero_le _) (by simp)⟩
 replace h44:=q09 h40 h44
 rcases q0j (!bytesEq x38.Name p2.Name) with h41 | h41
 replace h44:=q0a h41 h44
 replace h44:=Option.some.inj h44
 subst h44
 refine sr ?_
 refine RS.q (u:=.ptr 3 0 3) rfl (q07 und42 rfl (q01 inf3) rfl rfl rfl) (RS.q (u:=.int .i64 x38.Kind) rfl (q05 und3 rfl rfl rfl rfl) (RS.q (u:=.ptr 1 0 3) rfl (q07 und42 rfl (q01 inf3) rfl rfl rfl) (RS.q (u:=.int .i64 p2.Kind) rfl (q05 und3 rfl rfl rfl rfl) (RS.q rfl (q02 rfl rfl (q0c _ _ _) rfl) (RS.mv rfl rfl rfl rfl (RS.op (u:=.ptr 3 0 4) (want1 rfl rfl rfl h40) (q07 und42 rfl (q01 inf9) rfl rfl rfl) rfl rfl (RS.op (u:=.str x38.Name) (want1 rfl rfl rfl h40) (q05 und9 rfl rfl rfl rfl) rfl rfl ?_)))))))
 refine RS.op (u:=.ptr 1 0 4) (want1 rfl rfl rfl h40) (q07 und42 rfl (q01 inf9) rfl rfl rfl) rfl rfl (RS.op (u:=.str p2.Name) (want1 rfl rfl rfl h40) (q05 und9 rfl rfl rfl rfl) rfl rfl (RS.op (u:=.bool (!bytesEq x38.Name p2.Name)) (want1 rfl rfl rfl h40) (q30 rfl rfl rfl rfl) rfl rfl (RS.q (u:=.bool (!bytesEq x38.Name p2.Name)) rfl (q03 rfl h40 rfl) (RS.mv rfl rfl rfl rfl ?_))))
 repeat refine RS.no (want0 rfl rfl rfl h41) rfl rfl ?_
 refine RS.q (u:=.bool true) rfl (q04 rfl h41 rfl) (RS.mv rfl rfl rfl rfl ?_)
 repeat refine RS.no (want0 rfl rfl rfl rfl) rfl rfl ?_
 refine RS.q (u:=.bool true) rfl (q04 rfl rfl rfl) ?_
 refine sd ?_
 exact ⟨_,_,⟨rfl,rfl⟩,(Nat.zero_le _),Gh.toC (n1:=4) ⟨rfl,rfl,rfl,rfl,rfl,rfl,rfl,rfl,rfl,trivial⟩ rfl (Nat.zero_le _) (by simp)⟩
 replace h44:=q09 h41 h44
 rcases q0j (x38.From != p2.From) with h42 | h42
 replace h44:=q0a h42 h44
 replace h44:=Option.some.inj h44
 subst h44
 refine sr ?_
 refine RS.q (u:=.ptr 3 0 3) rfl (q07 und42 rfl (q01 inf3) rfl rfl rfl) (RS.q (u:=.int .i64 x38.Kind) rfl (q05 und3 rfl rfl rfl rfl) (RS.q (u:=.ptr 1 0 3) rfl (q07 und42 rfl (q01 inf3) rfl rfl rfl) (RS.q (u:=.int .i64 p2.Kind) rfl (q05 und3 rfl rfl rfl rfl) (RS.q rfl (q02 rfl rfl (q0c _ _ _) rfl) (RS.mv rfl rfl rfl rfl (RS.op (u:=.ptr 3 0 4) (want1 rfl rfl rfl h40) (q07 und42 rfl (q01 inf9) rfl rfl rfl) rfl rfl (RS.op (u:=.str x38.Name) (want1 rfl rfl rfl h40) (q05 und9 rfl rfl rfl rfl) rfl rfl ?_)))))))
 refine RS.op (u:=.ptr 1 0 4) (want1 rfl rfl rfl h40) (q07 und42 rfl (q01 inf9) rfl rfl rfl) rfl rfl (RS.op (u:=.str p2.Name) (want1 rfl rfl rfl h40) (q05 und9 rfl rfl rfl rfl) rfl rfl (RS.op (u:=.bool (!bytesEq x38.Name p2.Name)) (want1 rfl rfl rfl h40) (q30 rfl rfl rfl rfl) rfl rfl (RS.q (u:=.bool (!bytesEq x38.Name p2.Name)) rfl (q03 rfl h40 rfl) (RS.mv rfl rfl rfl rfl (RS.op (u:=.ptr 3 0 0) (want1 rfl rfl rfl h41) (q07 und42 rfl (q01 inf3) rfl rfl rfl) rfl rfl (RS.op (u:=.int .i64 x38.From) (want1 rfl rfl rfl h41) (q05 und3 rfl rfl rfl rfl) rfl rfl (RS.op (u:=.ptr 1 0 0) (want1 rfl rfl rfl h41) (q07 und42 rfl (q01 inf3) rfl rfl rfl) rfl rfl ?_)))))))
 refine RS.op (u:=.int .i64 p2.From) (want1 rfl rfl rfl h41) (q05 und3 rfl rfl rfl rfl) rfl rfl (RS.op (want1 rfl rfl rfl h41) (q02 rfl rfl (q0c _ _ _) rfl) rfl rfl (RS.q (u:=.bool (x38.From != p2.From)) rfl (q03 rfl h41 rfl) (RS.mv rfl rfl rfl rfl ?_)))
 repeat refine RS.no (want0 rfl rfl rfl h42) rfl rfl ?_
 refine RS.q (u:=.bool true) rfl (q04 rfl h42 rfl) ?_
 refine sd ?_
 exact ⟨_,_,⟨rfl,rfl⟩,(Nat.zero_le _),Gh.toC (n1:=4) ⟨rfl,rfl,rfl,rfl,rfl,rfl,rfl,rfl,rfl,trivial⟩ rfl (Nat.zero_le _) (by simp)⟩
 replace h44:=q09 h42 h44
 replace h44:=Option.some.inj h44
 subst h44
 refine sr ?_
 refine RS.q (u:=.ptr 3 0 3) rfl (q07 und42 rfl (q01 inf3) rfl rfl rfl) (RS.q (u:=.int .i64 x38.Kind) rfl (q05 und3 rfl rfl rfl rfl) (RS.q (u:=.ptr 1 0 3) rfl (q07 und42 rfl (q01 inf3) rfl rfl rfl) (RS.q (u:=.int .i64 p2.Kind) rfl (q05 und3 rfl rfl rfl rfl) (RS.q rfl (q02 rfl rfl (q0c _ _ _) rfl) (RS.mv rfl rfl rfl rfl (RS.op (u:=.ptr 3 0 4) (want1 rfl rfl rfl h40) (q07 und42 rfl (q01 inf9) rfl rfl rfl) rfl rfl (RS.op (u:=.str x38.Name) (want1 rfl rfl rfl h40) (q05 und9 rfl rfl rfl rfl) rfl rfl ?_)))))))
 refine RS.op (u:=.ptr 1 0 4) (want1 rfl rfl rfl h40) (q07 und42 rfl (q01 inf9) rfl rfl rfl) rfl rfl (RS.op (u:=.str p2.Name) (want1 rfl rfl rfl h40) (q05 und9 rfl rfl rfl rfl) rfl rfl (RS.op (u:=.bool (!bytesEq x38.Name p2.Name)) (want1 rfl rfl rfl h40) (q30 rfl rfl rfl rfl) rfl rfl (RS.q (u:=.bool (!bytesEq x38.Name p2.Name)) rfl (q03 rfl h40 rfl) (RS.mv rfl rfl rfl rfl (RS.op (u:=.ptr 3 0 0) (want1 rfl rfl rfl h41) (q07 und42 rfl (q01 inf3) rfl rfl rfl) rfl rfl (RS.op (u:=.int .i64 x38.From) (want1 rfl rfl rfl h41) (q05 und3 rfl rfl rfl rfl) rfl rfl (RS.op (u:=.ptr 1 0 0) (want1 rfl rfl rfl h41) (q07 und42 rfl (q01 inf3) rfl rfl rfl) rfl rfl ?_)))))))
 refine RS.op (u:=.int .i64 p2.From) (want1 rfl rfl rfl h41) (q05 und3 rfl rfl rfl rfl) rfl rfl (RS.op (want1 rfl rfl rfl h41) (q02 rfl rfl (q0c _ _ _) rfl) rfl rfl (RS.q (u:=.bool (x38.From != p2.From)) rfl (q03 rfl h41 rfl) (RS.mv rfl rfl rfl rfl (RS.op (u:=.ptr 3 0 1) (want1 rfl rfl rfl h42) (q07 und42 rfl (q01 inf3) rfl rfl rfl) rfl rfl (RS.op (u:=.int .i64 x38.To) (want1 rfl rfl rfl h42) (q05 und3 rfl rfl rfl rfl) rfl rfl (RS.op (u:=.ptr 1 0 1) (want1 rfl rfl rfl h42) (q07 und42 rfl (q01 inf3) rfl rfl rfl) rfl rfl (RS.op (u:=.int .i64 p2.To) (want1 rfl rfl rfl h42) (q05 und3 rfl rfl rfl rfl) rfl rfl ?_)))))))
 refine RS.op (want1 rfl rfl rfl h42) (q02 rfl rfl (q0c _ _ _) rfl) rfl rfl (RS.q (u:=.bool (x38.To != p2.To)) rfl (q03 rfl h42 rfl) ?_)
 refine sd ?_
 exact ⟨_,_,⟨rfl,rfl⟩,(Nat.zero_le _),Gh.toC (n1:=4) ⟨rfl,rfl,rfl,rfl,rfl,rfl,rfl,rfl,rfl,trivial⟩ rfl (Nat.zero_le _) (by simp)⟩
 replace hF:=q09 h37 hF
 refine st ?_
 refine WPU.exit ?_
 refine st ?_
 exact ⟨_,_,⟨hF,rfl,rfl⟩,(Nat.zero_le _),Gh.toC (n1:=3) ⟨rfl,rfl,rfl,trivial⟩ rfl (Nat.zero_le _) (by simp)⟩
 rcases q0j (p2.Kind != 1) with h8 | h8
 replace h10:=q0a h8 h10
 replace h10:=Option.some.inj h10
 subst h10
 refine sr ?_
 refine RS.q (u:=.ptr 1 0 3) rfl (q07 und42 rfl (q01 inf3) rfl rfl rfl) (RS.q (u:=.int .i64 p2.Kind) rfl (q05 und3 rfl rfl rfl rfl) (RS.q rfl (q02 rfl rfl (q0c _ _ _) rfl) (RS.mv rfl rfl rfl rfl (RS.op (u:=.ptr 1 0 3) (want1 rfl rfl rfl h8) (q07 und42 rfl (q01 inf3) rfl rfl rfl) rfl rfl (RS.op (u:=.int .i64 p2.Kind) (want1 rfl rfl rfl h8) (q05 und3 rfl rfl rfl rfl) rfl rfl (RS.op (want1 rfl rfl rfl h8) (q02 rfl rfl (q0c _ _ _) rfl) rfl rfl (RS.q (u:=.bool (p2.Kind != 2)) rfl (q04 rfl h8 rfl) ?_)))))))
 refine sd ?_
 exact ⟨_,_,⟨rfl,rfl⟩,(Nat.zero_le _),Gh.toC (n1:=3) ⟨rfl,rfl,rfl,rfl,trivial⟩ rfl (Nat.zero_le _) (by simp)⟩
 replace h10:=q09 h8 h10
 replace h10:=Option.some.inj h10
 subst h10
 refine sr ?_
 refine RS.q (u:=.ptr 1 0 3) rfl (q07 und42 rfl (q01 inf3) rfl rfl rfl) (RS.q (u:=.int .i64 p2.Kind) rfl (q05 und3 rfl rfl rfl rfl) (RS.q rfl (q02 rfl rfl (q0c _ _ _) rfl) (RS.mv rfl rfl rfl rfl ?_)))
 repeat refine RS.no (want0 rfl rfl rfl h8) rfl rfl ?_
 refine RS.q (u:=.bool false) rfl (q03 rfl h8 rfl) ?_
 refine sd ?_
 exact ⟨_,_,⟨rfl,rfl⟩,(Nat.zero_le _),Gh.toC (n1:=3) ⟨rfl,rfl,rfl,rfl,trivial⟩ rfl (Nat.zero_le _) (by simp)⟩
 rcases q0j (decide (p2.From<0)) with h3 | h3
 replace h6:=q0a h3 h6
 replace h6:=Option.some.inj h6
 subst h6
 refine sr ?_
 refine RS.q (u:=.ptr 1 0 0) rfl (q07 und42 rfl (q01 inf3) rfl rfl rfl) (RS.q (u:=.int .i64 p2.From) rfl (q05 und3 rfl rfl rfl rfl) (RS.q rfl (q02 rfl rfl (q1q _ _ _) rfl) (RS.mv rfl rfl rfl rfl ?_)))
 repeat refine RS.no (want0 rfl rfl rfl h3) rfl rfl ?_
 refine RS.q (u:=.bool true) rfl (q04 rfl h3 rfl) (RS.mv rfl rfl rfl rfl ?_)
 repeat refine RS.no (want0 rfl rfl rfl rfl) rfl rfl ?_
 refine RS.q (u:=.bool true) rfl (q04 rfl rfl rfl) ?_
 refine sd ?_
 exact ⟨_,_,⟨rfl,rfl⟩,(Nat.zero_le _),Gh.toC (n1:=3) ⟨rfl,rfl,rfl,rfl,trivial⟩ rfl (Nat.zero_le _) (by simp)⟩
 replace h6:=q09 h3 h6
 rcases q0j (decide (p2.From ≥ p2.To)) with h4 | h4
 replace h6:=q0a h4 h6
 replace h6:=Option.some.inj h6
 subst h6
 refine sr ?_
 refine RS.q (u:=.ptr 1 0 0) rfl (q07 und42 rfl (q01 inf3) rfl rfl rfl) (RS.q (u:=.int .i64 p2.From) rfl (q05 und3 rfl rfl rfl rfl) (RS.q rfl (q02 rfl rfl (q1q _ _ _) rfl) (RS.mv rfl rfl rfl rfl (RS.op (u:=.ptr 1 0 0) (want1 rfl rfl rfl h3) (q07 und42 rfl (q01 inf3) rfl rfl rfl) rfl rfl (RS.op (u:=.int .i64 p2.From) (want1 rfl rfl rfl h3) (q05 und3 rfl rfl rfl rfl) rfl rfl (RS.op (u:=.ptr 1 0 1) (want1 rfl rfl rfl h3) (q07 und42 rfl (q01 inf3) rfl rfl rfl) rfl rfl (RS.op (u:=.int .i64 p2.To) (want1 rfl rfl rfl h3) (q05 und3 rfl rfl rfl rfl) rfl rfl ?_)))))))
 refine RS.op (want1 rfl rfl rfl h3) (q02 rfl rfl (qah _ _ _) rfl) rfl rfl (RS.q (u:=.bool (decide (p2.From ≥ p2.To))) rfl (q03 rfl h3 rfl) (RS.mv rfl rfl rfl rfl ?_))
 repeat refine RS.no (want0 rfl rfl rfl h4) rfl rfl ?_
 refine RS.q (u:=.bool true) rfl (q04 rfl h4 rfl) ?_
 refine sd ?_
 exact ⟨_,_,⟨rfl,rfl⟩,(Nat.zero_le _),Gh.toC (n1:=3) ⟨rfl,rfl,rfl,rfl,trivial⟩ rfl (Nat.zero_le _) (by simp)⟩
 replace h6:=q09 h4 h6
 replace h6:=Option.some.inj h6
 subst h6
 refine sr ?_
 refine RS.q (u:=.ptr 1 0 0) rfl (q07 und42 rfl (q01 inf3) rfl rfl rfl) (RS.q (u:=.int .i64 p2.From) rfl (q05 und3 rfl rfl rfl rfl) (RS.q rfl (q02 rfl rfl (q1q _ _ _) rfl) (RS.mv rfl rfl rfl rfl (RS.op (u:=.ptr 1 0 0) (want1 rfl rfl rfl h3) (q07 und42 rfl (q01 inf3) rfl rfl rfl) rfl rfl (RS.op (u:=.int .i64 p2.From) (want1 rfl rfl rfl h3) (q05 und3 rfl rfl rfl rfl) rfl rfl (RS.op (u:=.ptr 1 0 1) (want1 rfl rfl rfl h3) (q07 und42 rfl (q01 inf3) rfl rfl rfl) rfl rfl (RS.op (u:=.int .i64 p2.To) (want1 rfl rfl rfl h3) (q05 und3 rfl rfl rfl rfl) rfl rfl ?_)))))))
 refine RS.op (want1 rfl rfl rfl h3) (q02 rfl rfl (qah _ _ _) rfl) rfl rfl (RS.q (u:=.bool (decide (p2.From ≥ p2.To))) rfl (q03 rfl h3 rfl) (RS.mv rfl rfl rfl rfl (RS.op (u:=.ptr 1 0 1) (want1 rfl rfl rfl h4) (q07 und42 rfl (q01 inf3) rfl rfl rfl) rfl rfl (RS.op (u:=.int .i64 p2.To) (want1 rfl rfl rfl h4) (q05 und3 rfl rfl rfl rfl) rfl rfl (RS.op (u:=.ptr 0 0 0) (want1 rfl rfl rfl h4) (q07 und24 rfl (q01 inf3) rfl rfl rfl) rfl rfl (RS.op (u:=.int .i64 p1.Words) (want1 rfl rfl rfl h4) (q05 und3 rfl rfl rfl rfl) rfl rfl (RS.op (want1 rfl rfl rfl h4) (q02 rfl rfl (q6a _ _ _) rfl) rfl rfl ?_)))))))
 refine RS.q (u:=.bool (decide (p2.To > p1.Words))) rfl (q03 rfl h4 rfl) ?_
 refine sd ?_
 exact ⟨_,_,⟨rfl,rfl⟩,(Nat.zero_le _),Gh.toC (n1:=3) ⟨rfl,rfl,rfl,rfl,trivial⟩ rfl (Nat.zero_le _) (by simp)⟩
theorem q34 (n:Nat) (p1:GChart) (p2:GEdge) (r:GChart×Int×Int) (hF:q31 n p1 p2=some r) (σ:Sg):EvU Try.prog 14 [.agg (cGChart p1),.agg (cGEdge p2)] σ (fun u σ'=>u = .tup [.agg (cGChart r.1),.int .i64 r.2.1,.int .i64 r.2.2]∧σ'=σ) :=
 EvU.pure1C (chart_Add_0 n p1 p2 r hF) σ
def q4h (p2:GEdge) (l32:List GDeriv):Option (GDeriv) :=
 some (GDeriv.mk 2 p2.Name p2.From p2.To l32)
def q24 (p1:GChart) (p2:GEdge) (self:GChart→GEdge→Option (GDeriv)):Nat→Int→(List GDeriv)→Option (GDeriv)
 | 0,_,_=>none
 | m1+1,z29,l30 =>
  cond (decide (z29<(p2.Kids.length:Int)))
   (bindO (idxO p2.Kids z29) fun x35 =>
   bindO (idxO p1.Edges x35) fun x37 =>
   bindO (self p1 x37) fun r39 =>
   needO ((l30.length+1)*64≤140737488355328∧l30.length+1≤140737488355328) (
   (q24 p1 p2 self m1) (IntKind.i64.wrap (z29+1)) (l30++[r39])))
   (q4h p2 l30)
def q4w (n:Nat) (self:GChart→GEdge→Option (GDeriv)) (p1:GChart) (p2:GEdge):Option (GDeriv) :=
 cond (p2.Kind == 1)
  (some p2.Lex)
  (q24 p1 p2 self n 0 ([]:List GDeriv))
def q1v:Nat→GChart→GEdge→Option (GDeriv)
 | 0,_,_=>none
 | n+1,p1,p2=>q4w n (q1v n) p1 p2
def q6d (n:Nat) (p1:GChart) (p2:Int):Option (GDeriv) :=
 bindO (cond (decide (p2<0))
  (some true)
  (some (decide (p2 ≥ (p1.Edges.length:Int))))) fun b4 =>
 cond b4
  (some (GDeriv.mk 0 [] 0 0 []))
  (bindO (idxO p1.Edges p2) fun x7 =>
  bindO (q1v n p1 x7) fun r9 =>
  some r9)
def q7t (n:Nat) (self:GDeriv→Option (Bool)) (p1:GDeriv):Option (Bool) :=
 cond (p1.Kind == 0)
  (some ((p1.Kids.length:Int) == 0))
  (bindO (cond (p1.Kind == 1)
   (cond ((p1.Kids.length:Int) == 1)
    (bindO (idxO p1.Kids 0) fun x5 =>
    cond (x5.From == p1.From)
     (bindO (idxO p1.Kids 0) fun x8 =>
     cond (x8.To == p1.To)
      (bindO (idxO p1.Kids 0) fun x11 =>
      bindO (self x11) fun r13 =>
      some r13)
      (some false))
     (some false))
    (some false))
   (some false)) fun b15 =>
  some b15)
def q5x:Nat→GDeriv→Option (Bool)
 | 0,_=>none
 | n+1,p1=>q7t n (q5x n) p1
def qa6 (n:Nat) (p1:GDeriv):Option (Bool) :=
 bindO (cond (p1.Kind == 0)
  (cond (bytesEq p1.Name [])
   (cond (p1.From == 0)
    (cond (p1.To == 0)
     (some ((p1.Kids.length:Int) == 0))
     (some false))
    (some false))
   (some false))
  (some false)) fun b6 =>
 some b6
def q4x (p2:GEdge) (z42:Int):Option (Bool) :=
 bindO (cond (p2.Unary == z42)
  (some (decide (z42≤2)))
  (some false)) fun b44 =>
 some b44
def q7x (p1:GChart) (p2:GEdge) (z39:Int):Option (Bool) :=
 cond (z39 != p2.To)
  (some false)
  (cond ((p2.Kids.length:Int) == 1)
   (bindO (idxO p2.Kids 0) fun x46 =>
   bindO (idxO p1.Edges x46) fun x48 =>
   q4x p2 (IntKind.i64.wrap (x48.Unary+1)))
   (q4x p2 0))
def q4y (p1:GChart) (p2:GEdge):Nat→Int→Int→Option (Bool)
 | 0,_,_=>none
 | m1+1,z37,z38 =>
  cond (decide (z38<(p2.Kids.length:Int)))
   (bindO (idxO p2.Kids z38) fun x51 =>
   bindO (cond (decide (x51<0))
    (some true)
    (cond (decide (x51 ≥ (p1.Edges.length:Int)))
     (some true)
     (bindO (idxO p1.Edges x51) fun x55 =>
     some (x55.From != z37)))) fun b57 =>
   cond b57
    (some false)
    (bindO (idxO p1.Edges x51) fun x60 =>
    (q4y p1 p2 m1) x60.To (IntKind.i64.wrap (z38+1))))
   (q7x p1 p2 z37)
def q7w (n:Nat) (p1:GChart) (p2:GEdge):Option (Bool) :=
 cond (p2.Kind == 1)
  (bindO (cond (bytesEq p2.Name p2.Lex.Name)
   (cond ((p2.Kids.length:Int) == 0)
    (cond (p2.Unary == 0)
     (bindO (q5x n p2.Lex) fun r7 =>
     cond r7
      (cond (p2.Lex.From == p2.From)
       (some (p2.Lex.To == p2.To))
       (some false))
      (some false))
     (some false))
    (some false))
   (some false)) fun b11 =>
  some b11)
  (bindO (cond (bytesEq p2.Name [])
   (some true)
   (bindO (qa6 n p2.Lex) fun r14 =>
   cond (!r14)
    (some true)
    (cond (decide ((p2.Kids.length:Int)<1))
     (some true)
     (some (decide ((p2.Kids.length:Int) > 2)))))) fun b18 =>
  cond b18
   (some false)
   (q4y p1 p2 n p2.From 0))
def qaj (p1:GChart) (p2:GEdge) (l66:List GEdge):Option (GChart×Int×Int) :=
 needO ((l66.length+1)*160≤140737488355328∧l66.length+1≤140737488355328) (
 some ((GChart.mk p1.Words (l66++[p2])),(p1.Edges.length:Int),0))
def q6s (p1:GChart) (p2:GEdge):Nat→Int→(List GEdge)→Option (GChart×Int×Int)
 | 0,_,_=>none
 | m2+1,z63,l64 =>
  cond (decide (z63<(p1.Edges.length:Int)))
   (bindO (idxO p1.Edges z63) fun x70 =>
   needO ((l64.length+1)*160≤140737488355328∧l64.length+1≤140737488355328) (
   (q6s p1 p2 m2) (IntKind.i64.wrap (z63+1)) (l64++[x70])))
   (qaj p1 p2 l64)
def qai (p1:GChart) (p2:GEdge) (n:Nat)  : Option (GChart×Int×Int) :=
 q6s p1 p2 n 0 ([]:List GEdge)
def q6r (p1:GChart) (p2:GEdge) (n:Nat) (r15:GDeriv):Nat→Int→Option (GChart×Int×Int)
 | 0,_=>none
 | m1+1,z38 =>
  cond (decide (z38<(p1.Edges.length:Int)))
   (bindO (q6d n p1 z38) fun r74 =>
   bindO (q37 n r74 r15) fun r76 =>
   cond (r76 == 0)
    (some (p1,z38,4))
    ((q6r p1 p2 n r15 m1) (IntKind.i64.wrap (z38+1))))
   (qai p1 p2 n)
def qbq (n:Nat) (p1:GChart) (p2:GEdge):Option (GChart×Int×Int) :=
 bindO (cond (decide (p2.From<0))
  (some true)
  (cond (decide (p2.From ≥ p2.To))
   (some true)
   (some (decide (p2.To > p1.Words))))) fun b5 =>
 cond b5
  (some (p1,0,2))
  (bindO (cond (p2.Kind != 1)
   (some (p2.Kind != 2))
   (some false)) fun b9 =>
  cond b9
   (some (p1,0,14))
   (bindO (q7w n p1 p2) fun r12 =>
   cond (!r12)
    (some (p1,0,13))
    (bindO (q1v n p1 p2) fun r15 =>
    q6r p1 p2 n r15 n 0)))
def q1s (z10:Int) (rc1:Int→(List Int)→Option ((List Int))) (l21:List Int):Option ((List Int)) :=
 rc1 (IntKind.i64.wrap (z10+1)) l21
def q2m  (l13:List Int):Option ((List Int)) :=
 some l13
def q0u (p1:GChart) (c2:Int) (f1:GEdge→Int→Option (Bool)):Nat→Int→(List Int)→Option ((List Int))
 | 0,_,_=>none
 | m1+1,z10,l11 =>
  cond (decide (z10<(p1.Edges.length:Int)))
   (bindO (idxO p1.Edges z10) fun x16 =>
   bindO (f1 x16 c2) fun r18 =>
   cond r18
    (needO ((l11.length+1)*8≤140737488355328∧l11.length+1≤140737488355328) (
    q1s z10 (q0u p1 c2 f1 m1) (l11++[z10])))
    (q1s z10 (q0u p1 c2 f1 m1) l11))
   (q2m l11)
def q2a (f1:GEdge→Int→Option (Bool)) (n:Nat) (p1:GChart) (c2:Int):Option ((List Int)) :=
 q0u p1 c2 f1 n 0 ([]:List Int)
theorem q6g (f1:GEdge→Int→Option (Bool)) (hf1:∀ (a0:GEdge) (a1:Int) (r:Bool),f1 a0 a1=some r→EvU Try.prog 40 [.agg (cGEdge a0),.iptr [.int .i64 a1]] ⟨[],0⟩ (fun u _=>u = .bool r∧Bel 0 u)) (n:Nat) (p1:GChart) (c2:Int) (r:(List Int)) (hF:q2a f1 n p1 c2=some r):EvU Try.prog 39 [.agg (cGChart p1),.fn (.func 40) [] [.iptr [.int .i64 c2]]] ⟨[],0⟩ (fun u _=>u = .isl false (List.map (cI .i64) r)∧Bel 0 u):=by
 unfold q2a at hF
 have hf1S:∀ (a0:GEdge) (a1:Int) (r:Bool),f1 a0 a1=some r→∀ σ,EvU Try.prog 40 [.agg (cGEdge a0),.iptr [.int .i64 a1]] σ (fun u σ'=>u = .bool r∧σ'=σ):=fun a0 a1 r h σ=>EvU.pure1C (hf1 a0 a1 r h) σ
 refine EvU.of_body Try.tb_ok fn39 rfl ?_
 refine WPU.ghost (tm':=fr 25 [(0,.agg (cGChart p1)),(1,.fn (.func 40) [] [.iptr [.int .i64 c2]])]) (Gh.start (Nat.le_of_ble_eq_true rfl)) (Nat.zero_le _) ?_
 refine sr ?_
 refine RS.q (u:=.ptr 0 0 0) (σ':=⟨[(0,.row (cGChart p1) 24)],1⟩) rfl (q3x rfl rfl rfl) ?_
 refine se ?_
 refine se ?_
 refine RS.q (u:=.ptr 0 0 1) rfl (q07 und24 rfl (q01 inf22) rfl rfl rfl) (RS.q (u:=.isl false (List.map cGEdge p1.Edges)) rfl (q05 und22 rfl rfl rfl rfl) (RS.q rfl (q0l rfl rfl rfl (q0e cGEdge und22)) (RS.mv rfl rfl rfl rfl ?_)))
 refine sd ?_
 refine WPU.ghost (tm':=fr 25 [(1,.fn (.func 40) [] [.iptr [.int .i64 c2]]),(5,.vl 1 0 0 (([]:List Int).length)),(9,.isl false (List.map cGEdge p1.Edges)),(10,.int .i64 (p1.Edges.length:Int)),(11,.int .i64 0)]) (σ':=⟨[(1,.vec (List.map (cI .i64) ([]:List Int)).flatten 3 1 0),(0,.row (cGChart p1) 24)],2⟩) (Gh.trans (Gh.nilS 5 3 1 (by decide) (Nat.zero_le _) rfl rfl) (Gh.eqS ⟨rfl,rfl,rfl,rfl,rfl,trivial⟩ rfl)) (Nat.zero_le _) ?_
 refine WPU.ghost (tm':=fr 25 [(1,.fn (.func 40) [] [.iptr [.int .i64 c2]]),(5,.vl 1 0 0 (([]:List Int).length)),(9,.isl false (List.map cGEdge p1.Edges)),(10,.int .i64 (p1.Edges.length:Int)),(11,.int .i64 0)]) (Gh.sub ⟨rfl,rfl,rfl,rfl,rfl,trivial⟩) (Nat.zero_le _) ?_
 refine WPU.loopK (fun m tm σ=>∃ z10:Int,∃ l11:List Int,∃ t12:Nat,q0u p1 c2 f1 m z10 l11=some r∧tm=fr 25 [(1,.fn (.func 40) [] [.iptr [.int .i64 c2]]),(5,.vl 1 t12 0 l11.length),(9,.isl false (List.map cGEdge p1.Edges)),(10,.int .i64 (p1.Edges.length:Int)),(11,.int .i64 z10)]∧σ=⟨[(1,.vec (List.map (cI .i64) l11).flatten 3 1 t12),(0,.row (cGChart p1) 24)],2⟩) (fun tm σ=>∃ l13:List Int,∃ t14:Nat,q2m l13=some r∧tm=fr 25 [(5,.vl 1 t14 0 l13.length)]∧σ=⟨[(1,.vec (List.map (cI .i64) l13).flatten 3 1 t14),(0,.row (cGChart p1) 24)],2⟩) n ⟨0,([]:List Int),0,hF,rfl,rfl⟩ ?_ ?_
 rintro _ _ ⟨l13,t14,hF,rfl,rfl⟩
 unfold q2m at hF
 refine sr ?_
 refine sd ?_
 refine WPU.ret ?_
 refine st ?_
 have hr:=Option.some.inj hF
 subst hr
 exact ⟨.inr rfl,[.vl 1 t14 0 l13.length],q1g rfl (q1b),.isl false (List.map (cI .i64) l13),⟨[],0⟩,Nat.le_refl _,Gh.trans (Gh.fz (tm':=[.isl false (List.map (cI .i64) l13)]) (h':=[(0,.row (cGChart p1) 24)]) 1 (.vec (List.map (cI .i64) l13).flatten 3 1 t14) 1 rfl (by simp) (by simp only [oneU,q0x,q0m,q1x,q12,q20,q16,q15,q14,q13,q0y,q1y,q1z,q1w,q21,q39,junkT,fz_vl (q2j .i64),q0k]) (by simp only [fzH,fzB,ug,Nat.beq,cond_true,cond_false,oneU,q0x,q0m,q1x,q12,q20,q16,q15,q14,q13,q0y,q1y,q1z,q1w,q21,q39,junkT,fz_vl (q2j .i64),q0k])) (Gh.toR (.isl false (List.map (cI .i64) l13)) rfl),rfl,BU.h⟩
 rintro m1 _ _ ⟨z10,l11,t12,hF,rfl,rfl⟩
 rcases m1 with _ | m1
 cases hF
 unfold q0u at hF
 refine sr ?_
 refine RS.q rfl (q02 rfl rfl (q1q _ _ _) rfl) ?_
 refine sd ?_
 refine WPU.condS (t:=(decide (z10<(p1.Edges.length:Int)))) rfl (fun h15=>?_) (fun h15=>?_)
 replace hF:=q0a h15 hF
 refine st ?_
 refine WPU.skip ?_
 refine st ?_
 refine WPU.block ?_
 refine st ?_
 obtain ⟨x16,h17,hF⟩:=q00 hF
 refine sr ?_
 refine RS.q (u:=.iptr (cGEdge x16)) rfl (q1e rfl rfl (q0p cGEdge und22 (q01 inf42) q0f h17 rfl)) (RS.q (u:=.agg (cGEdge x16)) rfl (q3a und42 rfl (q01 inf42) rfl rfl) (RS.q (u:=.ptr 2 0 0) (σ':=⟨[(2,.row [.int .i64 0,.int .i64 0,.int .i64 0,.int .i64 0,.str [],.nils,.int .i64 0,.str [],.int .i64 0,.int .i64 0,.nils,.nils] 42),(1,.vec (List.map (cI .i64) l11).flatten 3 1 t12),(0,.row (cGChart p1) 24)],3⟩) rfl (q1i inf42 rfl rfl) (RS.as rfl rfl rfl rfl (RS.opn (u:=.junk) (σ':=⟨[(2,.row (cGEdge x16) 42),(1,.vec (List.map (cI .i64) l11).flatten 3 1 t12),(0,.row (cGChart p1) 24)],3⟩) rfl (q0h (q01 inf42) rfl rfl rfl rfl rfl rfl rfl rfl) rfl ?_))))
 refine sd ?_
 obtain ⟨r18,h19,hF⟩:=q00 hF
 refine sr ?_
 refine RS.q (u:=.agg (cGEdge x16)) rfl (q0o und42 rfl (q01 inf42) rfl rfl rfl) (RS.call (u:=.bool r18) (args:=[.agg (cGEdge x16),.iptr [.int .i64 c2]]) rfl (q0b rfl rfl fn40 hb40 rfl rfl) (hf1S x16 c2 r18 h19 _) rfl rfl ?_)
 refine sd ?_
 refine WPU.joinK (fun tm σ=>∃ l21:List Int,∃ t22:Nat,q1s z10 (q0u p1 c2 f1 m1) l21=some r∧tm=fr 25 [(1,.fn (.func 40) [] [.iptr [.int .i64 c2]]),(5,.vl 1 t22 0 l21.length),(9,.isl false (List.map cGEdge p1.Edges)),(10,.int .i64 (p1.Edges.length:Int)),(11,.int .i64 z10)]∧σ=⟨[(2,.row (cGEdge x16) 42),(1,.vec (List.map (cI .i64) l21).flatten 3 1 t22),(0,.row (cGChart p1) 24)],3⟩) ?_ ?_
 rintro _ _ ⟨l21,t22,hF,rfl,rfl⟩
 unfold q1s at hF
 refine sr ?_
 refine RS.q rfl (q02 rfl rfl (q35 _ _ _) rfl) (RS.mv rfl rfl rfl rfl ?_)
 refine sd ?_
 exact ⟨m1,_,_,Nat.lt_succ_self _,⟨(IntKind.i64.wrap (z10+1)),l21,t22,hF,rfl,rfl⟩,(Nat.zero_le _),Gh.toC (n1:=2) ⟨rfl,rfl,rfl,rfl,rfl,trivial⟩ rfl (Nat.zero_le _) (by simp)⟩
 refine WPU.condS (t:=r18) rfl (fun h20=>?_) (fun h20=>?_)
 replace hF:=q0a h20 hF
 refine st ?_
 obtain ⟨h23,hF⟩:=q0v hF
 refine sr ?_
 repeat refine RS.mv rfl rfl rfl rfl ?_
 refine RS.q (u:=.sl 3 0 1 1) (σ':=⟨[(3,.row [.int .i64 z10] 3),(2,.row (cGEdge x16) 42),(1,.vec (List.map (cI .i64) l11).flatten 3 1 t12),(0,.row (cGChart p1) 24)],4⟩) rfl (q71 und34 inf3 rfl rfl rfl rfl rfl rfl rfl) (RS.q (u:=.vl 1 (t12+1) 0 ((l11++[z10]).length)) (σ':=⟨[(3,.row [.int .i64 z10] 3),(2,.row (cGEdge x16) 42),(1,.vec (List.map (cI .i64) (l11++[z10])).flatten 3 1 (t12+1)),(0,.row (cGChart p1) 24)],4⟩) rfl (op_app rfl rfl rfl rfl (app_vl (cI .i64) ([z10]) und34 und34 inf3 rfl (q2j .i64) rfl (qbz (cI .i64) [z10] rfl rfl rfl rfl) h23)) ?_)
 refine sd ?_
 exact ⟨_,_,⟨(l11++[z10]),(t12+1),hF,rfl,rfl⟩,(Nat.zero_le _),Gh.toC (n1:=3) ⟨rfl,rfl,rfl,rfl,rfl,trivial⟩ rfl (Nat.zero_le _) (by simp)⟩
 replace hF:=q09 h20 hF
 refine st ?_
 refine WPU.skip ?_
 refine st ?_
 exact ⟨_,_,⟨l11,t12,hF,rfl,rfl⟩,(Nat.zero_le _),Gh.toC (n1:=3) ⟨rfl,rfl,rfl,rfl,rfl,trivial⟩ rfl (Nat.zero_le _) (by simp)⟩
 replace hF:=q09 h15 hF
 refine st ?_
 refine WPU.exit ?_
 refine st ?_
 exact ⟨_,_,⟨l11,t12,hF,rfl,rfl⟩,(Nat.zero_le _),Gh.toC (n1:=2) ⟨rfl,trivial⟩ rfl (Nat.zero_le _) (by simp)⟩
theorem q65 (f1:GEdge→Int→Option (Bool)) (hf1:∀ (a0:GEdge) (a1:Int) (r:Bool),f1 a0 a1=some r→EvU Try.prog 40 [.agg (cGEdge a0),.iptr [.int .i64 a1]] ⟨[],0⟩ (fun u _=>u = .bool r∧Bel 0 u)) (n:Nat) (p1:GChart) (c2:Int) (r:(List Int)) (hF:q2a f1 n p1 c2=some r) (σ:Sg):EvU Try.prog 39 [.agg (cGChart p1),.fn (.func 40) [] [.iptr [.int .i64 c2]]] σ (fun u σ'=>u = .isl false (List.map (cI .i64) r)∧σ'=σ) :=
 EvU.pure1C (q6g f1 hf1 n p1 c2 r hF) σ
def q45 (n:Nat) (p1:GEdge) (c2:Int):Option (Bool) :=
 some (p1.From == c2)
theorem q91 (n:Nat) (p1:GEdge) (c2:Int) (r:Bool) (hF:q45 n p1 c2=some r):EvU Try.prog 40 [.agg (cGEdge p1),.iptr [.int .i64 c2]] ⟨[],0⟩ (fun u _=>u = .bool r∧Bel 0 u):=by
 unfold q45 at hF
 refine EvU.of_body Try.tb_ok fn40 rfl ?_
 refine WPU.ghost (tm':=fr 8 [(0,.agg (cGEdge p1)),(1,.iptr [.int .i64 c2])]) (Gh.start (Nat.le_of_ble_eq_true rfl)) (Nat.zero_le _) ?_
 refine sr ?_
 refine RS.q (u:=.ptr 0 0 0) (σ':=⟨[(0,.row (cGEdge p1) 42)],1⟩) rfl (q3x rfl rfl rfl) ?_
 refine se ?_
 refine RS.q (u:=.ptr 0 0 0) rfl (q07 und42 rfl (q01 inf3) rfl rfl rfl) (RS.q (u:=.int .i64 p1.From) rfl (q05 und3 rfl rfl rfl rfl) (RS.q (u:=.int .i64 c2) rfl (q19 und3 rfl rfl rfl) (RS.q rfl (q02 rfl rfl (q0d _ _ _) rfl) ?_)))
 refine sd ?_
 refine WPU.ret ?_
 refine st ?_
 have hr:=Option.some.inj hF
 subst hr
 exact ⟨.inr rfl,[.bool (p1.From == c2)],q1g rfl (q1b),.bool (p1.From == c2),⟨[],0⟩,Nat.le_refl _,Gh.toR (.bool (p1.From == c2)) rfl,rfl,BU.h⟩
def q58 (n:Nat) (p1:GChart) (p2:Int):Option ((List Int)) :=
 bindO (q2a (q45 n) n p1 p2) fun r3 =>
 some r3
theorem qao (n:Nat) (p1:GChart) (p2:Int) (r:(List Int)) (hF:q58 n p1 p2=some r):EvU Try.prog 16 [.agg (cGChart p1),.int .i64 p2] ⟨[],0⟩ (fun u _=>u = .isl false (List.map (cI .i64) r)∧Bel 0 u):=by
 unfold q58 at hF
 refine EvU.of_body Try.tb_ok fn16 rfl ?_
 refine WPU.ghost (tm':=fr 8 [(0,.agg (cGChart p1)),(1,.int .i64 p2)]) (Gh.start (Nat.le_of_ble_eq_true rfl)) (Nat.zero_le _) ?_
 refine sr ?_
 refine RS.q (u:=.ptr 0 0 0) (σ':=⟨[(0,.row (cGChart p1) 24)],1⟩) rfl (q3x rfl rfl rfl) (RS.q (u:=.ptr 1 0 0) (σ':=⟨[(1,.row [.int .i64 p2] 3),(0,.row (cGChart p1) 24)],2⟩) rfl (q3x rfl rfl rfl) ?_)
 refine sd ?_
 refine WPU.ghost (tm':=fr 8 [(2,.ptr 0 0 0),(3,.iptr [.int .i64 p2])]) (σ':=⟨[(0,.row (cGChart p1) 24)],2⟩) (Gh.trans (Gh.sub (l':=[(2,.ptr 0 0 0),(3,.ptr 1 0 0)]) ⟨rfl,rfl,trivial⟩) (Gh.fzS (l':=[(2,.ptr 0 0 0),(3,.iptr [.int .i64 p2])]) (h':=[(0,.row (cGChart p1) 24)]) 1 (.row [.int .i64 p2] 3) 1 rfl (by simp) (by simp only [fzS,oneU,q0x,q0m,q1x,q12,q20,q16,q15,q14,q13,q0y,q1y,q1z,q1w,q21,q39,junkT,q69,q6h,q5p,q0k,q3o (show Nat.beq 0 1=false from rfl),q3n (show Nat.beq 0 1=false from rfl),q3m (show Nat.beq 0 1=false from rfl),Nat.reduceLeDiff,Nat.reduceMul,List.length_cons,List.length_nil,Nat.reduceAdd]<;>simp only [chunks,List.take,List.drop,List.map,cI,cB,cS,cL]) (by simp only [fzH,fzB,ug,Nat.beq,cond_true,cond_false,oneU,q0x,q0m,q1x,q12,q20,q16,q15,q14,q13,q0y,q1y,q1z,q1w,q21,q39,junkT,q69,q6h,q5p,q0k,q3o (show Nat.beq 0 1=false from rfl),q3n (show Nat.beq 0 1=false from rfl),q3m (show Nat.beq 0 1=false from rfl),Nat.reduceLeDiff,Nat.reduceMul,List.length_cons,List.length_nil,Nat.reduceAdd]<;>simp only [chunks,List.take,List.drop,List.map,cI,cB,cS,cL]))) (Nat.zero_le _) ?_
 refine st ?_
 obtain ⟨r3,h4,hF⟩:=q00 hF
 refine sr ?_
 refine RS.q (u:=.agg (cGChart p1)) rfl (q0o und24 rfl (q01 inf24) rfl rfl rfl) (RS.q rfl (op_fun rfl rfl) (RS.call (u:=.isl false (List.map (cI .i64) r3)) (args:=[.agg (cGChart p1),.fn (.func 40) [] [.iptr [.int .i64 p2]]]) rfl (q0b rfl rfl fn39 hb39 rfl rfl) (q65 (q45 n) (q91 n) n p1 p2 r3 h4 _) rfl rfl ?_))
 refine sd ?_
 refine WPU.ret ?_
 refine st ?_
 have hr:=Option.some.inj hF
 subst hr
 exact ⟨.inr rfl,[.isl false (List.map (cI .i64) r3)],q1g rfl (q1b),.isl false (List.map (cI .i64) r3),⟨[],0⟩,Nat.le_refl _,Gh.toR (.isl false (List.map (cI .i64) r3)) rfl,rfl,BU.h⟩
theorem q9v (n:Nat) (p1:GChart) (p2:Int) (r:(List Int)) (hF:q58 n p1 p2=some r) (σ:Sg):EvU Try.prog 16 [.agg (cGChart p1),.int .i64 p2] σ (fun u σ'=>u = .isl false (List.map (cI .i64) r)∧σ'=σ) :=
 EvU.pure1C (qao n p1 p2 r hF) σ
def q27 (z10:Int) (rc1:Int→(List Int)→Option ((List Int))) (l21:List Int):Option ((List Int)) :=
 rc1 (IntKind.i64.wrap (z10+1)) l21
def q2u  (l13:List Int):Option ((List Int)) :=
 some l13
def q11 (p1:GChart) (c2:Int) (f1:GEdge→Int→Option (Bool)):Nat→Int→(List Int)→Option ((List Int))
 | 0,_,_=>none
 | m1+1,z10,l11 =>
  cond (decide (z10<(p1.Edges.length:Int)))
   (bindO (idxO p1.Edges z10) fun x16 =>
   bindO (f1 x16 c2) fun r18 =>
   cond r18
    (needO ((l11.length+1)*8≤140737488355328∧l11.length+1≤140737488355328) (
    q27 z10 (q11 p1 c2 f1 m1) (l11++[z10])))
    (q27 z10 (q11 p1 c2 f1 m1) l11))
   (q2u l11)
def q2p (f1:GEdge→Int→Option (Bool)) (n:Nat) (p1:GChart) (c2:Int):Option ((List Int)) :=
 q11 p1 c2 f1 n 0 ([]:List Int)
theorem q6z (f1:GEdge→Int→Option (Bool)) (hf1:∀ (a0:GEdge) (a1:Int) (r:Bool),f1 a0 a1=some r→EvU Try.prog 41 [.agg (cGEdge a0),.iptr [.int .i64 a1]] ⟨[],0⟩ (fun u _=>u = .bool r∧Bel 0 u)) (n:Nat) (p1:GChart) (c2:Int) (r:(List Int)) (hF:q2p f1 n p1 c2=some r):EvU Try.prog 39 [.agg (cGChart p1),.fn (.func 41) [] [.iptr [.int .i64 c2]]] ⟨[],0⟩ (fun u _=>u = .isl false (List.map (cI .i64) r)∧Bel 0 u):=by
 unfold q2p at hF
 have hf1S:∀ (a0:GEdge) (a1:Int) (r:Bool),f1 a0 a1=some r→∀ σ,EvU Try.prog 41 [.agg (cGEdge a0),.iptr [.int .i64 a1]] σ (fun u σ'=>u = .bool r∧σ'=σ):=fun a0 a1 r h σ=>EvU.pure1C (hf1 a0 a1 r h) σ
 refine EvU.of_body Try.tb_ok fn39 rfl ?_
 refine WPU.ghost (tm':=fr 25 [(0,.agg (cGChart p1)),(1,.fn (.func 41) [] [.iptr [.int .i64 c2]])]) (Gh.start (Nat.le_of_ble_eq_true rfl)) (Nat.zero_le _) ?_
 refine sr ?_
 refine RS.q (u:=.ptr 0 0 0) (σ':=⟨[(0,.row (cGChart p1) 24)],1⟩) rfl (q3x rfl rfl rfl) ?_
 refine se ?_
 refine se ?_
 refine RS.q (u:=.ptr 0 0 1) rfl (q07 und24 rfl (q01 inf22) rfl rfl rfl) (RS.q (u:=.isl false (List.map cGEdge p1.Edges)) rfl (q05 und22 rfl rfl rfl rfl) (RS.q rfl (q0l rfl rfl rfl (q0e cGEdge und22)) (RS.mv rfl rfl rfl rfl ?_)))
 refine sd ?_
 refine WPU.ghost (tm':=fr 25 [(1,.fn (.func 41) [] [.iptr [.int .i64 c2]]),(5,.vl 1 0 0 (([]:List Int).length)),(9,.isl false (List.map cGEdge p1.Edges)),(10,.int .i64 (p1.Edges.length:Int)),(11,.int .i64 0)]) (σ':=⟨[(1,.vec (List.map (cI .i64) ([]:List Int)).flatten 3 1 0),(0,.row (cGChart p1) 24)],2⟩) (Gh.trans (Gh.nilS 5 3 1 (by decide) (Nat.zero_le _) rfl rfl) (Gh.eqS ⟨rfl,rfl,rfl,rfl,rfl,trivial⟩ rfl)) (Nat.zero_le _) ?_
 refine WPU.ghost (tm':=fr 25 [(1,.fn (.func 41) [] [.iptr [.int .i64 c2]]),(5,.vl 1 0 0 (([]:List Int).length)),(9,.isl false (List.map cGEdge p1.Edges)),(10,.int .i64 (p1.Edges.length:Int)),(11,.int .i64 0)]) (Gh.sub ⟨rfl,rfl,rfl,rfl,rfl,trivial⟩) (Nat.zero_le _) ?_
 refine WPU.loopK (fun m tm σ=>∃ z10:Int,∃ l11:List Int,∃ t12:Nat,q11 p1 c2 f1 m z10 l11=some r∧tm=fr 25 [(1,.fn (.func 41) [] [.iptr [.int .i64 c2]]),(5,.vl 1 t12 0 l11.length),(9,.isl false (List.map cGEdge p1.Edges)),(10,.int .i64 (p1.Edges.length:Int)),(11,.int .i64 z10)]∧σ=⟨[(1,.vec (List.map (cI .i64) l11).flatten 3 1 t12),(0,.row (cGChart p1) 24)],2⟩) (fun tm σ=>∃ l13:List Int,∃ t14:Nat,q2u l13=some r∧tm=fr 25 [(5,.vl 1 t14 0 l13.length)]∧σ=⟨[(1,.vec (List.map (cI .i64) l13).flatten 3 1 t14),(0,.row (cGChart p1) 24)],2⟩) n ⟨0,([]:List Int),0,hF,rfl,rfl⟩ ?_ ?_
 rintro _ _ ⟨l13,t14,hF,rfl,rfl⟩
 unfold q2u at hF
 refine sr ?_
 refine sd ?_
 refine WPU.ret ?_
 refine st ?_
 have hr:=Option.some.inj hF
 subst hr
 exact ⟨.inr rfl,[.vl 1 t14 0 l13.length],q1g rfl (q1b),.isl false (List.map (cI .i64) l13),⟨[],0⟩,Nat.le_refl _,Gh.trans (Gh.fz (tm':=[.isl false (List.map (cI .i64) l13)]) (h':=[(0,.row (cGChart p1) 24)]) 1 (.vec (List.map (cI .i64) l13).flatten 3 1 t14) 1 rfl (by simp) (by simp only [oneU,q0x,q0m,q1x,q12,q20,q16,q15,q14,q13,q0y,q1y,q1z,q1w,q21,q39,junkT,fz_vl (q2j .i64),q0k]) (by simp only [fzH,fzB,ug,Nat.beq,cond_true,cond_false,oneU,q0x,q0m,q1x,q12,q20,q16,q15,q14,q13,q0y,q1y,q1z,q1w,q21,q39,junkT,fz_vl (q2j .i64),q0k])) (Gh.toR (.isl false (List.map (cI .i64) l13)) rfl),rfl,BU.h⟩
 rintro m1 _ _ ⟨z10,l11,t12,hF,rfl,rfl⟩
 rcases m1 with _ | m1
 cases hF
 unfold q11 at hF
 refine sr ?_
 refine RS.q rfl (q02 rfl rfl (q1q _ _ _) rfl) ?_
 refine sd ?_
 refine WPU.condS (t:=(decide (z10<(p1.Edges.length:Int)))) rfl (fun h15=>?_) (fun h15=>?_)
 replace hF:=q0a h15 hF
 refine st ?_
 refine WPU.skip ?_
 refine st ?_
 refine WPU.block ?_
 refine st ?_
 obtain ⟨x16,h17,hF⟩:=q00 hF
 refine sr ?_
 refine RS.q (u:=.iptr (cGEdge x16)) rfl (q1e rfl rfl (q0p cGEdge und22 (q01 inf42) q0f h17 rfl)) (RS.q (u:=.agg (cGEdge x16)) rfl (q3a und42 rfl (q01 inf42) rfl rfl) (RS.q (u:=.ptr 2 0 0) (σ':=⟨[(2,.row [.int .i64 0,.int .i64 0,.int .i64 0,.int .i64 0,.str [],.nils,.int .i64 0,.str [],.int .i64 0,.int .i64 0,.nils,.nils] 42),(1,.vec (List.map (cI .i64) l11).flatten 3 1 t12),(0,.row (cGChart p1) 24)],3⟩) rfl (q1i inf42 rfl rfl) (RS.as rfl rfl rfl rfl (RS.opn (u:=.junk) (σ':=⟨[(2,.row (cGEdge x16) 42),(1,.vec (List.map (cI .i64) l11).flatten 3 1 t12),(0,.row (cGChart p1) 24)],3⟩) rfl (q0h (q01 inf42) rfl rfl rfl rfl rfl rfl rfl rfl) rfl ?_))))
 refine sd ?_
 obtain ⟨r18,h19,hF⟩:=q00 hF
 refine sr ?_
 refine RS.q (u:=.agg (cGEdge x16)) rfl (q0o und42 rfl (q01 inf42) rfl rfl rfl) (RS.call (u:=.bool r18) (args:=[.agg (cGEdge x16),.iptr [.int .i64 c2]]) rfl (q0b rfl rfl fn41 hb41 rfl rfl) (hf1S x16 c2 r18 h19 _) rfl rfl ?_)
 refine sd ?_
 refine WPU.joinK (fun tm σ=>∃ l21:List Int,∃ t22:Nat,q27 z10 (q11 p1 c2 f1 m1) l21=some r∧tm=fr 25 [(1,.fn (.func 41) [] [.iptr [.int .i64 c2]]),(5,.vl 1 t22 0 l21.length),(9,.isl false (List.map cGEdge p1.Edges)),(10,.int .i64 (p1.Edges.length:Int)),(11,.int .i64 z10)]∧σ=⟨[(2,.row (cGEdge x16) 42),(1,.vec (List.map (cI .i64) l21).flatten 3 1 t22),(0,.row (cGChart p1) 24)],3⟩) ?_ ?_
 rintro _ _ ⟨l21,t22,hF,rfl,rfl⟩
 unfold q27 at hF
 refine sr ?_
 refine RS.q rfl (q02 rfl rfl (q35 _ _ _) rfl) (RS.mv rfl rfl rfl rfl ?_)
 refine sd ?_
 exact ⟨m1,_,_,Nat.lt_succ_self _,⟨(IntKind.i64.wrap (z10+1)),l21,t22,hF,rfl,rfl⟩,(Nat.zero_le _),Gh.toC (n1:=2) ⟨rfl,rfl,rfl,rfl,rfl,trivial⟩ rfl (Nat.zero_le _) (by simp)⟩
 refine WPU.condS (t:=r18) rfl (fun h20=>?_) (fun h20=>?_)
 replace hF:=q0a h20 hF
 refine st ?_
 obtain ⟨h23,hF⟩:=q0v hF
 refine sr ?_
 repeat refine RS.mv rfl rfl rfl rfl ?_
 refine RS.q (u:=.sl 3 0 1 1) (σ':=⟨[(3,.row [.int .i64 z10] 3),(2,.row (cGEdge x16) 42),(1,.vec (List.map (cI .i64) l11).flatten 3 1 t12),(0,.row (cGChart p1) 24)],4⟩) rfl (q71 und34 inf3 rfl rfl rfl rfl rfl rfl rfl) (RS.q (u:=.vl 1 (t12+1) 0 ((l11++[z10]).length)) (σ':=⟨[(3,.row [.int .i64 z10] 3),(2,.row (cGEdge x16) 42),(1,.vec (List.map (cI .i64) (l11++[z10])).flatten 3 1 (t12+1)),(0,.row (cGChart p1) 24)],4⟩) rfl (op_app rfl rfl rfl rfl (app_vl (cI .i64) ([z10]) und34 und34 inf3 rfl (q2j .i64) rfl (qbz (cI .i64) [z10] rfl rfl rfl rfl) h23)) ?_)
 refine sd ?_
 exact ⟨_,_,⟨(l11++[z10]),(t12+1),hF,rfl,rfl⟩,(Nat.zero_le _),Gh.toC (n1:=3) ⟨rfl,rfl,rfl,rfl,rfl,trivial⟩ rfl (Nat.zero_le _) (by simp)⟩
 replace hF:=q09 h20 hF
 refine st ?_
 refine WPU.skip ?_
 refine st ?_
 exact ⟨_,_,⟨l11,t12,hF,rfl,rfl⟩,(Nat.zero_le _),Gh.toC (n1:=3) ⟨rfl,rfl,rfl,rfl,rfl,trivial⟩ rfl (Nat.zero_le _) (by simp)⟩
 replace hF:=q09 h15 hF
 refine st ?_
 refine WPU.exit ?_
 refine st ?_
 exact ⟨_,_,⟨l11,t12,hF,rfl,rfl⟩,(Nat.zero_le _),Gh.toC (n1:=2) ⟨rfl,trivial⟩ rfl (Nat.zero_le _) (by simp)⟩
theorem q6u (f1:GEdge→Int→Option (Bool)) (hf1:∀ (a0:GEdge) (a1:Int) (r:Bool),f1 a0 a1=some r→EvU Try.prog 41 [.agg (cGEdge a0),.iptr [.int .i64 a1]] ⟨[],0⟩ (fun u _=>u = .bool r∧Bel 0 u)) (n:Nat) (p1:GChart) (c2:Int) (r:(List Int)) (hF:q2p f1 n p1 c2=some r) (σ:Sg):EvU Try.prog 39 [.agg (cGChart p1),.fn (.func 41) [] [.iptr [.int .i64 c2]]] σ (fun u σ'=>u = .isl false (List.map (cI .i64) r)∧σ'=σ) :=
 EvU.pure1C (q6z f1 hf1 n p1 c2 r hF) σ
def q57 (n:Nat) (p1:GEdge) (c2:Int):Option (Bool) :=
 some (p1.To == c2)
theorem qan (n:Nat) (p1:GEdge) (c2:Int) (r:Bool) (hF:q57 n p1 c2=some r):EvU Try.prog 41 [.agg (cGEdge p1),.iptr [.int .i64 c2]] ⟨[],0⟩ (fun u _=>u = .bool r∧Bel 0 u):=by
 unfold q57 at hF
 refine EvU.of_body Try.tb_ok fn41 rfl ?_
 refine WPU.ghost (tm':=fr 8 [(0,.agg (cGEdge p1)),(1,.iptr [.int .i64 c2])]) (Gh.start (Nat.le_of_ble_eq_true rfl)) (Nat.zero_le _) ?_
 refine sr ?_
 refine RS.q (u:=.ptr 0 0 0) (σ':=⟨[(0,.row (cGEdge p1) 42)],1⟩) rfl (q3x rfl rfl rfl) ?_
 refine se ?_
 refine RS.q (u:=.ptr 0 0 1) rfl (q07 und42 rfl (q01 inf3) rfl rfl rfl) (RS.q (u:=.int .i64 p1.To) rfl (q05 und3 rfl rfl rfl rfl) (RS.q (u:=.int .i64 c2) rfl (q19 und3 rfl rfl rfl) (RS.q rfl (q02 rfl rfl (q0d _ _ _) rfl) ?_)))
 refine sd ?_
 refine WPU.ret ?_
 refine st ?_
 have hr:=Option.some.inj hF
 subst hr
 exact ⟨.inr rfl,[.bool (p1.To == c2)],q1g rfl (q1b),.bool (p1.To == c2),⟨[],0⟩,Nat.le_refl _,Gh.toR (.bool (p1.To == c2)) rfl,rfl,BU.h⟩
def q6m (n:Nat) (p1:GChart) (p2:Int):Option ((List Int)) :=
 bindO (q2p (q57 n) n p1 p2) fun r3 =>
 some r3
theorem chart_Ending_0 (n:Nat) (p1:GChart) (p2:Int) (r:(List Int)) (hF:q6m n p1 p2=some r):EvU Try.prog 18 [.agg (cGChart p1),.int .i64 p2] ⟨[],0⟩ (fun u _=>u = .isl false (List.map (cI .i64) r)∧Bel 0 u):=by
 unfold q6m at hF
 refine EvU.of_body Try.tb_ok fn18 rfl ?_
 refine WPU.ghost (tm':=fr 8 [(0,.agg (cGChart p1)),(1,.int .i64 p2)]) (Gh.start (Nat.le_of_ble_eq_true rfl)) (Nat.zero_le _) ?_
 refine sr ?_
 refine RS.q (u:=.ptr 0 0 0) (σ':=⟨[(0,.row (cGChart p1) 24)],1⟩) rfl (q3x rfl rfl rfl) (RS.q (u:=.ptr 1 0 0) (σ':=⟨[(1,.row [.int .i64 p2] 3),(0,.row (cGChart p1) 24)],2⟩) rfl (q3x rfl rfl rfl) ?_)
 refine sd ?_
 refine WPU.ghost (tm':=fr 8 [(2,.ptr 0 0 0),(3,.iptr [.int .i64 p2])]) (σ':=⟨[(0,.row (cGChart p1) 24)],2⟩) (Gh.trans (Gh.sub (l':=[(2,.ptr 0 0 0),(3,.ptr 1 0 0)]) ⟨rfl,rfl,trivial⟩) (Gh.fzS (l':=[(2,.ptr 0 0 0),(3,.iptr [.int .i64 p2])]) (h':=[(0,.row (cGChart p1) 24)]) 1 (.row [.int .i64 p2] 3) 1 rfl (by simp) (by simp only [fzS,oneU,q0x,q0m,q1x,q12,q20,q16,q15,q14,q13,q0y,q1y,q1z,q1w,q21,q39,junkT,q69,q6h,q5p,q0k,q3o (show Nat.beq 0 1=false from rfl),q3n (show Nat.beq 0 1=false from rfl),q3m (show Nat.beq 0 1=false from rfl),Nat.reduceLeDiff,Nat.reduceMul,List.length_cons,List.length_nil,Nat.reduceAdd]<;>simp only [chunks,List.take,List.drop,List.map,cI,cB,cS,cL]) (by simp only [fzH,fzB,ug,Nat.beq,cond_true,cond_false,oneU,q0x,q0m,q1x,q12,q20,q16,q15,q14,q13,q0y,q1y,q1z,q1w,q21,q39,junkT,q69,q6h,q5p,q0k,q3o (show Nat.beq 0 1=false from rfl),q3n (show Nat.beq 0 1=false from rfl),q3m (show Nat.beq 0 1=false from rfl),Nat.reduceLeDiff,Nat.reduceMul,List.length_cons,List.length_nil,Nat.reduceAdd]<;>simp only [chunks,List.take,List.drop,List.map,cI,cB,cS,cL]))) (Nat.zero_le _) ?_
 refine st ?_
 obtain ⟨r3,h4,hF⟩:=q00 hF
 refine sr ?_
 refine RS.q (u:=.agg (cGChart p1)) rfl (q0o und24 rfl (q01 inf24) rfl rfl rfl) (RS.q rfl (op_fun rfl rfl) (RS.call (u:=.isl false (List.map (cI .i64) r3)) (args:=[.agg (cGChart p1),.fn (.func 41) [] [.iptr [.int .i64 p2]]]) rfl (q0b rfl rfl fn39 hb39 rfl rfl) (q6u (q57 n) (qan n) n p1 p2 r3 h4 _) rfl rfl ?_))
 refine sd ?_
 refine WPU.ret ?_
 refine st ?_
 have hr:=Option.some.inj hF
 subst hr
 exact ⟨.inr rfl,[.isl false (List.map (cI .i64) r3)],q1g rfl (q1b),.isl false (List.map (cI .i64) r3),⟨[],0⟩,Nat.le_refl _,Gh.toR (.isl false (List.map (cI .i64) r3)) rfl,rfl,BU.h⟩
theorem qbc (n:Nat) (p1:GChart) (p2:Int) (r:(List Int)) (hF:q6m n p1 p2=some r) (σ:Sg):EvU Try.prog 18 [.agg (cGChart p1),.int .i64 p2] σ (fun u σ'=>u = .isl false (List.map (cI .i64) r)∧σ'=σ) :=
 EvU.pure1C (chart_Ending_0 n p1 p2 r hF) σ
def q36 (p2:GEdge) (l34:List GDeriv):Option (GDeriv) :=
 some (GDeriv.mk 2 p2.Name p2.From p2.To l34)
def q23 (p1:GChart) (p2:GEdge) (self:GChart→GEdge→Option (GDeriv)):Nat→Int→(List GDeriv)→Option (GDeriv)
 | 0,_,_=>none
 | m1+1,z31,l32 =>
  cond (decide (z31<(p2.Kids.length:Int)))
   (bindO (idxO p2.Kids z31) fun x37 =>
   bindO (idxO p1.Edges x37) fun x39 =>
   bindO (self p1 x39) fun r41 =>
   needO ((l32.length+1)*64≤140737488355328∧l32.length+1≤140737488355328) (
   (q23 p1 p2 self m1) (IntKind.i64.wrap (z31+1)) (l32++[r41])))
   (q36 p2 l32)
def q4q (n:Nat) (self:GChart→GEdge→Option (GDeriv)) (p1:GChart) (p2:GEdge):Option (GDeriv) :=
 cond (p2.Kind == 1)
  (some p2.Lex)
  (q23 p1 p2 self n 0 ([]:List GDeriv))
def q1m:Nat→GChart→GEdge→Option (GDeriv)
 | 0,_,_=>none
 | n+1,p1,p2=>q4q n (q1m n) p1 p2
theorem q6o:∀ (n:Nat) (p1:GChart) (p2:GEdge) (r:GDeriv),q1m n p1 p2=some r→EvU Try.prog 43 [.agg (cGChart p1),.agg (cGEdge p2)] ⟨[],0⟩ (fun u _=>u = .agg (xGDeriv r)∧Bel 0 u)
 | 0,p1,p2,r,hF=>by cases hF
 | n+1,p1,p2,r,hF=>by
  have ih:=q6o n
  have ihS:∀ (p1:GChart) (p2:GEdge) (r:GDeriv),q1m n p1 p2=some r→∀ σ,EvU Try.prog 43 [.agg (cGChart p1),.agg (cGEdge p2)] σ (fun u σ'=>u = .agg (xGDeriv r)∧σ'=σ):=fun p1 p2 r h σ=>EvU.pure1C (ih p1 p2 r h) σ
  unfold q1m q4q at hF
  refine EvU.of_body Try.tb_ok fn43 rfl ?_
  refine WPU.ghost (tm':=fr 41 [(0,.agg (cGChart p1)),(1,.agg (cGEdge p2))]) (Gh.start (Nat.le_of_ble_eq_true rfl)) (Nat.zero_le _) ?_
  refine sr ?_
  refine RS.q (u:=.ptr 0 0 0) (σ':=⟨[(0,.row (cGChart p1) 24)],1⟩) rfl (q3x rfl rfl rfl) (RS.q (u:=.ptr 1 0 0) (σ':=⟨[(1,.row (cGEdge p2) 42),(0,.row (cGChart p1) 24)],2⟩) rfl (q3x rfl rfl rfl) (RS.q (u:=.ptr 2 0 0) (σ':=⟨[(2,.row [.int .i64 0,.str [],.int .i64 0,.int .i64 0,.nils] 37),(1,.row (cGEdge p2) 42),(0,.row (cGChart p1) 24)],3⟩) rfl (q1i inf37 rfl rfl) ?_))
  refine se ?_
  refine RS.q (u:=.ptr 1 0 3) rfl (q07 und42 rfl (q01 inf3) rfl rfl rfl) (RS.q (u:=.int .i64 p2.Kind) rfl (q05 und3 rfl rfl rfl rfl) (RS.q rfl (q02 rfl rfl (q0d _ _ _) rfl) ?_))
  refine sd ?_
  refine WPU.condS (t:=(p2.Kind == 1)) rfl (fun h3=>?_) (fun h3=>?_)
  replace hF:=q0a h3 hF
  refine sr ?_
  refine RS.q (u:=.ptr 1 0 6) rfl (q07 und42 rfl (q01 inf37) rfl rfl rfl) (RS.q (u:=.agg (xGDeriv p2.Lex)) rfl (q0o und37 rfl (q01 inf37) rfl rfl rfl) (RS.opn (u:=.junk) (σ':=⟨[(2,.row (xGDeriv p2.Lex) 37),(1,.row (cGEdge p2) 42),(0,.row (cGChart p1) 24)],3⟩) rfl (q0h (q01 inf37) rfl rfl rfl rfl rfl rfl rfl rfl) rfl ?_))
  refine sd ?_
  refine WPU.ret ?_
  refine st ?_
  have hr:=Option.some.inj hF
  subst hr
  exact ⟨.inr rfl,[.agg (xGDeriv p2.Lex)],q9i (q0o und37 rfl (q01 inf37) rfl rfl rfl) (q1b),.agg (xGDeriv p2.Lex),⟨[],0⟩,Nat.le_refl _,Gh.toR (.agg (xGDeriv p2.Lex)) rfl,rfl,BU.h⟩
  replace hF:=q09 h3 hF
  refine st ?_
  refine WPU.skip ?_
  refine sr ?_
  refine RS.q (u:=.ptr 1 0 4) rfl (q07 und42 rfl (q01 inf9) rfl rfl rfl) (RS.q (u:=.str p2.Name) rfl (q05 und9 rfl rfl rfl rfl) (RS.q (u:=.ptr 1 0 0) rfl (q07 und42 rfl (q01 inf3) rfl rfl rfl) (RS.q (u:=.int .i64 p2.From) rfl (q05 und3 rfl rfl rfl rfl) (RS.q (u:=.ptr 1 0 1) rfl (q07 und42 rfl (q01 inf3) rfl rfl rfl) (RS.q (u:=.int .i64 p2.To) rfl (q05 und3 rfl rfl rfl rfl) (RS.q (u:=.agg [.int .i64 2,.str p2.Name,.int .i64 p2.From,.int .i64 p2.To,.nils]) rfl (q7g bd37 rfl rfl rfl) (RS.q (u:=.ptr 3 0 0) (σ':=⟨[(3,.row [.int .i64 0,.str [],.int .i64 0,.int .i64 0,.nils] 37),(2,.row [.int .i64 0,.str [],.int .i64 0,.int .i64 0,.nils] 37),(1,.row (cGEdge p2) 42),(0,.row (cGChart p1) 24)],4⟩) rfl (q1i inf37 rfl rfl) ?_)))))))
  refine RS.opn (u:=.junk) (σ':=⟨[(3,.row [.int .i64 2,.str p2.Name,.int .i64 p2.From,.int .i64 p2.To,.nils] 37),(2,.row [.int .i64 0,.str [],.int .i64 0,.int .i64 0,.nils] 37),(1,.row (cGEdge p2) 42),(0,.row (cGChart p1) 24)],4⟩) rfl (q0h (q01 inf37) rfl rfl rfl rfl rfl rfl rfl rfl) rfl ?_
  refine se ?_
  refine RS.q (u:=.ptr 1 0 5) rfl (q07 und42 rfl (q01 inf34) rfl rfl rfl) (RS.q (u:=.isl false (List.map (cI .i64) p2.Kids)) rfl (q05 und34 rfl rfl rfl rfl) (RS.q rfl (q0l rfl rfl rfl (q0e (cI .i64) und34)) (RS.mv rfl rfl rfl rfl ?_)))
  refine sd ?_
  refine WPU.ghost (tm':=fr 41 [(2,.ptr 0 0 0),(4,.ptr 2 0 0),(5,.ptr 3 0 0),(21,.isl false (List.map (cI .i64) p2.Kids)),(22,.int .i64 (p2.Kids.length:Int)),(23,.int .i64 0)]) (σ':=⟨[(4,.vec (List.map cGDeriv ([]:List GDeriv)).flatten 37 5 0),(3,.row [.int .i64 2,.str p2.Name,.int .i64 p2.From,.int .i64 p2.To,.vl 4 0 0 (([]:List GDeriv).length)] 37),(2,.row [.int .i64 0,.str [],.int .i64 0,.int .i64 0,.nils] 37),(1,.row (cGEdge p2) 42),(0,.row (cGChart p1) 24)],5⟩) (Gh.trans (Gh.nilC 3 4 37 5 (by decide) (Nat.zero_le _) rfl rfl) (Gh.eqS ⟨rfl,rfl,rfl,rfl,rfl,rfl,trivial⟩ rfl)) (Nat.zero_le _) ?_
  refine WPU.ghost (tm':=fr 41 [(2,.ptr 0 0 0),(4,.ptr 2 0 0),(5,.ptr 3 0 0),(21,.isl false (List.map (cI .i64) p2.Kids)),(22,.int .i64 (p2.Kids.length:Int)),(23,.int .i64 0)]) (Gh.sub ⟨rfl,rfl,rfl,rfl,rfl,rfl,trivial⟩) (Nat.zero_le _) ?_
  refine WPU.loopK (fun m tm σ=>∃ z31:Int,∃ l32:List GDeriv,∃ t33:Nat,q23 p1 p2 (q1m n) m z31 l32=some r∧tm=fr 41 [(2,.ptr 0 0 0),(4,.ptr 2 0 0),(5,.ptr 3 0 0),(21,.isl false (List.map (cI .i64) p2.Kids)),(22,.int .i64 (p2.Kids.length:Int)),(23,.int .i64 z31)]∧σ=⟨[(4,.vec (List.map cGDeriv l32).flatten 37 5 t33),(3,.row [.int .i64 2,.str p2.Name,.int .i64 p2.From,.int .i64 p2.To,.vl 4 t33 0 l32.length] 37),(2,.row [.int .i64 0,.str [],.int .i64 0,.int .i64 0,.nils] 37),(1,.row (cGEdge p2) 42),(0,.row (cGChart p1) 24)],5⟩) (fun tm σ=>∃ l34:List GDeriv,∃ t35:Nat,q36 p2 l34=some r∧tm=fr 41 [(4,.ptr 2 0 0),(5,.ptr 3 0 0)]∧σ=⟨[(4,.vec (List.map cGDeriv l34).flatten 37 5 t35),(3,.row [.int .i64 2,.str p2.Name,.int .i64 p2.From,.int .i64 p2.To,.vl 4 t35 0 l34.length] 37),(2,.row [.int .i64 0,.str [],.int .i64 0,.int .i64 0,.nils] 37),(1,.row (cGEdge p2) 42),(0,.row (cGChart p1) 24)],5⟩) n ⟨0,([]:List GDeriv),0,hF,rfl,rfl⟩ ?_ ?_
  rintro _ _ ⟨l34,t35,hF,rfl,rfl⟩
  unfold q36 at hF
  refine sr ?_
  refine RS.q (u:=.agg [.int .i64 2,.str p2.Name,.int .i64 p2.From,.int .i64 p2.To,.vl 4 t35 0 l34.length]) rfl (q0o und37 rfl (q01 inf37) rfl rfl rfl) (RS.opn (u:=.junk) (σ':=⟨[(4,.vec (List.map cGDeriv l34).flatten 37 5 t35),(3,.row [.int .i64 2,.str p2.Name,.int .i64 p2.From,.int .i64 p2.To,.vl 4 t35 0 l34.length] 37),(2,.row [.int .i64 2,.str p2.Name,.int .i64 p2.From,.int .i64 p2.To,.vl 4 t35 0 l34.length] 37),(1,.row (cGEdge p2) 42),(0,.row (cGChart p1) 24)],5⟩) rfl (q0h (q01 inf37) rfl rfl rfl rfl rfl rfl rfl rfl) rfl ?_)
  refine sd ?_
  refine WPU.ret ?_
  refine st ?_
  have hr:=Option.some.inj hF
  subst hr
  exact ⟨.inr rfl,[.agg [.int .i64 2,.str p2.Name,.int .i64 p2.From,.int .i64 p2.To,.vl 4 t35 0 l34.length]],q9i (q0o und37 rfl (q01 inf37) rfl rfl rfl) (q1b),.agg [.int .i64 2,.str p2.Name,.int .i64 p2.From,.int .i64 p2.To,.isl false (List.map cGDeriv l34)],⟨[],0⟩,Nat.le_refl _,Gh.trans (Gh.fz (tm':=[.agg [.int .i64 2,.str p2.Name,.int .i64 p2.From,.int .i64 p2.To,.isl false (List.map cGDeriv l34)]]) (h':=[(3,.row [.int .i64 2,.str p2.Name,.int .i64 p2.From,.int .i64 p2.To,.isl false (List.map cGDeriv l34)] 37),(2,.row [.int .i64 2,.str p2.Name,.int .i64 p2.From,.int .i64 p2.To,.isl false (List.map cGDeriv l34)] 37),(1,.row (cGEdge p2) 42),(0,.row (cGChart p1) 24)]) 4 (.vec (List.map cGDeriv l34).flatten 37 5 t35) 5 rfl (by simp) (by simp only [oneU,q0x,q0m,q1x,q12,q20,q16,q15,q14,q13,q0y,q1y,q1z,q1w,q21,q39,junkT,fz_vl q17,q0k,q70]) (by simp only [fzH,fzB,ug,Nat.beq,cond_true,cond_false,oneU,q0x,q0m,q1x,q12,q20,q16,q15,q14,q13,q0y,q1y,q1z,q1w,q21,q39,junkT,fz_vl q17,q0k,q70])) (Gh.toR (.agg [.int .i64 2,.str p2.Name,.int .i64 p2.From,.int .i64 p2.To,.isl false (List.map cGDeriv l34)]) rfl),rfl,BU.h⟩
  rintro m1 _ _ ⟨z31,l32,t33,hF,rfl,rfl⟩
  rcases m1 with _ | m1
  cases hF
  unfold q23 at hF
  refine sr ?_
  refine RS.q rfl (q02 rfl rfl (q1q _ _ _) rfl) ?_
  refine sd ?_
  refine WPU.condS (t:=(decide (z31<(p2.Kids.length:Int)))) rfl (fun h36=>?_) (fun h36=>?_)
  replace hF:=q0a h36 hF
  refine st ?_
  refine WPU.skip ?_
  refine st ?_
  refine WPU.block ?_
  refine st ?_
  obtain ⟨x37,h38,hF⟩:=q00 hF
  refine sr ?_
  refine RS.q (u:=.iptr [.int .i64 x37]) rfl (q1e rfl rfl (q0p (cI .i64) und34 (q01 inf3) (q2j .i64) h38 rfl)) (RS.q (u:=.int .i64 x37) rfl (q19 und3 rfl rfl rfl) ?_)
  refine sd ?_
  obtain ⟨x39,h40,hF⟩:=q00 hF
  obtain ⟨r41,h42,hF⟩:=q00 hF
  obtain ⟨h43,hF⟩:=q0v hF
  refine WPU.drawE Try.tb_ok [(0,9),(1,9)] (by kernel_rfl) ?_
  refine RD.q (u:=.ptr 3 0 4) rfl (q07 und37 rfl (q01 inf35) rfl rfl rfl) (RD.q (u:=.vl 4 t33 0 l32.length) rfl (q05 und35 rfl rfl rfl rfl) (RD.q (u:=.agg (cGChart p1)) rfl (q0o und24 rfl (q01 inf24) rfl rfl rfl) (RD.q (u:=.ptr 0 0 1) rfl (q07 und24 rfl (q01 inf22) rfl rfl rfl) (RD.q (u:=.isl false (List.map cGEdge p1.Edges)) rfl (q05 und22 rfl rfl rfl rfl) (RD.mv rfl rfl rfl rfl (RD.q (u:=.iptr (cGEdge x39)) rfl (q1e rfl rfl (q0p cGEdge und22 (q01 inf42) q0f h40 rfl)) (RD.q (u:=.agg (cGEdge x39)) rfl (q3a und42 rfl (q01 inf42) rfl rfl) ?_)))))))
  refine RD.free (u:=.agg (xGDeriv r41)) (args:=[.agg (cGChart p1),.agg (cGEdge x39)]) rfl (q0b rfl rfl fn43 hb43 rfl rfl) (fun s=>ihS p1 x39 r41 h42 s) rfl rfl (RD.act (u:=.sl 5 0 1 1) (σ':=⟨[(5,.row (xGDeriv r41) 37),(4,.vec (List.map cGDeriv l32).flatten 37 5 t33),(3,.row [.int .i64 2,.str p2.Name,.int .i64 p2.From,.int .i64 p2.To,.vl 4 t33 0 l32.length] 37),(2,.row [.int .i64 0,.str [],.int .i64 0,.int .i64 0,.nils] 37),(1,.row (cGEdge p2) 42),(0,.row (cGChart p1) 24)],6⟩) rfl (q71 und35 inf37 rfl rfl rfl rfl rfl rfl rfl) rfl rfl ?_)
  refine RD.act (u:=.vl 4 (t33+1) 0 ((l32++[r41]).length)) (σ':=⟨[(5,.row (xGDeriv r41) 37),(4,.vec (List.map cGDeriv (l32++[r41])).flatten 37 5 (t33+1)),(3,.row [.int .i64 2,.str p2.Name,.int .i64 p2.From,.int .i64 p2.To,.vl 4 t33 0 l32.length] 37),(2,.row [.int .i64 0,.str [],.int .i64 0,.int .i64 0,.nils] 37),(1,.row (cGEdge p2) 42),(0,.row (cGChart p1) 24)],6⟩) rfl (op_app rfl rfl rfl rfl (app_vl cGDeriv ([r41]) und35 und35 inf37 rfl q17 rfl (qbz cGDeriv [r41] rfl rfl rfl (by simp only [List.map,List.flatten,List.append_nil,q1j,xGDeriv,GDeriv.Kind,GDeriv.Name,GDeriv.From,GDeriv.To,GDeriv.Kids]; rfl)) h43)) rfl rfl ?_
  refine RD.q (u:=.ptr 3 0 4) rfl (q07 und37 rfl (q01 inf35) rfl rfl rfl) (RD.actn (u:=.junk) (σ':=⟨[(5,.row (xGDeriv r41) 37),(4,.vec (List.map cGDeriv (l32++[r41])).flatten 37 5 (t33+1)),(3,.row [.int .i64 2,.str p2.Name,.int .i64 p2.From,.int .i64 p2.To,.vl 4 (t33+1) 0 ((l32++[r41]).length)] 37),(2,.row [.int .i64 0,.str [],.int .i64 0,.int .i64 0,.nils] 37),(1,.row (cGEdge p2) 42),(0,.row (cGChart p1) 24)],6⟩) rfl (q0h (q01 inf35) rfl rfl rfl rfl rfl rfl rfl rfl) rfl ?_)
  refine RD.done ⟨by kernel_rfl,⟨q07 und37 rfl (q01 inf35) rfl rfl rfl,⟨q05 und35 rfl rfl rfl rfl,trivial⟩⟩,?_⟩
  refine sr ?_
  refine RS.q rfl (q02 rfl rfl (q35 _ _ _) rfl) (RS.mv rfl rfl rfl rfl ?_)
  refine sd ?_
  exact ⟨m1,_,_,Nat.lt_succ_self _,⟨(IntKind.i64.wrap (z31+1)),(l32++[r41]),(t33+1),hF,rfl,rfl⟩,(Nat.zero_le _),Gh.toC (n1:=5) ⟨rfl,rfl,rfl,rfl,rfl,rfl,trivial⟩ rfl (Nat.zero_le _) (by simp)⟩
  replace hF:=q09 h36 hF
  refine st ?_
  refine WPU.exit ?_
  refine st ?_
  exact ⟨_,_,⟨l32,t33,hF,rfl,rfl⟩,(Nat.zero_le _),Gh.toC (n1:=5) ⟨rfl,rfl,trivial⟩ rfl (Nat.zero_le _) (by simp)⟩
theorem q8n (n:Nat) (p1:GChart) (p2:GEdge) (r:GDeriv) (hF:q1m n p1 p2=some r) (σ:Sg):EvU Try.prog 43 [.agg (cGChart p1),.agg (cGEdge p2)] σ (fun u σ'=>u = .agg (xGDeriv r)∧σ'=σ) :=
 EvU.pure1C (q6o n p1 p2 r hF) σ
def q2l (n:Nat) (p1:GChart) (p2:Int):Option (GDeriv) :=
 bindO (cond (decide (p2<0))
  (some true)
  (some (decide (p2 ≥ (p1.Edges.length:Int))))) fun b4 =>
 cond b4
  (some (GDeriv.mk 0 [] 0 0 []))
  (bindO (idxO p1.Edges p2) fun x7 =>
  bindO (q1m n p1 x7) fun r9 =>
  some r9)
theorem chart_Deriv_0 (n:Nat) (p1:GChart) (p2:Int) (r:GDeriv) (hF:q2l n p1 p2=some r):EvU Try.prog 22 [.agg (cGChart p1),.int .i64 p2] ⟨[],0⟩ (fun u _=>u = .agg (xGDeriv r)∧Bel 0 u):=by
 unfold q2l at hF
 refine EvU.of_body Try.tb_ok fn22 rfl ?_
 refine WPU.ghost (tm':=fr 22 [(0,.agg (cGChart p1)),(1,.int .i64 p2)]) (Gh.start (Nat.le_of_ble_eq_true rfl)) (Nat.zero_le _) ?_
 refine sr ?_
 refine RS.q (u:=.ptr 0 0 0) (σ':=⟨[(0,.row (cGChart p1) 24)],1⟩) rfl (q3x rfl rfl rfl) (RS.q (u:=.ptr 1 0 0) (σ':=⟨[(1,.row [.int .i64 0,.str [],.int .i64 0,.int .i64 0,.nils] 37),(0,.row (cGChart p1) 24)],2⟩) rfl (q1i inf37 rfl rfl) ?_)
 refine sd ?_
 obtain ⟨b4,h5,hF⟩:=q00 hF
 refine WPU.joinK (fun tm σ=>tm=fr 22 [(1,.int .i64 p2),(2,.ptr 0 0 0),(4,.ptr 1 0 0),(13,.bool b4)]∧σ=⟨[(1,.row [.int .i64 0,.str [],.int .i64 0,.int .i64 0,.nils] 37),(0,.row (cGChart p1) 24)],2⟩) ?_ ?_
 rintro _ _ ⟨rfl,rfl⟩
 refine st ?_
 refine WPU.condS (t:=b4) rfl (fun h6=>?_) (fun h6=>?_)
 replace hF:=q0a h6 hF
 refine sr ?_
 refine RS.q (u:=.agg [.int .i64 0,.str [],.int .i64 0,.int .i64 0,.nils]) rfl (q7g bd37 rfl rfl rfl) (RS.opn (u:=.junk) (σ':=⟨[(1,.row [.int .i64 0,.str [],.int .i64 0,.int .i64 0,.nils] 37),(0,.row (cGChart p1) 24)],2⟩) rfl (q0h (q01 inf37) rfl rfl rfl rfl rfl rfl rfl rfl) rfl ?_)
 refine sd ?_
 refine WPU.ret ?_
 refine st ?_
 have hr:=Option.some.inj hF
 subst hr
 exact ⟨.inr rfl,[.agg [.int .i64 0,.str [],.int .i64 0,.int .i64 0,.nils]],q9i (q0o und37 rfl (q01 inf37) rfl rfl rfl) (q1b),.agg [.int .i64 0,.str [],.int .i64 0,.int .i64 0,.isl false []],⟨[],0⟩,Nat.le_refl _,Gh.trans (Gh.wk (.cons (.agg (.cons (.refl _) (.cons (.refl _) (.cons (.refl _) (.cons (.refl _) (.cons (.nil false) .nil)))))) .nil)) (Gh.toR (.agg [.int .i64 0,.str [],.int .i64 0,.int .i64 0,.isl false []]) rfl),rfl,BU.h⟩
 replace hF:=q09 h6 hF
 refine st ?_
 refine WPU.skip ?_
 refine st ?_
 obtain ⟨x7,h8,hF⟩:=q00 hF
 obtain ⟨r9,h10,hF⟩:=q00 hF
 refine WPU.drawE Try.tb_ok [] (by kernel_rfl) ?_
 refine RD.q (u:=.agg (cGChart p1)) rfl (q0o und24 rfl (q01 inf24) rfl rfl rfl) (RD.q (u:=.ptr 0 0 1) rfl (q07 und24 rfl (q01 inf22) rfl rfl rfl) (RD.q (u:=.isl false (List.map cGEdge p1.Edges)) rfl (q05 und22 rfl rfl rfl rfl) (RD.mv rfl rfl rfl rfl (RD.q (u:=.iptr (cGEdge x7)) rfl (q1e rfl rfl (q0p cGEdge und22 (q01 inf42) q0f h8 rfl)) (RD.q (u:=.agg (cGEdge x7)) rfl (q3a und42 rfl (q01 inf42) rfl rfl) (RD.free (u:=.agg (xGDeriv r9)) (args:=[.agg (cGChart p1),.agg (cGEdge x7)]) rfl (q0b rfl rfl fn43 hb43 rfl rfl) (fun s=>q8n n p1 x7 r9 h10 s) rfl rfl (RD.actn (u:=.junk) (σ':=⟨[(1,.row (xGDeriv r9) 37),(0,.row (cGChart p1) 24)],2⟩) rfl (q0h (q01 inf37) rfl rfl rfl rfl rfl rfl rfl rfl) rfl ?_)))))))
 refine RD.done ⟨by kernel_rfl,trivial,?_⟩
 refine st ?_
 refine WPU.ret ?_
 refine st ?_
 have hr:=Option.some.inj hF
 subst hr
 exact ⟨.inr rfl,[.agg (xGDeriv r9)],q9i (q0o und37 rfl (q01 inf37) rfl rfl rfl) (q1b),.agg (xGDeriv r9),⟨[],0⟩,Nat.le_refl _,Gh.toR (.agg (xGDeriv r9)) rfl,rfl,BU.h⟩
 rcases q0j (decide (p2<0)) with h3 | h3
 replace h5:=q0a h3 h5
 replace h5:=Option.some.inj h5
 subst h5
 refine sr ?_
 refine RS.q rfl (q02 rfl rfl (q1q _ _ _) rfl) (RS.mv rfl rfl rfl rfl ?_)
 repeat refine RS.no (want0 rfl rfl rfl h3) rfl rfl ?_
 refine RS.q (u:=.bool true) rfl (q04 rfl h3 rfl) ?_
 refine sd ?_
 exact ⟨_,_,⟨rfl,rfl⟩,(Nat.zero_le _),Gh.toC (n1:=2) ⟨rfl,rfl,rfl,rfl,trivial⟩ rfl (Nat.zero_le _) (by simp)⟩
 replace h5:=q09 h3 h5
 replace h5:=Option.some.inj h5
 subst h5
 refine sr ?_
 refine RS.q rfl (q02 rfl rfl (q1q _ _ _) rfl) (RS.mv rfl rfl rfl rfl (RS.op (want1 rfl rfl rfl h3) (q06 rfl) rfl rfl (RS.op (u:=.ptr 0 0 1) (want1 rfl rfl rfl h3) (q07 und24 rfl (q01 inf22) rfl rfl rfl) rfl rfl (RS.op (u:=.isl false (List.map cGEdge p1.Edges)) (want1 rfl rfl rfl h3) (q05 und22 rfl rfl rfl rfl) rfl rfl (RS.op (want1 rfl rfl rfl h3) (q0l rfl rfl rfl (q0e cGEdge und22)) rfl rfl (RS.op (want1 rfl rfl rfl h3) (q02 rfl rfl (qah _ _ _) rfl) rfl rfl (RS.q (u:=.bool (decide (p2 ≥ (p1.Edges.length:Int)))) rfl (q03 rfl h3 rfl) ?_)))))))
 refine sd ?_
 exact ⟨_,_,⟨rfl,rfl⟩,(Nat.zero_le _),Gh.toC (n1:=2) ⟨rfl,rfl,rfl,rfl,trivial⟩ rfl (Nat.zero_le _) (by simp)⟩
theorem q6t (n:Nat) (p1:GChart) (p2:Int) (r:GDeriv) (hF:q2l n p1 p2=some r) (σ:Sg):EvU Try.prog 22 [.agg (cGChart p1),.int .i64 p2] σ (fun u σ'=>u = .agg (xGDeriv r)∧σ'=σ) :=
 EvU.pure1C (chart_Deriv_0 n p1 p2 r hF) σ
def q6x (z10:Int) (rc1:Int→Int→(List GEdge)→Option (GChart)) (z21:Int) (l22:List GEdge):Option (GChart) :=
 rc1 (IntKind.i64.wrap (z10+1)) z21 l22
def q8i  (z13:Int) (l14:List GEdge):Option (GChart) :=
 some (GChart.mk z13 l14)
def q5c (p2:List GEdge) (n:Nat):Nat→Int→Int→(List GEdge)→Option (GChart)
 | 0,_,_,_=>none
 | m1+1,z10,z11,l12 =>
  cond (decide (z10<(p2.length:Int)))
   (bindO (idxO p2 z10) fun x16 =>
   bindO (qbq n (GChart.mk z11 l12) x16) fun r18 =>
   cond (r18.2.2 == 0)
    (q6x z10 (q5c p2 n m1) r18.1.Words r18.1.Edges)
    (q6x z10 (q5c p2 n m1) z11 l12))
   (q8i z11 l12)
def q42 (z12:Int) (rc1:Int→Int→(List GEdge)→Option (GChart)) (z23:Int) (l24:List GEdge):Option (GChart) :=
 rc1 (IntKind.i64.wrap (z12+1)) z23 l24
def q59  (z15:Int) (l16:List GEdge):Option (GChart) :=
 some (GChart.mk z15 l16)
def q2i (p2:List GEdge) (n:Nat):Nat→Int→Int→(List GEdge)→Option (GChart)
 | 0,_,_,_=>none
 | m1+1,z12,z13,l14 =>
  cond (decide (z12<(p2.length:Int)))
   (bindO (idxO p2 z12) fun x18 =>
   bindO (q31 n (GChart.mk z13 l14) x18) fun r20 =>
   cond (r20.2.2 == 0)
    (q42 z12 (q2i p2 n m1) r20.1.Words r20.1.Edges)
    (q42 z12 (q2i p2 n m1) z13 l14))
   (q59 z13 l14)
def q6b (n:Nat) (p1:Int) (p2:List GEdge):Option (GChart) :=
 bindO (q5j n (IntKind.i64.wrap (1+((IntKind.i64.wrap p1).tmod 8)))) fun r4 =>
 q2i p2 n n 0 r4.1.Words r4.1.Edges
theorem law32_built_0 (n:Nat) (p1:Int) (p2:List GEdge) (r:GChart) (hF:q6b n p1 p2=some r):EvU Try.prog 27 [.int .u8 p1,.isl false (List.map cGEdge p2)] ⟨[],0⟩ (fun u _=>u = .agg (cGChart r)∧Bel 0 u):=by
 unfold q6b at hF
 refine EvU.of_body Try.tb_ok fn27 rfl ?_
 refine WPU.ghost (tm':=fr 39 [(0,.int .u8 p1),(1,.isl false (List.map cGEdge p2))]) (Gh.start (Nat.le_of_ble_eq_true rfl)) (Nat.zero_le _) ?_
 refine sr ?_
 refine RS.q (u:=.ptr 0 0 0) (σ':=⟨[(0,.row [.int .i64 0,.nils] 24)],1⟩) rfl (q1i inf24 rfl rfl) ?_
 refine sd ?_
 obtain ⟨r4,h5,hF⟩:=q00 hF
 refine sr ?_
 refine RS.q (u:=.int .i64 (IntKind.i64.wrap p1)) rfl (op_conv rfl rfl (by simp only [convX,und5,und3]<;>rfl) rfl) ?_
 refine RS.q rfl (q02 rfl rfl (ix_rem _ (by decide)) rfl) ?_
 refine RS.q rfl (q02 rfl rfl (q35 _ _ _) rfl) (RS.call (u:=.tup [.agg (cGChart r4.1),.int .i64 r4.2]) (args:=[.int .i64 (IntKind.i64.wrap (1+((IntKind.i64.wrap p1).tmod 8)))]) rfl (q0b rfl rfl fn9 hb9 rfl rfl) (q6n n (IntKind.i64.wrap (1+((IntKind.i64.wrap p1).tmod 8))) r4 h5 _) rfl rfl (RS.mv rfl rfl rfl rfl (RS.q rfl (q1f rfl rfl) (RS.q rfl (q1f rfl rfl) (RS.q (u:=.ptr 1 0 0) (σ':=⟨[(1,.row [.int .i64 0,.nils] 24),(0,.row [.int .i64 0,.nils] 24)],2⟩) rfl (q1i inf24 rfl rfl) (RS.opn (u:=.junk) (σ':=⟨[(1,.row (cGChart r4.1) 24),(0,.row [.int .i64 0,.nils] 24)],2⟩) rfl (q0h (q01 inf24) rfl rfl rfl rfl rfl rfl rfl rfl) rfl ?_))))))
 refine se ?_
 refine RS.q rfl (q0l rfl rfl rfl (q0e cGEdge und22)) (RS.mv rfl rfl rfl rfl ?_)
 refine sd ?_
 refine WPU.ghost (tm':=fr 39 [(1,.isl false (List.map cGEdge p2)),(4,.ptr 0 0 0),(5,.ptr 1 0 0),(20,.int .i64 (p2.length:Int)),(21,.int .i64 0)]) (Gh.sub ⟨rfl,rfl,rfl,rfl,rfl,trivial⟩) (Nat.zero_le _) ?_
 refine WPU.loopK (fun m tm σ=>∃ z12:Int,∃ z13:Int,∃ l14:List GEdge,q2i p2 n m z12 z13 l14=some r∧tm=fr 39 [(1,.isl false (List.map cGEdge p2)),(4,.ptr 0 0 0),(5,.ptr 1 0 0),(20,.int .i64 (p2.length:Int)),(21,.int .i64 z12)]∧σ=⟨[(1,.row [.int .i64 z13,.isl false (List.map cGEdge l14)] 24),(0,.row [.int .i64 0,.nils] 24)],2⟩) (fun tm σ=>∃ z15:Int,∃ l16:List GEdge,q59 z15 l16=some r∧tm=fr 39 [(4,.ptr 0 0 0),(5,.ptr 1 0 0)]∧σ=⟨[(1,.row [.int .i64 z15,.isl false (List.map cGEdge l16)] 24),(0,.row [.int .i64 0,.nils] 24)],2⟩) n ⟨0,r4.1.Words,r4.1.Edges,hF,rfl,rfl⟩ ?_ ?_
 rintro _ _ ⟨z15,l16,hF,rfl,rfl⟩
 unfold q59 at hF
 refine sr ?_
 refine RS.q (u:=.agg [.int .i64 z15,.isl false (List.map cGEdge l16)]) rfl (q0o und24 rfl (q01 inf24) rfl rfl rfl) (RS.opn (u:=.junk) (σ':=⟨[(1,.row [.int .i64 z15,.isl false (List.map cGEdge l16)] 24),(0,.row [.int .i64 z15,.isl false (List.map cGEdge l16)] 24)],2⟩) rfl (q0h (q01 inf24) rfl rfl rfl rfl rfl rfl rfl rfl) rfl ?_)
 refine sd ?_
 refine WPU.ret ?_
 refine st ?_
 have hr:=Option.some.inj hF
 subst hr
 exact ⟨.inr rfl,[.agg [.int .i64 z15,.isl false (List.map cGEdge l16)]],q9i (q0o und24 rfl (q01 inf24) rfl rfl rfl) (q1b),.agg [.int .i64 z15,.isl false (List.map cGEdge l16)],⟨[],0⟩,Nat.le_refl _,Gh.toR (.agg [.int .i64 z15,.isl false (List.map cGEdge l16)]) rfl,rfl,BU.h⟩
 rintro m1 _ _ ⟨z12,z13,l14,hF,rfl,rfl⟩
 rcases m1 with _ | m1
 cases hF
 unfold q2i at hF
 refine sr ?_
 refine RS.q rfl (q02 rfl rfl (q1q _ _ _) rfl) ?_
 refine sd ?_
 refine WPU.condS (t:=(decide (z12<(p2.length:Int)))) rfl (fun h17=>?_) (fun h17=>?_)
 replace hF:=q0a h17 hF
 refine st ?_
 refine WPU.skip ?_
 refine st ?_
 refine WPU.block ?_
 refine sr ?_
 refine sd ?_
 obtain ⟨x18,h19,hF⟩:=q00 hF
 obtain ⟨r20,h21,hF⟩:=q00 hF
 refine WPU.drawE Try.tb_ok [(0,10),(1,10),(2,10),(3,10),(4,10),(6,10),(7,10),(8,10),(8,11),(9,10),(9,11)] (by kernel_rfl) ?_
 refine RD.q (u:=.agg [.int .i64 z13,.isl false (List.map cGEdge l14)]) rfl (q0o und24 rfl (q01 inf24) rfl rfl rfl) ?_
 repeat refine RD.mv rfl rfl rfl rfl ?_
 refine RD.q (u:=.iptr (cGEdge x18)) rfl (q1e rfl rfl (q0p cGEdge und22 (q01 inf42) q0f h19 rfl)) (RD.q (u:=.agg (cGEdge x18)) rfl (q3a und42 rfl (q01 inf42) rfl rfl) (RD.free (u:=.tup [.agg (cGChart r20.1),.int .i64 r20.2.1,.int .i64 r20.2.2]) (args:=[.agg [.int .i64 z13,.isl false (List.map cGEdge l14)],.agg (cGEdge x18)]) rfl (q0b rfl rfl fn14 hb14 rfl rfl) (fun s=>q34 n (GChart.mk z13 l14) x18 r20 h21 s) rfl rfl (RD.mv rfl rfl rfl rfl (RD.q rfl (q1f rfl rfl) (RD.q rfl (q1f rfl rfl) (RD.q rfl (q1f rfl rfl) (RD.act (u:=.ptr 2 0 0) (σ':=⟨[(2,.row [.int .i64 0,.nils] 24),(1,.row [.int .i64 z13,.isl false (List.map cGEdge l14)] 24),(0,.row [.int .i64 0,.nils] 24)],3⟩) rfl (q1i inf24 rfl rfl) rfl rfl ?_)))))))
 refine RD.actn (u:=.junk) (σ':=⟨[(2,.row (cGChart r20.1) 24),(1,.row [.int .i64 z13,.isl false (List.map cGEdge l14)] 24),(0,.row [.int .i64 0,.nils] 24)],3⟩) rfl (q0h (q01 inf24) rfl rfl rfl rfl rfl rfl rfl rfl) rfl ?_
 repeat refine RD.as rfl rfl rfl rfl ?_
 refine RD.done ⟨by kernel_rfl,⟨q0o und24 rfl (q01 inf24) rfl rfl rfl,⟨q06 rfl,⟨q06 rfl,⟨q1e rfl rfl (q0p cGEdge und22 (q01 inf42) q0f h19 rfl),⟨q3a und42 rfl (q01 inf42) rfl rfl,⟨q06 rfl,⟨q1f rfl rfl,⟨q1f rfl rfl,⟨q1f rfl rfl,⟨q1f rfl rfl,⟨q1f rfl rfl,trivial⟩⟩⟩⟩⟩⟩⟩⟩⟩⟩⟩,?_⟩
 refine sr ?_
 refine RS.q rfl (q02 rfl rfl (q0d _ _ _) rfl) ?_
 refine sd ?_
 refine WPU.joinK (fun tm σ=>∃ z23:Int,∃ l24:List GEdge,q42 z12 (q2i p2 n m1) z23 l24=some r∧tm=fr 39 [(1,.isl false (List.map cGEdge p2)),(4,.ptr 0 0 0),(5,.ptr 1 0 0),(20,.int .i64 (p2.length:Int)),(21,.int .i64 z12)]∧σ=⟨[(2,.row (cGChart r20.1) 24),(1,.row [.int .i64 z23,.isl false (List.map cGEdge l24)] 24),(0,.row [.int .i64 0,.nils] 24)],3⟩) ?_ ?_
 rintro _ _ ⟨z23,l24,hF,rfl,rfl⟩
 unfold q42 at hF
 refine sr ?_
 refine RS.q rfl (q02 rfl rfl (q35 _ _ _) rfl) (RS.mv rfl rfl rfl rfl ?_)
 refine sd ?_
 exact ⟨m1,_,_,Nat.lt_succ_self _,⟨(IntKind.i64.wrap (z12+1)),z23,l24,hF,rfl,rfl⟩,(Nat.zero_le _),Gh.toC (n1:=2) ⟨rfl,rfl,rfl,rfl,rfl,trivial⟩ rfl (Nat.zero_le _) (by simp)⟩
 refine WPU.condS (t:=(r20.2.2 == 0)) rfl (fun h22=>?_) (fun h22=>?_)
 replace hF:=q0a h22 hF
 refine sr ?_
 refine RS.q (u:=.agg (cGChart r20.1)) rfl (q0o und24 rfl (q01 inf24) rfl rfl rfl) (RS.opn (u:=.junk) (σ':=⟨[(2,.row (cGChart r20.1) 24),(1,.row (cGChart r20.1) 24),(0,.row [.int .i64 0,.nils] 24)],3⟩) rfl (q0h (q01 inf24) rfl rfl rfl rfl rfl rfl rfl rfl) rfl ?_)
 refine sd ?_
 exact ⟨_,_,⟨r20.1.Words,r20.1.Edges,hF,rfl,rfl⟩,(Nat.zero_le _),Gh.toC (n1:=3) ⟨rfl,rfl,rfl,rfl,rfl,trivial⟩ rfl (Nat.zero_le _) (by simp)⟩
 replace hF:=q09 h22 hF
 refine st ?_
 refine WPU.skip ?_
 refine st ?_
 exact ⟨_,_,⟨z13,l14,hF,rfl,rfl⟩,(Nat.zero_le _),Gh.toC (n1:=3) ⟨rfl,rfl,rfl,rfl,rfl,trivial⟩ rfl (Nat.zero_le _) (by simp)⟩
 replace hF:=q09 h17 hF
 refine st ?_
 refine WPU.exit ?_
 refine st ?_
 exact ⟨_,_,⟨z13,l14,hF,rfl,rfl⟩,(Nat.zero_le _),Gh.toC (n1:=2) ⟨rfl,rfl,trivial⟩ rfl (Nat.zero_le _) (by simp)⟩
theorem law32_built_ok (n:Nat) (p1:Int) (p2:List GEdge) (r:GChart) (hF:q6b n p1 p2=some r) (σ:Sg):EvU Try.prog 27 [.int .u8 p1,.isl false (List.map cGEdge p2)] σ (fun u σ'=>u = .agg (cGChart r)∧σ'=σ) :=
 EvU.pure1C (law32_built_0 n p1 p2 r hF) σ
def q62 (n:Nat) (p1:List UInt8) (p2:Int) (p3:Int):Option (GEdge) :=
 some (GEdge.mk p2 p3 0 1 p1 [] (GDeriv.mk 0 p1 p2 p3 []) (GFS.mk []))
theorem law32_item_0 (n:Nat) (p1:List UInt8) (p2:Int) (p3:Int) (r:GEdge) (hF:q62 n p1 p2 p3=some r):EvU Try.prog 31 [.str p1,.int .i64 p2,.int .i64 p3] ⟨[],0⟩ (fun u _=>u = .agg (cGEdge r)∧Bel 0 u):=by
 unfold q62 at hF
 refine EvU.of_body Try.tb_ok fn31 rfl ?_
 refine WPU.ghost (tm':=fr 15 [(0,.str p1),(1,.int .i64 p2),(2,.int .i64 p3)]) (Gh.start (Nat.le_of_ble_eq_true rfl)) (Nat.zero_le _) ?_
 refine sr ?_
 refine RS.q (u:=.ptr 0 0 0) (σ':=⟨[(0,.row [.int .i64 0,.int .i64 0,.int .i64 0,.int .i64 0,.str [],.nils,.int .i64 0,.str [],.int .i64 0,.int .i64 0,.nils,.nils] 42)],1⟩) rfl (q1i inf42 rfl rfl) ?_
 refine se ?_
 repeat refine RS.mv rfl rfl rfl rfl ?_
 refine RS.q (u:=.agg [.int .i64 0,.str p1,.int .i64 p2,.int .i64 p3,.nils]) rfl (q7g bd37 rfl rfl rfl) (RS.q (u:=.agg [.int .i64 p2,.int .i64 p3,.int .i64 0,.int .i64 1,.str p1,.nils,.int .i64 0,.str p1,.int .i64 p2,.int .i64 p3,.nils,.nils]) rfl (q7g bd42 rfl rfl rfl) (RS.opn (u:=.junk) (σ':=⟨[(0,.row [.int .i64 p2,.int .i64 p3,.int .i64 0,.int .i64 1,.str p1,.nils,.int .i64 0,.str p1,.int .i64 p2,.int .i64 p3,.nils,.nils] 42)],1⟩) rfl (q0h (q01 inf42) rfl rfl rfl rfl rfl rfl rfl rfl) rfl ?_))
 refine sd ?_
 refine WPU.ret ?_
 refine st ?_
 have hr:=Option.some.inj hF
 subst hr
 exact ⟨.inr rfl,[.agg [.int .i64 p2,.int .i64 p3,.int .i64 0,.int .i64 1,.str p1,.nils,.int .i64 0,.str p1,.int .i64 p2,.int .i64 p3,.nils,.nils]],q9i (q0o und42 rfl (q01 inf42) rfl rfl rfl) (q1b),.agg [.int .i64 p2,.int .i64 p3,.int .i64 0,.int .i64 1,.str p1,.isl false [],.int .i64 0,.str p1,.int .i64 p2,.int .i64 p3,.isl false [],.isl false []],⟨[],0⟩,Nat.le_refl _,Gh.trans (Gh.wk (.cons (.agg (.cons (.refl _) (.cons (.refl _) (.cons (.refl _) (.cons (.refl _) (.cons (.refl _) (.cons (.nil false) (.cons (.refl _) (.cons (.refl _) (.cons (.refl _) (.cons (.refl _) (.cons (.nil false) (.cons (.nil false) .nil))))))))))))) .nil)) (Gh.toR (.agg [.int .i64 p2,.int .i64 p3,.int .i64 0,.int .i64 1,.str p1,.isl false [],.int .i64 0,.str p1,.int .i64 p2,.int .i64 p3,.isl false [],.isl false []]) rfl),rfl,BU.h⟩
theorem q78 (n:Nat) (p1:List UInt8) (p2:Int) (p3:Int) (r:GEdge) (hF:q62 n p1 p2 p3=some r) (σ:Sg):EvU Try.prog 31 [.str p1,.int .i64 p2,.int .i64 p3] σ (fun u σ'=>u = .agg (cGEdge r)∧σ'=σ) :=
 EvU.pure1C (law32_item_0 n p1 p2 p3 r hF) σ
def q5q (p1:Int) (s10:List UInt8):Option ((List UInt8)) :=
 cond (decide (p1<0))
  (needO (([45]).length+s10.length≤9223372036854775807) (
  some ([45]++s10)))
  (some s10)
def q4b (p1:Int):Nat→Int→(List UInt8)→Option ((List UInt8))
 | 0,_,_=>none
 | m2+1,z8,s9 =>
  cond (decide (z8 > 0))
   (needO (([UInt8.ofNat ((IntKind.u8.wrap (IntKind.u64.wrap (48+(z8.tmod 10))))).toNat]).length+s9.length≤9223372036854775807) (
   (q4b p1 m2) (IntKind.u64.wrap (z8.tdiv 10)) ([UInt8.ofNat ((IntKind.u8.wrap (IntKind.u64.wrap (48+(z8.tmod 10))))).toNat]++s9)))
   (q5q p1 s9)
def q4a (p1:Int) (n:Nat) (z4:Int):Option ((List UInt8)) :=
 q4b p1 n z4 []
def q4v (n:Nat) (p1:Int):Option ((List UInt8)) :=
 cond (p1 == 0)
  (some ([48]))
  (cond (decide (p1<0))
   (q4a p1 n (IntKind.u64.wrap (0 - (IntKind.u64.wrap p1))))
   (q4a p1 n (IntKind.u64.wrap p1)))
theorem qbp (n:Nat) (p1:Int) (r:(List UInt8)) (hF:q4v n p1=some r):EvU Try.prog 49 [.int .i64 p1] ⟨[],0⟩ (fun u _=>u = .str r∧Bel 0 u):=by
 unfold q4v at hF
 refine EvU.of_body Try.tb_ok fn49 rfl ?_
 refine WPU.ghost (tm':=fr 30 [(0,.int .i64 p1)]) (Gh.start (Nat.le_of_ble_eq_true rfl)) (Nat.zero_le _) ?_
 refine sr ?_
 refine se ?_
 refine RS.q rfl (q02 rfl rfl (q0d _ _ _) rfl) ?_
 refine sd ?_
 refine WPU.condS (t:=(p1 == 0)) rfl (fun h2=>?_) (fun h2=>?_)
 replace hF:=q0a h2 hF
 refine sr ?_
 refine sd ?_
 refine WPU.ret ?_
 refine st ?_
 have hr:=Option.some.inj hF
 subst hr
 exact ⟨.inr rfl,[.str ([48])],q1g rfl (q1b),.str ([48]),⟨[],0⟩,Nat.le_refl _,Gh.toR (.str ([48])) rfl,rfl,BU.h⟩
 replace hF:=q09 h2 hF
 refine st ?_
 refine WPU.skip ?_
 refine sr ?_
 refine RS.q (u:=.int .u64 (IntKind.u64.wrap p1)) rfl (op_conv rfl rfl (by simp only [convX,und3,und80]<;>rfl) rfl) ?_
 refine se ?_
 refine RS.q rfl (q02 rfl rfl (q1q _ _ _) rfl) ?_
 refine sd ?_
 refine WPU.joinK (fun tm σ=>∃ z4:Int,q4a p1 n z4=some r∧tm=fr 30 [(0,.int .i64 p1),(3,.int .u64 z4)]∧σ=⟨[],0⟩) ?_ ?_
 rintro _ _ ⟨z4,hF,rfl,rfl⟩
 unfold q4a at hF
 refine sr ?_
 refine sd ?_
 refine WPU.ghost (tm':=fr 30 [(0,.int .i64 p1),(3,.int .u64 z4),(4,.str [])]) (Gh.sub ⟨rfl,rfl,rfl,trivial⟩) (Nat.zero_le _) ?_
 refine WPU.loopK (fun m tm σ=>∃ z8:Int,∃ s9:List UInt8,q4b p1 m z8 s9=some r∧tm=fr 30 [(0,.int .i64 p1),(3,.int .u64 z8),(4,.str s9)]∧σ=⟨[],0⟩) (fun tm σ=>∃ s10:List UInt8,q5q p1 s10=some r∧tm=fr 30 [(0,.int .i64 p1),(4,.str s10)]∧σ=⟨[],0⟩) n ⟨z4,[],hF,rfl,rfl⟩ ?_ ?_
 rintro _ _ ⟨s10,hF,rfl,rfl⟩
 unfold q5q at hF
 refine sr ?_
 refine RS.q rfl (q02 rfl rfl (q1q _ _ _) rfl) ?_
 refine sd ?_
 refine WPU.condS (t:=(decide (p1<0))) rfl (fun h11=>?_) (fun h11=>?_)
 replace hF:=q0a h11 hF
 refine st ?_
 obtain ⟨h12,hF⟩:=q0v hF
 refine sr ?_
 refine RS.q (u:=.str ([45]++s10)) rfl (q30 rfl rfl (q8j h12) rfl) ?_
 refine sd ?_
 refine WPU.ret ?_
 refine st ?_
 have hr:=Option.some.inj hF
 subst hr
 exact ⟨.inr rfl,[.str ([45]++s10)],q1g rfl (q1b),.str ([45]++s10),⟨[],0⟩,Nat.le_refl _,Gh.toR (.str ([45]++s10)) rfl,rfl,BU.h⟩
 replace hF:=q09 h11 hF
 refine st ?_
 refine WPU.skip ?_
 refine sr ?_
 refine sd ?_
 refine WPU.ret ?_
 refine st ?_
 have hr:=Option.some.inj hF
 subst hr
 exact ⟨.inr rfl,[.str s10],q1g rfl (q1b),.str s10,⟨[],0⟩,Nat.le_refl _,Gh.toR (.str s10) rfl,rfl,BU.h⟩
 rintro m2 _ _ ⟨z8,s9,hF,rfl,rfl⟩
 rcases m2 with _ | m2
 cases hF
 unfold q4b at hF
 refine sr ?_
 refine RS.q rfl (q02 rfl rfl (q6a _ _ _) rfl) ?_
 refine sd ?_
 refine WPU.condS (t:=(decide (z8 > 0))) rfl (fun h13=>?_) (fun h13=>?_)
 replace hF:=q0a h13 hF
 refine st ?_
 refine WPU.skip ?_
 refine st ?_
 refine WPU.block ?_
 refine st ?_
 obtain ⟨h15,hF⟩:=q0v hF
 refine sr ?_
 refine RS.q rfl (q02 rfl rfl (ix_rem _ (by decide)) rfl) ?_
 refine RS.q rfl (q02 rfl rfl (q35 _ _ _) rfl) ?_
 refine RS.q (u:=.int .u8 (IntKind.u8.wrap (IntKind.u64.wrap (48+(z8.tmod 10))))) rfl (op_conv rfl rfl (by simp only [convX,und80,und5]<;>rfl) rfl) ?_
 refine RS.q (u:=.sl 0 0 1 1) (σ':=⟨[(0,.row [.int .u8 (IntKind.u8.wrap (IntKind.u64.wrap (48+(z8.tmod 10))))] 5)],1⟩) rfl (q71 und81 inf5 rfl rfl rfl rfl rfl rfl rfl) (RS.step (u:=.str ([UInt8.ofNat ((IntKind.u8.wrap (IntKind.u64.wrap (48+(z8.tmod 10))))).toNat])) rfl (StepU.bstr (ns:=[(IntKind.u8.wrap (IntKind.u64.wrap (48+(z8.tmod 10))))]) Try.tb_ok rfl und81 und5 und9 (q2v rfl) rfl rfl rfl) rfl rfl (RS.mv rfl rfl rfl rfl (RS.q (u:=.str ([UInt8.ofNat ((IntKind.u8.wrap (IntKind.u64.wrap (48+(z8.tmod 10))))).toNat]++s9)) rfl (q30 rfl rfl (q8j h15) rfl) ?_)))
 refine se ?_
 refine RS.q rfl (q02 rfl rfl (ix_quo _ (by decide)) rfl) ?_
 refine sd ?_
 exact ⟨m2,_,_,Nat.lt_succ_self _,⟨(IntKind.u64.wrap (z8.tdiv 10)),([UInt8.ofNat ((IntKind.u8.wrap (IntKind.u64.wrap (48+(z8.tmod 10))))).toNat]++s9),hF,rfl,rfl⟩,(Nat.zero_le _),Gh.toC (n1:=0) ⟨rfl,rfl,rfl,trivial⟩ rfl (Nat.zero_le _) (by simp)⟩
 replace hF:=q09 h13 hF
 refine st ?_
 refine WPU.exit ?_
 refine st ?_
 exact ⟨_,_,⟨s9,hF,rfl,rfl⟩,(Nat.zero_le _),Gh.toC (n1:=0) ⟨rfl,rfl,trivial⟩ rfl (Nat.zero_le _) (by simp)⟩
 refine WPU.condS (t:=(decide (p1<0))) rfl (fun h3=>?_) (fun h3=>?_)
 replace hF:=q0a h3 hF
 refine sr ?_
 refine RS.q (u:=.int .u64 (IntKind.u64.wrap (0 - (IntKind.u64.wrap p1)))) rfl (op_un rfl rfl rfl rfl) ?_
 refine sd ?_
 exact ⟨_,_,⟨(IntKind.u64.wrap (0 - (IntKind.u64.wrap p1))),hF,rfl,rfl⟩,(Nat.zero_le _),Gh.toC (n1:=0) ⟨rfl,rfl,trivial⟩ rfl (Nat.zero_le _) (by simp)⟩
 replace hF:=q09 h3 hF
 refine st ?_
 refine WPU.skip ?_
 refine st ?_
 exact ⟨_,_,⟨(IntKind.u64.wrap p1),hF,rfl,rfl⟩,(Nat.zero_le _),Gh.toC (n1:=0) ⟨rfl,rfl,trivial⟩ rfl (Nat.zero_le _) (by simp)⟩
theorem q7h (n:Nat) (p1:Int) (r:(List UInt8)) (hF:q4v n p1=some r) (σ:Sg):EvU Try.prog 49 [.int .i64 p1] σ (fun u σ'=>u = .str r∧σ'=σ) :=
 EvU.pure1C (qbp n p1 r hF) σ
def q6w  (s22:List UInt8):Option ((List UInt8)) :=
 needO (s22.length+([41]).length≤9223372036854775807) (
 some (s22++[41]))
def q5b (p1:GDeriv) (self:GDeriv→Option ((List UInt8))):Nat→(List UInt8)→Int→Option ((List UInt8))
 | 0,_,_=>none
 | m2+1,s20,z21 =>
  cond (decide (z21<(p1.Kids.length:Int)))
   (needO (s20.length+([32]).length≤9223372036854775807) (
   bindO (idxO p1.Kids z21) fun x26 =>
   bindO (self x26) fun r28 =>
   needO ((s20++[32]).length+r28.length≤9223372036854775807) (
   (q5b p1 self m2) ((s20++[32])++r28) (IntKind.i64.wrap (z21+1)))))
   (q6w s20)
def q5a (p1:GDeriv) (n:Nat) (self:GDeriv→Option ((List UInt8))) (s3:List UInt8):Option ((List UInt8)) :=
 needO (s3.length+p1.Name.length≤9223372036854775807) (
 needO ((s3++p1.Name).length+([32]).length≤9223372036854775807) (
 bindO (q4v n p1.From) fun r6 =>
 needO (((s3++p1.Name)++[32]).length+r6.length≤9223372036854775807) (
 needO ((((s3++p1.Name)++[32])++r6).length+([32]).length≤9223372036854775807) (
 bindO (q4v n p1.To) fun r10 =>
 needO (((((s3++p1.Name)++[32])++r6)++[32]).length+r10.length≤9223372036854775807) (
 q5b p1 self n (((((s3++p1.Name)++[32])++r6)++[32])++r10) 0)))))
def q9g (n:Nat) (self:GDeriv→Option ((List UInt8))) (p1:GDeriv):Option ((List UInt8)) :=
 cond (p1.Kind == 1)
  (q5a p1 n self ([40,43]))
  (q5a p1 n self ([40]))
def q3p:Nat→GDeriv→Option ((List UInt8))
 | 0,_=>none
 | n+1,p1=>q9g n (q3p n) p1
theorem q9f:∀ (n:Nat) (p1:GDeriv) (r:(List UInt8)),q3p n p1=some r→EvU Try.prog 32 [.agg (xGDeriv p1)] ⟨[],0⟩ (fun u _=>u = .str r∧Bel 0 u)
 | 0,p1,r,hF=>by cases hF
 | n+1,p1,r,hF=>by
  have ih:=q9f n
  have ihS:∀ (p1:GDeriv) (r:(List UInt8)),q3p n p1=some r→∀ σ,EvU Try.prog 32 [.agg (xGDeriv p1)] σ (fun u σ'=>u = .str r∧σ'=σ):=fun p1 r h σ=>EvU.pure1C (ih p1 r h) σ
  unfold q3p q9g at hF
  refine EvU.of_body Try.tb_ok fn32 rfl ?_
  refine WPU.ghost (tm':=fr 40 [(0,.agg (xGDeriv p1))]) (Gh.start (Nat.le_of_ble_eq_true rfl)) (Nat.zero_le _) ?_
  refine sr ?_
  refine RS.q (u:=.ptr 0 0 0) (σ':=⟨[(0,.row (xGDeriv p1) 37)],1⟩) rfl (q3x rfl rfl rfl) ?_
  refine se ?_
  refine se ?_
  refine RS.q (u:=.ptr 0 0 0) rfl (q07 und37 rfl (q01 inf3) rfl rfl rfl) (RS.q (u:=.int .i64 p1.Kind) rfl (q05 und3 rfl rfl rfl rfl) (RS.q rfl (q02 rfl rfl (q0d _ _ _) rfl) ?_))
  refine sd ?_
  refine WPU.joinK (fun tm σ=>∃ s3:List UInt8,q5a p1 n (q3p n) s3=some r∧tm=fr 40 [(1,.ptr 0 0 0),(3,.str s3)]∧σ=⟨[(0,.row (xGDeriv p1) 37)],1⟩) ?_ ?_
  rintro _ _ ⟨s3,hF,rfl,rfl⟩
  unfold q5a at hF
  refine st ?_
  obtain ⟨h4,hF⟩:=q0v hF
  obtain ⟨h5,hF⟩:=q0v hF
  obtain ⟨r6,h7,hF⟩:=q00 hF
  obtain ⟨h8,hF⟩:=q0v hF
  obtain ⟨h9,hF⟩:=q0v hF
  obtain ⟨r10,h11,hF⟩:=q00 hF
  obtain ⟨h12,hF⟩:=q0v hF
  refine WPU.drawE Try.tb_ok [] (by kernel_rfl) ?_
  refine RD.mv rfl rfl rfl rfl (RD.q (u:=.ptr 0 0 1) rfl (q07 und37 rfl (q01 inf9) rfl rfl rfl) (RD.q (u:=.str p1.Name) rfl (q05 und9 rfl rfl rfl rfl) (RD.q (u:=.str (s3++p1.Name)) rfl (q30 rfl rfl (q8j h4) rfl) (RD.q (u:=.str ((s3++p1.Name)++[32])) rfl (q30 rfl rfl (q8j h5) rfl) (RD.q (u:=.ptr 0 0 2) rfl (q07 und37 rfl (q01 inf3) rfl rfl rfl) (RD.q (u:=.int .i64 p1.From) rfl (q05 und3 rfl rfl rfl rfl) (RD.free (u:=.str r6) (args:=[.int .i64 p1.From]) rfl (q0b rfl rfl fn49 hb49 rfl rfl) (fun s=>q7h n p1.From r6 h7 s) rfl rfl ?_)))))))
  refine RD.q (u:=.str (((s3++p1.Name)++[32])++r6)) rfl (q30 rfl rfl (q8j h8) rfl) (RD.q (u:=.str ((((s3++p1.Name)++[32])++r6)++[32])) rfl (q30 rfl rfl (q8j h9) rfl) (RD.q (u:=.ptr 0 0 3) rfl (q07 und37 rfl (q01 inf3) rfl rfl rfl) (RD.q (u:=.int .i64 p1.To) rfl (q05 und3 rfl rfl rfl rfl) (RD.free (u:=.str r10) (args:=[.int .i64 p1.To]) rfl (q0b rfl rfl fn49 hb49 rfl rfl) (fun s=>q7h n p1.To r10 h11 s) rfl rfl (RD.q (u:=.str (((((s3++p1.Name)++[32])++r6)++[32])++r10)) rfl (q30 rfl rfl (q8j h12) rfl) (RD.as rfl rfl rfl rfl ?_))))))
  refine RD.done ⟨by kernel_rfl,trivial,?_⟩
  refine sr ?_
  refine sd ?_
  refine WPU.ghost (tm':=fr 40 [(1,.ptr 0 0 0),(3,.str (((((s3++p1.Name)++[32])++r6)++[32])++r10)),(4,.int .i64 0)]) (Gh.sub ⟨rfl,rfl,rfl,trivial⟩) (Nat.zero_le _) ?_
  refine WPU.loopK (fun m tm σ=>∃ s20:List UInt8,∃ z21:Int,q5b p1 (q3p n) m s20 z21=some r∧tm=fr 40 [(1,.ptr 0 0 0),(3,.str s20),(4,.int .i64 z21)]∧σ=⟨[(0,.row (xGDeriv p1) 37)],1⟩) (fun tm σ=>∃ s22:List UInt8,q6w s22=some r∧tm=fr 40 [(3,.str s22)]∧σ=⟨[(0,.row (xGDeriv p1) 37)],1⟩) n ⟨(((((s3++p1.Name)++[32])++r6)++[32])++r10),0,hF,rfl,rfl⟩ ?_ ?_
  rintro _ _ ⟨s22,hF,rfl,rfl⟩
  unfold q6w at hF
  refine st ?_
  obtain ⟨h23,hF⟩:=q0v hF
  refine sr ?_
  refine RS.q (u:=.str (s22++[41])) rfl (q30 rfl rfl (q8j h23) rfl) ?_
  refine sd ?_
  refine WPU.ret ?_
  refine st ?_
  have hr:=Option.some.inj hF
  subst hr
  exact ⟨.inr rfl,[.str (s22++[41])],q1g rfl (q1b),.str (s22++[41]),⟨[],0⟩,Nat.le_refl _,Gh.toR (.str (s22++[41])) rfl,rfl,BU.h⟩
  rintro m2 _ _ ⟨s20,z21,hF,rfl,rfl⟩
  rcases m2 with _ | m2
  cases hF
  unfold q5b at hF
  refine sr ?_
  refine RS.q (u:=.ptr 0 0 4) rfl (q07 und37 rfl (q01 inf35) rfl rfl rfl) (RS.q (u:=.isl false (List.map cGDeriv p1.Kids)) rfl (q05 und35 rfl rfl rfl rfl) (RS.q rfl (q0l rfl rfl rfl (q0e cGDeriv und35)) (RS.q rfl (q02 rfl rfl (q1q _ _ _) rfl) ?_)))
  refine sd ?_
  refine WPU.condS (t:=(decide (z21<(p1.Kids.length:Int)))) rfl (fun h24=>?_) (fun h24=>?_)
  replace hF:=q0a h24 hF
  refine st ?_
  refine WPU.skip ?_
  refine st ?_
  refine WPU.block ?_
  refine st ?_
  obtain ⟨h25,hF⟩:=q0v hF
  obtain ⟨x26,h27,hF⟩:=q00 hF
  obtain ⟨r28,h29,hF⟩:=q00 hF
  obtain ⟨h30,hF⟩:=q0v hF
  refine sr ?_
  refine RS.q (u:=.str (s20++[32])) rfl (q30 rfl rfl (q8j h25) rfl) (RS.q (u:=.ptr 0 0 4) rfl (q07 und37 rfl (q01 inf35) rfl rfl rfl) (RS.q (u:=.isl false (List.map cGDeriv p1.Kids)) rfl (q05 und35 rfl rfl rfl rfl) (RS.mv rfl rfl rfl rfl (RS.q (u:=.iptr (xGDeriv x26)) rfl (q1e rfl rfl (q0p cGDeriv und35 (q01 inf37) q17 h27 (q1j x26))) (RS.q (u:=.agg (xGDeriv x26)) rfl (q3a und37 rfl (q01 inf37) rfl rfl) (RS.call (u:=.str r28) (args:=[.agg (xGDeriv x26)]) rfl (q0b rfl rfl fn32 hb32 rfl rfl) (ihS x26 r28 h29 _) rfl rfl (RS.q (u:=.str ((s20++[32])++r28)) rfl (q30 rfl rfl (q8j h30) rfl) ?_)))))))
  refine se ?_
  refine RS.q rfl (q02 rfl rfl (q35 _ _ _) rfl) ?_
  refine sd ?_
  exact ⟨m2,_,_,Nat.lt_succ_self _,⟨((s20++[32])++r28),(IntKind.i64.wrap (z21+1)),hF,rfl,rfl⟩,(Nat.zero_le _),Gh.toC (n1:=1) ⟨rfl,rfl,rfl,trivial⟩ rfl (Nat.zero_le _) (by simp)⟩
  replace hF:=q09 h24 hF
  refine st ?_
  refine WPU.exit ?_
  refine st ?_
  exact ⟨_,_,⟨s20,hF,rfl,rfl⟩,(Nat.zero_le _),Gh.toC (n1:=1) ⟨rfl,trivial⟩ rfl (Nat.zero_le _) (by simp)⟩
  refine WPU.condS (t:=(p1.Kind == 1)) rfl (fun h2=>?_) (fun h2=>?_)
  replace hF:=q0a h2 hF
  refine sr ?_
  refine sd ?_
  exact ⟨_,_,⟨[40,43],hF,rfl,rfl⟩,(Nat.zero_le _),Gh.toC (n1:=1) ⟨rfl,rfl,trivial⟩ rfl (Nat.zero_le _) (by simp)⟩
  replace hF:=q09 h2 hF
  refine st ?_
  refine WPU.skip ?_
  refine st ?_
  exact ⟨_,_,⟨[40],hF,rfl,rfl⟩,(Nat.zero_le _),Gh.toC (n1:=1) ⟨rfl,rfl,trivial⟩ rfl (Nat.zero_le _) (by simp)⟩
theorem q8h (n:Nat) (p1:GDeriv) (r:(List UInt8)) (hF:q3p n p1=some r) (σ:Sg):EvU Try.prog 32 [.agg (xGDeriv p1)] σ (fun u σ'=>u = .str r∧σ'=σ) :=
 EvU.pure1C (q9f n p1 r hF) σ
end Go.Proofs
end
