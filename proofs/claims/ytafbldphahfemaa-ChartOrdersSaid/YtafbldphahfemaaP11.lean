/-
  Texts of the walk: C1.
-/
import Derived.Test.YtafbldphahfemaaP10
section
namespace Go.Proofs
open Go Go.Rx Go.Vx Try
set_option maxRecDepth 10000
set_option linter.unusedSimpArgs false
set_option linter.unusedVariables false
instance:TbI Try.prog Try.tb:=⟨Try.tb_ok⟩
inductive GDeriv where
 | mk (Kind:Int) (Name:List UInt8) (From:Int) (To:Int) (Kids:List GDeriv)
def GDeriv.Kind:GDeriv→Int
 | .mk a0 _ _ _ _=>a0
def GDeriv.Name:GDeriv→List UInt8
 | .mk _ a1 _ _ _=>a1
def GDeriv.From:GDeriv→Int
 | .mk _ _ a2 _ _=>a2
def GDeriv.To:GDeriv→Int
 | .mk _ _ _ a3 _=>a3
def GDeriv.Kids:GDeriv→List GDeriv
 | .mk _ _ _ _ a4=>a4
mutual
def cGDeriv:GDeriv→List U
 | .mk a0 a1 a2 a3 a4=>[.int .i64 a0,.str a1,.int .i64 a2,.int .i64 a3,.isl false (q61 a4)]
def q61:List GDeriv→List (List U)
 | []=>[]
 | x::l=>cGDeriv x::q61 l
end
theorem qav:∀ l,q61 l=l.map cGDeriv
 | []=>by simp [q61]
 | x::l=>by simp [q61,qav l]
def xGDeriv (x:GDeriv):List U:=[.int .i64 x.Kind,.str x.Name,.int .i64 x.From,.int .i64 x.To,.isl false (List.map cGDeriv x.Kids)]
theorem q1f (x:GDeriv):cGDeriv x=xGDeriv x:=by
 cases x; simp only [cGDeriv,qav]; rfl
mutual
theorem q5j (n:Nat):∀ x,BelL n (cGDeriv x)
 | .mk a0 a1 a2 a3 a4=>by simp only [cGDeriv,BelL,Bel,true_and,and_true]; exact q9f n a4
theorem q9f (n:Nat):∀ l,BelR n (q61 l)
 | []=>by simp [q61,BelR]
 | x::l=>by simp only [q61,BelR]; exact ⟨q5j n x,q9f n l⟩
end
theorem q0x (x:GDeriv):(cGDeriv x).length=5:=by rw [q1f]; rfl
theorem qbt (n:Nat) (x:GDeriv):BelL n (xGDeriv x):=by rw [← q1f]; exact q5j n x
instance:BF cGDeriv:=⟨q5j⟩
instance (n:Nat) (x:GDeriv):BUL n (xGDeriv x):=⟨qbt n x⟩
theorem fz_xGDeriv (K:Nat) (b:B) (sz:Nat) (x:GDeriv):fzL K b sz (xGDeriv x)=xGDeriv x:=q1o _ _ _ (qbt K x)
structure GArc where
 Feat:Int
 To:Int
def cGArc (x:GArc):List U:=[.int .i64 x.Feat,.int .i64 x.To]
theorem bel_cGArc (n:Nat) (x:GArc):BelL n (cGArc x):=by
 simp only [cGArc,BelL,Bel,true_and,and_true]
theorem len_cGArc (x:GArc):(cGArc x).length=2:=rfl
def eqGArc (x y:GArc):Bool:=((x.Feat == y.Feat)&&(x.To == y.To))
structure GNode where
 Typex:Int
 Arcs:List GArc
def cGNode (x:GNode):List U:=[.int .i64 x.Typex,.isl false (List.map cGArc x.Arcs)]
theorem qa9 (n:Nat) (x:GNode):BelL n (cGNode x):=by
 simp only [cGNode,BelL,Bel,true_and,and_true]
 exact q8h _ (fun q=>bel_cGArc _ q) _
theorem qaj (x:GNode):(cGNode x).length=2:=rfl
instance:BF cGNode:=⟨qa9⟩
instance (n:Nat) (x:GNode):BUL n (cGNode x):=⟨qa9 n x⟩
structure GFS where
 Nodes:List GNode
def cGFS (x:GFS):List U:=[.isl false (List.map cGNode x.Nodes)]
structure GEdge where
 From:Int
 To:Int
 Unary:Int
 Kind:Int
 Name:List UInt8
 Kids:List Int
 Lex:GDeriv
 FS:GFS
def cGEdge (x:GEdge):List U:=[.int .i64 x.From,.int .i64 x.To,.int .i64 x.Unary,.int .i64 x.Kind,.str x.Name,.isl false (List.map (cI .i64) x.Kids),.int .i64 x.Lex.Kind,.str x.Lex.Name,.int .i64 x.Lex.From,.int .i64 x.Lex.To,.isl false (List.map cGDeriv x.Lex.Kids),.isl false (List.map cGNode x.FS.Nodes)]
theorem q6h (n:Nat) (x:GEdge):BelL n (cGEdge x):=by
 simp only [cGEdge,BelL,Bel,true_and,and_true]
 exact ⟨q8h _ (fun q=>q6c _ .i64 q) _,q8h _ (fun q=>q5j _ q) _,q8h _ (fun q=>qa9 _ q) _⟩
theorem q0h (x:GEdge):(cGEdge x).length=12:=rfl
instance:BF cGEdge:=⟨q6h⟩
instance (n:Nat) (x:GEdge):BUL n (cGEdge x):=⟨q6h n x⟩
theorem q7j (K:Nat) (b:B) (sz:Nat) (x:GEdge):fzL K b sz (cGEdge x)=cGEdge x:=q1o _ _ _ (q6h K x)
structure GChart where
 Words:Int
 Edges:List GEdge
def cGChart (x:GChart):List U:=[.int .i64 x.Words,.isl false (List.map cGEdge x.Edges)]
theorem qbs (n:Nat) (x:GChart):BelL n (cGChart x):=by
 simp only [cGChart,BelL,Bel,true_and,and_true]
 exact q8h _ (fun q=>q6h _ q) _
instance (n:Nat) (x:GChart):BUL n (cGChart x):=⟨qbs n x⟩
theorem q0m (K:Nat) (b:B) (sz:Nat) (x:GChart):fzL K b sz (cGChart x)=cGChart x:=q1o _ _ _ (qbs K x)
theorem Try.eqs72:Try.tb.eqs 72=true:=by kernel_rfl
theorem eqv72 (x y:GArc):eqv Try.tb 50 72 (.agg ⟨[.int .i64 x.Feat,.int .i64 x.To]⟩) (.agg ⟨[.int .i64 y.Feat,.int .i64 y.To]⟩)=some (eqGArc x y):=by
 simp only [eqv,cond_true,cond_false,eqFs,partX,isAggD,nth,sizeX,List.drop,List.take,List.toList_toArray,eqGArc,ne_eq,String.reduceEq,not_false_eq_true,if_true,und3,und72,eqs72,inf72]
 cases (x.Feat == y.Feat)<;>cases (x.To == y.To)<;>rfl
theorem eqq72_neq (x y:GArc):g2 (binX Try.tb .neq 72) (.agg [.int .i64 x.Feat,.int .i64 x.To]) (.agg [.int .i64 y.Feat,.int .i64 y.To])=some (.bool (!eqGArc x y)):=by
 simp only [g2,toV,toVL,okL,okC,cond_true,binX,guardX,eqs72,eqv72,ofV]
theorem Try.bd24:BdT Try.tb 24 [.int .i64 0,.nils] [(0,1),(1,1)]:=bdT und24 inf24 rfl (by kernel_rfl)
theorem Try.bd37:BdT Try.tb 37 [.int .i64 0,.str [],.int .i64 0,.int .i64 0,.nils] [(0,1),(1,1),(2,1),(3,1),(4,1)]:=bdT und37 inf37 rfl (by kernel_rfl)
theorem Try.bd42:BdT Try.tb 42 [.int .i64 0,.int .i64 0,.int .i64 0,.int .i64 0,.str [],.nils,.int .i64 0,.str [],.int .i64 0,.int .i64 0,.nils,.nils] [(0,1),(1,1),(2,1),(3,1),(4,1),(5,1),(6,5),(11,1)]:=bdT und42 inf42 rfl (by kernel_rfl)
def q56   : Option (Int) :=
 some 0
def q2r (p1:List Int):Nat→Int→Option (Int)
 | 0,_=>none
 | m1+1,z6 =>
  cond (decide (z6<(p1.length:Int)))
   (bindO (idxO p1 z6) fun x8 =>
   cond (x8 != 0)
    (some x8)
    ((q2r p1 m1) (IntKind.i64.wrap (z6+1))))
   (q56)
def q3t (n:Nat) (p1:List Int):Option (Int) :=
 q2r p1 n 0
theorem qax (n:Nat) (p1:List Int) (r:Int) (hF:q3t n p1=some r):EvU Try.prog 46 [.isl false (List.map (cI .i64) p1)] ⟨[],0⟩ (fun u _=>u = .int .i64 r∧Bel 0 u):=by
 unfold q3t at hF
 refine EvU.of_body Try.tb_ok fn46 rfl ?_
 refine WPU.ghost (tm':=fr 18 [(0,.isl false (List.map (cI .i64) p1))]) (Gh.start (Nat.le_of_ble_eq_true rfl)) (Nat.zero_le _) ?_
 refine sr ?_
 refine se ?_
 refine se ?_
 refine RS.q rfl (q0i rfl rfl rfl (q0d (cI .i64) und34)) (RS.mv rfl rfl rfl rfl ?_)
 refine sd ?_
 refine WPU.ghost (tm':=fr 18 [(3,.int .i64 0),(6,.isl false (List.map (cI .i64) p1)),(7,.int .i64 (p1.length:Int)),(8,.int .i64 0)]) (Gh.sub ⟨rfl,rfl,rfl,rfl,trivial⟩) (Nat.zero_le _) ?_
 refine WPU.loopK (fun m tm σ=>∃ z6:Int,q2r p1 m z6=some r∧tm=fr 18 [(3,.int .i64 0),(6,.isl false (List.map (cI .i64) p1)),(7,.int .i64 (p1.length:Int)),(8,.int .i64 z6)]∧σ=⟨[],0⟩) (fun tm σ=>q56=some r∧tm=fr 18 [(3,.int .i64 0)]∧σ=⟨[],0⟩) n ⟨0,hF,rfl,rfl⟩ ?_ ?_
 rintro _ _ ⟨hF,rfl,rfl⟩
 unfold q56 at hF
 refine sr ?_
 refine sd ?_
 refine WPU.ret ?_
 refine st ?_
 have hr:=Option.some.inj hF
 subst hr
 exact ⟨.inr rfl,[.int .i64 0],q0t rfl (q0q),.int .i64 0,⟨[],0⟩,Nat.le_refl _,Gh.toR (.int .i64 0) rfl,rfl,BU.h⟩
 rintro m1 _ _ ⟨z6,hF,rfl,rfl⟩
 rcases m1 with _ | m1
 cases hF
 unfold q2r at hF
 refine sr ?_
 refine RS.q rfl (q02 rfl rfl (q1i _ _ _) rfl) ?_
 refine sd ?_
 refine WPU.condS (t:=(decide (z6<(p1.length:Int)))) rfl (fun h7=>?_) (fun h7=>?_)
 replace hF:=q09 h7 hF
 refine st ?_
 refine WPU.skip ?_
 refine st ?_
 refine WPU.block ?_
 refine st ?_
 obtain ⟨x8,h9,hF⟩:=q01 hF
 refine sr ?_
 refine RS.q (u:=.iptr [.int .i64 x8]) rfl (q13 rfl rfl (q0n (cI .i64) und34 (q00 inf3) (q27 .i64) h9 rfl)) (RS.q (u:=.int .i64 x8) rfl (q1c und3 rfl rfl rfl) ?_)
 refine se ?_
 repeat refine RS.mv rfl rfl rfl rfl ?_
 refine RS.q rfl (q02 rfl rfl (q0c _ _ _) rfl) ?_
 refine sd ?_
 refine WPU.condS (t:=(x8 != 0)) rfl (fun h10=>?_) (fun h10=>?_)
 replace hF:=q09 h10 hF
 refine sr ?_
 refine sd ?_
 refine WPU.ret ?_
 refine st ?_
 have hr:=Option.some.inj hF
 subst hr
 exact ⟨.inr rfl,[.int .i64 x8],q0t rfl (q0q),.int .i64 x8,⟨[],0⟩,Nat.le_refl _,Gh.toR (.int .i64 x8) rfl,rfl,BU.h⟩
 replace hF:=q08 h10 hF
 refine st ?_
 refine WPU.skip ?_
 refine sr ?_
 refine RS.q rfl (q02 rfl rfl (q32 _ _ _) rfl) (RS.mv rfl rfl rfl rfl ?_)
 refine sd ?_
 exact ⟨m1,_,_,Nat.lt_succ_self _,⟨(IntKind.i64.wrap (z6+1)),hF,rfl,rfl⟩,(Nat.zero_le _),Gh.toC (n1:=0) ⟨rfl,rfl,rfl,rfl,trivial⟩ rfl (Nat.zero_le _) (by simp)⟩
 replace hF:=q08 h7 hF
 refine st ?_
 refine WPU.exit ?_
 refine st ?_
 exact ⟨_,_,⟨hF,rfl,rfl⟩,(Nat.zero_le _),Gh.toC (n1:=0) ⟨rfl,trivial⟩ rfl (Nat.zero_le _) (by simp)⟩
def q46 (n:Nat) (p1:Int):Option (Bool) :=
 some (p1 != p1)
theorem qc3 (n:Nat) (p1:Int) (r:Bool) (hF:q46 n p1=some r):EvU Try.prog 58 [.int .i64 p1] ⟨[],0⟩ (fun u _=>u = .bool r∧Bel 0 u):=by
 unfold q46 at hF
 refine EvU.of_body Try.tb_ok fn58 rfl ?_
 refine WPU.ghost (tm':=fr 6 [(0,.int .i64 p1)]) (Gh.start (Nat.le_of_ble_eq_true rfl)) (Nat.zero_le _) ?_
 refine sr ?_
 refine se ?_
 repeat refine RS.mv rfl rfl rfl rfl ?_
 refine RS.q rfl (q02 rfl rfl (q0c _ _ _) rfl) ?_
 refine sd ?_
 refine WPU.ret ?_
 refine st ?_
 have hr:=Option.some.inj hF
 subst hr
 exact ⟨.inr rfl,[.bool (p1 != p1)],q0t rfl (q0q),.bool (p1 != p1),⟨[],0⟩,Nat.le_refl _,Gh.toR (.bool (p1 != p1)) rfl,rfl,BU.h⟩
theorem q7y (n:Nat) (p1:Int) (r:Bool) (hF:q46 n p1=some r) (σ:Sg):EvU Try.prog 58 [.int .i64 p1] σ (fun u σ'=>u = .bool r∧σ'=σ) :=
 EvU.pure1C (qc3 n p1 r hF) σ
def q1h (n:Nat) (p1:Int) (p2:Int):Option (Int) :=
 bindO (q46 n p1) fun r3 =>
 bindO (q46 n p2) fun r5 =>
 cond r3
  (cond r5
   (some 0)
   (some (-1)))
  (cond r5
   (some 1)
   (cond (decide (p1<p2))
    (some (-1))
    (cond (decide (p1 > p2))
     (some 1)
     (some 0))))
theorem qaf (n:Nat) (p1:Int) (p2:Int) (r:Int) (hF:q1h n p1 p2=some r):EvU Try.prog 47 [.int .i64 p1,.int .i64 p2] ⟨[],0⟩ (fun u _=>u = .int .i64 r∧Bel 0 u):=by
 unfold q1h at hF
 refine EvU.of_body Try.tb_ok fn47 rfl ?_
 refine WPU.ghost (tm':=fr 20 [(0,.int .i64 p1),(1,.int .i64 p2)]) (Gh.start (Nat.le_of_ble_eq_true rfl)) (Nat.zero_le _) ?_
 refine sr ?_
 refine sd ?_
 obtain ⟨r3,h4,hF⟩:=q01 hF
 refine sr ?_
 refine RS.call (u:=.bool r3) (args:=[.int .i64 p1]) rfl (q0b rfl rfl fn58 hb58 rfl rfl) (q7y n p1 r3 h4 _) rfl rfl ?_
 refine sd ?_
 obtain ⟨r5,h6,hF⟩:=q01 hF
 refine sr ?_
 refine RS.call (u:=.bool r5) (args:=[.int .i64 p2]) rfl (q0b rfl rfl fn58 hb58 rfl rfl) (q7y n p2 r5 h6 _) rfl rfl ?_
 refine se ?_
 refine sd ?_
 refine WPU.condS (t:=r3) rfl (fun h7=>?_) (fun h7=>?_)
 replace hF:=q09 h7 hF
 refine sr ?_
 refine sd ?_
 refine WPU.condS (t:=r5) rfl (fun h8=>?_) (fun h8=>?_)
 replace hF:=q09 h8 hF
 refine sr ?_
 refine sd ?_
 refine WPU.ret ?_
 refine st ?_
 have hr:=Option.some.inj hF
 subst hr
 exact ⟨.inr rfl,[.int .i64 0],q0t rfl (q0q),.int .i64 0,⟨[],0⟩,Nat.le_refl _,Gh.toR (.int .i64 0) rfl,rfl,BU.h⟩
 replace hF:=q08 h8 hF
 refine st ?_
 refine WPU.skip ?_
 refine sr ?_
 refine sd ?_
 refine WPU.ret ?_
 refine st ?_
 have hr:=Option.some.inj hF
 subst hr
 exact ⟨.inr rfl,[.int .i64 (-1)],q0t rfl (q0q),.int .i64 (-1),⟨[],0⟩,Nat.le_refl _,Gh.toR (.int .i64 (-1)) rfl,rfl,BU.h⟩
 replace hF:=q08 h7 hF
 refine st ?_
 refine WPU.skip ?_
 refine sr ?_
 refine sd ?_
 refine WPU.condS (t:=r5) rfl (fun h9=>?_) (fun h9=>?_)
 replace hF:=q09 h9 hF
 refine sr ?_
 refine sd ?_
 refine WPU.ret ?_
 refine st ?_
 have hr:=Option.some.inj hF
 subst hr
 exact ⟨.inr rfl,[.int .i64 1],q0t rfl (q0q),.int .i64 1,⟨[],0⟩,Nat.le_refl _,Gh.toR (.int .i64 1) rfl,rfl,BU.h⟩
 replace hF:=q08 h9 hF
 refine st ?_
 refine WPU.skip ?_
 refine sr ?_
 repeat refine RS.mv rfl rfl rfl rfl ?_
 refine RS.q rfl (q02 rfl rfl (q1i _ _ _) rfl) ?_
 refine sd ?_
 refine WPU.condS (t:=(decide (p1<p2))) rfl (fun h10=>?_) (fun h10=>?_)
 replace hF:=q09 h10 hF
 refine sr ?_
 refine sd ?_
 refine WPU.ret ?_
 refine st ?_
 have hr:=Option.some.inj hF
 subst hr
 exact ⟨.inr rfl,[.int .i64 (-1)],q0t rfl (q0q),.int .i64 (-1),⟨[],0⟩,Nat.le_refl _,Gh.toR (.int .i64 (-1)) rfl,rfl,BU.h⟩
 replace hF:=q08 h10 hF
 refine st ?_
 refine WPU.skip ?_
 refine sr ?_
 repeat refine RS.mv rfl rfl rfl rfl ?_
 refine RS.q rfl (q02 rfl rfl (q74 _ _ _) rfl) ?_
 refine sd ?_
 refine WPU.condS (t:=(decide (p1 > p2))) rfl (fun h11=>?_) (fun h11=>?_)
 replace hF:=q09 h11 hF
 refine sr ?_
 refine sd ?_
 refine WPU.ret ?_
 refine st ?_
 have hr:=Option.some.inj hF
 subst hr
 exact ⟨.inr rfl,[.int .i64 1],q0t rfl (q0q),.int .i64 1,⟨[],0⟩,Nat.le_refl _,Gh.toR (.int .i64 1) rfl,rfl,BU.h⟩
 replace hF:=q08 h11 hF
 refine st ?_
 refine WPU.skip ?_
 refine sr ?_
 refine sd ?_
 refine WPU.ret ?_
 refine st ?_
 have hr:=Option.some.inj hF
 subst hr
 exact ⟨.inr rfl,[.int .i64 0],q0t rfl (q0q),.int .i64 0,⟨[],0⟩,Nat.le_refl _,Gh.toR (.int .i64 0) rfl,rfl,BU.h⟩
theorem q2k (n:Nat) (p1:Int) (p2:Int) (r:Int) (hF:q1h n p1 p2=some r) (σ:Sg):EvU Try.prog 47 [.int .i64 p1,.int .i64 p2] σ (fun u σ'=>u = .int .i64 r∧σ'=σ) :=
 EvU.pure1C (qaf n p1 p2 r hF) σ
def q35 (n:Nat) (p1:List UInt8):Option (Bool) :=
 some (!bytesEq p1 p1)
theorem q9l (n:Nat) (p1:List UInt8) (r:Bool) (hF:q35 n p1=some r):EvU Try.prog 59 [.str p1] ⟨[],0⟩ (fun u _=>u = .bool r∧Bel 0 u):=by
 unfold q35 at hF
 refine EvU.of_body Try.tb_ok fn59 rfl ?_
 refine WPU.ghost (tm':=fr 6 [(0,.str p1)]) (Gh.start (Nat.le_of_ble_eq_true rfl)) (Nat.zero_le _) ?_
 refine sr ?_
 refine se ?_
 repeat refine RS.mv rfl rfl rfl rfl ?_
 refine RS.q (u:=.bool (!bytesEq p1 p1)) rfl (q2w rfl rfl rfl rfl) ?_
 refine sd ?_
 refine WPU.ret ?_
 refine st ?_
 have hr:=Option.some.inj hF
 subst hr
 exact ⟨.inr rfl,[.bool (!bytesEq p1 p1)],q0t rfl (q0q),.bool (!bytesEq p1 p1),⟨[],0⟩,Nat.le_refl _,Gh.toR (.bool (!bytesEq p1 p1)) rfl,rfl,BU.h⟩
theorem q6n (n:Nat) (p1:List UInt8) (r:Bool) (hF:q35 n p1=some r) (σ:Sg):EvU Try.prog 59 [.str p1] σ (fun u σ'=>u = .bool r∧σ'=σ) :=
 EvU.pure1C (q9l n p1 r hF) σ
def q2l (n:Nat) (p1:List UInt8) (p2:List UInt8):Option (Int) :=
 bindO (q35 n p1) fun r3 =>
 bindO (q35 n p2) fun r5 =>
 cond r3
  (cond r5
   (some 0)
   (some (-1)))
  (cond r5
   (some 1)
   (cond (bytesLt p1 p2)
    (some (-1))
    (cond (!(bytesLt p1 p2 || bytesEq p1 p2))
     (some 1)
     (some 0))))
theorem q8w (n:Nat) (p1:List UInt8) (p2:List UInt8) (r:Int) (hF:q2l n p1 p2=some r):EvU Try.prog 52 [.str p1,.str p2] ⟨[],0⟩ (fun u _=>u = .int .i64 r∧Bel 0 u):=by
 unfold q2l at hF
 refine EvU.of_body Try.tb_ok fn52 rfl ?_
 refine WPU.ghost (tm':=fr 20 [(0,.str p1),(1,.str p2)]) (Gh.start (Nat.le_of_ble_eq_true rfl)) (Nat.zero_le _) ?_
 refine sr ?_
 refine sd ?_
 obtain ⟨r3,h4,hF⟩:=q01 hF
 refine sr ?_
 refine RS.call (u:=.bool r3) (args:=[.str p1]) rfl (q0b rfl rfl fn59 hb59 rfl rfl) (q6n n p1 r3 h4 _) rfl rfl ?_
 refine sd ?_
 obtain ⟨r5,h6,hF⟩:=q01 hF
 refine sr ?_
 refine RS.call (u:=.bool r5) (args:=[.str p2]) rfl (q0b rfl rfl fn59 hb59 rfl rfl) (q6n n p2 r5 h6 _) rfl rfl ?_
 refine se ?_
 refine sd ?_
 refine WPU.condS (t:=r3) rfl (fun h7=>?_) (fun h7=>?_)
 replace hF:=q09 h7 hF
 refine sr ?_
 refine sd ?_
 refine WPU.condS (t:=r5) rfl (fun h8=>?_) (fun h8=>?_)
 replace hF:=q09 h8 hF
 refine sr ?_
 refine sd ?_
 refine WPU.ret ?_
 refine st ?_
 have hr:=Option.some.inj hF
 subst hr
 exact ⟨.inr rfl,[.int .i64 0],q0t rfl (q0q),.int .i64 0,⟨[],0⟩,Nat.le_refl _,Gh.toR (.int .i64 0) rfl,rfl,BU.h⟩
 replace hF:=q08 h8 hF
 refine st ?_
 refine WPU.skip ?_
 refine sr ?_
 refine sd ?_
 refine WPU.ret ?_
 refine st ?_
 have hr:=Option.some.inj hF
 subst hr
 exact ⟨.inr rfl,[.int .i64 (-1)],q0t rfl (q0q),.int .i64 (-1),⟨[],0⟩,Nat.le_refl _,Gh.toR (.int .i64 (-1)) rfl,rfl,BU.h⟩
 replace hF:=q08 h7 hF
 refine st ?_
 refine WPU.skip ?_
 refine sr ?_
 refine sd ?_
 refine WPU.condS (t:=r5) rfl (fun h9=>?_) (fun h9=>?_)
 replace hF:=q09 h9 hF
 refine sr ?_
 refine sd ?_
 refine WPU.ret ?_
 refine st ?_
 have hr:=Option.some.inj hF
 subst hr
 exact ⟨.inr rfl,[.int .i64 1],q0t rfl (q0q),.int .i64 1,⟨[],0⟩,Nat.le_refl _,Gh.toR (.int .i64 1) rfl,rfl,BU.h⟩
 replace hF:=q08 h9 hF
 refine st ?_
 refine WPU.skip ?_
 refine sr ?_
 repeat refine RS.mv rfl rfl rfl rfl ?_
 refine RS.q (u:=.bool (bytesLt p1 p2)) rfl (q2w rfl rfl rfl rfl) ?_
 refine sd ?_
 refine WPU.condS (t:=(bytesLt p1 p2)) rfl (fun h10=>?_) (fun h10=>?_)
 replace hF:=q09 h10 hF
 refine sr ?_
 refine sd ?_
 refine WPU.ret ?_
 refine st ?_
 have hr:=Option.some.inj hF
 subst hr
 exact ⟨.inr rfl,[.int .i64 (-1)],q0t rfl (q0q),.int .i64 (-1),⟨[],0⟩,Nat.le_refl _,Gh.toR (.int .i64 (-1)) rfl,rfl,BU.h⟩
 replace hF:=q08 h10 hF
 refine st ?_
 refine WPU.skip ?_
 refine sr ?_
 repeat refine RS.mv rfl rfl rfl rfl ?_
 refine RS.q (u:=.bool (!(bytesLt p1 p2 || bytesEq p1 p2))) rfl (q2w rfl rfl rfl rfl) ?_
 refine sd ?_
 refine WPU.condS (t:=(!(bytesLt p1 p2 || bytesEq p1 p2))) rfl (fun h11=>?_) (fun h11=>?_)
 replace hF:=q09 h11 hF
 refine sr ?_
 refine sd ?_
 refine WPU.ret ?_
 refine st ?_
 have hr:=Option.some.inj hF
 subst hr
 exact ⟨.inr rfl,[.int .i64 1],q0t rfl (q0q),.int .i64 1,⟨[],0⟩,Nat.le_refl _,Gh.toR (.int .i64 1) rfl,rfl,BU.h⟩
 replace hF:=q08 h11 hF
 refine st ?_
 refine WPU.skip ?_
 refine sr ?_
 refine sd ?_
 refine WPU.ret ?_
 refine st ?_
 have hr:=Option.some.inj hF
 subst hr
 exact ⟨.inr rfl,[.int .i64 0],q0t rfl (q0q),.int .i64 0,⟨[],0⟩,Nat.le_refl _,Gh.toR (.int .i64 0) rfl,rfl,BU.h⟩
theorem q85 (n:Nat) (p1:List UInt8) (p2:List UInt8) (r:Int) (hF:q2l n p1 p2=some r) (σ:Sg):EvU Try.prog 52 [.str p1,.str p2] σ (fun u σ'=>u = .int .i64 r∧σ'=σ) :=
 EvU.pure1C (q8w n p1 p2 r hF) σ
def q10 (p1:List GDeriv) (p2:List GDeriv)  : Option (Int) :=
 cond (decide ((p1.length:Int)<(p2.length:Int)))
  (some (-1))
  (some 0)
def q0l (p1:List GDeriv) (p2:List GDeriv) (f2:GDeriv→GDeriv→Option (Int)):Nat→Int→Option (Int)
 | 0,_=>none
 | m1+1,z8 =>
  cond (decide (z8<(p1.length:Int)))
   (bindO (idxO p1 z8) fun x11 =>
   cond (decide (z8 ≥ (p2.length:Int)))
    (some 1)
    (bindO (idxO p2 z8) fun x14 =>
    bindO (f2 x11 x14) fun r16 =>
    cond (r16 != 0)
     (some r16)
     ((q0l p1 p2 f2 m1) (IntKind.i64.wrap (z8+1)))))
   (q10 p1 p2)
def q0u (f2:GDeriv→GDeriv→Option (Int)) (n:Nat) (p1:List GDeriv) (p2:List GDeriv):Option (Int) :=
 q0l p1 p2 f2 n 0
theorem q4z (f2:GDeriv→GDeriv→Option (Int)) (hf2:∀ (a0:GDeriv) (a1:GDeriv) (r:Int),f2 a0 a1=some r→EvU Try.prog 35 [.agg (xGDeriv a0),.agg (xGDeriv a1)] ⟨[],0⟩ (fun u _=>u = .int .i64 r∧Bel 0 u)) (n:Nat) (p1:List GDeriv) (p2:List GDeriv) (r:Int) (hF:q0u f2 n p1 p2=some r):EvU Try.prog 53 [.isl false (List.map cGDeriv p1),.isl false (List.map cGDeriv p2),.fn (.func 35) [] []] ⟨[],0⟩ (fun u _=>u = .int .i64 r∧Bel 0 u):=by
 unfold q0u at hF
 have hf2S:∀ (a0:GDeriv) (a1:GDeriv) (r:Int),f2 a0 a1=some r→∀ σ,EvU Try.prog 35 [.agg (xGDeriv a0),.agg (xGDeriv a1)] σ (fun u σ'=>u = .int .i64 r∧σ'=σ):=fun a0 a1 r h σ=>EvU.pure1C (hf2 a0 a1 r h) σ
 refine EvU.of_body Try.tb_ok fn53 rfl ?_
 refine WPU.ghost (tm':=fr 39 [(0,.isl false (List.map cGDeriv p1)),(1,.isl false (List.map cGDeriv p2)),(2,.fn (.func 35) [] [])]) (Gh.start (Nat.le_of_ble_eq_true rfl)) (Nat.zero_le _) ?_
 refine sr ?_
 refine se ?_
 refine RS.q rfl (q0i rfl rfl rfl (q0d cGDeriv und35)) (RS.mv rfl rfl rfl rfl ?_)
 refine sd ?_
 refine WPU.ghost (tm':=fr 39 [(0,.isl false (List.map cGDeriv p1)),(1,.isl false (List.map cGDeriv p2)),(2,.fn (.func 35) [] []),(11,.isl false (List.map cGDeriv p1)),(12,.int .i64 (p1.length:Int)),(13,.int .i64 0)]) (Gh.sub ⟨rfl,rfl,rfl,rfl,rfl,rfl,trivial⟩) (Nat.zero_le _) ?_
 refine WPU.loopK (fun m tm σ=>∃ z8:Int,q0l p1 p2 f2 m z8=some r∧tm=fr 39 [(0,.isl false (List.map cGDeriv p1)),(1,.isl false (List.map cGDeriv p2)),(2,.fn (.func 35) [] []),(11,.isl false (List.map cGDeriv p1)),(12,.int .i64 (p1.length:Int)),(13,.int .i64 z8)]∧σ=⟨[],0⟩) (fun tm σ=>q10 p1 p2=some r∧tm=fr 39 [(0,.isl false (List.map cGDeriv p1)),(1,.isl false (List.map cGDeriv p2))]∧σ=⟨[],0⟩) n ⟨0,hF,rfl,rfl⟩ ?_ ?_
 rintro _ _ ⟨hF,rfl,rfl⟩
 unfold q10 at hF
 refine sr ?_
 refine RS.q rfl (q0i rfl rfl rfl (q0d cGDeriv und35)) (RS.mv rfl rfl rfl rfl (RS.q rfl (q0i rfl rfl rfl (q0d cGDeriv und35)) (RS.q rfl (q02 rfl rfl (q1i _ _ _) rfl) ?_)))
 refine sd ?_
 refine WPU.condS (t:=(decide ((p1.length:Int)<(p2.length:Int)))) rfl (fun h9=>?_) (fun h9=>?_)
 replace hF:=q09 h9 hF
 refine sr ?_
 refine sd ?_
 refine WPU.ret ?_
 refine st ?_
 have hr:=Option.some.inj hF
 subst hr
 exact ⟨.inr rfl,[.int .i64 (-1)],q0t rfl (q0q),.int .i64 (-1),⟨[],0⟩,Nat.le_refl _,Gh.toR (.int .i64 (-1)) rfl,rfl,BU.h⟩
 replace hF:=q08 h9 hF
 refine st ?_
 refine WPU.skip ?_
 refine sr ?_
 refine sd ?_
 refine WPU.ret ?_
 refine st ?_
 have hr:=Option.some.inj hF
 subst hr
 exact ⟨.inr rfl,[.int .i64 0],q0t rfl (q0q),.int .i64 0,⟨[],0⟩,Nat.le_refl _,Gh.toR (.int .i64 0) rfl,rfl,BU.h⟩
 rintro m1 _ _ ⟨z8,hF,rfl,rfl⟩
 rcases m1 with _ | m1
 cases hF
 unfold q0l at hF
 refine sr ?_
 refine RS.q rfl (q02 rfl rfl (q1i _ _ _) rfl) ?_
 refine sd ?_
 refine WPU.condS (t:=(decide (z8<(p1.length:Int)))) rfl (fun h10=>?_) (fun h10=>?_)
 replace hF:=q09 h10 hF
 refine st ?_
 refine WPU.skip ?_
 refine st ?_
 refine WPU.block ?_
 refine st ?_
 obtain ⟨x11,h12,hF⟩:=q01 hF
 refine sr ?_
 refine RS.q (u:=.iptr (xGDeriv x11)) rfl (q13 rfl rfl (q0n cGDeriv und35 (q00 inf37) q0x h12 (q1f x11))) (RS.q (u:=.agg (xGDeriv x11)) rfl (q2u und37 rfl (q00 inf37) rfl rfl) (RS.q (u:=.ptr 0 0 0) (σ':=⟨[(0,.row [.int .i64 0,.str [],.int .i64 0,.int .i64 0,.nils] 37)],1⟩) rfl (q1d inf37 rfl rfl) (RS.as rfl rfl rfl rfl (RS.opn (u:=.junk) (σ':=⟨[(0,.row (xGDeriv x11) 37)],1⟩) rfl (q0g (q00 inf37) rfl rfl rfl rfl rfl rfl rfl rfl) rfl ?_))))
 refine se ?_
 repeat refine RS.mv rfl rfl rfl rfl ?_
 refine RS.q rfl (q0i rfl rfl rfl (q0d cGDeriv und35)) (RS.q rfl (q02 rfl rfl (ix_geq _ _ _) rfl) ?_)
 refine sd ?_
 refine WPU.condS (t:=(decide (z8 ≥ (p2.length:Int)))) rfl (fun h13=>?_) (fun h13=>?_)
 replace hF:=q09 h13 hF
 refine sr ?_
 refine sd ?_
 refine WPU.ret ?_
 refine st ?_
 have hr:=Option.some.inj hF
 subst hr
 exact ⟨.inr rfl,[.int .i64 1],q0t rfl (q0q),.int .i64 1,⟨[],0⟩,Nat.le_refl _,Gh.toR (.int .i64 1) rfl,rfl,BU.h⟩
 replace hF:=q08 h13 hF
 refine st ?_
 refine WPU.skip ?_
 refine st ?_
 obtain ⟨x14,h15,hF⟩:=q01 hF
 refine sr ?_
 repeat refine RS.mv rfl rfl rfl rfl ?_
 refine RS.q (u:=.iptr (xGDeriv x14)) rfl (q13 rfl rfl (q0n cGDeriv und35 (q00 inf37) q0x h15 (q1f x14))) (RS.q (u:=.agg (xGDeriv x14)) rfl (q2u und37 rfl (q00 inf37) rfl rfl) (RS.q (u:=.ptr 1 0 0) (σ':=⟨[(1,.row [.int .i64 0,.str [],.int .i64 0,.int .i64 0,.nils] 37),(0,.row (xGDeriv x11) 37)],2⟩) rfl (q1d inf37 rfl rfl) (RS.opn (u:=.junk) (σ':=⟨[(1,.row (xGDeriv x14) 37),(0,.row (xGDeriv x11) 37)],2⟩) rfl (q0g (q00 inf37) rfl rfl rfl rfl rfl rfl rfl rfl) rfl ?_)))
 refine sd ?_
 obtain ⟨r16,h17,hF⟩:=q01 hF
 refine sr ?_
 refine RS.q (u:=.agg (xGDeriv x11)) rfl (q0f und37 rfl (q00 inf37) rfl rfl rfl) (RS.q (u:=.agg (xGDeriv x14)) rfl (q0f und37 rfl (q00 inf37) rfl rfl rfl) (RS.call (u:=.int .i64 r16) (args:=[.agg (xGDeriv x11),.agg (xGDeriv x14)]) rfl (q0b rfl rfl fn35 hb35 rfl rfl) (hf2S x11 x14 r16 h17 _) rfl rfl ?_))
 refine se ?_
 refine RS.q rfl (q02 rfl rfl (q0c _ _ _) rfl) ?_
 refine sd ?_
 refine WPU.condS (t:=(r16 != 0)) rfl (fun h18=>?_) (fun h18=>?_)
 replace hF:=q09 h18 hF
 refine sr ?_
 refine sd ?_
 refine WPU.ret ?_
 refine st ?_
 have hr:=Option.some.inj hF
 subst hr
 exact ⟨.inr rfl,[.int .i64 r16],q0t rfl (q0q),.int .i64 r16,⟨[],0⟩,Nat.le_refl _,Gh.toR (.int .i64 r16) rfl,rfl,BU.h⟩
 replace hF:=q08 h18 hF
 refine st ?_
 refine WPU.skip ?_
 refine sr ?_
 refine RS.q rfl (q02 rfl rfl (q32 _ _ _) rfl) (RS.mv rfl rfl rfl rfl ?_)
 refine sd ?_
 exact ⟨m1,_,_,Nat.lt_succ_self _,⟨(IntKind.i64.wrap (z8+1)),hF,rfl,rfl⟩,(Nat.zero_le _),Gh.toC (n1:=0) ⟨rfl,rfl,rfl,rfl,rfl,rfl,trivial⟩ rfl (Nat.zero_le _) (by simp)⟩
 replace hF:=q08 h10 hF
 refine st ?_
 refine WPU.exit ?_
 refine st ?_
 exact ⟨_,_,⟨hF,rfl,rfl⟩,(Nat.zero_le _),Gh.toC (n1:=0) ⟨rfl,rfl,trivial⟩ rfl (Nat.zero_le _) (by simp)⟩
theorem q4v (f2:GDeriv→GDeriv→Option (Int)) (hf2:∀ (a0:GDeriv) (a1:GDeriv) (r:Int),f2 a0 a1=some r→EvU Try.prog 35 [.agg (xGDeriv a0),.agg (xGDeriv a1)] ⟨[],0⟩ (fun u _=>u = .int .i64 r∧Bel 0 u)) (n:Nat) (p1:List GDeriv) (p2:List GDeriv) (r:Int) (hF:q0u f2 n p1 p2=some r) (σ:Sg):EvU Try.prog 53 [.isl false (List.map cGDeriv p1),.isl false (List.map cGDeriv p2),.fn (.func 35) [] []] σ (fun u σ'=>u = .int .i64 r∧σ'=σ) :=
 EvU.pure1C (q4z f2 hf2 n p1 p2 r hF) σ
def q6o (n:Nat) (self:GDeriv→GDeriv→Option (Int)) (p1:GDeriv) (p2:GDeriv):Option (Int) :=
 bindO (q1h n p1.From p2.From) fun r3 =>
 bindO (q1h n p1.To p2.To) fun r5 =>
 bindO (q1h n p1.Kind p2.Kind) fun r7 =>
 bindO (q2l n p1.Name p2.Name) fun r9 =>
 bindO (q3t n ([r3,r5,r7,r9])) fun r11 =>
 cond (r11 != 0)
  (some r11)
  (bindO (q0u self n p1.Kids p2.Kids) fun r14 =>
  some r14)
def q1s:Nat→GDeriv→GDeriv→Option (Int)
 | 0,_,_=>none
 | n+1,p1,p2=>q6o n (q1s n) p1 p2
theorem q86:∀ (n:Nat) (p1:GDeriv) (p2:GDeriv) (r:Int),q1s n p1 p2=some r→EvU Try.prog 35 [.agg (xGDeriv p1),.agg (xGDeriv p2)] ⟨[],0⟩ (fun u _=>u = .int .i64 r∧Bel 0 u)
 | 0,p1,p2,r,hF=>by cases hF
 | n+1,p1,p2,r,hF=>by
  have ih:=q86 n
  have ihS:∀ (p1:GDeriv) (p2:GDeriv) (r:Int),q1s n p1 p2=some r→∀ σ,EvU Try.prog 35 [.agg (xGDeriv p1),.agg (xGDeriv p2)] σ (fun u σ'=>u = .int .i64 r∧σ'=σ):=fun p1 p2 r h σ=>EvU.pure1C (ih p1 p2 r h) σ
  unfold q1s q6o at hF
  refine EvU.of_body Try.tb_ok fn35 rfl ?_
  refine WPU.ghost (tm':=fr 36 [(0,.agg (xGDeriv p1)),(1,.agg (xGDeriv p2))]) (Gh.start (Nat.le_of_ble_eq_true rfl)) (Nat.zero_le _) ?_
  refine sr ?_
  refine RS.q (u:=.ptr 0 0 0) (σ':=⟨[(0,.row (xGDeriv p1) 37)],1⟩) rfl (q2v rfl rfl rfl) (RS.q (u:=.ptr 1 0 0) (σ':=⟨[(1,.row (xGDeriv p2) 37),(0,.row (xGDeriv p1) 37)],2⟩) rfl (q2v rfl rfl rfl) ?_)
  refine sd ?_
  obtain ⟨r3,h4,hF⟩:=q01 hF
  obtain ⟨r5,h6,hF⟩:=q01 hF
  obtain ⟨r7,h8,hF⟩:=q01 hF
  obtain ⟨r9,h10,hF⟩:=q01 hF
  obtain ⟨r11,h12,hF⟩:=q01 hF
  refine WPU.drawE Try.tb_ok [] (by kernel_rfl) ?_
  refine RD.q (u:=.ptr 0 0 2) rfl (q06 und37 rfl (q00 inf3) rfl rfl rfl) (RD.q (u:=.int .i64 p1.From) rfl (q05 und3 rfl rfl rfl rfl) (RD.q (u:=.ptr 1 0 2) rfl (q06 und37 rfl (q00 inf3) rfl rfl rfl) (RD.q (u:=.int .i64 p2.From) rfl (q05 und3 rfl rfl rfl rfl) (RD.free (u:=.int .i64 r3) (args:=[.int .i64 p1.From,.int .i64 p2.From]) rfl (q0b rfl rfl fn47 hb47 rfl rfl) (fun s=>q2k n p1.From p2.From r3 h4 s) rfl rfl (RD.q (u:=.ptr 0 0 3) rfl (q06 und37 rfl (q00 inf3) rfl rfl rfl) (RD.q (u:=.int .i64 p1.To) rfl (q05 und3 rfl rfl rfl rfl) (RD.q (u:=.ptr 1 0 3) rfl (q06 und37 rfl (q00 inf3) rfl rfl rfl) ?_)))))))
  refine RD.q (u:=.int .i64 p2.To) rfl (q05 und3 rfl rfl rfl rfl) (RD.free (u:=.int .i64 r5) (args:=[.int .i64 p1.To,.int .i64 p2.To]) rfl (q0b rfl rfl fn47 hb47 rfl rfl) (fun s=>q2k n p1.To p2.To r5 h6 s) rfl rfl (RD.q (u:=.ptr 0 0 0) rfl (q06 und37 rfl (q00 inf3) rfl rfl rfl) (RD.q (u:=.int .i64 p1.Kind) rfl (q05 und3 rfl rfl rfl rfl) (RD.q (u:=.ptr 1 0 0) rfl (q06 und37 rfl (q00 inf3) rfl rfl rfl) (RD.q (u:=.int .i64 p2.Kind) rfl (q05 und3 rfl rfl rfl rfl) (RD.free (u:=.int .i64 r7) (args:=[.int .i64 p1.Kind,.int .i64 p2.Kind]) rfl (q0b rfl rfl fn47 hb47 rfl rfl) (fun s=>q2k n p1.Kind p2.Kind r7 h8 s) rfl rfl (RD.q (u:=.ptr 0 0 1) rfl (q06 und37 rfl (q00 inf9) rfl rfl rfl) ?_)))))))
  refine RD.q (u:=.str p1.Name) rfl (q05 und9 rfl rfl rfl rfl) (RD.q (u:=.ptr 1 0 1) rfl (q06 und37 rfl (q00 inf9) rfl rfl rfl) (RD.q (u:=.str p2.Name) rfl (q05 und9 rfl rfl rfl rfl) (RD.free (u:=.int .i64 r9) (args:=[.str p1.Name,.str p2.Name]) rfl (q0b rfl rfl fn52 hb52 rfl rfl) (fun s=>q85 n p1.Name p2.Name r9 h10 s) rfl rfl (RD.act (u:=.sl 2 0 4 4) (σ':=⟨[(2,.row [.int .i64 r3,.int .i64 r5,.int .i64 r7,.int .i64 r9] 3),(1,.row (xGDeriv p2) 37),(0,.row (xGDeriv p1) 37)],3⟩) rfl (q77 und34 inf3 rfl rfl rfl rfl rfl rfl rfl) rfl rfl ?_))))
  refine RD.call (u:=.int .i64 r11) (args:=[.sl 2 0 4 4]) rfl (q0b rfl rfl fn46 hb46 rfl rfl) (EvU.view (qax n ([r3,r5,r7,r9]) r11 h12) BUL.h (by simp only [toV,toVL,okL,okC,cond_true]<;>rfl) (fun m=>by simp [ren,renL]) (Gh.fz (tm':=[.isl false (List.map (cI .i64) ([r3,r5,r7,r9]))]) (h':=[(1,.row (xGDeriv p2) 37),(0,.row (xGDeriv p1) 37)]) 2 (.row [.int .i64 r3,.int .i64 r5,.int .i64 r7,.int .i64 r9] 3) 1 rfl (by simp) (by simp only [oneU,q11,q0o,q22,q17,q25,q1b,q1a,q19,q18,q12,q23,q24,q21,q26,q3o,junkT,q7c,q7k,fz_xGDeriv,Nat.reduceLeDiff,Nat.reduceMul,List.length_cons,List.length_nil,Nat.reduceAdd]<;>simp only [chunks,List.take,List.drop,List.map,cI,cB,cS,cL]) (by simp only [fzH,fzB,ug,Nat.beq,cond_true,cond_false,oneU,q11,q0o,q22,q17,q25,q1b,q1a,q19,q18,q12,q23,q24,q21,q26,q3o,junkT,q7c,q7k,fz_xGDeriv,Nat.reduceLeDiff,Nat.reduceMul,List.length_cons,List.length_nil,Nat.reduceAdd]<;>simp only [chunks,List.take,List.drop,List.map,cI,cB,cS,cL]))) rfl rfl ?_
  refine RD.as rfl rfl rfl rfl ?_
  refine RD.done ⟨by kernel_rfl,trivial,?_⟩
  refine sr ?_
  refine RS.q rfl (q02 rfl rfl (q0c _ _ _) rfl) ?_
  refine sd ?_
  refine WPU.condS (t:=(r11 != 0)) rfl (fun h13=>?_) (fun h13=>?_)
  replace hF:=q09 h13 hF
  refine sr ?_
  refine sd ?_
  refine WPU.ret ?_
  refine st ?_
  have hr:=Option.some.inj hF
  subst hr
  exact ⟨.inr rfl,[.int .i64 r11],q0t rfl (q0q),.int .i64 r11,⟨[],0⟩,Nat.le_refl _,Gh.toR (.int .i64 r11) rfl,rfl,BU.h⟩
  replace hF:=q08 h13 hF
  refine st ?_
  refine WPU.skip ?_
  refine st ?_
  obtain ⟨r14,h15,hF⟩:=q01 hF
  refine sr ?_
  refine RS.q (u:=.ptr 0 0 4) rfl (q06 und37 rfl (q00 inf35) rfl rfl rfl) (RS.q (u:=.isl false (List.map cGDeriv p1.Kids)) rfl (q05 und35 rfl rfl rfl rfl) (RS.q (u:=.ptr 1 0 4) rfl (q06 und37 rfl (q00 inf35) rfl rfl rfl) (RS.q (u:=.isl false (List.map cGDeriv p2.Kids)) rfl (q05 und35 rfl rfl rfl rfl) (RS.call (u:=.int .i64 r14) (args:=[.isl false (List.map cGDeriv p1.Kids),.isl false (List.map cGDeriv p2.Kids),.fn (.func 35) [] []]) rfl (q0b rfl rfl fn53 hb53 rfl rfl) (q4v (q1s n) ih n p1.Kids p2.Kids r14 h15 _) rfl rfl ?_))))
  refine sd ?_
  refine WPU.ret ?_
  refine st ?_
  have hr:=Option.some.inj hF
  subst hr
  exact ⟨.inr rfl,[.int .i64 r14],q0t rfl (q0q),.int .i64 r14,⟨[],0⟩,Nat.le_refl _,Gh.toR (.int .i64 r14) rfl,rfl,BU.h⟩
theorem q4o (n:Nat) (p1:GDeriv) (p2:GDeriv) (r:Int) (hF:q1s n p1 p2=some r) (σ:Sg):EvU Try.prog 35 [.agg (xGDeriv p1),.agg (xGDeriv p2)] σ (fun u σ'=>u = .int .i64 r∧σ'=σ) :=
 EvU.pure1C (q86 n p1 p2 r hF) σ
def q45 (n:Nat) (p1:Int) (p2:Int) (c3:GChart) (c4:List GDeriv):Option (Int) :=
 bindO (idxO c3.Edges p1) fun x5 =>
 bindO (idxO c3.Edges p2) fun x7 =>
 bindO (q1h n (IntKind.i64.wrap (x5.To - x5.From)) (IntKind.i64.wrap (x7.To - x7.From))) fun r9 =>
 bindO (q1h n x5.From x7.From) fun r11 =>
 bindO (q1h n x5.Unary x7.Unary) fun r13 =>
 bindO (q3t n ([r9,r11,r13])) fun r15 =>
 cond (r15 != 0)
  (some r15)
  (bindO (idxO c4 p1) fun x18 =>
  bindO (idxO c4 p2) fun x20 =>
  bindO (q1s n x18 x20) fun r22 =>
  some r22)
theorem qby (n:Nat) (p1:Int) (p2:Int) (c3:GChart) (c4:List GDeriv) (r:Int) (hF:q45 n p1 p2 c3 c4=some r):EvU Try.prog 45 [.int .i64 p1,.int .i64 p2,.iptr (cGChart c3),.iptr [.isl false (List.map cGDeriv c4)]] ⟨[],0⟩ (fun u _=>u = .int .i64 r∧Bel 0 u):=by
 unfold q45 at hF
 refine EvU.of_body Try.tb_ok fn45 rfl ?_
 refine WPU.ghost (tm':=fr 55 [(0,.int .i64 p1),(1,.int .i64 p2),(2,.iptr (cGChart c3)),(3,.iptr [.isl false (List.map cGDeriv c4)])]) (Gh.start (Nat.le_of_ble_eq_true rfl)) (Nat.zero_le _) ?_
 refine sr ?_
 refine sd ?_
 obtain ⟨x5,h6,hF⟩:=q01 hF
 obtain ⟨x7,h8,hF⟩:=q01 hF
 refine WPU.drawQ Try.tb_ok [(10,[.int .i64 0,.int .i64 0,.int .i64 0,.int .i64 0,.str [],.nils,.int .i64 0,.str [],.int .i64 0,.int .i64 0,.nils,.nils],42),(11,[.int .i64 0,.int .i64 0,.int .i64 0,.int .i64 0,.str [],.nils,.int .i64 0,.str [],.int .i64 0,.int .i64 0,.nils,.nils],42)] [(5,12),(6,12),(7,12),(8,12),(9,12)] (nb:=0) (σe:=⟨[],2⟩) (σ1:=⟨[(1,.row [.int .i64 0,.int .i64 0,.int .i64 0,.int .i64 0,.str [],.nils,.int .i64 0,.str [],.int .i64 0,.int .i64 0,.nils,.nils] 42),(0,.row [.int .i64 0,.int .i64 0,.int .i64 0,.int .i64 0,.str [],.nils,.int .i64 0,.str [],.int .i64 0,.int .i64 0,.nils,.nils] 42)],2⟩) (q:=[⟨10,0,[.int .i64 0,.int .i64 0,.int .i64 0,.int .i64 0,.str [],.nils,.int .i64 0,.str [],.int .i64 0,.int .i64 0,.nils,.nils],42⟩,⟨11,1,[.int .i64 0,.int .i64 0,.int .i64 0,.int .i64 0,.str [],.nils,.int .i64 0,.str [],.int .i64 0,.int .i64 0,.nils,.nils],42⟩]) (by kernel_rfl) (List.cons_ne_nil _ _) ⟨⟨_,_,_,inf42,rfl,rfl⟩,⟨_,_,_,inf42,rfl,rfl⟩,trivial⟩ rfl rfl rfl rfl ?_
 refine RQ.early (u:=.iptr [.isl false (List.map cGEdge c3.Edges)]) rfl (q58 und24 rfl (q00 inf22) rfl rfl) (q58 und24 rfl (q00 inf22) rfl rfl) rfl BU.h rfl rfl ?_
 refine RQ.early (u:=.isl false (List.map cGEdge c3.Edges)) rfl (q1c und22 rfl rfl rfl) (q1c und22 rfl rfl rfl) rfl BU.h rfl rfl ?_
 refine RQ.early (u:=.int .i64 p1) rfl (q07 rfl) (q07 rfl) rfl BU.h rfl rfl ?_
 refine RQ.early (u:=.iptr (cGEdge x5)) rfl (q13 rfl rfl (q0n cGEdge und22 (q00 inf42) q0h h6 rfl)) (q13 rfl rfl (q0n cGEdge und22 (q00 inf42) q0h h6 rfl)) rfl BU.h rfl rfl ?_
 refine RQ.early (u:=.agg (cGEdge x5)) rfl (q2u und42 rfl (q00 inf42) rfl rfl) (q2u und42 rfl (q00 inf42) rfl rfl) rfl BU.h rfl rfl ?_
 refine RQ.early (u:=.iptr [.isl false (List.map cGEdge c3.Edges)]) rfl (q58 und24 rfl (q00 inf22) rfl rfl) (q58 und24 rfl (q00 inf22) rfl rfl) rfl BU.h rfl rfl ?_
 refine RQ.early (u:=.isl false (List.map cGEdge c3.Edges)) rfl (q1c und22 rfl rfl rfl) (q1c und22 rfl rfl rfl) rfl BU.h rfl rfl ?_
 refine RQ.early (u:=.int .i64 p2) rfl (q07 rfl) (q07 rfl) rfl BU.h rfl rfl ?_
 refine RQ.early (u:=.iptr (cGEdge x7)) rfl (q13 rfl rfl (q0n cGEdge und22 (q00 inf42) q0h h8 rfl)) (q13 rfl rfl (q0n cGEdge und22 (q00 inf42) q0h h8 rfl)) rfl BU.h rfl rfl ?_
 refine RQ.early (u:=.agg (cGEdge x7)) rfl (q2u und42 rfl (q00 inf42) rfl rfl) (q2u und42 rfl (q00 inf42) rfl rfl) rfl BU.h rfl rfl ?_
 refine RQ.alloc rfl rfl rfl rfl rfl ?_
 refine RQ.alloc rfl rfl rfl rfl rfl ?_
 refine RQ.actn (u:=.junk) (σ':=⟨[(1,.row [.int .i64 0,.int .i64 0,.int .i64 0,.int .i64 0,.str [],.nils,.int .i64 0,.str [],.int .i64 0,.int .i64 0,.nils,.nils] 42),(0,.row (cGEdge x5) 42)],2⟩) rfl (q0g (q00 inf42) rfl rfl rfl rfl rfl rfl rfl rfl) rfl ?_
 refine RQ.actn (u:=.junk) (σ':=⟨[(1,.row (cGEdge x7) 42),(0,.row (cGEdge x5) 42)],2⟩) rfl (q0g (q00 inf42) rfl rfl rfl rfl rfl rfl rfl rfl) rfl ?_
 refine RQ.done ⟨by kernel_rfl,by kernel_rfl,⟨q58 und24 rfl (q00 inf22) rfl rfl,⟨q1c und22 rfl rfl rfl,⟨q07 rfl,⟨q13 rfl rfl (q0n cGEdge und22 (q00 inf42) q0h h8 rfl),⟨q2u und42 rfl (q00 inf42) rfl rfl,trivial⟩⟩⟩⟩⟩,?_⟩
 refine st ?_
 obtain ⟨r9,h10,hF⟩:=q01 hF
 obtain ⟨r11,h12,hF⟩:=q01 hF
 obtain ⟨r13,h14,hF⟩:=q01 hF
 obtain ⟨r15,h16,hF⟩:=q01 hF
 refine WPU.drawE Try.tb_ok [] (by kernel_rfl) ?_
 refine RD.q (u:=.ptr 0 0 1) rfl (q06 und42 rfl (q00 inf3) rfl rfl rfl) (RD.q (u:=.int .i64 x5.To) rfl (q05 und3 rfl rfl rfl rfl) (RD.q (u:=.ptr 0 0 0) rfl (q06 und42 rfl (q00 inf3) rfl rfl rfl) (RD.q (u:=.int .i64 x5.From) rfl (q05 und3 rfl rfl rfl rfl) (RD.q rfl (q02 rfl rfl (ix_sub _ _ _) rfl) (RD.q (u:=.ptr 1 0 1) rfl (q06 und42 rfl (q00 inf3) rfl rfl rfl) (RD.q (u:=.int .i64 x7.To) rfl (q05 und3 rfl rfl rfl rfl) (RD.q (u:=.ptr 1 0 0) rfl (q06 und42 rfl (q00 inf3) rfl rfl rfl) ?_)))))))
 refine RD.q (u:=.int .i64 x7.From) rfl (q05 und3 rfl rfl rfl rfl) (RD.q rfl (q02 rfl rfl (ix_sub _ _ _) rfl) (RD.free (u:=.int .i64 r9) (args:=[.int .i64 (IntKind.i64.wrap (x5.To - x5.From)),.int .i64 (IntKind.i64.wrap (x7.To - x7.From))]) rfl (q0b rfl rfl fn47 hb47 rfl rfl) (fun s=>q2k n (IntKind.i64.wrap (x5.To - x5.From)) (IntKind.i64.wrap (x7.To - x7.From)) r9 h10 s) rfl rfl (RD.q (u:=.ptr 0 0 0) rfl (q06 und42 rfl (q00 inf3) rfl rfl rfl) (RD.q (u:=.int .i64 x5.From) rfl (q05 und3 rfl rfl rfl rfl) (RD.q (u:=.ptr 1 0 0) rfl (q06 und42 rfl (q00 inf3) rfl rfl rfl) (RD.q (u:=.int .i64 x7.From) rfl (q05 und3 rfl rfl rfl rfl) (RD.free (u:=.int .i64 r11) (args:=[.int .i64 x5.From,.int .i64 x7.From]) rfl (q0b rfl rfl fn47 hb47 rfl rfl) (fun s=>q2k n x5.From x7.From r11 h12 s) rfl rfl ?_)))))))
 refine RD.q (u:=.ptr 0 0 2) rfl (q06 und42 rfl (q00 inf3) rfl rfl rfl) (RD.q (u:=.int .i64 x5.Unary) rfl (q05 und3 rfl rfl rfl rfl) (RD.q (u:=.ptr 1 0 2) rfl (q06 und42 rfl (q00 inf3) rfl rfl rfl) (RD.q (u:=.int .i64 x7.Unary) rfl (q05 und3 rfl rfl rfl rfl) (RD.free (u:=.int .i64 r13) (args:=[.int .i64 x5.Unary,.int .i64 x7.Unary]) rfl (q0b rfl rfl fn47 hb47 rfl rfl) (fun s=>q2k n x5.Unary x7.Unary r13 h14 s) rfl rfl (RD.act (u:=.sl 2 0 3 3) (σ':=⟨[(2,.row [.int .i64 r9,.int .i64 r11,.int .i64 r13] 3),(1,.row (cGEdge x7) 42),(0,.row (cGEdge x5) 42)],3⟩) rfl (q77 und34 inf3 rfl rfl rfl rfl rfl rfl rfl) rfl rfl ?_)))))
 refine RD.call (u:=.int .i64 r15) (args:=[.sl 2 0 3 3]) rfl (q0b rfl rfl fn46 hb46 rfl rfl) (EvU.view (qax n ([r9,r11,r13]) r15 h16) BUL.h (by simp only [toV,toVL,okL,okC,cond_true]<;>rfl) (fun m=>by simp [ren,renL]) (Gh.fz (tm':=[.isl false (List.map (cI .i64) ([r9,r11,r13]))]) (h':=[(1,.row (cGEdge x7) 42),(0,.row (cGEdge x5) 42)]) 2 (.row [.int .i64 r9,.int .i64 r11,.int .i64 r13] 3) 1 rfl (by simp) (by simp only [oneU,q11,q0o,q22,q17,q25,q1b,q1a,q19,q18,q12,q23,q24,q21,q26,q3o,junkT,q7c,q7k,q7j,Nat.reduceLeDiff,Nat.reduceMul,List.length_cons,List.length_nil,Nat.reduceAdd]<;>simp only [chunks,List.take,List.drop,List.map,cI,cB,cS,cL]) (by simp only [fzH,fzB,ug,Nat.beq,cond_true,cond_false,oneU,q11,q0o,q22,q17,q25,q1b,q1a,q19,q18,q12,q23,q24,q21,q26,q3o,junkT,q7c,q7k,q7j,Nat.reduceLeDiff,Nat.reduceMul,List.length_cons,List.length_nil,Nat.reduceAdd]<;>simp only [chunks,List.take,List.drop,List.map,cI,cB,cS,cL]))) rfl rfl ?_
 refine RD.as rfl rfl rfl rfl ?_
 refine RD.done ⟨by kernel_rfl,trivial,?_⟩
 refine sr ?_
 refine RS.q rfl (q02 rfl rfl (q0c _ _ _) rfl) ?_
 refine sd ?_
 refine WPU.condS (t:=(r15 != 0)) rfl (fun h17=>?_) (fun h17=>?_)
 replace hF:=q09 h17 hF
 refine sr ?_
 refine sd ?_
 refine WPU.ret ?_
 refine st ?_
 have hr:=Option.some.inj hF
 subst hr
 exact ⟨.inr rfl,[.int .i64 r15],q0t rfl (q0q),.int .i64 r15,⟨[],0⟩,Nat.le_refl _,Gh.toR (.int .i64 r15) rfl,rfl,BU.h⟩
 replace hF:=q08 h17 hF
 refine st ?_
 refine WPU.skip ?_
 refine st ?_
 obtain ⟨x18,h19,hF⟩:=q01 hF
 obtain ⟨x20,h21,hF⟩:=q01 hF
 obtain ⟨r22,h23,hF⟩:=q01 hF
 refine WPU.drawE Try.tb_ok [] (by kernel_rfl) ?_
 refine RD.q (u:=.isl false (List.map cGDeriv c4)) rfl (q1c und35 rfl rfl rfl) (RD.mv rfl rfl rfl rfl (RD.q (u:=.iptr (xGDeriv x18)) rfl (q13 rfl rfl (q0n cGDeriv und35 (q00 inf37) q0x h19 (q1f x18))) (RD.q (u:=.agg (xGDeriv x18)) rfl (q2u und37 rfl (q00 inf37) rfl rfl) (RD.q (u:=.isl false (List.map cGDeriv c4)) rfl (q1c und35 rfl rfl rfl) (RD.mv rfl rfl rfl rfl (RD.q (u:=.iptr (xGDeriv x20)) rfl (q13 rfl rfl (q0n cGDeriv und35 (q00 inf37) q0x h21 (q1f x20))) (RD.q (u:=.agg (xGDeriv x20)) rfl (q2u und37 rfl (q00 inf37) rfl rfl) ?_)))))))
 refine RD.free (u:=.int .i64 r22) (args:=[.agg (xGDeriv x18),.agg (xGDeriv x20)]) rfl (q0b rfl rfl fn35 hb35 rfl rfl) (fun s=>q4o n x18 x20 r22 h23 s) rfl rfl (RD.as rfl rfl rfl rfl ?_)
 refine RD.done ⟨by kernel_rfl,trivial,?_⟩
 refine st ?_
 refine WPU.ret ?_
 refine st ?_
 have hr:=Option.some.inj hF
 subst hr
 exact ⟨.inr rfl,[.int .i64 r22],q0t rfl (q0q),.int .i64 r22,⟨[],0⟩,Nat.le_refl _,Gh.toR (.int .i64 r22) rfl,rfl,BU.h⟩
def q53 (n:Nat) (p1:Int):Option (GChart×Int) :=
 bindO (cond (decide (p1<1))
  (some true)
  (some (decide (p1 > 32)))) fun b3 =>
 cond b3
  (some ((GChart.mk 0 []),2))
  (some ((GChart.mk p1 []),0))
theorem chart_New_0 (n:Nat) (p1:Int) (r:GChart×Int) (hF:q53 n p1=some r):EvU Try.prog 9 [.int .i64 p1] ⟨[],0⟩ (fun u _=>u = .tup [.agg (cGChart r.1),.int .i64 r.2]∧Bel 0 u):=by
 unfold q53 at hF
 refine EvU.of_body Try.tb_ok fn9 rfl ?_
 refine WPU.ghost (tm':=fr 13 [(0,.int .i64 p1)]) (Gh.start (Nat.le_of_ble_eq_true rfl)) (Nat.zero_le _) ?_
 refine sr ?_
 refine RS.q (u:=.ptr 0 0 0) (σ':=⟨[(0,.row [.int .i64 0,.nils] 24)],1⟩) rfl (q1d inf24 rfl rfl) ?_
 refine sd ?_
 obtain ⟨b3,h4,hF⟩:=q01 hF
 refine WPU.joinK (fun tm σ=>tm=fr 13 [(0,.int .i64 p1),(2,.ptr 0 0 0),(9,.bool b3)]∧σ=⟨[(0,.row [.int .i64 0,.nils] 24)],1⟩) ?_ ?_
 rintro _ _ ⟨rfl,rfl⟩
 refine st ?_
 refine WPU.condS (t:=b3) rfl (fun h5=>?_) (fun h5=>?_)
 replace hF:=q09 h5 hF
 refine sr ?_
 refine RS.q (u:=.agg [.int .i64 0,.nils]) rfl (q80 bd24 rfl rfl rfl) (RS.opn (u:=.junk) (σ':=⟨[(0,.row [.int .i64 0,.nils] 24)],1⟩) rfl (q0g (q00 inf24) rfl rfl rfl rfl rfl rfl rfl rfl) rfl ?_)
 refine sd ?_
 refine WPU.ret ?_
 refine st ?_
 have hr:=Option.some.inj hF
 subst hr
 exact ⟨.inr rfl,[.agg [.int .i64 0,.nils],.int .i64 2],q9d (q0f und24 rfl (q00 inf24) rfl rfl rfl) (q0t rfl (q0q)),.tup [.agg [.int .i64 0,.isl false []],.int .i64 2],⟨[],0⟩,Nat.le_refl _,Gh.trans (Gh.wk (.cons (.tup (.cons (.agg (.cons (.refl _) (.cons (.nil false) .nil))) (.cons (.refl _) .nil))) .nil)) (Gh.toR (.tup [.agg [.int .i64 0,.isl false []],.int .i64 2]) rfl),rfl,BU.h⟩
 replace hF:=q08 h5 hF
 refine st ?_
 refine WPU.skip ?_
 refine sr ?_
 refine RS.q (u:=.agg [.int .i64 p1,.nils]) rfl (q80 bd24 rfl rfl rfl) (RS.opn (u:=.junk) (σ':=⟨[(0,.row [.int .i64 p1,.nils] 24)],1⟩) rfl (q0g (q00 inf24) rfl rfl rfl rfl rfl rfl rfl rfl) rfl ?_)
 refine sd ?_
 refine WPU.ret ?_
 refine st ?_
 have hr:=Option.some.inj hF
 subst hr
 exact ⟨.inr rfl,[.agg [.int .i64 p1,.nils],.int .i64 0],q9d (q0f und24 rfl (q00 inf24) rfl rfl rfl) (q0t rfl (q0q)),.tup [.agg [.int .i64 p1,.isl false []],.int .i64 0],⟨[],0⟩,Nat.le_refl _,Gh.trans (Gh.wk (.cons (.tup (.cons (.agg (.cons (.refl _) (.cons (.nil false) .nil))) (.cons (.refl _) .nil))) .nil)) (Gh.toR (.tup [.agg [.int .i64 p1,.isl false []],.int .i64 0]) rfl),rfl,BU.h⟩
 rcases q0j (decide (p1<1)) with h2 | h2
 replace h4:=q09 h2 h4
 replace h4:=Option.some.inj h4
 subst h4
 refine sr ?_
 refine RS.q rfl (q02 rfl rfl (q1i _ _ _) rfl) (RS.mv rfl rfl rfl rfl ?_)
 repeat refine RS.no (want0 rfl rfl rfl h2) rfl rfl ?_
 refine RS.q (u:=.bool true) rfl (q04 rfl h2 rfl) ?_
 refine sd ?_
 exact ⟨_,_,⟨rfl,rfl⟩,(Nat.zero_le _),Gh.toC (n1:=1) ⟨rfl,rfl,rfl,trivial⟩ rfl (Nat.zero_le _) (by simp)⟩
 replace h4:=q08 h2 h4
 replace h4:=Option.some.inj h4
 subst h4
 refine sr ?_
 refine RS.q rfl (q02 rfl rfl (q1i _ _ _) rfl) (RS.mv rfl rfl rfl rfl (RS.op (want1 rfl rfl rfl h2) (q07 rfl) rfl rfl (RS.op (want1 rfl rfl rfl h2) (q02 rfl rfl (q74 _ _ _) rfl) rfl rfl (RS.q (u:=.bool (decide (p1 > 32))) rfl (q03 rfl h2 rfl) ?_))))
 refine sd ?_
 exact ⟨_,_,⟨rfl,rfl⟩,(Nat.zero_le _),Gh.toC (n1:=1) ⟨rfl,rfl,rfl,trivial⟩ rfl (Nat.zero_le _) (by simp)⟩
theorem q62 (n:Nat) (p1:Int) (r:GChart×Int) (hF:q53 n p1=some r) (σ:Sg):EvU Try.prog 9 [.int .i64 p1] σ (fun u σ'=>u = .tup [.agg (cGChart r.1),.int .i64 r.2]∧σ'=σ) :=
 EvU.pure1C (chart_New_0 n p1 r hF) σ
def qcf (n:Nat) (p1:Int):Option (GChart×Int) :=
 bindO (cond (decide (p1<1))
  (some true)
  (some (decide (p1 > 32)))) fun b3 =>
 cond b3
  (some ((GChart.mk 0 []),2))
  (some ((GChart.mk p1 []),0))
def q4b (n:Nat) (p1:Int) (p2:Int):Option (Int) :=
 cond (decide (p1<p2))
  (some (-1))
  (cond (decide (p1 > p2))
   (some 1)
   (some 0))
theorem ref28_ints_0 (n:Nat) (p1:Int) (p2:Int) (r:Int) (hF:q4b n p1 p2=some r):EvU Try.prog 42 [.int .i64 p1,.int .i64 p2] ⟨[],0⟩ (fun u _=>u = .int .i64 r∧Bel 0 u):=by
 unfold q4b at hF
 refine EvU.of_body Try.tb_ok fn42 rfl ?_
 refine WPU.ghost (tm':=fr 11 [(0,.int .i64 p1),(1,.int .i64 p2)]) (Gh.start (Nat.le_of_ble_eq_true rfl)) (Nat.zero_le _) ?_
 refine sr ?_
 refine se ?_
 repeat refine RS.mv rfl rfl rfl rfl ?_
 refine RS.q rfl (q02 rfl rfl (q1i _ _ _) rfl) ?_
 refine sd ?_
 refine WPU.condS (t:=(decide (p1<p2))) rfl (fun h3=>?_) (fun h3=>?_)
 replace hF:=q09 h3 hF
 refine sr ?_
 refine sd ?_
 refine WPU.ret ?_
 refine st ?_
 have hr:=Option.some.inj hF
 subst hr
 exact ⟨.inr rfl,[.int .i64 (-1)],q0t rfl (q0q),.int .i64 (-1),⟨[],0⟩,Nat.le_refl _,Gh.toR (.int .i64 (-1)) rfl,rfl,BU.h⟩
 replace hF:=q08 h3 hF
 refine st ?_
 refine WPU.skip ?_
 refine sr ?_
 repeat refine RS.mv rfl rfl rfl rfl ?_
 refine RS.q rfl (q02 rfl rfl (q74 _ _ _) rfl) ?_
 refine sd ?_
 refine WPU.condS (t:=(decide (p1 > p2))) rfl (fun h4=>?_) (fun h4=>?_)
 replace hF:=q09 h4 hF
 refine sr ?_
 refine sd ?_
 refine WPU.ret ?_
 refine st ?_
 have hr:=Option.some.inj hF
 subst hr
 exact ⟨.inr rfl,[.int .i64 1],q0t rfl (q0q),.int .i64 1,⟨[],0⟩,Nat.le_refl _,Gh.toR (.int .i64 1) rfl,rfl,BU.h⟩
 replace hF:=q08 h4 hF
 refine st ?_
 refine WPU.skip ?_
 refine sr ?_
 refine sd ?_
 refine WPU.ret ?_
 refine st ?_
 have hr:=Option.some.inj hF
 subst hr
 exact ⟨.inr rfl,[.int .i64 0],q0t rfl (q0q),.int .i64 0,⟨[],0⟩,Nat.le_refl _,Gh.toR (.int .i64 0) rfl,rfl,BU.h⟩
theorem q6e (n:Nat) (p1:Int) (p2:Int) (r:Int) (hF:q4b n p1 p2=some r) (σ:Sg):EvU Try.prog 42 [.int .i64 p1,.int .i64 p2] σ (fun u σ'=>u = .int .i64 r∧σ'=σ) :=
 EvU.pure1C (ref28_ints_0 n p1 p2 r hF) σ
def q3p (p1:GDeriv) (p2:GDeriv) (n:Nat)  : Option (Int) :=
 bindO (q4b n (p1.Kids.length:Int) (p2.Kids.length:Int)) fun r26 =>
 some r26
def q36 (p1:GDeriv) (p2:GDeriv) (n:Nat) (self:GDeriv→GDeriv→Option (Int)):Nat→Int→Option (Int)
 | 0,_=>none
 | m1+1,z25 =>
  bindO (cond (decide (z25<(p1.Kids.length:Int)))
   (some (decide (z25<(p2.Kids.length:Int))))
   (some false)) fun b29 =>
  cond b29
   (bindO (idxO p1.Kids z25) fun x32 =>
   bindO (idxO p2.Kids z25) fun x34 =>
   bindO (self x32 x34) fun r36 =>
   cond (r36 != 0)
    (some r36)
    ((q36 p1 p2 n self m1) (IntKind.i64.wrap (z25+1))))
   (q3p p1 p2 n)
def q6r (n:Nat) (self:GDeriv→GDeriv→Option (Int)) (p1:GDeriv) (p2:GDeriv):Option (Int) :=
 cond (p1.From != p2.From)
  (bindO (q4b n p1.From p2.From) fun r4 =>
  some r4)
  (cond (p1.To != p2.To)
   (bindO (q4b n p1.To p2.To) fun r7 =>
   some r7)
   (cond (p1.Kind != p2.Kind)
    (bindO (q4b n p1.Kind p2.Kind) fun r10 =>
    some r10)
    (cond (!bytesEq p1.Name p2.Name)
     (cond (bytesLt p1.Name p2.Name)
      (some (-1))
      (some 1))
     (q36 p1 p2 n self n 0))))
def q1w:Nat→GDeriv→GDeriv→Option (Int)
 | 0,_,_=>none
 | n+1,p1,p2=>q6r n (q1w n) p1 p2
theorem q8c:∀ (n:Nat) (p1:GDeriv) (p2:GDeriv) (r:Int),q1w n p1 p2=some r→EvU Try.prog 21 [.agg (xGDeriv p1),.agg (xGDeriv p2)] ⟨[],0⟩ (fun u _=>u = .int .i64 r∧Bel 0 u)
 | 0,p1,p2,r,hF=>by cases hF
 | n+1,p1,p2,r,hF=>by
  have ih:=q8c n
  have ihS:∀ (p1:GDeriv) (p2:GDeriv) (r:Int),q1w n p1 p2=some r→∀ σ,EvU Try.prog 21 [.agg (xGDeriv p1),.agg (xGDeriv p2)] σ (fun u σ'=>u = .int .i64 r∧σ'=σ):=fun p1 p2 r h σ=>EvU.pure1C (ih p1 p2 r h) σ
  unfold q1w q6r at hF
  refine EvU.of_body Try.tb_ok fn21 rfl ?_
  refine WPU.ghost (tm':=fr 82 [(0,.agg (xGDeriv p1)),(1,.agg (xGDeriv p2))]) (Gh.start (Nat.le_of_ble_eq_true rfl)) (Nat.zero_le _) ?_
  refine sr ?_
  refine RS.q (u:=.ptr 0 0 0) (σ':=⟨[(0,.row (xGDeriv p1) 37)],1⟩) rfl (q2v rfl rfl rfl) (RS.q (u:=.ptr 1 0 0) (σ':=⟨[(1,.row (xGDeriv p2) 37),(0,.row (xGDeriv p1) 37)],2⟩) rfl (q2v rfl rfl rfl) ?_)
  refine se ?_
  refine RS.q (u:=.ptr 0 0 2) rfl (q06 und37 rfl (q00 inf3) rfl rfl rfl) (RS.q (u:=.int .i64 p1.From) rfl (q05 und3 rfl rfl rfl rfl) (RS.q (u:=.ptr 1 0 2) rfl (q06 und37 rfl (q00 inf3) rfl rfl rfl) (RS.q (u:=.int .i64 p2.From) rfl (q05 und3 rfl rfl rfl rfl) (RS.q rfl (q02 rfl rfl (q0c _ _ _) rfl) ?_))))
  refine sd ?_
  refine WPU.condS (t:=(p1.From != p2.From)) rfl (fun h3=>?_) (fun h3=>?_)
  replace hF:=q09 h3 hF
  refine st ?_
  obtain ⟨r4,h5,hF⟩:=q01 hF
  refine sr ?_
  refine RS.q (u:=.ptr 0 0 2) rfl (q06 und37 rfl (q00 inf3) rfl rfl rfl) (RS.q (u:=.int .i64 p1.From) rfl (q05 und3 rfl rfl rfl rfl) (RS.q (u:=.ptr 1 0 2) rfl (q06 und37 rfl (q00 inf3) rfl rfl rfl) (RS.q (u:=.int .i64 p2.From) rfl (q05 und3 rfl rfl rfl rfl) (RS.call (u:=.int .i64 r4) (args:=[.int .i64 p1.From,.int .i64 p2.From]) rfl (q0b rfl rfl fn42 hb42 rfl rfl) (q6e n p1.From p2.From r4 h5 _) rfl rfl ?_))))
  refine sd ?_
  refine WPU.ret ?_
  refine st ?_
  have hr:=Option.some.inj hF
  subst hr
  exact ⟨.inr rfl,[.int .i64 r4],q0t rfl (q0q),.int .i64 r4,⟨[],0⟩,Nat.le_refl _,Gh.toR (.int .i64 r4) rfl,rfl,BU.h⟩
  replace hF:=q08 h3 hF
  refine st ?_
  refine WPU.skip ?_
  refine sr ?_
  refine RS.q (u:=.ptr 0 0 3) rfl (q06 und37 rfl (q00 inf3) rfl rfl rfl) (RS.q (u:=.int .i64 p1.To) rfl (q05 und3 rfl rfl rfl rfl) (RS.q (u:=.ptr 1 0 3) rfl (q06 und37 rfl (q00 inf3) rfl rfl rfl) (RS.q (u:=.int .i64 p2.To) rfl (q05 und3 rfl rfl rfl rfl) (RS.q rfl (q02 rfl rfl (q0c _ _ _) rfl) ?_))))
  refine sd ?_
  refine WPU.condS (t:=(p1.To != p2.To)) rfl (fun h6=>?_) (fun h6=>?_)
  replace hF:=q09 h6 hF
  refine st ?_
  obtain ⟨r7,h8,hF⟩:=q01 hF
  refine sr ?_
  refine RS.q (u:=.ptr 0 0 3) rfl (q06 und37 rfl (q00 inf3) rfl rfl rfl) (RS.q (u:=.int .i64 p1.To) rfl (q05 und3 rfl rfl rfl rfl) (RS.q (u:=.ptr 1 0 3) rfl (q06 und37 rfl (q00 inf3) rfl rfl rfl) (RS.q (u:=.int .i64 p2.To) rfl (q05 und3 rfl rfl rfl rfl) (RS.call (u:=.int .i64 r7) (args:=[.int .i64 p1.To,.int .i64 p2.To]) rfl (q0b rfl rfl fn42 hb42 rfl rfl) (q6e n p1.To p2.To r7 h8 _) rfl rfl ?_))))
  refine sd ?_
  refine WPU.ret ?_
  refine st ?_
  have hr:=Option.some.inj hF
  subst hr
  exact ⟨.inr rfl,[.int .i64 r7],q0t rfl (q0q),.int .i64 r7,⟨[],0⟩,Nat.le_refl _,Gh.toR (.int .i64 r7) rfl,rfl,BU.h⟩
  replace hF:=q08 h6 hF
  refine st ?_
  refine WPU.skip ?_
  refine sr ?_
  refine RS.q (u:=.ptr 0 0 0) rfl (q06 und37 rfl (q00 inf3) rfl rfl rfl) (RS.q (u:=.int .i64 p1.Kind) rfl (q05 und3 rfl rfl rfl rfl) (RS.q (u:=.ptr 1 0 0) rfl (q06 und37 rfl (q00 inf3) rfl rfl rfl) (RS.q (u:=.int .i64 p2.Kind) rfl (q05 und3 rfl rfl rfl rfl) (RS.q rfl (q02 rfl rfl (q0c _ _ _) rfl) ?_))))
  refine sd ?_
  refine WPU.condS (t:=(p1.Kind != p2.Kind)) rfl (fun h9=>?_) (fun h9=>?_)
  replace hF:=q09 h9 hF
  refine st ?_
  obtain ⟨r10,h11,hF⟩:=q01 hF
  refine sr ?_
  refine RS.q (u:=.ptr 0 0 0) rfl (q06 und37 rfl (q00 inf3) rfl rfl rfl) (RS.q (u:=.int .i64 p1.Kind) rfl (q05 und3 rfl rfl rfl rfl) (RS.q (u:=.ptr 1 0 0) rfl (q06 und37 rfl (q00 inf3) rfl rfl rfl) (RS.q (u:=.int .i64 p2.Kind) rfl (q05 und3 rfl rfl rfl rfl) (RS.call (u:=.int .i64 r10) (args:=[.int .i64 p1.Kind,.int .i64 p2.Kind]) rfl (q0b rfl rfl fn42 hb42 rfl rfl) (q6e n p1.Kind p2.Kind r10 h11 _) rfl rfl ?_))))
  refine sd ?_
  refine WPU.ret ?_
  refine st ?_
  have hr:=Option.some.inj hF
  subst hr
  exact ⟨.inr rfl,[.int .i64 r10],q0t rfl (q0q),.int .i64 r10,⟨[],0⟩,Nat.le_refl _,Gh.toR (.int .i64 r10) rfl,rfl,BU.h⟩
  replace hF:=q08 h9 hF
  refine st ?_
  refine WPU.skip ?_
  refine sr ?_
  refine RS.q (u:=.ptr 0 0 1) rfl (q06 und37 rfl (q00 inf9) rfl rfl rfl) (RS.q (u:=.str p1.Name) rfl (q05 und9 rfl rfl rfl rfl) (RS.q (u:=.ptr 1 0 1) rfl (q06 und37 rfl (q00 inf9) rfl rfl rfl) (RS.q (u:=.str p2.Name) rfl (q05 und9 rfl rfl rfl rfl) (RS.q (u:=.bool (!bytesEq p1.Name p2.Name)) rfl (q2w rfl rfl rfl rfl) ?_))))
  refine sd ?_
  refine WPU.condS (t:=(!bytesEq p1.Name p2.Name)) rfl (fun h12=>?_) (fun h12=>?_)
  replace hF:=q09 h12 hF
  refine sr ?_
  refine RS.q (u:=.ptr 0 0 1) rfl (q06 und37 rfl (q00 inf9) rfl rfl rfl) (RS.q (u:=.str p1.Name) rfl (q05 und9 rfl rfl rfl rfl) (RS.q (u:=.ptr 1 0 1) rfl (q06 und37 rfl (q00 inf9) rfl rfl rfl) (RS.q (u:=.str p2.Name) rfl (q05 und9 rfl rfl rfl rfl) (RS.q (u:=.bool (bytesLt p1.Name p2.Name)) rfl (q2w rfl rfl rfl rfl) ?_))))
  refine sd ?_
  refine WPU.condS (t:=(bytesLt p1.Name p2.Name)) rfl (fun h13=>?_) (fun h13=>?_)
  replace hF:=q09 h13 hF
  refine sr ?_
  refine sd ?_
  refine WPU.ret ?_
  refine st ?_
  have hr:=Option.some.inj hF
  subst hr
  exact ⟨.inr rfl,[.int .i64 (-1)],q0t rfl (q0q),.int .i64 (-1),⟨[],0⟩,Nat.le_refl _,Gh.toR (.int .i64 (-1)) rfl,rfl,BU.h⟩
  replace hF:=q08 h13 hF
  refine st ?_
  refine WPU.skip ?_
  refine sr ?_
  refine sd ?_
  refine WPU.ret ?_
  refine st ?_
  have hr:=Option.some.inj hF
  subst hr
  exact ⟨.inr rfl,[.int .i64 1],q0t rfl (q0q),.int .i64 1,⟨[],0⟩,Nat.le_refl _,Gh.toR (.int .i64 1) rfl,rfl,BU.h⟩
  replace hF:=q08 h12 hF
  refine st ?_
  refine WPU.skip ?_
  refine sr ?_
  refine sd ?_
  refine WPU.ghost (tm':=fr 82 [(2,.ptr 0 0 0),(3,.ptr 1 0 0),(5,.int .i64 0)]) (Gh.sub ⟨rfl,rfl,rfl,trivial⟩) (Nat.zero_le _) ?_
  refine WPU.loopK (fun m tm σ=>∃ z25:Int,q36 p1 p2 n (q1w n) m z25=some r∧tm=fr 82 [(2,.ptr 0 0 0),(3,.ptr 1 0 0),(5,.int .i64 z25)]∧σ=⟨[(1,.row (xGDeriv p2) 37),(0,.row (xGDeriv p1) 37)],2⟩) (fun tm σ=>q3p p1 p2 n=some r∧tm=fr 82 [(2,.ptr 0 0 0),(3,.ptr 1 0 0)]∧σ=⟨[(1,.row (xGDeriv p2) 37),(0,.row (xGDeriv p1) 37)],2⟩) n ⟨0,hF,rfl,rfl⟩ ?_ ?_
  rintro _ _ ⟨hF,rfl,rfl⟩
  unfold q3p at hF
  refine st ?_
  obtain ⟨r26,h27,hF⟩:=q01 hF
  refine sr ?_
  refine RS.q (u:=.ptr 0 0 4) rfl (q06 und37 rfl (q00 inf35) rfl rfl rfl) (RS.q (u:=.isl false (List.map cGDeriv p1.Kids)) rfl (q05 und35 rfl rfl rfl rfl) (RS.q rfl (q0i rfl rfl rfl (q0d cGDeriv und35)) (RS.q (u:=.ptr 1 0 4) rfl (q06 und37 rfl (q00 inf35) rfl rfl rfl) (RS.q (u:=.isl false (List.map cGDeriv p2.Kids)) rfl (q05 und35 rfl rfl rfl rfl) (RS.q rfl (q0i rfl rfl rfl (q0d cGDeriv und35)) (RS.call (u:=.int .i64 r26) (args:=[.int .i64 (p1.Kids.length:Int),.int .i64 (p2.Kids.length:Int)]) rfl (q0b rfl rfl fn42 hb42 rfl rfl) (q6e n (p1.Kids.length:Int) (p2.Kids.length:Int) r26 h27 _) rfl rfl ?_))))))
  refine sd ?_
  refine WPU.ret ?_
  refine st ?_
  have hr:=Option.some.inj hF
  subst hr
  exact ⟨.inr rfl,[.int .i64 r26],q0t rfl (q0q),.int .i64 r26,⟨[],0⟩,Nat.le_refl _,Gh.toR (.int .i64 r26) rfl,rfl,BU.h⟩
  rintro m1 _ _ ⟨z25,hF,rfl,rfl⟩
  rcases m1 with _ | m1
  cases hF
  unfold q36 at hF
  refine st ?_
  obtain ⟨b29,h30,hF⟩:=q01 hF
  refine WPU.joinK (fun tm σ=>tm=fr 82 [(2,.ptr 0 0 0),(3,.ptr 1 0 0),(5,.int .i64 z25),(58,.bool b29)]∧σ=⟨[(1,.row (xGDeriv p2) 37),(0,.row (xGDeriv p1) 37)],2⟩) ?_ ?_
  rintro _ _ ⟨rfl,rfl⟩
  refine st ?_
  refine WPU.condS (t:=b29) rfl (fun h31=>?_) (fun h31=>?_)
  replace hF:=q09 h31 hF
  refine st ?_
  refine WPU.skip ?_
  refine st ?_
  refine WPU.block ?_
  refine st ?_
  obtain ⟨x32,h33,hF⟩:=q01 hF
  obtain ⟨x34,h35,hF⟩:=q01 hF
  obtain ⟨r36,h37,hF⟩:=q01 hF
  refine WPU.drawE Try.tb_ok [] (by kernel_rfl) ?_
  refine RD.q (u:=.ptr 0 0 4) rfl (q06 und37 rfl (q00 inf35) rfl rfl rfl) (RD.q (u:=.isl false (List.map cGDeriv p1.Kids)) rfl (q05 und35 rfl rfl rfl rfl) (RD.mv rfl rfl rfl rfl (RD.q (u:=.iptr (xGDeriv x32)) rfl (q13 rfl rfl (q0n cGDeriv und35 (q00 inf37) q0x h33 (q1f x32))) (RD.q (u:=.agg (xGDeriv x32)) rfl (q2u und37 rfl (q00 inf37) rfl rfl) (RD.q (u:=.ptr 1 0 4) rfl (q06 und37 rfl (q00 inf35) rfl rfl rfl) (RD.q (u:=.isl false (List.map cGDeriv p2.Kids)) rfl (q05 und35 rfl rfl rfl rfl) (RD.mv rfl rfl rfl rfl ?_)))))))
  refine RD.q (u:=.iptr (xGDeriv x34)) rfl (q13 rfl rfl (q0n cGDeriv und35 (q00 inf37) q0x h35 (q1f x34))) (RD.q (u:=.agg (xGDeriv x34)) rfl (q2u und37 rfl (q00 inf37) rfl rfl) (RD.free (u:=.int .i64 r36) (args:=[.agg (xGDeriv x32),.agg (xGDeriv x34)]) rfl (q0b rfl rfl fn21 hb21 rfl rfl) (fun s=>ihS x32 x34 r36 h37 s) rfl rfl (RD.as rfl rfl rfl rfl ?_)))
  refine RD.done ⟨by kernel_rfl,trivial,?_⟩
  refine sr ?_
  refine RS.q rfl (q02 rfl rfl (q0c _ _ _) rfl) ?_
  refine sd ?_
  refine WPU.condS (t:=(r36 != 0)) rfl (fun h38=>?_) (fun h38=>?_)
  replace hF:=q09 h38 hF
  refine sr ?_
  refine sd ?_
  refine WPU.ret ?_
  refine st ?_
  have hr:=Option.some.inj hF
  subst hr
  exact ⟨.inr rfl,[.int .i64 r36],q0t rfl (q0q),.int .i64 r36,⟨[],0⟩,Nat.le_refl _,Gh.toR (.int .i64 r36) rfl,rfl,BU.h⟩
  replace hF:=q08 h38 hF
  refine st ?_
  refine WPU.skip ?_
  refine sr ?_
  refine RS.q rfl (q02 rfl rfl (q32 _ _ _) rfl) ?_
  refine sd ?_
  exact ⟨m1,_,_,Nat.lt_succ_self _,⟨(IntKind.i64.wrap (z25+1)),hF,rfl,rfl⟩,(Nat.zero_le _),Gh.toC (n1:=2) ⟨rfl,rfl,rfl,trivial⟩ rfl (Nat.zero_le _) (by simp)⟩
  replace hF:=q08 h31 hF
  refine st ?_
  refine WPU.exit ?_
  refine st ?_
  exact ⟨_,_,⟨hF,rfl,rfl⟩,(Nat.zero_le _),Gh.toC (n1:=2) ⟨rfl,rfl,trivial⟩ rfl (Nat.zero_le _) (by simp)⟩
  rcases q0j (decide (z25<(p1.Kids.length:Int))) with h28 | h28
  replace h30:=q09 h28 h30
  replace h30:=Option.some.inj h30
  subst h30
  refine sr ?_
  refine RS.q (u:=.ptr 0 0 4) rfl (q06 und37 rfl (q00 inf35) rfl rfl rfl) (RS.q (u:=.isl false (List.map cGDeriv p1.Kids)) rfl (q05 und35 rfl rfl rfl rfl) (RS.q rfl (q0i rfl rfl rfl (q0d cGDeriv und35)) (RS.q rfl (q02 rfl rfl (q1i _ _ _) rfl) (RS.mv rfl rfl rfl rfl (RS.op (want1 rfl rfl rfl h28) (q07 rfl) rfl rfl (RS.op (u:=.ptr 1 0 4) (want1 rfl rfl rfl h28) (q06 und37 rfl (q00 inf35) rfl rfl rfl) rfl rfl (RS.op (u:=.isl false (List.map cGDeriv p2.Kids)) (want1 rfl rfl rfl h28) (q05 und35 rfl rfl rfl rfl) rfl rfl ?_)))))))
  refine RS.op (want1 rfl rfl rfl h28) (q0i rfl rfl rfl (q0d cGDeriv und35)) rfl rfl (RS.op (want1 rfl rfl rfl h28) (q02 rfl rfl (q1i _ _ _) rfl) rfl rfl (RS.q (u:=.bool (decide (z25<(p2.Kids.length:Int)))) rfl (q04 rfl h28 rfl) ?_))
  refine sd ?_
  exact ⟨_,_,⟨rfl,rfl⟩,(Nat.zero_le _),Gh.toC (n1:=2) ⟨rfl,rfl,rfl,rfl,trivial⟩ rfl (Nat.zero_le _) (by simp)⟩
  replace h30:=q08 h28 h30
  replace h30:=Option.some.inj h30
  subst h30
  refine sr ?_
  refine RS.q (u:=.ptr 0 0 4) rfl (q06 und37 rfl (q00 inf35) rfl rfl rfl) (RS.q (u:=.isl false (List.map cGDeriv p1.Kids)) rfl (q05 und35 rfl rfl rfl rfl) (RS.q rfl (q0i rfl rfl rfl (q0d cGDeriv und35)) (RS.q rfl (q02 rfl rfl (q1i _ _ _) rfl) (RS.mv rfl rfl rfl rfl ?_))))
  repeat refine RS.no (want0 rfl rfl rfl h28) rfl rfl ?_
  refine RS.q (u:=.bool false) rfl (q03 rfl h28 rfl) ?_
  refine sd ?_
  exact ⟨_,_,⟨rfl,rfl⟩,(Nat.zero_le _),Gh.toC (n1:=2) ⟨rfl,rfl,rfl,rfl,trivial⟩ rfl (Nat.zero_le _) (by simp)⟩
theorem q82 (n:Nat) (p1:GDeriv) (p2:GDeriv) (r:Int) (hF:q1w n p1 p2=some r) (σ:Sg):EvU Try.prog 21 [.agg (xGDeriv p1),.agg (xGDeriv p2)] σ (fun u σ'=>u = .int .i64 r∧σ'=σ) :=
 EvU.pure1C (q8c n p1 p2 r hF) σ
def q5c (z7:Int) (rc1:Int→Option (Bool))  : Option (Bool) :=
 rc1 (IntKind.i64.wrap (z7+1))
def q3k (z7:Int) (rc1:Int→Option (Bool)) (x9:GNode) (x11:GNode):Nat→Int→Option (Bool)
 | 0,_=>none
 | m2+1,z25 =>
  cond (decide (z25<(x9.Arcs.length:Int)))
   (bindO (idxO x9.Arcs z25) fun x27 =>
   bindO (idxO x11.Arcs z25) fun x29 =>
   cond (!(eqGArc x27 x29))
    (some false)
    ((q3k z7 rc1 x9 x11 m2) (IntKind.i64.wrap (z25+1))))
   (q5c z7 rc1)
def q5b   : Option (Bool) :=
 some true
def q1x (p1:GFS) (p2:GFS) (n:Nat):Nat→Int→Option (Bool)
 | 0,_=>none
 | m1+1,z7 =>
  cond (decide (z7<(p1.Nodes.length:Int)))
   (bindO (idxO p1.Nodes z7) fun x9 =>
   bindO (idxO p2.Nodes z7) fun x11 =>
   bindO (cond (x9.Typex != x11.Typex)
    (some true)
    (some ((x9.Arcs.length:Int) != (x11.Arcs.length:Int)))) fun b14 =>
   cond b14
    (some false)
    (q3k z7 (q1x p1 p2 n m1) x9 x11 n 0))
   (q5b)
def q4x (n:Nat) (p1:GFS) (p2:GFS):Option (Bool) :=
 cond ((p1.Nodes.length:Int) != (p2.Nodes.length:Int))
  (some false)
  (q1x p1 p2 n n 0)
theorem ref32_SameFS_0 (n:Nat) (p1:GFS) (p2:GFS) (r:Bool) (hF:q4x n p1 p2=some r):EvU Try.prog 28 [.agg [.isl false (List.map cGNode p1.Nodes)],.agg [.isl false (List.map cGNode p2.Nodes)]] ⟨[],0⟩ (fun u _=>u = .bool r∧Bel 0 u):=by
 unfold q4x at hF
 refine EvU.of_body Try.tb_ok fn28 rfl ?_
 refine WPU.ghost (tm':=fr 65 [(0,.agg [.isl false (List.map cGNode p1.Nodes)]),(1,.agg [.isl false (List.map cGNode p2.Nodes)])]) (Gh.start (Nat.le_of_ble_eq_true rfl)) (Nat.zero_le _) ?_
 refine sr ?_
 refine RS.q (u:=.ptr 0 0 0) (σ':=⟨[(0,.row [.isl false (List.map cGNode p1.Nodes)] 40)],1⟩) rfl (q2v rfl rfl rfl) (RS.q (u:=.ptr 1 0 0) (σ':=⟨[(1,.row [.isl false (List.map cGNode p2.Nodes)] 40),(0,.row [.isl false (List.map cGNode p1.Nodes)] 40)],2⟩) rfl (q2v rfl rfl rfl) ?_)
 refine se ?_
 refine RS.q (u:=.ptr 0 0 0) rfl (q06 und40 rfl (q00 inf38) rfl rfl rfl) (RS.q (u:=.isl false (List.map cGNode p1.Nodes)) rfl (q05 und38 rfl rfl rfl rfl) (RS.q rfl (q0i rfl rfl rfl (q0d cGNode und38)) (RS.q (u:=.ptr 1 0 0) rfl (q06 und40 rfl (q00 inf38) rfl rfl rfl) (RS.q (u:=.isl false (List.map cGNode p2.Nodes)) rfl (q05 und38 rfl rfl rfl rfl) (RS.q rfl (q0i rfl rfl rfl (q0d cGNode und38)) (RS.q rfl (q02 rfl rfl (q0c _ _ _) rfl) ?_))))))
 refine sd ?_
 refine WPU.condS (t:=((p1.Nodes.length:Int) != (p2.Nodes.length:Int))) rfl (fun h3=>?_) (fun h3=>?_)
 replace hF:=q09 h3 hF
 refine sr ?_
 refine sd ?_
 refine WPU.ret ?_
 refine st ?_
 have hr:=Option.some.inj hF
 subst hr
 exact ⟨.inr rfl,[.bool false],q0t rfl (q0q),.bool false,⟨[],0⟩,Nat.le_refl _,Gh.toR (.bool false) rfl,rfl,BU.h⟩
 replace hF:=q08 h3 hF
 refine st ?_
 refine WPU.skip ?_
 refine sr ?_
 refine sd ?_
 refine WPU.ghost (tm':=fr 65 [(2,.ptr 0 0 0),(3,.ptr 1 0 0),(5,.int .i64 0)]) (Gh.sub ⟨rfl,rfl,rfl,trivial⟩) (Nat.zero_le _) ?_
 refine WPU.loopK (fun m tm σ=>∃ z7:Int,q1x p1 p2 n m z7=some r∧tm=fr 65 [(2,.ptr 0 0 0),(3,.ptr 1 0 0),(5,.int .i64 z7)]∧σ=⟨[(1,.row [.isl false (List.map cGNode p2.Nodes)] 40),(0,.row [.isl false (List.map cGNode p1.Nodes)] 40)],2⟩) (fun tm σ=>q5b=some r∧tm=fr 65 []∧σ=⟨[(1,.row [.isl false (List.map cGNode p2.Nodes)] 40),(0,.row [.isl false (List.map cGNode p1.Nodes)] 40)],2⟩) n ⟨0,hF,rfl,rfl⟩ ?_ ?_
 rintro _ _ ⟨hF,rfl,rfl⟩
 unfold q5b at hF
 refine sr ?_
 refine sd ?_
 refine WPU.ret ?_
 refine st ?_
 have hr:=Option.some.inj hF
 subst hr
 exact ⟨.inr rfl,[.bool true],q0t rfl (q0q),.bool true,⟨[],0⟩,Nat.le_refl _,Gh.toR (.bool true) rfl,rfl,BU.h⟩
 rintro m1 _ _ ⟨z7,hF,rfl,rfl⟩
 rcases m1 with _ | m1
 cases hF
 unfold q1x at hF
 refine sr ?_
 refine RS.q (u:=.ptr 0 0 0) rfl (q06 und40 rfl (q00 inf38) rfl rfl rfl) (RS.q (u:=.isl false (List.map cGNode p1.Nodes)) rfl (q05 und38 rfl rfl rfl rfl) (RS.q rfl (q0i rfl rfl rfl (q0d cGNode und38)) (RS.q rfl (q02 rfl rfl (q1i _ _ _) rfl) ?_)))
 refine sd ?_
 refine WPU.condS (t:=(decide (z7<(p1.Nodes.length:Int)))) rfl (fun h8=>?_) (fun h8=>?_)
 replace hF:=q09 h8 hF
 refine st ?_
 refine WPU.skip ?_
 refine st ?_
 refine WPU.block ?_
 refine st ?_
 obtain ⟨x9,h10,hF⟩:=q01 hF
 refine sr ?_
 refine RS.q (u:=.ptr 0 0 0) rfl (q06 und40 rfl (q00 inf38) rfl rfl rfl) (RS.q (u:=.isl false (List.map cGNode p1.Nodes)) rfl (q05 und38 rfl rfl rfl rfl) (RS.mv rfl rfl rfl rfl (RS.q (u:=.iptr (cGNode x9)) rfl (q13 rfl rfl (q0n cGNode und38 (q00 inf62) qaj h10 rfl)) (RS.q (u:=.agg (cGNode x9)) rfl (q2u und62 rfl (q00 inf62) rfl rfl) (RS.q (u:=.ptr 2 0 0) (σ':=⟨[(2,.row [.int .i64 0,.nils] 62),(1,.row [.isl false (List.map cGNode p2.Nodes)] 40),(0,.row [.isl false (List.map cGNode p1.Nodes)] 40)],3⟩) rfl (q1d inf62 rfl rfl) (RS.opn (u:=.junk) (σ':=⟨[(2,.row (cGNode x9) 62),(1,.row [.isl false (List.map cGNode p2.Nodes)] 40),(0,.row [.isl false (List.map cGNode p1.Nodes)] 40)],3⟩) rfl (q0g (q00 inf62) rfl rfl rfl rfl rfl rfl rfl rfl) rfl ?_))))))
 refine sd ?_
 obtain ⟨x11,h12,hF⟩:=q01 hF
 refine sr ?_
 refine RS.q (u:=.ptr 1 0 0) rfl (q06 und40 rfl (q00 inf38) rfl rfl rfl) (RS.q (u:=.isl false (List.map cGNode p2.Nodes)) rfl (q05 und38 rfl rfl rfl rfl) (RS.mv rfl rfl rfl rfl (RS.q (u:=.iptr (cGNode x11)) rfl (q13 rfl rfl (q0n cGNode und38 (q00 inf62) qaj h12 rfl)) (RS.q (u:=.agg (cGNode x11)) rfl (q2u und62 rfl (q00 inf62) rfl rfl) (RS.q (u:=.ptr 3 0 0) (σ':=⟨[(3,.row [.int .i64 0,.nils] 62),(2,.row (cGNode x9) 62),(1,.row [.isl false (List.map cGNode p2.Nodes)] 40),(0,.row [.isl false (List.map cGNode p1.Nodes)] 40)],4⟩) rfl (q1d inf62 rfl rfl) (RS.opn (u:=.junk) (σ':=⟨[(3,.row (cGNode x11) 62),(2,.row (cGNode x9) 62),(1,.row [.isl false (List.map cGNode p2.Nodes)] 40),(0,.row [.isl false (List.map cGNode p1.Nodes)] 40)],4⟩) rfl (q0g (q00 inf62) rfl rfl rfl rfl rfl rfl rfl rfl) rfl ?_))))))
 refine sd ?_
 obtain ⟨b14,h15,hF⟩:=q01 hF
 refine WPU.joinK (fun tm σ=>tm=fr 65 [(2,.ptr 0 0 0),(3,.ptr 1 0 0),(5,.int .i64 z7),(6,.ptr 2 0 0),(7,.ptr 3 0 0),(46,.bool b14)]∧σ=⟨[(3,.row (cGNode x11) 62),(2,.row (cGNode x9) 62),(1,.row [.isl false (List.map cGNode p2.Nodes)] 40),(0,.row [.isl false (List.map cGNode p1.Nodes)] 40)],4⟩) ?_ ?_
 rintro _ _ ⟨rfl,rfl⟩
 refine st ?_
 refine WPU.condS (t:=b14) rfl (fun h16=>?_) (fun h16=>?_)
 replace hF:=q09 h16 hF
 refine sr ?_
 refine sd ?_
 refine WPU.ret ?_
 refine st ?_
 have hr:=Option.some.inj hF
 subst hr
 exact ⟨.inr rfl,[.bool false],q0t rfl (q0q),.bool false,⟨[],0⟩,Nat.le_refl _,Gh.toR (.bool false) rfl,rfl,BU.h⟩
 replace hF:=q08 h16 hF
 refine st ?_
 refine WPU.skip ?_
 refine sr ?_
 refine sd ?_
 refine WPU.ghost (tm':=fr 65 [(2,.ptr 0 0 0),(3,.ptr 1 0 0),(5,.int .i64 z7),(6,.ptr 2 0 0),(7,.ptr 3 0 0),(8,.int .i64 0)]) (Gh.sub ⟨rfl,rfl,rfl,rfl,rfl,rfl,trivial⟩) (Nat.zero_le _) ?_
 refine WPU.loopK (fun m tm σ=>∃ z25:Int,q3k z7 (q1x p1 p2 n m1) x9 x11 m z25=some r∧tm=fr 65 [(2,.ptr 0 0 0),(3,.ptr 1 0 0),(5,.int .i64 z7),(6,.ptr 2 0 0),(7,.ptr 3 0 0),(8,.int .i64 z25)]∧σ=⟨[(3,.row (cGNode x11) 62),(2,.row (cGNode x9) 62),(1,.row [.isl false (List.map cGNode p2.Nodes)] 40),(0,.row [.isl false (List.map cGNode p1.Nodes)] 40)],4⟩) (fun tm σ=>q5c z7 (q1x p1 p2 n m1)=some r∧tm=fr 65 [(2,.ptr 0 0 0),(3,.ptr 1 0 0),(5,.int .i64 z7)]∧σ=⟨[(3,.row (cGNode x11) 62),(2,.row (cGNode x9) 62),(1,.row [.isl false (List.map cGNode p2.Nodes)] 40),(0,.row [.isl false (List.map cGNode p1.Nodes)] 40)],4⟩) n ⟨0,hF,rfl,rfl⟩ ?_ ?_
 rintro _ _ ⟨hF,rfl,rfl⟩
 unfold q5c at hF
 refine sr ?_
 refine RS.q rfl (q02 rfl rfl (q32 _ _ _) rfl) ?_
 refine sd ?_
 exact ⟨m1,_,_,Nat.lt_succ_self _,⟨(IntKind.i64.wrap (z7+1)),hF,rfl,rfl⟩,(Nat.zero_le _),Gh.toC (n1:=2) ⟨rfl,rfl,rfl,trivial⟩ rfl (Nat.zero_le _) (by simp)⟩
 rintro m2 _ _ ⟨z25,hF,rfl,rfl⟩
 rcases m2 with _ | m2
 cases hF
 unfold q3k at hF
 refine sr ?_
 refine RS.q (u:=.ptr 2 0 1) rfl (q06 und62 rfl (q00 inf60) rfl rfl rfl) (RS.q (u:=.isl false (List.map cGArc x9.Arcs)) rfl (q05 und60 rfl rfl rfl rfl) (RS.q rfl (q0i rfl rfl rfl (q0d cGArc und60)) (RS.q rfl (q02 rfl rfl (q1i _ _ _) rfl) ?_)))
 refine sd ?_
 refine WPU.condS (t:=(decide (z25<(x9.Arcs.length:Int)))) rfl (fun h26=>?_) (fun h26=>?_)
 replace hF:=q09 h26 hF
 refine st ?_
 refine WPU.skip ?_
 refine st ?_
 refine WPU.block ?_
 refine st ?_
 obtain ⟨x27,h28,hF⟩:=q01 hF
 obtain ⟨x29,h30,hF⟩:=q01 hF
 refine WPU.drawE Try.tb_ok [] (by kernel_rfl) ?_
 refine RD.q (u:=.ptr 2 0 1) rfl (q06 und62 rfl (q00 inf60) rfl rfl rfl) (RD.q (u:=.isl false (List.map cGArc x9.Arcs)) rfl (q05 und60 rfl rfl rfl rfl) (RD.mv rfl rfl rfl rfl (RD.q (u:=.iptr (cGArc x27)) rfl (q13 rfl rfl (q0n cGArc und60 (q00 inf72) len_cGArc h28 rfl)) (RD.q (u:=.agg (cGArc x27)) rfl (q2u und72 rfl (q00 inf72) rfl rfl) (RD.q (u:=.ptr 3 0 1) rfl (q06 und62 rfl (q00 inf60) rfl rfl rfl) (RD.q (u:=.isl false (List.map cGArc x11.Arcs)) rfl (q05 und60 rfl rfl rfl rfl) (RD.mv rfl rfl rfl rfl ?_)))))))
 refine RD.q (u:=.iptr (cGArc x29)) rfl (q13 rfl rfl (q0n cGArc und60 (q00 inf72) len_cGArc h30 rfl)) (RD.q (u:=.agg (cGArc x29)) rfl (q2u und72 rfl (q00 inf72) rfl rfl) (RD.q (u:=.bool (!(eqGArc x27 x29))) rfl (op_bin rfl rfl (eqq72_neq x27 x29)) ?_))
 refine RD.done ⟨by kernel_rfl,trivial,?_⟩
 refine st ?_
 refine WPU.condS (t:=(!(eqGArc x27 x29))) rfl (fun h31=>?_) (fun h31=>?_)
 replace hF:=q09 h31 hF
 refine sr ?_
 refine sd ?_
 refine WPU.ret ?_
 refine st ?_
 have hr:=Option.some.inj hF
 subst hr
 exact ⟨.inr rfl,[.bool false],q0t rfl (q0q),.bool false,⟨[],0⟩,Nat.le_refl _,Gh.toR (.bool false) rfl,rfl,BU.h⟩
 replace hF:=q08 h31 hF
 refine st ?_
 refine WPU.skip ?_
 refine sr ?_
 refine RS.q rfl (q02 rfl rfl (q32 _ _ _) rfl) ?_
 refine sd ?_
 exact ⟨m2,_,_,Nat.lt_succ_self _,⟨(IntKind.i64.wrap (z25+1)),hF,rfl,rfl⟩,(Nat.zero_le _),Gh.toC (n1:=4) ⟨rfl,rfl,rfl,rfl,rfl,rfl,trivial⟩ rfl (Nat.zero_le _) (by simp)⟩
 replace hF:=q08 h26 hF
 refine st ?_
 refine WPU.exit ?_
 refine st ?_
 exact ⟨_,_,⟨hF,rfl,rfl⟩,(Nat.zero_le _),Gh.toC (n1:=4) ⟨rfl,rfl,rfl,trivial⟩ rfl (Nat.zero_le _) (by simp)⟩
 rcases q0j (x9.Typex != x11.Typex) with h13 | h13
 replace h15:=q09 h13 h15
 replace h15:=Option.some.inj h15
 subst h15
 refine sr ?_
 refine RS.q (u:=.ptr 2 0 0) rfl (q06 und62 rfl (q00 inf3) rfl rfl rfl) (RS.q (u:=.int .i64 x9.Typex) rfl (q05 und3 rfl rfl rfl rfl) (RS.q (u:=.ptr 3 0 0) rfl (q06 und62 rfl (q00 inf3) rfl rfl rfl) (RS.q (u:=.int .i64 x11.Typex) rfl (q05 und3 rfl rfl rfl rfl) (RS.q rfl (q02 rfl rfl (q0c _ _ _) rfl) (RS.mv rfl rfl rfl rfl ?_)))))
 repeat refine RS.no (want0 rfl rfl rfl h13) rfl rfl ?_
 refine RS.q (u:=.bool true) rfl (q04 rfl h13 rfl) ?_
 refine sd ?_
 exact ⟨_,_,⟨rfl,rfl⟩,(Nat.zero_le _),Gh.toC (n1:=4) ⟨rfl,rfl,rfl,rfl,rfl,rfl,trivial⟩ rfl (Nat.zero_le _) (by simp)⟩
 replace h15:=q08 h13 h15
 replace h15:=Option.some.inj h15
 subst h15
 refine sr ?_
 refine RS.q (u:=.ptr 2 0 0) rfl (q06 und62 rfl (q00 inf3) rfl rfl rfl) (RS.q (u:=.int .i64 x9.Typex) rfl (q05 und3 rfl rfl rfl rfl) (RS.q (u:=.ptr 3 0 0) rfl (q06 und62 rfl (q00 inf3) rfl rfl rfl) (RS.q (u:=.int .i64 x11.Typex) rfl (q05 und3 rfl rfl rfl rfl) (RS.q rfl (q02 rfl rfl (q0c _ _ _) rfl) (RS.mv rfl rfl rfl rfl (RS.op (u:=.ptr 2 0 1) (want1 rfl rfl rfl h13) (q06 und62 rfl (q00 inf60) rfl rfl rfl) rfl rfl (RS.op (u:=.isl false (List.map cGArc x9.Arcs)) (want1 rfl rfl rfl h13) (q05 und60 rfl rfl rfl rfl) rfl rfl ?_)))))))
 refine RS.op (want1 rfl rfl rfl h13) (q0i rfl rfl rfl (q0d cGArc und60)) rfl rfl (RS.op (u:=.ptr 3 0 1) (want1 rfl rfl rfl h13) (q06 und62 rfl (q00 inf60) rfl rfl rfl) rfl rfl (RS.op (u:=.isl false (List.map cGArc x11.Arcs)) (want1 rfl rfl rfl h13) (q05 und60 rfl rfl rfl rfl) rfl rfl (RS.op (want1 rfl rfl rfl h13) (q0i rfl rfl rfl (q0d cGArc und60)) rfl rfl (RS.op (want1 rfl rfl rfl h13) (q02 rfl rfl (q0c _ _ _) rfl) rfl rfl (RS.q (u:=.bool ((x9.Arcs.length:Int) != (x11.Arcs.length:Int))) rfl (q03 rfl h13 rfl) ?_)))))
 refine sd ?_
 exact ⟨_,_,⟨rfl,rfl⟩,(Nat.zero_le _),Gh.toC (n1:=4) ⟨rfl,rfl,rfl,rfl,rfl,rfl,trivial⟩ rfl (Nat.zero_le _) (by simp)⟩
 replace hF:=q08 h8 hF
 refine st ?_
 refine WPU.exit ?_
 refine st ?_
 exact ⟨_,_,⟨hF,rfl,rfl⟩,(Nat.zero_le _),Gh.toC (n1:=2) trivial rfl (Nat.zero_le _) (by simp)⟩
theorem qcg (n:Nat) (p1:GFS) (p2:GFS) (r:Bool) (hF:q4x n p1 p2=some r) (σ:Sg):EvU Try.prog 28 [.agg [.isl false (List.map cGNode p1.Nodes)],.agg [.isl false (List.map cGNode p2.Nodes)]] σ (fun u σ'=>u = .bool r∧σ'=σ) :=
 EvU.pure1C (ref32_SameFS_0 n p1 p2 r hF) σ
def q4c (p1:GEdge) (p2:GEdge) (n:Nat)  : Option (Bool) :=
 bindO (bindO (q1w n p1.Lex p2.Lex) fun r37 =>
 cond (r37 == 0)
  (bindO (q4x n p1.FS p2.FS) fun r40 =>
  some r40)
  (some false)) fun b42 =>
 some b42
def q2y (p1:GEdge) (p2:GEdge) (n:Nat):Nat→Int→Option (Bool)
 | 0,_=>none
 | m1+1,z36 =>
  cond (decide (z36<(p1.Kids.length:Int)))
   (bindO (idxO p1.Kids z36) fun x45 =>
   bindO (idxO p2.Kids z36) fun x47 =>
   cond (x45 != x47)
    (some false)
    ((q2y p1 p2 n m1) (IntKind.i64.wrap (z36+1))))
   (q4c p1 p2 n)
def q3v (n:Nat) (p1:GEdge) (p2:GEdge):Option (Bool) :=
 bindO (cond (p1.From != p2.From)
  (some true)
  (cond (p1.To != p2.To)
   (some true)
   (cond (p1.Unary != p2.Unary)
    (some true)
    (cond (p1.Kind != p2.Kind)
     (some true)
     (cond (!bytesEq p1.Name p2.Name)
      (some true)
      (some ((p1.Kids.length:Int) != (p2.Kids.length:Int)))))))) fun b8 =>
 cond b8
  (some false)
  (q2y p1 p2 n n 0)
theorem qba (n:Nat) (p1:GEdge) (p2:GEdge) (r:Bool) (hF:q3v n p1 p2=some r):EvU Try.prog 30 [.agg (cGEdge p1),.agg (cGEdge p2)] ⟨[],0⟩ (fun u _=>u = .bool r∧Bel 0 u):=by
 unfold q3v at hF
 refine EvU.of_body Try.tb_ok fn30 rfl ?_
 refine WPU.ghost (tm':=fr 79 [(0,.agg (cGEdge p1)),(1,.agg (cGEdge p2))]) (Gh.start (Nat.le_of_ble_eq_true rfl)) (Nat.zero_le _) ?_
 refine sr ?_
 refine RS.q (u:=.ptr 0 0 0) (σ':=⟨[(0,.row (cGEdge p1) 42)],1⟩) rfl (q2v rfl rfl rfl) (RS.q (u:=.ptr 1 0 0) (σ':=⟨[(1,.row (cGEdge p2) 42),(0,.row (cGEdge p1) 42)],2⟩) rfl (q2v rfl rfl rfl) ?_)
 refine sd ?_
 obtain ⟨b8,h9,hF⟩:=q01 hF
 refine WPU.joinK (fun tm σ=>tm=fr 79 [(2,.ptr 0 0 0),(3,.ptr 1 0 0),(47,.bool b8)]∧σ=⟨[(1,.row (cGEdge p2) 42),(0,.row (cGEdge p1) 42)],2⟩) ?_ ?_
 rintro _ _ ⟨rfl,rfl⟩
 refine st ?_
 refine WPU.condS (t:=b8) rfl (fun h10=>?_) (fun h10=>?_)
 replace hF:=q09 h10 hF
 refine sr ?_
 refine sd ?_
 refine WPU.ret ?_
 refine st ?_
 have hr:=Option.some.inj hF
 subst hr
 exact ⟨.inr rfl,[.bool false],q0t rfl (q0q),.bool false,⟨[],0⟩,Nat.le_refl _,Gh.toR (.bool false) rfl,rfl,BU.h⟩
 replace hF:=q08 h10 hF
 refine st ?_
 refine WPU.skip ?_
 refine sr ?_
 refine sd ?_
 refine WPU.ghost (tm':=fr 79 [(2,.ptr 0 0 0),(3,.ptr 1 0 0),(5,.int .i64 0)]) (Gh.sub ⟨rfl,rfl,rfl,trivial⟩) (Nat.zero_le _) ?_
 refine WPU.loopK (fun m tm σ=>∃ z36:Int,q2y p1 p2 n m z36=some r∧tm=fr 79 [(2,.ptr 0 0 0),(3,.ptr 1 0 0),(5,.int .i64 z36)]∧σ=⟨[(1,.row (cGEdge p2) 42),(0,.row (cGEdge p1) 42)],2⟩) (fun tm σ=>q4c p1 p2 n=some r∧tm=fr 79 [(2,.ptr 0 0 0),(3,.ptr 1 0 0)]∧σ=⟨[(1,.row (cGEdge p2) 42),(0,.row (cGEdge p1) 42)],2⟩) n ⟨0,hF,rfl,rfl⟩ ?_ ?_
 rintro _ _ ⟨hF,rfl,rfl⟩
 unfold q4c at hF
 refine st ?_
 obtain ⟨b42,h43,hF⟩:=q01 hF
 refine WPU.joinK (fun tm σ=>tm=fr 79 [(4,.bool b42)]∧σ=⟨[(1,.row (cGEdge p2) 42),(0,.row (cGEdge p1) 42)],2⟩) ?_ ?_
 rintro _ _ ⟨rfl,rfl⟩
 refine st ?_
 refine WPU.ret ?_
 refine st ?_
 have hr:=Option.some.inj hF
 subst hr
 exact ⟨.inr rfl,[.bool b42],q0t rfl (q0q),.bool b42,⟨[],0⟩,Nat.le_refl _,Gh.toR (.bool b42) rfl,rfl,BU.h⟩
 obtain ⟨r37,h38,h43⟩:=q01 h43
 rcases q0j (r37 == 0) with h39 | h39
 replace h43:=q09 h39 h43
 obtain ⟨r40,h41,h43⟩:=q01 h43
 replace h43:=Option.some.inj h43
 subst h43
 refine sr ?_
 refine RS.q (u:=.ptr 0 0 6) rfl (q06 und42 rfl (q00 inf37) rfl rfl rfl) (RS.q (u:=.agg (xGDeriv p1.Lex)) rfl (q0f und37 rfl (q00 inf37) rfl rfl rfl) (RS.q (u:=.ptr 1 0 6) rfl (q06 und42 rfl (q00 inf37) rfl rfl rfl) (RS.q (u:=.agg (xGDeriv p2.Lex)) rfl (q0f und37 rfl (q00 inf37) rfl rfl rfl) (RS.call (u:=.int .i64 r37) (args:=[.agg (xGDeriv p1.Lex),.agg (xGDeriv p2.Lex)]) rfl (q0b rfl rfl fn21 hb21 rfl rfl) (q82 n p1.Lex p2.Lex r37 h38 _) rfl rfl (RS.q rfl (q02 rfl rfl (q0e _ _ _) rfl) (RS.mv rfl rfl rfl rfl (RS.op (u:=.ptr 0 0 11) (want1 rfl rfl rfl h39) (q06 und42 rfl (q00 inf40) rfl rfl rfl) rfl rfl ?_)))))))
 refine RS.op (u:=.agg [.isl false (List.map cGNode p1.FS.Nodes)]) (want1 rfl rfl rfl h39) (q0f und40 rfl (q00 inf40) rfl rfl rfl) rfl rfl (RS.op (u:=.ptr 1 0 11) (want1 rfl rfl rfl h39) (q06 und42 rfl (q00 inf40) rfl rfl rfl) rfl rfl (RS.op (u:=.agg [.isl false (List.map cGNode p2.FS.Nodes)]) (want1 rfl rfl rfl h39) (q0f und40 rfl (q00 inf40) rfl rfl rfl) rfl rfl (RS.call (u:=.bool r40) (args:=[.agg [.isl false (List.map cGNode p1.FS.Nodes)],.agg [.isl false (List.map cGNode p2.FS.Nodes)]]) (want1 rfl rfl rfl h39) (q0b rfl rfl fn28 hb28 rfl rfl) (qcg n p1.FS p2.FS r40 h41 _) rfl rfl (RS.q (u:=.bool r40) rfl (q04 rfl h39 rfl) ?_))))
 refine sd ?_
 exact ⟨_,_,⟨rfl,rfl⟩,(Nat.zero_le _),Gh.toC (n1:=2) ⟨rfl,trivial⟩ rfl (Nat.zero_le _) (by simp)⟩
 replace h43:=q08 h39 h43
 replace h43:=Option.some.inj h43
 subst h43
 refine sr ?_
 refine RS.q (u:=.ptr 0 0 6) rfl (q06 und42 rfl (q00 inf37) rfl rfl rfl) (RS.q (u:=.agg (xGDeriv p1.Lex)) rfl (q0f und37 rfl (q00 inf37) rfl rfl rfl) (RS.q (u:=.ptr 1 0 6) rfl (q06 und42 rfl (q00 inf37) rfl rfl rfl) (RS.q (u:=.agg (xGDeriv p2.Lex)) rfl (q0f und37 rfl (q00 inf37) rfl rfl rfl) (RS.call (u:=.int .i64 r37) (args:=[.agg (xGDeriv p1.Lex),.agg (xGDeriv p2.Lex)]) rfl (q0b rfl rfl fn21 hb21 rfl rfl) (q82 n p1.Lex p2.Lex r37 h38 _) rfl rfl (RS.q rfl (q02 rfl rfl (q0e _ _ _) rfl) (RS.mv rfl rfl rfl rfl ?_))))))
 repeat refine RS.no (want0 rfl rfl rfl h39) rfl rfl ?_
 refine RS.q (u:=.bool false) rfl (q03 rfl h39 rfl) ?_
 refine sd ?_
 exact ⟨_,_,⟨rfl,rfl⟩,(Nat.zero_le _),Gh.toC (n1:=2) ⟨rfl,trivial⟩ rfl (Nat.zero_le _) (by simp)⟩
 rintro m1 _ _ ⟨z36,hF,rfl,rfl⟩
 rcases m1 with _ | m1
 cases hF
 unfold q2y at hF
 refine sr ?_
 refine RS.q (u:=.ptr 0 0 5) rfl (q06 und42 rfl (q00 inf34) rfl rfl rfl) (RS.q (u:=.isl false (List.map (cI .i64) p1.Kids)) rfl (q05 und34 rfl rfl rfl rfl) (RS.q rfl (q0i rfl rfl rfl (q0d (cI .i64) und34)) (RS.q rfl (q02 rfl rfl (q1i _ _ _) rfl) ?_)))
 refine sd ?_
 refine WPU.condS (t:=(decide (z36<(p1.Kids.length:Int)))) rfl (fun h44=>?_) (fun h44=>?_)
 replace hF:=q09 h44 hF
 refine st ?_
 refine WPU.skip ?_
 refine st ?_
 refine WPU.block ?_
 refine st ?_
 obtain ⟨x45,h46,hF⟩:=q01 hF
 obtain ⟨x47,h48,hF⟩:=q01 hF
 refine WPU.drawE Try.tb_ok [] (by kernel_rfl) ?_
 refine RD.q (u:=.ptr 0 0 5) rfl (q06 und42 rfl (q00 inf34) rfl rfl rfl) (RD.q (u:=.isl false (List.map (cI .i64) p1.Kids)) rfl (q05 und34 rfl rfl rfl rfl) (RD.mv rfl rfl rfl rfl (RD.q (u:=.iptr [.int .i64 x45]) rfl (q13 rfl rfl (q0n (cI .i64) und34 (q00 inf3) (q27 .i64) h46 rfl)) (RD.q (u:=.int .i64 x45) rfl (q1c und3 rfl rfl rfl) (RD.q (u:=.ptr 1 0 5) rfl (q06 und42 rfl (q00 inf34) rfl rfl rfl) (RD.q (u:=.isl false (List.map (cI .i64) p2.Kids)) rfl (q05 und34 rfl rfl rfl rfl) (RD.mv rfl rfl rfl rfl ?_)))))))
 refine RD.q (u:=.iptr [.int .i64 x47]) rfl (q13 rfl rfl (q0n (cI .i64) und34 (q00 inf3) (q27 .i64) h48 rfl)) (RD.q (u:=.int .i64 x47) rfl (q1c und3 rfl rfl rfl) (RD.q rfl (q02 rfl rfl (q0c _ _ _) rfl) ?_))
 refine RD.done ⟨by kernel_rfl,trivial,?_⟩
 refine st ?_
 refine WPU.condS (t:=(x45 != x47)) rfl (fun h49=>?_) (fun h49=>?_)
 replace hF:=q09 h49 hF
 refine sr ?_
 refine sd ?_
 refine WPU.ret ?_
 refine st ?_
 have hr:=Option.some.inj hF
 subst hr
 exact ⟨.inr rfl,[.bool false],q0t rfl (q0q),.bool false,⟨[],0⟩,Nat.le_refl _,Gh.toR (.bool false) rfl,rfl,BU.h⟩
 replace hF:=q08 h49 hF
 refine st ?_
 refine WPU.skip ?_
 refine sr ?_
 refine RS.q rfl (q02 rfl rfl (q32 _ _ _) rfl) ?_
 refine sd ?_
 exact ⟨m1,_,_,Nat.lt_succ_self _,⟨(IntKind.i64.wrap (z36+1)),hF,rfl,rfl⟩,(Nat.zero_le _),Gh.toC (n1:=2) ⟨rfl,rfl,rfl,trivial⟩ rfl (Nat.zero_le _) (by simp)⟩
 replace hF:=q08 h44 hF
 refine st ?_
 refine WPU.exit ?_
 refine st ?_
 exact ⟨_,_,⟨hF,rfl,rfl⟩,(Nat.zero_le _),Gh.toC (n1:=2) ⟨rfl,rfl,trivial⟩ rfl (Nat.zero_le _) (by simp)⟩
 rcases q0j (p1.From != p2.From) with h3 | h3
 replace h9:=q09 h3 h9
 replace h9:=Option.some.inj h9
 subst h9
 refine sr ?_
 refine RS.q (u:=.ptr 0 0 0) rfl (q06 und42 rfl (q00 inf3) rfl rfl rfl) (RS.q (u:=.int .i64 p1.From) rfl (q05 und3 rfl rfl rfl rfl) (RS.q (u:=.ptr 1 0 0) rfl (q06 und42 rfl (q00 inf3) rfl rfl rfl) (RS.q (u:=.int .i64 p2.From) rfl (q05 und3 rfl rfl rfl rfl) (RS.q rfl (q02 rfl rfl (q0c _ _ _) rfl) (RS.mv rfl rfl rfl rfl ?_)))))
 repeat refine RS.no (want0 rfl rfl rfl h3) rfl rfl ?_
 refine RS.q (u:=.bool true) rfl (q04 rfl h3 rfl) (RS.mv rfl rfl rfl rfl ?_)
 repeat refine RS.no (want0 rfl rfl rfl rfl) rfl rfl ?_
 refine RS.q (u:=.bool true) rfl (q04 rfl rfl rfl) (RS.mv rfl rfl rfl rfl ?_)
 repeat refine RS.no (want0 rfl rfl rfl rfl) rfl rfl ?_
 refine RS.q (u:=.bool true) rfl (q04 rfl rfl rfl) (RS.mv rfl rfl rfl rfl ?_)
 repeat refine RS.no (want0 rfl rfl rfl rfl) rfl rfl ?_
 refine RS.q (u:=.bool true) rfl (q04 rfl rfl rfl) (RS.mv rfl rfl rfl rfl ?_)
 repeat refine RS.no (want0 rfl rfl rfl rfl) rfl rfl ?_
 refine RS.q (u:=.bool true) rfl (q04 rfl rfl rfl) ?_
 refine sd ?_
 exact ⟨_,_,⟨rfl,rfl⟩,(Nat.zero_le _),Gh.toC (n1:=2) ⟨rfl,rfl,rfl,trivial⟩ rfl (Nat.zero_le _) (by simp)⟩
 replace h9:=q08 h3 h9
 rcases q0j (p1.To != p2.To) with h4 | h4
 replace h9:=q09 h4 h9
 replace h9:=Option.some.inj h9
 subst h9
 refine sr ?_
 refine RS.q (u:=.ptr 0 0 0) rfl (q06 und42 rfl (q00 inf3) rfl rfl rfl) (RS.q (u:=.int .i64 p1.From) rfl (q05 und3 rfl rfl rfl rfl) (RS.q (u:=.ptr 1 0 0) rfl (q06 und42 rfl (q00 inf3) rfl rfl rfl) (RS.q (u:=.int .i64 p2.From) rfl (q05 und3 rfl rfl rfl rfl) (RS.q rfl (q02 rfl rfl (q0c _ _ _) rfl) (RS.mv rfl rfl rfl rfl (RS.op (u:=.ptr 0 0 1) (want1 rfl rfl rfl h3) (q06 und42 rfl (q00 inf3) rfl rfl rfl) rfl rfl (RS.op (u:=.int .i64 p1.To) (want1 rfl rfl rfl h3) (q05 und3 rfl rfl rfl rfl) rfl rfl ?_)))))))
 refine RS.op (u:=.ptr 1 0 1) (want1 rfl rfl rfl h3) (q06 und42 rfl (q00 inf3) rfl rfl rfl) rfl rfl (RS.op (u:=.int .i64 p2.To) (want1 rfl rfl rfl h3) (q05 und3 rfl rfl rfl rfl) rfl rfl (RS.op (want1 rfl rfl rfl h3) (q02 rfl rfl (q0c _ _ _) rfl) rfl rfl (RS.q (u:=.bool (p1.To != p2.To)) rfl (q03 rfl h3 rfl) (RS.mv rfl rfl rfl rfl ?_))))
 repeat refine RS.no (want0 rfl rfl rfl h4) rfl rfl ?_
 refine RS.q (u:=.bool true) rfl (q04 rfl h4 rfl) (RS.mv rfl rfl rfl rfl ?_)
 repeat refine RS.no (want0 rfl rfl rfl rfl) rfl rfl ?_
 refine RS.q (u:=.bool true) rfl (q04 rfl rfl rfl) (RS.mv rfl rfl rfl rfl ?_)
 repeat refine RS.no (want0 rfl rfl rfl rfl) rfl rfl ?_
 refine RS.q (u:=.bool true) rfl (q04 rfl rfl rfl) (RS.mv rfl rfl rfl rfl ?_)
 repeat refine RS.no (want0 rfl rfl rfl rfl) rfl rfl ?_
 refine RS.q (u:=.bool true) rfl (q04 rfl rfl rfl) ?_
 refine sd ?_
 exact ⟨_,_,⟨rfl,rfl⟩,(Nat.zero_le _),Gh.toC (n1:=2) ⟨rfl,rfl,rfl,trivial⟩ rfl (Nat.zero_le _) (by simp)⟩
 replace h9:=q08 h4 h9
 rcases q0j (p1.Unary != p2.Unary) with h5 | h5
 replace h9:=q09 h5 h9
 replace h9:=Option.some.inj h9
 subst h9
 refine sr ?_
 refine RS.q (u:=.ptr 0 0 0) rfl (q06 und42 rfl (q00 inf3) rfl rfl rfl) (RS.q (u:=.int .i64 p1.From) rfl (q05 und3 rfl rfl rfl rfl) (RS.q (u:=.ptr 1 0 0) rfl (q06 und42 rfl (q00 inf3) rfl rfl rfl) (RS.q (u:=.int .i64 p2.From) rfl (q05 und3 rfl rfl rfl rfl) (RS.q rfl (q02 rfl rfl (q0c _ _ _) rfl) (RS.mv rfl rfl rfl rfl (RS.op (u:=.ptr 0 0 1) (want1 rfl rfl rfl h3) (q06 und42 rfl (q00 inf3) rfl rfl rfl) rfl rfl (RS.op (u:=.int .i64 p1.To) (want1 rfl rfl rfl h3) (q05 und3 rfl rfl rfl rfl) rfl rfl ?_)))))))
 refine RS.op (u:=.ptr 1 0 1) (want1 rfl rfl rfl h3) (q06 und42 rfl (q00 inf3) rfl rfl rfl) rfl rfl (RS.op (u:=.int .i64 p2.To) (want1 rfl rfl rfl h3) (q05 und3 rfl rfl rfl rfl) rfl rfl (RS.op (want1 rfl rfl rfl h3) (q02 rfl rfl (q0c _ _ _) rfl) rfl rfl (RS.q (u:=.bool (p1.To != p2.To)) rfl (q03 rfl h3 rfl) (RS.mv rfl rfl rfl rfl (RS.op (u:=.ptr 0 0 2) (want1 rfl rfl rfl h4) (q06 und42 rfl (q00 inf3) rfl rfl rfl) rfl rfl (RS.op (u:=.int .i64 p1.Unary) (want1 rfl rfl rfl h4) (q05 und3 rfl rfl rfl rfl) rfl rfl (RS.op (u:=.ptr 1 0 2) (want1 rfl rfl rfl h4) (q06 und42 rfl (q00 inf3) rfl rfl rfl) rfl rfl ?_)))))))
 refine RS.op (u:=.int .i64 p2.Unary) (want1 rfl rfl rfl h4) (q05 und3 rfl rfl rfl rfl) rfl rfl (RS.op (want1 rfl rfl rfl h4) (q02 rfl rfl (q0c _ _ _) rfl) rfl rfl (RS.q (u:=.bool (p1.Unary != p2.Unary)) rfl (q03 rfl h4 rfl) (RS.mv rfl rfl rfl rfl ?_)))
 repeat refine RS.no (want0 rfl rfl rfl h5) rfl rfl ?_
 refine RS.q (u:=.bool true) rfl (q04 rfl h5 rfl) (RS.mv rfl rfl rfl rfl ?_)
 repeat refine RS.no (want0 rfl rfl rfl rfl) rfl rfl ?_
 refine RS.q (u:=.bool true) rfl (q04 rfl rfl rfl) (RS.mv rfl rfl rfl rfl ?_)
 repeat refine RS.no (want0 rfl rfl rfl rfl) rfl rfl ?_
 refine RS.q (u:=.bool true) rfl (q04 rfl rfl rfl) ?_
 refine sd ?_
 exact ⟨_,_,⟨rfl,rfl⟩,(Nat.zero_le _),Gh.toC (n1:=2) ⟨rfl,rfl,rfl,trivial⟩ rfl (Nat.zero_le _) (by simp)⟩
 replace h9:=q08 h5 h9
 rcases q0j (p1.Kind != p2.Kind) with h6 | h6
 replace h9:=q09 h6 h9
 replace h9:=Option.some.inj h9
 subst h9
 refine sr ?_
 refine RS.q (u:=.ptr 0 0 0) rfl (q06 und42 rfl (q00 inf3) rfl rfl rfl) (RS.q (u:=.int .i64 p1.From) rfl (q05 und3 rfl rfl rfl rfl) (RS.q (u:=.ptr 1 0 0) rfl (q06 und42 rfl (q00 inf3) rfl rfl rfl) (RS.q (u:=.int .i64 p2.From) rfl (q05 und3 rfl rfl rfl rfl) (RS.q rfl (q02 rfl rfl (q0c _ _ _) rfl) (RS.mv rfl rfl rfl rfl (RS.op (u:=.ptr 0 0 1) (want1 rfl rfl rfl h3) (q06 und42 rfl (q00 inf3) rfl rfl rfl) rfl rfl (RS.op (u:=.int .i64 p1.To) (want1 rfl rfl rfl h3) (q05 und3 rfl rfl rfl rfl) rfl rfl ?_)))))))
 refine RS.op (u:=.ptr 1 0 1) (want1 rfl rfl rfl h3) (q06 und42 rfl (q00 inf3) rfl rfl rfl) rfl rfl (RS.op (u:=.int .i64 p2.To) (want1 rfl rfl rfl h3) (q05 und3 rfl rfl rfl rfl) rfl rfl (RS.op (want1 rfl rfl rfl h3) (q02 rfl rfl (q0c _ _ _) rfl) rfl rfl (RS.q (u:=.bool (p1.To != p2.To)) rfl (q03 rfl h3 rfl) (RS.mv rfl rfl rfl rfl (RS.op (u:=.ptr 0 0 2) (want1 rfl rfl rfl h4) (q06 und42 rfl (q00 inf3) rfl rfl rfl) rfl rfl (RS.op (u:=.int .i64 p1.Unary) (want1 rfl rfl rfl h4) (q05 und3 rfl rfl rfl rfl) rfl rfl (RS.op (u:=.ptr 1 0 2) (want1 rfl rfl rfl h4) (q06 und42 rfl (q00 inf3) rfl rfl rfl) rfl rfl ?_)))))))
 refine RS.op (u:=.int .i64 p2.Unary) (want1 rfl rfl rfl h4) (q05 und3 rfl rfl rfl rfl) rfl rfl (RS.op (want1 rfl rfl rfl h4) (q02 rfl rfl (q0c _ _ _) rfl) rfl rfl (RS.q (u:=.bool (p1.Unary != p2.Unary)) rfl (q03 rfl h4 rfl) (RS.mv rfl rfl rfl rfl (RS.op (u:=.ptr 0 0 3) (want1 rfl rfl rfl h5) (q06 und42 rfl (q00 inf3) rfl rfl rfl) rfl rfl (RS.op (u:=.int .i64 p1.Kind) (want1 rfl rfl rfl h5) (q05 und3 rfl rfl rfl rfl) rfl rfl (RS.op (u:=.ptr 1 0 3) (want1 rfl rfl rfl h5) (q06 und42 rfl (q00 inf3) rfl rfl rfl) rfl rfl (RS.op (u:=.int .i64 p2.Kind) (want1 rfl rfl rfl h5) (q05 und3 rfl rfl rfl rfl) rfl rfl ?_)))))))
 refine RS.op (want1 rfl rfl rfl h5) (q02 rfl rfl (q0c _ _ _) rfl) rfl rfl (RS.q (u:=.bool (p1.Kind != p2.Kind)) rfl (q03 rfl h5 rfl) (RS.mv rfl rfl rfl rfl ?_))
 repeat refine RS.no (want0 rfl rfl rfl h6) rfl rfl ?_
 refine RS.q (u:=.bool true) rfl (q04 rfl h6 rfl) (RS.mv rfl rfl rfl rfl ?_)
 repeat refine RS.no (want0 rfl rfl rfl rfl) rfl rfl ?_
 refine RS.q (u:=.bool true) rfl (q04 rfl rfl rfl) ?_
 refine sd ?_
 exact ⟨_,_,⟨rfl,rfl⟩,(Nat.zero_le _),Gh.toC (n1:=2) ⟨rfl,rfl,rfl,trivial⟩ rfl (Nat.zero_le _) (by simp)⟩
 replace h9:=q08 h6 h9
 rcases q0j (!bytesEq p1.Name p2.Name) with h7 | h7
 replace h9:=q09 h7 h9
 replace h9:=Option.some.inj h9
 subst h9
 refine sr ?_
 refine RS.q (u:=.ptr 0 0 0) rfl (q06 und42 rfl (q00 inf3) rfl rfl rfl) (RS.q (u:=.int .i64 p1.From) rfl (q05 und3 rfl rfl rfl rfl) (RS.q (u:=.ptr 1 0 0) rfl (q06 und42 rfl (q00 inf3) rfl rfl rfl) (RS.q (u:=.int .i64 p2.From) rfl (q05 und3 rfl rfl rfl rfl) (RS.q rfl (q02 rfl rfl (q0c _ _ _) rfl) (RS.mv rfl rfl rfl rfl (RS.op (u:=.ptr 0 0 1) (want1 rfl rfl rfl h3) (q06 und42 rfl (q00 inf3) rfl rfl rfl) rfl rfl (RS.op (u:=.int .i64 p1.To) (want1 rfl rfl rfl h3) (q05 und3 rfl rfl rfl rfl) rfl rfl ?_)))))))
 refine RS.op (u:=.ptr 1 0 1) (want1 rfl rfl rfl h3) (q06 und42 rfl (q00 inf3) rfl rfl rfl) rfl rfl (RS.op (u:=.int .i64 p2.To) (want1 rfl rfl rfl h3) (q05 und3 rfl rfl rfl rfl) rfl rfl (RS.op (want1 rfl rfl rfl h3) (q02 rfl rfl (q0c _ _ _) rfl) rfl rfl (RS.q (u:=.bool (p1.To != p2.To)) rfl (q03 rfl h3 rfl) (RS.mv rfl rfl rfl rfl (RS.op (u:=.ptr 0 0 2) (want1 rfl rfl rfl h4) (q06 und42 rfl (q00 inf3) rfl rfl rfl) rfl rfl (RS.op (u:=.int .i64 p1.Unary) (want1 rfl rfl rfl h4) (q05 und3 rfl rfl rfl rfl) rfl rfl (RS.op (u:=.ptr 1 0 2) (want1 rfl rfl rfl h4) (q06 und42 rfl (q00 inf3) rfl rfl rfl) rfl rfl ?_)))))))
 refine RS.op (u:=.int .i64 p2.Unary) (want1 rfl rfl rfl h4) (q05 und3 rfl rfl rfl rfl) rfl rfl (RS.op (want1 rfl rfl rfl h4) (q02 rfl rfl (q0c _ _ _) rfl) rfl rfl (RS.q (u:=.bool (p1.Unary != p2.Unary)) rfl (q03 rfl h4 rfl) (RS.mv rfl rfl rfl rfl (RS.op (u:=.ptr 0 0 3) (want1 rfl rfl rfl h5) (q06 und42 rfl (q00 inf3) rfl rfl rfl) rfl rfl (RS.op (u:=.int .i64 p1.Kind) (want1 rfl rfl rfl h5) (q05 und3 rfl rfl rfl rfl) rfl rfl (RS.op (u:=.ptr 1 0 3) (want1 rfl rfl rfl h5) (q06 und42 rfl (q00 inf3) rfl rfl rfl) rfl rfl (RS.op (u:=.int .i64 p2.Kind) (want1 rfl rfl rfl h5) (q05 und3 rfl rfl rfl rfl) rfl rfl ?_)))))))
 refine RS.op (want1 rfl rfl rfl h5) (q02 rfl rfl (q0c _ _ _) rfl) rfl rfl (RS.q (u:=.bool (p1.Kind != p2.Kind)) rfl (q03 rfl h5 rfl) (RS.mv rfl rfl rfl rfl (RS.op (u:=.ptr 0 0 4) (want1 rfl rfl rfl h6) (q06 und42 rfl (q00 inf9) rfl rfl rfl) rfl rfl (RS.op (u:=.str p1.Name) (want1 rfl rfl rfl h6) (q05 und9 rfl rfl rfl rfl) rfl rfl (RS.op (u:=.ptr 1 0 4) (want1 rfl rfl rfl h6) (q06 und42 rfl (q00 inf9) rfl rfl rfl) rfl rfl (RS.op (u:=.str p2.Name) (want1 rfl rfl rfl h6) (q05 und9 rfl rfl rfl rfl) rfl rfl (RS.op (u:=.bool (!bytesEq p1.Name p2.Name)) (want1 rfl rfl rfl h6) (q2w rfl rfl rfl rfl) rfl rfl ?_)))))))
 refine RS.q (u:=.bool (!bytesEq p1.Name p2.Name)) rfl (q03 rfl h6 rfl) (RS.mv rfl rfl rfl rfl ?_)
 repeat refine RS.no (want0 rfl rfl rfl h7) rfl rfl ?_
 refine RS.q (u:=.bool true) rfl (q04 rfl h7 rfl) ?_
 refine sd ?_
 exact ⟨_,_,⟨rfl,rfl⟩,(Nat.zero_le _),Gh.toC (n1:=2) ⟨rfl,rfl,rfl,trivial⟩ rfl (Nat.zero_le _) (by simp)⟩
 replace h9:=q08 h7 h9
 replace h9:=Option.some.inj h9
 subst h9
 refine sr ?_
 refine RS.q (u:=.ptr 0 0 0) rfl (q06 und42 rfl (q00 inf3) rfl rfl rfl) (RS.q (u:=.int .i64 p1.From) rfl (q05 und3 rfl rfl rfl rfl) (RS.q (u:=.ptr 1 0 0) rfl (q06 und42 rfl (q00 inf3) rfl rfl rfl) (RS.q (u:=.int .i64 p2.From) rfl (q05 und3 rfl rfl rfl rfl) (RS.q rfl (q02 rfl rfl (q0c _ _ _) rfl) (RS.mv rfl rfl rfl rfl (RS.op (u:=.ptr 0 0 1) (want1 rfl rfl rfl h3) (q06 und42 rfl (q00 inf3) rfl rfl rfl) rfl rfl (RS.op (u:=.int .i64 p1.To) (want1 rfl rfl rfl h3) (q05 und3 rfl rfl rfl rfl) rfl rfl ?_)))))))
 refine RS.op (u:=.ptr 1 0 1) (want1 rfl rfl rfl h3) (q06 und42 rfl (q00 inf3) rfl rfl rfl) rfl rfl (RS.op (u:=.int .i64 p2.To) (want1 rfl rfl rfl h3) (q05 und3 rfl rfl rfl rfl) rfl rfl (RS.op (want1 rfl rfl rfl h3) (q02 rfl rfl (q0c _ _ _) rfl) rfl rfl (RS.q (u:=.bool (p1.To != p2.To)) rfl (q03 rfl h3 rfl) (RS.mv rfl rfl rfl rfl (RS.op (u:=.ptr 0 0 2) (want1 rfl rfl rfl h4) (q06 und42 rfl (q00 inf3) rfl rfl rfl) rfl rfl (RS.op (u:=.int .i64 p1.Unary) (want1 rfl rfl rfl h4) (q05 und3 rfl rfl rfl rfl) rfl rfl (RS.op (u:=.ptr 1 0 2) (want1 rfl rfl rfl h4) (q06 und42 rfl (q00 inf3) rfl rfl rfl) rfl rfl ?_)))))))
 refine RS.op (u:=.int .i64 p2.Unary) (want1 rfl rfl rfl h4) (q05 und3 rfl rfl rfl rfl) rfl rfl (RS.op (want1 rfl rfl rfl h4) (q02 rfl rfl (q0c _ _ _) rfl) rfl rfl (RS.q (u:=.bool (p1.Unary != p2.Unary)) rfl (q03 rfl h4 rfl) (RS.mv rfl rfl rfl rfl (RS.op (u:=.ptr 0 0 3) (want1 rfl rfl rfl h5) (q06 und42 rfl (q00 inf3) rfl rfl rfl) rfl rfl (RS.op (u:=.int .i64 p1.Kind) (want1 rfl rfl rfl h5) (q05 und3 rfl rfl rfl rfl) rfl rfl (RS.op (u:=.ptr 1 0 3) (want1 rfl rfl rfl h5) (q06 und42 rfl (q00 inf3) rfl rfl rfl) rfl rfl (RS.op (u:=.int .i64 p2.Kind) (want1 rfl rfl rfl h5) (q05 und3 rfl rfl rfl rfl) rfl rfl ?_)))))))
 refine RS.op (want1 rfl rfl rfl h5) (q02 rfl rfl (q0c _ _ _) rfl) rfl rfl (RS.q (u:=.bool (p1.Kind != p2.Kind)) rfl (q03 rfl h5 rfl) (RS.mv rfl rfl rfl rfl (RS.op (u:=.ptr 0 0 4) (want1 rfl rfl rfl h6) (q06 und42 rfl (q00 inf9) rfl rfl rfl) rfl rfl (RS.op (u:=.str p1.Name) (want1 rfl rfl rfl h6) (q05 und9 rfl rfl rfl rfl) rfl rfl (RS.op (u:=.ptr 1 0 4) (want1 rfl rfl rfl h6) (q06 und42 rfl (q00 inf9) rfl rfl rfl) rfl rfl (RS.op (u:=.str p2.Name) (want1 rfl rfl rfl h6) (q05 und9 rfl rfl rfl rfl) rfl rfl (RS.op (u:=.bool (!bytesEq p1.Name p2.Name)) (want1 rfl rfl rfl h6) (q2w rfl rfl rfl rfl) rfl rfl ?_)))))))
 refine RS.q (u:=.bool (!bytesEq p1.Name p2.Name)) rfl (q03 rfl h6 rfl) (RS.mv rfl rfl rfl rfl (RS.op (u:=.ptr 0 0 5) (want1 rfl rfl rfl h7) (q06 und42 rfl (q00 inf34) rfl rfl rfl) rfl rfl (RS.op (u:=.isl false (List.map (cI .i64) p1.Kids)) (want1 rfl rfl rfl h7) (q05 und34 rfl rfl rfl rfl) rfl rfl (RS.op (want1 rfl rfl rfl h7) (q0i rfl rfl rfl (q0d (cI .i64) und34)) rfl rfl (RS.op (u:=.ptr 1 0 5) (want1 rfl rfl rfl h7) (q06 und42 rfl (q00 inf34) rfl rfl rfl) rfl rfl (RS.op (u:=.isl false (List.map (cI .i64) p2.Kids)) (want1 rfl rfl rfl h7) (q05 und34 rfl rfl rfl rfl) rfl rfl (RS.op (want1 rfl rfl rfl h7) (q0i rfl rfl rfl (q0d (cI .i64) und34)) rfl rfl ?_)))))))
 refine RS.op (want1 rfl rfl rfl h7) (q02 rfl rfl (q0c _ _ _) rfl) rfl rfl (RS.q (u:=.bool ((p1.Kids.length:Int) != (p2.Kids.length:Int))) rfl (q03 rfl h7 rfl) ?_)
 refine sd ?_
 exact ⟨_,_,⟨rfl,rfl⟩,(Nat.zero_le _),Gh.toC (n1:=2) ⟨rfl,rfl,rfl,trivial⟩ rfl (Nat.zero_le _) (by simp)⟩
theorem qao (n:Nat) (p1:GEdge) (p2:GEdge) (r:Bool) (hF:q3v n p1 p2=some r) (σ:Sg):EvU Try.prog 30 [.agg (cGEdge p1),.agg (cGEdge p2)] σ (fun u σ'=>u = .bool r∧σ'=σ) :=
 EvU.pure1C (qba n p1 p2 r hF) σ
def q6g   : Option (Bool) :=
 some true
def q4d (p1:GChart) (p2:GChart) (n:Nat):Nat→Int→Option (Bool)
 | 0,_=>none
 | m1+1,z12 =>
  cond (decide (z12<(p1.Edges.length:Int)))
   (bindO (idxO p1.Edges z12) fun x14 =>
   bindO (idxO p2.Edges z12) fun x16 =>
   bindO (q3v n x14 x16) fun r18 =>
   cond (!r18)
    (some false)
    ((q4d p1 p2 n m1) (IntKind.i64.wrap (z12+1))))
   (q6g)
def q5n (n:Nat) (p1:GChart) (p2:GChart):Option (Bool) :=
 bindO (cond (p1.Words != p2.Words)
  (some true)
  (some ((p1.Edges.length:Int) != (p2.Edges.length:Int)))) fun b4 =>
 cond b4
  (some false)
  (q4d p1 p2 n n 0)
theorem ref32_Same_0 (n:Nat) (p1:GChart) (p2:GChart) (r:Bool) (hF:q5n n p1 p2=some r):EvU Try.prog 11 [.agg (cGChart p1),.agg (cGChart p2)] ⟨[],0⟩ (fun u _=>u = .bool r∧Bel 0 u):=by
 unfold q5n at hF
 refine EvU.of_body Try.tb_ok fn11 rfl ?_
 refine WPU.ghost (tm':=fr 39 [(0,.agg (cGChart p1)),(1,.agg (cGChart p2))]) (Gh.start (Nat.le_of_ble_eq_true rfl)) (Nat.zero_le _) ?_
 refine sr ?_
 refine RS.q (u:=.ptr 0 0 0) (σ':=⟨[(0,.row (cGChart p1) 24)],1⟩) rfl (q2v rfl rfl rfl) (RS.q (u:=.ptr 1 0 0) (σ':=⟨[(1,.row (cGChart p2) 24),(0,.row (cGChart p1) 24)],2⟩) rfl (q2v rfl rfl rfl) ?_)
 refine sd ?_
 obtain ⟨b4,h5,hF⟩:=q01 hF
 refine WPU.joinK (fun tm σ=>tm=fr 39 [(2,.ptr 0 0 0),(3,.ptr 1 0 0),(19,.bool b4)]∧σ=⟨[(1,.row (cGChart p2) 24),(0,.row (cGChart p1) 24)],2⟩) ?_ ?_
 rintro _ _ ⟨rfl,rfl⟩
 refine st ?_
 refine WPU.condS (t:=b4) rfl (fun h6=>?_) (fun h6=>?_)
 replace hF:=q09 h6 hF
 refine sr ?_
 refine sd ?_
 refine WPU.ret ?_
 refine st ?_
 have hr:=Option.some.inj hF
 subst hr
 exact ⟨.inr rfl,[.bool false],q0t rfl (q0q),.bool false,⟨[],0⟩,Nat.le_refl _,Gh.toR (.bool false) rfl,rfl,BU.h⟩
 replace hF:=q08 h6 hF
 refine st ?_
 refine WPU.skip ?_
 refine sr ?_
 refine sd ?_
 refine WPU.ghost (tm':=fr 39 [(2,.ptr 0 0 0),(3,.ptr 1 0 0),(5,.int .i64 0)]) (Gh.sub ⟨rfl,rfl,rfl,trivial⟩) (Nat.zero_le _) ?_
 refine WPU.loopK (fun m tm σ=>∃ z12:Int,q4d p1 p2 n m z12=some r∧tm=fr 39 [(2,.ptr 0 0 0),(3,.ptr 1 0 0),(5,.int .i64 z12)]∧σ=⟨[(1,.row (cGChart p2) 24),(0,.row (cGChart p1) 24)],2⟩) (fun tm σ=>q6g=some r∧tm=fr 39 []∧σ=⟨[(1,.row (cGChart p2) 24),(0,.row (cGChart p1) 24)],2⟩) n ⟨0,hF,rfl,rfl⟩ ?_ ?_
 rintro _ _ ⟨hF,rfl,rfl⟩
 unfold q6g at hF
 refine sr ?_
 refine sd ?_
 refine WPU.ret ?_
 refine st ?_
 have hr:=Option.some.inj hF
 subst hr
 exact ⟨.inr rfl,[.bool true],q0t rfl (q0q),.bool true,⟨[],0⟩,Nat.le_refl _,Gh.toR (.bool true) rfl,rfl,BU.h⟩
 rintro m1 _ _ ⟨z12,hF,rfl,rfl⟩
 rcases m1 with _ | m1
 cases hF
 unfold q4d at hF
 refine sr ?_
 refine RS.q (u:=.ptr 0 0 1) rfl (q06 und24 rfl (q00 inf22) rfl rfl rfl) (RS.q (u:=.isl false (List.map cGEdge p1.Edges)) rfl (q05 und22 rfl rfl rfl rfl) (RS.q rfl (q0i rfl rfl rfl (q0d cGEdge und22)) (RS.q rfl (q02 rfl rfl (q1i _ _ _) rfl) ?_)))
 refine sd ?_
 refine WPU.condS (t:=(decide (z12<(p1.Edges.length:Int)))) rfl (fun h13=>?_) (fun h13=>?_)
 replace hF:=q09 h13 hF
 refine st ?_
 refine WPU.skip ?_
 refine st ?_
 refine WPU.block ?_
 refine st ?_
 obtain ⟨x14,h15,hF⟩:=q01 hF
 obtain ⟨x16,h17,hF⟩:=q01 hF
 obtain ⟨r18,h19,hF⟩:=q01 hF
 refine WPU.drawE Try.tb_ok [] (by kernel_rfl) ?_
 refine RD.q (u:=.ptr 0 0 1) rfl (q06 und24 rfl (q00 inf22) rfl rfl rfl) (RD.q (u:=.isl false (List.map cGEdge p1.Edges)) rfl (q05 und22 rfl rfl rfl rfl) (RD.mv rfl rfl rfl rfl (RD.q (u:=.iptr (cGEdge x14)) rfl (q13 rfl rfl (q0n cGEdge und22 (q00 inf42) q0h h15 rfl)) (RD.q (u:=.agg (cGEdge x14)) rfl (q2u und42 rfl (q00 inf42) rfl rfl) (RD.q (u:=.ptr 1 0 1) rfl (q06 und24 rfl (q00 inf22) rfl rfl rfl) (RD.q (u:=.isl false (List.map cGEdge p2.Edges)) rfl (q05 und22 rfl rfl rfl rfl) (RD.mv rfl rfl rfl rfl ?_)))))))
 refine RD.q (u:=.iptr (cGEdge x16)) rfl (q13 rfl rfl (q0n cGEdge und22 (q00 inf42) q0h h17 rfl)) (RD.q (u:=.agg (cGEdge x16)) rfl (q2u und42 rfl (q00 inf42) rfl rfl) (RD.free (u:=.bool r18) (args:=[.agg (cGEdge x14),.agg (cGEdge x16)]) rfl (q0b rfl rfl fn30 hb30 rfl rfl) (fun s=>qao n x14 x16 r18 h19 s) rfl rfl (RD.q (u:=.bool (!r18)) rfl (op_un rfl rfl rfl rfl) ?_)))
 refine RD.done ⟨by kernel_rfl,trivial,?_⟩
 refine st ?_
 refine WPU.condS (t:=(!r18)) rfl (fun h20=>?_) (fun h20=>?_)
 replace hF:=q09 h20 hF
 refine sr ?_
 refine sd ?_
 refine WPU.ret ?_
 refine st ?_
 have hr:=Option.some.inj hF
 subst hr
 exact ⟨.inr rfl,[.bool false],q0t rfl (q0q),.bool false,⟨[],0⟩,Nat.le_refl _,Gh.toR (.bool false) rfl,rfl,BU.h⟩
 replace hF:=q08 h20 hF
 refine st ?_
 refine WPU.skip ?_
 refine sr ?_
 refine RS.q rfl (q02 rfl rfl (q32 _ _ _) rfl) ?_
 refine sd ?_
 exact ⟨m1,_,_,Nat.lt_succ_self _,⟨(IntKind.i64.wrap (z12+1)),hF,rfl,rfl⟩,(Nat.zero_le _),Gh.toC (n1:=2) ⟨rfl,rfl,rfl,trivial⟩ rfl (Nat.zero_le _) (by simp)⟩
 replace hF:=q08 h13 hF
 refine st ?_
 refine WPU.exit ?_
 refine st ?_
 exact ⟨_,_,⟨hF,rfl,rfl⟩,(Nat.zero_le _),Gh.toC (n1:=2) trivial rfl (Nat.zero_le _) (by simp)⟩
 rcases q0j (p1.Words != p2.Words) with h3 | h3
 replace h5:=q09 h3 h5
 replace h5:=Option.some.inj h5
 subst h5
 refine sr ?_
 refine RS.q (u:=.ptr 0 0 0) rfl (q06 und24 rfl (q00 inf3) rfl rfl rfl) (RS.q (u:=.int .i64 p1.Words) rfl (q05 und3 rfl rfl rfl rfl) (RS.q (u:=.ptr 1 0 0) rfl (q06 und24 rfl (q00 inf3) rfl rfl rfl) (RS.q (u:=.int .i64 p2.Words) rfl (q05 und3 rfl rfl rfl rfl) (RS.q rfl (q02 rfl rfl (q0c _ _ _) rfl) (RS.mv rfl rfl rfl rfl ?_)))))
 repeat refine RS.no (want0 rfl rfl rfl h3) rfl rfl ?_
 refine RS.q (u:=.bool true) rfl (q04 rfl h3 rfl) ?_
 refine sd ?_
 exact ⟨_,_,⟨rfl,rfl⟩,(Nat.zero_le _),Gh.toC (n1:=2) ⟨rfl,rfl,rfl,trivial⟩ rfl (Nat.zero_le _) (by simp)⟩
 replace h5:=q08 h3 h5
 replace h5:=Option.some.inj h5
 subst h5
 refine sr ?_
 refine RS.q (u:=.ptr 0 0 0) rfl (q06 und24 rfl (q00 inf3) rfl rfl rfl) (RS.q (u:=.int .i64 p1.Words) rfl (q05 und3 rfl rfl rfl rfl) (RS.q (u:=.ptr 1 0 0) rfl (q06 und24 rfl (q00 inf3) rfl rfl rfl) (RS.q (u:=.int .i64 p2.Words) rfl (q05 und3 rfl rfl rfl rfl) (RS.q rfl (q02 rfl rfl (q0c _ _ _) rfl) (RS.mv rfl rfl rfl rfl (RS.op (u:=.ptr 0 0 1) (want1 rfl rfl rfl h3) (q06 und24 rfl (q00 inf22) rfl rfl rfl) rfl rfl (RS.op (u:=.isl false (List.map cGEdge p1.Edges)) (want1 rfl rfl rfl h3) (q05 und22 rfl rfl rfl rfl) rfl rfl ?_)))))))
 refine RS.op (want1 rfl rfl rfl h3) (q0i rfl rfl rfl (q0d cGEdge und22)) rfl rfl (RS.op (u:=.ptr 1 0 1) (want1 rfl rfl rfl h3) (q06 und24 rfl (q00 inf22) rfl rfl rfl) rfl rfl (RS.op (u:=.isl false (List.map cGEdge p2.Edges)) (want1 rfl rfl rfl h3) (q05 und22 rfl rfl rfl rfl) rfl rfl (RS.op (want1 rfl rfl rfl h3) (q0i rfl rfl rfl (q0d cGEdge und22)) rfl rfl (RS.op (want1 rfl rfl rfl h3) (q02 rfl rfl (q0c _ _ _) rfl) rfl rfl (RS.q (u:=.bool ((p1.Edges.length:Int) != (p2.Edges.length:Int))) rfl (q03 rfl h3 rfl) ?_)))))
 refine sd ?_
 exact ⟨_,_,⟨rfl,rfl⟩,(Nat.zero_le _),Gh.toC (n1:=2) ⟨rfl,rfl,rfl,trivial⟩ rfl (Nat.zero_le _) (by simp)⟩
theorem q5d (n:Nat) (p1:GChart) (p2:GChart) (r:Bool) (hF:q5n n p1 p2=some r) (σ:Sg):EvU Try.prog 11 [.agg (cGChart p1),.agg (cGChart p2)] σ (fun u σ'=>u = .bool r∧σ'=σ) :=
 EvU.pure1C (ref32_Same_0 n p1 p2 r hF) σ
def q4k  (z13:Int):Option (Int) :=
 some z13
def q3w (p1:GDeriv) (p2:Int) (self:GDeriv→Int→Option (Int)):Nat→Int→Int→Option (Int)
 | 0,_,_=>none
 | m1+1,z11,z12 =>
  bindO (cond (decide (z12<(p1.Kids.length:Int)))
   (some (decide (z11<p2)))
   (some false)) fun b15 =>
  cond b15
   (bindO (idxO p1.Kids z12) fun x18 =>
   bindO (self x18 (IntKind.i64.wrap (p2 - z11))) fun r20 =>
   (q3w p1 p2 self m1) (IntKind.i64.wrap (z11+r20)) (IntKind.i64.wrap (z12+1)))
   (q4k z11)
def q7w (n:Nat) (self:GDeriv→Int→Option (Int)) (p1:GDeriv) (p2:Int):Option (Int) :=
 q3w p1 p2 self n 1 0
def q3c:Nat→GDeriv→Int→Option (Int)
 | 0,_,_=>none
 | n+1,p1,p2=>q7w n (q3c n) p1 p2
theorem q9x:∀ (n:Nat) (p1:GDeriv) (p2:Int) (r:Int),q3c n p1 p2=some r→EvU Try.prog 33 [.agg (xGDeriv p1),.int .i64 p2] ⟨[],0⟩ (fun u _=>u = .int .i64 r∧Bel 0 u)
 | 0,p1,p2,r,hF=>by cases hF
 | n+1,p1,p2,r,hF=>by
  have ih:=q9x n
  have ihS:∀ (p1:GDeriv) (p2:Int) (r:Int),q3c n p1 p2=some r→∀ σ,EvU Try.prog 33 [.agg (xGDeriv p1),.int .i64 p2] σ (fun u σ'=>u = .int .i64 r∧σ'=σ):=fun p1 p2 r h σ=>EvU.pure1C (ih p1 p2 r h) σ
  unfold q3c q7w at hF
  refine EvU.of_body Try.tb_ok fn33 rfl ?_
  refine WPU.ghost (tm':=fr 31 [(0,.agg (xGDeriv p1)),(1,.int .i64 p2)]) (Gh.start (Nat.le_of_ble_eq_true rfl)) (Nat.zero_le _) ?_
  refine sr ?_
  refine RS.q (u:=.ptr 0 0 0) (σ':=⟨[(0,.row (xGDeriv p1) 37)],1⟩) rfl (q2v rfl rfl rfl) ?_
  refine se ?_
  refine se ?_
  refine sd ?_
  refine WPU.ghost (tm':=fr 31 [(1,.int .i64 p2),(2,.ptr 0 0 0),(5,.int .i64 1),(6,.int .i64 0)]) (Gh.sub ⟨rfl,rfl,rfl,rfl,trivial⟩) (Nat.zero_le _) ?_
  refine WPU.loopK (fun m tm σ=>∃ z11:Int,∃ z12:Int,q3w p1 p2 (q3c n) m z11 z12=some r∧tm=fr 31 [(1,.int .i64 p2),(2,.ptr 0 0 0),(5,.int .i64 z11),(6,.int .i64 z12)]∧σ=⟨[(0,.row (xGDeriv p1) 37)],1⟩) (fun tm σ=>∃ z13:Int,q4k z13=some r∧tm=fr 31 [(5,.int .i64 z13)]∧σ=⟨[(0,.row (xGDeriv p1) 37)],1⟩) n ⟨1,0,hF,rfl,rfl⟩ ?_ ?_
  rintro _ _ ⟨z13,hF,rfl,rfl⟩
  unfold q4k at hF
  refine sr ?_
  refine sd ?_
  refine WPU.ret ?_
  refine st ?_
  have hr:=Option.some.inj hF
  subst hr
  exact ⟨.inr rfl,[.int .i64 z13],q0t rfl (q0q),.int .i64 z13,⟨[],0⟩,Nat.le_refl _,Gh.toR (.int .i64 z13) rfl,rfl,BU.h⟩
  rintro m1 _ _ ⟨z11,z12,hF,rfl,rfl⟩
  rcases m1 with _ | m1
  cases hF
  unfold q3w at hF
  refine st ?_
  obtain ⟨b15,h16,hF⟩:=q01 hF
  refine WPU.joinK (fun tm σ=>tm=fr 31 [(1,.int .i64 p2),(2,.ptr 0 0 0),(5,.int .i64 z11),(6,.int .i64 z12),(16,.bool b15)]∧σ=⟨[(0,.row (xGDeriv p1) 37)],1⟩) ?_ ?_
  rintro _ _ ⟨rfl,rfl⟩
  refine st ?_
  refine WPU.condS (t:=b15) rfl (fun h17=>?_) (fun h17=>?_)
  replace hF:=q09 h17 hF
  refine st ?_
  refine WPU.skip ?_
  refine st ?_
  refine WPU.block ?_
  refine st ?_
  obtain ⟨x18,h19,hF⟩:=q01 hF
  obtain ⟨r20,h21,hF⟩:=q01 hF
  refine sr ?_
  refine RS.q (u:=.ptr 0 0 4) rfl (q06 und37 rfl (q00 inf35) rfl rfl rfl) (RS.q (u:=.isl false (List.map cGDeriv p1.Kids)) rfl (q05 und35 rfl rfl rfl rfl) (RS.mv rfl rfl rfl rfl (RS.q (u:=.iptr (xGDeriv x18)) rfl (q13 rfl rfl (q0n cGDeriv und35 (q00 inf37) q0x h19 (q1f x18))) (RS.q (u:=.agg (xGDeriv x18)) rfl (q2u und37 rfl (q00 inf37) rfl rfl) ?_))))
  repeat refine RS.mv rfl rfl rfl rfl ?_
  refine RS.q rfl (q02 rfl rfl (ix_sub _ _ _) rfl) (RS.call (u:=.int .i64 r20) (args:=[.agg (xGDeriv x18),.int .i64 (IntKind.i64.wrap (p2 - z11))]) rfl (q0b rfl rfl fn33 hb33 rfl rfl) (ihS x18 (IntKind.i64.wrap (p2 - z11)) r20 h21 _) rfl rfl (RS.q rfl (q02 rfl rfl (q32 _ _ _) rfl) ?_))
  refine se ?_
  refine RS.q rfl (q02 rfl rfl (q32 _ _ _) rfl) ?_
  refine sd ?_
  exact ⟨m1,_,_,Nat.lt_succ_self _,⟨(IntKind.i64.wrap (z11+r20)),(IntKind.i64.wrap (z12+1)),hF,rfl,rfl⟩,(Nat.zero_le _),Gh.toC (n1:=1) ⟨rfl,rfl,rfl,rfl,trivial⟩ rfl (Nat.zero_le _) (by simp)⟩
  replace hF:=q08 h17 hF
  refine st ?_
  refine WPU.exit ?_
  refine st ?_
  exact ⟨_,_,⟨z11,hF,rfl,rfl⟩,(Nat.zero_le _),Gh.toC (n1:=1) ⟨rfl,trivial⟩ rfl (Nat.zero_le _) (by simp)⟩
  rcases q0j (decide (z12<(p1.Kids.length:Int))) with h14 | h14
  replace h16:=q09 h14 h16
  replace h16:=Option.some.inj h16
  subst h16
  refine sr ?_
  refine RS.q (u:=.ptr 0 0 4) rfl (q06 und37 rfl (q00 inf35) rfl rfl rfl) (RS.q (u:=.isl false (List.map cGDeriv p1.Kids)) rfl (q05 und35 rfl rfl rfl rfl) (RS.q rfl (q0i rfl rfl rfl (q0d cGDeriv und35)) (RS.q rfl (q02 rfl rfl (q1i _ _ _) rfl) (RS.mv rfl rfl rfl rfl (RS.op (want1 rfl rfl rfl h14) (q07 rfl) rfl rfl (RS.op (want1 rfl rfl rfl h14) (q07 rfl) rfl rfl (RS.op (want1 rfl rfl rfl h14) (q02 rfl rfl (q1i _ _ _) rfl) rfl rfl ?_)))))))
  refine RS.q (u:=.bool (decide (z11<p2))) rfl (q04 rfl h14 rfl) ?_
  refine sd ?_
  exact ⟨_,_,⟨rfl,rfl⟩,(Nat.zero_le _),Gh.toC (n1:=1) ⟨rfl,rfl,rfl,rfl,rfl,trivial⟩ rfl (Nat.zero_le _) (by simp)⟩
  replace h16:=q08 h14 h16
  replace h16:=Option.some.inj h16
  subst h16
  refine sr ?_
  refine RS.q (u:=.ptr 0 0 4) rfl (q06 und37 rfl (q00 inf35) rfl rfl rfl) (RS.q (u:=.isl false (List.map cGDeriv p1.Kids)) rfl (q05 und35 rfl rfl rfl rfl) (RS.q rfl (q0i rfl rfl rfl (q0d cGDeriv und35)) (RS.q rfl (q02 rfl rfl (q1i _ _ _) rfl) (RS.mv rfl rfl rfl rfl ?_))))
  repeat refine RS.no (want0 rfl rfl rfl h14) rfl rfl ?_
  refine RS.q (u:=.bool false) rfl (q03 rfl h14 rfl) ?_
  refine sd ?_
  exact ⟨_,_,⟨rfl,rfl⟩,(Nat.zero_le _),Gh.toC (n1:=1) ⟨rfl,rfl,rfl,rfl,rfl,trivial⟩ rfl (Nat.zero_le _) (by simp)⟩
theorem q7g (n:Nat) (p1:GDeriv) (p2:Int) (r:Int) (hF:q3c n p1 p2=some r) (σ:Sg):EvU Try.prog 33 [.agg (xGDeriv p1),.int .i64 p2] σ (fun u σ'=>u = .int .i64 r∧σ'=σ) :=
 EvU.pure1C (q9x n p1 p2 r hF) σ
def q5x (z6:Int) (rc1:Int→Option (Bool))  : Option (Bool) :=
 rc1 (IntKind.i64.wrap (z6+1))
def q3b (p1:List GEdge) (z6:Int) (rc1:Int→Option (Bool)):Nat→Int→Option (Bool)
 | 0,_=>none
 | m2+1,z24 =>
  bindO (idxO p1 z6) fun x25 =>
  cond (decide (z24<(x25.FS.Nodes.length:Int)))
   (bindO (idxO p1 z6) fun x28 =>
   bindO (idxO x28.FS.Nodes z24) fun x30 =>
   cond (decide ((x30.Arcs.length:Int) > 20))
    (some false)
    ((q3b p1 z6 rc1 m2) (IntKind.i64.wrap (z24+1))))
   (q5x z6 rc1)
def q5w   : Option (Bool) :=
 some true
def q2e (p1:List GEdge) (n:Nat):Nat→Int→Option (Bool)
 | 0,_=>none
 | m1+1,z6 =>
  cond (decide (z6<(p1.length:Int)))
   (bindO (bindO (idxO p1 z6) fun x8 =>
   bindO (q3c n x8.Lex 21) fun r10 =>
   cond (decide (r10 > 20))
    (some true)
    (bindO (idxO p1 z6) fun x13 =>
    cond (decide ((x13.FS.Nodes.length:Int) > 20))
     (some true)
     (bindO (idxO p1 z6) fun x16 =>
     some (decide ((x16.Kids.length:Int) > 10))))) fun b18 =>
   cond b18
    (some false)
    (q3b p1 z6 (q2e p1 n m1) n 0))
   (q5w)
def q4t (n:Nat) (p1:List GEdge) (p2:Int):Option (Bool) :=
 cond (decide ((p1.length:Int) > p2))
  (some false)
  (q2e p1 n n 0)
theorem ref32_Light_0 (n:Nat) (p1:List GEdge) (p2:Int) (r:Bool) (hF:q4t n p1 p2=some r):EvU Try.prog 13 [.isl false (List.map cGEdge p1),.int .i64 p2] ⟨[],0⟩ (fun u _=>u = .bool r∧Bel 0 u):=by
 unfold q4t at hF
 refine EvU.of_body Try.tb_ok fn13 rfl ?_
 refine WPU.ghost (tm':=fr 66 [(0,.isl false (List.map cGEdge p1)),(1,.int .i64 p2)]) (Gh.start (Nat.le_of_ble_eq_true rfl)) (Nat.zero_le _) ?_
 refine sr ?_
 refine se ?_
 refine RS.q rfl (q0i rfl rfl rfl (q0d cGEdge und22)) (RS.mv rfl rfl rfl rfl (RS.q rfl (q02 rfl rfl (q74 _ _ _) rfl) ?_))
 refine sd ?_
 refine WPU.condS (t:=(decide ((p1.length:Int) > p2))) rfl (fun h3=>?_) (fun h3=>?_)
 replace hF:=q09 h3 hF
 refine sr ?_
 refine sd ?_
 refine WPU.ret ?_
 refine st ?_
 have hr:=Option.some.inj hF
 subst hr
 exact ⟨.inr rfl,[.bool false],q0t rfl (q0q),.bool false,⟨[],0⟩,Nat.le_refl _,Gh.toR (.bool false) rfl,rfl,BU.h⟩
 replace hF:=q08 h3 hF
 refine st ?_
 refine WPU.skip ?_
 refine sr ?_
 refine sd ?_
 refine WPU.ghost (tm':=fr 66 [(0,.isl false (List.map cGEdge p1)),(5,.int .i64 0)]) (Gh.sub ⟨rfl,rfl,trivial⟩) (Nat.zero_le _) ?_
 refine WPU.loopK (fun m tm σ=>∃ z6:Int,q2e p1 n m z6=some r∧tm=fr 66 [(0,.isl false (List.map cGEdge p1)),(5,.int .i64 z6)]∧σ=⟨[],0⟩) (fun tm σ=>q5w=some r∧tm=fr 66 []∧σ=⟨[],0⟩) n ⟨0,hF,rfl,rfl⟩ ?_ ?_
 rintro _ _ ⟨hF,rfl,rfl⟩
 unfold q5w at hF
 refine sr ?_
 refine sd ?_
 refine WPU.ret ?_
 refine st ?_
 have hr:=Option.some.inj hF
 subst hr
 exact ⟨.inr rfl,[.bool true],q0t rfl (q0q),.bool true,⟨[],0⟩,Nat.le_refl _,Gh.toR (.bool true) rfl,rfl,BU.h⟩
 rintro m1 _ _ ⟨z6,hF,rfl,rfl⟩
 rcases m1 with _ | m1
 cases hF
 unfold q2e at hF
 refine sr ?_
 repeat refine RS.mv rfl rfl rfl rfl ?_
 refine RS.q rfl (q0i rfl rfl rfl (q0d cGEdge und22)) (RS.q rfl (q02 rfl rfl (q1i _ _ _) rfl) ?_)
 refine sd ?_
 refine WPU.condS (t:=(decide (z6<(p1.length:Int)))) rfl (fun h7=>?_) (fun h7=>?_)
 replace hF:=q09 h7 hF
 refine st ?_
 refine WPU.skip ?_
 refine st ?_
 refine WPU.block ?_
 refine st ?_
 obtain ⟨b18,h19,hF⟩:=q01 hF
 refine WPU.joinK (fun tm σ=>tm=fr 66 [(0,.isl false (List.map cGEdge p1)),(5,.int .i64 z6),(42,.bool b18)]∧σ=⟨[],0⟩) ?_ ?_
 rintro _ _ ⟨rfl,rfl⟩
 refine st ?_
 refine WPU.condS (t:=b18) rfl (fun h20=>?_) (fun h20=>?_)
 replace hF:=q09 h20 hF
 refine sr ?_
 refine sd ?_
 refine WPU.ret ?_
 refine st ?_
 have hr:=Option.some.inj hF
 subst hr
 exact ⟨.inr rfl,[.bool false],q0t rfl (q0q),.bool false,⟨[],0⟩,Nat.le_refl _,Gh.toR (.bool false) rfl,rfl,BU.h⟩
 replace hF:=q08 h20 hF
 refine st ?_
 refine WPU.skip ?_
 refine sr ?_
 refine sd ?_
 refine WPU.ghost (tm':=fr 66 [(0,.isl false (List.map cGEdge p1)),(5,.int .i64 z6),(6,.int .i64 0)]) (Gh.sub ⟨rfl,rfl,rfl,trivial⟩) (Nat.zero_le _) ?_
 refine WPU.loopK (fun m tm σ=>∃ z24:Int,q3b p1 z6 (q2e p1 n m1) m z24=some r∧tm=fr 66 [(0,.isl false (List.map cGEdge p1)),(5,.int .i64 z6),(6,.int .i64 z24)]∧σ=⟨[],0⟩) (fun tm σ=>q5x z6 (q2e p1 n m1)=some r∧tm=fr 66 [(0,.isl false (List.map cGEdge p1)),(5,.int .i64 z6)]∧σ=⟨[],0⟩) n ⟨0,hF,rfl,rfl⟩ ?_ ?_
 rintro _ _ ⟨hF,rfl,rfl⟩
 unfold q5x at hF
 refine sr ?_
 refine RS.q rfl (q02 rfl rfl (q32 _ _ _) rfl) ?_
 refine sd ?_
 exact ⟨m1,_,_,Nat.lt_succ_self _,⟨(IntKind.i64.wrap (z6+1)),hF,rfl,rfl⟩,(Nat.zero_le _),Gh.toC (n1:=0) ⟨rfl,rfl,trivial⟩ rfl (Nat.zero_le _) (by simp)⟩
 rintro m2 _ _ ⟨z24,hF,rfl,rfl⟩
 rcases m2 with _ | m2
 cases hF
 unfold q3b at hF
 refine st ?_
 obtain ⟨x25,h26,hF⟩:=q01 hF
 refine sr ?_
 repeat refine RS.mv rfl rfl rfl rfl ?_
 refine RS.q (u:=.iptr (cGEdge x25)) rfl (q13 rfl rfl (q0n cGEdge und22 (q00 inf42) q0h h26 rfl)) (RS.q (u:=.iptr [.isl false (List.map cGNode x25.FS.Nodes)]) rfl (q58 und42 rfl (q00 inf40) rfl rfl) (RS.q (u:=.iptr [.isl false (List.map cGNode x25.FS.Nodes)]) rfl (q58 und40 rfl (q00 inf38) rfl rfl) (RS.q (u:=.isl false (List.map cGNode x25.FS.Nodes)) rfl (q1c und38 rfl rfl rfl) (RS.q rfl (q0i rfl rfl rfl (q0d cGNode und38)) (RS.q rfl (q02 rfl rfl (q1i _ _ _) rfl) ?_)))))
 refine sd ?_
 refine WPU.condS (t:=(decide (z24<(x25.FS.Nodes.length:Int)))) rfl (fun h27=>?_) (fun h27=>?_)
 replace hF:=q09 h27 hF
 refine st ?_
 refine WPU.skip ?_
 refine st ?_
 refine WPU.block ?_
 refine st ?_
 obtain ⟨x28,h29,hF⟩:=q01 hF
 obtain ⟨x30,h31,hF⟩:=q01 hF
 refine sr ?_
 repeat refine RS.mv rfl rfl rfl rfl ?_
 refine RS.q (u:=.iptr (cGEdge x28)) rfl (q13 rfl rfl (q0n cGEdge und22 (q00 inf42) q0h h29 rfl)) (RS.q (u:=.iptr [.isl false (List.map cGNode x28.FS.Nodes)]) rfl (q58 und42 rfl (q00 inf40) rfl rfl) (RS.q (u:=.iptr [.isl false (List.map cGNode x28.FS.Nodes)]) rfl (q58 und40 rfl (q00 inf38) rfl rfl) (RS.q (u:=.isl false (List.map cGNode x28.FS.Nodes)) rfl (q1c und38 rfl rfl rfl) (RS.mv rfl rfl rfl rfl (RS.q (u:=.iptr (cGNode x30)) rfl (q13 rfl rfl (q0n cGNode und38 (q00 inf62) qaj h31 rfl)) (RS.q (u:=.iptr [.isl false (List.map cGArc x30.Arcs)]) rfl (q58 und62 rfl (q00 inf60) rfl rfl) (RS.q (u:=.isl false (List.map cGArc x30.Arcs)) rfl (q1c und60 rfl rfl rfl) ?_)))))))
 refine RS.q rfl (q0i rfl rfl rfl (q0d cGArc und60)) (RS.q rfl (q02 rfl rfl (q74 _ _ _) rfl) ?_)
 refine sd ?_
 refine WPU.condS (t:=(decide ((x30.Arcs.length:Int) > 20))) rfl (fun h32=>?_) (fun h32=>?_)
 replace hF:=q09 h32 hF
 refine sr ?_
 refine sd ?_
 refine WPU.ret ?_
 refine st ?_
 have hr:=Option.some.inj hF
 subst hr
 exact ⟨.inr rfl,[.bool false],q0t rfl (q0q),.bool false,⟨[],0⟩,Nat.le_refl _,Gh.toR (.bool false) rfl,rfl,BU.h⟩
 replace hF:=q08 h32 hF
 refine st ?_
 refine WPU.skip ?_
 refine sr ?_
 refine RS.q rfl (q02 rfl rfl (q32 _ _ _) rfl) ?_
 refine sd ?_
 exact ⟨m2,_,_,Nat.lt_succ_self _,⟨(IntKind.i64.wrap (z24+1)),hF,rfl,rfl⟩,(Nat.zero_le _),Gh.toC (n1:=0) ⟨rfl,rfl,rfl,trivial⟩ rfl (Nat.zero_le _) (by simp)⟩
 replace hF:=q08 h27 hF
 refine st ?_
 refine WPU.exit ?_
 refine st ?_
 exact ⟨_,_,⟨hF,rfl,rfl⟩,(Nat.zero_le _),Gh.toC (n1:=0) ⟨rfl,rfl,trivial⟩ rfl (Nat.zero_le _) (by simp)⟩
 obtain ⟨x8,h9,h19⟩:=q01 h19
 obtain ⟨r10,h11,h19⟩:=q01 h19
 rcases q0j (decide (r10 > 20)) with h12 | h12
 replace h19:=q09 h12 h19
 replace h19:=Option.some.inj h19
 subst h19
 refine sr ?_
 repeat refine RS.mv rfl rfl rfl rfl ?_
 refine RS.q (u:=.iptr (cGEdge x8)) rfl (q13 rfl rfl (q0n cGEdge und22 (q00 inf42) q0h h9 rfl)) (RS.q (u:=.iptr [.int .i64 x8.Lex.Kind,.str x8.Lex.Name,.int .i64 x8.Lex.From,.int .i64 x8.Lex.To,.isl false (List.map cGDeriv x8.Lex.Kids),.isl false (List.map cGNode x8.FS.Nodes)]) rfl (q58 und42 rfl (q00 inf37) rfl rfl) (RS.q (u:=.agg (xGDeriv x8.Lex)) rfl (q2u und37 rfl (q00 inf37) rfl rfl) (RS.call (u:=.int .i64 r10) (args:=[.agg (xGDeriv x8.Lex),.int .i64 21]) rfl (q0b rfl rfl fn33 hb33 rfl rfl) (q7g n x8.Lex 21 r10 h11 _) rfl rfl (RS.q rfl (q02 rfl rfl (q74 _ _ _) rfl) (RS.mv rfl rfl rfl rfl ?_)))))
 repeat refine RS.no (want0 rfl rfl rfl h12) rfl rfl ?_
 refine RS.q (u:=.bool true) rfl (q04 rfl h12 rfl) (RS.mv rfl rfl rfl rfl ?_)
 repeat refine RS.no (want0 rfl rfl rfl rfl) rfl rfl ?_
 refine RS.q (u:=.bool true) rfl (q04 rfl rfl rfl) ?_
 refine sd ?_
 exact ⟨_,_,⟨rfl,rfl⟩,(Nat.zero_le _),Gh.toC (n1:=0) ⟨rfl,rfl,rfl,trivial⟩ rfl (Nat.zero_le _) (by simp)⟩
 replace h19:=q08 h12 h19
 obtain ⟨x13,h14,h19⟩:=q01 h19
 rcases q0j (decide ((x13.FS.Nodes.length:Int) > 20)) with h15 | h15
 replace h19:=q09 h15 h19
 replace h19:=Option.some.inj h19
 subst h19
 refine sr ?_
 repeat refine RS.mv rfl rfl rfl rfl ?_
 refine RS.q (u:=.iptr (cGEdge x8)) rfl (q13 rfl rfl (q0n cGEdge und22 (q00 inf42) q0h h9 rfl)) (RS.q (u:=.iptr [.int .i64 x8.Lex.Kind,.str x8.Lex.Name,.int .i64 x8.Lex.From,.int .i64 x8.Lex.To,.isl false (List.map cGDeriv x8.Lex.Kids),.isl false (List.map cGNode x8.FS.Nodes)]) rfl (q58 und42 rfl (q00 inf37) rfl rfl) (RS.q (u:=.agg (xGDeriv x8.Lex)) rfl (q2u und37 rfl (q00 inf37) rfl rfl) (RS.call (u:=.int .i64 r10) (args:=[.agg (xGDeriv x8.Lex),.int .i64 21]) rfl (q0b rfl rfl fn33 hb33 rfl rfl) (q7g n x8.Lex 21 r10 h11 _) rfl rfl (RS.q rfl (q02 rfl rfl (q74 _ _ _) rfl) (RS.mv rfl rfl rfl rfl (RS.op (want1 rfl rfl rfl h12) (q07 rfl) rfl rfl (RS.op (want1 rfl rfl rfl h12) (q07 rfl) rfl rfl ?_)))))))
 refine RS.op (u:=.iptr (cGEdge x13)) (want1 rfl rfl rfl h12) (q13 rfl rfl (q0n cGEdge und22 (q00 inf42) q0h h14 rfl)) rfl rfl (RS.op (u:=.iptr [.isl false (List.map cGNode x13.FS.Nodes)]) (want1 rfl rfl rfl h12) (q58 und42 rfl (q00 inf40) rfl rfl) rfl rfl (RS.op (u:=.iptr [.isl false (List.map cGNode x13.FS.Nodes)]) (want1 rfl rfl rfl h12) (q58 und40 rfl (q00 inf38) rfl rfl) rfl rfl (RS.op (u:=.isl false (List.map cGNode x13.FS.Nodes)) (want1 rfl rfl rfl h12) (q1c und38 rfl rfl rfl) rfl rfl (RS.op (want1 rfl rfl rfl h12) (q0i rfl rfl rfl (q0d cGNode und38)) rfl rfl (RS.op (want1 rfl rfl rfl h12) (q02 rfl rfl (q74 _ _ _) rfl) rfl rfl (RS.q (u:=.bool (decide ((x13.FS.Nodes.length:Int) > 20))) rfl (q03 rfl h12 rfl) (RS.mv rfl rfl rfl rfl ?_)))))))
 repeat refine RS.no (want0 rfl rfl rfl h15) rfl rfl ?_
 refine RS.q (u:=.bool true) rfl (q04 rfl h15 rfl) ?_
 refine sd ?_
 exact ⟨_,_,⟨rfl,rfl⟩,(Nat.zero_le _),Gh.toC (n1:=0) ⟨rfl,rfl,rfl,trivial⟩ rfl (Nat.zero_le _) (by simp)⟩
 replace h19:=q08 h15 h19
 obtain ⟨x16,h17,h19⟩:=q01 h19
 replace h19:=Option.some.inj h19
 subst h19
 refine sr ?_
 repeat refine RS.mv rfl rfl rfl rfl ?_
 refine RS.q (u:=.iptr (cGEdge x8)) rfl (q13 rfl rfl (q0n cGEdge und22 (q00 inf42) q0h h9 rfl)) (RS.q (u:=.iptr [.int .i64 x8.Lex.Kind,.str x8.Lex.Name,.int .i64 x8.Lex.From,.int .i64 x8.Lex.To,.isl false (List.map cGDeriv x8.Lex.Kids),.isl false (List.map cGNode x8.FS.Nodes)]) rfl (q58 und42 rfl (q00 inf37) rfl rfl) (RS.q (u:=.agg (xGDeriv x8.Lex)) rfl (q2u und37 rfl (q00 inf37) rfl rfl) (RS.call (u:=.int .i64 r10) (args:=[.agg (xGDeriv x8.Lex),.int .i64 21]) rfl (q0b rfl rfl fn33 hb33 rfl rfl) (q7g n x8.Lex 21 r10 h11 _) rfl rfl (RS.q rfl (q02 rfl rfl (q74 _ _ _) rfl) (RS.mv rfl rfl rfl rfl (RS.op (want1 rfl rfl rfl h12) (q07 rfl) rfl rfl (RS.op (want1 rfl rfl rfl h12) (q07 rfl) rfl rfl ?_)))))))
 refine RS.op (u:=.iptr (cGEdge x13)) (want1 rfl rfl rfl h12) (q13 rfl rfl (q0n cGEdge und22 (q00 inf42) q0h h14 rfl)) rfl rfl (RS.op (u:=.iptr [.isl false (List.map cGNode x13.FS.Nodes)]) (want1 rfl rfl rfl h12) (q58 und42 rfl (q00 inf40) rfl rfl) rfl rfl (RS.op (u:=.iptr [.isl false (List.map cGNode x13.FS.Nodes)]) (want1 rfl rfl rfl h12) (q58 und40 rfl (q00 inf38) rfl rfl) rfl rfl (RS.op (u:=.isl false (List.map cGNode x13.FS.Nodes)) (want1 rfl rfl rfl h12) (q1c und38 rfl rfl rfl) rfl rfl (RS.op (want1 rfl rfl rfl h12) (q0i rfl rfl rfl (q0d cGNode und38)) rfl rfl (RS.op (want1 rfl rfl rfl h12) (q02 rfl rfl (q74 _ _ _) rfl) rfl rfl (RS.q (u:=.bool (decide ((x13.FS.Nodes.length:Int) > 20))) rfl (q03 rfl h12 rfl) (RS.mv rfl rfl rfl rfl ?_)))))))
 refine RS.op (want1 rfl rfl rfl h15) (q07 rfl) rfl rfl (RS.op (want1 rfl rfl rfl h15) (q07 rfl) rfl rfl (RS.op (u:=.iptr (cGEdge x16)) (want1 rfl rfl rfl h15) (q13 rfl rfl (q0n cGEdge und22 (q00 inf42) q0h h17 rfl)) rfl rfl (RS.op (u:=.iptr [.isl false (List.map (cI .i64) x16.Kids),.int .i64 x16.Lex.Kind,.str x16.Lex.Name,.int .i64 x16.Lex.From,.int .i64 x16.Lex.To,.isl false (List.map cGDeriv x16.Lex.Kids),.isl false (List.map cGNode x16.FS.Nodes)]) (want1 rfl rfl rfl h15) (q58 und42 rfl (q00 inf34) rfl rfl) rfl rfl (RS.op (u:=.isl false (List.map (cI .i64) x16.Kids)) (want1 rfl rfl rfl h15) (q1c und34 rfl rfl rfl) rfl rfl (RS.op (want1 rfl rfl rfl h15) (q0i rfl rfl rfl (q0d (cI .i64) und34)) rfl rfl (RS.op (want1 rfl rfl rfl h15) (q02 rfl rfl (q74 _ _ _) rfl) rfl rfl (RS.q (u:=.bool (decide ((x16.Kids.length:Int) > 10))) rfl (q03 rfl h15 rfl) ?_)))))))
 refine sd ?_
 exact ⟨_,_,⟨rfl,rfl⟩,(Nat.zero_le _),Gh.toC (n1:=0) ⟨rfl,rfl,rfl,trivial⟩ rfl (Nat.zero_le _) (by simp)⟩
 replace hF:=q08 h7 hF
 refine st ?_
 refine WPU.exit ?_
 refine st ?_
 exact ⟨_,_,⟨hF,rfl,rfl⟩,(Nat.zero_le _),Gh.toC (n1:=0) trivial rfl (Nat.zero_le _) (by simp)⟩
theorem ref32_Light_ok (n:Nat) (p1:List GEdge) (p2:Int) (r:Bool) (hF:q4t n p1 p2=some r) (σ:Sg):EvU Try.prog 13 [.isl false (List.map cGEdge p1),.int .i64 p2] σ (fun u σ'=>u = .bool r∧σ'=σ) :=
 EvU.pure1C (ref32_Light_0 n p1 p2 r hF) σ
def q55 (n:Nat) (self:GDeriv→Option (Bool)) (p1:GDeriv):Option (Bool) :=
 cond (p1.Kind == 0)
  (some ((p1.Kids.length:Int) == 0))
  (cond (p1.Kind == 1)
   (bindO (cond ((p1.Kids.length:Int) == 1)
    (bindO (idxO p1.Kids 0) fun x5 =>
    cond (x5.From == p1.From)
     (bindO (idxO p1.Kids 0) fun x8 =>
     cond (x8.To == p1.To)
      (bindO (idxO p1.Kids 0) fun x11 =>
      bindO (self x11) fun r13 =>
      some r13)
      (some false))
     (some false))
    (some false)) fun b15 =>
   some b15)
   (some false))
def q1m:Nat→GDeriv→Option (Bool)
 | 0,_=>none
 | n+1,p1=>q55 n (q1m n) p1
theorem q84:∀ (n:Nat) (p1:GDeriv) (r:Bool),q1m n p1=some r→EvU Try.prog 50 [.agg (xGDeriv p1)] ⟨[],0⟩ (fun u _=>u = .bool r∧Bel 0 u)
 | 0,p1,r,hF=>by cases hF
 | n+1,p1,r,hF=>by
  have ih:=q84 n
  have ihS:∀ (p1:GDeriv) (r:Bool),q1m n p1=some r→∀ σ,EvU Try.prog 50 [.agg (xGDeriv p1)] σ (fun u σ'=>u = .bool r∧σ'=σ):=fun p1 r h σ=>EvU.pure1C (ih p1 r h) σ
  unfold q1m q55 at hF
  refine EvU.of_body Try.tb_ok fn50 rfl ?_
  refine WPU.ghost (tm':=fr 44 [(0,.agg (xGDeriv p1))]) (Gh.start (Nat.le_of_ble_eq_true rfl)) (Nat.zero_le _) ?_
  refine sr ?_
  refine RS.q (u:=.ptr 0 0 0) (σ':=⟨[(0,.row (xGDeriv p1) 37)],1⟩) rfl (q2v rfl rfl rfl) ?_
  refine se ?_
  refine RS.q (u:=.ptr 0 0 0) rfl (q06 und37 rfl (q00 inf3) rfl rfl rfl) (RS.q (u:=.int .i64 p1.Kind) rfl (q05 und3 rfl rfl rfl rfl) ?_)
  refine sd ?_
  refine WPU.block ?_
  refine sr ?_
  refine RS.q rfl (q02 rfl rfl (q0e _ _ _) rfl) ?_
  refine sd ?_
  refine WPU.condS (t:=(p1.Kind == 0)) rfl (fun h2=>?_) (fun h2=>?_)
  replace hF:=q09 h2 hF
  refine sr ?_
  refine RS.q (u:=.ptr 0 0 4) rfl (q06 und37 rfl (q00 inf35) rfl rfl rfl) (RS.q (u:=.isl false (List.map cGDeriv p1.Kids)) rfl (q05 und35 rfl rfl rfl rfl) (RS.q rfl (q0i rfl rfl rfl (q0d cGDeriv und35)) (RS.q rfl (q02 rfl rfl (q0e _ _ _) rfl) ?_)))
  refine sd ?_
  refine WPU.ret ?_
  refine st ?_
  have hr:=Option.some.inj hF
  subst hr
  exact ⟨.inr rfl,[.bool ((p1.Kids.length:Int) == 0)],q0t rfl (q0q),.bool ((p1.Kids.length:Int) == 0),⟨[],0⟩,Nat.le_refl _,Gh.toR (.bool ((p1.Kids.length:Int) == 0)) rfl,rfl,BU.h⟩
  replace hF:=q08 h2 hF
  refine sr ?_
  refine RS.q rfl (q02 rfl rfl (q0e _ _ _) rfl) ?_
  refine sd ?_
  refine WPU.condS (t:=(p1.Kind == 1)) rfl (fun h3=>?_) (fun h3=>?_)
  replace hF:=q09 h3 hF
  refine st ?_
  obtain ⟨b15,h16,hF⟩:=q01 hF
  refine WPU.joinK (fun tm σ=>tm=fr 44 [(2,.bool b15)]∧σ=⟨[(0,.row (xGDeriv p1) 37)],1⟩) ?_ ?_
  rintro _ _ ⟨rfl,rfl⟩
  refine st ?_
  refine WPU.ret ?_
  refine st ?_
  have hr:=Option.some.inj hF
  subst hr
  exact ⟨.inr rfl,[.bool b15],q0t rfl (q0q),.bool b15,⟨[],0⟩,Nat.le_refl _,Gh.toR (.bool b15) rfl,rfl,BU.h⟩
  rcases q0j ((p1.Kids.length:Int) == 1) with h4 | h4
  replace h16:=q09 h4 h16
  obtain ⟨x5,h6,h16⟩:=q01 h16
  rcases q0j (x5.From == p1.From) with h7 | h7
  replace h16:=q09 h7 h16
  obtain ⟨x8,h9,h16⟩:=q01 h16
  rcases q0j (x8.To == p1.To) with h10 | h10
  replace h16:=q09 h10 h16
  obtain ⟨x11,h12,h16⟩:=q01 h16
  obtain ⟨r13,h14,h16⟩:=q01 h16
  replace h16:=Option.some.inj h16
  subst h16
  refine WPU.drawE Try.tb_ok [] (by kernel_rfl) ?_
  refine RD.q (u:=.ptr 0 0 4) rfl (q06 und37 rfl (q00 inf35) rfl rfl rfl) (RD.q (u:=.isl false (List.map cGDeriv p1.Kids)) rfl (q05 und35 rfl rfl rfl rfl) (RD.q rfl (q0i rfl rfl rfl (q0d cGDeriv und35)) (RD.q rfl (q02 rfl rfl (q0e _ _ _) rfl) (RD.mv rfl rfl rfl rfl (RD.look (u:=.ptr 0 0 4) (want1 rfl rfl rfl h4) (q06 und37 rfl (q00 inf35) rfl rfl rfl) rfl rfl (RD.look (u:=.isl false (List.map cGDeriv p1.Kids)) (want1 rfl rfl rfl h4) (q05 und35 rfl rfl rfl rfl) rfl rfl (RD.look (u:=.iptr (xGDeriv x5)) (want1 rfl rfl rfl h4) (q13 rfl rfl (q0n cGDeriv und35 (q00 inf37) q0x h6 (q1f x5))) rfl rfl ?_)))))))
  refine RD.look (u:=.iptr [.int .i64 x5.From,.int .i64 x5.To,.isl false (List.map cGDeriv x5.Kids)]) (want1 rfl rfl rfl h4) (q58 und37 rfl (q00 inf3) rfl rfl) rfl rfl (RD.look (u:=.int .i64 x5.From) (want1 rfl rfl rfl h4) (q1c und3 rfl rfl rfl) rfl rfl (RD.look (u:=.ptr 0 0 2) (want1 rfl rfl rfl h4) (q06 und37 rfl (q00 inf3) rfl rfl rfl) rfl rfl (RD.look (u:=.int .i64 p1.From) (want1 rfl rfl rfl h4) (q05 und3 rfl rfl rfl rfl) rfl rfl (RD.look (want1 rfl rfl rfl h4) (q02 rfl rfl (q0e _ _ _) rfl) rfl rfl (RD.q (u:=.bool (x5.From == p1.From)) rfl (q04 rfl h4 rfl) (RD.mv rfl rfl rfl rfl (RD.look (u:=.ptr 0 0 4) (want1 rfl rfl rfl h7) (q06 und37 rfl (q00 inf35) rfl rfl rfl) rfl rfl ?_)))))))
  refine RD.look (u:=.isl false (List.map cGDeriv p1.Kids)) (want1 rfl rfl rfl h7) (q05 und35 rfl rfl rfl rfl) rfl rfl (RD.look (u:=.iptr (xGDeriv x8)) (want1 rfl rfl rfl h7) (q13 rfl rfl (q0n cGDeriv und35 (q00 inf37) q0x h9 (q1f x8))) rfl rfl (RD.look (u:=.iptr [.int .i64 x8.To,.isl false (List.map cGDeriv x8.Kids)]) (want1 rfl rfl rfl h7) (q58 und37 rfl (q00 inf3) rfl rfl) rfl rfl (RD.look (u:=.int .i64 x8.To) (want1 rfl rfl rfl h7) (q1c und3 rfl rfl rfl) rfl rfl (RD.look (u:=.ptr 0 0 3) (want1 rfl rfl rfl h7) (q06 und37 rfl (q00 inf3) rfl rfl rfl) rfl rfl (RD.look (u:=.int .i64 p1.To) (want1 rfl rfl rfl h7) (q05 und3 rfl rfl rfl rfl) rfl rfl (RD.look (want1 rfl rfl rfl h7) (q02 rfl rfl (q0e _ _ _) rfl) rfl rfl (RD.q (u:=.bool (x8.To == p1.To)) rfl (q04 rfl h7 rfl) ?_)))))))
  refine RD.mv rfl rfl rfl rfl (RD.look (u:=.ptr 0 0 4) (want1 rfl rfl rfl h10) (q06 und37 rfl (q00 inf35) rfl rfl rfl) rfl rfl (RD.look (u:=.isl false (List.map cGDeriv p1.Kids)) (want1 rfl rfl rfl h10) (q05 und35 rfl rfl rfl rfl) rfl rfl (RD.look (u:=.iptr (xGDeriv x11)) (want1 rfl rfl rfl h10) (q13 rfl rfl (q0n cGDeriv und35 (q00 inf37) q0x h12 (q1f x11))) rfl rfl (RD.look (u:=.agg (xGDeriv x11)) (want1 rfl rfl rfl h10) (q2u und37 rfl (q00 inf37) rfl rfl) rfl rfl (RD.free (u:=.bool r13) (args:=[.agg (xGDeriv x11)]) (want1 rfl rfl rfl h10) (q0b rfl rfl fn50 hb50 rfl rfl) (fun s=>ihS x11 r13 h14 s) rfl rfl (RD.q (u:=.bool r13) rfl (q04 rfl h10 rfl) (RD.as rfl rfl rfl rfl ?_)))))))
  refine RD.done ⟨by kernel_rfl,trivial,?_⟩
  refine st ?_
  exact ⟨_,_,⟨rfl,rfl⟩,(Nat.zero_le _),Gh.toC (n1:=1) ⟨rfl,trivial⟩ rfl (Nat.zero_le _) (by simp)⟩
  replace h16:=q08 h10 h16
  replace h16:=Option.some.inj h16
  subst h16
  refine WPU.drawE Try.tb_ok [] (by kernel_rfl) ?_
  refine RD.q (u:=.ptr 0 0 4) rfl (q06 und37 rfl (q00 inf35) rfl rfl rfl) (RD.q (u:=.isl false (List.map cGDeriv p1.Kids)) rfl (q05 und35 rfl rfl rfl rfl) (RD.q rfl (q0i rfl rfl rfl (q0d cGDeriv und35)) (RD.q rfl (q02 rfl rfl (q0e _ _ _) rfl) (RD.mv rfl rfl rfl rfl (RD.look (u:=.ptr 0 0 4) (want1 rfl rfl rfl h4) (q06 und37 rfl (q00 inf35) rfl rfl rfl) rfl rfl (RD.look (u:=.isl false (List.map cGDeriv p1.Kids)) (want1 rfl rfl rfl h4) (q05 und35 rfl rfl rfl rfl) rfl rfl (RD.look (u:=.iptr (xGDeriv x5)) (want1 rfl rfl rfl h4) (q13 rfl rfl (q0n cGDeriv und35 (q00 inf37) q0x h6 (q1f x5))) rfl rfl ?_)))))))
  refine RD.look (u:=.iptr [.int .i64 x5.From,.int .i64 x5.To,.isl false (List.map cGDeriv x5.Kids)]) (want1 rfl rfl rfl h4) (q58 und37 rfl (q00 inf3) rfl rfl) rfl rfl (RD.look (u:=.int .i64 x5.From) (want1 rfl rfl rfl h4) (q1c und3 rfl rfl rfl) rfl rfl (RD.look (u:=.ptr 0 0 2) (want1 rfl rfl rfl h4) (q06 und37 rfl (q00 inf3) rfl rfl rfl) rfl rfl (RD.look (u:=.int .i64 p1.From) (want1 rfl rfl rfl h4) (q05 und3 rfl rfl rfl rfl) rfl rfl (RD.look (want1 rfl rfl rfl h4) (q02 rfl rfl (q0e _ _ _) rfl) rfl rfl (RD.q (u:=.bool (x5.From == p1.From)) rfl (q04 rfl h4 rfl) (RD.mv rfl rfl rfl rfl (RD.look (u:=.ptr 0 0 4) (want1 rfl rfl rfl h7) (q06 und37 rfl (q00 inf35) rfl rfl rfl) rfl rfl ?_)))))))
  refine RD.look (u:=.isl false (List.map cGDeriv p1.Kids)) (want1 rfl rfl rfl h7) (q05 und35 rfl rfl rfl rfl) rfl rfl (RD.look (u:=.iptr (xGDeriv x8)) (want1 rfl rfl rfl h7) (q13 rfl rfl (q0n cGDeriv und35 (q00 inf37) q0x h9 (q1f x8))) rfl rfl (RD.look (u:=.iptr [.int .i64 x8.To,.isl false (List.map cGDeriv x8.Kids)]) (want1 rfl rfl rfl h7) (q58 und37 rfl (q00 inf3) rfl rfl) rfl rfl (RD.look (u:=.int .i64 x8.To) (want1 rfl rfl rfl h7) (q1c und3 rfl rfl rfl) rfl rfl (RD.look (u:=.ptr 0 0 3) (want1 rfl rfl rfl h7) (q06 und37 rfl (q00 inf3) rfl rfl rfl) rfl rfl (RD.look (u:=.int .i64 p1.To) (want1 rfl rfl rfl h7) (q05 und3 rfl rfl rfl rfl) rfl rfl (RD.look (want1 rfl rfl rfl h7) (q02 rfl rfl (q0e _ _ _) rfl) rfl rfl (RD.q (u:=.bool (x8.To == p1.To)) rfl (q04 rfl h7 rfl) ?_)))))))
  refine RD.mv rfl rfl rfl rfl ?_
  repeat refine RD.no (want0 rfl rfl rfl h10) rfl rfl ?_
  refine RD.q (u:=.bool false) rfl (q03 rfl h10 rfl) (RD.as rfl rfl rfl rfl ?_)
  refine RD.done ⟨by kernel_rfl,trivial,?_⟩
  refine st ?_
  exact ⟨_,_,⟨rfl,rfl⟩,(Nat.zero_le _),Gh.toC (n1:=1) ⟨rfl,trivial⟩ rfl (Nat.zero_le _) (by simp)⟩
  replace h16:=q08 h7 h16
  replace h16:=Option.some.inj h16
  subst h16
  refine WPU.drawE Try.tb_ok [] (by kernel_rfl) ?_
  refine RD.q (u:=.ptr 0 0 4) rfl (q06 und37 rfl (q00 inf35) rfl rfl rfl) (RD.q (u:=.isl false (List.map cGDeriv p1.Kids)) rfl (q05 und35 rfl rfl rfl rfl) (RD.q rfl (q0i rfl rfl rfl (q0d cGDeriv und35)) (RD.q rfl (q02 rfl rfl (q0e _ _ _) rfl) (RD.mv rfl rfl rfl rfl (RD.look (u:=.ptr 0 0 4) (want1 rfl rfl rfl h4) (q06 und37 rfl (q00 inf35) rfl rfl rfl) rfl rfl (RD.look (u:=.isl false (List.map cGDeriv p1.Kids)) (want1 rfl rfl rfl h4) (q05 und35 rfl rfl rfl rfl) rfl rfl (RD.look (u:=.iptr (xGDeriv x5)) (want1 rfl rfl rfl h4) (q13 rfl rfl (q0n cGDeriv und35 (q00 inf37) q0x h6 (q1f x5))) rfl rfl ?_)))))))
  refine RD.look (u:=.iptr [.int .i64 x5.From,.int .i64 x5.To,.isl false (List.map cGDeriv x5.Kids)]) (want1 rfl rfl rfl h4) (q58 und37 rfl (q00 inf3) rfl rfl) rfl rfl (RD.look (u:=.int .i64 x5.From) (want1 rfl rfl rfl h4) (q1c und3 rfl rfl rfl) rfl rfl (RD.look (u:=.ptr 0 0 2) (want1 rfl rfl rfl h4) (q06 und37 rfl (q00 inf3) rfl rfl rfl) rfl rfl (RD.look (u:=.int .i64 p1.From) (want1 rfl rfl rfl h4) (q05 und3 rfl rfl rfl rfl) rfl rfl (RD.look (want1 rfl rfl rfl h4) (q02 rfl rfl (q0e _ _ _) rfl) rfl rfl (RD.q (u:=.bool (x5.From == p1.From)) rfl (q04 rfl h4 rfl) (RD.mv rfl rfl rfl rfl ?_))))))
  repeat refine RD.no (want0 rfl rfl rfl h7) rfl rfl ?_
  refine RD.q (u:=.bool false) rfl (q03 rfl h7 rfl) (RD.mv rfl rfl rfl rfl ?_)
  repeat refine RD.no (want0 rfl rfl rfl rfl) rfl rfl ?_
  refine RD.q (u:=.bool false) rfl (q03 rfl rfl rfl) (RD.as rfl rfl rfl rfl ?_)
  refine RD.done ⟨by kernel_rfl,trivial,?_⟩
  refine st ?_
  exact ⟨_,_,⟨rfl,rfl⟩,(Nat.zero_le _),Gh.toC (n1:=1) ⟨rfl,trivial⟩ rfl (Nat.zero_le _) (by simp)⟩
  replace h16:=q08 h4 h16
  replace h16:=Option.some.inj h16
  subst h16
  refine WPU.drawE Try.tb_ok [] (by kernel_rfl) ?_
  refine RD.q (u:=.ptr 0 0 4) rfl (q06 und37 rfl (q00 inf35) rfl rfl rfl) (RD.q (u:=.isl false (List.map cGDeriv p1.Kids)) rfl (q05 und35 rfl rfl rfl rfl) (RD.q rfl (q0i rfl rfl rfl (q0d cGDeriv und35)) (RD.q rfl (q02 rfl rfl (q0e _ _ _) rfl) (RD.mv rfl rfl rfl rfl ?_))))
  repeat refine RD.no (want0 rfl rfl rfl h4) rfl rfl ?_
  refine RD.q (u:=.bool false) rfl (q03 rfl h4 rfl) (RD.mv rfl rfl rfl rfl ?_)
  repeat refine RD.no (want0 rfl rfl rfl rfl) rfl rfl ?_
  refine RD.q (u:=.bool false) rfl (q03 rfl rfl rfl) (RD.mv rfl rfl rfl rfl ?_)
  repeat refine RD.no (want0 rfl rfl rfl rfl) rfl rfl ?_
  refine RD.q (u:=.bool false) rfl (q03 rfl rfl rfl) (RD.as rfl rfl rfl rfl ?_)
  refine RD.done ⟨by kernel_rfl,trivial,?_⟩
  refine st ?_
  exact ⟨_,_,⟨rfl,rfl⟩,(Nat.zero_le _),Gh.toC (n1:=1) ⟨rfl,trivial⟩ rfl (Nat.zero_le _) (by simp)⟩
  replace hF:=q08 h3 hF
  refine st ?_
  refine WPU.skip ?_
  refine sr ?_
  refine sd ?_
  refine WPU.ret ?_
  refine st ?_
  have hr:=Option.some.inj hF
  subst hr
  exact ⟨.inr rfl,[.bool false],q0t rfl (q0q),.bool false,⟨[],0⟩,Nat.le_refl _,Gh.toR (.bool false) rfl,rfl,BU.h⟩
theorem q4n (n:Nat) (p1:GDeriv) (r:Bool) (hF:q1m n p1=some r) (σ:Sg):EvU Try.prog 50 [.agg (xGDeriv p1)] σ (fun u σ'=>u = .bool r∧σ'=σ) :=
 EvU.pure1C (q84 n p1 r hF) σ
def q5k (n:Nat) (p1:GDeriv):Option (Bool) :=
 bindO (cond (p1.Kind == 0)
  (cond (bytesEq p1.Name [])
   (cond (p1.From == 0)
    (cond (p1.To == 0)
     (some ((p1.Kids.length:Int) == 0))
     (some false))
    (some false))
   (some false))
  (some false)) fun b6 =>
 some b6
theorem chart_zero_0 (n:Nat) (p1:GDeriv) (r:Bool) (hF:q5k n p1=some r):EvU Try.prog 51 [.agg (xGDeriv p1)] ⟨[],0⟩ (fun u _=>u = .bool r∧Bel 0 u):=by
 unfold q5k at hF
 refine EvU.of_body Try.tb_ok fn51 rfl ?_
 refine WPU.ghost (tm':=fr 27 [(0,.agg (xGDeriv p1))]) (Gh.start (Nat.le_of_ble_eq_true rfl)) (Nat.zero_le _) ?_
 refine sr ?_
 refine RS.q (u:=.ptr 0 0 0) (σ':=⟨[(0,.row (xGDeriv p1) 37)],1⟩) rfl (q2v rfl rfl rfl) ?_
 refine sd ?_
 obtain ⟨b6,h7,hF⟩:=q01 hF
 refine WPU.joinK (fun tm σ=>tm=fr 27 [(2,.bool b6)]∧σ=⟨[(0,.row (xGDeriv p1) 37)],1⟩) ?_ ?_
 rintro _ _ ⟨rfl,rfl⟩
 refine st ?_
 refine WPU.ret ?_
 refine st ?_
 have hr:=Option.some.inj hF
 subst hr
 exact ⟨.inr rfl,[.bool b6],q0t rfl (q0q),.bool b6,⟨[],0⟩,Nat.le_refl _,Gh.toR (.bool b6) rfl,rfl,BU.h⟩
 rcases q0j (p1.Kind == 0) with h2 | h2
 replace h7:=q09 h2 h7
 rcases q0j (bytesEq p1.Name []) with h3 | h3
 replace h7:=q09 h3 h7
 rcases q0j (p1.From == 0) with h4 | h4
 replace h7:=q09 h4 h7
 rcases q0j (p1.To == 0) with h5 | h5
 replace h7:=q09 h5 h7
 replace h7:=Option.some.inj h7
 subst h7
 refine sr ?_
 refine RS.q (u:=.ptr 0 0 0) rfl (q06 und37 rfl (q00 inf3) rfl rfl rfl) (RS.q (u:=.int .i64 p1.Kind) rfl (q05 und3 rfl rfl rfl rfl) (RS.q rfl (q02 rfl rfl (q0e _ _ _) rfl) (RS.mv rfl rfl rfl rfl (RS.op (u:=.ptr 0 0 1) (want1 rfl rfl rfl h2) (q06 und37 rfl (q00 inf9) rfl rfl rfl) rfl rfl (RS.op (u:=.str p1.Name) (want1 rfl rfl rfl h2) (q05 und9 rfl rfl rfl rfl) rfl rfl (RS.op (u:=.bool (bytesEq p1.Name [])) (want1 rfl rfl rfl h2) (q2w rfl rfl rfl rfl) rfl rfl (RS.q (u:=.bool (bytesEq p1.Name [])) rfl (q04 rfl h2 rfl) ?_)))))))
 refine RS.mv rfl rfl rfl rfl (RS.op (u:=.ptr 0 0 2) (want1 rfl rfl rfl h3) (q06 und37 rfl (q00 inf3) rfl rfl rfl) rfl rfl (RS.op (u:=.int .i64 p1.From) (want1 rfl rfl rfl h3) (q05 und3 rfl rfl rfl rfl) rfl rfl (RS.op (want1 rfl rfl rfl h3) (q02 rfl rfl (q0e _ _ _) rfl) rfl rfl (RS.q (u:=.bool (p1.From == 0)) rfl (q04 rfl h3 rfl) (RS.mv rfl rfl rfl rfl (RS.op (u:=.ptr 0 0 3) (want1 rfl rfl rfl h4) (q06 und37 rfl (q00 inf3) rfl rfl rfl) rfl rfl (RS.op (u:=.int .i64 p1.To) (want1 rfl rfl rfl h4) (q05 und3 rfl rfl rfl rfl) rfl rfl ?_)))))))
 refine RS.op (want1 rfl rfl rfl h4) (q02 rfl rfl (q0e _ _ _) rfl) rfl rfl (RS.q (u:=.bool (p1.To == 0)) rfl (q04 rfl h4 rfl) (RS.mv rfl rfl rfl rfl (RS.op (u:=.ptr 0 0 4) (want1 rfl rfl rfl h5) (q06 und37 rfl (q00 inf35) rfl rfl rfl) rfl rfl (RS.op (u:=.isl false (List.map cGDeriv p1.Kids)) (want1 rfl rfl rfl h5) (q05 und35 rfl rfl rfl rfl) rfl rfl (RS.op (want1 rfl rfl rfl h5) (q0i rfl rfl rfl (q0d cGDeriv und35)) rfl rfl (RS.op (want1 rfl rfl rfl h5) (q02 rfl rfl (q0e _ _ _) rfl) rfl rfl (RS.q (u:=.bool ((p1.Kids.length:Int) == 0)) rfl (q04 rfl h5 rfl) ?_)))))))
 refine sd ?_
 exact ⟨_,_,⟨rfl,rfl⟩,(Nat.zero_le _),Gh.toC (n1:=1) ⟨rfl,trivial⟩ rfl (Nat.zero_le _) (by simp)⟩
 replace h7:=q08 h5 h7
 replace h7:=Option.some.inj h7
 subst h7
 refine sr ?_
 refine RS.q (u:=.ptr 0 0 0) rfl (q06 und37 rfl (q00 inf3) rfl rfl rfl) (RS.q (u:=.int .i64 p1.Kind) rfl (q05 und3 rfl rfl rfl rfl) (RS.q rfl (q02 rfl rfl (q0e _ _ _) rfl) (RS.mv rfl rfl rfl rfl (RS.op (u:=.ptr 0 0 1) (want1 rfl rfl rfl h2) (q06 und37 rfl (q00 inf9) rfl rfl rfl) rfl rfl (RS.op (u:=.str p1.Name) (want1 rfl rfl rfl h2) (q05 und9 rfl rfl rfl rfl) rfl rfl (RS.op (u:=.bool (bytesEq p1.Name [])) (want1 rfl rfl rfl h2) (q2w rfl rfl rfl rfl) rfl rfl (RS.q (u:=.bool (bytesEq p1.Name [])) rfl (q04 rfl h2 rfl) ?_)))))))
 refine RS.mv rfl rfl rfl rfl (RS.op (u:=.ptr 0 0 2) (want1 rfl rfl rfl h3) (q06 und37 rfl (q00 inf3) rfl rfl rfl) rfl rfl (RS.op (u:=.int .i64 p1.From) (want1 rfl rfl rfl h3) (q05 und3 rfl rfl rfl rfl) rfl rfl (RS.op (want1 rfl rfl rfl h3) (q02 rfl rfl (q0e _ _ _) rfl) rfl rfl (RS.q (u:=.bool (p1.From == 0)) rfl (q04 rfl h3 rfl) (RS.mv rfl rfl rfl rfl (RS.op (u:=.ptr 0 0 3) (want1 rfl rfl rfl h4) (q06 und37 rfl (q00 inf3) rfl rfl rfl) rfl rfl (RS.op (u:=.int .i64 p1.To) (want1 rfl rfl rfl h4) (q05 und3 rfl rfl rfl rfl) rfl rfl ?_)))))))
 refine RS.op (want1 rfl rfl rfl h4) (q02 rfl rfl (q0e _ _ _) rfl) rfl rfl (RS.q (u:=.bool (p1.To == 0)) rfl (q04 rfl h4 rfl) (RS.mv rfl rfl rfl rfl ?_))
 repeat refine RS.no (want0 rfl rfl rfl h5) rfl rfl ?_
 refine RS.q (u:=.bool false) rfl (q03 rfl h5 rfl) ?_
 refine sd ?_
 exact ⟨_,_,⟨rfl,rfl⟩,(Nat.zero_le _),Gh.toC (n1:=1) ⟨rfl,trivial⟩ rfl (Nat.zero_le _) (by simp)⟩
 replace h7:=q08 h4 h7
 replace h7:=Option.some.inj h7
 subst h7
 refine sr ?_
 refine RS.q (u:=.ptr 0 0 0) rfl (q06 und37 rfl (q00 inf3) rfl rfl rfl) (RS.q (u:=.int .i64 p1.Kind) rfl (q05 und3 rfl rfl rfl rfl) (RS.q rfl (q02 rfl rfl (q0e _ _ _) rfl) (RS.mv rfl rfl rfl rfl (RS.op (u:=.ptr 0 0 1) (want1 rfl rfl rfl h2) (q06 und37 rfl (q00 inf9) rfl rfl rfl) rfl rfl (RS.op (u:=.str p1.Name) (want1 rfl rfl rfl h2) (q05 und9 rfl rfl rfl rfl) rfl rfl (RS.op (u:=.bool (bytesEq p1.Name [])) (want1 rfl rfl rfl h2) (q2w rfl rfl rfl rfl) rfl rfl (RS.q (u:=.bool (bytesEq p1.Name [])) rfl (q04 rfl h2 rfl) ?_)))))))
 refine RS.mv rfl rfl rfl rfl (RS.op (u:=.ptr 0 0 2) (want1 rfl rfl rfl h3) (q06 und37 rfl (q00 inf3) rfl rfl rfl) rfl rfl (RS.op (u:=.int .i64 p1.From) (want1 rfl rfl rfl h3) (q05 und3 rfl rfl rfl rfl) rfl rfl (RS.op (want1 rfl rfl rfl h3) (q02 rfl rfl (q0e _ _ _) rfl) rfl rfl (RS.q (u:=.bool (p1.From == 0)) rfl (q04 rfl h3 rfl) (RS.mv rfl rfl rfl rfl ?_)))))
 repeat refine RS.no (want0 rfl rfl rfl h4) rfl rfl ?_
 refine RS.q (u:=.bool false) rfl (q03 rfl h4 rfl) (RS.mv rfl rfl rfl rfl ?_)
 repeat refine RS.no (want0 rfl rfl rfl rfl) rfl rfl ?_
 refine RS.q (u:=.bool false) rfl (q03 rfl rfl rfl) ?_
 refine sd ?_
 exact ⟨_,_,⟨rfl,rfl⟩,(Nat.zero_le _),Gh.toC (n1:=1) ⟨rfl,trivial⟩ rfl (Nat.zero_le _) (by simp)⟩
 replace h7:=q08 h3 h7
 replace h7:=Option.some.inj h7
 subst h7
 refine sr ?_
 refine RS.q (u:=.ptr 0 0 0) rfl (q06 und37 rfl (q00 inf3) rfl rfl rfl) (RS.q (u:=.int .i64 p1.Kind) rfl (q05 und3 rfl rfl rfl rfl) (RS.q rfl (q02 rfl rfl (q0e _ _ _) rfl) (RS.mv rfl rfl rfl rfl (RS.op (u:=.ptr 0 0 1) (want1 rfl rfl rfl h2) (q06 und37 rfl (q00 inf9) rfl rfl rfl) rfl rfl (RS.op (u:=.str p1.Name) (want1 rfl rfl rfl h2) (q05 und9 rfl rfl rfl rfl) rfl rfl (RS.op (u:=.bool (bytesEq p1.Name [])) (want1 rfl rfl rfl h2) (q2w rfl rfl rfl rfl) rfl rfl (RS.q (u:=.bool (bytesEq p1.Name [])) rfl (q04 rfl h2 rfl) ?_)))))))
 refine RS.mv rfl rfl rfl rfl ?_
 repeat refine RS.no (want0 rfl rfl rfl h3) rfl rfl ?_
 refine RS.q (u:=.bool false) rfl (q03 rfl h3 rfl) (RS.mv rfl rfl rfl rfl ?_)
 repeat refine RS.no (want0 rfl rfl rfl rfl) rfl rfl ?_
 refine RS.q (u:=.bool false) rfl (q03 rfl rfl rfl) (RS.mv rfl rfl rfl rfl ?_)
 repeat refine RS.no (want0 rfl rfl rfl rfl) rfl rfl ?_
 refine RS.q (u:=.bool false) rfl (q03 rfl rfl rfl) ?_
 refine sd ?_
 exact ⟨_,_,⟨rfl,rfl⟩,(Nat.zero_le _),Gh.toC (n1:=1) ⟨rfl,trivial⟩ rfl (Nat.zero_le _) (by simp)⟩
 replace h7:=q08 h2 h7
 replace h7:=Option.some.inj h7
 subst h7
 refine sr ?_
 refine RS.q (u:=.ptr 0 0 0) rfl (q06 und37 rfl (q00 inf3) rfl rfl rfl) (RS.q (u:=.int .i64 p1.Kind) rfl (q05 und3 rfl rfl rfl rfl) (RS.q rfl (q02 rfl rfl (q0e _ _ _) rfl) (RS.mv rfl rfl rfl rfl ?_)))
 repeat refine RS.no (want0 rfl rfl rfl h2) rfl rfl ?_
 refine RS.q (u:=.bool false) rfl (q03 rfl h2 rfl) (RS.mv rfl rfl rfl rfl ?_)
 repeat refine RS.no (want0 rfl rfl rfl rfl) rfl rfl ?_
 refine RS.q (u:=.bool false) rfl (q03 rfl rfl rfl) (RS.mv rfl rfl rfl rfl ?_)
 repeat refine RS.no (want0 rfl rfl rfl rfl) rfl rfl ?_
 refine RS.q (u:=.bool false) rfl (q03 rfl rfl rfl) (RS.mv rfl rfl rfl rfl ?_)
 repeat refine RS.no (want0 rfl rfl rfl rfl) rfl rfl ?_
 refine RS.q (u:=.bool false) rfl (q03 rfl rfl rfl) ?_
 refine sd ?_
 exact ⟨_,_,⟨rfl,rfl⟩,(Nat.zero_le _),Gh.toC (n1:=1) ⟨rfl,trivial⟩ rfl (Nat.zero_le _) (by simp)⟩
theorem q7o (n:Nat) (p1:GDeriv) (r:Bool) (hF:q5k n p1=some r) (σ:Sg):EvU Try.prog 51 [.agg (xGDeriv p1)] σ (fun u σ'=>u = .bool r∧σ'=σ) :=
 EvU.pure1C (chart_zero_0 n p1 r hF) σ
def q2g (p2:GEdge) (z41:Int) (z43:Int):Option (Bool) :=
 bindO (cond (z41 == p2.To)
  (cond (p2.Unary == z43)
   (some (decide (z43≤2)))
   (some false))
  (some false)) fun b46 =>
 some b46
def q41 (p1:GChart) (p2:GEdge) (z41:Int):Option (Bool) :=
 cond ((p2.Kids.length:Int) == 1)
  (bindO (idxO p2.Kids 0) fun x48 =>
  bindO (idxO p1.Edges x48) fun x50 =>
  q2g p2 z41 (IntKind.i64.wrap (x50.Unary+1)))
  (q2g p2 z41 0)
def q2h (p1:GChart) (p2:GEdge):Nat→Int→Int→Option (Bool)
 | 0,_,_=>none
 | m1+1,z39,z40 =>
  cond (decide (z40<(p2.Kids.length:Int)))
   (bindO (idxO p2.Kids z40) fun x53 =>
   bindO (cond (decide (x53<0))
    (some true)
    (cond (decide (x53 ≥ (p1.Edges.length:Int)))
     (some true)
     (bindO (idxO p1.Edges x53) fun x57 =>
     some (x57.From != z39)))) fun b59 =>
   cond b59
    (some false)
    (bindO (idxO p1.Edges x53) fun x62 =>
    (q2h p1 p2 m1) x62.To (IntKind.i64.wrap (z40+1))))
   (q41 p1 p2 z39)
def q2f (n:Nat) (p1:GChart) (p2:GEdge):Option (Bool) :=
 cond (p2.Kind == 1)
  (bindO (cond ((p2.Kids.length:Int) == 0)
   (cond (p2.Unary == 0)
    (bindO (q1m n p2.Lex) fun r6 =>
    cond r6
     (cond (p2.Lex.From == p2.From)
      (cond (p2.Lex.To == p2.To)
       (some (bytesEq p2.Name p2.Lex.Name))
       (some false))
      (some false))
     (some false))
    (some false))
   (some false)) fun b11 =>
  some b11)
  (bindO (cond (bytesEq p2.Name [])
   (some true)
   (bindO (q5k n p2.Lex) fun r14 =>
   cond (!r14)
    (some true)
    (cond ((p2.Kids.length:Int) == 0)
     (some true)
     (some (decide ((p2.Kids.length:Int) > 2)))))) fun b18 =>
  cond b18
   (some false)
   (q2h p1 p2 n p2.From 0))
theorem chart_formed_0 (n:Nat) (p1:GChart) (p2:GEdge) (r:Bool) (hF:q2f n p1 p2=some r):EvU Try.prog 34 [.agg (cGChart p1),.agg (cGEdge p2)] ⟨[],0⟩ (fun u _=>u = .bool r∧Bel 0 u):=by
 unfold q2f at hF
 refine EvU.of_body Try.tb_ok fn34 rfl ?_
 refine WPU.ghost (tm':=fr 134 [(0,.agg (cGChart p1)),(1,.agg (cGEdge p2))]) (Gh.start (Nat.le_of_ble_eq_true rfl)) (Nat.zero_le _) ?_
 refine sr ?_
 refine RS.q (u:=.ptr 0 0 0) (σ':=⟨[(0,.row (cGChart p1) 24)],1⟩) rfl (q2v rfl rfl rfl) (RS.q (u:=.ptr 1 0 0) (σ':=⟨[(1,.row (cGEdge p2) 42),(0,.row (cGChart p1) 24)],2⟩) rfl (q2v rfl rfl rfl) ?_)
 refine se ?_
 refine RS.q (u:=.ptr 1 0 3) rfl (q06 und42 rfl (q00 inf3) rfl rfl rfl) (RS.q (u:=.int .i64 p2.Kind) rfl (q05 und3 rfl rfl rfl rfl) (RS.q rfl (q02 rfl rfl (q0e _ _ _) rfl) ?_))
 refine sd ?_
 refine WPU.condS (t:=(p2.Kind == 1)) rfl (fun h3=>?_) (fun h3=>?_)
 replace hF:=q09 h3 hF
 refine st ?_
 obtain ⟨b11,h12,hF⟩:=q01 hF
 refine WPU.joinK (fun tm σ=>tm=fr 134 [(4,.bool b11)]∧σ=⟨[(1,.row (cGEdge p2) 42),(0,.row (cGChart p1) 24)],2⟩) ?_ ?_
 rintro _ _ ⟨rfl,rfl⟩
 refine st ?_
 refine WPU.ret ?_
 refine st ?_
 have hr:=Option.some.inj hF
 subst hr
 exact ⟨.inr rfl,[.bool b11],q0t rfl (q0q),.bool b11,⟨[],0⟩,Nat.le_refl _,Gh.toR (.bool b11) rfl,rfl,BU.h⟩
 rcases q0j ((p2.Kids.length:Int) == 0) with h4 | h4
 replace h12:=q09 h4 h12
 rcases q0j (p2.Unary == 0) with h5 | h5
 replace h12:=q09 h5 h12
 obtain ⟨r6,h7,h12⟩:=q01 h12
 rcases q0j r6 with h8 | h8
 replace h12:=q09 h8 h12
 rcases q0j (p2.Lex.From == p2.From) with h9 | h9
 replace h12:=q09 h9 h12
 rcases q0j (p2.Lex.To == p2.To) with h10 | h10
 replace h12:=q09 h10 h12
 replace h12:=Option.some.inj h12
 subst h12
 refine sr ?_
 refine RS.q (u:=.ptr 1 0 5) rfl (q06 und42 rfl (q00 inf34) rfl rfl rfl) (RS.q (u:=.isl false (List.map (cI .i64) p2.Kids)) rfl (q05 und34 rfl rfl rfl rfl) (RS.q rfl (q0i rfl rfl rfl (q0d (cI .i64) und34)) (RS.q rfl (q02 rfl rfl (q0e _ _ _) rfl) (RS.mv rfl rfl rfl rfl (RS.op (u:=.ptr 1 0 2) (want1 rfl rfl rfl h4) (q06 und42 rfl (q00 inf3) rfl rfl rfl) rfl rfl (RS.op (u:=.int .i64 p2.Unary) (want1 rfl rfl rfl h4) (q05 und3 rfl rfl rfl rfl) rfl rfl (RS.op (want1 rfl rfl rfl h4) (q02 rfl rfl (q0e _ _ _) rfl) rfl rfl ?_)))))))
 refine RS.q (u:=.bool (p2.Unary == 0)) rfl (q04 rfl h4 rfl) (RS.mv rfl rfl rfl rfl (RS.op (u:=.ptr 1 0 6) (want1 rfl rfl rfl h5) (q06 und42 rfl (q00 inf37) rfl rfl rfl) rfl rfl (RS.op (u:=.agg (xGDeriv p2.Lex)) (want1 rfl rfl rfl h5) (q0f und37 rfl (q00 inf37) rfl rfl rfl) rfl rfl (RS.call (u:=.bool r6) (args:=[.agg (xGDeriv p2.Lex)]) (want1 rfl rfl rfl h5) (q0b rfl rfl fn50 hb50 rfl rfl) (q4n n p2.Lex r6 h7 _) rfl rfl (RS.q (u:=.bool r6) rfl (q04 rfl h5 rfl) (RS.mv rfl rfl rfl rfl (RS.op (u:=.ptr 1 0 6) (want1 rfl rfl rfl h8) (q06 und42 rfl (q00 inf37) rfl rfl rfl) rfl rfl ?_)))))))
 refine RS.op (u:=.ptr 1 0 8) (want1 rfl rfl rfl h8) (q06 und37 rfl (q00 inf3) rfl rfl rfl) rfl rfl (RS.op (u:=.int .i64 p2.Lex.From) (want1 rfl rfl rfl h8) (q05 und3 rfl rfl rfl rfl) rfl rfl (RS.op (u:=.ptr 1 0 0) (want1 rfl rfl rfl h8) (q06 und42 rfl (q00 inf3) rfl rfl rfl) rfl rfl (RS.op (u:=.int .i64 p2.From) (want1 rfl rfl rfl h8) (q05 und3 rfl rfl rfl rfl) rfl rfl (RS.op (want1 rfl rfl rfl h8) (q02 rfl rfl (q0e _ _ _) rfl) rfl rfl (RS.q (u:=.bool (p2.Lex.From == p2.From)) rfl (q04 rfl h8 rfl) (RS.mv rfl rfl rfl rfl (RS.op (u:=.ptr 1 0 6) (want1 rfl rfl rfl h9) (q06 und42 rfl (q00 inf37) rfl rfl rfl) rfl rfl ?_)))))))
 refine RS.op (u:=.ptr 1 0 9) (want1 rfl rfl rfl h9) (q06 und37 rfl (q00 inf3) rfl rfl rfl) rfl rfl (RS.op (u:=.int .i64 p2.Lex.To) (want1 rfl rfl rfl h9) (q05 und3 rfl rfl rfl rfl) rfl rfl (RS.op (u:=.ptr 1 0 1) (want1 rfl rfl rfl h9) (q06 und42 rfl (q00 inf3) rfl rfl rfl) rfl rfl (RS.op (u:=.int .i64 p2.To) (want1 rfl rfl rfl h9) (q05 und3 rfl rfl rfl rfl) rfl rfl (RS.op (want1 rfl rfl rfl h9) (q02 rfl rfl (q0e _ _ _) rfl) rfl rfl (RS.q (u:=.bool (p2.Lex.To == p2.To)) rfl (q04 rfl h9 rfl) (RS.mv rfl rfl rfl rfl (RS.op (u:=.ptr 1 0 4) (want1 rfl rfl rfl h10) (q06 und42 rfl (q00 inf9) rfl rfl rfl) rfl rfl ?_)))))))
 refine RS.op (u:=.str p2.Name) (want1 rfl rfl rfl h10) (q05 und9 rfl rfl rfl rfl) rfl rfl (RS.op (u:=.ptr 1 0 6) (want1 rfl rfl rfl h10) (q06 und42 rfl (q00 inf37) rfl rfl rfl) rfl rfl (RS.op (u:=.ptr 1 0 7) (want1 rfl rfl rfl h10) (q06 und37 rfl (q00 inf9) rfl rfl rfl) rfl rfl (RS.op (u:=.str p2.Lex.Name) (want1 rfl rfl rfl h10) (q05 und9 rfl rfl rfl rfl) rfl rfl (RS.op (u:=.bool (bytesEq p2.Name p2.Lex.Name)) (want1 rfl rfl rfl h10) (q2w rfl rfl rfl rfl) rfl rfl (RS.q (u:=.bool (bytesEq p2.Name p2.Lex.Name)) rfl (q04 rfl h10 rfl) ?_)))))
 refine sd ?_
 exact ⟨_,_,⟨rfl,rfl⟩,(Nat.zero_le _),Gh.toC (n1:=2) ⟨rfl,trivial⟩ rfl (Nat.zero_le _) (by simp)⟩
 replace h12:=q08 h10 h12
 replace h12:=Option.some.inj h12
 subst h12
 refine sr ?_
 refine RS.q (u:=.ptr 1 0 5) rfl (q06 und42 rfl (q00 inf34) rfl rfl rfl) (RS.q (u:=.isl false (List.map (cI .i64) p2.Kids)) rfl (q05 und34 rfl rfl rfl rfl) (RS.q rfl (q0i rfl rfl rfl (q0d (cI .i64) und34)) (RS.q rfl (q02 rfl rfl (q0e _ _ _) rfl) (RS.mv rfl rfl rfl rfl (RS.op (u:=.ptr 1 0 2) (want1 rfl rfl rfl h4) (q06 und42 rfl (q00 inf3) rfl rfl rfl) rfl rfl (RS.op (u:=.int .i64 p2.Unary) (want1 rfl rfl rfl h4) (q05 und3 rfl rfl rfl rfl) rfl rfl (RS.op (want1 rfl rfl rfl h4) (q02 rfl rfl (q0e _ _ _) rfl) rfl rfl ?_)))))))
 refine RS.q (u:=.bool (p2.Unary == 0)) rfl (q04 rfl h4 rfl) (RS.mv rfl rfl rfl rfl (RS.op (u:=.ptr 1 0 6) (want1 rfl rfl rfl h5) (q06 und42 rfl (q00 inf37) rfl rfl rfl) rfl rfl (RS.op (u:=.agg (xGDeriv p2.Lex)) (want1 rfl rfl rfl h5) (q0f und37 rfl (q00 inf37) rfl rfl rfl) rfl rfl (RS.call (u:=.bool r6) (args:=[.agg (xGDeriv p2.Lex)]) (want1 rfl rfl rfl h5) (q0b rfl rfl fn50 hb50 rfl rfl) (q4n n p2.Lex r6 h7 _) rfl rfl (RS.q (u:=.bool r6) rfl (q04 rfl h5 rfl) (RS.mv rfl rfl rfl rfl (RS.op (u:=.ptr 1 0 6) (want1 rfl rfl rfl h8) (q06 und42 rfl (q00 inf37) rfl rfl rfl) rfl rfl ?_)))))))
 refine RS.op (u:=.ptr 1 0 8) (want1 rfl rfl rfl h8) (q06 und37 rfl (q00 inf3) rfl rfl rfl) rfl rfl (RS.op (u:=.int .i64 p2.Lex.From) (want1 rfl rfl rfl h8) (q05 und3 rfl rfl rfl rfl) rfl rfl (RS.op (u:=.ptr 1 0 0) (want1 rfl rfl rfl h8) (q06 und42 rfl (q00 inf3) rfl rfl rfl) rfl rfl (RS.op (u:=.int .i64 p2.From) (want1 rfl rfl rfl h8) (q05 und3 rfl rfl rfl rfl) rfl rfl (RS.op (want1 rfl rfl rfl h8) (q02 rfl rfl (q0e _ _ _) rfl) rfl rfl (RS.q (u:=.bool (p2.Lex.From == p2.From)) rfl (q04 rfl h8 rfl) (RS.mv rfl rfl rfl rfl (RS.op (u:=.ptr 1 0 6) (want1 rfl rfl rfl h9) (q06 und42 rfl (q00 inf37) rfl rfl rfl) rfl rfl ?_)))))))
 refine RS.op (u:=.ptr 1 0 9) (want1 rfl rfl rfl h9) (q06 und37 rfl (q00 inf3) rfl rfl rfl) rfl rfl (RS.op (u:=.int .i64 p2.Lex.To) (want1 rfl rfl rfl h9) (q05 und3 rfl rfl rfl rfl) rfl rfl (RS.op (u:=.ptr 1 0 1) (want1 rfl rfl rfl h9) (q06 und42 rfl (q00 inf3) rfl rfl rfl) rfl rfl (RS.op (u:=.int .i64 p2.To) (want1 rfl rfl rfl h9) (q05 und3 rfl rfl rfl rfl) rfl rfl (RS.op (want1 rfl rfl rfl h9) (q02 rfl rfl (q0e _ _ _) rfl) rfl rfl (RS.q (u:=.bool (p2.Lex.To == p2.To)) rfl (q04 rfl h9 rfl) (RS.mv rfl rfl rfl rfl ?_))))))
 repeat refine RS.no (want0 rfl rfl rfl h10) rfl rfl ?_
 refine RS.q (u:=.bool false) rfl (q03 rfl h10 rfl) ?_
 refine sd ?_
 exact ⟨_,_,⟨rfl,rfl⟩,(Nat.zero_le _),Gh.toC (n1:=2) ⟨rfl,trivial⟩ rfl (Nat.zero_le _) (by simp)⟩
 replace h12:=q08 h9 h12
 replace h12:=Option.some.inj h12
 subst h12
 refine sr ?_
 refine RS.q (u:=.ptr 1 0 5) rfl (q06 und42 rfl (q00 inf34) rfl rfl rfl) (RS.q (u:=.isl false (List.map (cI .i64) p2.Kids)) rfl (q05 und34 rfl rfl rfl rfl) (RS.q rfl (q0i rfl rfl rfl (q0d (cI .i64) und34)) (RS.q rfl (q02 rfl rfl (q0e _ _ _) rfl) (RS.mv rfl rfl rfl rfl (RS.op (u:=.ptr 1 0 2) (want1 rfl rfl rfl h4) (q06 und42 rfl (q00 inf3) rfl rfl rfl) rfl rfl (RS.op (u:=.int .i64 p2.Unary) (want1 rfl rfl rfl h4) (q05 und3 rfl rfl rfl rfl) rfl rfl (RS.op (want1 rfl rfl rfl h4) (q02 rfl rfl (q0e _ _ _) rfl) rfl rfl ?_)))))))
 refine RS.q (u:=.bool (p2.Unary == 0)) rfl (q04 rfl h4 rfl) (RS.mv rfl rfl rfl rfl (RS.op (u:=.ptr 1 0 6) (want1 rfl rfl rfl h5) (q06 und42 rfl (q00 inf37) rfl rfl rfl) rfl rfl (RS.op (u:=.agg (xGDeriv p2.Lex)) (want1 rfl rfl rfl h5) (q0f und37 rfl (q00 inf37) rfl rfl rfl) rfl rfl (RS.call (u:=.bool r6) (args:=[.agg (xGDeriv p2.Lex)]) (want1 rfl rfl rfl h5) (q0b rfl rfl fn50 hb50 rfl rfl) (q4n n p2.Lex r6 h7 _) rfl rfl (RS.q (u:=.bool r6) rfl (q04 rfl h5 rfl) (RS.mv rfl rfl rfl rfl (RS.op (u:=.ptr 1 0 6) (want1 rfl rfl rfl h8) (q06 und42 rfl (q00 inf37) rfl rfl rfl) rfl rfl ?_)))))))
 refine RS.op (u:=.ptr 1 0 8) (want1 rfl rfl rfl h8) (q06 und37 rfl (q00 inf3) rfl rfl rfl) rfl rfl (RS.op (u:=.int .i64 p2.Lex.From) (want1 rfl rfl rfl h8) (q05 und3 rfl rfl rfl rfl) rfl rfl (RS.op (u:=.ptr 1 0 0) (want1 rfl rfl rfl h8) (q06 und42 rfl (q00 inf3) rfl rfl rfl) rfl rfl (RS.op (u:=.int .i64 p2.From) (want1 rfl rfl rfl h8) (q05 und3 rfl rfl rfl rfl) rfl rfl (RS.op (want1 rfl rfl rfl h8) (q02 rfl rfl (q0e _ _ _) rfl) rfl rfl (RS.q (u:=.bool (p2.Lex.From == p2.From)) rfl (q04 rfl h8 rfl) (RS.mv rfl rfl rfl rfl ?_))))))
 repeat refine RS.no (want0 rfl rfl rfl h9) rfl rfl ?_
 refine RS.q (u:=.bool false) rfl (q03 rfl h9 rfl) (RS.mv rfl rfl rfl rfl ?_)
 repeat refine RS.no (want0 rfl rfl rfl rfl) rfl rfl ?_
 refine RS.q (u:=.bool false) rfl (q03 rfl rfl rfl) ?_
 refine sd ?_
 exact ⟨_,_,⟨rfl,rfl⟩,(Nat.zero_le _),Gh.toC (n1:=2) ⟨rfl,trivial⟩ rfl (Nat.zero_le _) (by simp)⟩
 replace h12:=q08 h8 h12
 replace h12:=Option.some.inj h12
 subst h12
 refine sr ?_
 refine RS.q (u:=.ptr 1 0 5) rfl (q06 und42 rfl (q00 inf34) rfl rfl rfl) (RS.q (u:=.isl false (List.map (cI .i64) p2.Kids)) rfl (q05 und34 rfl rfl rfl rfl) (RS.q rfl (q0i rfl rfl rfl (q0d (cI .i64) und34)) (RS.q rfl (q02 rfl rfl (q0e _ _ _) rfl) (RS.mv rfl rfl rfl rfl (RS.op (u:=.ptr 1 0 2) (want1 rfl rfl rfl h4) (q06 und42 rfl (q00 inf3) rfl rfl rfl) rfl rfl (RS.op (u:=.int .i64 p2.Unary) (want1 rfl rfl rfl h4) (q05 und3 rfl rfl rfl rfl) rfl rfl (RS.op (want1 rfl rfl rfl h4) (q02 rfl rfl (q0e _ _ _) rfl) rfl rfl ?_)))))))
 refine RS.q (u:=.bool (p2.Unary == 0)) rfl (q04 rfl h4 rfl) (RS.mv rfl rfl rfl rfl (RS.op (u:=.ptr 1 0 6) (want1 rfl rfl rfl h5) (q06 und42 rfl (q00 inf37) rfl rfl rfl) rfl rfl (RS.op (u:=.agg (xGDeriv p2.Lex)) (want1 rfl rfl rfl h5) (q0f und37 rfl (q00 inf37) rfl rfl rfl) rfl rfl (RS.call (u:=.bool r6) (args:=[.agg (xGDeriv p2.Lex)]) (want1 rfl rfl rfl h5) (q0b rfl rfl fn50 hb50 rfl rfl) (q4n n p2.Lex r6 h7 _) rfl rfl (RS.q (u:=.bool r6) rfl (q04 rfl h5 rfl) (RS.mv rfl rfl rfl rfl ?_))))))
 repeat refine RS.no (want0 rfl rfl rfl h8) rfl rfl ?_
 refine RS.q (u:=.bool false) rfl (q03 rfl h8 rfl) (RS.mv rfl rfl rfl rfl ?_)
 repeat refine RS.no (want0 rfl rfl rfl rfl) rfl rfl ?_
 refine RS.q (u:=.bool false) rfl (q03 rfl rfl rfl) (RS.mv rfl rfl rfl rfl ?_)
 repeat refine RS.no (want0 rfl rfl rfl rfl) rfl rfl ?_
 refine RS.q (u:=.bool false) rfl (q03 rfl rfl rfl) ?_
 refine sd ?_
 exact ⟨_,_,⟨rfl,rfl⟩,(Nat.zero_le _),Gh.toC (n1:=2) ⟨rfl,trivial⟩ rfl (Nat.zero_le _) (by simp)⟩
 replace h12:=q08 h5 h12
 replace h12:=Option.some.inj h12
 subst h12
 refine sr ?_
 refine RS.q (u:=.ptr 1 0 5) rfl (q06 und42 rfl (q00 inf34) rfl rfl rfl) (RS.q (u:=.isl false (List.map (cI .i64) p2.Kids)) rfl (q05 und34 rfl rfl rfl rfl) (RS.q rfl (q0i rfl rfl rfl (q0d (cI .i64) und34)) (RS.q rfl (q02 rfl rfl (q0e _ _ _) rfl) (RS.mv rfl rfl rfl rfl (RS.op (u:=.ptr 1 0 2) (want1 rfl rfl rfl h4) (q06 und42 rfl (q00 inf3) rfl rfl rfl) rfl rfl (RS.op (u:=.int .i64 p2.Unary) (want1 rfl rfl rfl h4) (q05 und3 rfl rfl rfl rfl) rfl rfl (RS.op (want1 rfl rfl rfl h4) (q02 rfl rfl (q0e _ _ _) rfl) rfl rfl ?_)))))))
 refine RS.q (u:=.bool (p2.Unary == 0)) rfl (q04 rfl h4 rfl) (RS.mv rfl rfl rfl rfl ?_)
 repeat refine RS.no (want0 rfl rfl rfl h5) rfl rfl ?_
 refine RS.q (u:=.bool false) rfl (q03 rfl h5 rfl) (RS.mv rfl rfl rfl rfl ?_)
 repeat refine RS.no (want0 rfl rfl rfl rfl) rfl rfl ?_
 refine RS.q (u:=.bool false) rfl (q03 rfl rfl rfl) (RS.mv rfl rfl rfl rfl ?_)
 repeat refine RS.no (want0 rfl rfl rfl rfl) rfl rfl ?_
 refine RS.q (u:=.bool false) rfl (q03 rfl rfl rfl) (RS.mv rfl rfl rfl rfl ?_)
 repeat refine RS.no (want0 rfl rfl rfl rfl) rfl rfl ?_
 refine RS.q (u:=.bool false) rfl (q03 rfl rfl rfl) ?_
 refine sd ?_
 exact ⟨_,_,⟨rfl,rfl⟩,(Nat.zero_le _),Gh.toC (n1:=2) ⟨rfl,trivial⟩ rfl (Nat.zero_le _) (by simp)⟩
 replace h12:=q08 h4 h12
 replace h12:=Option.some.inj h12
 subst h12
 refine sr ?_
 refine RS.q (u:=.ptr 1 0 5) rfl (q06 und42 rfl (q00 inf34) rfl rfl rfl) (RS.q (u:=.isl false (List.map (cI .i64) p2.Kids)) rfl (q05 und34 rfl rfl rfl rfl) (RS.q rfl (q0i rfl rfl rfl (q0d (cI .i64) und34)) (RS.q rfl (q02 rfl rfl (q0e _ _ _) rfl) (RS.mv rfl rfl rfl rfl ?_))))
 repeat refine RS.no (want0 rfl rfl rfl h4) rfl rfl ?_
 refine RS.q (u:=.bool false) rfl (q03 rfl h4 rfl) (RS.mv rfl rfl rfl rfl ?_)
 repeat refine RS.no (want0 rfl rfl rfl rfl) rfl rfl ?_
 refine RS.q (u:=.bool false) rfl (q03 rfl rfl rfl) (RS.mv rfl rfl rfl rfl ?_)
 repeat refine RS.no (want0 rfl rfl rfl rfl) rfl rfl ?_
 refine RS.q (u:=.bool false) rfl (q03 rfl rfl rfl) (RS.mv rfl rfl rfl rfl ?_)
 repeat refine RS.no (want0 rfl rfl rfl rfl) rfl rfl ?_
 refine RS.q (u:=.bool false) rfl (q03 rfl rfl rfl) (RS.mv rfl rfl rfl rfl ?_)
 repeat refine RS.no (want0 rfl rfl rfl rfl) rfl rfl ?_
 refine RS.q (u:=.bool false) rfl (q03 rfl rfl rfl) ?_
 refine sd ?_
 exact ⟨_,_,⟨rfl,rfl⟩,(Nat.zero_le _),Gh.toC (n1:=2) ⟨rfl,trivial⟩ rfl (Nat.zero_le _) (by simp)⟩
 replace hF:=q08 h3 hF
 refine st ?_
 refine WPU.skip ?_
 refine st ?_
 obtain ⟨b18,h19,hF⟩:=q01 hF
 refine WPU.joinK (fun tm σ=>tm=fr 134 [(2,.ptr 0 0 0),(3,.ptr 1 0 0),(70,.bool b18)]∧σ=⟨[(1,.row (cGEdge p2) 42),(0,.row (cGChart p1) 24)],2⟩) ?_ ?_
 rintro _ _ ⟨rfl,rfl⟩
 refine st ?_
 refine WPU.condS (t:=b18) rfl (fun h20=>?_) (fun h20=>?_)
 replace hF:=q09 h20 hF
 refine sr ?_
 refine sd ?_
 refine WPU.ret ?_
 refine st ?_
 have hr:=Option.some.inj hF
 subst hr
 exact ⟨.inr rfl,[.bool false],q0t rfl (q0q),.bool false,⟨[],0⟩,Nat.le_refl _,Gh.toR (.bool false) rfl,rfl,BU.h⟩
 replace hF:=q08 h20 hF
 refine st ?_
 refine WPU.skip ?_
 refine sr ?_
 refine RS.q (u:=.ptr 1 0 0) rfl (q06 und42 rfl (q00 inf3) rfl rfl rfl) (RS.q (u:=.int .i64 p2.From) rfl (q05 und3 rfl rfl rfl rfl) ?_)
 refine se ?_
 refine RS.q (u:=.ptr 1 0 5) rfl (q06 und42 rfl (q00 inf34) rfl rfl rfl) (RS.q (u:=.isl false (List.map (cI .i64) p2.Kids)) rfl (q05 und34 rfl rfl rfl rfl) (RS.q rfl (q0i rfl rfl rfl (q0d (cI .i64) und34)) (RS.mv rfl rfl rfl rfl ?_)))
 refine sd ?_
 refine WPU.ghost (tm':=fr 134 [(2,.ptr 0 0 0),(3,.ptr 1 0 0),(5,.int .i64 p2.From),(74,.isl false (List.map (cI .i64) p2.Kids)),(75,.int .i64 (p2.Kids.length:Int)),(76,.int .i64 0)]) (Gh.sub ⟨rfl,rfl,rfl,rfl,rfl,rfl,trivial⟩) (Nat.zero_le _) ?_
 refine WPU.loopK (fun m tm σ=>∃ z39:Int,∃ z40:Int,q2h p1 p2 m z39 z40=some r∧tm=fr 134 [(2,.ptr 0 0 0),(3,.ptr 1 0 0),(5,.int .i64 z39),(74,.isl false (List.map (cI .i64) p2.Kids)),(75,.int .i64 (p2.Kids.length:Int)),(76,.int .i64 z40)]∧σ=⟨[(1,.row (cGEdge p2) 42),(0,.row (cGChart p1) 24)],2⟩) (fun tm σ=>∃ z41:Int,q41 p1 p2 z41=some r∧tm=fr 134 [(2,.ptr 0 0 0),(3,.ptr 1 0 0),(5,.int .i64 z41)]∧σ=⟨[(1,.row (cGEdge p2) 42),(0,.row (cGChart p1) 24)],2⟩) n ⟨p2.From,0,hF,rfl,rfl⟩ ?_ ?_
 rintro _ _ ⟨z41,hF,rfl,rfl⟩
 unfold q41 at hF
 refine sr ?_
 refine se ?_
 refine RS.q (u:=.ptr 1 0 5) rfl (q06 und42 rfl (q00 inf34) rfl rfl rfl) (RS.q (u:=.isl false (List.map (cI .i64) p2.Kids)) rfl (q05 und34 rfl rfl rfl rfl) (RS.q rfl (q0i rfl rfl rfl (q0d (cI .i64) und34)) (RS.q rfl (q02 rfl rfl (q0e _ _ _) rfl) ?_)))
 refine sd ?_
 refine WPU.joinK (fun tm σ=>∃ z43:Int,q2g p2 z41 z43=some r∧tm=fr 134 [(3,.ptr 1 0 0),(5,.int .i64 z41),(8,.int .i64 z43)]∧σ=⟨[(1,.row (cGEdge p2) 42),(0,.row (cGChart p1) 24)],2⟩) ?_ ?_
 rintro _ _ ⟨z43,hF,rfl,rfl⟩
 unfold q2g at hF
 refine st ?_
 obtain ⟨b46,h47,hF⟩:=q01 hF
 refine WPU.joinK (fun tm σ=>tm=fr 134 [(4,.bool b46)]∧σ=⟨[(1,.row (cGEdge p2) 42),(0,.row (cGChart p1) 24)],2⟩) ?_ ?_
 rintro _ _ ⟨rfl,rfl⟩
 refine st ?_
 refine WPU.ret ?_
 refine st ?_
 have hr:=Option.some.inj hF
 subst hr
 exact ⟨.inr rfl,[.bool b46],q0t rfl (q0q),.bool b46,⟨[],0⟩,Nat.le_refl _,Gh.toR (.bool b46) rfl,rfl,BU.h⟩
 rcases q0j (z41 == p2.To) with h44 | h44
 replace h47:=q09 h44 h47
 rcases q0j (p2.Unary == z43) with h45 | h45
 replace h47:=q09 h45 h47
 replace h47:=Option.some.inj h47
 subst h47
 refine sr ?_
 refine RS.q (u:=.ptr 1 0 1) rfl (q06 und42 rfl (q00 inf3) rfl rfl rfl) (RS.q (u:=.int .i64 p2.To) rfl (q05 und3 rfl rfl rfl rfl) (RS.q rfl (q02 rfl rfl (q0e _ _ _) rfl) (RS.mv rfl rfl rfl rfl (RS.op (u:=.ptr 1 0 2) (want1 rfl rfl rfl h44) (q06 und42 rfl (q00 inf3) rfl rfl rfl) rfl rfl (RS.op (u:=.int .i64 p2.Unary) (want1 rfl rfl rfl h44) (q05 und3 rfl rfl rfl rfl) rfl rfl (RS.op (want1 rfl rfl rfl h44) (q07 rfl) rfl rfl (RS.op (want1 rfl rfl rfl h44) (q02 rfl rfl (q0e _ _ _) rfl) rfl rfl ?_)))))))
 refine RS.q (u:=.bool (p2.Unary == z43)) rfl (q04 rfl h44 rfl) (RS.mv rfl rfl rfl rfl (RS.op (want1 rfl rfl rfl h45) (q07 rfl) rfl rfl (RS.op (want1 rfl rfl rfl h45) (q02 rfl rfl (ix_leq _ _ _) rfl) rfl rfl (RS.q (u:=.bool (decide (z43≤2))) rfl (q04 rfl h45 rfl) ?_))))
 refine sd ?_
 exact ⟨_,_,⟨rfl,rfl⟩,(Nat.zero_le _),Gh.toC (n1:=2) ⟨rfl,trivial⟩ rfl (Nat.zero_le _) (by simp)⟩
 replace h47:=q08 h45 h47
 replace h47:=Option.some.inj h47
 subst h47
 refine sr ?_
 refine RS.q (u:=.ptr 1 0 1) rfl (q06 und42 rfl (q00 inf3) rfl rfl rfl) (RS.q (u:=.int .i64 p2.To) rfl (q05 und3 rfl rfl rfl rfl) (RS.q rfl (q02 rfl rfl (q0e _ _ _) rfl) (RS.mv rfl rfl rfl rfl (RS.op (u:=.ptr 1 0 2) (want1 rfl rfl rfl h44) (q06 und42 rfl (q00 inf3) rfl rfl rfl) rfl rfl (RS.op (u:=.int .i64 p2.Unary) (want1 rfl rfl rfl h44) (q05 und3 rfl rfl rfl rfl) rfl rfl (RS.op (want1 rfl rfl rfl h44) (q07 rfl) rfl rfl (RS.op (want1 rfl rfl rfl h44) (q02 rfl rfl (q0e _ _ _) rfl) rfl rfl ?_)))))))
 refine RS.q (u:=.bool (p2.Unary == z43)) rfl (q04 rfl h44 rfl) (RS.mv rfl rfl rfl rfl ?_)
 repeat refine RS.no (want0 rfl rfl rfl h45) rfl rfl ?_
 refine RS.q (u:=.bool false) rfl (q03 rfl h45 rfl) ?_
 refine sd ?_
 exact ⟨_,_,⟨rfl,rfl⟩,(Nat.zero_le _),Gh.toC (n1:=2) ⟨rfl,trivial⟩ rfl (Nat.zero_le _) (by simp)⟩
 replace h47:=q08 h44 h47
 replace h47:=Option.some.inj h47
 subst h47
 refine sr ?_
 refine RS.q (u:=.ptr 1 0 1) rfl (q06 und42 rfl (q00 inf3) rfl rfl rfl) (RS.q (u:=.int .i64 p2.To) rfl (q05 und3 rfl rfl rfl rfl) (RS.q rfl (q02 rfl rfl (q0e _ _ _) rfl) (RS.mv rfl rfl rfl rfl ?_)))
 repeat refine RS.no (want0 rfl rfl rfl h44) rfl rfl ?_
 refine RS.q (u:=.bool false) rfl (q03 rfl h44 rfl) (RS.mv rfl rfl rfl rfl ?_)
 repeat refine RS.no (want0 rfl rfl rfl rfl) rfl rfl ?_
 refine RS.q (u:=.bool false) rfl (q03 rfl rfl rfl) ?_
 refine sd ?_
 exact ⟨_,_,⟨rfl,rfl⟩,(Nat.zero_le _),Gh.toC (n1:=2) ⟨rfl,trivial⟩ rfl (Nat.zero_le _) (by simp)⟩
 refine WPU.condS (t:=((p2.Kids.length:Int) == 1)) rfl (fun h42=>?_) (fun h42=>?_)
 replace hF:=q09 h42 hF
 refine st ?_
 obtain ⟨x48,h49,hF⟩:=q01 hF
 obtain ⟨x50,h51,hF⟩:=q01 hF
 refine WPU.drawE Try.tb_ok [] (by kernel_rfl) ?_
 refine RD.q (u:=.ptr 0 0 1) rfl (q06 und24 rfl (q00 inf22) rfl rfl rfl) (RD.q (u:=.isl false (List.map cGEdge p1.Edges)) rfl (q05 und22 rfl rfl rfl rfl) (RD.q (u:=.ptr 1 0 5) rfl (q06 und42 rfl (q00 inf34) rfl rfl rfl) (RD.q (u:=.isl false (List.map (cI .i64) p2.Kids)) rfl (q05 und34 rfl rfl rfl rfl) (RD.q (u:=.iptr [.int .i64 x48]) rfl (q13 rfl rfl (q0n (cI .i64) und34 (q00 inf3) (q27 .i64) h49 rfl)) (RD.q (u:=.int .i64 x48) rfl (q1c und3 rfl rfl rfl) (RD.q (u:=.iptr (cGEdge x50)) rfl (q13 rfl rfl (q0n cGEdge und22 (q00 inf42) q0h h51 rfl)) (RD.q (u:=.iptr [.int .i64 x50.Unary,.int .i64 x50.Kind,.str x50.Name,.isl false (List.map (cI .i64) x50.Kids),.int .i64 x50.Lex.Kind,.str x50.Lex.Name,.int .i64 x50.Lex.From,.int .i64 x50.Lex.To,.isl false (List.map cGDeriv x50.Lex.Kids),.isl false (List.map cGNode x50.FS.Nodes)]) rfl (q58 und42 rfl (q00 inf3) rfl rfl) ?_)))))))
 refine RD.q (u:=.int .i64 x50.Unary) rfl (q1c und3 rfl rfl rfl) (RD.q rfl (q02 rfl rfl (q32 _ _ _) rfl) (RD.as rfl rfl rfl rfl ?_))
 refine RD.done ⟨by kernel_rfl,trivial,?_⟩
 refine st ?_
 exact ⟨_,_,⟨(IntKind.i64.wrap (x50.Unary+1)),hF,rfl,rfl⟩,(Nat.zero_le _),Gh.toC (n1:=2) ⟨rfl,rfl,rfl,trivial⟩ rfl (Nat.zero_le _) (by simp)⟩
 replace hF:=q08 h42 hF
 refine st ?_
 refine WPU.skip ?_
 refine st ?_
 exact ⟨_,_,⟨0,hF,rfl,rfl⟩,(Nat.zero_le _),Gh.toC (n1:=2) ⟨rfl,rfl,rfl,trivial⟩ rfl (Nat.zero_le _) (by simp)⟩
 rintro m1 _ _ ⟨z39,z40,hF,rfl,rfl⟩
 rcases m1 with _ | m1
 cases hF
 unfold q2h at hF
 refine sr ?_
 refine RS.q rfl (q02 rfl rfl (q1i _ _ _) rfl) ?_
 refine sd ?_
 refine WPU.condS (t:=(decide (z40<(p2.Kids.length:Int)))) rfl (fun h52=>?_) (fun h52=>?_)
 replace hF:=q09 h52 hF
 refine st ?_
 refine WPU.skip ?_
 refine st ?_
 refine WPU.block ?_
 refine st ?_
 obtain ⟨x53,h54,hF⟩:=q01 hF
 refine sr ?_
 refine RS.q (u:=.iptr [.int .i64 x53]) rfl (q13 rfl rfl (q0n (cI .i64) und34 (q00 inf3) (q27 .i64) h54 rfl)) (RS.q (u:=.int .i64 x53) rfl (q1c und3 rfl rfl rfl) ?_)
 refine sd ?_
 obtain ⟨b59,h60,hF⟩:=q01 hF
 refine WPU.joinK (fun tm σ=>tm=fr 134 [(2,.ptr 0 0 0),(3,.ptr 1 0 0),(7,.int .i64 x53),(74,.isl false (List.map (cI .i64) p2.Kids)),(75,.int .i64 (p2.Kids.length:Int)),(76,.int .i64 z40),(98,.bool b59)]∧σ=⟨[(1,.row (cGEdge p2) 42),(0,.row (cGChart p1) 24)],2⟩) ?_ ?_
 rintro _ _ ⟨rfl,rfl⟩
 refine st ?_
 refine WPU.condS (t:=b59) rfl (fun h61=>?_) (fun h61=>?_)
 replace hF:=q09 h61 hF
 refine sr ?_
 refine sd ?_
 refine WPU.ret ?_
 refine st ?_
 have hr:=Option.some.inj hF
 subst hr
 exact ⟨.inr rfl,[.bool false],q0t rfl (q0q),.bool false,⟨[],0⟩,Nat.le_refl _,Gh.toR (.bool false) rfl,rfl,BU.h⟩
 replace hF:=q08 h61 hF
 refine st ?_
 refine WPU.skip ?_
 refine st ?_
 obtain ⟨x62,h63,hF⟩:=q01 hF
 refine sr ?_
 refine RS.q (u:=.ptr 0 0 1) rfl (q06 und24 rfl (q00 inf22) rfl rfl rfl) (RS.q (u:=.isl false (List.map cGEdge p1.Edges)) rfl (q05 und22 rfl rfl rfl rfl) (RS.mv rfl rfl rfl rfl (RS.q (u:=.iptr (cGEdge x62)) rfl (q13 rfl rfl (q0n cGEdge und22 (q00 inf42) q0h h63 rfl)) (RS.q (u:=.iptr [.int .i64 x62.To,.int .i64 x62.Unary,.int .i64 x62.Kind,.str x62.Name,.isl false (List.map (cI .i64) x62.Kids),.int .i64 x62.Lex.Kind,.str x62.Lex.Name,.int .i64 x62.Lex.From,.int .i64 x62.Lex.To,.isl false (List.map cGDeriv x62.Lex.Kids),.isl false (List.map cGNode x62.FS.Nodes)]) rfl (q58 und42 rfl (q00 inf3) rfl rfl) (RS.q (u:=.int .i64 x62.To) rfl (q1c und3 rfl rfl rfl) ?_)))))
 refine se ?_
 refine RS.q rfl (q02 rfl rfl (q32 _ _ _) rfl) (RS.mv rfl rfl rfl rfl ?_)
 refine sd ?_
 exact ⟨m1,_,_,Nat.lt_succ_self _,⟨x62.To,(IntKind.i64.wrap (z40+1)),hF,rfl,rfl⟩,(Nat.zero_le _),Gh.toC (n1:=2) ⟨rfl,rfl,rfl,rfl,rfl,rfl,trivial⟩ rfl (Nat.zero_le _) (by simp)⟩
 rcases q0j (decide (x53<0)) with h55 | h55
 replace h60:=q09 h55 h60
 replace h60:=Option.some.inj h60
 subst h60
 refine sr ?_
 refine RS.q rfl (q02 rfl rfl (q1i _ _ _) rfl) (RS.mv rfl rfl rfl rfl ?_)
 repeat refine RS.no (want0 rfl rfl rfl h55) rfl rfl ?_
 refine RS.q (u:=.bool true) rfl (q04 rfl h55 rfl) (RS.mv rfl rfl rfl rfl ?_)
 repeat refine RS.no (want0 rfl rfl rfl rfl) rfl rfl ?_
 refine RS.q (u:=.bool true) rfl (q04 rfl rfl rfl) ?_
 refine sd ?_
 exact ⟨_,_,⟨rfl,rfl⟩,(Nat.zero_le _),Gh.toC (n1:=2) ⟨rfl,rfl,rfl,rfl,rfl,rfl,rfl,trivial⟩ rfl (Nat.zero_le _) (by simp)⟩
 replace h60:=q08 h55 h60
 rcases q0j (decide (x53 ≥ (p1.Edges.length:Int))) with h56 | h56
 replace h60:=q09 h56 h60
 replace h60:=Option.some.inj h60
 subst h60
 refine sr ?_
 refine RS.q rfl (q02 rfl rfl (q1i _ _ _) rfl) (RS.mv rfl rfl rfl rfl (RS.op (want1 rfl rfl rfl h55) (q07 rfl) rfl rfl (RS.op (u:=.ptr 0 0 1) (want1 rfl rfl rfl h55) (q06 und24 rfl (q00 inf22) rfl rfl rfl) rfl rfl (RS.op (u:=.isl false (List.map cGEdge p1.Edges)) (want1 rfl rfl rfl h55) (q05 und22 rfl rfl rfl rfl) rfl rfl (RS.op (want1 rfl rfl rfl h55) (q0i rfl rfl rfl (q0d cGEdge und22)) rfl rfl (RS.op (want1 rfl rfl rfl h55) (q02 rfl rfl (ix_geq _ _ _) rfl) rfl rfl (RS.q (u:=.bool (decide (x53 ≥ (p1.Edges.length:Int)))) rfl (q03 rfl h55 rfl) ?_)))))))
 refine RS.mv rfl rfl rfl rfl ?_
 repeat refine RS.no (want0 rfl rfl rfl h56) rfl rfl ?_
 refine RS.q (u:=.bool true) rfl (q04 rfl h56 rfl) ?_
 refine sd ?_
 exact ⟨_,_,⟨rfl,rfl⟩,(Nat.zero_le _),Gh.toC (n1:=2) ⟨rfl,rfl,rfl,rfl,rfl,rfl,rfl,trivial⟩ rfl (Nat.zero_le _) (by simp)⟩
 replace h60:=q08 h56 h60
 obtain ⟨x57,h58,h60⟩:=q01 h60
 replace h60:=Option.some.inj h60
 subst h60
 refine sr ?_
 refine RS.q rfl (q02 rfl rfl (q1i _ _ _) rfl) (RS.mv rfl rfl rfl rfl (RS.op (want1 rfl rfl rfl h55) (q07 rfl) rfl rfl (RS.op (u:=.ptr 0 0 1) (want1 rfl rfl rfl h55) (q06 und24 rfl (q00 inf22) rfl rfl rfl) rfl rfl (RS.op (u:=.isl false (List.map cGEdge p1.Edges)) (want1 rfl rfl rfl h55) (q05 und22 rfl rfl rfl rfl) rfl rfl (RS.op (want1 rfl rfl rfl h55) (q0i rfl rfl rfl (q0d cGEdge und22)) rfl rfl (RS.op (want1 rfl rfl rfl h55) (q02 rfl rfl (ix_geq _ _ _) rfl) rfl rfl (RS.q (u:=.bool (decide (x53 ≥ (p1.Edges.length:Int)))) rfl (q03 rfl h55 rfl) ?_)))))))
 refine RS.mv rfl rfl rfl rfl (RS.op (u:=.ptr 0 0 1) (want1 rfl rfl rfl h56) (q06 und24 rfl (q00 inf22) rfl rfl rfl) rfl rfl (RS.op (u:=.isl false (List.map cGEdge p1.Edges)) (want1 rfl rfl rfl h56) (q05 und22 rfl rfl rfl rfl) rfl rfl (RS.op (want1 rfl rfl rfl h56) (q07 rfl) rfl rfl (RS.op (u:=.iptr (cGEdge x57)) (want1 rfl rfl rfl h56) (q13 rfl rfl (q0n cGEdge und22 (q00 inf42) q0h h58 rfl)) rfl rfl (RS.op (u:=.iptr (cGEdge x57)) (want1 rfl rfl rfl h56) (q58 und42 rfl (q00 inf3) rfl rfl) rfl rfl (RS.op (u:=.int .i64 x57.From) (want1 rfl rfl rfl h56) (q1c und3 rfl rfl rfl) rfl rfl (RS.op (want1 rfl rfl rfl h56) (q07 rfl) rfl rfl ?_)))))))
 refine RS.op (want1 rfl rfl rfl h56) (q02 rfl rfl (q0c _ _ _) rfl) rfl rfl (RS.q (u:=.bool (x57.From != z39)) rfl (q03 rfl h56 rfl) ?_)
 refine sd ?_
 exact ⟨_,_,⟨rfl,rfl⟩,(Nat.zero_le _),Gh.toC (n1:=2) ⟨rfl,rfl,rfl,rfl,rfl,rfl,rfl,trivial⟩ rfl (Nat.zero_le _) (by simp)⟩
 replace hF:=q08 h52 hF
 refine st ?_
 refine WPU.exit ?_
 refine st ?_
 exact ⟨_,_,⟨z39,hF,rfl,rfl⟩,(Nat.zero_le _),Gh.toC (n1:=2) ⟨rfl,rfl,rfl,trivial⟩ rfl (Nat.zero_le _) (by simp)⟩
 rcases q0j (bytesEq p2.Name []) with h13 | h13
 replace h19:=q09 h13 h19
 replace h19:=Option.some.inj h19
 subst h19
 refine sr ?_
 refine RS.q (u:=.ptr 1 0 4) rfl (q06 und42 rfl (q00 inf9) rfl rfl rfl) (RS.q (u:=.str p2.Name) rfl (q05 und9 rfl rfl rfl rfl) (RS.q (u:=.bool (bytesEq p2.Name [])) rfl (q2w rfl rfl rfl rfl) (RS.mv rfl rfl rfl rfl ?_)))
 repeat refine RS.no (want0 rfl rfl rfl h13) rfl rfl ?_
 refine RS.q (u:=.bool true) rfl (q04 rfl h13 rfl) (RS.mv rfl rfl rfl rfl ?_)
 repeat refine RS.no (want0 rfl rfl rfl rfl) rfl rfl ?_
 refine RS.q (u:=.bool true) rfl (q04 rfl rfl rfl) (RS.mv rfl rfl rfl rfl ?_)
 repeat refine RS.no (want0 rfl rfl rfl rfl) rfl rfl ?_
 refine RS.q (u:=.bool true) rfl (q04 rfl rfl rfl) ?_
 refine sd ?_
 exact ⟨_,_,⟨rfl,rfl⟩,(Nat.zero_le _),Gh.toC (n1:=2) ⟨rfl,rfl,rfl,trivial⟩ rfl (Nat.zero_le _) (by simp)⟩
 replace h19:=q08 h13 h19
 obtain ⟨r14,h15,h19⟩:=q01 h19
 rcases q0j (!r14) with h16 | h16
 replace h19:=q09 h16 h19
 replace h19:=Option.some.inj h19
 subst h19
 refine sr ?_
 refine RS.q (u:=.ptr 1 0 4) rfl (q06 und42 rfl (q00 inf9) rfl rfl rfl) (RS.q (u:=.str p2.Name) rfl (q05 und9 rfl rfl rfl rfl) (RS.q (u:=.bool (bytesEq p2.Name [])) rfl (q2w rfl rfl rfl rfl) (RS.mv rfl rfl rfl rfl (RS.op (u:=.ptr 1 0 6) (want1 rfl rfl rfl h13) (q06 und42 rfl (q00 inf37) rfl rfl rfl) rfl rfl (RS.op (u:=.agg (xGDeriv p2.Lex)) (want1 rfl rfl rfl h13) (q0f und37 rfl (q00 inf37) rfl rfl rfl) rfl rfl (RS.call (u:=.bool r14) (args:=[.agg (xGDeriv p2.Lex)]) (want1 rfl rfl rfl h13) (q0b rfl rfl fn51 hb51 rfl rfl) (q7o n p2.Lex r14 h15 _) rfl rfl (RS.op (u:=.bool (!r14)) (want1 rfl rfl rfl h13) (op_un rfl rfl rfl rfl) rfl rfl ?_)))))))
 refine RS.q (u:=.bool (!r14)) rfl (q03 rfl h13 rfl) (RS.mv rfl rfl rfl rfl ?_)
 repeat refine RS.no (want0 rfl rfl rfl h16) rfl rfl ?_
 refine RS.q (u:=.bool true) rfl (q04 rfl h16 rfl) (RS.mv rfl rfl rfl rfl ?_)
 repeat refine RS.no (want0 rfl rfl rfl rfl) rfl rfl ?_
 refine RS.q (u:=.bool true) rfl (q04 rfl rfl rfl) ?_
 refine sd ?_
 exact ⟨_,_,⟨rfl,rfl⟩,(Nat.zero_le _),Gh.toC (n1:=2) ⟨rfl,rfl,rfl,trivial⟩ rfl (Nat.zero_le _) (by simp)⟩
 replace h19:=q08 h16 h19
 rcases q0j ((p2.Kids.length:Int) == 0) with h17 | h17
 replace h19:=q09 h17 h19
 replace h19:=Option.some.inj h19
 subst h19
 refine sr ?_
 refine RS.q (u:=.ptr 1 0 4) rfl (q06 und42 rfl (q00 inf9) rfl rfl rfl) (RS.q (u:=.str p2.Name) rfl (q05 und9 rfl rfl rfl rfl) (RS.q (u:=.bool (bytesEq p2.Name [])) rfl (q2w rfl rfl rfl rfl) (RS.mv rfl rfl rfl rfl (RS.op (u:=.ptr 1 0 6) (want1 rfl rfl rfl h13) (q06 und42 rfl (q00 inf37) rfl rfl rfl) rfl rfl (RS.op (u:=.agg (xGDeriv p2.Lex)) (want1 rfl rfl rfl h13) (q0f und37 rfl (q00 inf37) rfl rfl rfl) rfl rfl (RS.call (u:=.bool r14) (args:=[.agg (xGDeriv p2.Lex)]) (want1 rfl rfl rfl h13) (q0b rfl rfl fn51 hb51 rfl rfl) (q7o n p2.Lex r14 h15 _) rfl rfl (RS.op (u:=.bool (!r14)) (want1 rfl rfl rfl h13) (op_un rfl rfl rfl rfl) rfl rfl ?_)))))))
 refine RS.q (u:=.bool (!r14)) rfl (q03 rfl h13 rfl) (RS.mv rfl rfl rfl rfl (RS.op (u:=.ptr 1 0 5) (want1 rfl rfl rfl h16) (q06 und42 rfl (q00 inf34) rfl rfl rfl) rfl rfl (RS.op (u:=.isl false (List.map (cI .i64) p2.Kids)) (want1 rfl rfl rfl h16) (q05 und34 rfl rfl rfl rfl) rfl rfl (RS.op (want1 rfl rfl rfl h16) (q0i rfl rfl rfl (q0d (cI .i64) und34)) rfl rfl (RS.op (want1 rfl rfl rfl h16) (q02 rfl rfl (q0e _ _ _) rfl) rfl rfl (RS.q (u:=.bool ((p2.Kids.length:Int) == 0)) rfl (q03 rfl h16 rfl) (RS.mv rfl rfl rfl rfl ?_)))))))
 repeat refine RS.no (want0 rfl rfl rfl h17) rfl rfl ?_
 refine RS.q (u:=.bool true) rfl (q04 rfl h17 rfl) ?_
 refine sd ?_
 exact ⟨_,_,⟨rfl,rfl⟩,(Nat.zero_le _),Gh.toC (n1:=2) ⟨rfl,rfl,rfl,trivial⟩ rfl (Nat.zero_le _) (by simp)⟩
 replace h19:=q08 h17 h19
 replace h19:=Option.some.inj h19
 subst h19
 refine sr ?_
 refine RS.q (u:=.ptr 1 0 4) rfl (q06 und42 rfl (q00 inf9) rfl rfl rfl) (RS.q (u:=.str p2.Name) rfl (q05 und9 rfl rfl rfl rfl) (RS.q (u:=.bool (bytesEq p2.Name [])) rfl (q2w rfl rfl rfl rfl) (RS.mv rfl rfl rfl rfl (RS.op (u:=.ptr 1 0 6) (want1 rfl rfl rfl h13) (q06 und42 rfl (q00 inf37) rfl rfl rfl) rfl rfl (RS.op (u:=.agg (xGDeriv p2.Lex)) (want1 rfl rfl rfl h13) (q0f und37 rfl (q00 inf37) rfl rfl rfl) rfl rfl (RS.call (u:=.bool r14) (args:=[.agg (xGDeriv p2.Lex)]) (want1 rfl rfl rfl h13) (q0b rfl rfl fn51 hb51 rfl rfl) (q7o n p2.Lex r14 h15 _) rfl rfl (RS.op (u:=.bool (!r14)) (want1 rfl rfl rfl h13) (op_un rfl rfl rfl rfl) rfl rfl ?_)))))))
 refine RS.q (u:=.bool (!r14)) rfl (q03 rfl h13 rfl) (RS.mv rfl rfl rfl rfl (RS.op (u:=.ptr 1 0 5) (want1 rfl rfl rfl h16) (q06 und42 rfl (q00 inf34) rfl rfl rfl) rfl rfl (RS.op (u:=.isl false (List.map (cI .i64) p2.Kids)) (want1 rfl rfl rfl h16) (q05 und34 rfl rfl rfl rfl) rfl rfl (RS.op (want1 rfl rfl rfl h16) (q0i rfl rfl rfl (q0d (cI .i64) und34)) rfl rfl (RS.op (want1 rfl rfl rfl h16) (q02 rfl rfl (q0e _ _ _) rfl) rfl rfl (RS.q (u:=.bool ((p2.Kids.length:Int) == 0)) rfl (q03 rfl h16 rfl) (RS.mv rfl rfl rfl rfl ?_)))))))
 refine RS.op (u:=.ptr 1 0 5) (want1 rfl rfl rfl h17) (q06 und42 rfl (q00 inf34) rfl rfl rfl) rfl rfl (RS.op (u:=.isl false (List.map (cI .i64) p2.Kids)) (want1 rfl rfl rfl h17) (q05 und34 rfl rfl rfl rfl) rfl rfl (RS.op (want1 rfl rfl rfl h17) (q0i rfl rfl rfl (q0d (cI .i64) und34)) rfl rfl (RS.op (want1 rfl rfl rfl h17) (q02 rfl rfl (q74 _ _ _) rfl) rfl rfl (RS.q (u:=.bool (decide ((p2.Kids.length:Int) > 2))) rfl (q03 rfl h17 rfl) ?_))))
 refine sd ?_
 exact ⟨_,_,⟨rfl,rfl⟩,(Nat.zero_le _),Gh.toC (n1:=2) ⟨rfl,rfl,rfl,trivial⟩ rfl (Nat.zero_le _) (by simp)⟩
theorem qc0 (n:Nat) (p1:GChart) (p2:GEdge) (r:Bool) (hF:q2f n p1 p2=some r) (σ:Sg):EvU Try.prog 34 [.agg (cGChart p1),.agg (cGEdge p2)] σ (fun u σ'=>u = .bool r∧σ'=σ) :=
 EvU.pure1C (chart_formed_0 n p1 p2 r hF) σ
def q3n   : Option (Bool) :=
 some true
def q2b (p1:List Int) (p2:List Int):Nat→Int→Option (Bool)
 | 0,_=>none
 | m1+1,z8 =>
  cond (decide (z8<(p1.length:Int)))
   (bindO (idxO p1 z8) fun x10 =>
   bindO (idxO p2 z8) fun x12 =>
   cond (x10 != x12)
    (some false)
    ((q2b p1 p2 m1) (IntKind.i64.wrap (z8+1))))
   (q3n)
def q2o (n:Nat) (p1:List Int) (p2:List Int):Option (Bool) :=
 cond ((p1.length:Int) != (p2.length:Int))
  (some false)
  (q2b p1 p2 n 0)
theorem qa1 (n:Nat) (p1:List Int) (p2:List Int) (r:Bool) (hF:q2o n p1 p2=some r):EvU Try.prog 36 [.isl false (List.map (cI .i64) p1),.isl false (List.map (cI .i64) p2)] ⟨[],0⟩ (fun u _=>u = .bool r∧Bel 0 u):=by
 unfold q2o at hF
 refine EvU.of_body Try.tb_ok fn36 rfl ?_
 refine WPU.ghost (tm':=fr 26 [(0,.isl false (List.map (cI .i64) p1)),(1,.isl false (List.map (cI .i64) p2))]) (Gh.start (Nat.le_of_ble_eq_true rfl)) (Nat.zero_le _) ?_
 refine sr ?_
 refine se ?_
 refine RS.q rfl (q0i rfl rfl rfl (q0d (cI .i64) und34)) (RS.mv rfl rfl rfl rfl (RS.q rfl (q0i rfl rfl rfl (q0d (cI .i64) und34)) (RS.q rfl (q02 rfl rfl (q0c _ _ _) rfl) ?_)))
 refine sd ?_
 refine WPU.condS (t:=((p1.length:Int) != (p2.length:Int))) rfl (fun h3=>?_) (fun h3=>?_)
 replace hF:=q09 h3 hF
 refine sr ?_
 refine sd ?_
 refine WPU.ret ?_
 refine st ?_
 have hr:=Option.some.inj hF
 subst hr
 exact ⟨.inr rfl,[.bool false],q0t rfl (q0q),.bool false,⟨[],0⟩,Nat.le_refl _,Gh.toR (.bool false) rfl,rfl,BU.h⟩
 replace hF:=q08 h3 hF
 refine st ?_
 refine WPU.skip ?_
 refine sr ?_
 refine RS.q rfl (q0i rfl rfl rfl (q0d (cI .i64) und34)) (RS.mv rfl rfl rfl rfl ?_)
 refine sd ?_
 refine WPU.ghost (tm':=fr 26 [(0,.isl false (List.map (cI .i64) p1)),(1,.isl false (List.map (cI .i64) p2)),(12,.int .i64 (p1.length:Int)),(13,.int .i64 0)]) (Gh.sub ⟨rfl,rfl,rfl,rfl,trivial⟩) (Nat.zero_le _) ?_
 refine WPU.loopK (fun m tm σ=>∃ z8:Int,q2b p1 p2 m z8=some r∧tm=fr 26 [(0,.isl false (List.map (cI .i64) p1)),(1,.isl false (List.map (cI .i64) p2)),(12,.int .i64 (p1.length:Int)),(13,.int .i64 z8)]∧σ=⟨[],0⟩) (fun tm σ=>q3n=some r∧tm=fr 26 []∧σ=⟨[],0⟩) n ⟨0,hF,rfl,rfl⟩ ?_ ?_
 rintro _ _ ⟨hF,rfl,rfl⟩
 unfold q3n at hF
 refine sr ?_
 refine sd ?_
 refine WPU.ret ?_
 refine st ?_
 have hr:=Option.some.inj hF
 subst hr
 exact ⟨.inr rfl,[.bool true],q0t rfl (q0q),.bool true,⟨[],0⟩,Nat.le_refl _,Gh.toR (.bool true) rfl,rfl,BU.h⟩
 rintro m1 _ _ ⟨z8,hF,rfl,rfl⟩
 rcases m1 with _ | m1
 cases hF
 unfold q2b at hF
 refine sr ?_
 refine RS.q rfl (q02 rfl rfl (q1i _ _ _) rfl) ?_
 refine sd ?_
 refine WPU.condS (t:=(decide (z8<(p1.length:Int)))) rfl (fun h9=>?_) (fun h9=>?_)
 replace hF:=q09 h9 hF
 refine st ?_
 refine WPU.skip ?_
 refine st ?_
 refine WPU.block ?_
 refine sr ?_
 refine sd ?_
 obtain ⟨x10,h11,hF⟩:=q01 hF
 obtain ⟨x12,h13,hF⟩:=q01 hF
 refine WPU.drawE Try.tb_ok [] (by kernel_rfl) ?_
 repeat refine RD.mv rfl rfl rfl rfl ?_
 refine RD.q (u:=.iptr [.int .i64 x10]) rfl (q13 rfl rfl (q0n (cI .i64) und34 (q00 inf3) (q27 .i64) h11 rfl)) (RD.q (u:=.int .i64 x10) rfl (q1c und3 rfl rfl rfl) ?_)
 repeat refine RD.mv rfl rfl rfl rfl ?_
 refine RD.q (u:=.iptr [.int .i64 x12]) rfl (q13 rfl rfl (q0n (cI .i64) und34 (q00 inf3) (q27 .i64) h13 rfl)) (RD.q (u:=.int .i64 x12) rfl (q1c und3 rfl rfl rfl) (RD.q rfl (q02 rfl rfl (q0c _ _ _) rfl) ?_))
 refine RD.done ⟨by kernel_rfl,trivial,?_⟩
 refine st ?_
 refine WPU.condS (t:=(x10 != x12)) rfl (fun h14=>?_) (fun h14=>?_)
 replace hF:=q09 h14 hF
 refine sr ?_
 refine sd ?_
 refine WPU.ret ?_
 refine st ?_
 have hr:=Option.some.inj hF
 subst hr
 exact ⟨.inr rfl,[.bool false],q0t rfl (q0q),.bool false,⟨[],0⟩,Nat.le_refl _,Gh.toR (.bool false) rfl,rfl,BU.h⟩
 replace hF:=q08 h14 hF
 refine st ?_
 refine WPU.skip ?_
 refine sr ?_
 refine RS.q rfl (q02 rfl rfl (q32 _ _ _) rfl) (RS.mv rfl rfl rfl rfl ?_)
 refine sd ?_
 exact ⟨m1,_,_,Nat.lt_succ_self _,⟨(IntKind.i64.wrap (z8+1)),hF,rfl,rfl⟩,(Nat.zero_le _),Gh.toC (n1:=0) ⟨rfl,rfl,rfl,rfl,trivial⟩ rfl (Nat.zero_le _) (by simp)⟩
 replace hF:=q08 h9 hF
 refine st ?_
 refine WPU.exit ?_
 refine st ?_
 exact ⟨_,_,⟨hF,rfl,rfl⟩,(Nat.zero_le _),Gh.toC (n1:=0) trivial rfl (Nat.zero_le _) (by simp)⟩
theorem q6u (n:Nat) (p1:List Int) (p2:List Int) (r:Bool) (hF:q2o n p1 p2=some r) (σ:Sg):EvU Try.prog 36 [.isl false (List.map (cI .i64) p1),.isl false (List.map (cI .i64) p2)] σ (fun u σ'=>u = .bool r∧σ'=σ) :=
 EvU.pure1C (qa1 n p1 p2 r hF) σ
def q71 (p1:GChart) (p2:GEdge)  : Option (GChart×Int×Int) :=
 bindO (cutF p1.Edges (p1.Edges.length:Int)) fun l34 =>
 needO ((l34.length+1)*160≤140737488355328∧l34.length+1≤140737488355328) (
 some ((GChart.mk p1.Words (l34++[p2])),(p1.Edges.length:Int),0))
def q40 (p1:GChart) (p2:GEdge) (n:Nat):Nat→Int→Option (GChart×Int×Int)
 | 0,_=>none
 | m1+1,z33 =>
  cond (decide (z33<(p1.Edges.length:Int)))
   (bindO (idxO p1.Edges z33) fun x38 =>
   bindO (cond (x38.Kind != p2.Kind)
    (some true)
    (cond (!bytesEq x38.Name p2.Name)
     (some true)
     (cond (x38.From != p2.From)
      (some true)
      (some (x38.To != p2.To))))) fun b43 =>
   cond b43
    ((q40 p1 p2 n m1) (IntKind.i64.wrap (z33+1)))
    (bindO (cond (p2.Kind == 1)
     (bindO (q1s n x38.Lex p2.Lex) fun r47 =>
     cond (r47 == 0)
      (some true)
      (cond (p2.Kind == 2)
       (bindO (q2o n x38.Kids p2.Kids) fun r51 =>
       some r51)
       (some false)))
     (cond (p2.Kind == 2)
      (bindO (q2o n x38.Kids p2.Kids) fun r54 =>
      some r54)
      (some false))) fun b56 =>
    cond b56
     (some (p1,z33,4))
     ((q40 p1 p2 n m1) (IntKind.i64.wrap (z33+1)))))
   (q71 p1 p2)
def q20 (n:Nat) (p1:GChart) (p2:GEdge):Option (GChart×Int×Int) :=
 bindO (cond (decide (p2.From<0))
  (some true)
  (cond (decide (p2.From ≥ p2.To))
   (some true)
   (some (decide (p2.To > p1.Words))))) fun b5 =>
 cond b5
  (some (p1,0,2))
  (bindO (cond (p2.Kind != 1)
   (some (p2.Kind != 2))
   (some false)) fun b9 =>
  cond b9
   (some (p1,0,14))
   (bindO (q2f n p1 p2) fun r12 =>
   cond (!r12)
    (some (p1,0,13))
    (q40 p1 p2 n n 0)))
end Go.Proofs
end
