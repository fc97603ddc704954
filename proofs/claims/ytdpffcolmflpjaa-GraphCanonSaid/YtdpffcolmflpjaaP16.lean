/-
  Texts of the walk: H4 PlA.
-/
import Derived.Test.YtdpffcolmflpjaaP15
section
namespace Go.Proofs
open Go Go.Rx Go.Vx Try
set_option maxRecDepth 10000
set_option linter.unusedSimpArgs false
set_option linter.unusedVariables false
theorem law07_arc_0 (n:Nat) (p1:GFS) (p2:Int) (p3:Int) (r:Int×Bool) (hF:q6h n p1 p2 p3=some r):EvU Try.prog 41 [.agg [.isl false (List.map cGNode p1.Nodes)],.int .i64 p2,.int .i64 p3] ⟨[],0⟩ (fun u _=>u = .tup [.int .i64 r.1,.bool r.2]∧Bel 0 u):=by
 unfold q6h at hF
 refine EvU.of_body Try.tb_ok fn41 rfl ?_
 refine WPU.ghost (tm':=fr 28 [(0,.agg [.isl false (List.map cGNode p1.Nodes)]),(1,.int .i64 p2),(2,.int .i64 p3)]) (Gh.start (Nat.le_of_ble_eq_true rfl)) (Nat.zero_le _) ?_
 refine sr ?_
 refine RS.q (u:=.ptr 0 0 0) (σ':=⟨[(0,.row [.isl false (List.map cGNode p1.Nodes)] 25)],1⟩) rfl (q2x rfl rfl rfl) ?_
 repeat refine RS.as rfl rfl rfl rfl ?_
 refine sd ?_
 obtain ⟨x4,h5,hF⟩:=q00 hF
 refine sr ?_
 refine RS.q (u:=.ptr 0 0 0) rfl (q16 und25 rfl (q02 inf23) rfl rfl rfl) (RS.q (u:=.isl false (List.map cGNode p1.Nodes)) rfl (q05 und23 rfl rfl rfl rfl) (RS.mv rfl rfl rfl rfl (RS.q (u:=.iptr (cGNode x4)) rfl (q1x rfl rfl (q2q cGNode und23 (q02 inf43) q1h h5 rfl)) (RS.q (u:=.iptr [.isl false (List.map cGArc x4.Arcs)]) rfl (q7a und43 rfl (q02 inf41) rfl rfl) (RS.q (u:=.isl false (List.map cGArc x4.Arcs)) rfl (q43 und41 rfl rfl rfl) (RS.q rfl (q1d rfl rfl rfl (q14 cGArc und41)) (RS.mv rfl rfl rfl rfl ?_)))))))
 refine sd ?_
 refine WPU.ghost (tm':=fr 28 [(2,.int .i64 p3),(15,.isl false (List.map cGArc x4.Arcs)),(16,.int .i64 (x4.Arcs.length:Int)),(17,.int .i64 0)]) (Gh.sub ⟨rfl,rfl,rfl,rfl,trivial⟩) (Nat.zero_le _) ?_
 refine WPU.loopK (fun m tm σ=>∃ z11:Int,q4f p3 x4 m z11=some r∧tm=fr 28 [(2,.int .i64 p3),(15,.isl false (List.map cGArc x4.Arcs)),(16,.int .i64 (x4.Arcs.length:Int)),(17,.int .i64 z11)]∧σ=⟨[(0,.row [.isl false (List.map cGNode p1.Nodes)] 25)],1⟩) (fun tm σ=>q66=some r∧tm=fr 28 []∧σ=⟨[(0,.row [.isl false (List.map cGNode p1.Nodes)] 25)],1⟩) n ⟨0,hF,rfl,rfl⟩ ?_ ?_
 rintro _ _ ⟨hF,rfl,rfl⟩
 unfold q66 at hF
 refine sr ?_
 repeat refine RS.as rfl rfl rfl rfl ?_
 refine sd ?_
 refine WPU.ret ?_
 refine st ?_
 have hr:=Option.some.inj hF
 subst hr
 exact ⟨.inr rfl,[.int .i64 0,.bool false],q1w rfl (q1w rfl (q1o)),.tup [.int .i64 0,.bool false],⟨[],0⟩,Nat.le_refl _,Gh.toR (.tup [.int .i64 0,.bool false]) rfl,rfl,BU.h⟩
 rintro m1 _ _ ⟨z11,hF,rfl,rfl⟩
 rcases m1 with _ | m1
 cases hF
 unfold q4f at hF
 refine sr ?_
 refine RS.q rfl (q06 rfl rfl (q2c _ _ _) rfl) ?_
 refine sd ?_
 refine WPU.condS (t:=(decide (z11<(x4.Arcs.length:Int)))) rfl (fun h12=>?_) (fun h12=>?_)
 replace hF:=q0i h12 hF
 refine st ?_
 refine WPU.skip ?_
 refine st ?_
 refine WPU.block ?_
 refine st ?_
 obtain ⟨x13,h14,hF⟩:=q00 hF
 refine sr ?_
 refine RS.q (u:=.iptr (cGArc x13)) rfl (q1x rfl rfl (q2q cGArc und41 (q02 inf45) q1q h14 rfl)) (RS.q (u:=.agg (cGArc x13)) rfl (q7y und45 rfl (q02 inf45) rfl rfl) (RS.q (u:=.ptr 1 0 0) (σ':=⟨[(1,.row [.int .i64 0,.int .i64 0] 45),(0,.row [.isl false (List.map cGNode p1.Nodes)] 25)],2⟩) rfl (q1b inf45 rfl rfl) (RS.opn (u:=.junk) (σ':=⟨[(1,.row (cGArc x13) 45),(0,.row [.isl false (List.map cGNode p1.Nodes)] 25)],2⟩) rfl (q0y (q02 inf45) rfl rfl rfl rfl rfl rfl rfl rfl) rfl ?_)))
 refine se ?_
 refine RS.q (u:=.ptr 1 0 0) rfl (q16 und45 rfl (q02 inf3) rfl rfl rfl) (RS.q (u:=.int .i64 x13.Feat) rfl (q05 und3 rfl rfl rfl rfl) (RS.mv rfl rfl rfl rfl (RS.q rfl (q06 rfl rfl (q6z _ _ _) rfl) ?_)))
 refine sd ?_
 refine WPU.condS (t:=(x13.Feat == p3)) rfl (fun h15=>?_) (fun h15=>?_)
 replace hF:=q0i h15 hF
 refine sr ?_
 refine RS.q (u:=.ptr 1 0 1) rfl (q16 und45 rfl (q02 inf3) rfl rfl rfl) (RS.q (u:=.int .i64 x13.To) rfl (q05 und3 rfl rfl rfl rfl) ?_)
 repeat refine RS.as rfl rfl rfl rfl ?_
 refine sd ?_
 refine WPU.ret ?_
 refine st ?_
 have hr:=Option.some.inj hF
 subst hr
 exact ⟨.inr rfl,[.int .i64 x13.To,.bool true],q1w rfl (q1w rfl (q1o)),.tup [.int .i64 x13.To,.bool true],⟨[],0⟩,Nat.le_refl _,Gh.toR (.tup [.int .i64 x13.To,.bool true]) rfl,rfl,BU.h⟩
 replace hF:=q0h h15 hF
 refine st ?_
 refine WPU.skip ?_
 refine sr ?_
 refine RS.q rfl (q06 rfl rfl (q3l _ _ _) rfl) (RS.mv rfl rfl rfl rfl ?_)
 refine sd ?_
 exact ⟨m1,_,_,Nat.lt_succ_self _,⟨(IntKind.i64.wrap (z11+1)),hF,rfl,rfl⟩,(Nat.zero_le _),Gh.toC (n1:=1) ⟨rfl,rfl,rfl,rfl,trivial⟩ rfl (Nat.zero_le _) (by simp)⟩
 replace hF:=q0h h12 hF
 refine st ?_
 refine WPU.exit ?_
 refine st ?_
 exact ⟨_,_,⟨hF,rfl,rfl⟩,(Nat.zero_le _),Gh.toC (n1:=1) trivial rfl (Nat.zero_le _) (by simp)⟩
theorem law07_arc_ok (n:Nat) (p1:GFS) (p2:Int) (p3:Int) (r:Int×Bool) (hF:q6h n p1 p2 p3=some r) (σ:Sg):EvU Try.prog 41 [.agg [.isl false (List.map cGNode p1.Nodes)],.int .i64 p2,.int .i64 p3] σ (fun u σ'=>u = .tup [.int .i64 r.1,.bool r.2]∧σ'=σ) :=
 EvU.pure1C (law07_arc_0 n p1 p2 p3 r hF) σ
def q3d (z61:Int) (rc2:Int→(List Int)→(List Int)→(List Int)→Option (Bool)) (x71:GArc) (r73:Int×Bool) (l84:List Int) (l86:List Int) (l87:List Int):Option (Bool) :=
 bindO (bindO (idxO l87 x71.To) fun x88 =>
 cond (x88 != r73.1)
  (some true)
  (bindO (idxO l86 r73.1) fun x91 =>
  some (x91 != x71.To))) fun b93 =>
 cond b93
  (some false)
  (rc2 (IntKind.i64.wrap (z61+1)) l84 l86 l87)
def q4z (z20:Int) (rc1:Int→(List Int)→(List Int)→(List Int)→Option (Bool)) (l66:List Int) (l68:List Int) (l69:List Int):Option (Bool) :=
 rc1 (IntKind.i64.wrap (z20+1)) l66 l68 l69
def q2d (p2:GFS) (n:Nat) (z20:Int) (rc1:Int→(List Int)→(List Int)→(List Int)→Option (Bool)) (x32:Int) (x46:GNode):Nat→Int→(List Int)→(List Int)→(List Int)→Option (Bool)
 | 0,_,_,_,_=>none
 | m2+1,z61,l62,l64,l65 =>
  cond (decide (z61<(x46.Arcs.length:Int)))
   (bindO (idxO x46.Arcs z61) fun x71 =>
   bindO (q6h n p2 x32 x71.Feat) fun r73 =>
   cond (!r73.2)
    (some false)
    (bindO (bindO (idxO l65 x71.To) fun x76 =>
    cond (decide (x76<0))
     (bindO (idxO l64 r73.1) fun x79 =>
     some (decide (x79<0)))
     (some false)) fun b81 =>
    cond b81
     (bindO (idxO l65 x71.To) fun x96 =>
     bindO (idxO l64 r73.1) fun x98 =>
     needO ((l62.length+1)*8≤140737488355328∧l62.length+1≤140737488355328) (
     q3d z61 (q2d p2 n z20 rc1 x32 x46 m2) x71 r73 (l62++[x71.To]) (l64.set (0+r73.1.toNat) x71.To) (l65.set (0+x71.To.toNat) r73.1)))
     (q3d z61 (q2d p2 n z20 rc1 x32 x46 m2) x71 r73 l62 l64 l65)))
   (q4z z20 rc1 l62 l64 l65)
def q4y  (l25:List Int) (l27:List Int) (l28:List Int):Option (Bool) :=
 some true
def q1y (p1:GFS) (p2:GFS) (n:Nat):Nat→Int→(List Int)→(List Int)→(List Int)→Option (Bool)
 | 0,_,_,_,_=>none
 | m1+1,z20,l21,l23,l24 =>
  cond (decide (z20<(l21.length:Int)))
   (bindO (idxO l21 z20) fun x30 =>
   bindO (idxO l24 x30) fun x32 =>
   bindO (bindO (idxO p1.Nodes x30) fun x34 =>
   bindO (idxO p2.Nodes x32) fun x36 =>
   cond (x34.Typex != x36.Typex)
    (some true)
    (bindO (idxO p1.Nodes x30) fun x39 =>
    bindO (idxO p2.Nodes x32) fun x41 =>
    some ((x39.Arcs.length:Int) != (x41.Arcs.length:Int)))) fun b43 =>
   cond b43
    (some false)
    (bindO (idxO p1.Nodes x30) fun x46 =>
    q2d p2 n z20 (q1y p1 p2 n m1) x32 x46 n 0 l21 l23 l24))
   (q4y l21 l23 l24)
def q37 (n:Nat) (p1:GFS) (p2:GFS):Option (Bool) :=
 bindO (q5y n (p1.Nodes.length:Int)) fun r3 =>
 bindO (q5y n (p2.Nodes.length:Int)) fun r5 =>
 bindO (idxO r3 0) fun x7 =>
 bindO (idxO r5 0) fun x9 =>
 q1y p1 p2 n n 0 ([0]) (r5.set (0+(0:Int).toNat) 0) (r3.set (0+(0:Int).toNat) 0)
theorem law07_alike_0 (n:Nat) (p1:GFS) (p2:GFS) (r:Bool) (hF:q37 n p1 p2=some r):EvU Try.prog 28 [.agg [.isl false (List.map cGNode p1.Nodes)],.agg [.isl false (List.map cGNode p2.Nodes)]] ⟨[],0⟩ (fun u _=>u = .bool r∧Bel 0 u):=by
 unfold q37 at hF
 refine EvU.of_body Try.tb_ok fn28 rfl ?_
 refine WPU.ghost (tm':=fr 138 [(0,.agg [.isl false (List.map cGNode p1.Nodes)]),(1,.agg [.isl false (List.map cGNode p2.Nodes)])]) (Gh.start (Nat.le_of_ble_eq_true rfl)) (Nat.zero_le _) ?_
 refine sr ?_
 refine RS.q (u:=.ptr 0 0 0) (σ':=⟨[(0,.row [.isl false (List.map cGNode p1.Nodes)] 25)],1⟩) rfl (q2x rfl rfl rfl) (RS.q (u:=.ptr 1 0 0) (σ':=⟨[(1,.row [.isl false (List.map cGNode p2.Nodes)] 25),(0,.row [.isl false (List.map cGNode p1.Nodes)] 25)],2⟩) rfl (q2x rfl rfl rfl) ?_)
 refine sd ?_
 obtain ⟨r3,h4,hF⟩:=q00 hF
 obtain ⟨r5,h6,hF⟩:=q00 hF
 refine WPU.drawE Try.tb_ok [(4,3),(5,3),(6,3)] (by kernel_rfl) ?_
 refine RD.q (u:=.ptr 0 0 0) rfl (q16 und25 rfl (q02 inf23) rfl rfl rfl) (RD.q (u:=.isl false (List.map cGNode p1.Nodes)) rfl (q05 und23 rfl rfl rfl rfl) (RD.q rfl (q1d rfl rfl rfl (q14 cGNode und23)) (RD.callm (u:=.vl 2 0 0 r3.length) (σ1:=⟨[(2,.vec (List.map (cI .i64) r3).flatten 3 1 0),(1,.row [.isl false (List.map cGNode p2.Nodes)] 25),(0,.row [.isl false (List.map cGNode p1.Nodes)] 25)],3⟩) (args:=[.int .i64 (p1.Nodes.length:Int)]) rfl (q01 rfl rfl fn40 hb40 rfl rfl) (EvU.own0 (cI .i64) (q8p n (p1.Nodes.length:Int) r3 h4) _ 2 rfl) rfl rfl (RD.q (u:=.ptr 1 0 0) rfl (q16 und25 rfl (q02 inf23) rfl rfl rfl) (RD.q (u:=.isl false (List.map cGNode p2.Nodes)) rfl (q05 und23 rfl rfl rfl rfl) (RD.q rfl (q1d rfl rfl rfl (q14 cGNode und23)) (RD.callm (u:=.vl 3 0 0 r5.length) (σ1:=⟨[(3,.vec (List.map (cI .i64) r5).flatten 3 1 0),(2,.vec (List.map (cI .i64) r3).flatten 3 1 0),(1,.row [.isl false (List.map cGNode p2.Nodes)] 25),(0,.row [.isl false (List.map cGNode p1.Nodes)] 25)],4⟩) (args:=[.int .i64 (p2.Nodes.length:Int)]) rfl (q01 rfl rfl fn40 hb40 rfl rfl) (EvU.own0 (cI .i64) (q8p n (p2.Nodes.length:Int) r5 h6) _ 3 rfl) rfl rfl ?_)))))))
 repeat refine RD.as rfl rfl rfl rfl ?_
 refine RD.done ⟨by kernel_rfl,⟨q16 und25 rfl (q02 inf23) rfl rfl rfl,⟨q05 und23 rfl rfl rfl rfl,⟨q1d rfl rfl rfl (q14 cGNode und23),trivial⟩⟩⟩,?_⟩
 refine st ?_
 obtain ⟨x7,h8,hF⟩:=q00 hF
 refine WPU.joinK (fun tm σ=>tm=fr 138 [(2,.ptr 0 0 0),(3,.ptr 1 0 0),(5,.vl 2 0 0 ((r3.set (0+(0:Int).toNat) 0).length)),(6,.vl 3 0 0 r5.length)]∧σ=⟨[(3,.vec (List.map (cI .i64) r5).flatten 3 1 0),(2,.vec (List.map (cI .i64) (r3.set (0+(0:Int).toNat) 0)).flatten 3 1 0),(1,.row [.isl false (List.map cGNode p2.Nodes)] 25),(0,.row [.isl false (List.map cGNode p1.Nodes)] 25)],4⟩) ?_ ?_
 rintro _ _ ⟨rfl,rfl⟩
 refine st ?_
 obtain ⟨x9,h10,hF⟩:=q00 hF
 refine WPU.joinK (fun tm σ=>tm=fr 138 [(2,.ptr 0 0 0),(3,.ptr 1 0 0),(5,.vl 2 0 0 ((r3.set (0+(0:Int).toNat) 0).length)),(6,.vl 3 0 0 ((r5.set (0+(0:Int).toNat) 0).length))]∧σ=⟨[(3,.vec (List.map (cI .i64) (r5.set (0+(0:Int).toNat) 0)).flatten 3 1 0),(2,.vec (List.map (cI .i64) (r3.set (0+(0:Int).toNat) 0)).flatten 3 1 0),(1,.row [.isl false (List.map cGNode p2.Nodes)] 25),(0,.row [.isl false (List.map cGNode p1.Nodes)] 25)],4⟩) ?_ ?_
 rintro _ _ ⟨rfl,rfl⟩
 refine sr ?_
 refine RS.step (u:=.vl 4 0 0 ([0].length)) (σ':=⟨[(4,.vec (List.map (cI .i64) ([0])).flatten 3 1 0),(3,.vec (List.map (cI .i64) (r5.set (0+(0:Int).toNat) 0)).flatten 3 1 0),(2,.vec (List.map (cI .i64) (r3.set (0+(0:Int).toNat) 0)).flatten 3 1 0),(1,.row [.isl false (List.map cGNode p2.Nodes)] 25),(0,.row [.isl false (List.map cGNode p1.Nodes)] 25)],5⟩) rfl (StepU.bslv (cs:=(List.map (cI .i64) [0]).flatten) Try.tb_ok rfl und55 inf3 rfl rfl rfl rfl rfl rfl rfl rfl) rfl rfl ?_
 refine se ?_
 refine sd ?_
 refine WPU.ghost (tm':=fr 138 [(2,.ptr 0 0 0),(3,.ptr 1 0 0),(5,.vl 2 0 0 ((r3.set (0+(0:Int).toNat) 0).length)),(6,.vl 3 0 0 ((r5.set (0+(0:Int).toNat) 0).length)),(7,.vl 4 0 0 (([0]).length)),(8,.int .i64 0)]) (Gh.sub ⟨rfl,rfl,rfl,rfl,rfl,rfl,trivial⟩) (Nat.zero_le _) ?_
 refine WPU.loopK (fun m tm σ=>∃ z20:Int,∃ l21:List Int,∃ t22:Nat,∃ l23:List Int,∃ l24:List Int,q1y p1 p2 n m z20 l21 l23 l24=some r∧tm=fr 138 [(2,.ptr 0 0 0),(3,.ptr 1 0 0),(5,.vl 2 0 0 l24.length),(6,.vl 3 0 0 l23.length),(7,.vl 4 t22 0 l21.length),(8,.int .i64 z20)]∧σ=⟨[(4,.vec (List.map (cI .i64) l21).flatten 3 1 t22),(3,.vec (List.map (cI .i64) l23).flatten 3 1 0),(2,.vec (List.map (cI .i64) l24).flatten 3 1 0),(1,.row [.isl false (List.map cGNode p2.Nodes)] 25),(0,.row [.isl false (List.map cGNode p1.Nodes)] 25)],5⟩) (fun tm σ=>∃ l25:List Int,∃ t26:Nat,∃ l27:List Int,∃ l28:List Int,q4y l25 l27 l28=some r∧tm=fr 138 []∧σ=⟨[(4,.vec (List.map (cI .i64) l25).flatten 3 1 t26),(3,.vec (List.map (cI .i64) l27).flatten 3 1 0),(2,.vec (List.map (cI .i64) l28).flatten 3 1 0),(1,.row [.isl false (List.map cGNode p2.Nodes)] 25),(0,.row [.isl false (List.map cGNode p1.Nodes)] 25)],5⟩) n ⟨0,[0],0,(r5.set (0+(0:Int).toNat) 0),(r3.set (0+(0:Int).toNat) 0),hF,rfl,rfl⟩ ?_ ?_
 rintro _ _ ⟨l25,t26,l27,l28,hF,rfl,rfl⟩
 unfold q4y at hF
 refine sr ?_
 refine sd ?_
 refine WPU.ret ?_
 refine st ?_
 have hr:=Option.some.inj hF
 subst hr
 exact ⟨.inr rfl,[.bool true],q1w rfl (q1o),.bool true,⟨[],0⟩,Nat.le_refl _,Gh.toR (.bool true) rfl,rfl,BU.h⟩
 rintro m1 _ _ ⟨z20,l21,t22,l23,l24,hF,rfl,rfl⟩
 rcases m1 with _ | m1
 cases hF
 unfold q1y at hF
 refine sr ?_
 repeat refine RS.mv rfl rfl rfl rfl ?_
 refine RS.q rfl (q1d rfl rfl rfl (q8q und55 rfl)) (RS.q rfl (q06 rfl rfl (q2c _ _ _) rfl) ?_)
 refine sd ?_
 refine WPU.condS (t:=(decide (z20<(l21.length:Int)))) rfl (fun h29=>?_) (fun h29=>?_)
 replace hF:=q0i h29 hF
 refine st ?_
 refine WPU.skip ?_
 refine st ?_
 refine WPU.block ?_
 refine st ?_
 obtain ⟨x30,h31,hF⟩:=q00 hF
 refine sr ?_
 repeat refine RS.mv rfl rfl rfl rfl ?_
 refine RS.q (u:=.ptr 4 t22 (0*1+z20.toNat*1)) rfl (q1x rfl rfl (q6g (cI .i64) und55 (q02 inf3) (by decide) (q2t .i64) (vo rfl) h31)) ?_
 refine RS.q (u:=.int .i64 x30) rfl (q4s (cI .i64) (fun x=>.int .i64 x) und3 rfl (fun _=>rfl) rfl rfl h31) ?_
 refine sd ?_
 obtain ⟨x32,h33,hF⟩:=q00 hF
 refine sr ?_
 repeat refine RS.mv rfl rfl rfl rfl ?_
 refine RS.q (u:=.ptr 2 0 (0*1+x30.toNat*1)) rfl (q1x rfl rfl (q6g (cI .i64) und55 (q02 inf3) (by decide) (q2t .i64) (vo rfl) h33)) ?_
 refine RS.q (u:=.int .i64 x32) rfl (q4s (cI .i64) (fun x=>.int .i64 x) und3 rfl (fun _=>rfl) rfl rfl h33) ?_
 refine sd ?_
 obtain ⟨b43,h44,hF⟩:=q00 hF
 refine WPU.joinK (fun tm σ=>tm=fr 138 [(2,.ptr 0 0 0),(3,.ptr 1 0 0),(5,.vl 2 0 0 l24.length),(6,.vl 3 0 0 l23.length),(7,.vl 4 t22 0 l21.length),(8,.int .i64 z20),(9,.int .i64 x30),(10,.int .i64 x32),(71,.bool b43)]∧σ=⟨[(4,.vec (List.map (cI .i64) l21).flatten 3 1 t22),(3,.vec (List.map (cI .i64) l23).flatten 3 1 0),(2,.vec (List.map (cI .i64) l24).flatten 3 1 0),(1,.row [.isl false (List.map cGNode p2.Nodes)] 25),(0,.row [.isl false (List.map cGNode p1.Nodes)] 25)],5⟩) ?_ ?_
 rintro _ _ ⟨rfl,rfl⟩
 refine st ?_
 refine WPU.condS (t:=b43) rfl (fun h45=>?_) (fun h45=>?_)
 replace hF:=q0i h45 hF
 refine sr ?_
 refine sd ?_
 refine WPU.ret ?_
 refine st ?_
 have hr:=Option.some.inj hF
 subst hr
 exact ⟨.inr rfl,[.bool false],q1w rfl (q1o),.bool false,⟨[],0⟩,Nat.le_refl _,Gh.toR (.bool false) rfl,rfl,BU.h⟩
 replace hF:=q0h h45 hF
 refine st ?_
 refine WPU.skip ?_
 refine st ?_
 obtain ⟨x46,h47,hF⟩:=q00 hF
 refine sr ?_
 refine RS.q (u:=.ptr 0 0 0) rfl (q16 und25 rfl (q02 inf23) rfl rfl rfl) (RS.q (u:=.isl false (List.map cGNode p1.Nodes)) rfl (q05 und23 rfl rfl rfl rfl) (RS.mv rfl rfl rfl rfl (RS.q (u:=.iptr (cGNode x46)) rfl (q1x rfl rfl (q2q cGNode und23 (q02 inf43) q1h h47 rfl)) (RS.q (u:=.iptr [.isl false (List.map cGArc x46.Arcs)]) rfl (q7a und43 rfl (q02 inf41) rfl rfl) (RS.q (u:=.isl false (List.map cGArc x46.Arcs)) rfl (q43 und41 rfl rfl rfl) (RS.q rfl (q1d rfl rfl rfl (q14 cGArc und41)) (RS.mv rfl rfl rfl rfl ?_)))))))
 refine sd ?_
 refine WPU.ghost (tm':=fr 138 [(2,.ptr 0 0 0),(3,.ptr 1 0 0),(5,.vl 2 0 0 l24.length),(6,.vl 3 0 0 l23.length),(7,.vl 4 t22 0 l21.length),(8,.int .i64 z20),(10,.int .i64 x32),(77,.isl false (List.map cGArc x46.Arcs)),(78,.int .i64 (x46.Arcs.length:Int)),(79,.int .i64 0)]) (Gh.sub ⟨rfl,rfl,rfl,rfl,rfl,rfl,rfl,rfl,rfl,rfl,trivial⟩) (Nat.zero_le _) ?_
 refine WPU.loopK (fun m tm σ=>∃ z61:Int,∃ l62:List Int,∃ t63:Nat,∃ l64:List Int,∃ l65:List Int,q2d p2 n z20 (q1y p1 p2 n m1) x32 x46 m z61 l62 l64 l65=some r∧tm=fr 138 [(2,.ptr 0 0 0),(3,.ptr 1 0 0),(5,.vl 2 0 0 l65.length),(6,.vl 3 0 0 l64.length),(7,.vl 4 t63 0 l62.length),(8,.int .i64 z20),(10,.int .i64 x32),(77,.isl false (List.map cGArc x46.Arcs)),(78,.int .i64 (x46.Arcs.length:Int)),(79,.int .i64 z61)]∧σ=⟨[(4,.vec (List.map (cI .i64) l62).flatten 3 1 t63),(3,.vec (List.map (cI .i64) l64).flatten 3 1 0),(2,.vec (List.map (cI .i64) l65).flatten 3 1 0),(1,.row [.isl false (List.map cGNode p2.Nodes)] 25),(0,.row [.isl false (List.map cGNode p1.Nodes)] 25)],5⟩) (fun tm σ=>∃ l66:List Int,∃ t67:Nat,∃ l68:List Int,∃ l69:List Int,q4z z20 (q1y p1 p2 n m1) l66 l68 l69=some r∧tm=fr 138 [(2,.ptr 0 0 0),(3,.ptr 1 0 0),(5,.vl 2 0 0 l69.length),(6,.vl 3 0 0 l68.length),(7,.vl 4 t67 0 l66.length),(8,.int .i64 z20)]∧σ=⟨[(4,.vec (List.map (cI .i64) l66).flatten 3 1 t67),(3,.vec (List.map (cI .i64) l68).flatten 3 1 0),(2,.vec (List.map (cI .i64) l69).flatten 3 1 0),(1,.row [.isl false (List.map cGNode p2.Nodes)] 25),(0,.row [.isl false (List.map cGNode p1.Nodes)] 25)],5⟩) n ⟨0,l21,t22,l23,l24,hF,rfl,rfl⟩ ?_ ?_
 rintro _ _ ⟨l66,t67,l68,l69,hF,rfl,rfl⟩
 unfold q4z at hF
 refine sr ?_
 refine RS.q rfl (q06 rfl rfl (q3l _ _ _) rfl) ?_
 refine sd ?_
 exact ⟨m1,_,_,Nat.lt_succ_self _,⟨(IntKind.i64.wrap (z20+1)),l66,t67,l68,l69,hF,rfl,rfl⟩,(Nat.zero_le _),Gh.toC (n1:=5) ⟨rfl,rfl,rfl,rfl,rfl,rfl,trivial⟩ rfl (Nat.zero_le _) (by simp)⟩
 rintro m2 _ _ ⟨z61,l62,t63,l64,l65,hF,rfl,rfl⟩
 rcases m2 with _ | m2
 cases hF
 unfold q2d at hF
 refine sr ?_
 refine RS.q rfl (q06 rfl rfl (q2c _ _ _) rfl) ?_
 refine sd ?_
 refine WPU.condS (t:=(decide (z61<(x46.Arcs.length:Int)))) rfl (fun h70=>?_) (fun h70=>?_)
 replace hF:=q0i h70 hF
 refine st ?_
 refine WPU.skip ?_
 refine st ?_
 refine WPU.block ?_
 refine st ?_
 obtain ⟨x71,h72,hF⟩:=q00 hF
 refine sr ?_
 refine RS.q (u:=.iptr (cGArc x71)) rfl (q1x rfl rfl (q2q cGArc und41 (q02 inf45) q1q h72 rfl)) (RS.q (u:=.agg (cGArc x71)) rfl (q7y und45 rfl (q02 inf45) rfl rfl) (RS.q (u:=.ptr 5 0 0) (σ':=⟨[(5,.row [.int .i64 0,.int .i64 0] 45),(4,.vec (List.map (cI .i64) l62).flatten 3 1 t63),(3,.vec (List.map (cI .i64) l64).flatten 3 1 0),(2,.vec (List.map (cI .i64) l65).flatten 3 1 0),(1,.row [.isl false (List.map cGNode p2.Nodes)] 25),(0,.row [.isl false (List.map cGNode p1.Nodes)] 25)],6⟩) rfl (q1b inf45 rfl rfl) (RS.opn (u:=.junk) (σ':=⟨[(5,.row (cGArc x71) 45),(4,.vec (List.map (cI .i64) l62).flatten 3 1 t63),(3,.vec (List.map (cI .i64) l64).flatten 3 1 0),(2,.vec (List.map (cI .i64) l65).flatten 3 1 0),(1,.row [.isl false (List.map cGNode p2.Nodes)] 25),(0,.row [.isl false (List.map cGNode p1.Nodes)] 25)],6⟩) rfl (q0y (q02 inf45) rfl rfl rfl rfl rfl rfl rfl rfl) rfl ?_)))
 refine sd ?_
 obtain ⟨r73,h74,hF⟩:=q00 hF
 refine sr ?_
 refine RS.q (u:=.agg [.isl false (List.map cGNode p2.Nodes)]) rfl (q0g und25 rfl (q02 inf25) rfl rfl rfl) (RS.mv rfl rfl rfl rfl (RS.q (u:=.ptr 5 0 0) rfl (q16 und45 rfl (q02 inf3) rfl rfl rfl) (RS.q (u:=.int .i64 x71.Feat) rfl (q05 und3 rfl rfl rfl rfl) (RS.call (u:=.tup [.int .i64 r73.1,.bool r73.2]) (args:=[.agg [.isl false (List.map cGNode p2.Nodes)],.int .i64 x32,.int .i64 x71.Feat]) rfl (q01 rfl rfl fn41 hb41 rfl rfl) (law07_arc_ok n p2 x32 x71.Feat r73 h74 _) rfl rfl (RS.mv rfl rfl rfl rfl (RS.q rfl (q69 rfl rfl) (RS.q rfl (q69 rfl rfl) ?_)))))))
 repeat refine RS.as rfl rfl rfl rfl ?_
 refine se ?_
 refine RS.q (u:=.bool (!r73.2)) rfl (q7b rfl rfl rfl rfl) ?_
 refine sd ?_
 refine WPU.condS (t:=(!r73.2)) rfl (fun h75=>?_) (fun h75=>?_)
 replace hF:=q0i h75 hF
 refine sr ?_
 refine sd ?_
 refine WPU.ret ?_
 refine st ?_
 have hr:=Option.some.inj hF
 subst hr
 exact ⟨.inr rfl,[.bool false],q1w rfl (q1o),.bool false,⟨[],0⟩,Nat.le_refl _,Gh.toR (.bool false) rfl,rfl,BU.h⟩
 replace hF:=q0h h75 hF
 refine st ?_
 refine WPU.skip ?_
 refine st ?_
 obtain ⟨b81,h82,hF⟩:=q00 hF
 refine WPU.joinK (fun tm σ=>tm=fr 138 [(2,.ptr 0 0 0),(3,.ptr 1 0 0),(5,.vl 2 0 0 l65.length),(6,.vl 3 0 0 l64.length),(7,.vl 4 t63 0 l62.length),(8,.int .i64 z20),(10,.int .i64 x32),(12,.ptr 5 0 0),(13,.int .i64 r73.1),(77,.isl false (List.map cGArc x46.Arcs)),(78,.int .i64 (x46.Arcs.length:Int)),(79,.int .i64 z61),(105,.bool b81)]∧σ=⟨[(5,.row (cGArc x71) 45),(4,.vec (List.map (cI .i64) l62).flatten 3 1 t63),(3,.vec (List.map (cI .i64) l64).flatten 3 1 0),(2,.vec (List.map (cI .i64) l65).flatten 3 1 0),(1,.row [.isl false (List.map cGNode p2.Nodes)] 25),(0,.row [.isl false (List.map cGNode p1.Nodes)] 25)],6⟩) ?_ ?_
 rintro _ _ ⟨rfl,rfl⟩
 refine st ?_
 refine WPU.joinK (fun tm σ=>∃ l84:List Int,∃ t85:Nat,∃ l86:List Int,∃ l87:List Int,q3d z61 (q2d p2 n z20 (q1y p1 p2 n m1) x32 x46 m2) x71 r73 l84 l86 l87=some r∧tm=fr 138 [(2,.ptr 0 0 0),(3,.ptr 1 0 0),(5,.vl 2 0 0 l87.length),(6,.vl 3 0 0 l86.length),(7,.vl 4 t85 0 l84.length),(8,.int .i64 z20),(10,.int .i64 x32),(12,.ptr 5 0 0),(13,.int .i64 r73.1),(77,.isl false (List.map cGArc x46.Arcs)),(78,.int .i64 (x46.Arcs.length:Int)),(79,.int .i64 z61)]∧σ=⟨[(5,.row (cGArc x71) 45),(4,.vec (List.map (cI .i64) l84).flatten 3 1 t85),(3,.vec (List.map (cI .i64) l86).flatten 3 1 0),(2,.vec (List.map (cI .i64) l87).flatten 3 1 0),(1,.row [.isl false (List.map cGNode p2.Nodes)] 25),(0,.row [.isl false (List.map cGNode p1.Nodes)] 25)],6⟩) ?_ ?_
 rintro _ _ ⟨l84,t85,l86,l87,hF,rfl,rfl⟩
 unfold q3d at hF
 refine st ?_
 obtain ⟨b93,h94,hF⟩:=q00 hF
 refine WPU.joinK (fun tm σ=>tm=fr 138 [(2,.ptr 0 0 0),(3,.ptr 1 0 0),(5,.vl 2 0 0 l87.length),(6,.vl 3 0 0 l86.length),(7,.vl 4 t85 0 l84.length),(8,.int .i64 z20),(10,.int .i64 x32),(77,.isl false (List.map cGArc x46.Arcs)),(78,.int .i64 (x46.Arcs.length:Int)),(79,.int .i64 z61),(136,.bool b93)]∧σ=⟨[(5,.row (cGArc x71) 45),(4,.vec (List.map (cI .i64) l84).flatten 3 1 t85),(3,.vec (List.map (cI .i64) l86).flatten 3 1 0),(2,.vec (List.map (cI .i64) l87).flatten 3 1 0),(1,.row [.isl false (List.map cGNode p2.Nodes)] 25),(0,.row [.isl false (List.map cGNode p1.Nodes)] 25)],6⟩) ?_ ?_
 rintro _ _ ⟨rfl,rfl⟩
 refine st ?_
 refine WPU.condS (t:=b93) rfl (fun h95=>?_) (fun h95=>?_)
 replace hF:=q0i h95 hF
 refine sr ?_
 refine sd ?_
 refine WPU.ret ?_
 refine st ?_
 have hr:=Option.some.inj hF
 subst hr
 exact ⟨.inr rfl,[.bool false],q1w rfl (q1o),.bool false,⟨[],0⟩,Nat.le_refl _,Gh.toR (.bool false) rfl,rfl,BU.h⟩
 replace hF:=q0h h95 hF
 refine st ?_
 refine WPU.skip ?_
 refine sr ?_
 refine RS.q rfl (q06 rfl rfl (q3l _ _ _) rfl) (RS.mv rfl rfl rfl rfl ?_)
 refine sd ?_
 exact ⟨m2,_,_,Nat.lt_succ_self _,⟨(IntKind.i64.wrap (z61+1)),l84,t85,l86,l87,hF,rfl,rfl⟩,(Nat.zero_le _),Gh.toC (n1:=5) ⟨rfl,rfl,rfl,rfl,rfl,rfl,rfl,rfl,rfl,rfl,trivial⟩ rfl (Nat.zero_le _) (by simp)⟩
 obtain ⟨x88,h89,h94⟩:=q00 h94
 rcases q2m (x88 != r73.1) with h90 | h90
 replace h94:=q0i h90 h94
 replace h94:=Option.some.inj h94
 subst h94
 refine WPU.drawE Try.tb_ok [] (by kernel_rfl) ?_
 refine RD.mv rfl rfl rfl rfl (RD.q (u:=.ptr 5 0 1) rfl (q16 und45 rfl (q02 inf3) rfl rfl rfl) (RD.q (u:=.int .i64 x71.To) rfl (q05 und3 rfl rfl rfl rfl) ?_))
 refine RD.q (u:=.ptr 2 0 (0*1+x71.To.toNat*1)) rfl (q1x rfl rfl (q6g (cI .i64) und55 (q02 inf3) (by decide) (q2t .i64) (vo rfl) h89)) ?_
 refine RD.q (u:=.int .i64 x88) rfl (q4s (cI .i64) (fun x=>.int .i64 x) und3 rfl (fun _=>rfl) rfl rfl h89) (RD.mv rfl rfl rfl rfl (RD.q rfl (q06 rfl rfl (q3m _ _ _) rfl) (RD.mv rfl rfl rfl rfl ?_)))
 repeat refine RD.no (want0 rfl rfl rfl h90) rfl rfl ?_
 refine RD.q (u:=.bool true) rfl (q0l rfl h90 rfl) ?_
 refine RD.done ⟨by kernel_rfl,trivial,?_⟩
 refine st ?_
 exact ⟨_,_,⟨rfl,rfl⟩,(Nat.zero_le _),Gh.toC (n1:=6) ⟨rfl,rfl,rfl,rfl,rfl,rfl,rfl,rfl,rfl,rfl,rfl,trivial⟩ rfl (Nat.zero_le _) (by simp)⟩
 replace h94:=q0h h90 h94
 obtain ⟨x91,h92,h94⟩:=q00 h94
 replace h94:=Option.some.inj h94
 subst h94
 refine WPU.drawE Try.tb_ok [] (by kernel_rfl) ?_
 refine RD.mv rfl rfl rfl rfl (RD.q (u:=.ptr 5 0 1) rfl (q16 und45 rfl (q02 inf3) rfl rfl rfl) (RD.q (u:=.int .i64 x71.To) rfl (q05 und3 rfl rfl rfl rfl) ?_))
 refine RD.q (u:=.ptr 2 0 (0*1+x71.To.toNat*1)) rfl (q1x rfl rfl (q6g (cI .i64) und55 (q02 inf3) (by decide) (q2t .i64) (vo rfl) h89)) ?_
 refine RD.q (u:=.int .i64 x88) rfl (q4s (cI .i64) (fun x=>.int .i64 x) und3 rfl (fun _=>rfl) rfl rfl h89) (RD.mv rfl rfl rfl rfl (RD.q rfl (q06 rfl rfl (q3m _ _ _) rfl) (RD.mv rfl rfl rfl rfl (RD.look (want1 rfl rfl rfl h90) (q33 rfl) rfl rfl (RD.look (want1 rfl rfl rfl h90) (q33 rfl) rfl rfl ?_)))))
 refine RD.look (u:=.ptr 3 0 (0*1+r73.1.toNat*1)) (want1 rfl rfl rfl h90) (q1x rfl rfl (q6g (cI .i64) und55 (q02 inf3) (by decide) (q2t .i64) (vo rfl) h92)) rfl rfl ?_
 refine RD.look (u:=.int .i64 x91) (want1 rfl rfl rfl h90) (q4s (cI .i64) (fun x=>.int .i64 x) und3 rfl (fun _=>rfl) rfl rfl h92) rfl rfl (RD.look (u:=.ptr 5 0 1) (want1 rfl rfl rfl h90) (q16 und45 rfl (q02 inf3) rfl rfl rfl) rfl rfl (RD.look (u:=.int .i64 x71.To) (want1 rfl rfl rfl h90) (q05 und3 rfl rfl rfl rfl) rfl rfl (RD.look (want1 rfl rfl rfl h90) (q06 rfl rfl (q3m _ _ _) rfl) rfl rfl (RD.q (u:=.bool (x91 != x71.To)) rfl (q0k rfl h90 rfl) ?_))))
 refine RD.done ⟨by kernel_rfl,trivial,?_⟩
 refine st ?_
 exact ⟨_,_,⟨rfl,rfl⟩,(Nat.zero_le _),Gh.toC (n1:=6) ⟨rfl,rfl,rfl,rfl,rfl,rfl,rfl,rfl,rfl,rfl,rfl,trivial⟩ rfl (Nat.zero_le _) (by simp)⟩
 refine WPU.condS (t:=b81) rfl (fun h83=>?_) (fun h83=>?_)
 replace hF:=q0i h83 hF
 refine st ?_
 obtain ⟨x96,h97,hF⟩:=q00 hF
 refine WPU.joinK (fun tm σ=>tm=fr 138 [(2,.ptr 0 0 0),(3,.ptr 1 0 0),(5,.vl 2 0 0 ((l65.set (0+x71.To.toNat) r73.1).length)),(6,.vl 3 0 0 l64.length),(7,.vl 4 t63 0 l62.length),(8,.int .i64 z20),(10,.int .i64 x32),(12,.ptr 5 0 0),(13,.int .i64 r73.1),(77,.isl false (List.map cGArc x46.Arcs)),(78,.int .i64 (x46.Arcs.length:Int)),(79,.int .i64 z61)]∧σ=⟨[(5,.row (cGArc x71) 45),(4,.vec (List.map (cI .i64) l62).flatten 3 1 t63),(3,.vec (List.map (cI .i64) l64).flatten 3 1 0),(2,.vec (List.map (cI .i64) (l65.set (0+x71.To.toNat) r73.1)).flatten 3 1 0),(1,.row [.isl false (List.map cGNode p2.Nodes)] 25),(0,.row [.isl false (List.map cGNode p1.Nodes)] 25)],6⟩) ?_ ?_
 rintro _ _ ⟨rfl,rfl⟩
 refine st ?_
 obtain ⟨x98,h99,hF⟩:=q00 hF
 refine WPU.joinK (fun tm σ=>tm=fr 138 [(2,.ptr 0 0 0),(3,.ptr 1 0 0),(5,.vl 2 0 0 ((l65.set (0+x71.To.toNat) r73.1).length)),(6,.vl 3 0 0 ((l64.set (0+r73.1.toNat) x71.To).length)),(7,.vl 4 t63 0 l62.length),(8,.int .i64 z20),(10,.int .i64 x32),(12,.ptr 5 0 0),(13,.int .i64 r73.1),(77,.isl false (List.map cGArc x46.Arcs)),(78,.int .i64 (x46.Arcs.length:Int)),(79,.int .i64 z61)]∧σ=⟨[(5,.row (cGArc x71) 45),(4,.vec (List.map (cI .i64) l62).flatten 3 1 t63),(3,.vec (List.map (cI .i64) (l64.set (0+r73.1.toNat) x71.To)).flatten 3 1 0),(2,.vec (List.map (cI .i64) (l65.set (0+x71.To.toNat) r73.1)).flatten 3 1 0),(1,.row [.isl false (List.map cGNode p2.Nodes)] 25),(0,.row [.isl false (List.map cGNode p1.Nodes)] 25)],6⟩) ?_ ?_
 rintro _ _ ⟨rfl,rfl⟩
 refine st ?_
 obtain ⟨h100,hF⟩:=q32 hF
 refine sr ?_
 refine RS.q (u:=.ptr 5 0 1) rfl (q16 und45 rfl (q02 inf3) rfl rfl rfl) (RS.q (u:=.int .i64 x71.To) rfl (q05 und3 rfl rfl rfl rfl) (RS.q (u:=.sl 6 0 1 1) (σ':=⟨[(6,.row [.int .i64 x71.To] 3),(5,.row (cGArc x71) 45),(4,.vec (List.map (cI .i64) l62).flatten 3 1 t63),(3,.vec (List.map (cI .i64) (l64.set (0+r73.1.toNat) x71.To)).flatten 3 1 0),(2,.vec (List.map (cI .i64) (l65.set (0+x71.To.toNat) r73.1)).flatten 3 1 0),(1,.row [.isl false (List.map cGNode p2.Nodes)] 25),(0,.row [.isl false (List.map cGNode p1.Nodes)] 25)],7⟩) rfl (q24 und55 inf3 rfl rfl rfl rfl rfl rfl rfl) (RS.q (u:=.vl 4 (t63+1) 0 ((l62++[x71.To]).length)) (σ':=⟨[(6,.row [.int .i64 x71.To] 3),(5,.row (cGArc x71) 45),(4,.vec (List.map (cI .i64) (l62++[x71.To])).flatten 3 1 (t63+1)),(3,.vec (List.map (cI .i64) (l64.set (0+r73.1.toNat) x71.To)).flatten 3 1 0),(2,.vec (List.map (cI .i64) (l65.set (0+x71.To.toNat) r73.1)).flatten 3 1 0),(1,.row [.isl false (List.map cGNode p2.Nodes)] 25),(0,.row [.isl false (List.map cGNode p1.Nodes)] 25)],7⟩) rfl (qb5 rfl rfl rfl rfl (qag (cI .i64) ([x71.To]) und55 und55 inf3 rfl (q2t .i64) rfl (q8a (cI .i64) [x71.To] rfl rfl rfl rfl) h100)) ?_)))
 refine sd ?_
 exact ⟨_,_,⟨(l62++[x71.To]),(t63+1),(l64.set (0+r73.1.toNat) x71.To),(l65.set (0+x71.To.toNat) r73.1),hF,rfl,rfl⟩,(Nat.zero_le _),Gh.toC (n1:=6) ⟨rfl,rfl,rfl,rfl,rfl,rfl,rfl,rfl,rfl,rfl,rfl,rfl,trivial⟩ rfl (Nat.zero_le _) (by simp)⟩
 refine sr ?_
 repeat refine RS.mv rfl rfl rfl rfl ?_
 refine RS.q (u:=.ptr 5 0 1) rfl (q16 und45 rfl (q02 inf3) rfl rfl rfl) (RS.q (u:=.int .i64 x71.To) rfl (q05 und3 rfl rfl rfl rfl) ?_)
 refine RS.q (u:=.ptr 3 0 (0*1+r73.1.toNat*1)) rfl (q1x rfl rfl (q6g (cI .i64) und55 (q02 inf3) (by decide) (q2t .i64) (vo rfl) h99)) ?_
 refine RS.opn (u:=.junk) (σ':=⟨[(5,.row (cGArc x71) 45),(4,.vec (List.map (cI .i64) l62).flatten 3 1 t63),(3,.vec (List.map (cI .i64) (l64.set (0+r73.1.toNat) x71.To)).flatten 3 1 0),(2,.vec (List.map (cI .i64) (l65.set (0+x71.To.toNat) r73.1)).flatten 3 1 0),(1,.row [.isl false (List.map cGNode p2.Nodes)] 25),(0,.row [.isl false (List.map cGNode p1.Nodes)] 25)],6⟩) rfl (st_vp (cI .i64) (q02 inf3) (q2t .i64) rfl rfl rfl rfl rfl rfl rfl (idxO_V h99) rfl) rfl ?_
 refine sd ?_
 exact ⟨_,_,⟨rfl,rfl⟩,(Nat.zero_le _),Gh.eqS ⟨rfl,rfl,rfl,(by simp only [List.length_set]; rfl),rfl,rfl,rfl,rfl,rfl,rfl,rfl,rfl,trivial⟩ rfl⟩
 refine sr ?_
 refine RS.q (u:=.ptr 5 0 1) rfl (q16 und45 rfl (q02 inf3) rfl rfl rfl) (RS.q (u:=.int .i64 x71.To) rfl (q05 und3 rfl rfl rfl rfl) (RS.mv rfl rfl rfl rfl ?_))
 refine RS.q (u:=.ptr 2 0 (0*1+x71.To.toNat*1)) rfl (q1x rfl rfl (q6g (cI .i64) und55 (q02 inf3) (by decide) (q2t .i64) (vo rfl) h97)) ?_
 refine RS.opn (u:=.junk) (σ':=⟨[(5,.row (cGArc x71) 45),(4,.vec (List.map (cI .i64) l62).flatten 3 1 t63),(3,.vec (List.map (cI .i64) l64).flatten 3 1 0),(2,.vec (List.map (cI .i64) (l65.set (0+x71.To.toNat) r73.1)).flatten 3 1 0),(1,.row [.isl false (List.map cGNode p2.Nodes)] 25),(0,.row [.isl false (List.map cGNode p1.Nodes)] 25)],6⟩) rfl (st_vp (cI .i64) (q02 inf3) (q2t .i64) rfl rfl rfl rfl rfl rfl rfl (idxO_V h97) rfl) rfl ?_
 refine sd ?_
 exact ⟨_,_,⟨rfl,rfl⟩,(Nat.zero_le _),Gh.eqS ⟨rfl,rfl,(by simp only [List.length_set]; rfl),rfl,rfl,rfl,rfl,rfl,rfl,rfl,rfl,rfl,trivial⟩ rfl⟩
 replace hF:=q0h h83 hF
 refine st ?_
 refine WPU.skip ?_
 refine st ?_
 exact ⟨_,_,⟨l62,t63,l64,l65,hF,rfl,rfl⟩,(Nat.zero_le _),Gh.toC (n1:=6) ⟨rfl,rfl,rfl,rfl,rfl,rfl,rfl,rfl,rfl,rfl,rfl,rfl,trivial⟩ rfl (Nat.zero_le _) (by simp)⟩
 obtain ⟨x76,h77,h82⟩:=q00 h82
 rcases q2m (decide (x76<0)) with h78 | h78
 replace h82:=q0i h78 h82
 obtain ⟨x79,h80,h82⟩:=q00 h82
 replace h82:=Option.some.inj h82
 subst h82
 refine sr ?_
 refine RS.q (u:=.ptr 5 0 1) rfl (q16 und45 rfl (q02 inf3) rfl rfl rfl) (RS.q (u:=.int .i64 x71.To) rfl (q05 und3 rfl rfl rfl rfl) ?_)
 refine RS.q (u:=.ptr 2 0 (0*1+x71.To.toNat*1)) rfl (q1x rfl rfl (q6g (cI .i64) und55 (q02 inf3) (by decide) (q2t .i64) (vo rfl) h77)) ?_
 refine RS.q (u:=.int .i64 x76) rfl (q4s (cI .i64) (fun x=>.int .i64 x) und3 rfl (fun _=>rfl) rfl rfl h77) (RS.q rfl (q06 rfl rfl (q2c _ _ _) rfl) (RS.mv rfl rfl rfl rfl (RS.op (want1 rfl rfl rfl h78) (q33 rfl) rfl rfl (RS.op (want1 rfl rfl rfl h78) (q33 rfl) rfl rfl ?_))))
 refine RS.op (u:=.ptr 3 0 (0*1+r73.1.toNat*1)) (want1 rfl rfl rfl h78) (q1x rfl rfl (q6g (cI .i64) und55 (q02 inf3) (by decide) (q2t .i64) (vo rfl) h80)) rfl rfl ?_
 refine RS.op (u:=.int .i64 x79) (want1 rfl rfl rfl h78) (q4s (cI .i64) (fun x=>.int .i64 x) und3 rfl (fun _=>rfl) rfl rfl h80) rfl rfl (RS.op (want1 rfl rfl rfl h78) (q06 rfl rfl (q2c _ _ _) rfl) rfl rfl (RS.q (u:=.bool (decide (x79<0))) rfl (q0l rfl h78 rfl) ?_))
 refine sd ?_
 exact ⟨_,_,⟨rfl,rfl⟩,(Nat.zero_le _),Gh.toC (n1:=6) ⟨rfl,rfl,rfl,rfl,rfl,rfl,rfl,rfl,rfl,rfl,rfl,rfl,rfl,trivial⟩ rfl (Nat.zero_le _) (by simp)⟩
 replace h82:=q0h h78 h82
 replace h82:=Option.some.inj h82
 subst h82
 refine sr ?_
 refine RS.q (u:=.ptr 5 0 1) rfl (q16 und45 rfl (q02 inf3) rfl rfl rfl) (RS.q (u:=.int .i64 x71.To) rfl (q05 und3 rfl rfl rfl rfl) ?_)
 refine RS.q (u:=.ptr 2 0 (0*1+x71.To.toNat*1)) rfl (q1x rfl rfl (q6g (cI .i64) und55 (q02 inf3) (by decide) (q2t .i64) (vo rfl) h77)) ?_
 refine RS.q (u:=.int .i64 x76) rfl (q4s (cI .i64) (fun x=>.int .i64 x) und3 rfl (fun _=>rfl) rfl rfl h77) (RS.q rfl (q06 rfl rfl (q2c _ _ _) rfl) (RS.mv rfl rfl rfl rfl ?_))
 repeat refine RS.no (want0 rfl rfl rfl h78) rfl rfl ?_
 refine RS.q (u:=.bool false) rfl (q0k rfl h78 rfl) ?_
 refine sd ?_
 exact ⟨_,_,⟨rfl,rfl⟩,(Nat.zero_le _),Gh.toC (n1:=6) ⟨rfl,rfl,rfl,rfl,rfl,rfl,rfl,rfl,rfl,rfl,rfl,rfl,rfl,trivial⟩ rfl (Nat.zero_le _) (by simp)⟩
 replace hF:=q0h h70 hF
 refine st ?_
 refine WPU.exit ?_
 refine st ?_
 exact ⟨_,_,⟨l62,t63,l64,l65,hF,rfl,rfl⟩,(Nat.zero_le _),Gh.toC (n1:=5) ⟨rfl,rfl,rfl,rfl,rfl,rfl,trivial⟩ rfl (Nat.zero_le _) (by simp)⟩
 obtain ⟨x34,h35,h44⟩:=q00 h44
 obtain ⟨x36,h37,h44⟩:=q00 h44
 rcases q2m (x34.Typex != x36.Typex) with h38 | h38
 replace h44:=q0i h38 h44
 replace h44:=Option.some.inj h44
 subst h44
 refine WPU.drawE Try.tb_ok [] (by kernel_rfl) ?_
 refine RD.q (u:=.ptr 0 0 0) rfl (q16 und25 rfl (q02 inf23) rfl rfl rfl) (RD.q (u:=.isl false (List.map cGNode p1.Nodes)) rfl (q05 und23 rfl rfl rfl rfl) (RD.mv rfl rfl rfl rfl (RD.q (u:=.iptr (cGNode x34)) rfl (q1x rfl rfl (q2q cGNode und23 (q02 inf43) q1h h35 rfl)) (RD.q (u:=.iptr (cGNode x34)) rfl (q7a und43 rfl (q02 inf3) rfl rfl) (RD.q (u:=.int .i64 x34.Typex) rfl (q43 und3 rfl rfl rfl) (RD.q (u:=.ptr 1 0 0) rfl (q16 und25 rfl (q02 inf23) rfl rfl rfl) (RD.q (u:=.isl false (List.map cGNode p2.Nodes)) rfl (q05 und23 rfl rfl rfl rfl) ?_)))))))
 refine RD.mv rfl rfl rfl rfl (RD.q (u:=.iptr (cGNode x36)) rfl (q1x rfl rfl (q2q cGNode und23 (q02 inf43) q1h h37 rfl)) (RD.q (u:=.iptr (cGNode x36)) rfl (q7a und43 rfl (q02 inf3) rfl rfl) (RD.q (u:=.int .i64 x36.Typex) rfl (q43 und3 rfl rfl rfl) (RD.q rfl (q06 rfl rfl (q3m _ _ _) rfl) (RD.mv rfl rfl rfl rfl ?_)))))
 repeat refine RD.no (want0 rfl rfl rfl h38) rfl rfl ?_
 refine RD.q (u:=.bool true) rfl (q0l rfl h38 rfl) ?_
 refine RD.done ⟨by kernel_rfl,trivial,?_⟩
 refine st ?_
 exact ⟨_,_,⟨rfl,rfl⟩,(Nat.zero_le _),Gh.toC (n1:=5) ⟨rfl,rfl,rfl,rfl,rfl,rfl,rfl,rfl,rfl,trivial⟩ rfl (Nat.zero_le _) (by simp)⟩
 replace h44:=q0h h38 h44
 obtain ⟨x39,h40,h44⟩:=q00 h44
 obtain ⟨x41,h42,h44⟩:=q00 h44
 replace h44:=Option.some.inj h44
 subst h44
 refine WPU.drawE Try.tb_ok [] (by kernel_rfl) ?_
 refine RD.q (u:=.ptr 0 0 0) rfl (q16 und25 rfl (q02 inf23) rfl rfl rfl) (RD.q (u:=.isl false (List.map cGNode p1.Nodes)) rfl (q05 und23 rfl rfl rfl rfl) (RD.mv rfl rfl rfl rfl (RD.q (u:=.iptr (cGNode x34)) rfl (q1x rfl rfl (q2q cGNode und23 (q02 inf43) q1h h35 rfl)) (RD.q (u:=.iptr (cGNode x34)) rfl (q7a und43 rfl (q02 inf3) rfl rfl) (RD.q (u:=.int .i64 x34.Typex) rfl (q43 und3 rfl rfl rfl) (RD.q (u:=.ptr 1 0 0) rfl (q16 und25 rfl (q02 inf23) rfl rfl rfl) (RD.q (u:=.isl false (List.map cGNode p2.Nodes)) rfl (q05 und23 rfl rfl rfl rfl) ?_)))))))
 refine RD.mv rfl rfl rfl rfl (RD.q (u:=.iptr (cGNode x36)) rfl (q1x rfl rfl (q2q cGNode und23 (q02 inf43) q1h h37 rfl)) (RD.q (u:=.iptr (cGNode x36)) rfl (q7a und43 rfl (q02 inf3) rfl rfl) (RD.q (u:=.int .i64 x36.Typex) rfl (q43 und3 rfl rfl rfl) (RD.q rfl (q06 rfl rfl (q3m _ _ _) rfl) (RD.mv rfl rfl rfl rfl (RD.look (u:=.ptr 0 0 0) (want1 rfl rfl rfl h38) (q16 und25 rfl (q02 inf23) rfl rfl rfl) rfl rfl (RD.look (u:=.isl false (List.map cGNode p1.Nodes)) (want1 rfl rfl rfl h38) (q05 und23 rfl rfl rfl rfl) rfl rfl ?_)))))))
 refine RD.look (want1 rfl rfl rfl h38) (q33 rfl) rfl rfl (RD.look (u:=.iptr (cGNode x39)) (want1 rfl rfl rfl h38) (q1x rfl rfl (q2q cGNode und23 (q02 inf43) q1h h40 rfl)) rfl rfl (RD.look (u:=.iptr [.isl false (List.map cGArc x39.Arcs)]) (want1 rfl rfl rfl h38) (q7a und43 rfl (q02 inf41) rfl rfl) rfl rfl (RD.look (u:=.isl false (List.map cGArc x39.Arcs)) (want1 rfl rfl rfl h38) (q43 und41 rfl rfl rfl) rfl rfl (RD.look (want1 rfl rfl rfl h38) (q1d rfl rfl rfl (q14 cGArc und41)) rfl rfl (RD.look (u:=.ptr 1 0 0) (want1 rfl rfl rfl h38) (q16 und25 rfl (q02 inf23) rfl rfl rfl) rfl rfl (RD.look (u:=.isl false (List.map cGNode p2.Nodes)) (want1 rfl rfl rfl h38) (q05 und23 rfl rfl rfl rfl) rfl rfl (RD.look (want1 rfl rfl rfl h38) (q33 rfl) rfl rfl ?_)))))))
 refine RD.look (u:=.iptr (cGNode x41)) (want1 rfl rfl rfl h38) (q1x rfl rfl (q2q cGNode und23 (q02 inf43) q1h h42 rfl)) rfl rfl (RD.look (u:=.iptr [.isl false (List.map cGArc x41.Arcs)]) (want1 rfl rfl rfl h38) (q7a und43 rfl (q02 inf41) rfl rfl) rfl rfl (RD.look (u:=.isl false (List.map cGArc x41.Arcs)) (want1 rfl rfl rfl h38) (q43 und41 rfl rfl rfl) rfl rfl (RD.look (want1 rfl rfl rfl h38) (q1d rfl rfl rfl (q14 cGArc und41)) rfl rfl (RD.look (want1 rfl rfl rfl h38) (q06 rfl rfl (q3m _ _ _) rfl) rfl rfl (RD.q (u:=.bool ((x39.Arcs.length:Int) != (x41.Arcs.length:Int))) rfl (q0k rfl h38 rfl) ?_)))))
 refine RD.done ⟨by kernel_rfl,trivial,?_⟩
 refine st ?_
 exact ⟨_,_,⟨rfl,rfl⟩,(Nat.zero_le _),Gh.toC (n1:=5) ⟨rfl,rfl,rfl,rfl,rfl,rfl,rfl,rfl,rfl,trivial⟩ rfl (Nat.zero_le _) (by simp)⟩
 replace hF:=q0h h29 hF
 refine st ?_
 refine WPU.exit ?_
 refine st ?_
 exact ⟨_,_,⟨l21,t22,l23,l24,hF,rfl,rfl⟩,(Nat.zero_le _),Gh.toC (n1:=5) trivial rfl (Nat.zero_le _) (by simp)⟩
 refine sr ?_
 refine RS.q (u:=.ptr 3 0 (0*1+(0:Int).toNat*1)) rfl (q1x rfl rfl (q6g (cI .i64) und55 (q02 inf3) (by decide) (q2t .i64) (vo rfl) h10)) ?_
 refine RS.opn (u:=.junk) (σ':=⟨[(3,.vec (List.map (cI .i64) (r5.set (0+(0:Int).toNat) 0)).flatten 3 1 0),(2,.vec (List.map (cI .i64) (r3.set (0+(0:Int).toNat) 0)).flatten 3 1 0),(1,.row [.isl false (List.map cGNode p2.Nodes)] 25),(0,.row [.isl false (List.map cGNode p1.Nodes)] 25)],4⟩) rfl (st_vp (cI .i64) (q02 inf3) (q2t .i64) rfl rfl rfl rfl rfl rfl rfl (idxO_V h10) rfl) rfl ?_
 refine sd ?_
 exact ⟨_,_,⟨rfl,rfl⟩,(Nat.zero_le _),Gh.eqS ⟨rfl,rfl,rfl,(by simp only [List.length_set]; rfl),trivial⟩ rfl⟩
 refine sr ?_
 refine RS.q (u:=.ptr 2 0 (0*1+(0:Int).toNat*1)) rfl (q1x rfl rfl (q6g (cI .i64) und55 (q02 inf3) (by decide) (q2t .i64) (vo rfl) h8)) ?_
 refine RS.opn (u:=.junk) (σ':=⟨[(3,.vec (List.map (cI .i64) r5).flatten 3 1 0),(2,.vec (List.map (cI .i64) (r3.set (0+(0:Int).toNat) 0)).flatten 3 1 0),(1,.row [.isl false (List.map cGNode p2.Nodes)] 25),(0,.row [.isl false (List.map cGNode p1.Nodes)] 25)],4⟩) rfl (st_vp (cI .i64) (q02 inf3) (q2t .i64) rfl rfl rfl rfl rfl rfl rfl (idxO_V h8) rfl) rfl ?_
 refine sd ?_
 exact ⟨_,_,⟨rfl,rfl⟩,(Nat.zero_le _),Gh.eqS ⟨rfl,rfl,(by simp only [List.length_set]; rfl),rfl,trivial⟩ rfl⟩
theorem q2e (n:Nat) (p1:GFS) (p2:GFS) (r:Bool) (hF:q37 n p1 p2=some r) (σ:Sg):EvU Try.prog 28 [.agg [.isl false (List.map cGNode p1.Nodes)],.agg [.isl false (List.map cGNode p2.Nodes)]] σ (fun u σ'=>u = .bool r∧σ'=σ) :=
 EvU.pure1C (law07_alike_0 n p1 p2 r hF) σ
def q50 (n:Nat) (p1:List GNode):Option (GFS) :=
 some (GFS.mk p1)
theorem law07_of_0 (n:Nat) (p1:List GNode) (r:GFS) (hF:q50 n p1=some r):EvU Try.prog 32 [.isl false (List.map cGNode p1)] ⟨[],0⟩ (fun u _=>u = .agg [.isl false (List.map cGNode r.Nodes)]∧Bel 0 u):=by
 unfold q50 at hF
 refine EvU.of_body Try.tb_ok fn32 rfl ?_
 refine WPU.ghost (tm':=fr 5 [(0,.isl false (List.map cGNode p1))]) (Gh.start (Nat.le_of_ble_eq_true rfl)) (Nat.zero_le _) ?_
 refine sr ?_
 refine RS.q (u:=.ptr 0 0 0) (σ':=⟨[(0,.row [.nils] 25)],1⟩) rfl (q1b inf25 rfl rfl) ?_
 refine se ?_
 refine RS.q (u:=.agg [.isl false (List.map cGNode p1)]) rfl (q79 bd25 rfl rfl rfl) (RS.opn (u:=.junk) (σ':=⟨[(0,.row [.isl false (List.map cGNode p1)] 25)],1⟩) rfl (q0y (q02 inf25) rfl rfl rfl rfl rfl rfl rfl rfl) rfl ?_)
 refine sd ?_
 refine WPU.ret ?_
 refine st ?_
 have hr:=Option.some.inj hF
 subst hr
 exact ⟨.inr rfl,[.agg [.isl false (List.map cGNode p1)]],res_c (q0g und25 rfl (q02 inf25) rfl rfl rfl) (q1o),.agg [.isl false (List.map cGNode p1)],⟨[],0⟩,Nat.le_refl _,Gh.toR (.agg [.isl false (List.map cGNode p1)]) rfl,rfl,BU.h⟩
theorem q1a (n:Nat) (p1:List GNode) (r:GFS) (hF:q50 n p1=some r) (σ:Sg):EvU Try.prog 32 [.isl false (List.map cGNode p1)] σ (fun u σ'=>u = .agg [.isl false (List.map cGNode r.Nodes)]∧σ'=σ) :=
 EvU.pure1C (law07_of_0 n p1 r hF) σ
def q1t (n:Nat)  : Option (Bool) :=
 bindO (q1n n 1 ([0,2,1,1])) fun r1 =>
 bindO (q1n n 2 []) fun r3 =>
 bindO (q1n n 3 ([0,1])) fun r5 =>
 bindO (q50 n ([r1,r3,r5])) fun r7 =>
 bindO (q2v n r7) fun r9 =>
 bindO (q1n n 4 ([7,2,3,1])) fun r11 =>
 bindO (q1n n 5 []) fun r13 =>
 bindO (q1n n 6 ([2,0])) fun r15 =>
 bindO (q50 n ([r11,r13,r15])) fun r17 =>
 bindO (q2v n r17) fun r19 =>
 bindO (cond (r9.2 != 0)
  (some true)
  (cond (r19.2 != 0)
   (some true)
   (bindO (q1n n 1 ([0,1,1,2])) fun r23 =>
   bindO (q1n n 3 ([0,2])) fun r25 =>
   bindO (q1n n 2 []) fun r27 =>
   bindO (q50 n ([r23,r25,r27])) fun r29 =>
   bindO (q4b n (GFS.mk r9.1.Nodes) r29) fun r31 =>
   cond (!r31)
    (some true)
    (bindO (q1n n 4 ([3,1,7,2])) fun r34 =>
    bindO (q1n n 5 []) fun r36 =>
    bindO (q1n n 6 ([2,0])) fun r38 =>
    bindO (q50 n ([r34,r36,r38])) fun r40 =>
    bindO (q4b n (GFS.mk r19.1.Nodes) r40) fun r42 =>
    some (!r42))))) fun b44 =>
 cond b44
  (some false)
  (bindO (q2v n (GFS.mk [])) fun r47 =>
  bindO (cond (r47.2 == 1)
   (bindO (q8k n (GFS.mk r9.1.Nodes) 1) fun r50 =>
   bindO (q1n n 3 ([0,1])) fun r52 =>
   bindO (q1n n 2 []) fun r54 =>
   bindO (q50 n ([r52,r54])) fun r56 =>
   bindO (q4b n r50 r56) fun r58 =>
   cond r58
    (bindO (q1n n 1 ([5,0])) fun r61 =>
    bindO (q50 n ([r61])) fun r63 =>
    bindO (q59 n r63) fun r65 =>
    cond r65
     (bindO (q59 n (GFS.mk r9.1.Nodes)) fun r68 =>
     cond (!r68)
      (bindO (q6e n 4) fun r71 =>
      bindO (q1n n 4 []) fun r73 =>
      bindO (q50 n ([r73])) fun r75 =>
      bindO (q4b n r71 r75) fun r77 =>
      cond r77
       (bindO (q4a n (GFS.mk r9.1.Nodes) (GFS.mk r9.1.Nodes)) fun r80 =>
       cond r80
        (bindO (q6e n 9) fun r83 =>
        bindO (q36 n r83 (GFS.mk r9.1.Nodes)) fun r85 =>
        some (r85 == (-1)))
        (some false))
       (some false))
      (some false))
     (some false))
    (some false))
   (some false)) fun b87 =>
  some b87)
theorem q7w (n:Nat)  (r:Bool) (hF:q1t n  = some r):EvU Try.prog 16 [] ⟨[],0⟩ (fun u _=>u = .bool r∧Bel 0 u):=by
 unfold q1t at hF
 refine EvU.of_body Try.tb_ok fn16 rfl ?_
 refine WPU.ghost (tm':=fr 106 []) (Gh.start (Nat.le_of_ble_eq_true rfl)) (Nat.zero_le _) ?_
 refine sr ?_
 refine sd ?_
 obtain ⟨r1,h2,hF⟩:=q00 hF
 obtain ⟨r3,h4,hF⟩:=q00 hF
 obtain ⟨r5,h6,hF⟩:=q00 hF
 obtain ⟨r7,h8,hF⟩:=q00 hF
 obtain ⟨r9,h10,hF⟩:=q00 hF
 refine sr ?_
 refine RS.q (u:=.sl 0 0 4 4) (σ':=⟨[(0,.row [.int .i64 0,.int .i64 2,.int .i64 1,.int .i64 1] 3)],1⟩) rfl (q24 und55 inf3 rfl rfl rfl rfl rfl rfl rfl) ?_
 refine RS.fcall (u:=.agg (cGNode r1)) (args:=[.int .i64 1,.sl 0 0 4 4]) (σ1:=⟨[],1⟩) rfl (q01 rfl rfl fn29 hb29 rfl rfl) (Gh.fz (tm':=[.int .i64 1,.isl false (List.map (cI .i64) ([0,2,1,1]))]) (h':=[]) 0 (.row [.int .i64 0,.int .i64 2,.int .i64 1,.int .i64 1] 3) 1 rfl (by simp) (by simp only [oneU,q07,q03,q0n,q09,q0q,q0d,q0c,q0b,q0a,q08,q0o,q0p,q0m,q0r,q1k,junkT,q1u,q1v,Nat.reduceLeDiff,Nat.reduceMul,List.length_cons,List.length_nil,Nat.reduceAdd]<;>simp only [chunks,List.take,List.drop,List.map,cI,cB,cS,cL]) (by simp only [fzH,fzB,ug,Nat.beq,cond_true,cond_false,oneU,q07,q03,q0n,q09,q0q,q0d,q0c,q0b,q0a,q08,q0o,q0p,q0m,q0r,q1k,junkT,q1u,q1v,Nat.reduceLeDiff,Nat.reduceMul,List.length_cons,List.length_nil,Nat.reduceAdd]<;>simp only [chunks,List.take,List.drop,List.map,cI,cB,cS,cL])) (Nat.le_of_ble_eq_true rfl) (q04 n 1 ([0,2,1,1]) r1 h2 _) rfl rfl ?_
 refine RS.call (u:=.agg (cGNode r3)) (args:=[.int .i64 2,.nils]) rfl (q01 rfl rfl fn29 hb29 rfl rfl) (EvU.wkA (args':=[.int .i64 2,.isl false []]) (.cons (.refl _) (.cons (.nil false) .nil)) (fun s=>q04 n 2 [] r3 h4 s) _) rfl rfl (RS.q (u:=.sl 1 0 2 2) (σ':=⟨[(1,.row [.int .i64 0,.int .i64 1] 3)],2⟩) rfl (q24 und55 inf3 rfl rfl rfl rfl rfl rfl rfl) ?_)
 refine RS.fcall (u:=.agg (cGNode r5)) (args:=[.int .i64 3,.sl 1 0 2 2]) (σ1:=⟨[],2⟩) rfl (q01 rfl rfl fn29 hb29 rfl rfl) (Gh.fz (tm':=[.int .i64 3,.isl false (List.map (cI .i64) ([0,1]))]) (h':=[]) 1 (.row [.int .i64 0,.int .i64 1] 3) 1 rfl (by simp) (by simp only [oneU,q07,q03,q0n,q09,q0q,q0d,q0c,q0b,q0a,q08,q0o,q0p,q0m,q0r,q1k,junkT,q1u,q1v,Nat.reduceLeDiff,Nat.reduceMul,List.length_cons,List.length_nil,Nat.reduceAdd]<;>simp only [chunks,List.take,List.drop,List.map,cI,cB,cS,cL]) (by simp only [fzH,fzB,ug,Nat.beq,cond_true,cond_false,oneU,q07,q03,q0n,q09,q0q,q0d,q0c,q0b,q0a,q08,q0o,q0p,q0m,q0r,q1k,junkT,q1u,q1v,Nat.reduceLeDiff,Nat.reduceMul,List.length_cons,List.length_nil,Nat.reduceAdd]<;>simp only [chunks,List.take,List.drop,List.map,cI,cB,cS,cL])) (Nat.le_of_ble_eq_true rfl) (q04 n 3 ([0,1]) r5 h6 _) rfl rfl ?_
 refine RS.q (u:=.sl 2 0 3 3) (σ':=⟨[(2,.row [.int .i64 r1.Typex,.isl false (List.map cGArc r1.Arcs),.int .i64 r3.Typex,.isl false (List.map cGArc r3.Arcs),.int .i64 r5.Typex,.isl false (List.map cGArc r5.Arcs)] 43)],3⟩) rfl (q24 und23 inf43 rfl rfl rfl rfl rfl rfl rfl) ?_
 refine RS.fcall (u:=.agg [.isl false (List.map cGNode r7.Nodes)]) (args:=[.sl 2 0 3 3]) (σ1:=⟨[],3⟩) rfl (q01 rfl rfl fn32 hb32 rfl rfl) (Gh.fz (tm':=[.isl false (List.map cGNode ([r1,r3,r5]))]) (h':=[]) 2 (.row [.int .i64 r1.Typex,.isl false (List.map cGArc r1.Arcs),.int .i64 r3.Typex,.isl false (List.map cGArc r3.Arcs),.int .i64 r5.Typex,.isl false (List.map cGArc r5.Arcs)] 43) 2 rfl (by simp) (by simp only [oneU,q07,q03,q0n,q09,q0q,q0d,q0c,q0b,q0a,q08,q0o,q0p,q0m,q0r,q1k,junkT,q1u,q1v,Nat.reduceLeDiff,Nat.reduceMul,List.length_cons,List.length_nil,Nat.reduceAdd]<;>simp only [chunks,List.take,List.drop,List.map,cGNode]) (by simp only [fzH,fzB,ug,Nat.beq,cond_true,cond_false,oneU,q07,q03,q0n,q09,q0q,q0d,q0c,q0b,q0a,q08,q0o,q0p,q0m,q0r,q1k,junkT,q1u,q1v,Nat.reduceLeDiff,Nat.reduceMul,List.length_cons,List.length_nil,Nat.reduceAdd]<;>simp only [chunks,List.take,List.drop,List.map,cGNode])) (Nat.le_of_ble_eq_true rfl) (q1a n ([r1,r3,r5]) r7 h8 _) rfl rfl ?_
 refine RS.call (u:=.tup [.agg [.isl false (List.map cGNode r9.1.Nodes)],.int .i64 r9.2]) (args:=[.agg [.isl false (List.map cGNode r7.Nodes)]]) rfl (q01 rfl rfl fn13 hb13 rfl rfl) (q41 n r7 r9 h10 _) rfl rfl (RS.mv rfl rfl rfl rfl (RS.q rfl (q69 rfl rfl) (RS.q rfl (q69 rfl rfl) (RS.q (u:=.ptr 3 0 0) (σ':=⟨[(3,.row [.nils] 25)],4⟩) rfl (q1b inf25 rfl rfl) (RS.opn (u:=.junk) (σ':=⟨[(3,.row [.isl false (List.map cGNode r9.1.Nodes)] 25)],4⟩) rfl (q0y (q02 inf25) rfl rfl rfl rfl rfl rfl rfl rfl) rfl ?_)))))
 refine sd ?_
 obtain ⟨r11,h12,hF⟩:=q00 hF
 obtain ⟨r13,h14,hF⟩:=q00 hF
 obtain ⟨r15,h16,hF⟩:=q00 hF
 obtain ⟨r17,h18,hF⟩:=q00 hF
 obtain ⟨r19,h20,hF⟩:=q00 hF
 refine sr ?_
 refine RS.q (u:=.sl 4 0 4 4) (σ':=⟨[(4,.row [.int .i64 7,.int .i64 2,.int .i64 3,.int .i64 1] 3),(3,.row [.isl false (List.map cGNode r9.1.Nodes)] 25)],5⟩) rfl (q24 und55 inf3 rfl rfl rfl rfl rfl rfl rfl) ?_
 refine RS.fcall (u:=.agg (cGNode r11)) (args:=[.int .i64 4,.sl 4 0 4 4]) (σ1:=⟨[(3,.row [.isl false (List.map cGNode r9.1.Nodes)] 25)],5⟩) rfl (q01 rfl rfl fn29 hb29 rfl rfl) (Gh.fz (tm':=[.int .i64 4,.isl false (List.map (cI .i64) ([7,2,3,1]))]) (h':=[(3,.row [.isl false (List.map cGNode r9.1.Nodes)] 25)]) 4 (.row [.int .i64 7,.int .i64 2,.int .i64 3,.int .i64 1] 3) 1 rfl (by simp) (by simp only [oneU,q07,q03,q0n,q09,q0q,q0d,q0c,q0b,q0a,q08,q0o,q0p,q0m,q0r,q1k,junkT,q1u,q1v,Nat.reduceLeDiff,Nat.reduceMul,List.length_cons,List.length_nil,Nat.reduceAdd]<;>simp only [chunks,List.take,List.drop,List.map,cI,cB,cS,cL]) (by simp only [fzH,fzB,ug,Nat.beq,cond_true,cond_false,oneU,q07,q03,q0n,q09,q0q,q0d,q0c,q0b,q0a,q08,q0o,q0p,q0m,q0r,q1k,junkT,q1u,q1v,Nat.reduceLeDiff,Nat.reduceMul,List.length_cons,List.length_nil,Nat.reduceAdd]<;>simp only [chunks,List.take,List.drop,List.map,cI,cB,cS,cL])) (Nat.le_of_ble_eq_true rfl) (q04 n 4 ([7,2,3,1]) r11 h12 _) rfl rfl ?_
 refine RS.call (u:=.agg (cGNode r13)) (args:=[.int .i64 5,.nils]) rfl (q01 rfl rfl fn29 hb29 rfl rfl) (EvU.wkA (args':=[.int .i64 5,.isl false []]) (.cons (.refl _) (.cons (.nil false) .nil)) (fun s=>q04 n 5 [] r13 h14 s) _) rfl rfl (RS.q (u:=.sl 5 0 2 2) (σ':=⟨[(5,.row [.int .i64 2,.int .i64 0] 3),(3,.row [.isl false (List.map cGNode r9.1.Nodes)] 25)],6⟩) rfl (q24 und55 inf3 rfl rfl rfl rfl rfl rfl rfl) ?_)
 refine RS.fcall (u:=.agg (cGNode r15)) (args:=[.int .i64 6,.sl 5 0 2 2]) (σ1:=⟨[(3,.row [.isl false (List.map cGNode r9.1.Nodes)] 25)],6⟩) rfl (q01 rfl rfl fn29 hb29 rfl rfl) (Gh.fz (tm':=[.int .i64 6,.isl false (List.map (cI .i64) ([2,0]))]) (h':=[(3,.row [.isl false (List.map cGNode r9.1.Nodes)] 25)]) 5 (.row [.int .i64 2,.int .i64 0] 3) 1 rfl (by simp) (by simp only [oneU,q07,q03,q0n,q09,q0q,q0d,q0c,q0b,q0a,q08,q0o,q0p,q0m,q0r,q1k,junkT,q1u,q1v,Nat.reduceLeDiff,Nat.reduceMul,List.length_cons,List.length_nil,Nat.reduceAdd]<;>simp only [chunks,List.take,List.drop,List.map,cI,cB,cS,cL]) (by simp only [fzH,fzB,ug,Nat.beq,cond_true,cond_false,oneU,q07,q03,q0n,q09,q0q,q0d,q0c,q0b,q0a,q08,q0o,q0p,q0m,q0r,q1k,junkT,q1u,q1v,Nat.reduceLeDiff,Nat.reduceMul,List.length_cons,List.length_nil,Nat.reduceAdd]<;>simp only [chunks,List.take,List.drop,List.map,cI,cB,cS,cL])) (Nat.le_of_ble_eq_true rfl) (q04 n 6 ([2,0]) r15 h16 _) rfl rfl ?_
 refine RS.q (u:=.sl 6 0 3 3) (σ':=⟨[(6,.row [.int .i64 r11.Typex,.isl false (List.map cGArc r11.Arcs),.int .i64 r13.Typex,.isl false (List.map cGArc r13.Arcs),.int .i64 r15.Typex,.isl false (List.map cGArc r15.Arcs)] 43),(3,.row [.isl false (List.map cGNode r9.1.Nodes)] 25)],7⟩) rfl (q24 und23 inf43 rfl rfl rfl rfl rfl rfl rfl) ?_
 refine RS.fcall (u:=.agg [.isl false (List.map cGNode r17.Nodes)]) (args:=[.sl 6 0 3 3]) (σ1:=⟨[(3,.row [.isl false (List.map cGNode r9.1.Nodes)] 25)],7⟩) rfl (q01 rfl rfl fn32 hb32 rfl rfl) (Gh.fz (tm':=[.isl false (List.map cGNode ([r11,r13,r15]))]) (h':=[(3,.row [.isl false (List.map cGNode r9.1.Nodes)] 25)]) 6 (.row [.int .i64 r11.Typex,.isl false (List.map cGArc r11.Arcs),.int .i64 r13.Typex,.isl false (List.map cGArc r13.Arcs),.int .i64 r15.Typex,.isl false (List.map cGArc r15.Arcs)] 43) 2 rfl (by simp) (by simp only [oneU,q07,q03,q0n,q09,q0q,q0d,q0c,q0b,q0a,q08,q0o,q0p,q0m,q0r,q1k,junkT,q1u,q1v,Nat.reduceLeDiff,Nat.reduceMul,List.length_cons,List.length_nil,Nat.reduceAdd]<;>simp only [chunks,List.take,List.drop,List.map,cGNode]) (by simp only [fzH,fzB,ug,Nat.beq,cond_true,cond_false,oneU,q07,q03,q0n,q09,q0q,q0d,q0c,q0b,q0a,q08,q0o,q0p,q0m,q0r,q1k,junkT,q1u,q1v,Nat.reduceLeDiff,Nat.reduceMul,List.length_cons,List.length_nil,Nat.reduceAdd]<;>simp only [chunks,List.take,List.drop,List.map,cGNode])) (Nat.le_of_ble_eq_true rfl) (q1a n ([r11,r13,r15]) r17 h18 _) rfl rfl ?_
 refine RS.call (u:=.tup [.agg [.isl false (List.map cGNode r19.1.Nodes)],.int .i64 r19.2]) (args:=[.agg [.isl false (List.map cGNode r17.Nodes)]]) rfl (q01 rfl rfl fn13 hb13 rfl rfl) (q41 n r17 r19 h20 _) rfl rfl (RS.mv rfl rfl rfl rfl (RS.q rfl (q69 rfl rfl) (RS.q rfl (q69 rfl rfl) (RS.q (u:=.ptr 7 0 0) (σ':=⟨[(7,.row [.nils] 25),(3,.row [.isl false (List.map cGNode r9.1.Nodes)] 25)],8⟩) rfl (q1b inf25 rfl rfl) (RS.opn (u:=.junk) (σ':=⟨[(7,.row [.isl false (List.map cGNode r19.1.Nodes)] 25),(3,.row [.isl false (List.map cGNode r9.1.Nodes)] 25)],8⟩) rfl (q0y (q02 inf25) rfl rfl rfl rfl rfl rfl rfl rfl) rfl ?_)))))
 refine sd ?_
 obtain ⟨b44,h45,hF⟩:=q00 hF
 refine WPU.joinK (fun tm σ=>tm=fr 106 [(1,.ptr 3 0 0),(58,.bool b44)]∧σ=⟨[(7,.row [.isl false (List.map cGNode r19.1.Nodes)] 25),(3,.row [.isl false (List.map cGNode r9.1.Nodes)] 25)],8⟩) ?_ ?_
 rintro _ _ ⟨rfl,rfl⟩
 refine st ?_
 refine WPU.condS (t:=b44) rfl (fun h46=>?_) (fun h46=>?_)
 replace hF:=q0i h46 hF
 refine sr ?_
 refine sd ?_
 refine WPU.ret ?_
 refine st ?_
 have hr:=Option.some.inj hF
 subst hr
 exact ⟨.inr rfl,[.bool false],q1w rfl (q1o),.bool false,⟨[],0⟩,Nat.le_refl _,Gh.toR (.bool false) rfl,rfl,BU.h⟩
 replace hF:=q0h h46 hF
 refine st ?_
 refine WPU.skip ?_
 refine st ?_
 obtain ⟨r47,h48,hF⟩:=q00 hF
 refine sr ?_
 refine RS.q (u:=.agg [.nils]) rfl (q79 bd25 rfl rfl rfl) (RS.call (u:=.tup [.agg [.isl false (List.map cGNode r47.1.Nodes)],.int .i64 r47.2]) (args:=[.agg [.nils]]) rfl (q01 rfl rfl fn13 hb13 rfl rfl) (EvU.wkA (args':=[.agg [.isl false []]]) (.cons (.agg (.cons (.nil false) .nil)) .nil) (fun s=>q41 n (GFS.mk []) r47 h48 s) _) rfl rfl (RS.mv rfl rfl rfl rfl (RS.q rfl (q69 rfl rfl) (RS.q rfl (q69 rfl rfl) (RS.q (u:=.ptr 8 0 0) (σ':=⟨[(8,.row [.nils] 25),(7,.row [.isl false (List.map cGNode r19.1.Nodes)] 25),(3,.row [.isl false (List.map cGNode r9.1.Nodes)] 25)],9⟩) rfl (q1b inf25 rfl rfl) (RS.opn (u:=.junk) (σ':=⟨[(8,.row [.isl false (List.map cGNode r47.1.Nodes)] 25),(7,.row [.isl false (List.map cGNode r19.1.Nodes)] 25),(3,.row [.isl false (List.map cGNode r9.1.Nodes)] 25)],9⟩) rfl (q0y (q02 inf25) rfl rfl rfl rfl rfl rfl rfl rfl) rfl ?_))))))
 refine sd ?_
 obtain ⟨b87,h88,hF⟩:=q00 hF
 refine WPU.joinK (fun tm σ=>tm=fr 106 [(0,.bool b87)]∧σ=⟨[(8,.row [.isl false (List.map cGNode r47.1.Nodes)] 25),(7,.row [.isl false (List.map cGNode r19.1.Nodes)] 25),(3,.row [.isl false (List.map cGNode r9.1.Nodes)] 25)],9⟩) ?_ ?_
 rintro _ _ ⟨rfl,rfl⟩
 refine st ?_
 refine WPU.ret ?_
 refine st ?_
 have hr:=Option.some.inj hF
 subst hr
 exact ⟨.inr rfl,[.bool b87],q1w rfl (q1o),.bool b87,⟨[],0⟩,Nat.le_refl _,Gh.toR (.bool b87) rfl,rfl,BU.h⟩
 rcases q2m (r47.2 == 1) with h49 | h49
 replace h88:=q0i h49 h88
 obtain ⟨r50,h51,h88⟩:=q00 h88
 obtain ⟨r52,h53,h88⟩:=q00 h88
 obtain ⟨r54,h55,h88⟩:=q00 h88
 obtain ⟨r56,h57,h88⟩:=q00 h88
 obtain ⟨r58,h59,h88⟩:=q00 h88
 rcases q2m r58 with h60 | h60
 replace h88:=q0i h60 h88
 obtain ⟨r61,h62,h88⟩:=q00 h88
 obtain ⟨r63,h64,h88⟩:=q00 h88
 obtain ⟨r65,h66,h88⟩:=q00 h88
 rcases q2m r65 with h67 | h67
 replace h88:=q0i h67 h88
 obtain ⟨r68,h69,h88⟩:=q00 h88
 rcases q2m (!r68) with h70 | h70
 replace h88:=q0i h70 h88
 obtain ⟨r71,h72,h88⟩:=q00 h88
 obtain ⟨r73,h74,h88⟩:=q00 h88
 obtain ⟨r75,h76,h88⟩:=q00 h88
 obtain ⟨r77,h78,h88⟩:=q00 h88
 rcases q2m r77 with h79 | h79
 replace h88:=q0i h79 h88
 obtain ⟨r80,h81,h88⟩:=q00 h88
 rcases q2m r80 with h82 | h82
 replace h88:=q0i h82 h88
 obtain ⟨r83,h84,h88⟩:=q00 h88
 obtain ⟨r85,h86,h88⟩:=q00 h88
 replace h88:=Option.some.inj h88
 subst h88
 refine WPU.drawE Try.tb_ok [] (by kernel_rfl) ?_
 refine RD.mv rfl rfl rfl rfl (RD.q rfl (q06 rfl rfl (q6z _ _ _) rfl) (RD.mv rfl rfl rfl rfl (RD.look (u:=.agg [.isl false (List.map cGNode r9.1.Nodes)]) (want1 rfl rfl rfl h49) (q0g und25 rfl (q02 inf25) rfl rfl rfl) rfl rfl (RD.free (u:=.agg [.isl false (List.map cGNode r50.Nodes)]) (args:=[.agg [.isl false (List.map cGNode r9.1.Nodes)],.int .i64 1]) (want1 rfl rfl rfl h49) (q01 rfl rfl fn20 hb20 rfl rfl) (fun s=>q4e n (GFS.mk r9.1.Nodes) 1 r50 h51 s) rfl rfl (RD.freeO (u:=.isl false (List.map (cI .i64) ([0,1]))) (want1 rfl rfl rfl h49) (FreeO.bs (cs:=[.int .i64 0,.int .i64 1]) und55 inf3 rfl rfl rfl rfl rfl rfl rfl rfl rfl) rfl rfl (RD.free (u:=.agg (cGNode r52)) (args:=[.int .i64 3,.isl false (List.map (cI .i64) ([0,1]))]) (want1 rfl rfl rfl h49) (q01 rfl rfl fn29 hb29 rfl rfl) (fun s=>q04 n 3 ([0,1]) r52 h53 s) rfl rfl (RD.free (u:=.agg (cGNode r54)) (args:=[.int .i64 2,.nils]) (want1 rfl rfl rfl h49) (q01 rfl rfl fn29 hb29 rfl rfl) (fun s=>EvU.wkA (args':=[.int .i64 2,.isl false []]) (.cons (.refl _) (.cons (.nil false) .nil)) (fun s=>q04 n 2 [] r54 h55 s) s) rfl rfl ?_)))))))
 refine RD.act (u:=.sl 9 0 2 2) (σ':=⟨[(9,.row [.int .i64 r52.Typex,.isl false (List.map cGArc r52.Arcs),.int .i64 r54.Typex,.isl false (List.map cGArc r54.Arcs)] 43),(8,.row [.isl false (List.map cGNode r47.1.Nodes)] 25),(7,.row [.isl false (List.map cGNode r19.1.Nodes)] 25),(3,.row [.isl false (List.map cGNode r9.1.Nodes)] 25)],10⟩) (want1 rfl rfl rfl h49) (q24 und23 inf43 rfl rfl rfl rfl rfl rfl rfl) rfl rfl ?_
 refine RD.fcall (u:=.agg [.isl false (List.map cGNode r56.Nodes)]) (args:=[.sl 9 0 2 2]) (σ1:=⟨[(8,.row [.isl false (List.map cGNode r47.1.Nodes)] 25),(7,.row [.isl false (List.map cGNode r19.1.Nodes)] 25),(3,.row [.isl false (List.map cGNode r9.1.Nodes)] 25)],10⟩) (want1 rfl rfl rfl h49) (q01 rfl rfl fn32 hb32 rfl rfl) (Gh.fz (tm':=[.isl false (List.map cGNode ([r52,r54]))]) (h':=[(8,.row [.isl false (List.map cGNode r47.1.Nodes)] 25),(7,.row [.isl false (List.map cGNode r19.1.Nodes)] 25),(3,.row [.isl false (List.map cGNode r9.1.Nodes)] 25)]) 9 (.row [.int .i64 r52.Typex,.isl false (List.map cGArc r52.Arcs),.int .i64 r54.Typex,.isl false (List.map cGArc r54.Arcs)] 43) 2 rfl (by simp) (by simp only [oneU,q07,q03,q0n,q09,q0q,q0d,q0c,q0b,q0a,q08,q0o,q0p,q0m,q0r,q1k,junkT,q1u,q1v,Nat.reduceLeDiff,Nat.reduceMul,List.length_cons,List.length_nil,Nat.reduceAdd]<;>simp only [chunks,List.take,List.drop,List.map,cGNode]) (by simp only [fzH,fzB,ug,Nat.beq,cond_true,cond_false,oneU,q07,q03,q0n,q09,q0q,q0d,q0c,q0b,q0a,q08,q0o,q0p,q0m,q0r,q1k,junkT,q1u,q1v,Nat.reduceLeDiff,Nat.reduceMul,List.length_cons,List.length_nil,Nat.reduceAdd]<;>simp only [chunks,List.take,List.drop,List.map,cGNode])) (Nat.le_of_ble_eq_true rfl) (q1a n ([r52,r54]) r56 h57 _) rfl rfl ?_
 refine RD.free (u:=.bool r58) (args:=[.agg [.isl false (List.map cGNode r50.Nodes)],.agg [.isl false (List.map cGNode r56.Nodes)]]) (want1 rfl rfl rfl h49) (q01 rfl rfl fn14 hb14 rfl rfl) (fun s=>q1l n r50 r56 r58 h59 s) rfl rfl (RD.q (u:=.bool r58) rfl (q0l rfl h49 rfl) (RD.mv rfl rfl rfl rfl (RD.act (u:=.sl 10 0 2 2) (σ':=⟨[(10,.row [.int .i64 5,.int .i64 0] 3),(8,.row [.isl false (List.map cGNode r47.1.Nodes)] 25),(7,.row [.isl false (List.map cGNode r19.1.Nodes)] 25),(3,.row [.isl false (List.map cGNode r9.1.Nodes)] 25)],11⟩) (want1 rfl rfl rfl h60) (q24 und55 inf3 rfl rfl rfl rfl rfl rfl rfl) rfl rfl ?_)))
 refine RD.fcall (u:=.agg (cGNode r61)) (args:=[.int .i64 1,.sl 10 0 2 2]) (σ1:=⟨[(8,.row [.isl false (List.map cGNode r47.1.Nodes)] 25),(7,.row [.isl false (List.map cGNode r19.1.Nodes)] 25),(3,.row [.isl false (List.map cGNode r9.1.Nodes)] 25)],11⟩) (want1 rfl rfl rfl h60) (q01 rfl rfl fn29 hb29 rfl rfl) (Gh.fz (tm':=[.int .i64 1,.isl false (List.map (cI .i64) ([5,0]))]) (h':=[(8,.row [.isl false (List.map cGNode r47.1.Nodes)] 25),(7,.row [.isl false (List.map cGNode r19.1.Nodes)] 25),(3,.row [.isl false (List.map cGNode r9.1.Nodes)] 25)]) 10 (.row [.int .i64 5,.int .i64 0] 3) 1 rfl (by simp) (by simp only [oneU,q07,q03,q0n,q09,q0q,q0d,q0c,q0b,q0a,q08,q0o,q0p,q0m,q0r,q1k,junkT,q1u,q1v,Nat.reduceLeDiff,Nat.reduceMul,List.length_cons,List.length_nil,Nat.reduceAdd]<;>simp only [chunks,List.take,List.drop,List.map,cI,cB,cS,cL]) (by simp only [fzH,fzB,ug,Nat.beq,cond_true,cond_false,oneU,q07,q03,q0n,q09,q0q,q0d,q0c,q0b,q0a,q08,q0o,q0p,q0m,q0r,q1k,junkT,q1u,q1v,Nat.reduceLeDiff,Nat.reduceMul,List.length_cons,List.length_nil,Nat.reduceAdd]<;>simp only [chunks,List.take,List.drop,List.map,cI,cB,cS,cL])) (Nat.le_of_ble_eq_true rfl) (q04 n 1 ([5,0]) r61 h62 _) rfl rfl ?_
 refine RD.act (u:=.sl 11 0 1 1) (σ':=⟨[(11,.row (cGNode r61) 43),(8,.row [.isl false (List.map cGNode r47.1.Nodes)] 25),(7,.row [.isl false (List.map cGNode r19.1.Nodes)] 25),(3,.row [.isl false (List.map cGNode r9.1.Nodes)] 25)],12⟩) (want1 rfl rfl rfl h60) (q24 und23 inf43 rfl rfl rfl rfl rfl rfl rfl) rfl rfl ?_
 refine RD.fcall (u:=.agg [.isl false (List.map cGNode r63.Nodes)]) (args:=[.sl 11 0 1 1]) (σ1:=⟨[(8,.row [.isl false (List.map cGNode r47.1.Nodes)] 25),(7,.row [.isl false (List.map cGNode r19.1.Nodes)] 25),(3,.row [.isl false (List.map cGNode r9.1.Nodes)] 25)],12⟩) (want1 rfl rfl rfl h60) (q01 rfl rfl fn32 hb32 rfl rfl) (Gh.fz (tm':=[.isl false (List.map cGNode ([r61]))]) (h':=[(8,.row [.isl false (List.map cGNode r47.1.Nodes)] 25),(7,.row [.isl false (List.map cGNode r19.1.Nodes)] 25),(3,.row [.isl false (List.map cGNode r9.1.Nodes)] 25)]) 11 (.row [.int .i64 r61.Typex,.isl false (List.map cGArc r61.Arcs)] 43) 2 rfl (by simp) (by simp only [oneU,q07,q03,q0n,q09,q0q,q0d,q0c,q0b,q0a,q08,q0o,q0p,q0m,q0r,q1k,junkT,q1u,q1v,q29,Nat.reduceLeDiff,Nat.reduceMul,List.length_cons,List.length_nil,Nat.reduceAdd]<;>simp only [chunks,List.take,List.drop,List.map,cGNode]) (by simp only [fzH,fzB,ug,Nat.beq,cond_true,cond_false,oneU,q07,q03,q0n,q09,q0q,q0d,q0c,q0b,q0a,q08,q0o,q0p,q0m,q0r,q1k,junkT,q1u,q1v,q29,Nat.reduceLeDiff,Nat.reduceMul,List.length_cons,List.length_nil,Nat.reduceAdd]<;>simp only [chunks,List.take,List.drop,List.map,cGNode])) (Nat.le_of_ble_eq_true rfl) (q1a n ([r61]) r63 h64 _) rfl rfl ?_
 refine RD.free (u:=.bool r65) (args:=[.agg [.isl false (List.map cGNode r63.Nodes)]]) (want1 rfl rfl rfl h60) (q01 rfl rfl fn22 hb22 rfl rfl) (fun s=>q20 n r63 r65 h66 s) rfl rfl (RD.q (u:=.bool r65) rfl (q0l rfl h60 rfl) (RD.mv rfl rfl rfl rfl (RD.look (u:=.agg [.isl false (List.map cGNode r9.1.Nodes)]) (want1 rfl rfl rfl h67) (q0g und25 rfl (q02 inf25) rfl rfl rfl) rfl rfl (RD.free (u:=.bool r68) (args:=[.agg [.isl false (List.map cGNode r9.1.Nodes)]]) (want1 rfl rfl rfl h67) (q01 rfl rfl fn22 hb22 rfl rfl) (fun s=>q20 n (GFS.mk r9.1.Nodes) r68 h69 s) rfl rfl (RD.look (u:=.bool (!r68)) (want1 rfl rfl rfl h67) (q7b rfl rfl rfl rfl) rfl rfl (RD.q (u:=.bool (!r68)) rfl (q0l rfl h67 rfl) (RD.mv rfl rfl rfl rfl ?_)))))))
 refine RD.free (u:=.agg [.isl false (List.map cGNode r71.Nodes)]) (args:=[.int .i64 4]) (want1 rfl rfl rfl h70) (q01 rfl rfl fn12 hb12 rfl rfl) (fun s=>q5n n 4 r71 h72 s) rfl rfl (RD.free (u:=.agg (cGNode r73)) (args:=[.int .i64 4,.nils]) (want1 rfl rfl rfl h70) (q01 rfl rfl fn29 hb29 rfl rfl) (fun s=>EvU.wkA (args':=[.int .i64 4,.isl false []]) (.cons (.refl _) (.cons (.nil false) .nil)) (fun s=>q04 n 4 [] r73 h74 s) s) rfl rfl (RD.act (u:=.sl 12 0 1 1) (σ':=⟨[(12,.row (cGNode r73) 43),(8,.row [.isl false (List.map cGNode r47.1.Nodes)] 25),(7,.row [.isl false (List.map cGNode r19.1.Nodes)] 25),(3,.row [.isl false (List.map cGNode r9.1.Nodes)] 25)],13⟩) (want1 rfl rfl rfl h70) (q24 und23 inf43 rfl rfl rfl rfl rfl rfl rfl) rfl rfl ?_))
 refine RD.fcall (u:=.agg [.isl false (List.map cGNode r75.Nodes)]) (args:=[.sl 12 0 1 1]) (σ1:=⟨[(8,.row [.isl false (List.map cGNode r47.1.Nodes)] 25),(7,.row [.isl false (List.map cGNode r19.1.Nodes)] 25),(3,.row [.isl false (List.map cGNode r9.1.Nodes)] 25)],13⟩) (want1 rfl rfl rfl h70) (q01 rfl rfl fn32 hb32 rfl rfl) (Gh.fz (tm':=[.isl false (List.map cGNode ([r73]))]) (h':=[(8,.row [.isl false (List.map cGNode r47.1.Nodes)] 25),(7,.row [.isl false (List.map cGNode r19.1.Nodes)] 25),(3,.row [.isl false (List.map cGNode r9.1.Nodes)] 25)]) 12 (.row [.int .i64 r73.Typex,.isl false (List.map cGArc r73.Arcs)] 43) 2 rfl (by simp) (by simp only [oneU,q07,q03,q0n,q09,q0q,q0d,q0c,q0b,q0a,q08,q0o,q0p,q0m,q0r,q1k,junkT,q1u,q1v,q29,Nat.reduceLeDiff,Nat.reduceMul,List.length_cons,List.length_nil,Nat.reduceAdd]<;>simp only [chunks,List.take,List.drop,List.map,cGNode]) (by simp only [fzH,fzB,ug,Nat.beq,cond_true,cond_false,oneU,q07,q03,q0n,q09,q0q,q0d,q0c,q0b,q0a,q08,q0o,q0p,q0m,q0r,q1k,junkT,q1u,q1v,q29,Nat.reduceLeDiff,Nat.reduceMul,List.length_cons,List.length_nil,Nat.reduceAdd]<;>simp only [chunks,List.take,List.drop,List.map,cGNode])) (Nat.le_of_ble_eq_true rfl) (q1a n ([r73]) r75 h76 _) rfl rfl ?_
 refine RD.free (u:=.bool r77) (args:=[.agg [.isl false (List.map cGNode r71.Nodes)],.agg [.isl false (List.map cGNode r75.Nodes)]]) (want1 rfl rfl rfl h70) (q01 rfl rfl fn14 hb14 rfl rfl) (fun s=>q1l n r71 r75 r77 h78 s) rfl rfl (RD.q (u:=.bool r77) rfl (q0l rfl h70 rfl) (RD.mv rfl rfl rfl rfl (RD.look (u:=.agg [.isl false (List.map cGNode r9.1.Nodes)]) (want1 rfl rfl rfl h79) (q0g und25 rfl (q02 inf25) rfl rfl rfl) rfl rfl (RD.look (u:=.agg [.isl false (List.map cGNode r9.1.Nodes)]) (want1 rfl rfl rfl h79) (q0g und25 rfl (q02 inf25) rfl rfl rfl) rfl rfl (RD.free (u:=.bool r80) (args:=[.agg [.isl false (List.map cGNode r9.1.Nodes)],.agg [.isl false (List.map cGNode r9.1.Nodes)]]) (want1 rfl rfl rfl h79) (q01 rfl rfl fn26 hb26 rfl rfl) (fun s=>q3c n (GFS.mk r9.1.Nodes) (GFS.mk r9.1.Nodes) r80 h81 s) rfl rfl (RD.q (u:=.bool r80) rfl (q0l rfl h79 rfl) (RD.mv rfl rfl rfl rfl ?_)))))))
 refine RD.free (u:=.agg [.isl false (List.map cGNode r83.Nodes)]) (args:=[.int .i64 9]) (want1 rfl rfl rfl h82) (q01 rfl rfl fn12 hb12 rfl rfl) (fun s=>q5n n 9 r83 h84 s) rfl rfl (RD.look (u:=.agg [.isl false (List.map cGNode r9.1.Nodes)]) (want1 rfl rfl rfl h82) (q0g und25 rfl (q02 inf25) rfl rfl rfl) rfl rfl (RD.free (u:=.int .i64 r85) (args:=[.agg [.isl false (List.map cGNode r83.Nodes)],.agg [.isl false (List.map cGNode r9.1.Nodes)]]) (want1 rfl rfl rfl h82) (q01 rfl rfl fn24 hb24 rfl rfl) (fun s=>q6y n r83 (GFS.mk r9.1.Nodes) r85 h86 s) rfl rfl (RD.look (want1 rfl rfl rfl h82) (q06 rfl rfl (q6z _ _ _) rfl) rfl rfl (RD.q (u:=.bool (r85 == (-1))) rfl (q0l rfl h82 rfl) (RD.as rfl rfl rfl rfl ?_)))))
 refine RD.done ⟨by kernel_rfl,trivial,?_⟩
 refine st ?_
 exact ⟨_,_,⟨rfl,rfl⟩,(Nat.zero_le _),Gh.toC (n1:=9) ⟨rfl,trivial⟩ rfl (Nat.zero_le _) (by simp)⟩
 replace h88:=q0h h82 h88
 replace h88:=Option.some.inj h88
 subst h88
 refine WPU.drawE Try.tb_ok [] (by kernel_rfl) ?_
 refine RD.mv rfl rfl rfl rfl (RD.q rfl (q06 rfl rfl (q6z _ _ _) rfl) (RD.mv rfl rfl rfl rfl (RD.look (u:=.agg [.isl false (List.map cGNode r9.1.Nodes)]) (want1 rfl rfl rfl h49) (q0g und25 rfl (q02 inf25) rfl rfl rfl) rfl rfl (RD.free (u:=.agg [.isl false (List.map cGNode r50.Nodes)]) (args:=[.agg [.isl false (List.map cGNode r9.1.Nodes)],.int .i64 1]) (want1 rfl rfl rfl h49) (q01 rfl rfl fn20 hb20 rfl rfl) (fun s=>q4e n (GFS.mk r9.1.Nodes) 1 r50 h51 s) rfl rfl (RD.freeO (u:=.isl false (List.map (cI .i64) ([0,1]))) (want1 rfl rfl rfl h49) (FreeO.bs (cs:=[.int .i64 0,.int .i64 1]) und55 inf3 rfl rfl rfl rfl rfl rfl rfl rfl rfl) rfl rfl (RD.free (u:=.agg (cGNode r52)) (args:=[.int .i64 3,.isl false (List.map (cI .i64) ([0,1]))]) (want1 rfl rfl rfl h49) (q01 rfl rfl fn29 hb29 rfl rfl) (fun s=>q04 n 3 ([0,1]) r52 h53 s) rfl rfl (RD.free (u:=.agg (cGNode r54)) (args:=[.int .i64 2,.nils]) (want1 rfl rfl rfl h49) (q01 rfl rfl fn29 hb29 rfl rfl) (fun s=>EvU.wkA (args':=[.int .i64 2,.isl false []]) (.cons (.refl _) (.cons (.nil false) .nil)) (fun s=>q04 n 2 [] r54 h55 s) s) rfl rfl ?_)))))))
 refine RD.act (u:=.sl 9 0 2 2) (σ':=⟨[(9,.row [.int .i64 r52.Typex,.isl false (List.map cGArc r52.Arcs),.int .i64 r54.Typex,.isl false (List.map cGArc r54.Arcs)] 43),(8,.row [.isl false (List.map cGNode r47.1.Nodes)] 25),(7,.row [.isl false (List.map cGNode r19.1.Nodes)] 25),(3,.row [.isl false (List.map cGNode r9.1.Nodes)] 25)],10⟩) (want1 rfl rfl rfl h49) (q24 und23 inf43 rfl rfl rfl rfl rfl rfl rfl) rfl rfl ?_
 refine RD.fcall (u:=.agg [.isl false (List.map cGNode r56.Nodes)]) (args:=[.sl 9 0 2 2]) (σ1:=⟨[(8,.row [.isl false (List.map cGNode r47.1.Nodes)] 25),(7,.row [.isl false (List.map cGNode r19.1.Nodes)] 25),(3,.row [.isl false (List.map cGNode r9.1.Nodes)] 25)],10⟩) (want1 rfl rfl rfl h49) (q01 rfl rfl fn32 hb32 rfl rfl) (Gh.fz (tm':=[.isl false (List.map cGNode ([r52,r54]))]) (h':=[(8,.row [.isl false (List.map cGNode r47.1.Nodes)] 25),(7,.row [.isl false (List.map cGNode r19.1.Nodes)] 25),(3,.row [.isl false (List.map cGNode r9.1.Nodes)] 25)]) 9 (.row [.int .i64 r52.Typex,.isl false (List.map cGArc r52.Arcs),.int .i64 r54.Typex,.isl false (List.map cGArc r54.Arcs)] 43) 2 rfl (by simp) (by simp only [oneU,q07,q03,q0n,q09,q0q,q0d,q0c,q0b,q0a,q08,q0o,q0p,q0m,q0r,q1k,junkT,q1u,q1v,Nat.reduceLeDiff,Nat.reduceMul,List.length_cons,List.length_nil,Nat.reduceAdd]<;>simp only [chunks,List.take,List.drop,List.map,cGNode]) (by simp only [fzH,fzB,ug,Nat.beq,cond_true,cond_false,oneU,q07,q03,q0n,q09,q0q,q0d,q0c,q0b,q0a,q08,q0o,q0p,q0m,q0r,q1k,junkT,q1u,q1v,Nat.reduceLeDiff,Nat.reduceMul,List.length_cons,List.length_nil,Nat.reduceAdd]<;>simp only [chunks,List.take,List.drop,List.map,cGNode])) (Nat.le_of_ble_eq_true rfl) (q1a n ([r52,r54]) r56 h57 _) rfl rfl ?_
 refine RD.free (u:=.bool r58) (args:=[.agg [.isl false (List.map cGNode r50.Nodes)],.agg [.isl false (List.map cGNode r56.Nodes)]]) (want1 rfl rfl rfl h49) (q01 rfl rfl fn14 hb14 rfl rfl) (fun s=>q1l n r50 r56 r58 h59 s) rfl rfl (RD.q (u:=.bool r58) rfl (q0l rfl h49 rfl) (RD.mv rfl rfl rfl rfl (RD.act (u:=.sl 10 0 2 2) (σ':=⟨[(10,.row [.int .i64 5,.int .i64 0] 3),(8,.row [.isl false (List.map cGNode r47.1.Nodes)] 25),(7,.row [.isl false (List.map cGNode r19.1.Nodes)] 25),(3,.row [.isl false (List.map cGNode r9.1.Nodes)] 25)],11⟩) (want1 rfl rfl rfl h60) (q24 und55 inf3 rfl rfl rfl rfl rfl rfl rfl) rfl rfl ?_)))
 refine RD.fcall (u:=.agg (cGNode r61)) (args:=[.int .i64 1,.sl 10 0 2 2]) (σ1:=⟨[(8,.row [.isl false (List.map cGNode r47.1.Nodes)] 25),(7,.row [.isl false (List.map cGNode r19.1.Nodes)] 25),(3,.row [.isl false (List.map cGNode r9.1.Nodes)] 25)],11⟩) (want1 rfl rfl rfl h60) (q01 rfl rfl fn29 hb29 rfl rfl) (Gh.fz (tm':=[.int .i64 1,.isl false (List.map (cI .i64) ([5,0]))]) (h':=[(8,.row [.isl false (List.map cGNode r47.1.Nodes)] 25),(7,.row [.isl false (List.map cGNode r19.1.Nodes)] 25),(3,.row [.isl false (List.map cGNode r9.1.Nodes)] 25)]) 10 (.row [.int .i64 5,.int .i64 0] 3) 1 rfl (by simp) (by simp only [oneU,q07,q03,q0n,q09,q0q,q0d,q0c,q0b,q0a,q08,q0o,q0p,q0m,q0r,q1k,junkT,q1u,q1v,Nat.reduceLeDiff,Nat.reduceMul,List.length_cons,List.length_nil,Nat.reduceAdd]<;>simp only [chunks,List.take,List.drop,List.map,cI,cB,cS,cL]) (by simp only [fzH,fzB,ug,Nat.beq,cond_true,cond_false,oneU,q07,q03,q0n,q09,q0q,q0d,q0c,q0b,q0a,q08,q0o,q0p,q0m,q0r,q1k,junkT,q1u,q1v,Nat.reduceLeDiff,Nat.reduceMul,List.length_cons,List.length_nil,Nat.reduceAdd]<;>simp only [chunks,List.take,List.drop,List.map,cI,cB,cS,cL])) (Nat.le_of_ble_eq_true rfl) (q04 n 1 ([5,0]) r61 h62 _) rfl rfl ?_
 refine RD.act (u:=.sl 11 0 1 1) (σ':=⟨[(11,.row (cGNode r61) 43),(8,.row [.isl false (List.map cGNode r47.1.Nodes)] 25),(7,.row [.isl false (List.map cGNode r19.1.Nodes)] 25),(3,.row [.isl false (List.map cGNode r9.1.Nodes)] 25)],12⟩) (want1 rfl rfl rfl h60) (q24 und23 inf43 rfl rfl rfl rfl rfl rfl rfl) rfl rfl ?_
 refine RD.fcall (u:=.agg [.isl false (List.map cGNode r63.Nodes)]) (args:=[.sl 11 0 1 1]) (σ1:=⟨[(8,.row [.isl false (List.map cGNode r47.1.Nodes)] 25),(7,.row [.isl false (List.map cGNode r19.1.Nodes)] 25),(3,.row [.isl false (List.map cGNode r9.1.Nodes)] 25)],12⟩) (want1 rfl rfl rfl h60) (q01 rfl rfl fn32 hb32 rfl rfl) (Gh.fz (tm':=[.isl false (List.map cGNode ([r61]))]) (h':=[(8,.row [.isl false (List.map cGNode r47.1.Nodes)] 25),(7,.row [.isl false (List.map cGNode r19.1.Nodes)] 25),(3,.row [.isl false (List.map cGNode r9.1.Nodes)] 25)]) 11 (.row [.int .i64 r61.Typex,.isl false (List.map cGArc r61.Arcs)] 43) 2 rfl (by simp) (by simp only [oneU,q07,q03,q0n,q09,q0q,q0d,q0c,q0b,q0a,q08,q0o,q0p,q0m,q0r,q1k,junkT,q1u,q1v,q29,Nat.reduceLeDiff,Nat.reduceMul,List.length_cons,List.length_nil,Nat.reduceAdd]<;>simp only [chunks,List.take,List.drop,List.map,cGNode]) (by simp only [fzH,fzB,ug,Nat.beq,cond_true,cond_false,oneU,q07,q03,q0n,q09,q0q,q0d,q0c,q0b,q0a,q08,q0o,q0p,q0m,q0r,q1k,junkT,q1u,q1v,q29,Nat.reduceLeDiff,Nat.reduceMul,List.length_cons,List.length_nil,Nat.reduceAdd]<;>simp only [chunks,List.take,List.drop,List.map,cGNode])) (Nat.le_of_ble_eq_true rfl) (q1a n ([r61]) r63 h64 _) rfl rfl ?_
 refine RD.free (u:=.bool r65) (args:=[.agg [.isl false (List.map cGNode r63.Nodes)]]) (want1 rfl rfl rfl h60) (q01 rfl rfl fn22 hb22 rfl rfl) (fun s=>q20 n r63 r65 h66 s) rfl rfl (RD.q (u:=.bool r65) rfl (q0l rfl h60 rfl) (RD.mv rfl rfl rfl rfl (RD.look (u:=.agg [.isl false (List.map cGNode r9.1.Nodes)]) (want1 rfl rfl rfl h67) (q0g und25 rfl (q02 inf25) rfl rfl rfl) rfl rfl (RD.free (u:=.bool r68) (args:=[.agg [.isl false (List.map cGNode r9.1.Nodes)]]) (want1 rfl rfl rfl h67) (q01 rfl rfl fn22 hb22 rfl rfl) (fun s=>q20 n (GFS.mk r9.1.Nodes) r68 h69 s) rfl rfl (RD.look (u:=.bool (!r68)) (want1 rfl rfl rfl h67) (q7b rfl rfl rfl rfl) rfl rfl (RD.q (u:=.bool (!r68)) rfl (q0l rfl h67 rfl) (RD.mv rfl rfl rfl rfl ?_)))))))
 refine RD.free (u:=.agg [.isl false (List.map cGNode r71.Nodes)]) (args:=[.int .i64 4]) (want1 rfl rfl rfl h70) (q01 rfl rfl fn12 hb12 rfl rfl) (fun s=>q5n n 4 r71 h72 s) rfl rfl (RD.free (u:=.agg (cGNode r73)) (args:=[.int .i64 4,.nils]) (want1 rfl rfl rfl h70) (q01 rfl rfl fn29 hb29 rfl rfl) (fun s=>EvU.wkA (args':=[.int .i64 4,.isl false []]) (.cons (.refl _) (.cons (.nil false) .nil)) (fun s=>q04 n 4 [] r73 h74 s) s) rfl rfl (RD.act (u:=.sl 12 0 1 1) (σ':=⟨[(12,.row (cGNode r73) 43),(8,.row [.isl false (List.map cGNode r47.1.Nodes)] 25),(7,.row [.isl false (List.map cGNode r19.1.Nodes)] 25),(3,.row [.isl false (List.map cGNode r9.1.Nodes)] 25)],13⟩) (want1 rfl rfl rfl h70) (q24 und23 inf43 rfl rfl rfl rfl rfl rfl rfl) rfl rfl ?_))
 refine RD.fcall (u:=.agg [.isl false (List.map cGNode r75.Nodes)]) (args:=[.sl 12 0 1 1]) (σ1:=⟨[(8,.row [.isl false (List.map cGNode r47.1.Nodes)] 25),(7,.row [.isl false (List.map cGNode r19.1.Nodes)] 25),(3,.row [.isl false (List.map cGNode r9.1.Nodes)] 25)],13⟩) (want1 rfl rfl rfl h70) (q01 rfl rfl fn32 hb32 rfl rfl) (Gh.fz (tm':=[.isl false (List.map cGNode ([r73]))]) (h':=[(8,.row [.isl false (List.map cGNode r47.1.Nodes)] 25),(7,.row [.isl false (List.map cGNode r19.1.Nodes)] 25),(3,.row [.isl false (List.map cGNode r9.1.Nodes)] 25)]) 12 (.row [.int .i64 r73.Typex,.isl false (List.map cGArc r73.Arcs)] 43) 2 rfl (by simp) (by simp only [oneU,q07,q03,q0n,q09,q0q,q0d,q0c,q0b,q0a,q08,q0o,q0p,q0m,q0r,q1k,junkT,q1u,q1v,q29,Nat.reduceLeDiff,Nat.reduceMul,List.length_cons,List.length_nil,Nat.reduceAdd]<;>simp only [chunks,List.take,List.drop,List.map,cGNode]) (by simp only [fzH,fzB,ug,Nat.beq,cond_true,cond_false,oneU,q07,q03,q0n,q09,q0q,q0d,q0c,q0b,q0a,q08,q0o,q0p,q0m,q0r,q1k,junkT,q1u,q1v,q29,Nat.reduceLeDiff,Nat.reduceMul,List.length_cons,List.length_nil,Nat.reduceAdd]<;>simp only [chunks,List.take,List.drop,List.map,cGNode])) (Nat.le_of_ble_eq_true rfl) (q1a n ([r73]) r75 h76 _) rfl rfl ?_
 refine RD.free (u:=.bool r77) (args:=[.agg [.isl false (List.map cGNode r71.Nodes)],.agg [.isl false (List.map cGNode r75.Nodes)]]) (want1 rfl rfl rfl h70) (q01 rfl rfl fn14 hb14 rfl rfl) (fun s=>q1l n r71 r75 r77 h78 s) rfl rfl (RD.q (u:=.bool r77) rfl (q0l rfl h70 rfl) (RD.mv rfl rfl rfl rfl (RD.look (u:=.agg [.isl false (List.map cGNode r9.1.Nodes)]) (want1 rfl rfl rfl h79) (q0g und25 rfl (q02 inf25) rfl rfl rfl) rfl rfl (RD.look (u:=.agg [.isl false (List.map cGNode r9.1.Nodes)]) (want1 rfl rfl rfl h79) (q0g und25 rfl (q02 inf25) rfl rfl rfl) rfl rfl (RD.free (u:=.bool r80) (args:=[.agg [.isl false (List.map cGNode r9.1.Nodes)],.agg [.isl false (List.map cGNode r9.1.Nodes)]]) (want1 rfl rfl rfl h79) (q01 rfl rfl fn26 hb26 rfl rfl) (fun s=>q3c n (GFS.mk r9.1.Nodes) (GFS.mk r9.1.Nodes) r80 h81 s) rfl rfl (RD.q (u:=.bool r80) rfl (q0l rfl h79 rfl) (RD.mv rfl rfl rfl rfl ?_)))))))
 repeat refine RD.no (want0 rfl rfl rfl h82) rfl rfl ?_
 refine RD.q (u:=.bool false) rfl (q0k rfl h82 rfl) (RD.as rfl rfl rfl rfl ?_)
 refine RD.done ⟨by kernel_rfl,trivial,?_⟩
 refine st ?_
 exact ⟨_,_,⟨rfl,rfl⟩,(Nat.zero_le _),Gh.toC (n1:=9) ⟨rfl,trivial⟩ rfl (Nat.zero_le _) (by simp)⟩
 replace h88:=q0h h79 h88
 replace h88:=Option.some.inj h88
 subst h88
 refine WPU.drawE Try.tb_ok [] (by kernel_rfl) ?_
 refine RD.mv rfl rfl rfl rfl (RD.q rfl (q06 rfl rfl (q6z _ _ _) rfl) (RD.mv rfl rfl rfl rfl (RD.look (u:=.agg [.isl false (List.map cGNode r9.1.Nodes)]) (want1 rfl rfl rfl h49) (q0g und25 rfl (q02 inf25) rfl rfl rfl) rfl rfl (RD.free (u:=.agg [.isl false (List.map cGNode r50.Nodes)]) (args:=[.agg [.isl false (List.map cGNode r9.1.Nodes)],.int .i64 1]) (want1 rfl rfl rfl h49) (q01 rfl rfl fn20 hb20 rfl rfl) (fun s=>q4e n (GFS.mk r9.1.Nodes) 1 r50 h51 s) rfl rfl (RD.freeO (u:=.isl false (List.map (cI .i64) ([0,1]))) (want1 rfl rfl rfl h49) (FreeO.bs (cs:=[.int .i64 0,.int .i64 1]) und55 inf3 rfl rfl rfl rfl rfl rfl rfl rfl rfl) rfl rfl (RD.free (u:=.agg (cGNode r52)) (args:=[.int .i64 3,.isl false (List.map (cI .i64) ([0,1]))]) (want1 rfl rfl rfl h49) (q01 rfl rfl fn29 hb29 rfl rfl) (fun s=>q04 n 3 ([0,1]) r52 h53 s) rfl rfl (RD.free (u:=.agg (cGNode r54)) (args:=[.int .i64 2,.nils]) (want1 rfl rfl rfl h49) (q01 rfl rfl fn29 hb29 rfl rfl) (fun s=>EvU.wkA (args':=[.int .i64 2,.isl false []]) (.cons (.refl _) (.cons (.nil false) .nil)) (fun s=>q04 n 2 [] r54 h55 s) s) rfl rfl ?_)))))))
 refine RD.act (u:=.sl 9 0 2 2) (σ':=⟨[(9,.row [.int .i64 r52.Typex,.isl false (List.map cGArc r52.Arcs),.int .i64 r54.Typex,.isl false (List.map cGArc r54.Arcs)] 43),(8,.row [.isl false (List.map cGNode r47.1.Nodes)] 25),(7,.row [.isl false (List.map cGNode r19.1.Nodes)] 25),(3,.row [.isl false (List.map cGNode r9.1.Nodes)] 25)],10⟩) (want1 rfl rfl rfl h49) (q24 und23 inf43 rfl rfl rfl rfl rfl rfl rfl) rfl rfl ?_
 refine RD.fcall (u:=.agg [.isl false (List.map cGNode r56.Nodes)]) (args:=[.sl 9 0 2 2]) (σ1:=⟨[(8,.row [.isl false (List.map cGNode r47.1.Nodes)] 25),(7,.row [.isl false (List.map cGNode r19.1.Nodes)] 25),(3,.row [.isl false (List.map cGNode r9.1.Nodes)] 25)],10⟩) (want1 rfl rfl rfl h49) (q01 rfl rfl fn32 hb32 rfl rfl) (Gh.fz (tm':=[.isl false (List.map cGNode ([r52,r54]))]) (h':=[(8,.row [.isl false (List.map cGNode r47.1.Nodes)] 25),(7,.row [.isl false (List.map cGNode r19.1.Nodes)] 25),(3,.row [.isl false (List.map cGNode r9.1.Nodes)] 25)]) 9 (.row [.int .i64 r52.Typex,.isl false (List.map cGArc r52.Arcs),.int .i64 r54.Typex,.isl false (List.map cGArc r54.Arcs)] 43) 2 rfl (by simp) (by simp only [oneU,q07,q03,q0n,q09,q0q,q0d,q0c,q0b,q0a,q08,q0o,q0p,q0m,q0r,q1k,junkT,q1u,q1v,Nat.reduceLeDiff,Nat.reduceMul,List.length_cons,List.length_nil,Nat.reduceAdd]<;>simp only [chunks,List.take,List.drop,List.map,cGNode]) (by simp only [fzH,fzB,ug,Nat.beq,cond_true,cond_false,oneU,q07,q03,q0n,q09,q0q,q0d,q0c,q0b,q0a,q08,q0o,q0p,q0m,q0r,q1k,junkT,q1u,q1v,Nat.reduceLeDiff,Nat.reduceMul,List.length_cons,List.length_nil,Nat.reduceAdd]<;>simp only [chunks,List.take,List.drop,List.map,cGNode])) (Nat.le_of_ble_eq_true rfl) (q1a n ([r52,r54]) r56 h57 _) rfl rfl ?_
 refine RD.free (u:=.bool r58) (args:=[.agg [.isl false (List.map cGNode r50.Nodes)],.agg [.isl false (List.map cGNode r56.Nodes)]]) (want1 rfl rfl rfl h49) (q01 rfl rfl fn14 hb14 rfl rfl) (fun s=>q1l n r50 r56 r58 h59 s) rfl rfl (RD.q (u:=.bool r58) rfl (q0l rfl h49 rfl) (RD.mv rfl rfl rfl rfl (RD.act (u:=.sl 10 0 2 2) (σ':=⟨[(10,.row [.int .i64 5,.int .i64 0] 3),(8,.row [.isl false (List.map cGNode r47.1.Nodes)] 25),(7,.row [.isl false (List.map cGNode r19.1.Nodes)] 25),(3,.row [.isl false (List.map cGNode r9.1.Nodes)] 25)],11⟩) (want1 rfl rfl rfl h60) (q24 und55 inf3 rfl rfl rfl rfl rfl rfl rfl) rfl rfl ?_)))
 refine RD.fcall (u:=.agg (cGNode r61)) (args:=[.int .i64 1,.sl 10 0 2 2]) (σ1:=⟨[(8,.row [.isl false (List.map cGNode r47.1.Nodes)] 25),(7,.row [.isl false (List.map cGNode r19.1.Nodes)] 25),(3,.row [.isl false (List.map cGNode r9.1.Nodes)] 25)],11⟩) (want1 rfl rfl rfl h60) (q01 rfl rfl fn29 hb29 rfl rfl) (Gh.fz (tm':=[.int .i64 1,.isl false (List.map (cI .i64) ([5,0]))]) (h':=[(8,.row [.isl false (List.map cGNode r47.1.Nodes)] 25),(7,.row [.isl false (List.map cGNode r19.1.Nodes)] 25),(3,.row [.isl false (List.map cGNode r9.1.Nodes)] 25)]) 10 (.row [.int .i64 5,.int .i64 0] 3) 1 rfl (by simp) (by simp only [oneU,q07,q03,q0n,q09,q0q,q0d,q0c,q0b,q0a,q08,q0o,q0p,q0m,q0r,q1k,junkT,q1u,q1v,Nat.reduceLeDiff,Nat.reduceMul,List.length_cons,List.length_nil,Nat.reduceAdd]<;>simp only [chunks,List.take,List.drop,List.map,cI,cB,cS,cL]) (by simp only [fzH,fzB,ug,Nat.beq,cond_true,cond_false,oneU,q07,q03,q0n,q09,q0q,q0d,q0c,q0b,q0a,q08,q0o,q0p,q0m,q0r,q1k,junkT,q1u,q1v,Nat.reduceLeDiff,Nat.reduceMul,List.length_cons,List.length_nil,Nat.reduceAdd]<;>simp only [chunks,List.take,List.drop,List.map,cI,cB,cS,cL])) (Nat.le_of_ble_eq_true rfl) (q04 n 1 ([5,0]) r61 h62 _) rfl rfl ?_
 refine RD.act (u:=.sl 11 0 1 1) (σ':=⟨[(11,.row (cGNode r61) 43),(8,.row [.isl false (List.map cGNode r47.1.Nodes)] 25),(7,.row [.isl false (List.map cGNode r19.1.Nodes)] 25),(3,.row [.isl false (List.map cGNode r9.1.Nodes)] 25)],12⟩) (want1 rfl rfl rfl h60) (q24 und23 inf43 rfl rfl rfl rfl rfl rfl rfl) rfl rfl ?_
 refine RD.fcall (u:=.agg [.isl false (List.map cGNode r63.Nodes)]) (args:=[.sl 11 0 1 1]) (σ1:=⟨[(8,.row [.isl false (List.map cGNode r47.1.Nodes)] 25),(7,.row [.isl false (List.map cGNode r19.1.Nodes)] 25),(3,.row [.isl false (List.map cGNode r9.1.Nodes)] 25)],12⟩) (want1 rfl rfl rfl h60) (q01 rfl rfl fn32 hb32 rfl rfl) (Gh.fz (tm':=[.isl false (List.map cGNode ([r61]))]) (h':=[(8,.row [.isl false (List.map cGNode r47.1.Nodes)] 25),(7,.row [.isl false (List.map cGNode r19.1.Nodes)] 25),(3,.row [.isl false (List.map cGNode r9.1.Nodes)] 25)]) 11 (.row [.int .i64 r61.Typex,.isl false (List.map cGArc r61.Arcs)] 43) 2 rfl (by simp) (by simp only [oneU,q07,q03,q0n,q09,q0q,q0d,q0c,q0b,q0a,q08,q0o,q0p,q0m,q0r,q1k,junkT,q1u,q1v,q29,Nat.reduceLeDiff,Nat.reduceMul,List.length_cons,List.length_nil,Nat.reduceAdd]<;>simp only [chunks,List.take,List.drop,List.map,cGNode]) (by simp only [fzH,fzB,ug,Nat.beq,cond_true,cond_false,oneU,q07,q03,q0n,q09,q0q,q0d,q0c,q0b,q0a,q08,q0o,q0p,q0m,q0r,q1k,junkT,q1u,q1v,q29,Nat.reduceLeDiff,Nat.reduceMul,List.length_cons,List.length_nil,Nat.reduceAdd]<;>simp only [chunks,List.take,List.drop,List.map,cGNode])) (Nat.le_of_ble_eq_true rfl) (q1a n ([r61]) r63 h64 _) rfl rfl ?_
 refine RD.free (u:=.bool r65) (args:=[.agg [.isl false (List.map cGNode r63.Nodes)]]) (want1 rfl rfl rfl h60) (q01 rfl rfl fn22 hb22 rfl rfl) (fun s=>q20 n r63 r65 h66 s) rfl rfl (RD.q (u:=.bool r65) rfl (q0l rfl h60 rfl) (RD.mv rfl rfl rfl rfl (RD.look (u:=.agg [.isl false (List.map cGNode r9.1.Nodes)]) (want1 rfl rfl rfl h67) (q0g und25 rfl (q02 inf25) rfl rfl rfl) rfl rfl (RD.free (u:=.bool r68) (args:=[.agg [.isl false (List.map cGNode r9.1.Nodes)]]) (want1 rfl rfl rfl h67) (q01 rfl rfl fn22 hb22 rfl rfl) (fun s=>q20 n (GFS.mk r9.1.Nodes) r68 h69 s) rfl rfl (RD.look (u:=.bool (!r68)) (want1 rfl rfl rfl h67) (q7b rfl rfl rfl rfl) rfl rfl (RD.q (u:=.bool (!r68)) rfl (q0l rfl h67 rfl) (RD.mv rfl rfl rfl rfl ?_)))))))
 refine RD.free (u:=.agg [.isl false (List.map cGNode r71.Nodes)]) (args:=[.int .i64 4]) (want1 rfl rfl rfl h70) (q01 rfl rfl fn12 hb12 rfl rfl) (fun s=>q5n n 4 r71 h72 s) rfl rfl (RD.free (u:=.agg (cGNode r73)) (args:=[.int .i64 4,.nils]) (want1 rfl rfl rfl h70) (q01 rfl rfl fn29 hb29 rfl rfl) (fun s=>EvU.wkA (args':=[.int .i64 4,.isl false []]) (.cons (.refl _) (.cons (.nil false) .nil)) (fun s=>q04 n 4 [] r73 h74 s) s) rfl rfl (RD.act (u:=.sl 12 0 1 1) (σ':=⟨[(12,.row (cGNode r73) 43),(8,.row [.isl false (List.map cGNode r47.1.Nodes)] 25),(7,.row [.isl false (List.map cGNode r19.1.Nodes)] 25),(3,.row [.isl false (List.map cGNode r9.1.Nodes)] 25)],13⟩) (want1 rfl rfl rfl h70) (q24 und23 inf43 rfl rfl rfl rfl rfl rfl rfl) rfl rfl ?_))
 refine RD.fcall (u:=.agg [.isl false (List.map cGNode r75.Nodes)]) (args:=[.sl 12 0 1 1]) (σ1:=⟨[(8,.row [.isl false (List.map cGNode r47.1.Nodes)] 25),(7,.row [.isl false (List.map cGNode r19.1.Nodes)] 25),(3,.row [.isl false (List.map cGNode r9.1.Nodes)] 25)],13⟩) (want1 rfl rfl rfl h70) (q01 rfl rfl fn32 hb32 rfl rfl) (Gh.fz (tm':=[.isl false (List.map cGNode ([r73]))]) (h':=[(8,.row [.isl false (List.map cGNode r47.1.Nodes)] 25),(7,.row [.isl false (List.map cGNode r19.1.Nodes)] 25),(3,.row [.isl false (List.map cGNode r9.1.Nodes)] 25)]) 12 (.row [.int .i64 r73.Typex,.isl false (List.map cGArc r73.Arcs)] 43) 2 rfl (by simp) (by simp only [oneU,q07,q03,q0n,q09,q0q,q0d,q0c,q0b,q0a,q08,q0o,q0p,q0m,q0r,q1k,junkT,q1u,q1v,q29,Nat.reduceLeDiff,Nat.reduceMul,List.length_cons,List.length_nil,Nat.reduceAdd]<;>simp only [chunks,List.take,List.drop,List.map,cGNode]) (by simp only [fzH,fzB,ug,Nat.beq,cond_true,cond_false,oneU,q07,q03,q0n,q09,q0q,q0d,q0c,q0b,q0a,q08,q0o,q0p,q0m,q0r,q1k,junkT,q1u,q1v,q29,Nat.reduceLeDiff,Nat.reduceMul,List.length_cons,List.length_nil,Nat.reduceAdd]<;>simp only [chunks,List.take,List.drop,List.map,cGNode])) (Nat.le_of_ble_eq_true rfl) (q1a n ([r73]) r75 h76 _) rfl rfl ?_
 refine RD.free (u:=.bool r77) (args:=[.agg [.isl false (List.map cGNode r71.Nodes)],.agg [.isl false (List.map cGNode r75.Nodes)]]) (want1 rfl rfl rfl h70) (q01 rfl rfl fn14 hb14 rfl rfl) (fun s=>q1l n r71 r75 r77 h78 s) rfl rfl (RD.q (u:=.bool r77) rfl (q0l rfl h70 rfl) (RD.mv rfl rfl rfl rfl ?_))
 repeat refine RD.no (want0 rfl rfl rfl h79) rfl rfl ?_
 refine RD.q (u:=.bool false) rfl (q0k rfl h79 rfl) (RD.mv rfl rfl rfl rfl ?_)
 repeat refine RD.no (want0 rfl rfl rfl rfl) rfl rfl ?_
 refine RD.q (u:=.bool false) rfl (q0k rfl rfl rfl) (RD.as rfl rfl rfl rfl ?_)
 refine RD.done ⟨by kernel_rfl,trivial,?_⟩
 refine st ?_
 exact ⟨_,_,⟨rfl,rfl⟩,(Nat.zero_le _),Gh.toC (n1:=9) ⟨rfl,trivial⟩ rfl (Nat.zero_le _) (by simp)⟩
 replace h88:=q0h h70 h88
 replace h88:=Option.some.inj h88
 subst h88
 refine WPU.drawE Try.tb_ok [] (by kernel_rfl) ?_
 refine RD.mv rfl rfl rfl rfl (RD.q rfl (q06 rfl rfl (q6z _ _ _) rfl) (RD.mv rfl rfl rfl rfl (RD.look (u:=.agg [.isl false (List.map cGNode r9.1.Nodes)]) (want1 rfl rfl rfl h49) (q0g und25 rfl (q02 inf25) rfl rfl rfl) rfl rfl (RD.free (u:=.agg [.isl false (List.map cGNode r50.Nodes)]) (args:=[.agg [.isl false (List.map cGNode r9.1.Nodes)],.int .i64 1]) (want1 rfl rfl rfl h49) (q01 rfl rfl fn20 hb20 rfl rfl) (fun s=>q4e n (GFS.mk r9.1.Nodes) 1 r50 h51 s) rfl rfl (RD.freeO (u:=.isl false (List.map (cI .i64) ([0,1]))) (want1 rfl rfl rfl h49) (FreeO.bs (cs:=[.int .i64 0,.int .i64 1]) und55 inf3 rfl rfl rfl rfl rfl rfl rfl rfl rfl) rfl rfl (RD.free (u:=.agg (cGNode r52)) (args:=[.int .i64 3,.isl false (List.map (cI .i64) ([0,1]))]) (want1 rfl rfl rfl h49) (q01 rfl rfl fn29 hb29 rfl rfl) (fun s=>q04 n 3 ([0,1]) r52 h53 s) rfl rfl (RD.free (u:=.agg (cGNode r54)) (args:=[.int .i64 2,.nils]) (want1 rfl rfl rfl h49) (q01 rfl rfl fn29 hb29 rfl rfl) (fun s=>EvU.wkA (args':=[.int .i64 2,.isl false []]) (.cons (.refl _) (.cons (.nil false) .nil)) (fun s=>q04 n 2 [] r54 h55 s) s) rfl rfl ?_)))))))
 refine RD.act (u:=.sl 9 0 2 2) (σ':=⟨[(9,.row [.int .i64 r52.Typex,.isl false (List.map cGArc r52.Arcs),.int .i64 r54.Typex,.isl false (List.map cGArc r54.Arcs)] 43),(8,.row [.isl false (List.map cGNode r47.1.Nodes)] 25),(7,.row [.isl false (List.map cGNode r19.1.Nodes)] 25),(3,.row [.isl false (List.map cGNode r9.1.Nodes)] 25)],10⟩) (want1 rfl rfl rfl h49) (q24 und23 inf43 rfl rfl rfl rfl rfl rfl rfl) rfl rfl ?_
 refine RD.fcall (u:=.agg [.isl false (List.map cGNode r56.Nodes)]) (args:=[.sl 9 0 2 2]) (σ1:=⟨[(8,.row [.isl false (List.map cGNode r47.1.Nodes)] 25),(7,.row [.isl false (List.map cGNode r19.1.Nodes)] 25),(3,.row [.isl false (List.map cGNode r9.1.Nodes)] 25)],10⟩) (want1 rfl rfl rfl h49) (q01 rfl rfl fn32 hb32 rfl rfl) (Gh.fz (tm':=[.isl false (List.map cGNode ([r52,r54]))]) (h':=[(8,.row [.isl false (List.map cGNode r47.1.Nodes)] 25),(7,.row [.isl false (List.map cGNode r19.1.Nodes)] 25),(3,.row [.isl false (List.map cGNode r9.1.Nodes)] 25)]) 9 (.row [.int .i64 r52.Typex,.isl false (List.map cGArc r52.Arcs),.int .i64 r54.Typex,.isl false (List.map cGArc r54.Arcs)] 43) 2 rfl (by simp) (by simp only [oneU,q07,q03,q0n,q09,q0q,q0d,q0c,q0b,q0a,q08,q0o,q0p,q0m,q0r,q1k,junkT,q1u,q1v,Nat.reduceLeDiff,Nat.reduceMul,List.length_cons,List.length_nil,Nat.reduceAdd]<;>simp only [chunks,List.take,List.drop,List.map,cGNode]) (by simp only [fzH,fzB,ug,Nat.beq,cond_true,cond_false,oneU,q07,q03,q0n,q09,q0q,q0d,q0c,q0b,q0a,q08,q0o,q0p,q0m,q0r,q1k,junkT,q1u,q1v,Nat.reduceLeDiff,Nat.reduceMul,List.length_cons,List.length_nil,Nat.reduceAdd]<;>simp only [chunks,List.take,List.drop,List.map,cGNode])) (Nat.le_of_ble_eq_true rfl) (q1a n ([r52,r54]) r56 h57 _) rfl rfl ?_
 refine RD.free (u:=.bool r58) (args:=[.agg [.isl false (List.map cGNode r50.Nodes)],.agg [.isl false (List.map cGNode r56.Nodes)]]) (want1 rfl rfl rfl h49) (q01 rfl rfl fn14 hb14 rfl rfl) (fun s=>q1l n r50 r56 r58 h59 s) rfl rfl (RD.q (u:=.bool r58) rfl (q0l rfl h49 rfl) (RD.mv rfl rfl rfl rfl (RD.act (u:=.sl 10 0 2 2) (σ':=⟨[(10,.row [.int .i64 5,.int .i64 0] 3),(8,.row [.isl false (List.map cGNode r47.1.Nodes)] 25),(7,.row [.isl false (List.map cGNode r19.1.Nodes)] 25),(3,.row [.isl false (List.map cGNode r9.1.Nodes)] 25)],11⟩) (want1 rfl rfl rfl h60) (q24 und55 inf3 rfl rfl rfl rfl rfl rfl rfl) rfl rfl ?_)))
 refine RD.fcall (u:=.agg (cGNode r61)) (args:=[.int .i64 1,.sl 10 0 2 2]) (σ1:=⟨[(8,.row [.isl false (List.map cGNode r47.1.Nodes)] 25),(7,.row [.isl false (List.map cGNode r19.1.Nodes)] 25),(3,.row [.isl false (List.map cGNode r9.1.Nodes)] 25)],11⟩) (want1 rfl rfl rfl h60) (q01 rfl rfl fn29 hb29 rfl rfl) (Gh.fz (tm':=[.int .i64 1,.isl false (List.map (cI .i64) ([5,0]))]) (h':=[(8,.row [.isl false (List.map cGNode r47.1.Nodes)] 25),(7,.row [.isl false (List.map cGNode r19.1.Nodes)] 25),(3,.row [.isl false (List.map cGNode r9.1.Nodes)] 25)]) 10 (.row [.int .i64 5,.int .i64 0] 3) 1 rfl (by simp) (by simp only [oneU,q07,q03,q0n,q09,q0q,q0d,q0c,q0b,q0a,q08,q0o,q0p,q0m,q0r,q1k,junkT,q1u,q1v,Nat.reduceLeDiff,Nat.reduceMul,List.length_cons,List.length_nil,Nat.reduceAdd]<;>simp only [chunks,List.take,List.drop,List.map,cI,cB,cS,cL]) (by simp only [fzH,fzB,ug,Nat.beq,cond_true,cond_false,oneU,q07,q03,q0n,q09,q0q,q0d,q0c,q0b,q0a,q08,q0o,q0p,q0m,q0r,q1k,junkT,q1u,q1v,Nat.reduceLeDiff,Nat.reduceMul,List.length_cons,List.length_nil,Nat.reduceAdd]<;>simp only [chunks,List.take,List.drop,List.map,cI,cB,cS,cL])) (Nat.le_of_ble_eq_true rfl) (q04 n 1 ([5,0]) r61 h62 _) rfl rfl ?_
 refine RD.act (u:=.sl 11 0 1 1) (σ':=⟨[(11,.row (cGNode r61) 43),(8,.row [.isl false (List.map cGNode r47.1.Nodes)] 25),(7,.row [.isl false (List.map cGNode r19.1.Nodes)] 25),(3,.row [.isl false (List.map cGNode r9.1.Nodes)] 25)],12⟩) (want1 rfl rfl rfl h60) (q24 und23 inf43 rfl rfl rfl rfl rfl rfl rfl) rfl rfl ?_
 refine RD.fcall (u:=.agg [.isl false (List.map cGNode r63.Nodes)]) (args:=[.sl 11 0 1 1]) (σ1:=⟨[(8,.row [.isl false (List.map cGNode r47.1.Nodes)] 25),(7,.row [.isl false (List.map cGNode r19.1.Nodes)] 25),(3,.row [.isl false (List.map cGNode r9.1.Nodes)] 25)],12⟩) (want1 rfl rfl rfl h60) (q01 rfl rfl fn32 hb32 rfl rfl) (Gh.fz (tm':=[.isl false (List.map cGNode ([r61]))]) (h':=[(8,.row [.isl false (List.map cGNode r47.1.Nodes)] 25),(7,.row [.isl false (List.map cGNode r19.1.Nodes)] 25),(3,.row [.isl false (List.map cGNode r9.1.Nodes)] 25)]) 11 (.row [.int .i64 r61.Typex,.isl false (List.map cGArc r61.Arcs)] 43) 2 rfl (by simp) (by simp only [oneU,q07,q03,q0n,q09,q0q,q0d,q0c,q0b,q0a,q08,q0o,q0p,q0m,q0r,q1k,junkT,q1u,q1v,q29,Nat.reduceLeDiff,Nat.reduceMul,List.length_cons,List.length_nil,Nat.reduceAdd]<;>simp only [chunks,List.take,List.drop,List.map,cGNode]) (by simp only [fzH,fzB,ug,Nat.beq,cond_true,cond_false,oneU,q07,q03,q0n,q09,q0q,q0d,q0c,q0b,q0a,q08,q0o,q0p,q0m,q0r,q1k,junkT,q1u,q1v,q29,Nat.reduceLeDiff,Nat.reduceMul,List.length_cons,List.length_nil,Nat.reduceAdd]<;>simp only [chunks,List.take,List.drop,List.map,cGNode])) (Nat.le_of_ble_eq_true rfl) (q1a n ([r61]) r63 h64 _) rfl rfl ?_
 refine RD.free (u:=.bool r65) (args:=[.agg [.isl false (List.map cGNode r63.Nodes)]]) (want1 rfl rfl rfl h60) (q01 rfl rfl fn22 hb22 rfl rfl) (fun s=>q20 n r63 r65 h66 s) rfl rfl (RD.q (u:=.bool r65) rfl (q0l rfl h60 rfl) (RD.mv rfl rfl rfl rfl (RD.look (u:=.agg [.isl false (List.map cGNode r9.1.Nodes)]) (want1 rfl rfl rfl h67) (q0g und25 rfl (q02 inf25) rfl rfl rfl) rfl rfl (RD.free (u:=.bool r68) (args:=[.agg [.isl false (List.map cGNode r9.1.Nodes)]]) (want1 rfl rfl rfl h67) (q01 rfl rfl fn22 hb22 rfl rfl) (fun s=>q20 n (GFS.mk r9.1.Nodes) r68 h69 s) rfl rfl (RD.look (u:=.bool (!r68)) (want1 rfl rfl rfl h67) (q7b rfl rfl rfl rfl) rfl rfl (RD.q (u:=.bool (!r68)) rfl (q0l rfl h67 rfl) (RD.mv rfl rfl rfl rfl ?_)))))))
 repeat refine RD.no (want0 rfl rfl rfl h70) rfl rfl ?_
 refine RD.q (u:=.bool false) rfl (q0k rfl h70 rfl) (RD.mv rfl rfl rfl rfl ?_)
 repeat refine RD.no (want0 rfl rfl rfl rfl) rfl rfl ?_
 refine RD.q (u:=.bool false) rfl (q0k rfl rfl rfl) (RD.mv rfl rfl rfl rfl ?_)
 repeat refine RD.no (want0 rfl rfl rfl rfl) rfl rfl ?_
 refine RD.q (u:=.bool false) rfl (q0k rfl rfl rfl) (RD.as rfl rfl rfl rfl ?_)
 refine RD.done ⟨by kernel_rfl,trivial,?_⟩
 refine st ?_
 exact ⟨_,_,⟨rfl,rfl⟩,(Nat.zero_le _),Gh.toC (n1:=9) ⟨rfl,trivial⟩ rfl (Nat.zero_le _) (by simp)⟩
 replace h88:=q0h h67 h88
 replace h88:=Option.some.inj h88
 subst h88
 refine WPU.drawE Try.tb_ok [] (by kernel_rfl) ?_
 refine RD.mv rfl rfl rfl rfl (RD.q rfl (q06 rfl rfl (q6z _ _ _) rfl) (RD.mv rfl rfl rfl rfl (RD.look (u:=.agg [.isl false (List.map cGNode r9.1.Nodes)]) (want1 rfl rfl rfl h49) (q0g und25 rfl (q02 inf25) rfl rfl rfl) rfl rfl (RD.free (u:=.agg [.isl false (List.map cGNode r50.Nodes)]) (args:=[.agg [.isl false (List.map cGNode r9.1.Nodes)],.int .i64 1]) (want1 rfl rfl rfl h49) (q01 rfl rfl fn20 hb20 rfl rfl) (fun s=>q4e n (GFS.mk r9.1.Nodes) 1 r50 h51 s) rfl rfl (RD.freeO (u:=.isl false (List.map (cI .i64) ([0,1]))) (want1 rfl rfl rfl h49) (FreeO.bs (cs:=[.int .i64 0,.int .i64 1]) und55 inf3 rfl rfl rfl rfl rfl rfl rfl rfl rfl) rfl rfl (RD.free (u:=.agg (cGNode r52)) (args:=[.int .i64 3,.isl false (List.map (cI .i64) ([0,1]))]) (want1 rfl rfl rfl h49) (q01 rfl rfl fn29 hb29 rfl rfl) (fun s=>q04 n 3 ([0,1]) r52 h53 s) rfl rfl (RD.free (u:=.agg (cGNode r54)) (args:=[.int .i64 2,.nils]) (want1 rfl rfl rfl h49) (q01 rfl rfl fn29 hb29 rfl rfl) (fun s=>EvU.wkA (args':=[.int .i64 2,.isl false []]) (.cons (.refl _) (.cons (.nil false) .nil)) (fun s=>q04 n 2 [] r54 h55 s) s) rfl rfl ?_)))))))
 refine RD.act (u:=.sl 9 0 2 2) (σ':=⟨[(9,.row [.int .i64 r52.Typex,.isl false (List.map cGArc r52.Arcs),.int .i64 r54.Typex,.isl false (List.map cGArc r54.Arcs)] 43),(8,.row [.isl false (List.map cGNode r47.1.Nodes)] 25),(7,.row [.isl false (List.map cGNode r19.1.Nodes)] 25),(3,.row [.isl false (List.map cGNode r9.1.Nodes)] 25)],10⟩) (want1 rfl rfl rfl h49) (q24 und23 inf43 rfl rfl rfl rfl rfl rfl rfl) rfl rfl ?_
 refine RD.fcall (u:=.agg [.isl false (List.map cGNode r56.Nodes)]) (args:=[.sl 9 0 2 2]) (σ1:=⟨[(8,.row [.isl false (List.map cGNode r47.1.Nodes)] 25),(7,.row [.isl false (List.map cGNode r19.1.Nodes)] 25),(3,.row [.isl false (List.map cGNode r9.1.Nodes)] 25)],10⟩) (want1 rfl rfl rfl h49) (q01 rfl rfl fn32 hb32 rfl rfl) (Gh.fz (tm':=[.isl false (List.map cGNode ([r52,r54]))]) (h':=[(8,.row [.isl false (List.map cGNode r47.1.Nodes)] 25),(7,.row [.isl false (List.map cGNode r19.1.Nodes)] 25),(3,.row [.isl false (List.map cGNode r9.1.Nodes)] 25)]) 9 (.row [.int .i64 r52.Typex,.isl false (List.map cGArc r52.Arcs),.int .i64 r54.Typex,.isl false (List.map cGArc r54.Arcs)] 43) 2 rfl (by simp) (by simp only [oneU,q07,q03,q0n,q09,q0q,q0d,q0c,q0b,q0a,q08,q0o,q0p,q0m,q0r,q1k,junkT,q1u,q1v,Nat.reduceLeDiff,Nat.reduceMul,List.length_cons,List.length_nil,Nat.reduceAdd]<;>simp only [chunks,List.take,List.drop,List.map,cGNode]) (by simp only [fzH,fzB,ug,Nat.beq,cond_true,cond_false,oneU,q07,q03,q0n,q09,q0q,q0d,q0c,q0b,q0a,q08,q0o,q0p,q0m,q0r,q1k,junkT,q1u,q1v,Nat.reduceLeDiff,Nat.reduceMul,List.length_cons,List.length_nil,Nat.reduceAdd]<;>simp only [chunks,List.take,List.drop,List.map,cGNode])) (Nat.le_of_ble_eq_true rfl) (q1a n ([r52,r54]) r56 h57 _) rfl rfl ?_
 refine RD.free (u:=.bool r58) (args:=[.agg [.isl false (List.map cGNode r50.Nodes)],.agg [.isl false (List.map cGNode r56.Nodes)]]) (want1 rfl rfl rfl h49) (q01 rfl rfl fn14 hb14 rfl rfl) (fun s=>q1l n r50 r56 r58 h59 s) rfl rfl (RD.q (u:=.bool r58) rfl (q0l rfl h49 rfl) (RD.mv rfl rfl rfl rfl (RD.act (u:=.sl 10 0 2 2) (σ':=⟨[(10,.row [.int .i64 5,.int .i64 0] 3),(8,.row [.isl false (List.map cGNode r47.1.Nodes)] 25),(7,.row [.isl false (List.map cGNode r19.1.Nodes)] 25),(3,.row [.isl false (List.map cGNode r9.1.Nodes)] 25)],11⟩) (want1 rfl rfl rfl h60) (q24 und55 inf3 rfl rfl rfl rfl rfl rfl rfl) rfl rfl ?_)))
 refine RD.fcall (u:=.agg (cGNode r61)) (args:=[.int .i64 1,.sl 10 0 2 2]) (σ1:=⟨[(8,.row [.isl false (List.map cGNode r47.1.Nodes)] 25),(7,.row [.isl false (List.map cGNode r19.1.Nodes)] 25),(3,.row [.isl false (List.map cGNode r9.1.Nodes)] 25)],11⟩) (want1 rfl rfl rfl h60) (q01 rfl rfl fn29 hb29 rfl rfl) (Gh.fz (tm':=[.int .i64 1,.isl false (List.map (cI .i64) ([5,0]))]) (h':=[(8,.row [.isl false (List.map cGNode r47.1.Nodes)] 25),(7,.row [.isl false (List.map cGNode r19.1.Nodes)] 25),(3,.row [.isl false (List.map cGNode r9.1.Nodes)] 25)]) 10 (.row [.int .i64 5,.int .i64 0] 3) 1 rfl (by simp) (by simp only [oneU,q07,q03,q0n,q09,q0q,q0d,q0c,q0b,q0a,q08,q0o,q0p,q0m,q0r,q1k,junkT,q1u,q1v,Nat.reduceLeDiff,Nat.reduceMul,List.length_cons,List.length_nil,Nat.reduceAdd]<;>simp only [chunks,List.take,List.drop,List.map,cI,cB,cS,cL]) (by simp only [fzH,fzB,ug,Nat.beq,cond_true,cond_false,oneU,q07,q03,q0n,q09,q0q,q0d,q0c,q0b,q0a,q08,q0o,q0p,q0m,q0r,q1k,junkT,q1u,q1v,Nat.reduceLeDiff,Nat.reduceMul,List.length_cons,List.length_nil,Nat.reduceAdd]<;>simp only [chunks,List.take,List.drop,List.map,cI,cB,cS,cL])) (Nat.le_of_ble_eq_true rfl) (q04 n 1 ([5,0]) r61 h62 _) rfl rfl ?_
 refine RD.act (u:=.sl 11 0 1 1) (σ':=⟨[(11,.row (cGNode r61) 43),(8,.row [.isl false (List.map cGNode r47.1.Nodes)] 25),(7,.row [.isl false (List.map cGNode r19.1.Nodes)] 25),(3,.row [.isl false (List.map cGNode r9.1.Nodes)] 25)],12⟩) (want1 rfl rfl rfl h60) (q24 und23 inf43 rfl rfl rfl rfl rfl rfl rfl) rfl rfl ?_
 refine RD.fcall (u:=.agg [.isl false (List.map cGNode r63.Nodes)]) (args:=[.sl 11 0 1 1]) (σ1:=⟨[(8,.row [.isl false (List.map cGNode r47.1.Nodes)] 25),(7,.row [.isl false (List.map cGNode r19.1.Nodes)] 25),(3,.row [.isl false (List.map cGNode r9.1.Nodes)] 25)],12⟩) (want1 rfl rfl rfl h60) (q01 rfl rfl fn32 hb32 rfl rfl) (Gh.fz (tm':=[.isl false (List.map cGNode ([r61]))]) (h':=[(8,.row [.isl false (List.map cGNode r47.1.Nodes)] 25),(7,.row [.isl false (List.map cGNode r19.1.Nodes)] 25),(3,.row [.isl false (List.map cGNode r9.1.Nodes)] 25)]) 11 (.row [.int .i64 r61.Typex,.isl false (List.map cGArc r61.Arcs)] 43) 2 rfl (by simp) (by simp only [oneU,q07,q03,q0n,q09,q0q,q0d,q0c,q0b,q0a,q08,q0o,q0p,q0m,q0r,q1k,junkT,q1u,q1v,q29,Nat.reduceLeDiff,Nat.reduceMul,List.length_cons,List.length_nil,Nat.reduceAdd]<;>simp only [chunks,List.take,List.drop,List.map,cGNode]) (by simp only [fzH,fzB,ug,Nat.beq,cond_true,cond_false,oneU,q07,q03,q0n,q09,q0q,q0d,q0c,q0b,q0a,q08,q0o,q0p,q0m,q0r,q1k,junkT,q1u,q1v,q29,Nat.reduceLeDiff,Nat.reduceMul,List.length_cons,List.length_nil,Nat.reduceAdd]<;>simp only [chunks,List.take,List.drop,List.map,cGNode])) (Nat.le_of_ble_eq_true rfl) (q1a n ([r61]) r63 h64 _) rfl rfl ?_
 refine RD.free (u:=.bool r65) (args:=[.agg [.isl false (List.map cGNode r63.Nodes)]]) (want1 rfl rfl rfl h60) (q01 rfl rfl fn22 hb22 rfl rfl) (fun s=>q20 n r63 r65 h66 s) rfl rfl (RD.q (u:=.bool r65) rfl (q0l rfl h60 rfl) (RD.mv rfl rfl rfl rfl ?_))
 repeat refine RD.no (want0 rfl rfl rfl h67) rfl rfl ?_
 refine RD.q (u:=.bool false) rfl (q0k rfl h67 rfl) (RD.mv rfl rfl rfl rfl ?_)
 repeat refine RD.no (want0 rfl rfl rfl rfl) rfl rfl ?_
 refine RD.q (u:=.bool false) rfl (q0k rfl rfl rfl) (RD.mv rfl rfl rfl rfl ?_)
 repeat refine RD.no (want0 rfl rfl rfl rfl) rfl rfl ?_
 refine RD.q (u:=.bool false) rfl (q0k rfl rfl rfl) (RD.mv rfl rfl rfl rfl ?_)
 repeat refine RD.no (want0 rfl rfl rfl rfl) rfl rfl ?_
 refine RD.q (u:=.bool false) rfl (q0k rfl rfl rfl) (RD.as rfl rfl rfl rfl ?_)
 refine RD.done ⟨by kernel_rfl,trivial,?_⟩
 refine st ?_
 exact ⟨_,_,⟨rfl,rfl⟩,(Nat.zero_le _),Gh.toC (n1:=9) ⟨rfl,trivial⟩ rfl (Nat.zero_le _) (by simp)⟩
 replace h88:=q0h h60 h88
 replace h88:=Option.some.inj h88
 subst h88
 refine WPU.drawE Try.tb_ok [] (by kernel_rfl) ?_
 refine RD.mv rfl rfl rfl rfl (RD.q rfl (q06 rfl rfl (q6z _ _ _) rfl) (RD.mv rfl rfl rfl rfl (RD.look (u:=.agg [.isl false (List.map cGNode r9.1.Nodes)]) (want1 rfl rfl rfl h49) (q0g und25 rfl (q02 inf25) rfl rfl rfl) rfl rfl (RD.free (u:=.agg [.isl false (List.map cGNode r50.Nodes)]) (args:=[.agg [.isl false (List.map cGNode r9.1.Nodes)],.int .i64 1]) (want1 rfl rfl rfl h49) (q01 rfl rfl fn20 hb20 rfl rfl) (fun s=>q4e n (GFS.mk r9.1.Nodes) 1 r50 h51 s) rfl rfl (RD.freeO (u:=.isl false (List.map (cI .i64) ([0,1]))) (want1 rfl rfl rfl h49) (FreeO.bs (cs:=[.int .i64 0,.int .i64 1]) und55 inf3 rfl rfl rfl rfl rfl rfl rfl rfl rfl) rfl rfl (RD.free (u:=.agg (cGNode r52)) (args:=[.int .i64 3,.isl false (List.map (cI .i64) ([0,1]))]) (want1 rfl rfl rfl h49) (q01 rfl rfl fn29 hb29 rfl rfl) (fun s=>q04 n 3 ([0,1]) r52 h53 s) rfl rfl (RD.free (u:=.agg (cGNode r54)) (args:=[.int .i64 2,.nils]) (want1 rfl rfl rfl h49) (q01 rfl rfl fn29 hb29 rfl rfl) (fun s=>EvU.wkA (args':=[.int .i64 2,.isl false []]) (.cons (.refl _) (.cons (.nil false) .nil)) (fun s=>q04 n 2 [] r54 h55 s) s) rfl rfl ?_)))))))
 refine RD.act (u:=.sl 9 0 2 2) (σ':=⟨[(9,.row [.int .i64 r52.Typex,.isl false (List.map cGArc r52.Arcs),.int .i64 r54.Typex,.isl false (List.map cGArc r54.Arcs)] 43),(8,.row [.isl false (List.map cGNode r47.1.Nodes)] 25),(7,.row [.isl false (List.map cGNode r19.1.Nodes)] 25),(3,.row [.isl false (List.map cGNode r9.1.Nodes)] 25)],10⟩) (want1 rfl rfl rfl h49) (q24 und23 inf43 rfl rfl rfl rfl rfl rfl rfl) rfl rfl ?_
 refine RD.fcall (u:=.agg [.isl false (List.map cGNode r56.Nodes)]) (args:=[.sl 9 0 2 2]) (σ1:=⟨[(8,.row [.isl false (List.map cGNode r47.1.Nodes)] 25),(7,.row [.isl false (List.map cGNode r19.1.Nodes)] 25),(3,.row [.isl false (List.map cGNode r9.1.Nodes)] 25)],10⟩) (want1 rfl rfl rfl h49) (q01 rfl rfl fn32 hb32 rfl rfl) (Gh.fz (tm':=[.isl false (List.map cGNode ([r52,r54]))]) (h':=[(8,.row [.isl false (List.map cGNode r47.1.Nodes)] 25),(7,.row [.isl false (List.map cGNode r19.1.Nodes)] 25),(3,.row [.isl false (List.map cGNode r9.1.Nodes)] 25)]) 9 (.row [.int .i64 r52.Typex,.isl false (List.map cGArc r52.Arcs),.int .i64 r54.Typex,.isl false (List.map cGArc r54.Arcs)] 43) 2 rfl (by simp) (by simp only [oneU,q07,q03,q0n,q09,q0q,q0d,q0c,q0b,q0a,q08,q0o,q0p,q0m,q0r,q1k,junkT,q1u,q1v,Nat.reduceLeDiff,Nat.reduceMul,List.length_cons,List.length_nil,Nat.reduceAdd]<;>simp only [chunks,List.take,List.drop,List.map,cGNode]) (by simp only [fzH,fzB,ug,Nat.beq,cond_true,cond_false,oneU,q07,q03,q0n,q09,q0q,q0d,q0c,q0b,q0a,q08,q0o,q0p,q0m,q0r,q1k,junkT,q1u,q1v,Nat.reduceLeDiff,Nat.reduceMul,List.length_cons,List.length_nil,Nat.reduceAdd]<;>simp only [chunks,List.take,List.drop,List.map,cGNode])) (Nat.le_of_ble_eq_true rfl) (q1a n ([r52,r54]) r56 h57 _) rfl rfl ?_
 refine RD.free (u:=.bool r58) (args:=[.agg [.isl false (List.map cGNode r50.Nodes)],.agg [.isl false (List.map cGNode r56.Nodes)]]) (want1 rfl rfl rfl h49) (q01 rfl rfl fn14 hb14 rfl rfl) (fun s=>q1l n r50 r56 r58 h59 s) rfl rfl (RD.q (u:=.bool r58) rfl (q0l rfl h49 rfl) (RD.mv rfl rfl rfl rfl ?_))
 repeat refine RD.no (want0 rfl rfl rfl h60) rfl rfl ?_
 refine RD.q (u:=.bool false) rfl (q0k rfl h60 rfl) (RD.mv rfl rfl rfl rfl ?_)
 repeat refine RD.no (want0 rfl rfl rfl rfl) rfl rfl ?_
 refine RD.q (u:=.bool false) rfl (q0k rfl rfl rfl) (RD.mv rfl rfl rfl rfl ?_)
 repeat refine RD.no (want0 rfl rfl rfl rfl) rfl rfl ?_
 refine RD.q (u:=.bool false) rfl (q0k rfl rfl rfl) (RD.mv rfl rfl rfl rfl ?_)
 repeat refine RD.no (want0 rfl rfl rfl rfl) rfl rfl ?_
 refine RD.q (u:=.bool false) rfl (q0k rfl rfl rfl) (RD.mv rfl rfl rfl rfl ?_)
 repeat refine RD.no (want0 rfl rfl rfl rfl) rfl rfl ?_
 refine RD.q (u:=.bool false) rfl (q0k rfl rfl rfl) (RD.as rfl rfl rfl rfl ?_)
 refine RD.done ⟨by kernel_rfl,trivial,?_⟩
 refine st ?_
 exact ⟨_,_,⟨rfl,rfl⟩,(Nat.zero_le _),Gh.toC (n1:=9) ⟨rfl,trivial⟩ rfl (Nat.zero_le _) (by simp)⟩
 replace h88:=q0h h49 h88
 replace h88:=Option.some.inj h88
 subst h88
 refine WPU.drawE Try.tb_ok [] (by kernel_rfl) ?_
 refine RD.mv rfl rfl rfl rfl (RD.q rfl (q06 rfl rfl (q6z _ _ _) rfl) (RD.mv rfl rfl rfl rfl ?_))
 repeat refine RD.no (want0 rfl rfl rfl h49) rfl rfl ?_
 refine RD.q (u:=.bool false) rfl (q0k rfl h49 rfl) (RD.mv rfl rfl rfl rfl ?_)
 repeat refine RD.no (want0 rfl rfl rfl rfl) rfl rfl ?_
 refine RD.q (u:=.bool false) rfl (q0k rfl rfl rfl) (RD.mv rfl rfl rfl rfl ?_)
 repeat refine RD.no (want0 rfl rfl rfl rfl) rfl rfl ?_
 refine RD.q (u:=.bool false) rfl (q0k rfl rfl rfl) (RD.mv rfl rfl rfl rfl ?_)
 repeat refine RD.no (want0 rfl rfl rfl rfl) rfl rfl ?_
 refine RD.q (u:=.bool false) rfl (q0k rfl rfl rfl) (RD.mv rfl rfl rfl rfl ?_)
 repeat refine RD.no (want0 rfl rfl rfl rfl) rfl rfl ?_
 refine RD.q (u:=.bool false) rfl (q0k rfl rfl rfl) (RD.mv rfl rfl rfl rfl ?_)
 repeat refine RD.no (want0 rfl rfl rfl rfl) rfl rfl ?_
 refine RD.q (u:=.bool false) rfl (q0k rfl rfl rfl) (RD.as rfl rfl rfl rfl ?_)
 refine RD.done ⟨by kernel_rfl,trivial,?_⟩
 refine st ?_
 exact ⟨_,_,⟨rfl,rfl⟩,(Nat.zero_le _),Gh.toC (n1:=9) ⟨rfl,trivial⟩ rfl (Nat.zero_le _) (by simp)⟩
 rcases q2m (r9.2 != 0) with h21 | h21
 replace h45:=q0i h21 h45
 replace h45:=Option.some.inj h45
 subst h45
 refine WPU.drawE Try.tb_ok [] (by kernel_rfl) ?_
 refine RD.mv rfl rfl rfl rfl (RD.q rfl (q06 rfl rfl (q3m _ _ _) rfl) (RD.mv rfl rfl rfl rfl ?_))
 repeat refine RD.no (want0 rfl rfl rfl h21) rfl rfl ?_
 refine RD.q (u:=.bool true) rfl (q0l rfl h21 rfl) (RD.mv rfl rfl rfl rfl ?_)
 repeat refine RD.no (want0 rfl rfl rfl rfl) rfl rfl ?_
 refine RD.q (u:=.bool true) rfl (q0l rfl rfl rfl) (RD.mv rfl rfl rfl rfl ?_)
 repeat refine RD.no (want0 rfl rfl rfl rfl) rfl rfl ?_
 refine RD.q (u:=.bool true) rfl (q0l rfl rfl rfl) ?_
 refine RD.done ⟨by kernel_rfl,trivial,?_⟩
 refine st ?_
 exact ⟨_,_,⟨rfl,rfl⟩,(Nat.zero_le _),Gh.toC (n1:=8) ⟨rfl,rfl,trivial⟩ rfl (Nat.zero_le _) (by simp)⟩
 replace h45:=q0h h21 h45
 rcases q2m (r19.2 != 0) with h22 | h22
 replace h45:=q0i h22 h45
 replace h45:=Option.some.inj h45
 subst h45
 refine WPU.drawE Try.tb_ok [] (by kernel_rfl) ?_
 refine RD.mv rfl rfl rfl rfl (RD.q rfl (q06 rfl rfl (q3m _ _ _) rfl) (RD.mv rfl rfl rfl rfl (RD.look (want1 rfl rfl rfl h21) (q33 rfl) rfl rfl (RD.look (want1 rfl rfl rfl h21) (q06 rfl rfl (q3m _ _ _) rfl) rfl rfl (RD.q (u:=.bool (r19.2 != 0)) rfl (q0k rfl h21 rfl) (RD.mv rfl rfl rfl rfl ?_))))))
 repeat refine RD.no (want0 rfl rfl rfl h22) rfl rfl ?_
 refine RD.q (u:=.bool true) rfl (q0l rfl h22 rfl) (RD.mv rfl rfl rfl rfl ?_)
 repeat refine RD.no (want0 rfl rfl rfl rfl) rfl rfl ?_
 refine RD.q (u:=.bool true) rfl (q0l rfl rfl rfl) ?_
 refine RD.done ⟨by kernel_rfl,trivial,?_⟩
 refine st ?_
 exact ⟨_,_,⟨rfl,rfl⟩,(Nat.zero_le _),Gh.toC (n1:=8) ⟨rfl,rfl,trivial⟩ rfl (Nat.zero_le _) (by simp)⟩
 replace h45:=q0h h22 h45
 obtain ⟨r23,h24,h45⟩:=q00 h45
 obtain ⟨r25,h26,h45⟩:=q00 h45
 obtain ⟨r27,h28,h45⟩:=q00 h45
 obtain ⟨r29,h30,h45⟩:=q00 h45
 obtain ⟨r31,h32,h45⟩:=q00 h45
 rcases q2m (!r31) with h33 | h33
 replace h45:=q0i h33 h45
 replace h45:=Option.some.inj h45
 subst h45
 refine WPU.drawE Try.tb_ok [(7,13),(7,14)] (by kernel_rfl) ?_
 refine RD.mv rfl rfl rfl rfl (RD.q rfl (q06 rfl rfl (q3m _ _ _) rfl) (RD.mv rfl rfl rfl rfl (RD.look (want1 rfl rfl rfl h21) (q33 rfl) rfl rfl (RD.look (want1 rfl rfl rfl h21) (q06 rfl rfl (q3m _ _ _) rfl) rfl rfl (RD.q (u:=.bool (r19.2 != 0)) rfl (q0k rfl h21 rfl) (RD.mv rfl rfl rfl rfl (RD.look (u:=.agg [.isl false (List.map cGNode r9.1.Nodes)]) (want1 rfl rfl rfl h22) (q0g und25 rfl (q02 inf25) rfl rfl rfl) rfl rfl ?_)))))))
 refine RD.freeO (u:=.isl false (List.map (cI .i64) ([0,1,1,2]))) (want1 rfl rfl rfl h22) (FreeO.bs (cs:=[.int .i64 0,.int .i64 1,.int .i64 1,.int .i64 2]) und55 inf3 rfl rfl rfl rfl rfl rfl rfl rfl rfl) rfl rfl (RD.free (u:=.agg (cGNode r23)) (args:=[.int .i64 1,.isl false (List.map (cI .i64) ([0,1,1,2]))]) (want1 rfl rfl rfl h22) (q01 rfl rfl fn29 hb29 rfl rfl) (fun s=>q04 n 1 ([0,1,1,2]) r23 h24 s) rfl rfl (RD.freeO (u:=.isl false (List.map (cI .i64) ([0,2]))) (want1 rfl rfl rfl h22) (FreeO.bs (cs:=[.int .i64 0,.int .i64 2]) und55 inf3 rfl rfl rfl rfl rfl rfl rfl rfl rfl) rfl rfl (RD.free (u:=.agg (cGNode r25)) (args:=[.int .i64 3,.isl false (List.map (cI .i64) ([0,2]))]) (want1 rfl rfl rfl h22) (q01 rfl rfl fn29 hb29 rfl rfl) (fun s=>q04 n 3 ([0,2]) r25 h26 s) rfl rfl (RD.free (u:=.agg (cGNode r27)) (args:=[.int .i64 2,.nils]) (want1 rfl rfl rfl h22) (q01 rfl rfl fn29 hb29 rfl rfl) (fun s=>EvU.wkA (args':=[.int .i64 2,.isl false []]) (.cons (.refl _) (.cons (.nil false) .nil)) (fun s=>q04 n 2 [] r27 h28 s) s) rfl rfl (RD.act (u:=.sl 8 0 3 3) (σ':=⟨[(8,.row [.int .i64 r23.Typex,.isl false (List.map cGArc r23.Arcs),.int .i64 r25.Typex,.isl false (List.map cGArc r25.Arcs),.int .i64 r27.Typex,.isl false (List.map cGArc r27.Arcs)] 43),(7,.row [.isl false (List.map cGNode r19.1.Nodes)] 25),(3,.row [.isl false (List.map cGNode r9.1.Nodes)] 25)],9⟩) (want1 rfl rfl rfl h22) (q24 und23 inf43 rfl rfl rfl rfl rfl rfl rfl) rfl rfl ?_)))))
 refine RD.fcall (u:=.agg [.isl false (List.map cGNode r29.Nodes)]) (args:=[.sl 8 0 3 3]) (σ1:=⟨[(7,.row [.isl false (List.map cGNode r19.1.Nodes)] 25),(3,.row [.isl false (List.map cGNode r9.1.Nodes)] 25)],9⟩) (want1 rfl rfl rfl h22) (q01 rfl rfl fn32 hb32 rfl rfl) (Gh.fz (tm':=[.isl false (List.map cGNode ([r23,r25,r27]))]) (h':=[(7,.row [.isl false (List.map cGNode r19.1.Nodes)] 25),(3,.row [.isl false (List.map cGNode r9.1.Nodes)] 25)]) 8 (.row [.int .i64 r23.Typex,.isl false (List.map cGArc r23.Arcs),.int .i64 r25.Typex,.isl false (List.map cGArc r25.Arcs),.int .i64 r27.Typex,.isl false (List.map cGArc r27.Arcs)] 43) 2 rfl (by simp) (by simp only [oneU,q07,q03,q0n,q09,q0q,q0d,q0c,q0b,q0a,q08,q0o,q0p,q0m,q0r,q1k,junkT,q1u,q1v,Nat.reduceLeDiff,Nat.reduceMul,List.length_cons,List.length_nil,Nat.reduceAdd]<;>simp only [chunks,List.take,List.drop,List.map,cGNode]) (by simp only [fzH,fzB,ug,Nat.beq,cond_true,cond_false,oneU,q07,q03,q0n,q09,q0q,q0d,q0c,q0b,q0a,q08,q0o,q0p,q0m,q0r,q1k,junkT,q1u,q1v,Nat.reduceLeDiff,Nat.reduceMul,List.length_cons,List.length_nil,Nat.reduceAdd]<;>simp only [chunks,List.take,List.drop,List.map,cGNode])) (Nat.le_of_ble_eq_true rfl) (q1a n ([r23,r25,r27]) r29 h30 _) rfl rfl ?_
 refine RD.free (u:=.bool r31) (args:=[.agg [.isl false (List.map cGNode r9.1.Nodes)],.agg [.isl false (List.map cGNode r29.Nodes)]]) (want1 rfl rfl rfl h22) (q01 rfl rfl fn14 hb14 rfl rfl) (fun s=>q1l n (GFS.mk r9.1.Nodes) r29 r31 h32 s) rfl rfl (RD.look (u:=.bool (!r31)) (want1 rfl rfl rfl h22) (q7b rfl rfl rfl rfl) rfl rfl (RD.q (u:=.bool (!r31)) rfl (q0k rfl h22 rfl) (RD.mv rfl rfl rfl rfl ?_)))
 repeat refine RD.no (want0 rfl rfl rfl h33) rfl rfl ?_
 refine RD.q (u:=.bool true) rfl (q0l rfl h33 rfl) ?_
 refine RD.done ⟨by kernel_rfl,⟨q0g und25 rfl (q02 inf25) rfl rfl rfl,⟨q0g und25 rfl (q02 inf25) rfl rfl rfl,trivial⟩⟩,?_⟩
 refine st ?_
 exact ⟨_,_,⟨rfl,rfl⟩,(Nat.zero_le _),Gh.toC (n1:=8) ⟨rfl,rfl,trivial⟩ rfl (Nat.zero_le _) (by simp)⟩
 replace h45:=q0h h33 h45
 obtain ⟨r34,h35,h45⟩:=q00 h45
 obtain ⟨r36,h37,h45⟩:=q00 h45
 obtain ⟨r38,h39,h45⟩:=q00 h45
 obtain ⟨r40,h41,h45⟩:=q00 h45
 obtain ⟨r42,h43,h45⟩:=q00 h45
 replace h45:=Option.some.inj h45
 subst h45
 refine WPU.drawE Try.tb_ok [(7,13),(7,14),(19,25),(19,26)] (by kernel_rfl) ?_
 refine RD.mv rfl rfl rfl rfl (RD.q rfl (q06 rfl rfl (q3m _ _ _) rfl) (RD.mv rfl rfl rfl rfl (RD.look (want1 rfl rfl rfl h21) (q33 rfl) rfl rfl (RD.look (want1 rfl rfl rfl h21) (q06 rfl rfl (q3m _ _ _) rfl) rfl rfl (RD.q (u:=.bool (r19.2 != 0)) rfl (q0k rfl h21 rfl) (RD.mv rfl rfl rfl rfl (RD.look (u:=.agg [.isl false (List.map cGNode r9.1.Nodes)]) (want1 rfl rfl rfl h22) (q0g und25 rfl (q02 inf25) rfl rfl rfl) rfl rfl ?_)))))))
 refine RD.freeO (u:=.isl false (List.map (cI .i64) ([0,1,1,2]))) (want1 rfl rfl rfl h22) (FreeO.bs (cs:=[.int .i64 0,.int .i64 1,.int .i64 1,.int .i64 2]) und55 inf3 rfl rfl rfl rfl rfl rfl rfl rfl rfl) rfl rfl (RD.free (u:=.agg (cGNode r23)) (args:=[.int .i64 1,.isl false (List.map (cI .i64) ([0,1,1,2]))]) (want1 rfl rfl rfl h22) (q01 rfl rfl fn29 hb29 rfl rfl) (fun s=>q04 n 1 ([0,1,1,2]) r23 h24 s) rfl rfl (RD.freeO (u:=.isl false (List.map (cI .i64) ([0,2]))) (want1 rfl rfl rfl h22) (FreeO.bs (cs:=[.int .i64 0,.int .i64 2]) und55 inf3 rfl rfl rfl rfl rfl rfl rfl rfl rfl) rfl rfl (RD.free (u:=.agg (cGNode r25)) (args:=[.int .i64 3,.isl false (List.map (cI .i64) ([0,2]))]) (want1 rfl rfl rfl h22) (q01 rfl rfl fn29 hb29 rfl rfl) (fun s=>q04 n 3 ([0,2]) r25 h26 s) rfl rfl (RD.free (u:=.agg (cGNode r27)) (args:=[.int .i64 2,.nils]) (want1 rfl rfl rfl h22) (q01 rfl rfl fn29 hb29 rfl rfl) (fun s=>EvU.wkA (args':=[.int .i64 2,.isl false []]) (.cons (.refl _) (.cons (.nil false) .nil)) (fun s=>q04 n 2 [] r27 h28 s) s) rfl rfl (RD.act (u:=.sl 8 0 3 3) (σ':=⟨[(8,.row [.int .i64 r23.Typex,.isl false (List.map cGArc r23.Arcs),.int .i64 r25.Typex,.isl false (List.map cGArc r25.Arcs),.int .i64 r27.Typex,.isl false (List.map cGArc r27.Arcs)] 43),(7,.row [.isl false (List.map cGNode r19.1.Nodes)] 25),(3,.row [.isl false (List.map cGNode r9.1.Nodes)] 25)],9⟩) (want1 rfl rfl rfl h22) (q24 und23 inf43 rfl rfl rfl rfl rfl rfl rfl) rfl rfl ?_)))))
 refine RD.fcall (u:=.agg [.isl false (List.map cGNode r29.Nodes)]) (args:=[.sl 8 0 3 3]) (σ1:=⟨[(7,.row [.isl false (List.map cGNode r19.1.Nodes)] 25),(3,.row [.isl false (List.map cGNode r9.1.Nodes)] 25)],9⟩) (want1 rfl rfl rfl h22) (q01 rfl rfl fn32 hb32 rfl rfl) (Gh.fz (tm':=[.isl false (List.map cGNode ([r23,r25,r27]))]) (h':=[(7,.row [.isl false (List.map cGNode r19.1.Nodes)] 25),(3,.row [.isl false (List.map cGNode r9.1.Nodes)] 25)]) 8 (.row [.int .i64 r23.Typex,.isl false (List.map cGArc r23.Arcs),.int .i64 r25.Typex,.isl false (List.map cGArc r25.Arcs),.int .i64 r27.Typex,.isl false (List.map cGArc r27.Arcs)] 43) 2 rfl (by simp) (by simp only [oneU,q07,q03,q0n,q09,q0q,q0d,q0c,q0b,q0a,q08,q0o,q0p,q0m,q0r,q1k,junkT,q1u,q1v,Nat.reduceLeDiff,Nat.reduceMul,List.length_cons,List.length_nil,Nat.reduceAdd]<;>simp only [chunks,List.take,List.drop,List.map,cGNode]) (by simp only [fzH,fzB,ug,Nat.beq,cond_true,cond_false,oneU,q07,q03,q0n,q09,q0q,q0d,q0c,q0b,q0a,q08,q0o,q0p,q0m,q0r,q1k,junkT,q1u,q1v,Nat.reduceLeDiff,Nat.reduceMul,List.length_cons,List.length_nil,Nat.reduceAdd]<;>simp only [chunks,List.take,List.drop,List.map,cGNode])) (Nat.le_of_ble_eq_true rfl) (q1a n ([r23,r25,r27]) r29 h30 _) rfl rfl ?_
 refine RD.free (u:=.bool r31) (args:=[.agg [.isl false (List.map cGNode r9.1.Nodes)],.agg [.isl false (List.map cGNode r29.Nodes)]]) (want1 rfl rfl rfl h22) (q01 rfl rfl fn14 hb14 rfl rfl) (fun s=>q1l n (GFS.mk r9.1.Nodes) r29 r31 h32 s) rfl rfl (RD.look (u:=.bool (!r31)) (want1 rfl rfl rfl h22) (q7b rfl rfl rfl rfl) rfl rfl (RD.q (u:=.bool (!r31)) rfl (q0k rfl h22 rfl) (RD.mv rfl rfl rfl rfl (RD.look (u:=.agg [.isl false (List.map cGNode r19.1.Nodes)]) (want1 rfl rfl rfl h33) (q0g und25 rfl (q02 inf25) rfl rfl rfl) rfl rfl (RD.freeO (u:=.isl false (List.map (cI .i64) ([3,1,7,2]))) (want1 rfl rfl rfl h33) (FreeO.bs (cs:=[.int .i64 3,.int .i64 1,.int .i64 7,.int .i64 2]) und55 inf3 rfl rfl rfl rfl rfl rfl rfl rfl rfl) rfl rfl (RD.free (u:=.agg (cGNode r34)) (args:=[.int .i64 4,.isl false (List.map (cI .i64) ([3,1,7,2]))]) (want1 rfl rfl rfl h33) (q01 rfl rfl fn29 hb29 rfl rfl) (fun s=>q04 n 4 ([3,1,7,2]) r34 h35 s) rfl rfl (RD.free (u:=.agg (cGNode r36)) (args:=[.int .i64 5,.nils]) (want1 rfl rfl rfl h33) (q01 rfl rfl fn29 hb29 rfl rfl) (fun s=>EvU.wkA (args':=[.int .i64 5,.isl false []]) (.cons (.refl _) (.cons (.nil false) .nil)) (fun s=>q04 n 5 [] r36 h37 s) s) rfl rfl ?_)))))))
 refine RD.freeO (u:=.isl false (List.map (cI .i64) ([2,0]))) (want1 rfl rfl rfl h33) (FreeO.bs (cs:=[.int .i64 2,.int .i64 0]) und55 inf3 rfl rfl rfl rfl rfl rfl rfl rfl rfl) rfl rfl (RD.free (u:=.agg (cGNode r38)) (args:=[.int .i64 6,.isl false (List.map (cI .i64) ([2,0]))]) (want1 rfl rfl rfl h33) (q01 rfl rfl fn29 hb29 rfl rfl) (fun s=>q04 n 6 ([2,0]) r38 h39 s) rfl rfl (RD.act (u:=.sl 9 0 3 3) (σ':=⟨[(9,.row [.int .i64 r34.Typex,.isl false (List.map cGArc r34.Arcs),.int .i64 r36.Typex,.isl false (List.map cGArc r36.Arcs),.int .i64 r38.Typex,.isl false (List.map cGArc r38.Arcs)] 43),(7,.row [.isl false (List.map cGNode r19.1.Nodes)] 25),(3,.row [.isl false (List.map cGNode r9.1.Nodes)] 25)],10⟩) (want1 rfl rfl rfl h33) (q24 und23 inf43 rfl rfl rfl rfl rfl rfl rfl) rfl rfl ?_))
 refine RD.fcall (u:=.agg [.isl false (List.map cGNode r40.Nodes)]) (args:=[.sl 9 0 3 3]) (σ1:=⟨[(7,.row [.isl false (List.map cGNode r19.1.Nodes)] 25),(3,.row [.isl false (List.map cGNode r9.1.Nodes)] 25)],10⟩) (want1 rfl rfl rfl h33) (q01 rfl rfl fn32 hb32 rfl rfl) (Gh.fz (tm':=[.isl false (List.map cGNode ([r34,r36,r38]))]) (h':=[(7,.row [.isl false (List.map cGNode r19.1.Nodes)] 25),(3,.row [.isl false (List.map cGNode r9.1.Nodes)] 25)]) 9 (.row [.int .i64 r34.Typex,.isl false (List.map cGArc r34.Arcs),.int .i64 r36.Typex,.isl false (List.map cGArc r36.Arcs),.int .i64 r38.Typex,.isl false (List.map cGArc r38.Arcs)] 43) 2 rfl (by simp) (by simp only [oneU,q07,q03,q0n,q09,q0q,q0d,q0c,q0b,q0a,q08,q0o,q0p,q0m,q0r,q1k,junkT,q1u,q1v,Nat.reduceLeDiff,Nat.reduceMul,List.length_cons,List.length_nil,Nat.reduceAdd]<;>simp only [chunks,List.take,List.drop,List.map,cGNode]) (by simp only [fzH,fzB,ug,Nat.beq,cond_true,cond_false,oneU,q07,q03,q0n,q09,q0q,q0d,q0c,q0b,q0a,q08,q0o,q0p,q0m,q0r,q1k,junkT,q1u,q1v,Nat.reduceLeDiff,Nat.reduceMul,List.length_cons,List.length_nil,Nat.reduceAdd]<;>simp only [chunks,List.take,List.drop,List.map,cGNode])) (Nat.le_of_ble_eq_true rfl) (q1a n ([r34,r36,r38]) r40 h41 _) rfl rfl ?_
 refine RD.free (u:=.bool r42) (args:=[.agg [.isl false (List.map cGNode r19.1.Nodes)],.agg [.isl false (List.map cGNode r40.Nodes)]]) (want1 rfl rfl rfl h33) (q01 rfl rfl fn14 hb14 rfl rfl) (fun s=>q1l n (GFS.mk r19.1.Nodes) r40 r42 h43 s) rfl rfl (RD.look (u:=.bool (!r42)) (want1 rfl rfl rfl h33) (q7b rfl rfl rfl rfl) rfl rfl (RD.q (u:=.bool (!r42)) rfl (q0k rfl h33 rfl) ?_))
 refine RD.done ⟨by kernel_rfl,⟨q0g und25 rfl (q02 inf25) rfl rfl rfl,⟨q0g und25 rfl (q02 inf25) rfl rfl rfl,⟨q0g und25 rfl (q02 inf25) rfl rfl rfl,⟨q0g und25 rfl (q02 inf25) rfl rfl rfl,trivial⟩⟩⟩⟩,?_⟩
 refine st ?_
 exact ⟨_,_,⟨rfl,rfl⟩,(Nat.zero_le _),Gh.toC (n1:=8) ⟨rfl,rfl,trivial⟩ rfl (Nat.zero_le _) (by simp)⟩
theorem q3n (n:Nat)  (r:Bool) (hF:q1t n  = some r) (σ:Sg):EvU Try.prog 16 [] σ (fun u σ'=>u = .bool r∧σ'=σ) :=
 EvU.pure1C (q7w n  r hF) σ
def q46 (n:Nat) (p1:GFS) (p2:GFS):Option (Bool) :=
 bindO (bindO (q4c n p1) fun r3 =>
 cond (!r3)
  (some true)
  (bindO (q4c n p2) fun r6 =>
  some (!r6))) fun b8 =>
 cond b8
  (bindO (q1t n) fun r11 =>
  some r11)
  (bindO (q2v n p1) fun r13 =>
  bindO (q2v n p2) fun r15 =>
  bindO (cond (r13.2 != 0)
   (some true)
   (some (r15.2 != 0))) fun b18 =>
  cond b18
   (bindO (q1t n) fun r21 =>
   some r21)
   (bindO (bindO (q4a n (GFS.mk r13.1.Nodes) (GFS.mk r15.1.Nodes)) fun r23 =>
   bindO (q37 n p1 p2) fun r25 =>
   cond (r23 == r25)
    (bindO (q37 n p1 (GFS.mk r13.1.Nodes)) fun r28 =>
    cond r28
     (bindO (q37 n p2 (GFS.mk r15.1.Nodes)) fun r31 =>
     cond r31
      (bindO (q1t n) fun r34 =>
      some r34)
      (some false))
     (some false))
    (some false)) fun b36 =>
   some b36))
theorem q8o (n:Nat) (p1:GFS) (p2:GFS) (r:Bool) (hF:q46 n p1 p2=some r):EvU Try.prog 9 [.agg [.isl false (List.map cGNode p1.Nodes)],.agg [.isl false (List.map cGNode p2.Nodes)]] ⟨[],0⟩ (fun u _=>u = .bool r∧Bel 0 u):=by
 unfold q46 at hF
 refine EvU.of_body Try.tb_ok fn9 rfl ?_
 refine WPU.ghost (tm':=fr 55 [(0,.agg [.isl false (List.map cGNode p1.Nodes)]),(1,.agg [.isl false (List.map cGNode p2.Nodes)])]) (Gh.start (Nat.le_of_ble_eq_true rfl)) (Nat.zero_le _) ?_
 refine sr ?_
 refine RS.q (u:=.ptr 0 0 0) (σ':=⟨[(0,.row [.isl false (List.map cGNode p1.Nodes)] 25)],1⟩) rfl (q2x rfl rfl rfl) (RS.q (u:=.ptr 1 0 0) (σ':=⟨[(1,.row [.isl false (List.map cGNode p2.Nodes)] 25),(0,.row [.isl false (List.map cGNode p1.Nodes)] 25)],2⟩) rfl (q2x rfl rfl rfl) ?_)
 refine sd ?_
 obtain ⟨b8,h9,hF⟩:=q00 hF
 refine WPU.joinK (fun tm σ=>tm=fr 55 [(2,.ptr 0 0 0),(3,.ptr 1 0 0),(16,.bool b8)]∧σ=⟨[(1,.row [.isl false (List.map cGNode p2.Nodes)] 25),(0,.row [.isl false (List.map cGNode p1.Nodes)] 25)],2⟩) ?_ ?_
 rintro _ _ ⟨rfl,rfl⟩
 refine st ?_
 refine WPU.condS (t:=b8) rfl (fun h10=>?_) (fun h10=>?_)
 replace hF:=q0i h10 hF
 refine st ?_
 obtain ⟨r11,h12,hF⟩:=q00 hF
 refine sr ?_
 refine RS.call (u:=.bool r11) (args:=[]) rfl (q01 rfl rfl fn16 hb16 rfl rfl) (q3n n  r11 h12 _) rfl rfl ?_
 refine sd ?_
 refine WPU.ret ?_
 refine st ?_
 have hr:=Option.some.inj hF
 subst hr
 exact ⟨.inr rfl,[.bool r11],q1w rfl (q1o),.bool r11,⟨[],0⟩,Nat.le_refl _,Gh.toR (.bool r11) rfl,rfl,BU.h⟩
 replace hF:=q0h h10 hF
 refine st ?_
 refine WPU.skip ?_
 refine st ?_
 obtain ⟨r13,h14,hF⟩:=q00 hF
 refine sr ?_
 refine RS.q (u:=.agg [.isl false (List.map cGNode p1.Nodes)]) rfl (q0g und25 rfl (q02 inf25) rfl rfl rfl) (RS.call (u:=.tup [.agg [.isl false (List.map cGNode r13.1.Nodes)],.int .i64 r13.2]) (args:=[.agg [.isl false (List.map cGNode p1.Nodes)]]) rfl (q01 rfl rfl fn13 hb13 rfl rfl) (q41 n p1 r13 h14 _) rfl rfl (RS.mv rfl rfl rfl rfl (RS.q rfl (q69 rfl rfl) (RS.q rfl (q69 rfl rfl) (RS.q (u:=.ptr 2 0 0) (σ':=⟨[(2,.row [.nils] 25),(1,.row [.isl false (List.map cGNode p2.Nodes)] 25),(0,.row [.isl false (List.map cGNode p1.Nodes)] 25)],3⟩) rfl (q1b inf25 rfl rfl) (RS.opn (u:=.junk) (σ':=⟨[(2,.row [.isl false (List.map cGNode r13.1.Nodes)] 25),(1,.row [.isl false (List.map cGNode p2.Nodes)] 25),(0,.row [.isl false (List.map cGNode p1.Nodes)] 25)],3⟩) rfl (q0y (q02 inf25) rfl rfl rfl rfl rfl rfl rfl rfl) rfl ?_))))))
 refine sd ?_
 obtain ⟨r15,h16,hF⟩:=q00 hF
 refine sr ?_
 refine RS.q (u:=.agg [.isl false (List.map cGNode p2.Nodes)]) rfl (q0g und25 rfl (q02 inf25) rfl rfl rfl) (RS.call (u:=.tup [.agg [.isl false (List.map cGNode r15.1.Nodes)],.int .i64 r15.2]) (args:=[.agg [.isl false (List.map cGNode p2.Nodes)]]) rfl (q01 rfl rfl fn13 hb13 rfl rfl) (q41 n p2 r15 h16 _) rfl rfl (RS.mv rfl rfl rfl rfl (RS.q rfl (q69 rfl rfl) (RS.q rfl (q69 rfl rfl) (RS.q (u:=.ptr 3 0 0) (σ':=⟨[(3,.row [.nils] 25),(2,.row [.isl false (List.map cGNode r13.1.Nodes)] 25),(1,.row [.isl false (List.map cGNode p2.Nodes)] 25),(0,.row [.isl false (List.map cGNode p1.Nodes)] 25)],4⟩) rfl (q1b inf25 rfl rfl) (RS.opn (u:=.junk) (σ':=⟨[(3,.row [.isl false (List.map cGNode r15.1.Nodes)] 25),(2,.row [.isl false (List.map cGNode r13.1.Nodes)] 25),(1,.row [.isl false (List.map cGNode p2.Nodes)] 25),(0,.row [.isl false (List.map cGNode p1.Nodes)] 25)],4⟩) rfl (q0y (q02 inf25) rfl rfl rfl rfl rfl rfl rfl rfl) rfl ?_))))))
 refine sd ?_
 obtain ⟨b18,h19,hF⟩:=q00 hF
 refine WPU.joinK (fun tm σ=>tm=fr 55 [(2,.ptr 0 0 0),(3,.ptr 1 0 0),(5,.ptr 2 0 0),(7,.ptr 3 0 0),(33,.bool b18)]∧σ=⟨[(3,.row [.isl false (List.map cGNode r15.1.Nodes)] 25),(2,.row [.isl false (List.map cGNode r13.1.Nodes)] 25),(1,.row [.isl false (List.map cGNode p2.Nodes)] 25),(0,.row [.isl false (List.map cGNode p1.Nodes)] 25)],4⟩) ?_ ?_
 rintro _ _ ⟨rfl,rfl⟩
 refine st ?_
 refine WPU.condS (t:=b18) rfl (fun h20=>?_) (fun h20=>?_)
 replace hF:=q0i h20 hF
 refine st ?_
 obtain ⟨r21,h22,hF⟩:=q00 hF
 refine sr ?_
 refine RS.call (u:=.bool r21) (args:=[]) rfl (q01 rfl rfl fn16 hb16 rfl rfl) (q3n n  r21 h22 _) rfl rfl ?_
 refine sd ?_
 refine WPU.ret ?_
 refine st ?_
 have hr:=Option.some.inj hF
 subst hr
 exact ⟨.inr rfl,[.bool r21],q1w rfl (q1o),.bool r21,⟨[],0⟩,Nat.le_refl _,Gh.toR (.bool r21) rfl,rfl,BU.h⟩
 replace hF:=q0h h20 hF
 refine st ?_
 refine WPU.skip ?_
 refine st ?_
 obtain ⟨b36,h37,hF⟩:=q00 hF
 refine WPU.joinK (fun tm σ=>tm=fr 55 [(4,.bool b36)]∧σ=⟨[(3,.row [.isl false (List.map cGNode r15.1.Nodes)] 25),(2,.row [.isl false (List.map cGNode r13.1.Nodes)] 25),(1,.row [.isl false (List.map cGNode p2.Nodes)] 25),(0,.row [.isl false (List.map cGNode p1.Nodes)] 25)],4⟩) ?_ ?_
 rintro _ _ ⟨rfl,rfl⟩
 refine st ?_
 refine WPU.ret ?_
 refine st ?_
 have hr:=Option.some.inj hF
 subst hr
 exact ⟨.inr rfl,[.bool b36],q1w rfl (q1o),.bool b36,⟨[],0⟩,Nat.le_refl _,Gh.toR (.bool b36) rfl,rfl,BU.h⟩
 obtain ⟨r23,h24,h37⟩:=q00 h37
 obtain ⟨r25,h26,h37⟩:=q00 h37
 rcases q2m (r23 == r25) with h27 | h27
 replace h37:=q0i h27 h37
 obtain ⟨r28,h29,h37⟩:=q00 h37
 rcases q2m r28 with h30 | h30
 replace h37:=q0i h30 h37
 obtain ⟨r31,h32,h37⟩:=q00 h37
 rcases q2m r31 with h33 | h33
 replace h37:=q0i h33 h37
 obtain ⟨r34,h35,h37⟩:=q00 h37
 replace h37:=Option.some.inj h37
 subst h37
 refine WPU.drawE Try.tb_ok [] (by kernel_rfl) ?_
 refine RD.q (u:=.agg [.isl false (List.map cGNode r13.1.Nodes)]) rfl (q0g und25 rfl (q02 inf25) rfl rfl rfl) (RD.q (u:=.agg [.isl false (List.map cGNode r15.1.Nodes)]) rfl (q0g und25 rfl (q02 inf25) rfl rfl rfl) (RD.free (u:=.bool r23) (args:=[.agg [.isl false (List.map cGNode r13.1.Nodes)],.agg [.isl false (List.map cGNode r15.1.Nodes)]]) rfl (q01 rfl rfl fn26 hb26 rfl rfl) (fun s=>q3c n (GFS.mk r13.1.Nodes) (GFS.mk r15.1.Nodes) r23 h24 s) rfl rfl (RD.q (u:=.agg [.isl false (List.map cGNode p1.Nodes)]) rfl (q0g und25 rfl (q02 inf25) rfl rfl rfl) (RD.q (u:=.agg [.isl false (List.map cGNode p2.Nodes)]) rfl (q0g und25 rfl (q02 inf25) rfl rfl rfl) (RD.free (u:=.bool r25) (args:=[.agg [.isl false (List.map cGNode p1.Nodes)],.agg [.isl false (List.map cGNode p2.Nodes)]]) rfl (q01 rfl rfl fn28 hb28 rfl rfl) (fun s=>q2e n p1 p2 r25 h26 s) rfl rfl ?_)))))
 refine RD.q (u:=.bool (r23 == r25)) rfl (op_bin rfl rfl (by simp only [g2,toV,binX,guardX,eqv,cond_true,ofV,und4])) ?_
 refine RD.mv rfl rfl rfl rfl (RD.look (u:=.agg [.isl false (List.map cGNode p1.Nodes)]) (want1 rfl rfl rfl h27) (q0g und25 rfl (q02 inf25) rfl rfl rfl) rfl rfl (RD.look (u:=.agg [.isl false (List.map cGNode r13.1.Nodes)]) (want1 rfl rfl rfl h27) (q0g und25 rfl (q02 inf25) rfl rfl rfl) rfl rfl (RD.free (u:=.bool r28) (args:=[.agg [.isl false (List.map cGNode p1.Nodes)],.agg [.isl false (List.map cGNode r13.1.Nodes)]]) (want1 rfl rfl rfl h27) (q01 rfl rfl fn28 hb28 rfl rfl) (fun s=>q2e n p1 (GFS.mk r13.1.Nodes) r28 h29 s) rfl rfl (RD.q (u:=.bool r28) rfl (q0l rfl h27 rfl) (RD.mv rfl rfl rfl rfl (RD.look (u:=.agg [.isl false (List.map cGNode p2.Nodes)]) (want1 rfl rfl rfl h30) (q0g und25 rfl (q02 inf25) rfl rfl rfl) rfl rfl (RD.look (u:=.agg [.isl false (List.map cGNode r15.1.Nodes)]) (want1 rfl rfl rfl h30) (q0g und25 rfl (q02 inf25) rfl rfl rfl) rfl rfl ?_)))))))
 refine RD.free (u:=.bool r31) (args:=[.agg [.isl false (List.map cGNode p2.Nodes)],.agg [.isl false (List.map cGNode r15.1.Nodes)]]) (want1 rfl rfl rfl h30) (q01 rfl rfl fn28 hb28 rfl rfl) (fun s=>q2e n p2 (GFS.mk r15.1.Nodes) r31 h32 s) rfl rfl (RD.q (u:=.bool r31) rfl (q0l rfl h30 rfl) (RD.mv rfl rfl rfl rfl (RD.free (u:=.bool r34) (args:=[]) (want1 rfl rfl rfl h33) (q01 rfl rfl fn16 hb16 rfl rfl) (fun s=>q3n n  r34 h35 s) rfl rfl (RD.q (u:=.bool r34) rfl (q0l rfl h33 rfl) (RD.as rfl rfl rfl rfl ?_)))))
 refine RD.done ⟨by kernel_rfl,trivial,?_⟩
 refine st ?_
 exact ⟨_,_,⟨rfl,rfl⟩,(Nat.zero_le _),Gh.toC (n1:=4) ⟨rfl,trivial⟩ rfl (Nat.zero_le _) (by simp)⟩
 replace h37:=q0h h33 h37
 replace h37:=Option.some.inj h37
 subst h37
 refine WPU.drawE Try.tb_ok [] (by kernel_rfl) ?_
 refine RD.q (u:=.agg [.isl false (List.map cGNode r13.1.Nodes)]) rfl (q0g und25 rfl (q02 inf25) rfl rfl rfl) (RD.q (u:=.agg [.isl false (List.map cGNode r15.1.Nodes)]) rfl (q0g und25 rfl (q02 inf25) rfl rfl rfl) (RD.free (u:=.bool r23) (args:=[.agg [.isl false (List.map cGNode r13.1.Nodes)],.agg [.isl false (List.map cGNode r15.1.Nodes)]]) rfl (q01 rfl rfl fn26 hb26 rfl rfl) (fun s=>q3c n (GFS.mk r13.1.Nodes) (GFS.mk r15.1.Nodes) r23 h24 s) rfl rfl (RD.q (u:=.agg [.isl false (List.map cGNode p1.Nodes)]) rfl (q0g und25 rfl (q02 inf25) rfl rfl rfl) (RD.q (u:=.agg [.isl false (List.map cGNode p2.Nodes)]) rfl (q0g und25 rfl (q02 inf25) rfl rfl rfl) (RD.free (u:=.bool r25) (args:=[.agg [.isl false (List.map cGNode p1.Nodes)],.agg [.isl false (List.map cGNode p2.Nodes)]]) rfl (q01 rfl rfl fn28 hb28 rfl rfl) (fun s=>q2e n p1 p2 r25 h26 s) rfl rfl ?_)))))
 refine RD.q (u:=.bool (r23 == r25)) rfl (op_bin rfl rfl (by simp only [g2,toV,binX,guardX,eqv,cond_true,ofV,und4])) ?_
 refine RD.mv rfl rfl rfl rfl (RD.look (u:=.agg [.isl false (List.map cGNode p1.Nodes)]) (want1 rfl rfl rfl h27) (q0g und25 rfl (q02 inf25) rfl rfl rfl) rfl rfl (RD.look (u:=.agg [.isl false (List.map cGNode r13.1.Nodes)]) (want1 rfl rfl rfl h27) (q0g und25 rfl (q02 inf25) rfl rfl rfl) rfl rfl (RD.free (u:=.bool r28) (args:=[.agg [.isl false (List.map cGNode p1.Nodes)],.agg [.isl false (List.map cGNode r13.1.Nodes)]]) (want1 rfl rfl rfl h27) (q01 rfl rfl fn28 hb28 rfl rfl) (fun s=>q2e n p1 (GFS.mk r13.1.Nodes) r28 h29 s) rfl rfl (RD.q (u:=.bool r28) rfl (q0l rfl h27 rfl) (RD.mv rfl rfl rfl rfl (RD.look (u:=.agg [.isl false (List.map cGNode p2.Nodes)]) (want1 rfl rfl rfl h30) (q0g und25 rfl (q02 inf25) rfl rfl rfl) rfl rfl (RD.look (u:=.agg [.isl false (List.map cGNode r15.1.Nodes)]) (want1 rfl rfl rfl h30) (q0g und25 rfl (q02 inf25) rfl rfl rfl) rfl rfl ?_)))))))
 refine RD.free (u:=.bool r31) (args:=[.agg [.isl false (List.map cGNode p2.Nodes)],.agg [.isl false (List.map cGNode r15.1.Nodes)]]) (want1 rfl rfl rfl h30) (q01 rfl rfl fn28 hb28 rfl rfl) (fun s=>q2e n p2 (GFS.mk r15.1.Nodes) r31 h32 s) rfl rfl (RD.q (u:=.bool r31) rfl (q0l rfl h30 rfl) (RD.mv rfl rfl rfl rfl (RD.no (want0 rfl rfl rfl h33) rfl rfl (RD.q (u:=.bool false) rfl (q0k rfl h33 rfl) (RD.as rfl rfl rfl rfl ?_)))))
 refine RD.done ⟨by kernel_rfl,trivial,?_⟩
 refine st ?_
 exact ⟨_,_,⟨rfl,rfl⟩,(Nat.zero_le _),Gh.toC (n1:=4) ⟨rfl,trivial⟩ rfl (Nat.zero_le _) (by simp)⟩
 replace h37:=q0h h30 h37
 replace h37:=Option.some.inj h37
 subst h37
 refine WPU.drawE Try.tb_ok [] (by kernel_rfl) ?_
 refine RD.q (u:=.agg [.isl false (List.map cGNode r13.1.Nodes)]) rfl (q0g und25 rfl (q02 inf25) rfl rfl rfl) (RD.q (u:=.agg [.isl false (List.map cGNode r15.1.Nodes)]) rfl (q0g und25 rfl (q02 inf25) rfl rfl rfl) (RD.free (u:=.bool r23) (args:=[.agg [.isl false (List.map cGNode r13.1.Nodes)],.agg [.isl false (List.map cGNode r15.1.Nodes)]]) rfl (q01 rfl rfl fn26 hb26 rfl rfl) (fun s=>q3c n (GFS.mk r13.1.Nodes) (GFS.mk r15.1.Nodes) r23 h24 s) rfl rfl (RD.q (u:=.agg [.isl false (List.map cGNode p1.Nodes)]) rfl (q0g und25 rfl (q02 inf25) rfl rfl rfl) (RD.q (u:=.agg [.isl false (List.map cGNode p2.Nodes)]) rfl (q0g und25 rfl (q02 inf25) rfl rfl rfl) (RD.free (u:=.bool r25) (args:=[.agg [.isl false (List.map cGNode p1.Nodes)],.agg [.isl false (List.map cGNode p2.Nodes)]]) rfl (q01 rfl rfl fn28 hb28 rfl rfl) (fun s=>q2e n p1 p2 r25 h26 s) rfl rfl ?_)))))
 refine RD.q (u:=.bool (r23 == r25)) rfl (op_bin rfl rfl (by simp only [g2,toV,binX,guardX,eqv,cond_true,ofV,und4])) ?_
 refine RD.mv rfl rfl rfl rfl (RD.look (u:=.agg [.isl false (List.map cGNode p1.Nodes)]) (want1 rfl rfl rfl h27) (q0g und25 rfl (q02 inf25) rfl rfl rfl) rfl rfl (RD.look (u:=.agg [.isl false (List.map cGNode r13.1.Nodes)]) (want1 rfl rfl rfl h27) (q0g und25 rfl (q02 inf25) rfl rfl rfl) rfl rfl (RD.free (u:=.bool r28) (args:=[.agg [.isl false (List.map cGNode p1.Nodes)],.agg [.isl false (List.map cGNode r13.1.Nodes)]]) (want1 rfl rfl rfl h27) (q01 rfl rfl fn28 hb28 rfl rfl) (fun s=>q2e n p1 (GFS.mk r13.1.Nodes) r28 h29 s) rfl rfl (RD.q (u:=.bool r28) rfl (q0l rfl h27 rfl) (RD.mv rfl rfl rfl rfl ?_)))))
 repeat refine RD.no (want0 rfl rfl rfl h30) rfl rfl ?_
 refine RD.q (u:=.bool false) rfl (q0k rfl h30 rfl) (RD.mv rfl rfl rfl rfl (RD.no (want0 rfl rfl rfl rfl) rfl rfl (RD.q (u:=.bool false) rfl (q0k rfl rfl rfl) (RD.as rfl rfl rfl rfl ?_))))
 refine RD.done ⟨by kernel_rfl,trivial,?_⟩
 refine st ?_
 exact ⟨_,_,⟨rfl,rfl⟩,(Nat.zero_le _),Gh.toC (n1:=4) ⟨rfl,trivial⟩ rfl (Nat.zero_le _) (by simp)⟩
 replace h37:=q0h h27 h37
 replace h37:=Option.some.inj h37
 subst h37
 refine WPU.drawE Try.tb_ok [] (by kernel_rfl) ?_
 refine RD.q (u:=.agg [.isl false (List.map cGNode r13.1.Nodes)]) rfl (q0g und25 rfl (q02 inf25) rfl rfl rfl) (RD.q (u:=.agg [.isl false (List.map cGNode r15.1.Nodes)]) rfl (q0g und25 rfl (q02 inf25) rfl rfl rfl) (RD.free (u:=.bool r23) (args:=[.agg [.isl false (List.map cGNode r13.1.Nodes)],.agg [.isl false (List.map cGNode r15.1.Nodes)]]) rfl (q01 rfl rfl fn26 hb26 rfl rfl) (fun s=>q3c n (GFS.mk r13.1.Nodes) (GFS.mk r15.1.Nodes) r23 h24 s) rfl rfl (RD.q (u:=.agg [.isl false (List.map cGNode p1.Nodes)]) rfl (q0g und25 rfl (q02 inf25) rfl rfl rfl) (RD.q (u:=.agg [.isl false (List.map cGNode p2.Nodes)]) rfl (q0g und25 rfl (q02 inf25) rfl rfl rfl) (RD.free (u:=.bool r25) (args:=[.agg [.isl false (List.map cGNode p1.Nodes)],.agg [.isl false (List.map cGNode p2.Nodes)]]) rfl (q01 rfl rfl fn28 hb28 rfl rfl) (fun s=>q2e n p1 p2 r25 h26 s) rfl rfl ?_)))))
 refine RD.q (u:=.bool (r23 == r25)) rfl (op_bin rfl rfl (by simp only [g2,toV,binX,guardX,eqv,cond_true,ofV,und4])) ?_
 refine RD.mv rfl rfl rfl rfl ?_
 repeat refine RD.no (want0 rfl rfl rfl h27) rfl rfl ?_
 refine RD.q (u:=.bool false) rfl (q0k rfl h27 rfl) (RD.mv rfl rfl rfl rfl ?_)
 repeat refine RD.no (want0 rfl rfl rfl rfl) rfl rfl ?_
 refine RD.q (u:=.bool false) rfl (q0k rfl rfl rfl) (RD.mv rfl rfl rfl rfl (RD.no (want0 rfl rfl rfl rfl) rfl rfl (RD.q (u:=.bool false) rfl (q0k rfl rfl rfl) (RD.as rfl rfl rfl rfl ?_))))
 refine RD.done ⟨by kernel_rfl,trivial,?_⟩
 refine st ?_
 exact ⟨_,_,⟨rfl,rfl⟩,(Nat.zero_le _),Gh.toC (n1:=4) ⟨rfl,trivial⟩ rfl (Nat.zero_le _) (by simp)⟩
 rcases q2m (r13.2 != 0) with h17 | h17
 replace h19:=q0i h17 h19
 replace h19:=Option.some.inj h19
 subst h19
 refine sr ?_
 refine RS.q rfl (q06 rfl rfl (q3m _ _ _) rfl) (RS.mv rfl rfl rfl rfl ?_)
 repeat refine RS.no (want0 rfl rfl rfl h17) rfl rfl ?_
 refine RS.q (u:=.bool true) rfl (q0l rfl h17 rfl) ?_
 refine sd ?_
 exact ⟨_,_,⟨rfl,rfl⟩,(Nat.zero_le _),Gh.toC (n1:=4) ⟨rfl,rfl,rfl,rfl,rfl,trivial⟩ rfl (Nat.zero_le _) (by simp)⟩
 replace h19:=q0h h17 h19
 replace h19:=Option.some.inj h19
 subst h19
 refine sr ?_
 refine RS.q rfl (q06 rfl rfl (q3m _ _ _) rfl) (RS.mv rfl rfl rfl rfl (RS.op (want1 rfl rfl rfl h17) (q33 rfl) rfl rfl (RS.op (want1 rfl rfl rfl h17) (q06 rfl rfl (q3m _ _ _) rfl) rfl rfl (RS.q (u:=.bool (r15.2 != 0)) rfl (q0k rfl h17 rfl) ?_))))
 refine sd ?_
 exact ⟨_,_,⟨rfl,rfl⟩,(Nat.zero_le _),Gh.toC (n1:=4) ⟨rfl,rfl,rfl,rfl,rfl,trivial⟩ rfl (Nat.zero_le _) (by simp)⟩
 obtain ⟨r3,h4,h9⟩:=q00 h9
 rcases q2m (!r3) with h5 | h5
 replace h9:=q0i h5 h9
 replace h9:=Option.some.inj h9
 subst h9
 refine sr ?_
 refine RS.q (u:=.agg [.isl false (List.map cGNode p1.Nodes)]) rfl (q0g und25 rfl (q02 inf25) rfl rfl rfl) (RS.call (u:=.bool r3) (args:=[.agg [.isl false (List.map cGNode p1.Nodes)]]) rfl (q01 rfl rfl fn17 hb17 rfl rfl) (q6b n p1 r3 h4 _) rfl rfl (RS.q (u:=.bool (!r3)) rfl (q7b rfl rfl rfl rfl) (RS.mv rfl rfl rfl rfl ?_)))
 repeat refine RS.no (want0 rfl rfl rfl h5) rfl rfl ?_
 refine RS.q (u:=.bool true) rfl (q0l rfl h5 rfl) ?_
 refine sd ?_
 exact ⟨_,_,⟨rfl,rfl⟩,(Nat.zero_le _),Gh.toC (n1:=2) ⟨rfl,rfl,rfl,trivial⟩ rfl (Nat.zero_le _) (by simp)⟩
 replace h9:=q0h h5 h9
 obtain ⟨r6,h7,h9⟩:=q00 h9
 replace h9:=Option.some.inj h9
 subst h9
 refine sr ?_
 refine RS.q (u:=.agg [.isl false (List.map cGNode p1.Nodes)]) rfl (q0g und25 rfl (q02 inf25) rfl rfl rfl) (RS.call (u:=.bool r3) (args:=[.agg [.isl false (List.map cGNode p1.Nodes)]]) rfl (q01 rfl rfl fn17 hb17 rfl rfl) (q6b n p1 r3 h4 _) rfl rfl (RS.q (u:=.bool (!r3)) rfl (q7b rfl rfl rfl rfl) (RS.mv rfl rfl rfl rfl (RS.op (u:=.agg [.isl false (List.map cGNode p2.Nodes)]) (want1 rfl rfl rfl h5) (q0g und25 rfl (q02 inf25) rfl rfl rfl) rfl rfl (RS.call (u:=.bool r6) (args:=[.agg [.isl false (List.map cGNode p2.Nodes)]]) (want1 rfl rfl rfl h5) (q01 rfl rfl fn17 hb17 rfl rfl) (q6b n p2 r6 h7 _) rfl rfl (RS.op (u:=.bool (!r6)) (want1 rfl rfl rfl h5) (q7b rfl rfl rfl rfl) rfl rfl (RS.q (u:=.bool (!r6)) rfl (q0k rfl h5 rfl) ?_)))))))
 refine sd ?_
 exact ⟨_,_,⟨rfl,rfl⟩,(Nat.zero_le _),Gh.toC (n1:=2) ⟨rfl,rfl,rfl,trivial⟩ rfl (Nat.zero_le _) (by simp)⟩
end Go.Proofs
end
section
namespace Go.Proofs
open Go Go.Rx Go.Vx Go.Shelf Go.Sort
set_option linter.unusedVariables false
theorem q0s {α β:Type} (a:α) (k:α→Option β):bindO (some a) k=k a:=rfl
theorem wr {z:Int} (h1 : -9223372036854775808≤z) (h2:z≤9223372036854775807):IntKind.i64.wrap z=z:=qad (by omega) (by omega)
theorem wr1 {i len:Nat} (h:i<len) (hl:len≤9223372036854775807):IntKind.i64.wrap ((i:Int)+1)=((i+1:Nat):Int):=by rw [wr (by omega) (by omega)]; simp
theorem wrn {z:Int} {k:Nat} (h:z=k) (h2:k≤9223372036854775807):IntKind.i64.wrap z=(k:Int):=by subst h; exact wr (by omega) (by omega)
theorem q5l {α:Type} {l:List α} {i:Nat} (h:i<l.length):∃ x,l[i]? = some x∧x∈l:=⟨l[i],by simp [h],by simp⟩
theorem q7h {α:Type} {l:List α} {i:Nat} {x:α} (h:l[i]? = some x):l.take (i+1)=l.take i++[x]:=by rw [List.take_add_one,h]; rfl
theorem drop_cons' {α:Type} {l:List α} {i:Nat} {x:α} (h:l[i]? = some x):l.drop i=x::l.drop (i+1):=by
 have hlt:i<l.length:=(List.getElem?_eq_some_iff.1 h).1
 rw [List.drop_eq_getElem_cons hlt]
 congr 1
 rw [List.getElem?_eq_getElem hlt] at h
 exact Option.some.inj h
theorem dlt {i n:Nat} (h:i<n):decide ((i:Int)<(n:Int))=true:=by simp; omega
theorem dnlt {i n:Nat} (h:¬ i<n):decide ((i:Int)<(n:Int))=false:=by simp; omega
theorem drop_nil' {α:Type} {l:List α} {i:Nat} (h:¬ i<l.length):l.drop i=[]:=List.drop_eq_nil_of_le (by omega)
structure Cmp {α:Type} (c:α→α→Int):Prop where
 val:∀ x y,c x y = -1∨c x y=0∨c x y=1
 anti:∀ x y,c y x = - c x y
 trans:∀ x y z,c x y≤0→c y z≤0→c x z≤0
theorem Cmp.self {α:Type} {c:α→α→Int} (h:Cmp c) (x:α):c x x=0:=by have:=h.anti x x; omega
theorem Cmp.congr {α:Type} {c:α→α→Int} (h:Cmp c) {x y:α} (hxy:c x y=0) (z:α):c x z=c y z:=by
 have h1:=h.val x z
 have h2:=h.val y z
 have a1:=h.anti x y
 have a2:=h.anti x z
 have a3:=h.anti y z
 have t1:=h.trans x y z
 have t2:=h.trans y x z
 have t3:=h.trans z x y
 have t4:=h.trans z y x
 omega
theorem Cmp.congr' {α:Type} {c:α→α→Int} (h:Cmp c) {x y:α} (hxy:c x y=0) (z:α):c z x=c z y:=by
 have h1:=h.congr hxy z
 have a2:=h.anti x z
 have a3:=h.anti y z
 omega
theorem Cmp.lt_of {α:Type} {c:α→α→Int} (h:Cmp c) {x y z:α} (h1:c x y<0) (h2:c y z≤0):c x z<0:=by
 have t1:=h.trans x y z (by omega) h2
 rcases Int.lt_or_eq_of_le t1 with h3 | h3
 ·exact h3
 ·have:=h.congr h3 y
  have a3:=h.anti y z
  omega
def lexC {α:Type} (c d:α→α→Int) (x y:α):Int:=if c x y≠0 then c x y else d x y
theorem Cmp.lex {α:Type} {c d:α→α→Int} (hc:Cmp c) (hd:Cmp d):Cmp (lexC c d) where
 val x y:=by unfold lexC; split; exact hc.val x y; exact hd.val x y
 anti x y:=by
  unfold lexC
  have a1:=hc.anti x y
  have a2:=hd.anti x y
  by_cases h:c x y=0
  ·have:c y x=0:=by omega
   simp [h,this,a2]
  ·have:¬ c y x=0:=by omega
   simp [h,this,a1]
 trans x y z h1 h2:=by
  unfold lexC at *
  by_cases h:c x y=0
  ·have e:=hc.congr h z
   simp only [h,ne_eq,not_true,if_false] at h1
   rw [e]
   by_cases h':c y z=0
   ·simp only [h',ne_eq,not_true,if_false] at h2 ⊢
    exact hd.trans x y z h1 h2
   ·simp only [h',ne_eq,not_false_eq_true,if_true] at h2 ⊢
    exact h2
  ·simp only [h,ne_eq,not_false_eq_true,if_true] at h1
   have h1':c x y<0:=by omega
   by_cases h':c y z=0
   ·have e:=hc.congr' h' x
    rw [← e]
    simp only [h,ne_eq,not_false_eq_true,if_true]
    exact h1
   ·simp only [h',ne_eq,not_false_eq_true,if_true] at h2
    have:=hc.lt_of h1' h2
    have hne:¬ c x z=0:=by omega
    simp only [hne,ne_eq,not_false_eq_true,if_true]
    omega
theorem qaz {α:Type} {c d:α→α→Int} {x y:α}:lexC c d x y=0↔c x y=0∧d x y=0:=by
 unfold lexC
 by_cases h:c x y=0<;>simp [h]
theorem Cmp.pull {α β:Type} {c:α→α→Int} (h:Cmp c) (f:β→α):Cmp (fun x y=>c (f x) (f y)):=⟨fun x y=>h.val _ _,fun x y=>h.anti _ _,fun x y z=>h.trans _ _ _⟩
def cmpI (a b:Int):Int:=if a<b then -1 else if b<a then 1 else 0
theorem q8d {a b : Int} : cmpI a b = 0 ↔ a = b := by unfold cmpI; split; · omega
                                                     split <;> omega
theorem q9a : Cmp cmpI where
  val x y := by unfold cmpI; split; · simp
                split <;> simp
  anti x y := by unfold cmpI; split <;> split <;> (try split) <;> omega
  trans x y z := by
    unfold cmpI
    intro h1 h2
    split at h1 <;> split at h2 <;> (try split at h1) <;> (try split at h2) <;> (try split) <;> (try split) <;> omega
theorem ltOf_iff {α:Type} (c:α→α→Int) (x y:α):ltOf c x y=true↔c x y<0:=by simp [ltOf]
theorem Cmp.swo {α:Type} {c:α→α→Int} (h:Cmp c):SWO (ltOf c) where
 irrefl x:=by have:=h.self x; simp [ltOf,this]
 trans x y z h1 h2:=by rw [ltOf_iff] at *; exact h.lt_of h1 (by omega)
 ntrans x y z h1 h2:=by
  have e:∀ a b,ltOf c a b=false↔c b a≤0:=fun a b=>by have:=h.anti a b; simp [ltOf]; omega
  rw [e] at *
  exact h.trans z y x h2 h1
section
variable {α:Type} {c:α→α→Int}
theorem srt_le (hc:Cmp c) (l:List α):(srt (ltOf c) l).Pairwise (fun x y=>c x y≤0):=by
 have:=srt_asc hc.swo l
 refine List.Pairwise.imp ?_ this
 intro x y h
 have:=hc.anti x y
 simp [ltOf] at h
 omega
end
end Go.Proofs
end
