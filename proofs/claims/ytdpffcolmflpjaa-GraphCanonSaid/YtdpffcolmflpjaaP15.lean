/-
  Texts of the walk: H4.
-/
import Derived.Test.YtdpffcolmflpjaaP14
section
namespace Go.Proofs
open Go Go.Rx Go.Vx Try
set_option maxRecDepth 10000
set_option linter.unusedSimpArgs false
set_option linter.unusedVariables false
structure GNode where
 Typex:Int
 Arcs:List GArc
def cGNode (x:GNode):List U:=[.int .i64 x.Typex,.isl false (List.map cGArc x.Arcs)]
theorem q6d (n:Nat) (x:GNode):BelL n (cGNode x):=by
 simp only [cGNode,BelL,Bel,true_and,and_true]
 exact belR_map _ (fun q=>q72 _ q) _
theorem q1h (x:GNode):(cGNode x).length=2:=rfl
instance:BF cGNode:=⟨q6d⟩
instance (n:Nat) (x:GNode):BUL n (cGNode x):=⟨q6d n x⟩
theorem q29 (K:Nat) (b:B) (sz:Nat) (x:GNode):fzL K b sz (cGNode x)=cGNode x:=q3k _ _ _ (q6d K x)
structure GFS where
 Nodes:List GNode
def cGFS (x:GFS):List U:=[.isl false (List.map cGNode x.Nodes)]
theorem Try.bd25:BdT Try.tb 25 [.nils] [(0,1)]:=bdT und25 inf25 rfl (by kernel_rfl)
theorem Try.bd43:BdT Try.tb 43 [.int .i64 0,.nils] [(0,1),(1,1)]:=bdT und43 inf43 rfl (by kernel_rfl)
theorem Try.bd45:BdT Try.tb 45 [.int .i64 0,.int .i64 0] [(0,1),(1,1)]:=bdT und45 inf45 rfl (by kernel_rfl)
def q28 (z7:Int) (l8:List GArc) (rc2:Int→(List GArc)→Option ((List GArc))) (x13:GArc)  : Option ((List GArc)) :=
 rc2 (IntKind.i64.wrap (z7+1)) (l8++[x13])
def q27  (l10:List GArc):Option ((List GArc)) :=
 some l10
def q11 (p1:List GArc):Nat→Int→(List GArc)→Option ((List GArc))
 | 0,_,_=>none
 | m2+1,z7,l8 =>
  cond (decide (z7<(p1.length:Int)))
   (bindO (idxO p1 z7) fun x13 =>
   needO ((l8.length+1)*16≤140737488355328∧l8.length+1≤140737488355328) (
   q28 z7 l8 (q11 p1 m2) x13))
   (q27 l8)
def q2l (n:Nat) (p1:List GArc):Option ((List GArc)) :=
 q11 p1 n 0 ([]:List GArc)
theorem q6c (n:Nat) (p1:List GArc) (r:(List GArc)) (hF:q2l n p1=some r):EvU Try.prog 56 [.nils,.fn (.func 55) [] [.iptr [.isl false (List.map cGArc p1)]]] ⟨[],0⟩ (fun u σ'=>∃ t:Nat→Nat,u = .vl 1 (t 0) 0 r.length∧σ'=⟨[(1,.vec (List.map cGArc r).flatten 45 2 (t 0))],2⟩):=by
 unfold q2l at hF
 refine EvU.of_bodyM Try.tb_ok fn56 rfl ?_
 refine WPU.ghost (tm':=fr 13 [(0,.nils),(1,.fn (.func 55) [] [.iptr [.isl false (List.map cGArc p1)]])]) (Gh.start (Nat.le_of_ble_eq_true rfl)) (Nat.le_refl _) ?_
 refine sr ?_
 refine RS.q (u:=.ptr 0 0 0) (σ':=⟨[(0,.row [.nils] 41)],1⟩) rfl (q2x rfl rfl rfl) ?_
 refine se ?_
 refine sd ?_
 refine WPU.block ?_
 refine st ?_
 refine WPU.ghost (tm':=fr 13 [(2,.ptr 0 0 0),(6,.fn (.func 55) [] [.iptr [.isl false (List.map cGArc p1)]])]) (Gh.sub ⟨rfl,rfl,trivial⟩) (Nat.le_of_ble_eq_true rfl) ?_
 refine WPU.range Try.tb_ok rfl (fun _ h=>h) (q2b rfl) fn55 rfl rfl ?_
 intro ly1 fn1 tp1 D1
 refine WPU.ghost (tm':=fr 16 [(0,.fn (.yield ly1) [] []),(1,.iptr [.isl false (List.map cGArc p1)])]) (Gh.start (Nat.le_of_ble_eq_true rfl)) (Nat.le_refl _) ?_
 refine sr ?_
 refine RS.q (u:=.isl false (List.map cGArc p1)) rfl (q43 und41 rfl rfl rfl) (RS.q rfl (q1d rfl rfl rfl (q14 cGArc und41)) (RS.mv rfl rfl rfl rfl ?_))
 refine sd ?_
 refine WPU.ghost (tm':=fr 16 [(0,.fn (.yield ly1) [] []),(5,.isl false (List.map cGArc p1)),(6,.int .i64 (p1.length:Int)),(7,.int .i64 0)]) (σ':=⟨[(1,.vec (List.map cGArc ([]:List GArc)).flatten 45 2 0),(0,.row [.vl 1 0 0 (([]:List GArc).length)] 41)],2⟩) (Gh.trans (Gh.nilC 0 0 45 2 (by decide) (Nat.le_of_ble_eq_true rfl) rfl rfl) (Gh.eqS ⟨rfl,rfl,rfl,rfl,trivial⟩ rfl)) (Nat.le_of_ble_eq_true rfl) ?_
 refine WPU.ghost (tm':=fr 16 [(0,.fn (.yield ly1) [] []),(5,.isl false (List.map cGArc p1)),(6,.int .i64 (p1.length:Int)),(7,.int .i64 0)]) (Gh.sub ⟨rfl,rfl,rfl,rfl,trivial⟩) (Nat.le_of_ble_eq_true rfl) ?_
 refine WPU.loopK (fun m tm σ=>∃ z7:Int,∃ l8:List GArc,∃ t9:Nat,q11 p1 m z7 l8=some r∧tm=fr 16 [(0,.fn (.yield ly1) [] []),(5,.isl false (List.map cGArc p1)),(6,.int .i64 (p1.length:Int)),(7,.int .i64 z7)]∧σ=⟨[(1,.vec (List.map cGArc l8).flatten 45 2 t9),(0,.row [.vl 1 t9 0 l8.length] 41)],2⟩) (fun tm σ=>∃ l10:List GArc,∃ t11:Nat,q27 l10=some r∧tm=fr 16 []∧σ=⟨[(1,.vec (List.map cGArc l10).flatten 45 2 t11),(0,.row [.vl 1 t11 0 l10.length] 41)],2⟩) n ⟨0,([]:List GArc),0,hF,rfl,rfl⟩ ?_ ?_
 rintro _ _ ⟨l10,t11,hF,rfl,rfl⟩
 unfold q27 at hF
 refine st ?_
 refine ⟨.inl rfl,?_⟩
 refine sr ?_
 refine RS.q (u:=.vl 1 t11 0 l10.length) rfl (q05 und41 rfl rfl rfl rfl) ?_
 refine sd ?_
 refine WPU.ret ?_
 refine st ?_
 have hr:=Option.some.inj hF
 subst hr
 exact ⟨.inr rfl,[.vl 1 t11 0 l10.length],q1w rfl (q1o),.vl 1 t11 0 l10.length,⟨[(1,.vec (List.map cGArc l10).flatten 45 2 t11)],2⟩,(Nat.le_of_ble_eq_true rfl),Gh.trans (Gh.only (fun k=>hasN [1] k)) (Gh.to (n1:=2) [] rfl rfl (Nat.le_of_ble_eq_true rfl) (Nat.le_of_ble_eq_true rfl) BUL.h BH.h),stF [t11],rfl,rfl⟩
 rintro m2 _ _ ⟨z7,l8,t9,hF,rfl,rfl⟩
 rcases m2 with _ | m2
 cases hF
 unfold q11 at hF
 refine sr ?_
 refine RS.q rfl (q06 rfl rfl (q2c _ _ _) rfl) ?_
 refine sd ?_
 refine WPU.condS (t:=(decide (z7<(p1.length:Int)))) rfl (fun h12=>?_) (fun h12=>?_)
 replace hF:=q0i h12 hF
 refine st ?_
 refine WPU.skip ?_
 refine st ?_
 refine WPU.block ?_
 refine st ?_
 obtain ⟨x13,h14,hF⟩:=q00 hF
 refine sr ?_
 refine RS.q (u:=.iptr (cGArc x13)) rfl (q1x rfl rfl (q2q cGArc und41 (q02 inf45) q1q h14 rfl)) (RS.q (u:=.agg (cGArc x13)) rfl (q7y und45 rfl (q02 inf45) rfl rfl) (RS.q (u:=.ptr 2 0 0) (σ':=⟨[(2,.row [.int .i64 0,.int .i64 0] 45),(1,.vec (List.map cGArc l8).flatten 45 2 t9),(0,.row [.vl 1 t9 0 l8.length] 41)],3⟩) rfl (q1b inf45 rfl rfl) (RS.opn (u:=.junk) (σ':=⟨[(2,.row (cGArc x13) 45),(1,.vec (List.map cGArc l8).flatten 45 2 t9),(0,.row [.vl 1 t9 0 l8.length] 41)],3⟩) rfl (q0y (q02 inf45) rfl rfl rfl rfl rfl rfl rfl rfl) rfl ?_)))
 refine se ?_
 refine RS.q (u:=.agg (cGArc x13)) rfl (q0g und45 rfl (q02 inf45) rfl rfl rfl) (RS.yield (tmx:=fr 13 [(2,.ptr 0 0 0),(6,.fn (.func 55) [] [.iptr [.isl false (List.map cGArc p1)]]),(7,.agg (cGArc x13))]) rfl rfl rfl rfl rfl rfl rfl rfl (setP1 rfl) rfl rfl ?_)
 refine sr ?_
 refine RS.q (u:=.ptr 3 0 0) (σ':=⟨[(3,.row [.int .i64 0,.int .i64 0] 45),(2,.row (cGArc x13) 45),(1,.vec (List.map cGArc l8).flatten 45 2 t9),(0,.row [.vl 1 t9 0 l8.length] 41)],4⟩) rfl (q1b inf45 rfl rfl) (RS.opn (u:=.junk) (σ':=⟨[(3,.row (cGArc x13) 45),(2,.row (cGArc x13) 45),(1,.vec (List.map cGArc l8).flatten 45 2 t9),(0,.row [.vl 1 t9 0 l8.length] 41)],4⟩) rfl (q0y (q02 inf45) rfl rfl rfl rfl rfl rfl rfl rfl) rfl ?_)
 refine sd ?_
 refine WPU.joinK (fun tm σ=>q28 z7 l8 (q11 p1 m2) x13=some r∧tm=fr 13 []∧σ=⟨[(2,.row (cGArc x13) 45),(1,.vec (List.map cGArc (l8++[x13])).flatten 45 2 (t9+1)),(0,.row [.vl 1 (t9+1) 0 ((l8++[x13]).length)] 41)],3⟩) ?_ ?_
 rintro _ _ ⟨hF,rfl,rfl⟩
 unfold q28 at hF
 refine ⟨rfl,?_⟩
 refine RS.q (u:=.bool false) rfl (q7b rfl rfl rfl rfl) ?_
 refine sd ?_
 refine WPU.condS (t:=false) rfl (fun hc=>by cases hc) (fun _=>?_)
 refine st ?_
 refine WPU.skip ?_
 refine sr ?_
 refine RS.q rfl (q06 rfl rfl (q3l _ _ _) rfl) (RS.mv rfl rfl rfl rfl ?_)
 refine sd ?_
 exact ⟨m2,_,_,Nat.lt_succ_self _,⟨(IntKind.i64.wrap (z7+1)),(l8++[x13]),(t9+1),hF,rfl,rfl⟩,(Nat.le_of_ble_eq_true rfl),Gh.toC (n1:=2) ⟨rfl,rfl,rfl,rfl,trivial⟩ rfl (Nat.le_of_ble_eq_true rfl) (by simp)⟩
 refine st ?_
 refine WPU.block ?_
 refine st ?_
 obtain ⟨h15,hF⟩:=q32 hF
 refine sr ?_
 refine RS.q (u:=.vl 1 t9 0 l8.length) rfl (q05 und41 rfl rfl rfl rfl) (RS.q (u:=.agg (cGArc x13)) rfl (q0g und45 rfl (q02 inf45) rfl rfl rfl) (RS.q (u:=.sl 4 0 1 1) (σ':=⟨[(4,.row (cGArc x13) 45),(3,.row (cGArc x13) 45),(2,.row (cGArc x13) 45),(1,.vec (List.map cGArc l8).flatten 45 2 t9),(0,.row [.vl 1 t9 0 l8.length] 41)],5⟩) rfl (q24 und41 inf45 rfl rfl rfl rfl rfl rfl rfl) (RS.q (u:=.vl 1 (t9+1) 0 ((l8++[x13]).length)) (σ':=⟨[(4,.row (cGArc x13) 45),(3,.row (cGArc x13) 45),(2,.row (cGArc x13) 45),(1,.vec (List.map cGArc (l8++[x13])).flatten 45 2 (t9+1)),(0,.row [.vl 1 t9 0 l8.length] 41)],5⟩) rfl (qb5 rfl rfl rfl rfl (qag cGArc ([x13]) und41 und41 inf45 rfl q1q rfl (q8a cGArc [x13] rfl rfl rfl rfl) h15)) (RS.opn (u:=.junk) (σ':=⟨[(4,.row (cGArc x13) 45),(3,.row (cGArc x13) 45),(2,.row (cGArc x13) 45),(1,.vec (List.map cGArc (l8++[x13])).flatten 45 2 (t9+1)),(0,.row [.vl 1 (t9+1) 0 ((l8++[x13]).length)] 41)],5⟩) rfl (q0y (q02 inf41) rfl rfl rfl rfl rfl rfl rfl rfl) rfl ?_))))
 refine sd ?_
 exact ⟨_,_,⟨hF,rfl,rfl⟩,(Nat.le_of_ble_eq_true rfl),Gh.toC (n1:=3) trivial rfl (Nat.le_of_ble_eq_true rfl) (by simp)⟩
 replace hF:=q0h h12 hF
 refine st ?_
 refine WPU.exit ?_
 refine st ?_
 exact ⟨_,_,⟨l8,t9,hF,rfl,rfl⟩,(Nat.le_of_ble_eq_true rfl),Gh.toC (n1:=2) trivial rfl (Nat.le_of_ble_eq_true rfl) (by simp)⟩
def q2u (n:Nat) (p1:List GArc):Option ((List GArc)) :=
 bindO (q2l n p1) fun r2 =>
 some r2
theorem q6v (n:Nat) (p1:List GArc) (r:(List GArc)) (hF:q2u n p1=some r):EvU Try.prog 53 [.fn (.func 55) [] [.iptr [.isl false (List.map cGArc p1)]]] ⟨[],0⟩ (fun u σ'=>∃ t:Nat→Nat,u = .vl 1 (t 0) 0 r.length∧σ'=⟨[(1,.vec (List.map cGArc r).flatten 45 2 (t 0))],2⟩):=by
 unfold q2u at hF
 refine EvU.of_body Try.tb_ok fn53 rfl ?_
 refine WPU.ghost (tm':=fr 5 [(0,.fn (.func 55) [] [.iptr [.isl false (List.map cGArc p1)]])]) (Gh.start (Nat.le_of_ble_eq_true rfl)) (Nat.le_refl _) ?_
 refine sr ?_
 refine sd ?_
 obtain ⟨r2,h3,hF⟩:=q00 hF
 refine sr ?_
 refine RS.callx (R:=fun u σ'=>∃ t4:Nat→Nat,u = .vl 1 (t4 0) 0 r2.length∧σ'=⟨[(1,.vec (List.map cGArc r2).flatten 45 2 (t4 0))],2⟩) (args:=[.nils,.fn (.func 55) [] [.iptr [.isl false (List.map cGArc p1)]]]) rfl (q01 rfl rfl fn56 hb56 rfl rfl) (EvU.st [] (q6c n p1 r2 h3 )) rfl rfl ?_
 rintro _ _ ⟨t4,rfl,rfl⟩
 refine sd ?_
 refine WPU.ret ?_
 refine st ?_
 have hr:=Option.some.inj hF
 subst hr
 exact ⟨.inr rfl,[.vl 1 (t4 0) 0 r2.length],q1w rfl (q1o),.vl 1 (t4 0) 0 r2.length,⟨[(1,.vec (List.map cGArc r2).flatten 45 2 (t4 0))],2⟩,(Nat.le_of_ble_eq_true rfl),Gh.trans (Gh.only (fun k=>hasN [1] k)) (Gh.to (n1:=2) [] rfl rfl (Nat.le_of_ble_eq_true rfl) (Nat.le_of_ble_eq_true rfl) BUL.h BH.h),stF [(t4 0)],rfl,rfl⟩
def q1i (n:Nat) (p1:List GArc):Option ((List GArc)) :=
 bindO (q2u n p1) fun r2 =>
 bindO (sortO eqA (fun a b=>q30 n a b ) r2) fun r6 =>
 some r6
theorem q3x (n:Nat) (p1:List GArc) (r:(List GArc)) (hF:q1i n p1=some r):EvU Try.prog 43 [.fn (.func 55) [] [.iptr [.isl false (List.map cGArc p1)]],.fn (.func 45) [] []] ⟨[],0⟩ (fun u σ'=>∃ t:Nat→Nat,u = .vl 1 (t 0) 0 r.length∧σ'=⟨[(1,.vec (List.map cGArc r).flatten 45 2 (t 0))],2⟩):=by
 unfold q1i at hF
 refine EvU.of_body Try.tb_ok fn43 rfl ?_
 refine WPU.ghost (tm':=fr 12 [(0,.fn (.func 55) [] [.iptr [.isl false (List.map cGArc p1)]]),(1,.fn (.func 45) [] [])]) (Gh.start (Nat.le_of_ble_eq_true rfl)) (Nat.le_refl _) ?_
 refine sr ?_
 refine sd ?_
 obtain ⟨r2,h3,hF⟩:=q00 hF
 refine sr ?_
 refine RS.callx (R:=fun u σ'=>∃ t4:Nat→Nat,u = .vl 1 (t4 0) 0 r2.length∧σ'=⟨[(1,.vec (List.map cGArc r2).flatten 45 2 (t4 0))],2⟩) (args:=[.fn (.func 55) [] [.iptr [.isl false (List.map cGArc p1)]]]) rfl (q01 rfl rfl fn53 hb53 rfl rfl) (EvU.st [] (q6v n p1 r2 h3 )) rfl rfl ?_
 rintro _ _ ⟨t4,rfl,rfl⟩
 refine sd ?_
 obtain ⟨r6,h5,hF⟩:=q00 hF
 refine WPU.joinK (fun tm σ=>tm=fr 12 [(5,.vl 1 (t4 0) 0 r6.length)]∧σ=⟨[(1,.vec (List.map cGArc r6).flatten 45 2 (t4 0))],2⟩) ?_ ?_
 rintro _ _ ⟨rfl,rfl⟩
 refine sr ?_
 refine sd ?_
 refine WPU.ret ?_
 refine st ?_
 have hr:=Option.some.inj hF
 subst hr
 exact ⟨.inr rfl,[.vl 1 (t4 0) 0 r6.length],q1w rfl (q1o),.vl 1 (t4 0) 0 r6.length,⟨[(1,.vec (List.map cGArc r6).flatten 45 2 (t4 0))],2⟩,(Nat.le_of_ble_eq_true rfl),Gh.trans (Gh.only (fun k=>hasN [1] k)) (Gh.to (n1:=2) [] rfl rfl (Nat.le_of_ble_eq_true rfl) (Nat.le_of_ble_eq_true rfl) BUL.h BH.h),stF [(t4 0)],rfl,rfl⟩
 refine sr ?_
 repeat refine RS.mv rfl rfl rfl rfl ?_
 refine RS.callx (args:=[.vl 1 (t4 0) 0 r2.length,.fn (.func 45) [] []]) rfl (q01 rfl rfl fn54 hb54 rfl rfl) (srtJ_ok  (fun a b r h=>q9d n a b  r h) r2 r6 h5 _ rfl rfl) rfl rfl ?_
 rintro _ _ ⟨rfl,rfl⟩
 refine sd ?_
 exact ⟨_,_,⟨rfl,rfl⟩,(Nat.zero_le _),Gh.eqS ⟨(by simp only [sortO_len h5]; rfl),trivial⟩ rfl⟩
def q25 (n:Nat) (p1:List GArc):Option ((List GArc)) :=
 some p1
theorem q4r (n:Nat) (p1:List GArc) (r:(List GArc)) (hF:q25 n p1=some r):EvU Try.prog 44 [.isl false (List.map cGArc p1)] ⟨[],0⟩ (fun u σ'=>∃ t:Nat→Nat,u = .fn (.func 55) [] [.iptr [.isl false (List.map cGArc r)]]∧σ'=⟨[],0⟩):=by
 unfold q25 at hF
 refine EvU.of_body Try.tb_ok fn44 rfl ?_
 refine WPU.ghost (tm':=fr 4 [(0,.isl false (List.map cGArc p1))]) (Gh.start (Nat.le_of_ble_eq_true rfl)) (Nat.le_refl _) ?_
 refine sr ?_
 refine RS.q (u:=.ptr 0 0 0) (σ':=⟨[(0,.row [.isl false (List.map cGArc p1)] 41)],1⟩) rfl (q2x rfl rfl rfl) ?_
 refine se ?_
 refine RS.q rfl (op_fun rfl rfl) ?_
 refine sd ?_
 refine WPU.ret ?_
 refine st ?_
 have hr:=Option.some.inj hF
 subst hr
 exact ⟨.inr rfl,[.fn (.func 55) [] [.ptr 0 0 0]],q1w rfl (q1o),.fn (.func 55) [] [.iptr [.isl false (List.map cGArc p1)]],⟨[],0⟩,(Nat.le_of_ble_eq_true rfl),Gh.trans (Gh.fz (tm':=[.fn (.func 55) [] [.iptr [.isl false (List.map cGArc p1)]]]) (h':=[]) 0 (.row [.isl false (List.map cGArc p1)] 41) 1 rfl (by simp) (by simp only [oneU,q07,q03,q0n,q09,q0q,q0d,q0c,q0b,q0a,q08,q0o,q0p,q0m,q0r,q1k,junkT,q1u,q1v,fz_iptr,Nat.reduceLeDiff,Nat.reduceMul,List.length_cons,List.length_nil,Nat.reduceAdd]<;>simp only [chunks,List.take,List.drop,List.map,cI,cB,cS,cL]) (by simp only [fzH,fzB,ug,Nat.beq,cond_true,cond_false,oneU,q07,q03,q0n,q09,q0q,q0d,q0c,q0b,q0a,q08,q0o,q0p,q0m,q0r,q1k,junkT,q1u,q1v,fz_iptr,Nat.reduceLeDiff,Nat.reduceMul,List.length_cons,List.length_nil,Nat.reduceAdd]<;>simp only [chunks,List.take,List.drop,List.map,cI,cB,cS,cL])) (Gh.to (n1:=0) [] rfl rfl (Nat.le_of_ble_eq_true rfl) (Nat.le_of_ble_eq_true rfl) BUL.h BH.h),stF [],rfl,rfl⟩
def q1m (z24:Int) (rc1:Int→(List Int)→(MapL Int Int)→Option ((List Int)×(MapL Int Int))) (l35:List Int) (w37:MapL Int Int):Option ((List Int)×(MapL Int Int)) :=
 rc1 (IntKind.i64.wrap (z24+1)) l35 w37
def q2k  (l28:List Int) (w30:MapL Int Int):Option ((List Int)×(MapL Int Int)) :=
 some (l28,w30)
def q12 (p2:List GNode) (r12:(List GArc)) (self:Int→(List GNode)→(List Int)→(MapL Int Int)→Option ((List Int)×(MapL Int Int))):Nat→Int→(List Int)→(MapL Int Int)→Option ((List Int)×(MapL Int Int))
 | 0,_,_,_=>none
 | m1+1,z24,l25,w27 =>
  cond (decide (z24<(r12.length:Int)))
   (bindO (idxO r12 z24) fun x32 =>
   cond (!((mGet (fun a b=>a == b) w27 x32.To).isSome))
    (bindO (self x32.To p2 l25 w27) fun r38 =>
    q1m z24 (q12 p2 r12 self m1) r38.1 r38.2)
    (q1m z24 (q12 p2 r12 self m1) l25 w27))
   (q2k l25 w27)
def q2p (n:Nat) (self:Int→(List GNode)→(List Int)→(MapL Int Int)→Option ((List Int)×(MapL Int Int))) (p1:Int) (p2:List GNode) (p3:List Int) (p5:MapL Int Int):Option ((List Int)×(MapL Int Int)) :=
 needO ((p3.length+1)*8≤140737488355328∧p3.length+1≤140737488355328) (
 bindO (idxO p2 p1) fun x7 =>
 bindO (q25 n x7.Arcs) fun r9 =>
 bindO (q1i n r9) fun r12 =>
 q12 p2 r12 self n 0 (p3++[p1]) (mUpd (fun a b=>a == b) p5 p1 (p3.length:Int)))
def q15:Nat→Int→(List GNode)→(List Int)→(MapL Int Int)→Option ((List Int)×(MapL Int Int))
 | 0,_,_,_,_=>none
 | n+1,p1,p2,p3,p5=>q2p n (q15 n) p1 p2 p3 p5
theorem q4p:∀ (n:Nat) (p1:Int) (p2:List GNode) (p3:List Int) (p5:MapL Int Int) (r:(List Int)×(MapL Int Int)),q15 n p1 p2 p3 p5=some r→∀ t4:Nat,EvU Try.prog 42 [.int .i64 p1,.ptr 0 0 0,.ptr 1 0 0,.ptr 2 0 0,.ptr 3 0 0] ⟨[(0,.row [.vl 4 t4 0 p3.length] 55),(1,.row [.map 5] 61),(2,.row [.isl false (List.map cGNode p2)] 25),(3,.row [.fn (.func 42) [] [.ptr 0 0 0,.ptr 1 0 0,.ptr 2 0 0,.ptr 3 0 0]] 62),(4,.vec (List.map (cI .i64) p3).flatten 3 1 t4),(5,.map (List.map (mE (fun x=>.int .i64 x) (fun x=>.int .i64 x)) p5.es) p5.cl)],6⟩ (fun u σ'=>∃ t:Nat→Nat,u = .tup []∧σ'=⟨[(0,.row [.vl 4 (t 0) 0 r.1.length] 55),(1,.row [.map 5] 61),(2,.row [.isl false (List.map cGNode p2)] 25),(3,.row [.fn (.func 42) [] [.ptr 0 0 0,.ptr 1 0 0,.ptr 2 0 0,.ptr 3 0 0]] 62),(4,.vec (List.map (cI .i64) r.1).flatten 3 1 (t 0)),(5,.map (List.map (mE (fun x=>.int .i64 x) (fun x=>.int .i64 x)) r.2.es) r.2.cl)],6⟩)
 | 0,p1,p2,p3,p5,r,hF=>by cases hF
 | n+1,p1,p2,p3,p5,r,hF=>by
  have ih:=q4p n
  unfold q15 q2p at hF
  intro t4
  refine EvU.of_body Try.tb_ok fn42 rfl ?_
  refine WPU.ghost (tm':=fr 45 [(0,.int .i64 p1),(1,.ptr 0 0 0),(2,.ptr 1 0 0),(3,.ptr 2 0 0),(4,.ptr 3 0 0)]) (Gh.start (Nat.le_of_ble_eq_true rfl)) (Nat.le_refl _) ?_
  refine sr ?_
  refine RS.q (u:=.map 5) rfl (q05 und61 rfl rfl rfl rfl) (RS.mv rfl rfl rfl rfl (RS.q (u:=.vl 4 t4 0 p3.length) rfl (q05 und55 rfl rfl rfl rfl) (RS.q rfl (q1d rfl rfl rfl (q8q und55 rfl)) (RS.opn (u:=.junk) (σ':=⟨[(0,.row [.vl 4 t4 0 p3.length] 55),(1,.row [.map 5] 61),(2,.row [.isl false (List.map cGNode p2)] 25),(3,.row [.fn (.func 42) [] [.ptr 0 0 0,.ptr 1 0 0,.ptr 2 0 0,.ptr 3 0 0]] 62),(4,.vec (List.map (cI .i64) p3).flatten 3 1 t4),(5,.map (List.map (mE (fun x=>.int .i64 x) (fun x=>.int .i64 x)) (mUpd (fun a b=>a == b) p5 p1 (p3.length:Int)).es) (mUpd (fun a b=>a == b) p5 p1 (p3.length:Int)).cl)],6⟩) rfl (op_mup (kU:=(fun x=>.int .i64 x)) (vU:=(fun x=>.int .i64 x)) (m:=p5) (k:=p1) (v:=(p3.length:Int)) (qax und3) und61 rfl rfl rfl rfl rfl) rfl ?_))))
  refine sd ?_
  obtain ⟨h6,hF⟩:=q32 hF
  refine sr ?_
  refine RS.q (u:=.vl 4 t4 0 p3.length) rfl (q05 und55 rfl rfl rfl rfl) (RS.mv rfl rfl rfl rfl (RS.q (u:=.sl 6 0 1 1) (σ':=⟨[(6,.row [.int .i64 p1] 3),(0,.row [.vl 4 t4 0 p3.length] 55),(1,.row [.map 5] 61),(2,.row [.isl false (List.map cGNode p2)] 25),(3,.row [.fn (.func 42) [] [.ptr 0 0 0,.ptr 1 0 0,.ptr 2 0 0,.ptr 3 0 0]] 62),(4,.vec (List.map (cI .i64) p3).flatten 3 1 t4),(5,.map (List.map (mE (fun x=>.int .i64 x) (fun x=>.int .i64 x)) (mUpd (fun a b=>a == b) p5 p1 (p3.length:Int)).es) (mUpd (fun a b=>a == b) p5 p1 (p3.length:Int)).cl)],7⟩) rfl (q24 und55 inf3 rfl rfl rfl rfl rfl rfl rfl) (RS.q (u:=.vl 4 (t4+1) 0 ((p3++[p1]).length)) (σ':=⟨[(6,.row [.int .i64 p1] 3),(0,.row [.vl 4 t4 0 p3.length] 55),(1,.row [.map 5] 61),(2,.row [.isl false (List.map cGNode p2)] 25),(3,.row [.fn (.func 42) [] [.ptr 0 0 0,.ptr 1 0 0,.ptr 2 0 0,.ptr 3 0 0]] 62),(4,.vec (List.map (cI .i64) (p3++[p1])).flatten 3 1 (t4+1)),(5,.map (List.map (mE (fun x=>.int .i64 x) (fun x=>.int .i64 x)) (mUpd (fun a b=>a == b) p5 p1 (p3.length:Int)).es) (mUpd (fun a b=>a == b) p5 p1 (p3.length:Int)).cl)],7⟩) rfl (qb5 rfl rfl rfl rfl (qag (cI .i64) ([p1]) und55 und55 inf3 rfl (q2t .i64) rfl (q8a (cI .i64) [p1] rfl rfl rfl rfl) h6)) (RS.opn (u:=.junk) (σ':=⟨[(6,.row [.int .i64 p1] 3),(0,.row [.vl 4 (t4+1) 0 ((p3++[p1]).length)] 55),(1,.row [.map 5] 61),(2,.row [.isl false (List.map cGNode p2)] 25),(3,.row [.fn (.func 42) [] [.ptr 0 0 0,.ptr 1 0 0,.ptr 2 0 0,.ptr 3 0 0]] 62),(4,.vec (List.map (cI .i64) (p3++[p1])).flatten 3 1 (t4+1)),(5,.map (List.map (mE (fun x=>.int .i64 x) (fun x=>.int .i64 x)) (mUpd (fun a b=>a == b) p5 p1 (p3.length:Int)).es) (mUpd (fun a b=>a == b) p5 p1 (p3.length:Int)).cl)],7⟩) rfl (q0y (q02 inf55) rfl rfl rfl rfl rfl rfl rfl rfl) rfl ?_))))
  refine sd ?_
  obtain ⟨x7,h8,hF⟩:=q00 hF
  obtain ⟨r9,h10,hF⟩:=q00 hF
  obtain ⟨r12,h13,hF⟩:=q00 hF
  refine sr ?_
  refine RS.q (u:=.ptr 2 0 0) rfl (q16 und25 rfl (q02 inf23) rfl rfl rfl) (RS.q (u:=.isl false (List.map cGNode p2)) rfl (q05 und23 rfl rfl rfl rfl) (RS.mv rfl rfl rfl rfl (RS.q (u:=.iptr (cGNode x7)) rfl (q1x rfl rfl (q2q cGNode und23 (q02 inf43) q1h h8 rfl)) (RS.q (u:=.iptr [.isl false (List.map cGArc x7.Arcs)]) rfl (q7a und43 rfl (q02 inf41) rfl rfl) (RS.q (u:=.isl false (List.map cGArc x7.Arcs)) rfl (q43 und41 rfl rfl rfl) ?_)))))
  refine RS.callx (R:=fun u σ'=>∃ t11:Nat→Nat,u = .fn (.func 55) [] [.iptr [.isl false (List.map cGArc r9)]]∧σ'=⟨[(6,.row [.int .i64 p1] 3),(0,.row [.vl 4 (t4+1) 0 ((p3++[p1]).length)] 55),(1,.row [.map 5] 61),(2,.row [.isl false (List.map cGNode p2)] 25),(3,.row [.fn (.func 42) [] [.ptr 0 0 0,.ptr 1 0 0,.ptr 2 0 0,.ptr 3 0 0]] 62),(4,.vec (List.map (cI .i64) (p3++[p1])).flatten 3 1 (t4+1)),(5,.map (List.map (mE (fun x=>.int .i64 x) (fun x=>.int .i64 x)) (mUpd (fun a b=>a == b) p5 p1 (p3.length:Int)).es) (mUpd (fun a b=>a == b) p5 p1 (p3.length:Int)).cl)],7⟩) (args:=[.isl false (List.map cGArc x7.Arcs)]) rfl (q01 rfl rfl fn44 hb44 rfl rfl) (EvU.st [] (q4r n x7.Arcs r9 h10 )) rfl rfl ?_
  rintro _ _ ⟨t11,rfl,rfl⟩
  refine RS.callx (R:=fun u σ'=>∃ t14:Nat→Nat,u = .vl 8 (t14 0) 0 r12.length∧σ'=⟨[(8,.vec (List.map cGArc r12).flatten 45 2 (t14 0)),(6,.row [.int .i64 p1] 3),(0,.row [.vl 4 (t4+1) 0 ((p3++[p1]).length)] 55),(1,.row [.map 5] 61),(2,.row [.isl false (List.map cGNode p2)] 25),(3,.row [.fn (.func 42) [] [.ptr 0 0 0,.ptr 1 0 0,.ptr 2 0 0,.ptr 3 0 0]] 62),(4,.vec (List.map (cI .i64) (p3++[p1])).flatten 3 1 (t4+1)),(5,.map (List.map (mE (fun x=>.int .i64 x) (fun x=>.int .i64 x)) (mUpd (fun a b=>a == b) p5 p1 (p3.length:Int)).es) (mUpd (fun a b=>a == b) p5 p1 (p3.length:Int)).cl)],9⟩) (args:=[.fn (.func 55) [] [.iptr [.isl false (List.map cGArc r9)]],.fn (.func 45) [] []]) rfl (q01 rfl rfl fn43 hb43 rfl rfl) (EvU.st [] (q3x n r9 r12 h13 )) rfl rfl ?_
  rintro _ _ ⟨t14,rfl,rfl⟩
  refine RS.q rfl (q1d rfl rfl rfl (q8q und41 rfl)) (RS.mv rfl rfl rfl rfl ?_)
  refine sd ?_
  refine WPU.ghost (tm':=fr 45 [(2,.ptr 1 0 0),(4,.ptr 3 0 0),(25,.vl 8 (t14 0) 0 r12.length),(26,.int .i64 (r12.length:Int)),(27,.int .i64 0)]) (Gh.sub ⟨rfl,rfl,rfl,rfl,rfl,trivial⟩) (Nat.le_of_ble_eq_true rfl) ?_
  refine WPU.loopK (fun m tm σ=>∃ z24:Int,∃ l25:List Int,∃ t26:Nat,∃ w27:MapL Int Int,q12 p2 r12 (q15 n) m z24 l25 w27=some r∧tm=fr 45 [(2,.ptr 1 0 0),(4,.ptr 3 0 0),(25,.vl 8 (t14 0) 0 r12.length),(26,.int .i64 (r12.length:Int)),(27,.int .i64 z24)]∧σ=⟨[(8,.vec (List.map cGArc r12).flatten 45 2 (t14 0)),(6,.row [.int .i64 p1] 3),(0,.row [.vl 4 t26 0 l25.length] 55),(1,.row [.map 5] 61),(2,.row [.isl false (List.map cGNode p2)] 25),(3,.row [.fn (.func 42) [] [.ptr 0 0 0,.ptr 1 0 0,.ptr 2 0 0,.ptr 3 0 0]] 62),(4,.vec (List.map (cI .i64) l25).flatten 3 1 t26),(5,.map (List.map (mE (fun x=>.int .i64 x) (fun x=>.int .i64 x)) w27.es) w27.cl)],9⟩) (fun tm σ=>∃ l28:List Int,∃ t29:Nat,∃ w30:MapL Int Int,q2k l28 w30=some r∧tm=fr 45 []∧σ=⟨[(8,.vec (List.map cGArc r12).flatten 45 2 (t14 0)),(6,.row [.int .i64 p1] 3),(0,.row [.vl 4 t29 0 l28.length] 55),(1,.row [.map 5] 61),(2,.row [.isl false (List.map cGNode p2)] 25),(3,.row [.fn (.func 42) [] [.ptr 0 0 0,.ptr 1 0 0,.ptr 2 0 0,.ptr 3 0 0]] 62),(4,.vec (List.map (cI .i64) l28).flatten 3 1 t29),(5,.map (List.map (mE (fun x=>.int .i64 x) (fun x=>.int .i64 x)) w30.es) w30.cl)],9⟩) n ⟨0,(p3++[p1]),(t4+1),(mUpd (fun a b=>a == b) p5 p1 (p3.length:Int)),hF,rfl,rfl⟩ ?_ ?_
  rintro _ _ ⟨l28,t29,w30,hF,rfl,rfl⟩
  unfold q2k at hF
  refine st ?_
  have hr:=Option.some.inj hF
  subst hr
  exact ⟨.inl rfl,[],q1o,.tup [],⟨[(0,.row [.vl 4 t29 0 l28.length] 55),(1,.row [.map 5] 61),(2,.row [.isl false (List.map cGNode p2)] 25),(3,.row [.fn (.func 42) [] [.ptr 0 0 0,.ptr 1 0 0,.ptr 2 0 0,.ptr 3 0 0]] 62),(4,.vec (List.map (cI .i64) l28).flatten 3 1 t29),(5,.map (List.map (mE (fun x=>.int .i64 x) (fun x=>.int .i64 x)) w30.es) w30.cl)],6⟩,(Nat.le_of_ble_eq_true rfl),Gh.to (n1:=6) [] rfl rfl (Nat.le_of_ble_eq_true rfl) (Nat.le_of_ble_eq_true rfl) BUL.h BH.h,stF [t29],rfl,rfl⟩
  rintro m1 _ _ ⟨z24,l25,t26,w27,hF,rfl,rfl⟩
  rcases m1 with _ | m1
  cases hF
  unfold q12 at hF
  refine sr ?_
  refine RS.q rfl (q06 rfl rfl (q2c _ _ _) rfl) ?_
  refine sd ?_
  refine WPU.condS (t:=(decide (z24<(r12.length:Int)))) rfl (fun h31=>?_) (fun h31=>?_)
  replace hF:=q0i h31 hF
  refine st ?_
  refine WPU.skip ?_
  refine st ?_
  refine WPU.block ?_
  refine st ?_
  obtain ⟨x32,h33,hF⟩:=q00 hF
  refine sr ?_
  refine RS.q (u:=.ptr 8 (t14 0) (0*2+z24.toNat*2)) rfl (q1x rfl rfl (q6g cGArc und41 (q02 inf45) (by decide) q1q (vo rfl) h33)) ?_
  refine RS.q (u:=.agg (cGArc x32)) rfl (ld_vec cGArc und45 rfl (q02 inf45) q1q rfl rfl h33 rfl) (RS.q (u:=.ptr 9 0 0) (σ':=⟨[(9,.row [.int .i64 0,.int .i64 0] 45),(8,.vec (List.map cGArc r12).flatten 45 2 (t14 0)),(6,.row [.int .i64 p1] 3),(0,.row [.vl 4 t26 0 l25.length] 55),(1,.row [.map 5] 61),(2,.row [.isl false (List.map cGNode p2)] 25),(3,.row [.fn (.func 42) [] [.ptr 0 0 0,.ptr 1 0 0,.ptr 2 0 0,.ptr 3 0 0]] 62),(4,.vec (List.map (cI .i64) l25).flatten 3 1 t26),(5,.map (List.map (mE (fun x=>.int .i64 x) (fun x=>.int .i64 x)) w27.es) w27.cl)],10⟩) rfl (q1b inf45 rfl rfl) (RS.opn (u:=.junk) (σ':=⟨[(9,.row (cGArc x32) 45),(8,.vec (List.map cGArc r12).flatten 45 2 (t14 0)),(6,.row [.int .i64 p1] 3),(0,.row [.vl 4 t26 0 l25.length] 55),(1,.row [.map 5] 61),(2,.row [.isl false (List.map cGNode p2)] 25),(3,.row [.fn (.func 42) [] [.ptr 0 0 0,.ptr 1 0 0,.ptr 2 0 0,.ptr 3 0 0]] 62),(4,.vec (List.map (cI .i64) l25).flatten 3 1 t26),(5,.map (List.map (mE (fun x=>.int .i64 x) (fun x=>.int .i64 x)) w27.es) w27.cl)],10⟩) rfl (q0y (q02 inf45) rfl rfl rfl rfl rfl rfl rfl rfl) rfl ?_))
  refine se ?_
  refine RS.q (u:=.map 5) rfl (q05 und61 rfl rfl rfl rfl) (RS.q (u:=.ptr 9 0 1) rfl (q16 und45 rfl (q02 inf3) rfl rfl rfl) (RS.q (u:=.int .i64 x32.To) rfl (q05 und3 rfl rfl rfl rfl) (RS.q (u:=.tup [.int .i64 ((mGet (fun a b=>a == b) w27 x32.To).getD 0),.bool ((mGet (fun a b=>a == b) w27 x32.To).isSome)]) rfl (op_look2 (kU:=(fun x=>.int .i64 x)) (vU:=(fun x=>.int .i64 x)) (m:=w27) (k:=x32.To) (zv:=0) (qax und3) und61 rfl rfl rfl inf3 rfl) (RS.mv rfl rfl rfl rfl (RS.q rfl (q69 rfl rfl) (RS.q rfl (q69 rfl rfl) ?_))))))
  repeat refine RS.as rfl rfl rfl rfl ?_
  refine se ?_
  refine RS.q (u:=.bool (!((mGet (fun a b=>a == b) w27 x32.To).isSome))) rfl (q7b rfl rfl rfl rfl) ?_
  refine sd ?_
  refine WPU.joinK (fun tm σ=>∃ l35:List Int,∃ t36:Nat,∃ w37:MapL Int Int,q1m z24 (q12 p2 r12 (q15 n) m1) l35 w37=some r∧tm=fr 45 [(2,.ptr 1 0 0),(4,.ptr 3 0 0),(25,.vl 8 (t14 0) 0 r12.length),(26,.int .i64 (r12.length:Int)),(27,.int .i64 z24)]∧σ=⟨[(9,.row (cGArc x32) 45),(8,.vec (List.map cGArc r12).flatten 45 2 (t14 0)),(6,.row [.int .i64 p1] 3),(0,.row [.vl 4 t36 0 l35.length] 55),(1,.row [.map 5] 61),(2,.row [.isl false (List.map cGNode p2)] 25),(3,.row [.fn (.func 42) [] [.ptr 0 0 0,.ptr 1 0 0,.ptr 2 0 0,.ptr 3 0 0]] 62),(4,.vec (List.map (cI .i64) l35).flatten 3 1 t36),(5,.map (List.map (mE (fun x=>.int .i64 x) (fun x=>.int .i64 x)) w37.es) w37.cl)],10⟩) ?_ ?_
  rintro _ _ ⟨l35,t36,w37,hF,rfl,rfl⟩
  unfold q1m at hF
  refine sr ?_
  refine RS.q rfl (q06 rfl rfl (q3l _ _ _) rfl) (RS.mv rfl rfl rfl rfl ?_)
  refine sd ?_
  exact ⟨m1,_,_,Nat.lt_succ_self _,⟨(IntKind.i64.wrap (z24+1)),l35,t36,w37,hF,rfl,rfl⟩,(Nat.le_of_ble_eq_true rfl),Gh.toC (n1:=9) ⟨rfl,rfl,rfl,rfl,rfl,trivial⟩ rfl (Nat.le_of_ble_eq_true rfl) (by simp)⟩
  refine WPU.condS (t:=(!((mGet (fun a b=>a == b) w27 x32.To).isSome))) rfl (fun h34=>?_) (fun h34=>?_)
  replace hF:=q0i h34 hF
  refine st ?_
  obtain ⟨r38,h39,hF⟩:=q00 hF
  refine sr ?_
  refine RS.q (u:=.fn (.func 42) [] [.ptr 0 0 0,.ptr 1 0 0,.ptr 2 0 0,.ptr 3 0 0]) rfl (q05 und62 rfl rfl rfl rfl) (RS.q (u:=.ptr 9 0 1) rfl (q16 und45 rfl (q02 inf3) rfl rfl rfl) (RS.q (u:=.int .i64 x32.To) rfl (q05 und3 rfl rfl rfl rfl) ?_))
  refine RS.callx (R:=fun u σ'=>∃ t40:Nat→Nat,u = .tup []∧σ'=⟨[(9,.row (cGArc x32) 45),(8,.vec (List.map cGArc r12).flatten 45 2 (t14 0)),(6,.row [.int .i64 p1] 3),(0,.row [.vl 4 (t40 0) 0 r38.1.length] 55),(1,.row [.map 5] 61),(2,.row [.isl false (List.map cGNode p2)] 25),(3,.row [.fn (.func 42) [] [.ptr 0 0 0,.ptr 1 0 0,.ptr 2 0 0,.ptr 3 0 0]] 62),(4,.vec (List.map (cI .i64) r38.1).flatten 3 1 (t40 0)),(5,.map (List.map (mE (fun x=>.int .i64 x) (fun x=>.int .i64 x)) r38.2.es) r38.2.cl)],10⟩) (args:=[.int .i64 x32.To,.ptr 0 0 0,.ptr 1 0 0,.ptr 2 0 0,.ptr 3 0 0]) rfl (q01 rfl rfl fn42 hb42 rfl rfl) (EvU.st [0,1,2,3,4,5] (ih x32.To p2 l25 w27 r38 h39 t26)) rfl rfl ?_
  rintro _ _ ⟨t40,rfl,rfl⟩
  refine sd ?_
  exact ⟨_,_,⟨r38.1,(t40 0),r38.2,hF,rfl,rfl⟩,(Nat.le_of_ble_eq_true rfl),Gh.toC (n1:=10) ⟨rfl,rfl,rfl,rfl,rfl,trivial⟩ rfl (Nat.le_of_ble_eq_true rfl) (by simp)⟩
  replace hF:=q0h h34 hF
  refine st ?_
  refine WPU.skip ?_
  refine st ?_
  exact ⟨_,_,⟨l25,t26,w27,hF,rfl,rfl⟩,(Nat.le_of_ble_eq_true rfl),Gh.toC (n1:=10) ⟨rfl,rfl,rfl,rfl,rfl,trivial⟩ rfl (Nat.le_of_ble_eq_true rfl) (by simp)⟩
  replace hF:=q0h h31 hF
  refine st ?_
  refine WPU.exit ?_
  refine st ?_
  exact ⟨_,_,⟨l25,t26,w27,hF,rfl,rfl⟩,(Nat.le_of_ble_eq_true rfl),Gh.toC (n1:=9) trivial rfl (Nat.le_of_ble_eq_true rfl) (by simp)⟩
def q2s (p1:GFS) (r3:(List Int)×(MapL Int Int)) (z14:Int) (l15:List GNode) (rc1:Int→(List GNode)→Option (GFS)) (x19:Int) (l44:List GArc):Option (GFS) :=
 bindO (idxO p1.Nodes x19) fun x45 =>
 bindO (idxV l15 0 ((r3.1.length:Int).toNat) z14) fun x47 =>
 rc1 (IntKind.i64.wrap (z14+1)) (l15.set z14.toNat (GNode.mk x45.Typex l44))
def q21 (p1:GFS) (r3:(List Int)×(MapL Int Int)) (z14:Int) (l15:List GNode) (rc1:Int→(List GNode)→Option (GFS)) (x19:Int) (r26:(List GArc)):Nat→Int→(List GArc)→Option (GFS)
 | 0,_,_=>none
 | m2+1,z42,l43 =>
  cond (decide (z42<(r26.length:Int)))
   (bindO (idxO l43 z42) fun x50 =>
   bindO (idxO l43 z42) fun x52 =>
   (q21 p1 r3 z14 l15 rc1 x19 r26 m2) (IntKind.i64.wrap (z42+1)) (l43.set (0+z42.toNat) (GArc.mk x52.Feat ((mGet (fun a b=>a == b) r3.2 x50.To).getD 0))))
   (q2s p1 r3 z14 l15 rc1 x19 l43)
def q3h (r3:(List Int)×(MapL Int Int)) (l16:List GNode):Option (GFS) :=
 needO ((r3.1.length:Int).toNat=l16.length) (
 some (GFS.mk l16))
def q1f (p1:GFS) (n:Nat) (r3:(List Int)×(MapL Int Int)):Nat→Int→(List GNode)→Option (GFS)
 | 0,_,_=>none
 | m1+1,z14,l15 =>
  cond (decide (z14<(r3.1.length:Int)))
   (bindO (idxO r3.1 z14) fun x19 =>
   bindO (idxO p1.Nodes x19) fun x21 =>
   bindO (q25 n x21.Arcs) fun r23 =>
   bindO (q1i n r23) fun r26 =>
   q21 p1 r3 z14 l15 (q1f p1 n r3 m1) x19 r26 n 0 r26)
   (q3h r3 l15)
def q2n (n:Nat) (p1:GFS) (p2:Int):Option (GFS) :=
 bindO (q15 n p2 p1.Nodes ([]:List Int) (mNew:MapL Int Int)) fun r3 =>
 needO (0≤(r3.1.length:Int)∧32*(r3.1.length:Int).toNat≤281474976710656∧(r3.1.length:Int)≤281474976710656) (
 q1f p1 n r3 n 0 (List.replicate (r3.1.length:Int).toNat (GNode.mk 0 [])))
theorem q9e (n:Nat) (p1:GFS) (p2:Int) (r:GFS) (hF:q2n n p1 p2=some r):EvU Try.prog 31 [.agg [.isl false (List.map cGNode p1.Nodes)],.int .i64 p2] ⟨[],0⟩ (fun u _=>u = .agg [.isl false (List.map cGNode r.Nodes)]∧Bel 0 u):=by
 unfold q2n at hF
 refine EvU.of_body Try.tb_ok fn31 rfl ?_
 refine WPU.ghost (tm':=fr 68 [(0,.agg [.isl false (List.map cGNode p1.Nodes)]),(1,.int .i64 p2)]) (Gh.start (Nat.le_of_ble_eq_true rfl)) (Nat.zero_le _) ?_
 refine sr ?_
 refine RS.q (u:=.ptr 0 0 0) (σ':=⟨[(0,.row [.isl false (List.map cGNode p1.Nodes)] 25)],1⟩) rfl (q2x rfl rfl rfl) (RS.q (u:=.ptr 1 0 0) (σ':=⟨[(1,.row [.nils] 25),(0,.row [.isl false (List.map cGNode p1.Nodes)] 25)],2⟩) rfl (q1b inf25 rfl rfl) ?_)
 refine se ?_
 refine RS.q (u:=.map 2) (σ':=⟨[(2,.map (List.map (mE (fun x=>.int .i64 x) (fun x=>.int .i64 x)) (mNew:MapL Int Int).es) (mNew:MapL Int Int).cl),(1,.row [.nils] 25),(0,.row [.isl false (List.map cGNode p1.Nodes)] 25)],3⟩) rfl (op_mnew) (RS.q (u:=.ptr 3 0 0) (σ':=⟨[(3,.row [.nilm] 61),(2,.map (List.map (mE (fun x=>.int .i64 x) (fun x=>.int .i64 x)) (mNew:MapL Int Int).es) (mNew:MapL Int Int).cl),(1,.row [.nils] 25),(0,.row [.isl false (List.map cGNode p1.Nodes)] 25)],4⟩) rfl (q1b inf61 rfl rfl) (RS.opn (u:=.junk) (σ':=⟨[(3,.row [.map 2] 61),(2,.map (List.map (mE (fun x=>.int .i64 x) (fun x=>.int .i64 x)) (mNew:MapL Int Int).es) (mNew:MapL Int Int).cl),(1,.row [.nils] 25),(0,.row [.isl false (List.map cGNode p1.Nodes)] 25)],4⟩) rfl (q0y (q02 inf61) rfl rfl rfl rfl rfl rfl rfl rfl) rfl ?_))
 refine se ?_
 refine RS.q (u:=.ptr 4 0 0) (σ':=⟨[(4,.row [.nils] 55),(3,.row [.map 2] 61),(2,.map (List.map (mE (fun x=>.int .i64 x) (fun x=>.int .i64 x)) (mNew:MapL Int Int).es) (mNew:MapL Int Int).cl),(1,.row [.nils] 25),(0,.row [.isl false (List.map cGNode p1.Nodes)] 25)],5⟩) rfl (q1b inf55 rfl rfl) ?_
 refine se ?_
 refine RS.q (u:=.ptr 5 0 0) (σ':=⟨[(5,.row [.nilf] 62),(4,.row [.nils] 55),(3,.row [.map 2] 61),(2,.map (List.map (mE (fun x=>.int .i64 x) (fun x=>.int .i64 x)) (mNew:MapL Int Int).es) (mNew:MapL Int Int).cl),(1,.row [.nils] 25),(0,.row [.isl false (List.map cGNode p1.Nodes)] 25)],6⟩) rfl (q1b inf62 rfl rfl) ?_
 refine se ?_
 refine RS.q rfl (op_fun rfl rfl) (RS.opn (u:=.junk) (σ':=⟨[(5,.row [.fn (.func 42) [] [.ptr 4 0 0,.ptr 3 0 0,.ptr 0 0 0,.ptr 5 0 0]] 62),(4,.row [.nils] 55),(3,.row [.map 2] 61),(2,.map (List.map (mE (fun x=>.int .i64 x) (fun x=>.int .i64 x)) (mNew:MapL Int Int).es) (mNew:MapL Int Int).cl),(1,.row [.nils] 25),(0,.row [.isl false (List.map cGNode p1.Nodes)] 25)],6⟩) rfl (q0y (q02 inf62) rfl rfl rfl rfl rfl rfl rfl rfl) rfl ?_)
 refine sd ?_
 refine WPU.ghost (tm':=fr 68 [(1,.int .i64 p2),(2,.ptr 0 0 0),(4,.ptr 1 0 0),(5,.ptr 3 0 0),(6,.ptr 4 0 0),(7,.ptr 5 0 0)]) (σ':=⟨[(6,.vec (List.map (cI .i64) ([]:List Int)).flatten 3 1 0),(5,.row [.fn (.func 42) [] [.ptr 4 0 0,.ptr 3 0 0,.ptr 0 0 0,.ptr 5 0 0]] 62),(4,.row [.vl 6 0 0 (([]:List Int).length)] 55),(3,.row [.map 2] 61),(2,.map (List.map (mE (fun x=>.int .i64 x) (fun x=>.int .i64 x)) (mNew:MapL Int Int).es) (mNew:MapL Int Int).cl),(1,.row [.nils] 25),(0,.row [.isl false (List.map cGNode p1.Nodes)] 25)],7⟩) (Gh.trans (Gh.nilC 4 0 3 1 (by decide) (Nat.zero_le _) rfl rfl) (Gh.eqS ⟨rfl,rfl,rfl,rfl,rfl,rfl,trivial⟩ rfl)) (Nat.zero_le _) ?_
 refine st ?_
 obtain ⟨r3,h4,hF⟩:=q00 hF
 refine sr ?_
 refine RS.q (u:=.fn (.func 42) [] [.ptr 4 0 0,.ptr 3 0 0,.ptr 0 0 0,.ptr 5 0 0]) rfl (q05 und62 rfl rfl rfl rfl) (RS.mv rfl rfl rfl rfl ?_)
 refine RS.callx (R:=fun u σ'=>∃ t5:Nat→Nat,u = .tup []∧σ'=⟨[(6,.vec (List.map (cI .i64) r3.1).flatten 3 1 (t5 0)),(5,.row [.fn (.func 42) [] [.ptr 4 0 0,.ptr 3 0 0,.ptr 0 0 0,.ptr 5 0 0]] 62),(4,.row [.vl 6 (t5 0) 0 r3.1.length] 55),(3,.row [.map 2] 61),(2,.map (List.map (mE (fun x=>.int .i64 x) (fun x=>.int .i64 x)) r3.2.es) r3.2.cl),(1,.row [.nils] 25),(0,.row [.isl false (List.map cGNode p1.Nodes)] 25)],7⟩) (args:=[.int .i64 p2,.ptr 4 0 0,.ptr 3 0 0,.ptr 0 0 0,.ptr 5 0 0]) rfl (q01 rfl rfl fn42 hb42 rfl rfl) (EvU.st [4,3,0,5,6,2] (q4p n p2 p1.Nodes ([]:List Int) (mNew:MapL Int Int) r3 h4 0)) rfl rfl ?_
 rintro _ _ ⟨t5,rfl,rfl⟩
 refine sd ?_
 obtain ⟨h6,hF⟩:=q32 hF
 refine sr ?_
 refine RS.q (u:=.vl 6 (t5 0) 0 r3.1.length) rfl (q05 und55 rfl rfl rfl rfl) (RS.q rfl (q1d rfl rfl rfl (q8q und55 rfl)) (RS.q (u:=.sl 7 0 ((r3.1.length:Int).toNat) ((r3.1.length:Int).toNat)) (σ':=⟨[(7,.row (List.map cGNode (List.replicate (r3.1.length:Int).toNat (GNode.mk 0 []))).flatten 43),(6,.vec (List.map (cI .i64) r3.1).flatten 3 1 (t5 0)),(5,.row [.fn (.func 42) [] [.ptr 4 0 0,.ptr 3 0 0,.ptr 0 0 0,.ptr 5 0 0]] 62),(4,.row [.vl 6 (t5 0) 0 r3.1.length] 55),(3,.row [.map 2] 61),(2,.map (List.map (mE (fun x=>.int .i64 x) (fun x=>.int .i64 x)) r3.2.es) r3.2.cl),(1,.row [.nils] 25),(0,.row [.isl false (List.map cGNode p1.Nodes)] 25)],8⟩) rfl (op_mks cGNode (GNode.mk 0 []) rfl rfl und23 inf43 rfl rfl rfl rfl h6) (RS.q (u:=.agg [.sl 7 0 ((r3.1.length:Int).toNat) ((r3.1.length:Int).toNat)]) rfl (q79 bd25 rfl rfl rfl) (RS.q (u:=.ptr 8 0 0) (σ':=⟨[(8,.row [.nils] 25),(7,.row (List.map cGNode (List.replicate (r3.1.length:Int).toNat (GNode.mk 0 []))).flatten 43),(6,.vec (List.map (cI .i64) r3.1).flatten 3 1 (t5 0)),(5,.row [.fn (.func 42) [] [.ptr 4 0 0,.ptr 3 0 0,.ptr 0 0 0,.ptr 5 0 0]] 62),(4,.row [.vl 6 (t5 0) 0 r3.1.length] 55),(3,.row [.map 2] 61),(2,.map (List.map (mE (fun x=>.int .i64 x) (fun x=>.int .i64 x)) r3.2.es) r3.2.cl),(1,.row [.nils] 25),(0,.row [.isl false (List.map cGNode p1.Nodes)] 25)],9⟩) rfl (q1b inf25 rfl rfl) (RS.opn (u:=.junk) (σ':=⟨[(8,.row [.sl 7 0 ((r3.1.length:Int).toNat) ((r3.1.length:Int).toNat)] 25),(7,.row (List.map cGNode (List.replicate (r3.1.length:Int).toNat (GNode.mk 0 []))).flatten 43),(6,.vec (List.map (cI .i64) r3.1).flatten 3 1 (t5 0)),(5,.row [.fn (.func 42) [] [.ptr 4 0 0,.ptr 3 0 0,.ptr 0 0 0,.ptr 5 0 0]] 62),(4,.row [.vl 6 (t5 0) 0 r3.1.length] 55),(3,.row [.map 2] 61),(2,.map (List.map (mE (fun x=>.int .i64 x) (fun x=>.int .i64 x)) r3.2.es) r3.2.cl),(1,.row [.nils] 25),(0,.row [.isl false (List.map cGNode p1.Nodes)] 25)],9⟩) rfl (q0y (q02 inf25) rfl rfl rfl rfl rfl rfl rfl rfl) rfl ?_)))))
 refine se ?_
 refine RS.q (u:=.vl 6 (t5 0) 0 r3.1.length) rfl (q05 und55 rfl rfl rfl rfl) (RS.q rfl (q1d rfl rfl rfl (q8q und55 rfl)) (RS.mv rfl rfl rfl rfl ?_))
 refine sd ?_
 refine WPU.ghost (tm':=fr 68 [(2,.ptr 0 0 0),(4,.ptr 1 0 0),(5,.ptr 3 0 0),(8,.ptr 8 0 0),(22,.vl 6 (t5 0) 0 r3.1.length),(23,.int .i64 (r3.1.length:Int)),(24,.int .i64 0)]) (Gh.sub ⟨rfl,rfl,rfl,rfl,rfl,rfl,rfl,trivial⟩) (Nat.zero_le _) ?_
 refine WPU.loopK (fun m tm σ=>∃ z14:Int,∃ l15:List GNode,q1f p1 n r3 m z14 l15=some r∧tm=fr 68 [(2,.ptr 0 0 0),(4,.ptr 1 0 0),(5,.ptr 3 0 0),(8,.ptr 8 0 0),(22,.vl 6 (t5 0) 0 r3.1.length),(23,.int .i64 (r3.1.length:Int)),(24,.int .i64 z14)]∧σ=⟨[(8,.row [.sl 7 0 ((r3.1.length:Int).toNat) ((r3.1.length:Int).toNat)] 25),(7,.row (List.map cGNode l15).flatten 43),(6,.vec (List.map (cI .i64) r3.1).flatten 3 1 (t5 0)),(5,.row [.fn (.func 42) [] [.ptr 4 0 0,.ptr 3 0 0,.ptr 0 0 0,.ptr 5 0 0]] 62),(4,.row [.vl 6 (t5 0) 0 r3.1.length] 55),(3,.row [.map 2] 61),(2,.map (List.map (mE (fun x=>.int .i64 x) (fun x=>.int .i64 x)) r3.2.es) r3.2.cl),(1,.row [.nils] 25),(0,.row [.isl false (List.map cGNode p1.Nodes)] 25)],9⟩) (fun tm σ=>∃ l16:List GNode,q3h r3 l16=some r∧tm=fr 68 [(4,.ptr 1 0 0),(8,.ptr 8 0 0)]∧σ=⟨[(8,.row [.sl 7 0 ((r3.1.length:Int).toNat) ((r3.1.length:Int).toNat)] 25),(7,.row (List.map cGNode l16).flatten 43),(6,.vec (List.map (cI .i64) r3.1).flatten 3 1 (t5 0)),(5,.row [.fn (.func 42) [] [.ptr 4 0 0,.ptr 3 0 0,.ptr 0 0 0,.ptr 5 0 0]] 62),(4,.row [.vl 6 (t5 0) 0 r3.1.length] 55),(3,.row [.map 2] 61),(2,.map (List.map (mE (fun x=>.int .i64 x) (fun x=>.int .i64 x)) r3.2.es) r3.2.cl),(1,.row [.nils] 25),(0,.row [.isl false (List.map cGNode p1.Nodes)] 25)],9⟩) n ⟨0,(List.replicate (r3.1.length:Int).toNat (GNode.mk 0 [])),hF,rfl,rfl⟩ ?_ ?_
 rintro _ _ ⟨l16,hF,rfl,rfl⟩
 unfold q3h at hF
 refine sr ?_
 refine RS.q (u:=.agg [.sl 7 0 ((r3.1.length:Int).toNat) ((r3.1.length:Int).toNat)]) rfl (q0g und25 rfl (q02 inf25) rfl rfl rfl) (RS.opn (u:=.junk) (σ':=⟨[(8,.row [.sl 7 0 ((r3.1.length:Int).toNat) ((r3.1.length:Int).toNat)] 25),(7,.row (List.map cGNode l16).flatten 43),(6,.vec (List.map (cI .i64) r3.1).flatten 3 1 (t5 0)),(5,.row [.fn (.func 42) [] [.ptr 4 0 0,.ptr 3 0 0,.ptr 0 0 0,.ptr 5 0 0]] 62),(4,.row [.vl 6 (t5 0) 0 r3.1.length] 55),(3,.row [.map 2] 61),(2,.map (List.map (mE (fun x=>.int .i64 x) (fun x=>.int .i64 x)) r3.2.es) r3.2.cl),(1,.row [.sl 7 0 ((r3.1.length:Int).toNat) ((r3.1.length:Int).toNat)] 25),(0,.row [.isl false (List.map cGNode p1.Nodes)] 25)],9⟩) rfl (q0y (q02 inf25) rfl rfl rfl rfl rfl rfl rfl rfl) rfl ?_)
 refine sd ?_
 refine WPU.ret ?_
 refine st ?_
 obtain ⟨h17,hF⟩:=q32 hF
 have hr:=Option.some.inj hF
 subst hr
 exact ⟨.inr rfl,[.agg [.sl 7 0 ((r3.1.length:Int).toNat) ((r3.1.length:Int).toNat)]],res_c (q0g und25 rfl (q02 inf25) rfl rfl rfl) (q1o),.agg [.isl false (List.map cGNode l16)],⟨[],0⟩,Nat.le_refl _,Gh.trans (Gh.fz (tm':=[.agg [.isl false (List.map cGNode l16)]]) 7 (.row (List.map cGNode l16).flatten 43) 2 rfl (by simp) (by simp only [oneU,q07,q03,q0n,q09,q0q,q0d,q0c,q0b,q0a,q08,q0o,q0p,q0m,q0r,q1k,junkT,fz_rl q1h h17,q5g (show Nat.beq 0 7=false from rfl),q5f (show Nat.beq 0 7=false from rfl),q5e (show Nat.beq 0 7=false from rfl),q5g (show Nat.beq 2 7=false from rfl),q5f (show Nat.beq 2 7=false from rfl),q5e (show Nat.beq 2 7=false from rfl),q5g (show Nat.beq 3 7=false from rfl),q5f (show Nat.beq 3 7=false from rfl),q5e (show Nat.beq 3 7=false from rfl),q5g (show Nat.beq 4 7=false from rfl),q5f (show Nat.beq 4 7=false from rfl),q5e (show Nat.beq 4 7=false from rfl),q5g (show Nat.beq 5 7=false from rfl),q5f (show Nat.beq 5 7=false from rfl),q5e (show Nat.beq 5 7=false from rfl),q5g (show Nat.beq 6 7=false from rfl),q5f (show Nat.beq 6 7=false from rfl),q5e (show Nat.beq 6 7=false from rfl),q3k _ _ _ (q4i 7 (fun q=>bel_cI _ .i64 q) r3.1),fz_mE]) rfl) (Gh.toR (.agg [.isl false (List.map cGNode l16)]) rfl),rfl,BU.h⟩
 rintro m1 _ _ ⟨z14,l15,hF,rfl,rfl⟩
 rcases m1 with _ | m1
 cases hF
 unfold q1f at hF
 refine sr ?_
 refine RS.q rfl (q06 rfl rfl (q2c _ _ _) rfl) ?_
 refine sd ?_
 refine WPU.condS (t:=(decide (z14<(r3.1.length:Int)))) rfl (fun h18=>?_) (fun h18=>?_)
 replace hF:=q0i h18 hF
 refine st ?_
 refine WPU.skip ?_
 refine st ?_
 refine WPU.block ?_
 refine st ?_
 obtain ⟨x19,h20,hF⟩:=q00 hF
 refine sr ?_
 refine RS.q (u:=.ptr 6 (t5 0) (0*1+z14.toNat*1)) rfl (q1x rfl rfl (q6g (cI .i64) und55 (q02 inf3) (by decide) (q2t .i64) (vo rfl) h20)) ?_
 refine RS.q (u:=.int .i64 x19) rfl (q4s (cI .i64) (fun x=>.int .i64 x) und3 rfl (fun _=>rfl) rfl rfl h20) ?_
 repeat refine RS.as rfl rfl rfl rfl ?_
 refine sd ?_
 obtain ⟨x21,h22,hF⟩:=q00 hF
 obtain ⟨r23,h24,hF⟩:=q00 hF
 obtain ⟨r26,h27,hF⟩:=q00 hF
 refine sr ?_
 refine RS.q (u:=.ptr 0 0 0) rfl (q16 und25 rfl (q02 inf23) rfl rfl rfl) (RS.q (u:=.isl false (List.map cGNode p1.Nodes)) rfl (q05 und23 rfl rfl rfl rfl) (RS.mv rfl rfl rfl rfl (RS.q (u:=.iptr (cGNode x21)) rfl (q1x rfl rfl (q2q cGNode und23 (q02 inf43) q1h h22 rfl)) (RS.q (u:=.iptr [.isl false (List.map cGArc x21.Arcs)]) rfl (q7a und43 rfl (q02 inf41) rfl rfl) (RS.q (u:=.isl false (List.map cGArc x21.Arcs)) rfl (q43 und41 rfl rfl rfl) ?_)))))
 refine RS.callx (R:=fun u σ'=>∃ t25:Nat→Nat,u = .fn (.func 55) [] [.iptr [.isl false (List.map cGArc r23)]]∧σ'=⟨[(8,.row [.sl 7 0 ((r3.1.length:Int).toNat) ((r3.1.length:Int).toNat)] 25),(7,.row (List.map cGNode l15).flatten 43),(6,.vec (List.map (cI .i64) r3.1).flatten 3 1 (t5 0)),(5,.row [.fn (.func 42) [] [.ptr 4 0 0,.ptr 3 0 0,.ptr 0 0 0,.ptr 5 0 0]] 62),(4,.row [.vl 6 (t5 0) 0 r3.1.length] 55),(3,.row [.map 2] 61),(2,.map (List.map (mE (fun x=>.int .i64 x) (fun x=>.int .i64 x)) r3.2.es) r3.2.cl),(1,.row [.nils] 25),(0,.row [.isl false (List.map cGNode p1.Nodes)] 25)],9⟩) (args:=[.isl false (List.map cGArc x21.Arcs)]) rfl (q01 rfl rfl fn44 hb44 rfl rfl) (EvU.st [] (q4r n x21.Arcs r23 h24 )) rfl rfl ?_
 rintro _ _ ⟨t25,rfl,rfl⟩
 refine RS.callx (R:=fun u σ'=>∃ t28:Nat→Nat,u = .vl 10 (t28 0) 0 r26.length∧σ'=⟨[(10,.vec (List.map cGArc r26).flatten 45 2 (t28 0)),(8,.row [.sl 7 0 ((r3.1.length:Int).toNat) ((r3.1.length:Int).toNat)] 25),(7,.row (List.map cGNode l15).flatten 43),(6,.vec (List.map (cI .i64) r3.1).flatten 3 1 (t5 0)),(5,.row [.fn (.func 42) [] [.ptr 4 0 0,.ptr 3 0 0,.ptr 0 0 0,.ptr 5 0 0]] 62),(4,.row [.vl 6 (t5 0) 0 r3.1.length] 55),(3,.row [.map 2] 61),(2,.map (List.map (mE (fun x=>.int .i64 x) (fun x=>.int .i64 x)) r3.2.es) r3.2.cl),(1,.row [.nils] 25),(0,.row [.isl false (List.map cGNode p1.Nodes)] 25)],11⟩) (args:=[.fn (.func 55) [] [.iptr [.isl false (List.map cGArc r23)]],.fn (.func 45) [] []]) rfl (q01 rfl rfl fn43 hb43 rfl rfl) (EvU.st [] (q3x n r23 r26 h27 )) rfl rfl ?_
 rintro _ _ ⟨t28,rfl,rfl⟩
 refine se ?_
 refine RS.q rfl (q1d rfl rfl rfl (q8q und41 rfl)) (RS.mv rfl rfl rfl rfl ?_)
 refine sd ?_
 refine WPU.ghost (tm':=fr 68 [(2,.ptr 0 0 0),(4,.ptr 1 0 0),(5,.ptr 3 0 0),(8,.ptr 8 0 0),(9,.int .i64 z14),(10,.int .i64 x19),(11,.vl 10 (t28 0) 0 r26.length),(22,.vl 6 (t5 0) 0 r3.1.length),(23,.int .i64 (r3.1.length:Int)),(24,.int .i64 z14),(38,.int .i64 (r26.length:Int)),(39,.int .i64 0)]) (Gh.sub ⟨rfl,rfl,rfl,rfl,rfl,rfl,rfl,rfl,rfl,rfl,rfl,rfl,trivial⟩) (Nat.zero_le _) ?_
 refine WPU.loopK (fun m tm σ=>∃ z42:Int,∃ l43:List GArc,q21 p1 r3 z14 l15 (q1f p1 n r3 m1) x19 r26 m z42 l43=some r∧tm=fr 68 [(2,.ptr 0 0 0),(4,.ptr 1 0 0),(5,.ptr 3 0 0),(8,.ptr 8 0 0),(9,.int .i64 z14),(10,.int .i64 x19),(11,.vl 10 (t28 0) 0 l43.length),(22,.vl 6 (t5 0) 0 r3.1.length),(23,.int .i64 (r3.1.length:Int)),(24,.int .i64 z14),(38,.int .i64 (r26.length:Int)),(39,.int .i64 z42)]∧σ=⟨[(10,.vec (List.map cGArc l43).flatten 45 2 (t28 0)),(8,.row [.sl 7 0 ((r3.1.length:Int).toNat) ((r3.1.length:Int).toNat)] 25),(7,.row (List.map cGNode l15).flatten 43),(6,.vec (List.map (cI .i64) r3.1).flatten 3 1 (t5 0)),(5,.row [.fn (.func 42) [] [.ptr 4 0 0,.ptr 3 0 0,.ptr 0 0 0,.ptr 5 0 0]] 62),(4,.row [.vl 6 (t5 0) 0 r3.1.length] 55),(3,.row [.map 2] 61),(2,.map (List.map (mE (fun x=>.int .i64 x) (fun x=>.int .i64 x)) r3.2.es) r3.2.cl),(1,.row [.nils] 25),(0,.row [.isl false (List.map cGNode p1.Nodes)] 25)],11⟩) (fun tm σ=>∃ l44:List GArc,q2s p1 r3 z14 l15 (q1f p1 n r3 m1) x19 l44=some r∧tm=fr 68 [(2,.ptr 0 0 0),(4,.ptr 1 0 0),(5,.ptr 3 0 0),(8,.ptr 8 0 0),(9,.int .i64 z14),(10,.int .i64 x19),(11,.vl 10 (t28 0) 0 l44.length),(22,.vl 6 (t5 0) 0 r3.1.length),(23,.int .i64 (r3.1.length:Int)),(24,.int .i64 z14)]∧σ=⟨[(10,.vec (List.map cGArc l44).flatten 45 2 (t28 0)),(8,.row [.sl 7 0 ((r3.1.length:Int).toNat) ((r3.1.length:Int).toNat)] 25),(7,.row (List.map cGNode l15).flatten 43),(6,.vec (List.map (cI .i64) r3.1).flatten 3 1 (t5 0)),(5,.row [.fn (.func 42) [] [.ptr 4 0 0,.ptr 3 0 0,.ptr 0 0 0,.ptr 5 0 0]] 62),(4,.row [.vl 6 (t5 0) 0 r3.1.length] 55),(3,.row [.map 2] 61),(2,.map (List.map (mE (fun x=>.int .i64 x) (fun x=>.int .i64 x)) r3.2.es) r3.2.cl),(1,.row [.nils] 25),(0,.row [.isl false (List.map cGNode p1.Nodes)] 25)],11⟩) n ⟨0,r26,hF,rfl,rfl⟩ ?_ ?_
 rintro _ _ ⟨l44,hF,rfl,rfl⟩
 unfold q2s at hF
 refine st ?_
 refine WPU.ghost (tm':=fr 68 [(2,.ptr 0 0 0),(4,.ptr 1 0 0),(5,.ptr 3 0 0),(8,.ptr 8 0 0),(9,.int .i64 z14),(10,.int .i64 x19),(11,.isl false (List.map cGArc l44)),(22,.vl 6 (t5 0) 0 r3.1.length),(23,.int .i64 (r3.1.length:Int)),(24,.int .i64 z14)]) (σ':=⟨[(8,.row [.sl 7 0 ((r3.1.length:Int).toNat) ((r3.1.length:Int).toNat)] 25),(7,.row (List.map cGNode l15).flatten 43),(6,.vec (List.map (cI .i64) r3.1).flatten 3 1 (t5 0)),(5,.row [.fn (.func 42) [] [.ptr 4 0 0,.ptr 3 0 0,.ptr 0 0 0,.ptr 5 0 0]] 62),(4,.row [.vl 6 (t5 0) 0 r3.1.length] 55),(3,.row [.map 2] 61),(2,.map (List.map (mE (fun x=>.int .i64 x) (fun x=>.int .i64 x)) r3.2.es) r3.2.cl),(1,.row [.nils] 25),(0,.row [.isl false (List.map cGNode p1.Nodes)] 25)],11⟩) (Gh.trans (Gh.sub (l':=[(2,.ptr 0 0 0),(4,.ptr 1 0 0),(5,.ptr 3 0 0),(8,.ptr 8 0 0),(9,.int .i64 z14),(10,.int .i64 x19),(11,.vl 10 (t28 0) 0 l44.length),(22,.vl 6 (t5 0) 0 r3.1.length),(23,.int .i64 (r3.1.length:Int)),(24,.int .i64 z14)]) ⟨rfl,rfl,rfl,rfl,rfl,rfl,rfl,rfl,rfl,rfl,trivial⟩) (Gh.fzS (l':=[(2,.ptr 0 0 0),(4,.ptr 1 0 0),(5,.ptr 3 0 0),(8,.ptr 8 0 0),(9,.int .i64 z14),(10,.int .i64 x19),(11,.isl false (List.map cGArc l44)),(22,.vl 6 (t5 0) 0 r3.1.length),(23,.int .i64 (r3.1.length:Int)),(24,.int .i64 z14)]) (h':=[(8,.row [.sl 7 0 ((r3.1.length:Int).toNat) ((r3.1.length:Int).toNat)] 25),(7,.row (List.map cGNode l15).flatten 43),(6,.vec (List.map (cI .i64) r3.1).flatten 3 1 (t5 0)),(5,.row [.fn (.func 42) [] [.ptr 4 0 0,.ptr 3 0 0,.ptr 0 0 0,.ptr 5 0 0]] 62),(4,.row [.vl 6 (t5 0) 0 r3.1.length] 55),(3,.row [.map 2] 61),(2,.map (List.map (mE (fun x=>.int .i64 x) (fun x=>.int .i64 x)) r3.2.es) r3.2.cl),(1,.row [.nils] 25),(0,.row [.isl false (List.map cGNode p1.Nodes)] 25)]) 10 (.vec (List.map cGArc l44).flatten 45 2 (t28 0)) 2 rfl (by simp) (by simp only [fzS,oneU,q07,q03,q0n,q09,q0q,q0d,q0c,q0b,q0a,q08,q0o,q0p,q0m,q0r,q1k,junkT,fz_vl q1q,q5g (show Nat.beq 0 10=false from rfl),q5f (show Nat.beq 0 10=false from rfl),q5e (show Nat.beq 0 10=false from rfl),q5g (show Nat.beq 1 10=false from rfl),q5f (show Nat.beq 1 10=false from rfl),q5e (show Nat.beq 1 10=false from rfl),q5g (show Nat.beq 2 10=false from rfl),q5f (show Nat.beq 2 10=false from rfl),q5e (show Nat.beq 2 10=false from rfl),q5g (show Nat.beq 3 10=false from rfl),q5f (show Nat.beq 3 10=false from rfl),q5e (show Nat.beq 3 10=false from rfl),q5g (show Nat.beq 4 10=false from rfl),q5f (show Nat.beq 4 10=false from rfl),q5e (show Nat.beq 4 10=false from rfl),q5g (show Nat.beq 5 10=false from rfl),q5f (show Nat.beq 5 10=false from rfl),q5e (show Nat.beq 5 10=false from rfl),q5g (show Nat.beq 6 10=false from rfl),q5f (show Nat.beq 6 10=false from rfl),q5e (show Nat.beq 6 10=false from rfl),q5g (show Nat.beq 7 10=false from rfl),q5f (show Nat.beq 7 10=false from rfl),q5e (show Nat.beq 7 10=false from rfl),q5g (show Nat.beq 8 10=false from rfl),q5f (show Nat.beq 8 10=false from rfl),q5e (show Nat.beq 8 10=false from rfl),q3k _ _ _ (q4i 10 (fun q=>q6d _ q) l15),q3k _ _ _ (q4i 10 (fun q=>bel_cI _ .i64 q) r3.1),fz_mE]) (by simp only [fzH,fzB,ug,Nat.beq,cond_true,cond_false,oneU,q07,q03,q0n,q09,q0q,q0d,q0c,q0b,q0a,q08,q0o,q0p,q0m,q0r,q1k,junkT,fz_vl q1q,q5g (show Nat.beq 0 10=false from rfl),q5f (show Nat.beq 0 10=false from rfl),q5e (show Nat.beq 0 10=false from rfl),q5g (show Nat.beq 1 10=false from rfl),q5f (show Nat.beq 1 10=false from rfl),q5e (show Nat.beq 1 10=false from rfl),q5g (show Nat.beq 2 10=false from rfl),q5f (show Nat.beq 2 10=false from rfl),q5e (show Nat.beq 2 10=false from rfl),q5g (show Nat.beq 3 10=false from rfl),q5f (show Nat.beq 3 10=false from rfl),q5e (show Nat.beq 3 10=false from rfl),q5g (show Nat.beq 4 10=false from rfl),q5f (show Nat.beq 4 10=false from rfl),q5e (show Nat.beq 4 10=false from rfl),q5g (show Nat.beq 5 10=false from rfl),q5f (show Nat.beq 5 10=false from rfl),q5e (show Nat.beq 5 10=false from rfl),q5g (show Nat.beq 6 10=false from rfl),q5f (show Nat.beq 6 10=false from rfl),q5e (show Nat.beq 6 10=false from rfl),q5g (show Nat.beq 7 10=false from rfl),q5f (show Nat.beq 7 10=false from rfl),q5e (show Nat.beq 7 10=false from rfl),q5g (show Nat.beq 8 10=false from rfl),q5f (show Nat.beq 8 10=false from rfl),q5e (show Nat.beq 8 10=false from rfl),q3k _ _ _ (q4i 10 (fun q=>q6d _ q) l15),q3k _ _ _ (q4i 10 (fun q=>bel_cI _ .i64 q) r3.1),fz_mE]))) (Nat.zero_le _) ?_
 refine st ?_
 obtain ⟨x45,h46,hF⟩:=q00 hF
 obtain ⟨x47,h48,hF⟩:=q00 hF
 refine WPU.drawE Try.tb_ok [] (by kernel_rfl) ?_
 refine RD.q (u:=.ptr 8 0 0) rfl (q16 und25 rfl (q02 inf23) rfl rfl rfl) (RD.q (u:=.sl 7 0 ((r3.1.length:Int).toNat) ((r3.1.length:Int).toNat)) rfl (q05 und23 rfl rfl rfl rfl) (RD.mv rfl rfl rfl rfl (RD.q (u:=.ptr 0 0 0) rfl (q16 und25 rfl (q02 inf23) rfl rfl rfl) (RD.q (u:=.isl false (List.map cGNode p1.Nodes)) rfl (q05 und23 rfl rfl rfl rfl) (RD.mv rfl rfl rfl rfl (RD.q (u:=.iptr (cGNode x45)) rfl (q1x rfl rfl (q2q cGNode und23 (q02 inf43) q1h h46 rfl)) (RD.q (u:=.iptr (cGNode x45)) rfl (q7a und43 rfl (q02 inf3) rfl rfl) ?_)))))))
 refine RD.q (u:=.int .i64 x45.Typex) rfl (q43 und3 rfl rfl rfl) (RD.mv rfl rfl rfl rfl (RD.q (u:=.agg [.int .i64 x45.Typex,.isl false (List.map cGArc l44)]) rfl (q79 bd43 rfl rfl rfl) (RD.q (u:=.ptr 7 0 (0*2+z14.toNat*2)) rfl (q1x rfl rfl (qav und23 (q02 inf43) rfl h48)) (RD.actn (u:=.junk) (σ':=⟨[(8,.row [.sl 7 0 ((r3.1.length:Int).toNat) ((r3.1.length:Int).toNat)] 25),(7,.row (List.map cGNode (l15.set z14.toNat (GNode.mk x45.Typex l44))).flatten 43),(6,.vec (List.map (cI .i64) r3.1).flatten 3 1 (t5 0)),(5,.row [.fn (.func 42) [] [.ptr 4 0 0,.ptr 3 0 0,.ptr 0 0 0,.ptr 5 0 0]] 62),(4,.row [.vl 6 (t5 0) 0 r3.1.length] 55),(3,.row [.map 2] 61),(2,.map (List.map (mE (fun x=>.int .i64 x) (fun x=>.int .i64 x)) r3.2.es) r3.2.cl),(1,.row [.nils] 25),(0,.row [.isl false (List.map cGNode p1.Nodes)] 25)],11⟩) rfl (st_rl cGNode (q02 inf43) q1h rfl rfl rfl rfl rfl rfl h48 rfl) rfl ?_))))
 refine RD.done ⟨by kernel_rfl,trivial,?_⟩
 refine sr ?_
 refine RS.q rfl (q06 rfl rfl (q3l _ _ _) rfl) (RS.mv rfl rfl rfl rfl ?_)
 refine sd ?_
 exact ⟨m1,_,_,Nat.lt_succ_self _,⟨(IntKind.i64.wrap (z14+1)),(l15.set z14.toNat (GNode.mk x45.Typex l44)),hF,rfl,rfl⟩,(Nat.zero_le _),Gh.toC (n1:=9) ⟨rfl,rfl,rfl,rfl,rfl,rfl,rfl,trivial⟩ rfl (Nat.zero_le _) (by simp)⟩
 rintro m2 _ _ ⟨z42,l43,hF,rfl,rfl⟩
 rcases m2 with _ | m2
 cases hF
 unfold q21 at hF
 refine sr ?_
 refine RS.q rfl (q06 rfl rfl (q2c _ _ _) rfl) ?_
 refine sd ?_
 refine WPU.condS (t:=(decide (z42<(r26.length:Int)))) rfl (fun h49=>?_) (fun h49=>?_)
 replace hF:=q0i h49 hF
 refine st ?_
 refine WPU.skip ?_
 refine st ?_
 refine WPU.block ?_
 refine sr ?_
 refine sd ?_
 obtain ⟨x50,h51,hF⟩:=q00 hF
 obtain ⟨x52,h53,hF⟩:=q00 hF
 refine WPU.joinK (fun tm σ=>tm=fr 68 [(2,.ptr 0 0 0),(4,.ptr 1 0 0),(5,.ptr 3 0 0),(8,.ptr 8 0 0),(9,.int .i64 z14),(10,.int .i64 x19),(11,.vl 10 (t28 0) 0 ((l43.set (0+z42.toNat) (GArc.mk x52.Feat ((mGet (fun a b=>a == b) r3.2 x50.To).getD 0))).length)),(22,.vl 6 (t5 0) 0 r3.1.length),(23,.int .i64 (r3.1.length:Int)),(24,.int .i64 z14),(38,.int .i64 (r26.length:Int)),(39,.int .i64 z42)]∧σ=⟨[(10,.vec (List.map cGArc (l43.set (0+z42.toNat) (GArc.mk x52.Feat ((mGet (fun a b=>a == b) r3.2 x50.To).getD 0)))).flatten 45 2 (t28 0)),(8,.row [.sl 7 0 ((r3.1.length:Int).toNat) ((r3.1.length:Int).toNat)] 25),(7,.row (List.map cGNode l15).flatten 43),(6,.vec (List.map (cI .i64) r3.1).flatten 3 1 (t5 0)),(5,.row [.fn (.func 42) [] [.ptr 4 0 0,.ptr 3 0 0,.ptr 0 0 0,.ptr 5 0 0]] 62),(4,.row [.vl 6 (t5 0) 0 r3.1.length] 55),(3,.row [.map 2] 61),(2,.map (List.map (mE (fun x=>.int .i64 x) (fun x=>.int .i64 x)) r3.2.es) r3.2.cl),(1,.row [.nils] 25),(0,.row [.isl false (List.map cGNode p1.Nodes)] 25)],11⟩) ?_ ?_
 rintro _ _ ⟨rfl,rfl⟩
 refine sr ?_
 refine RS.q rfl (q06 rfl rfl (q3l _ _ _) rfl) (RS.mv rfl rfl rfl rfl ?_)
 refine sd ?_
 exact ⟨m2,_,_,Nat.lt_succ_self _,⟨(IntKind.i64.wrap (z42+1)),(l43.set (0+z42.toNat) (GArc.mk x52.Feat ((mGet (fun a b=>a == b) r3.2 x50.To).getD 0))),hF,rfl,rfl⟩,(Nat.zero_le _),Gh.toC (n1:=11) ⟨rfl,rfl,rfl,rfl,rfl,rfl,rfl,rfl,rfl,rfl,rfl,rfl,trivial⟩ rfl (Nat.zero_le _) (by simp)⟩
 refine WPU.drawE Try.tb_ok [] (by kernel_rfl) ?_
 repeat refine RD.mv rfl rfl rfl rfl ?_
 refine RD.q (u:=.map 2) rfl (q05 und61 rfl rfl rfl rfl) ?_
 repeat refine RD.mv rfl rfl rfl rfl ?_
 refine RD.q (u:=.ptr 10 (t28 0) (0*2+z42.toNat*2)) rfl (q1x rfl rfl (q6g cGArc und41 (q02 inf45) (by decide) q1q (vo rfl) h51)) ?_
 refine RD.q (u:=.ptr 10 (t28 0) (0*2+z42.toNat*2+1)) rfl (q16 und45 rfl (q02 inf3) rfl (live_v rfl) rfl) (RD.q (u:=.int .i64 x50.To) rfl (ld_vf cGArc und3 rfl q1q rfl rfl (idxO_V h51) rfl) (RD.q (u:=.int .i64 ((mGet (fun a b=>a == b) r3.2 x50.To).getD 0)) rfl (op_look (kU:=(fun x=>.int .i64 x)) (vU:=(fun x=>.int .i64 x)) (m:=r3.2) (k:=x50.To) (zv:=0) (qax und3) und61 rfl rfl rfl inf3 rfl) ?_))
 refine RD.q (u:=.ptr 10 (t28 0) (0*2+z42.toNat*2)) rfl (q1x rfl rfl (q6g cGArc und41 (q02 inf45) (by decide) q1q (vo rfl) h53)) ?_
 refine RD.q (u:=.ptr 10 (t28 0) (0*2+z42.toNat*2+1)) rfl (q16 und45 rfl (q02 inf3) rfl (live_v rfl) rfl) (RD.actn (u:=.junk) (σ':=⟨[(10,.vec (List.map cGArc (l43.set (0+z42.toNat) (GArc.mk x52.Feat ((mGet (fun a b=>a == b) r3.2 x50.To).getD 0)))).flatten 45 2 (t28 0)),(8,.row [.sl 7 0 ((r3.1.length:Int).toNat) ((r3.1.length:Int).toNat)] 25),(7,.row (List.map cGNode l15).flatten 43),(6,.vec (List.map (cI .i64) r3.1).flatten 3 1 (t5 0)),(5,.row [.fn (.func 42) [] [.ptr 4 0 0,.ptr 3 0 0,.ptr 0 0 0,.ptr 5 0 0]] 62),(4,.row [.vl 6 (t5 0) 0 r3.1.length] 55),(3,.row [.map 2] 61),(2,.map (List.map (mE (fun x=>.int .i64 x) (fun x=>.int .i64 x)) r3.2.es) r3.2.cl),(1,.row [.nils] 25),(0,.row [.isl false (List.map cGNode p1.Nodes)] 25)],11⟩) rfl (st_vf (y:=(GArc.mk x52.Feat ((mGet (fun a b=>a == b) r3.2 x50.To).getD 0))) cGArc (q02 inf3) q1q rfl rfl rfl rfl rfl rfl (idxO_V h53) rfl rfl) rfl ?_)
 refine RD.done ⟨by kernel_rfl,trivial,?_⟩
 refine st ?_
 exact ⟨_,_,⟨rfl,rfl⟩,(Nat.zero_le _),Gh.eqS ⟨rfl,rfl,rfl,rfl,rfl,rfl,(by simp only [List.length_set]; rfl),rfl,rfl,rfl,rfl,rfl,trivial⟩ rfl⟩
 replace hF:=q0h h49 hF
 refine st ?_
 refine WPU.exit ?_
 refine st ?_
 exact ⟨_,_,⟨l43,hF,rfl,rfl⟩,(Nat.zero_le _),Gh.toC (n1:=11) ⟨rfl,rfl,rfl,rfl,rfl,rfl,rfl,rfl,rfl,rfl,trivial⟩ rfl (Nat.zero_le _) (by simp)⟩
 replace hF:=q0h h18 hF
 refine st ?_
 refine WPU.exit ?_
 refine st ?_
 exact ⟨_,_,⟨l15,hF,rfl,rfl⟩,(Nat.zero_le _),Gh.toC (n1:=9) ⟨rfl,rfl,trivial⟩ rfl (Nat.zero_le _) (by simp)⟩
theorem q65 (n:Nat) (p1:GFS) (p2:Int) (r:GFS) (hF:q2n n p1 p2=some r) (σ:Sg):EvU Try.prog 31 [.agg [.isl false (List.map cGNode p1.Nodes)],.int .i64 p2] σ (fun u σ'=>u = .agg [.isl false (List.map cGNode r.Nodes)]∧σ'=σ) :=
 EvU.pure1C (q9e n p1 p2 r hF) σ
def qba (p1:List GArc) (z6:Int) (l7:List GArc) (rc1:Int→(List GArc)→Option ((List GArc))) (z18:Int):Option ((List GArc)) :=
 needO ((0:Int)≤z18∧z18≤((l7.length:Nat):Int)) (
 needO (0+z18.toNat≤l7.length) (
 needO (((l7.drop 0).take z18.toNat).length*16≤140737488355328∧((l7.drop 0).take z18.toNat).length≤140737488355328) (
 bindO (idxO p1 z6) fun x22 =>
 needO ((((l7.drop 0).take z18.toNat).length+1)*16≤140737488355328∧((l7.drop 0).take z18.toNat).length+1≤140737488355328) (
 needO ((0:Int)≤z18∧z18≤((l7.length:Nat):Int)) (
 needO ((0+z18.toNat)+(l7.length - z18.toNat)≤l7.length) (
 needO (((((l7.drop 0).take z18.toNat)++[x22]).length+((l7.drop (0+z18.toNat)).take (l7.length - z18.toNat)).length)*16≤140737488355328∧(((l7.drop 0).take z18.toNat)++[x22]).length+((l7.drop (0+z18.toNat)).take (l7.length - z18.toNat)).length≤140737488355328) (
 rc1 (IntKind.i64.wrap (z6+1)) ((((l7.drop 0).take z18.toNat)++[x22])++((l7.drop (0+z18.toNat)).take (l7.length - z18.toNat))))))))))
def q7f (p1:List GArc) (z6:Int) (l7:List GArc) (rc1:Int→(List GArc)→Option ((List GArc))):Nat→Int→Option ((List GArc))
 | 0,_=>none
 | m2+1,z17 =>
  bindO (cond (decide (z17 > 0))
   (bindO (idxO l7 (IntKind.i64.wrap (z17 - 1))) fun x29 =>
   bindO (idxO p1 z6) fun x31 =>
   some (decide (x29.Feat > x31.Feat)))
   (some false)) fun b33 =>
  cond b33
   ((q7f p1 z6 l7 rc1 m2) (IntKind.i64.wrap (z17 - 1)))
   (qba p1 z6 l7 rc1 z17)
def qb9  (l9:List GArc):Option ((List GArc)) :=
 some l9
def q7e (p1:List GArc) (n:Nat):Nat→Int→(List GArc)→Option ((List GArc))
 | 0,_,_=>none
 | m1+1,z6,l7 =>
  cond (decide (z6<(p1.length:Int)))
   (q7f p1 z6 l7 (q7e p1 n m1) n (l7.length:Int))
   (qb9 l7)
def q9s (n:Nat) (p1:List GArc):Option ((List GArc)) :=
 q7e p1 n n 0 ([]:List GArc)
def q4q (z23:Int) (rc1:Int→(List Int)→(List Int)→Option ((List Int)×(List Int))) (l38:List Int) (l40:List Int):Option ((List Int)×(List Int)) :=
 rc1 (IntKind.i64.wrap (z23+1)) l38 l40
def q71  (l28:List Int) (l30:List Int):Option ((List Int)×(List Int)) :=
 some (l28,l30)
def q3g (p2:List GNode) (r12:List GArc) (self:Int→(List GNode)→(List Int)→(List Int)→Option ((List Int)×(List Int))):Nat→Int→(List Int)→(List Int)→Option ((List Int)×(List Int))
 | 0,_,_,_=>none
 | m1+1,z23,l24,l26 =>
  cond (decide (z23<(r12.length:Int)))
   (bindO (idxO r12 z23) fun x33 =>
   bindO (idxO l24 x33.To) fun x35 =>
   cond (decide (x35<0))
    (bindO (idxO r12 z23) fun x42 =>
    bindO (self x42.To p2 l24 l26) fun r44 =>
    q4q z23 (q3g p2 r12 self m1) r44.1 r44.2)
    (q4q z23 (q3g p2 r12 self m1) l24 l26))
   (q71 l24 l26)
def q7g (n:Nat) (self:Int→(List GNode)→(List Int)→(List Int)→Option ((List Int)×(List Int))) (p1:Int) (p2:List GNode) (p3:List Int) (p5:List Int):Option ((List Int)×(List Int)) :=
 bindO (idxO p3 p1) fun x7 =>
 needO ((p5.length+1)*8≤140737488355328∧p5.length+1≤140737488355328) (
 bindO (idxO p2 p1) fun x10 =>
 bindO (q9s n x10.Arcs) fun r12 =>
 q3g p2 r12 self n 0 (p3.set (0+p1.toNat) (p5.length:Int)) (p5++[p1]))
def q60:Nat→Int→(List GNode)→(List Int)→(List Int)→Option ((List Int)×(List Int))
 | 0,_,_,_,_=>none
 | n+1,p1,p2,p3,p5=>q7g n (q60 n) p1 p2 p3 p5
def ref07_From_K3 (z26:Int) (l27:List GNode) (rc2:Int→(List GNode)→Option (GFS)) (x34:GNode) (l54:List GArc):Option (GFS) :=
 needO ((l27.length+1)*32≤140737488355328∧l27.length+1≤140737488355328) (
 rc2 (IntKind.i64.wrap (z26+1)) (l27++[(GNode.mk x34.Typex l54)]))
def q8w (r14:(List Int)×(List Int)) (z26:Int) (l27:List GNode) (rc2:Int→(List GNode)→Option (GFS)) (x34:GNode):Nat→Int→(List GArc)→Option (GFS)
 | 0,_,_=>none
 | m3+1,z52,l53 =>
  cond (decide (z52<(l53.length:Int)))
   (bindO (idxO l53 z52) fun x57 =>
   bindO (idxO r14.1 x57.To) fun x59 =>
   bindO (idxO l53 z52) fun x61 =>
   (q8w r14 z26 l27 rc2 x34 m3) (IntKind.i64.wrap (z52+1)) (l53.set (0+z52.toNat) (GArc.mk x61.Feat x59)))
   (ref07_From_K3 z26 l27 rc2 x34 l53)
def ref07_From_K2  (l29:List GNode):Option (GFS) :=
 some (GFS.mk l29)
def q8v (p1:GFS) (n:Nat) (r14:(List Int)×(List Int)):Nat→Int→(List GNode)→Option (GFS)
 | 0,_,_=>none
 | m2+1,z26,l27 =>
  cond (decide (z26<(r14.2.length:Int)))
   (bindO (idxO r14.2 z26) fun x32 =>
   bindO (idxO p1.Nodes x32) fun x34 =>
   bindO (q9s n x34.Arcs) fun r36 =>
   q8w r14 z26 l27 (q8v p1 n r14 m2) x34 n 0 r36)
   (ref07_From_K2 l27)
def ref07_From_K1 (p1:GFS) (p2:Int) (n:Nat) (l12:List Int):Option (GFS) :=
 bindO (q60 n p2 p1.Nodes l12 ([]:List Int)) fun r14 =>
 q8v p1 n r14 n 0 ([]:List GNode)
def ref07_From_L1 (p1:GFS) (p2:Int) (n:Nat):Nat→Int→(List Int)→Option (GFS)
 | 0,_,_=>none
 | m1+1,z9,l10 =>
  cond (decide (z9<(p1.Nodes.length:Int)))
   (needO ((l10.length+1)*8≤140737488355328∧l10.length+1≤140737488355328) (
   (ref07_From_L1 p1 p2 n m1) (IntKind.i64.wrap (z9+1)) (l10++[(-1)])))
   (ref07_From_K1 p1 p2 n l10)
def q3y (p1:Int) (p2:Nat) (p4:Nat) (l21:List Bool) (l22:List Bool):Option (Bool×(List Bool)×(List Bool)) :=
 bindO (idxV l21 0 p2 p1) fun x23 =>
 bindO (idxV l22 0 p4 p1) fun x25 =>
 some (false,(l21.set p1.toNat false),(l22.set p1.toNat true))
def q2y (p1:Int) (p2:Nat) (p3:List GNode) (p4:Nat) (x9:GNode) (self:Int→Nat→(List GNode)→Nat→(List Bool)→(List Bool)→Option (Bool×(List Bool)×(List Bool))):Nat→Int→(List Bool)→(List Bool)→Option (Bool×(List Bool)×(List Bool))
 | 0,_,_,_=>none
 | m1+1,z18,l19,l20 =>
  cond (decide (z18<(x9.Arcs.length:Int)))
   (bindO (idxO x9.Arcs z18) fun x28 =>
   bindO (bindO (idxV l19 0 p2 x28.To) fun x30 =>
   cond x30
    (some (true,l19,l20))
    (bindO (idxV l20 0 p4 x28.To) fun x33 =>
    cond (!x33)
     (bindO (self x28.To p2 p3 p4 l19 l20) fun r36 =>
     some (r36.1,r36.2.1,r36.2.2))
     (some (false,l19,l20)))) fun j43 =>
   cond j43.1
    (some (true,j43.2.1,j43.2.2))
    ((q2y p1 p2 p3 p4 x9 self m1) (IntKind.i64.wrap (z18+1)) j43.2.1 j43.2.2))
   (q3y p1 p2 p4 l19 l20)
def q5v (n:Nat) (self:Int→Nat→(List GNode)→Nat→(List Bool)→(List Bool)→Option (Bool×(List Bool)×(List Bool))) (p1:Int) (p2:Nat) (p3:List GNode) (p4:Nat) (p5:List Bool) (p6:List Bool):Option (Bool×(List Bool)×(List Bool)) :=
 bindO (idxV p5 0 p2 p1) fun x7 =>
 bindO (idxO p3 p1) fun x9 =>
 q2y p1 p2 p3 p4 x9 self n 0 (p5.set p1.toNat true) p6
def q2z:Nat→Int→Nat→(List GNode)→Nat→(List Bool)→(List Bool)→Option (Bool×(List Bool)×(List Bool))
 | 0,_,_,_,_,_,_=>none
 | n+1,p1,p2,p3,p4,p5,p6=>q5v n (q2z n) p1 p2 p3 p4 p5 p6
theorem q5u:∀ (n:Nat) (p1:Int) (p2:Nat) (p3:List GNode) (p4:Nat) (p5:List Bool) (p6:List Bool) (r:Bool×(List Bool)×(List Bool)),q2z n p1 p2 p3 p4 p5 p6=some r→EvU Try.prog 35 [.int .i64 p1,.ptr 0 0 0,.ptr 1 0 0,.ptr 2 0 0,.ptr 3 0 0] ⟨[(0,.row [.sl 4 0 p2 p2] 40),(1,.row [.isl false (List.map cGNode p3)] 25),(2,.row [.sl 5 0 p4 p4] 40),(3,.row [.fn (.func 35) [] [.ptr 0 0 0,.ptr 1 0 0,.ptr 2 0 0,.ptr 3 0 0]] 51),(4,.row (List.map cB p5).flatten 4),(5,.row (List.map cB p6).flatten 4)],6⟩ (fun u σ'=>∃ t:Nat→Nat,u = .bool r.1∧σ'=⟨[(0,.row [.sl 4 0 p2 p2] 40),(1,.row [.isl false (List.map cGNode p3)] 25),(2,.row [.sl 5 0 p4 p4] 40),(3,.row [.fn (.func 35) [] [.ptr 0 0 0,.ptr 1 0 0,.ptr 2 0 0,.ptr 3 0 0]] 51),(4,.row (List.map cB r.2.1).flatten 4),(5,.row (List.map cB r.2.2).flatten 4)],6⟩)
 | 0,p1,p2,p3,p4,p5,p6,r,hF=>by cases hF
 | n+1,p1,p2,p3,p4,p5,p6,r,hF=>by
  have ih:=q5u n
  unfold q2z q5v at hF
  refine EvU.of_body Try.tb_ok fn35 rfl ?_
  refine WPU.ghost (tm':=fr 49 [(0,.int .i64 p1),(1,.ptr 0 0 0),(2,.ptr 1 0 0),(3,.ptr 2 0 0),(4,.ptr 3 0 0)]) (Gh.start (Nat.le_of_ble_eq_true rfl)) (Nat.le_refl _) ?_
  refine sr ?_
  refine sd ?_
  obtain ⟨x7,h8,hF⟩:=q00 hF
  refine sr ?_
  refine RS.q (u:=.sl 4 0 p2 p2) rfl (q05 und40 rfl rfl rfl rfl) (RS.mv rfl rfl rfl rfl (RS.q (u:=.ptr 4 0 (0*1+p1.toNat*1)) rfl (q1x rfl rfl (qav und40 (q02 inf4) rfl h8)) (RS.opn (u:=.junk) (σ':=⟨[(0,.row [.sl 4 0 p2 p2] 40),(1,.row [.isl false (List.map cGNode p3)] 25),(2,.row [.sl 5 0 p4 p4] 40),(3,.row [.fn (.func 35) [] [.ptr 0 0 0,.ptr 1 0 0,.ptr 2 0 0,.ptr 3 0 0]] 51),(4,.row (List.map cB (p5.set p1.toNat true)).flatten 4),(5,.row (List.map cB p6).flatten 4)],6⟩) rfl (st_rl cB (q02 inf4) len_cB rfl rfl rfl rfl rfl rfl h8 rfl) rfl ?_)))
  refine sd ?_
  obtain ⟨x9,h10,hF⟩:=q00 hF
  refine sr ?_
  refine RS.q (u:=.ptr 1 0 0) rfl (q16 und25 rfl (q02 inf23) rfl rfl rfl) (RS.q (u:=.isl false (List.map cGNode p3)) rfl (q05 und23 rfl rfl rfl rfl) (RS.mv rfl rfl rfl rfl (RS.q (u:=.iptr (cGNode x9)) rfl (q1x rfl rfl (q2q cGNode und23 (q02 inf43) q1h h10 rfl)) (RS.q (u:=.iptr [.isl false (List.map cGArc x9.Arcs)]) rfl (q7a und43 rfl (q02 inf41) rfl rfl) (RS.q (u:=.isl false (List.map cGArc x9.Arcs)) rfl (q43 und41 rfl rfl rfl) (RS.q rfl (q1d rfl rfl rfl (q14 cGArc und41)) (RS.mv rfl rfl rfl rfl ?_)))))))
  refine sd ?_
  refine WPU.ghost (tm':=fr 49 [(0,.int .i64 p1),(1,.ptr 0 0 0),(3,.ptr 2 0 0),(4,.ptr 3 0 0),(17,.isl false (List.map cGArc x9.Arcs)),(18,.int .i64 (x9.Arcs.length:Int)),(19,.int .i64 0)]) (Gh.sub ⟨rfl,rfl,rfl,rfl,rfl,rfl,rfl,trivial⟩) (Nat.le_of_ble_eq_true rfl) ?_
  refine WPU.loopK (fun m tm σ=>∃ z18:Int,∃ l19:List Bool,∃ l20:List Bool,q2y p1 p2 p3 p4 x9 (q2z n) m z18 l19 l20=some r∧tm=fr 49 [(0,.int .i64 p1),(1,.ptr 0 0 0),(3,.ptr 2 0 0),(4,.ptr 3 0 0),(17,.isl false (List.map cGArc x9.Arcs)),(18,.int .i64 (x9.Arcs.length:Int)),(19,.int .i64 z18)]∧σ=⟨[(0,.row [.sl 4 0 p2 p2] 40),(1,.row [.isl false (List.map cGNode p3)] 25),(2,.row [.sl 5 0 p4 p4] 40),(3,.row [.fn (.func 35) [] [.ptr 0 0 0,.ptr 1 0 0,.ptr 2 0 0,.ptr 3 0 0]] 51),(4,.row (List.map cB l19).flatten 4),(5,.row (List.map cB l20).flatten 4)],6⟩) (fun tm σ=>∃ l21:List Bool,∃ l22:List Bool,q3y p1 p2 p4 l21 l22=some r∧tm=fr 49 [(0,.int .i64 p1),(1,.ptr 0 0 0),(3,.ptr 2 0 0)]∧σ=⟨[(0,.row [.sl 4 0 p2 p2] 40),(1,.row [.isl false (List.map cGNode p3)] 25),(2,.row [.sl 5 0 p4 p4] 40),(3,.row [.fn (.func 35) [] [.ptr 0 0 0,.ptr 1 0 0,.ptr 2 0 0,.ptr 3 0 0]] 51),(4,.row (List.map cB l21).flatten 4),(5,.row (List.map cB l22).flatten 4)],6⟩) n ⟨0,(p5.set p1.toNat true),p6,hF,rfl,rfl⟩ ?_ ?_
  rintro _ _ ⟨l21,l22,hF,rfl,rfl⟩
  unfold q3y at hF
  refine st ?_
  obtain ⟨x23,h24,hF⟩:=q00 hF
  obtain ⟨x25,h26,hF⟩:=q00 hF
  refine WPU.drawE Try.tb_ok [(2,5),(3,5)] (by kernel_rfl) ?_
  refine RD.q (u:=.sl 4 0 p2 p2) rfl (q05 und40 rfl rfl rfl rfl) (RD.mv rfl rfl rfl rfl (RD.q (u:=.sl 5 0 p4 p4) rfl (q05 und40 rfl rfl rfl rfl) (RD.mv rfl rfl rfl rfl (RD.q (u:=.ptr 4 0 (0*1+p1.toNat*1)) rfl (q1x rfl rfl (qav und40 (q02 inf4) rfl h24)) (RD.actn (u:=.junk) (σ':=⟨[(0,.row [.sl 4 0 p2 p2] 40),(1,.row [.isl false (List.map cGNode p3)] 25),(2,.row [.sl 5 0 p4 p4] 40),(3,.row [.fn (.func 35) [] [.ptr 0 0 0,.ptr 1 0 0,.ptr 2 0 0,.ptr 3 0 0]] 51),(4,.row (List.map cB (l21.set p1.toNat false)).flatten 4),(5,.row (List.map cB l22).flatten 4)],6⟩) rfl (st_rl cB (q02 inf4) len_cB rfl rfl rfl rfl rfl rfl h24 rfl) rfl (RD.q (u:=.ptr 5 0 (0*1+p1.toNat*1)) rfl (q1x rfl rfl (qav und40 (q02 inf4) rfl h26)) (RD.actn (u:=.junk) (σ':=⟨[(0,.row [.sl 4 0 p2 p2] 40),(1,.row [.isl false (List.map cGNode p3)] 25),(2,.row [.sl 5 0 p4 p4] 40),(3,.row [.fn (.func 35) [] [.ptr 0 0 0,.ptr 1 0 0,.ptr 2 0 0,.ptr 3 0 0]] 51),(4,.row (List.map cB (l21.set p1.toNat false)).flatten 4),(5,.row (List.map cB (l22.set p1.toNat true)).flatten 4)],6⟩) rfl (st_rl cB (q02 inf4) len_cB rfl rfl rfl rfl rfl rfl h26 rfl) rfl ?_)))))))
  refine RD.done ⟨by kernel_rfl,⟨q05 und40 rfl rfl rfl rfl,⟨q33 rfl,trivial⟩⟩,?_⟩
  refine sr ?_
  refine sd ?_
  refine WPU.ret ?_
  refine st ?_
  have hr:=Option.some.inj hF
  subst hr
  exact ⟨.inr rfl,[.bool false],q1w rfl (q1o),.bool false,⟨[(0,.row [.sl 4 0 p2 p2] 40),(1,.row [.isl false (List.map cGNode p3)] 25),(2,.row [.sl 5 0 p4 p4] 40),(3,.row [.fn (.func 35) [] [.ptr 0 0 0,.ptr 1 0 0,.ptr 2 0 0,.ptr 3 0 0]] 51),(4,.row (List.map cB (l21.set p1.toNat false)).flatten 4),(5,.row (List.map cB (l22.set p1.toNat true)).flatten 4)],6⟩,(Nat.le_of_ble_eq_true rfl),Gh.to (n1:=6) [] rfl rfl (Nat.le_of_ble_eq_true rfl) (Nat.le_of_ble_eq_true rfl) BUL.h BH.h,stF [],rfl,rfl⟩
  rintro m1 _ _ ⟨z18,l19,l20,hF,rfl,rfl⟩
  rcases m1 with _ | m1
  cases hF
  unfold q2y at hF
  refine sr ?_
  refine RS.q rfl (q06 rfl rfl (q2c _ _ _) rfl) ?_
  refine sd ?_
  refine WPU.condS (t:=(decide (z18<(x9.Arcs.length:Int)))) rfl (fun h27=>?_) (fun h27=>?_)
  replace hF:=q0i h27 hF
  refine st ?_
  refine WPU.skip ?_
  refine st ?_
  refine WPU.block ?_
  refine st ?_
  obtain ⟨x28,h29,hF⟩:=q00 hF
  refine sr ?_
  refine RS.q (u:=.iptr (cGArc x28)) rfl (q1x rfl rfl (q2q cGArc und41 (q02 inf45) q1q h29 rfl)) (RS.q (u:=.agg (cGArc x28)) rfl (q7y und45 rfl (q02 inf45) rfl rfl) (RS.q (u:=.ptr 6 0 0) (σ':=⟨[(6,.row [.int .i64 0,.int .i64 0] 45),(0,.row [.sl 4 0 p2 p2] 40),(1,.row [.isl false (List.map cGNode p3)] 25),(2,.row [.sl 5 0 p4 p4] 40),(3,.row [.fn (.func 35) [] [.ptr 0 0 0,.ptr 1 0 0,.ptr 2 0 0,.ptr 3 0 0]] 51),(4,.row (List.map cB l19).flatten 4),(5,.row (List.map cB l20).flatten 4)],7⟩) rfl (q1b inf45 rfl rfl) (RS.opn (u:=.junk) (σ':=⟨[(6,.row (cGArc x28) 45),(0,.row [.sl 4 0 p2 p2] 40),(1,.row [.isl false (List.map cGNode p3)] 25),(2,.row [.sl 5 0 p4 p4] 40),(3,.row [.fn (.func 35) [] [.ptr 0 0 0,.ptr 1 0 0,.ptr 2 0 0,.ptr 3 0 0]] 51),(4,.row (List.map cB l19).flatten 4),(5,.row (List.map cB l20).flatten 4)],7⟩) rfl (q0y (q02 inf45) rfl rfl rfl rfl rfl rfl rfl rfl) rfl ?_)))
  refine sd ?_
  obtain ⟨j43,h42,hF⟩:=q00 hF
  refine WPU.joinK (fun tm σ=>tm=fr 49 [(0,.int .i64 p1),(1,.ptr 0 0 0),(3,.ptr 2 0 0),(4,.ptr 3 0 0),(17,.isl false (List.map cGArc x9.Arcs)),(18,.int .i64 (x9.Arcs.length:Int)),(19,.int .i64 z18),(41,.bool j43.1)]∧σ=⟨[(6,.row (cGArc x28) 45),(0,.row [.sl 4 0 p2 p2] 40),(1,.row [.isl false (List.map cGNode p3)] 25),(2,.row [.sl 5 0 p4 p4] 40),(3,.row [.fn (.func 35) [] [.ptr 0 0 0,.ptr 1 0 0,.ptr 2 0 0,.ptr 3 0 0]] 51),(4,.row (List.map cB j43.2.1).flatten 4),(5,.row (List.map cB j43.2.2).flatten 4)],7⟩) ?_ ?_
  rintro _ _ ⟨rfl,rfl⟩
  refine st ?_
  refine WPU.condS (t:=j43.1) rfl (fun h44=>?_) (fun h44=>?_)
  replace hF:=q0i h44 hF
  refine sr ?_
  refine sd ?_
  refine WPU.ret ?_
  refine st ?_
  have hr:=Option.some.inj hF
  subst hr
  exact ⟨.inr rfl,[.bool true],q1w rfl (q1o),.bool true,⟨[(0,.row [.sl 4 0 p2 p2] 40),(1,.row [.isl false (List.map cGNode p3)] 25),(2,.row [.sl 5 0 p4 p4] 40),(3,.row [.fn (.func 35) [] [.ptr 0 0 0,.ptr 1 0 0,.ptr 2 0 0,.ptr 3 0 0]] 51),(4,.row (List.map cB j43.2.1).flatten 4),(5,.row (List.map cB j43.2.2).flatten 4)],6⟩,(Nat.le_of_ble_eq_true rfl),Gh.to (n1:=6) [] rfl rfl (Nat.le_of_ble_eq_true rfl) (Nat.le_of_ble_eq_true rfl) BUL.h BH.h,stF [],rfl,rfl⟩
  replace hF:=q0h h44 hF
  refine st ?_
  refine WPU.skip ?_
  refine sr ?_
  refine RS.q rfl (q06 rfl rfl (q3l _ _ _) rfl) (RS.mv rfl rfl rfl rfl ?_)
  refine sd ?_
  exact ⟨m1,_,_,Nat.lt_succ_self _,⟨(IntKind.i64.wrap (z18+1)),j43.2.1,j43.2.2,hF,rfl,rfl⟩,(Nat.le_of_ble_eq_true rfl),Gh.toC (n1:=6) ⟨rfl,rfl,rfl,rfl,rfl,rfl,rfl,trivial⟩ rfl (Nat.le_of_ble_eq_true rfl) (by simp)⟩
  obtain ⟨x30,h31,h42⟩:=q00 h42
  rcases q2m x30 with h32 | h32
  replace h42:=q0i h32 h42
  replace h42:=Option.some.inj h42
  subst h42
  refine sr ?_
  refine RS.q (u:=.sl 4 0 p2 p2) rfl (q05 und40 rfl rfl rfl rfl) (RS.q (u:=.ptr 6 0 1) rfl (q16 und45 rfl (q02 inf3) rfl rfl rfl) (RS.q (u:=.int .i64 x28.To) rfl (q05 und3 rfl rfl rfl rfl) (RS.q (u:=.ptr 4 0 (0*1+x28.To.toNat*1)) rfl (q1x rfl rfl (qav und40 (q02 inf4) rfl h31)) (RS.q (u:=.bool x30) rfl (qay cB (fun x=>.bool x) und4 rfl (fun _=>rfl) rfl rfl h31) (RS.mv rfl rfl rfl rfl ?_)))))
  repeat refine RS.no (want0 rfl rfl rfl h32) rfl rfl ?_
  repeat refine RS.no (wantT rfl rfl rfl) rfl rfl ?_
  refine RS.no (want0 rfl rfl rfl h32) rfl rfl (RS.q (u:=.bool true) rfl (q0l rfl h32 rfl) ?_)
  refine sd ?_
  exact ⟨_,_,⟨rfl,rfl⟩,(Nat.le_of_ble_eq_true rfl),Gh.toC (n1:=7) ⟨rfl,rfl,rfl,rfl,rfl,rfl,rfl,rfl,trivial⟩ rfl (Nat.le_of_ble_eq_true rfl) (by simp)⟩
  replace h42:=q0h h32 h42
  obtain ⟨x33,h34,h42⟩:=q00 h42
  rcases q2m (!x33) with h35 | h35
  replace h42:=q0i h35 h42
  obtain ⟨r36,h37,h42⟩:=q00 h42
  replace h42:=Option.some.inj h42
  subst h42
  refine sr ?_
  refine RS.q (u:=.sl 4 0 p2 p2) rfl (q05 und40 rfl rfl rfl rfl) (RS.q (u:=.ptr 6 0 1) rfl (q16 und45 rfl (q02 inf3) rfl rfl rfl) (RS.q (u:=.int .i64 x28.To) rfl (q05 und3 rfl rfl rfl rfl) (RS.q (u:=.ptr 4 0 (0*1+x28.To.toNat*1)) rfl (q1x rfl rfl (qav und40 (q02 inf4) rfl h31)) (RS.q (u:=.bool x30) rfl (qay cB (fun x=>.bool x) und4 rfl (fun _=>rfl) rfl rfl h31) (RS.mv rfl rfl rfl rfl (RS.op (u:=.sl 5 0 p4 p4) (want1 rfl rfl rfl h32) (q05 und40 rfl rfl rfl rfl) rfl rfl (RS.op (u:=.ptr 6 0 1) (want1 rfl rfl rfl h32) (q16 und45 rfl (q02 inf3) rfl rfl rfl) rfl rfl ?_)))))))
  refine RS.op (u:=.int .i64 x28.To) (want1 rfl rfl rfl h32) (q05 und3 rfl rfl rfl rfl) rfl rfl (RS.op (u:=.ptr 5 0 (0*1+x28.To.toNat*1)) (want1 rfl rfl rfl h32) (q1x rfl rfl (qav und40 (q02 inf4) rfl h34)) rfl rfl (RS.op (u:=.bool x33) (want1 rfl rfl rfl h32) (qay cB (fun x=>.bool x) und4 rfl (fun _=>rfl) rfl rfl h34) rfl rfl (RS.op (u:=.bool (!x33)) (want1 rfl rfl rfl h32) (q7b rfl rfl rfl rfl) rfl rfl (RS.op (want1 rfl rfl rfl h32) (q33 rfl) rfl rfl (RS.op (u:=.fn (.func 35) [] [.ptr 0 0 0,.ptr 1 0 0,.ptr 2 0 0,.ptr 3 0 0]) (want1 rfl rfl rfl h35) (q05 und51 rfl rfl rfl rfl) rfl rfl (RS.op (u:=.ptr 6 0 1) (want1 rfl rfl rfl h35) (q16 und45 rfl (q02 inf3) rfl rfl rfl) rfl rfl (RS.op (u:=.int .i64 x28.To) (want1 rfl rfl rfl h35) (q05 und3 rfl rfl rfl rfl) rfl rfl ?_)))))))
  refine RS.callx (R:=fun u σ'=>∃ t38:Nat→Nat,u = .bool r36.1∧σ'=⟨[(6,.row (cGArc x28) 45),(0,.row [.sl 4 0 p2 p2] 40),(1,.row [.isl false (List.map cGNode p3)] 25),(2,.row [.sl 5 0 p4 p4] 40),(3,.row [.fn (.func 35) [] [.ptr 0 0 0,.ptr 1 0 0,.ptr 2 0 0,.ptr 3 0 0]] 51),(4,.row (List.map cB r36.2.1).flatten 4),(5,.row (List.map cB r36.2.2).flatten 4)],7⟩) (args:=[.int .i64 x28.To,.ptr 0 0 0,.ptr 1 0 0,.ptr 2 0 0,.ptr 3 0 0]) (want1 rfl rfl rfl h35) (q01 rfl rfl fn35 hb35 rfl rfl) (EvU.st [0,1,2,3,4,5] (ih x28.To p2 p3 p4 l19 l20 r36 h37 )) rfl rfl ?_
  rintro _ _ ⟨t38,rfl,rfl⟩
  refine RS.op (u:=.bool r36.1) (want1 rfl rfl rfl h32) (q0l rfl h35 rfl) rfl rfl (RS.q (u:=.bool r36.1) rfl (q0k rfl h32 rfl) ?_)
  refine sd ?_
  exact ⟨_,_,⟨rfl,rfl⟩,(Nat.le_of_ble_eq_true rfl),Gh.toC (n1:=7) ⟨rfl,rfl,rfl,rfl,rfl,rfl,rfl,rfl,trivial⟩ rfl (Nat.le_of_ble_eq_true rfl) (by simp)⟩
  replace h42:=q0h h35 h42
  replace h42:=Option.some.inj h42
  subst h42
  refine sr ?_
  refine RS.q (u:=.sl 4 0 p2 p2) rfl (q05 und40 rfl rfl rfl rfl) (RS.q (u:=.ptr 6 0 1) rfl (q16 und45 rfl (q02 inf3) rfl rfl rfl) (RS.q (u:=.int .i64 x28.To) rfl (q05 und3 rfl rfl rfl rfl) (RS.q (u:=.ptr 4 0 (0*1+x28.To.toNat*1)) rfl (q1x rfl rfl (qav und40 (q02 inf4) rfl h31)) (RS.q (u:=.bool x30) rfl (qay cB (fun x=>.bool x) und4 rfl (fun _=>rfl) rfl rfl h31) (RS.mv rfl rfl rfl rfl (RS.op (u:=.sl 5 0 p4 p4) (want1 rfl rfl rfl h32) (q05 und40 rfl rfl rfl rfl) rfl rfl (RS.op (u:=.ptr 6 0 1) (want1 rfl rfl rfl h32) (q16 und45 rfl (q02 inf3) rfl rfl rfl) rfl rfl ?_)))))))
  refine RS.op (u:=.int .i64 x28.To) (want1 rfl rfl rfl h32) (q05 und3 rfl rfl rfl rfl) rfl rfl (RS.op (u:=.ptr 5 0 (0*1+x28.To.toNat*1)) (want1 rfl rfl rfl h32) (q1x rfl rfl (qav und40 (q02 inf4) rfl h34)) rfl rfl (RS.op (u:=.bool x33) (want1 rfl rfl rfl h32) (qay cB (fun x=>.bool x) und4 rfl (fun _=>rfl) rfl rfl h34) rfl rfl (RS.op (u:=.bool (!x33)) (want1 rfl rfl rfl h32) (q7b rfl rfl rfl rfl) rfl rfl (RS.op (want1 rfl rfl rfl h32) (q33 rfl) rfl rfl ?_))))
  repeat refine RS.no (want0 rfl rfl rfl h35) rfl rfl ?_
  refine RS.op (u:=.bool false) (want1 rfl rfl rfl h32) (q0k rfl h35 rfl) rfl rfl (RS.q (u:=.bool false) rfl (q0k rfl h32 rfl) ?_)
  refine sd ?_
  exact ⟨_,_,⟨rfl,rfl⟩,(Nat.le_of_ble_eq_true rfl),Gh.toC (n1:=7) ⟨rfl,rfl,rfl,rfl,rfl,rfl,rfl,rfl,trivial⟩ rfl (Nat.le_of_ble_eq_true rfl) (by simp)⟩
  replace hF:=q0h h27 hF
  refine st ?_
  refine WPU.exit ?_
  refine st ?_
  exact ⟨_,_,⟨l19,l20,hF,rfl,rfl⟩,(Nat.le_of_ble_eq_true rfl),Gh.toC (n1:=6) ⟨rfl,rfl,rfl,trivial⟩ rfl (Nat.le_of_ble_eq_true rfl) (by simp)⟩
def q5w  (l12:List Bool) (l13:List Bool):Option (Bool) :=
 some false
def q4l (p1:GFS) (n:Nat):Nat→Int→(List Bool)→(List Bool)→Option (Bool)
 | 0,_,_,_=>none
 | m1+1,z9,l10,l11 =>
  cond (decide (z9<(p1.Nodes.length:Int)))
   (bindO (bindO (idxV l10 0 ((p1.Nodes.length:Int).toNat) z9) fun x15 =>
   cond (!x15)
    (bindO (q2z n z9 ((p1.Nodes.length:Int).toNat) p1.Nodes ((p1.Nodes.length:Int).toNat) l11 l10) fun r18 =>
    some (r18.1,r18.2.2,r18.2.1))
    (some (false,l10,l11))) fun j25 =>
   cond j25.1
    (some true)
    ((q4l p1 n m1) (IntKind.i64.wrap (z9+1)) j25.2.1 j25.2.2))
   (q5w l10 l11)
def q59 (n:Nat) (p1:GFS):Option (Bool) :=
 needO (0≤(p1.Nodes.length:Int)∧1*(p1.Nodes.length:Int).toNat≤281474976710656∧(p1.Nodes.length:Int)≤281474976710656) (
 needO (0≤(p1.Nodes.length:Int)∧1*(p1.Nodes.length:Int).toNat≤281474976710656∧(p1.Nodes.length:Int)≤281474976710656) (
 q4l p1 n n 0 (List.replicate (p1.Nodes.length:Int).toNat false) (List.replicate (p1.Nodes.length:Int).toNat false)))
theorem graph_Cyclic_0 (n:Nat) (p1:GFS) (r:Bool) (hF:q59 n p1=some r):EvU Try.prog 22 [.agg [.isl false (List.map cGNode p1.Nodes)]] ⟨[],0⟩ (fun u _=>u = .bool r∧Bel 0 u):=by
 unfold q59 at hF
 refine EvU.of_body Try.tb_ok fn22 rfl ?_
 refine WPU.ghost (tm':=fr 33 [(0,.agg [.isl false (List.map cGNode p1.Nodes)])]) (Gh.start (Nat.le_of_ble_eq_true rfl)) (Nat.zero_le _) ?_
 refine sr ?_
 refine RS.q (u:=.ptr 0 0 0) (σ':=⟨[(0,.row [.isl false (List.map cGNode p1.Nodes)] 25)],1⟩) rfl (q2x rfl rfl rfl) ?_
 refine sd ?_
 obtain ⟨h2,hF⟩:=q32 hF
 obtain ⟨h3,hF⟩:=q32 hF
 refine WPU.drawQ Try.tb_ok [(3,some ((p1.Nodes.length:Int).toNat),(List.map cB (List.replicate (p1.Nodes.length:Int).toNat false)).flatten,4),(7,some ((p1.Nodes.length:Int).toNat),(List.map cB (List.replicate (p1.Nodes.length:Int).toNat false)).flatten,4),(8,none,[.nils],40),(9,none,[.nils],40)] [(4,10),(5,10),(6,10)] (nb:=1) (σe:=⟨[(0,.row [.isl false (List.map cGNode p1.Nodes)] 25)],5⟩) (σ1:=⟨[(4,.row [.nils] 40),(3,.row [.nils] 40),(2,.row (List.map cB (List.replicate (p1.Nodes.length:Int).toNat false)).flatten 4),(1,.row (List.map cB (List.replicate (p1.Nodes.length:Int).toNat false)).flatten 4),(0,.row [.isl false (List.map cGNode p1.Nodes)] 25)],5⟩) (q:=[⟨3,1,some ((p1.Nodes.length:Int).toNat),(List.map cB (List.replicate (p1.Nodes.length:Int).toNat false)).flatten,4⟩,⟨7,2,some ((p1.Nodes.length:Int).toNat),(List.map cB (List.replicate (p1.Nodes.length:Int).toNat false)).flatten,4⟩,⟨8,3,none,[.nils],40⟩,⟨9,4,none,[.nils],40⟩]) (by kernel_rfl) (List.cons_ne_nil _ _) ⟨(q4i 0 (fun q=>bel_cB _ q) (List.replicate (p1.Nodes.length:Int).toNat false)),(q4i 0 (fun q=>bel_cB _ q) (List.replicate (p1.Nodes.length:Int).toNat false)),BUL.h,BUL.h,trivial⟩ rfl rfl rfl rfl ?_
 refine RQ.early (u:=.ptr 0 0 0) rfl (q16 und25 rfl (q02 inf23) rfl rfl rfl) (q16 und25 rfl (q02 inf23) rfl rfl rfl) rfl BU.h rfl rfl ?_
 refine RQ.early (u:=.isl false (List.map cGNode p1.Nodes)) rfl (q05 und23 rfl rfl rfl rfl) (q05 und23 rfl rfl rfl rfl) rfl BU.h rfl rfl ?_
 refine RQ.early (u:=.int .i64 (p1.Nodes.length:Int)) rfl (q1d rfl rfl rfl (q14 cGNode und23)) (q1d rfl rfl rfl (q14 cGNode und23)) rfl BU.h rfl rfl ?_
 refine RQ.alloc rfl (fun s=>op_mks cB false rfl rfl und40 inf4 rfl rfl rfl rfl h2) rfl rfl rfl ?_
 refine RQ.early (u:=.ptr 0 0 0) rfl (q16 und25 rfl (q02 inf23) rfl rfl rfl) (q16 und25 rfl (q02 inf23) rfl rfl rfl) rfl BU.h rfl rfl ?_
 refine RQ.early (u:=.isl false (List.map cGNode p1.Nodes)) rfl (q05 und23 rfl rfl rfl rfl) (q05 und23 rfl rfl rfl rfl) rfl BU.h rfl rfl ?_
 refine RQ.early (u:=.int .i64 (p1.Nodes.length:Int)) rfl (q1d rfl rfl rfl (q14 cGNode und23)) (q1d rfl rfl rfl (q14 cGNode und23)) rfl BU.h rfl rfl ?_
 refine RQ.alloc rfl (fun s=>op_mks cB false rfl rfl und40 inf4 rfl rfl rfl rfl h3) rfl rfl rfl ?_
 refine RQ.alloc rfl (fun s=>q1b inf40 rfl rfl) rfl rfl rfl ?_
 refine RQ.alloc rfl (fun s=>q1b inf40 rfl rfl) rfl rfl rfl ?_
 refine RQ.loc (mk:=783) (σ':=⟨[(4,.row [.nils] 40),(3,.row [.sl 1 0 ((p1.Nodes.length:Int).toNat) ((p1.Nodes.length:Int).toNat)] 40),(2,.row (List.map cB (List.replicate (p1.Nodes.length:Int).toNat false)).flatten 4),(1,.row (List.map cB (List.replicate (p1.Nodes.length:Int).toNat false)).flatten 4),(0,.row [.isl false (List.map cGNode p1.Nodes)] 25)],5⟩) rfl (store_loc (q02 inf40) rfl rfl rfl rfl rfl rfl) (by kernel_rfl) rfl rfl rfl rfl ⟨.inl (show Nat.testBit 783 3=true by decide),⟨.inr ⟨show (2:Nat)≠3 by decide,BUL.h⟩,⟨.inl (show Nat.testBit 783 8=true by decide),⟨.inl (show Nat.testBit 783 9=true by decide),trivial⟩⟩⟩⟩ ?_
 refine RQ.actn (u:=.junk) (σ':=⟨[(4,.row [.sl 2 0 ((p1.Nodes.length:Int).toNat) ((p1.Nodes.length:Int).toNat)] 40),(3,.row [.sl 1 0 ((p1.Nodes.length:Int).toNat) ((p1.Nodes.length:Int).toNat)] 40),(2,.row (List.map cB (List.replicate (p1.Nodes.length:Int).toNat false)).flatten 4),(1,.row (List.map cB (List.replicate (p1.Nodes.length:Int).toNat false)).flatten 4),(0,.row [.isl false (List.map cGNode p1.Nodes)] 25)],5⟩) rfl (q0y (q02 inf40) rfl rfl rfl rfl rfl rfl rfl rfl) rfl ?_
 refine RQ.done ⟨by kernel_rfl,by kernel_rfl,⟨q16 und25 rfl (q02 inf23) rfl rfl rfl,⟨q05 und23 rfl rfl rfl rfl,⟨q1d rfl rfl rfl (q14 cGNode und23),trivial⟩⟩⟩,?_⟩
 refine sr ?_
 refine RS.q (u:=.ptr 5 0 0) (σ':=⟨[(5,.row [.nilf] 51),(4,.row [.sl 2 0 ((p1.Nodes.length:Int).toNat) ((p1.Nodes.length:Int).toNat)] 40),(3,.row [.sl 1 0 ((p1.Nodes.length:Int).toNat) ((p1.Nodes.length:Int).toNat)] 40),(2,.row (List.map cB (List.replicate (p1.Nodes.length:Int).toNat false)).flatten 4),(1,.row (List.map cB (List.replicate (p1.Nodes.length:Int).toNat false)).flatten 4),(0,.row [.isl false (List.map cGNode p1.Nodes)] 25)],6⟩) rfl (q1b inf51 rfl rfl) ?_
 refine se ?_
 refine RS.q rfl (op_fun rfl rfl) (RS.opn (u:=.junk) (σ':=⟨[(5,.row [.fn (.func 35) [] [.ptr 3 0 0,.ptr 0 0 0,.ptr 4 0 0,.ptr 5 0 0]] 51),(4,.row [.sl 2 0 ((p1.Nodes.length:Int).toNat) ((p1.Nodes.length:Int).toNat)] 40),(3,.row [.sl 1 0 ((p1.Nodes.length:Int).toNat) ((p1.Nodes.length:Int).toNat)] 40),(2,.row (List.map cB (List.replicate (p1.Nodes.length:Int).toNat false)).flatten 4),(1,.row (List.map cB (List.replicate (p1.Nodes.length:Int).toNat false)).flatten 4),(0,.row [.isl false (List.map cGNode p1.Nodes)] 25)],6⟩) rfl (q0y (q02 inf51) rfl rfl rfl rfl rfl rfl rfl rfl) rfl ?_)
 refine se ?_
 refine RS.q (u:=.ptr 0 0 0) rfl (q16 und25 rfl (q02 inf23) rfl rfl rfl) (RS.q (u:=.isl false (List.map cGNode p1.Nodes)) rfl (q05 und23 rfl rfl rfl rfl) (RS.q rfl (q1d rfl rfl rfl (q14 cGNode und23)) (RS.mv rfl rfl rfl rfl ?_)))
 refine sd ?_
 refine WPU.ghost (tm':=fr 33 [(4,.ptr 4 0 0),(5,.ptr 5 0 0),(18,.int .i64 (p1.Nodes.length:Int)),(19,.int .i64 0)]) (Gh.sub ⟨rfl,rfl,rfl,rfl,trivial⟩) (Nat.zero_le _) ?_
 refine WPU.loopK (fun m tm σ=>∃ z9:Int,∃ l10:List Bool,∃ l11:List Bool,q4l p1 n m z9 l10 l11=some r∧tm=fr 33 [(4,.ptr 4 0 0),(5,.ptr 5 0 0),(18,.int .i64 (p1.Nodes.length:Int)),(19,.int .i64 z9)]∧σ=⟨[(5,.row [.fn (.func 35) [] [.ptr 3 0 0,.ptr 0 0 0,.ptr 4 0 0,.ptr 5 0 0]] 51),(4,.row [.sl 2 0 ((p1.Nodes.length:Int).toNat) ((p1.Nodes.length:Int).toNat)] 40),(3,.row [.sl 1 0 ((p1.Nodes.length:Int).toNat) ((p1.Nodes.length:Int).toNat)] 40),(2,.row (List.map cB l10).flatten 4),(1,.row (List.map cB l11).flatten 4),(0,.row [.isl false (List.map cGNode p1.Nodes)] 25)],6⟩) (fun tm σ=>∃ l12:List Bool,∃ l13:List Bool,q5w l12 l13=some r∧tm=fr 33 []∧σ=⟨[(5,.row [.fn (.func 35) [] [.ptr 3 0 0,.ptr 0 0 0,.ptr 4 0 0,.ptr 5 0 0]] 51),(4,.row [.sl 2 0 ((p1.Nodes.length:Int).toNat) ((p1.Nodes.length:Int).toNat)] 40),(3,.row [.sl 1 0 ((p1.Nodes.length:Int).toNat) ((p1.Nodes.length:Int).toNat)] 40),(2,.row (List.map cB l12).flatten 4),(1,.row (List.map cB l13).flatten 4),(0,.row [.isl false (List.map cGNode p1.Nodes)] 25)],6⟩) n ⟨0,(List.replicate (p1.Nodes.length:Int).toNat false),(List.replicate (p1.Nodes.length:Int).toNat false),hF,rfl,rfl⟩ ?_ ?_
 rintro _ _ ⟨l12,l13,hF,rfl,rfl⟩
 unfold q5w at hF
 refine sr ?_
 refine sd ?_
 refine WPU.ret ?_
 refine st ?_
 have hr:=Option.some.inj hF
 subst hr
 exact ⟨.inr rfl,[.bool false],q1w rfl (q1o),.bool false,⟨[],0⟩,Nat.le_refl _,Gh.toR (.bool false) rfl,rfl,BU.h⟩
 rintro m1 _ _ ⟨z9,l10,l11,hF,rfl,rfl⟩
 rcases m1 with _ | m1
 cases hF
 unfold q4l at hF
 refine sr ?_
 refine RS.q rfl (q06 rfl rfl (q2c _ _ _) rfl) ?_
 refine sd ?_
 refine WPU.condS (t:=(decide (z9<(p1.Nodes.length:Int)))) rfl (fun h14=>?_) (fun h14=>?_)
 replace hF:=q0i h14 hF
 refine st ?_
 refine WPU.skip ?_
 refine st ?_
 refine WPU.block ?_
 refine sr ?_
 refine sd ?_
 obtain ⟨j25,h24,hF⟩:=q00 hF
 refine WPU.joinK (fun tm σ=>tm=fr 33 [(4,.ptr 4 0 0),(5,.ptr 5 0 0),(18,.int .i64 (p1.Nodes.length:Int)),(19,.int .i64 z9),(31,.bool j25.1)]∧σ=⟨[(5,.row [.fn (.func 35) [] [.ptr 3 0 0,.ptr 0 0 0,.ptr 4 0 0,.ptr 5 0 0]] 51),(4,.row [.sl 2 0 ((p1.Nodes.length:Int).toNat) ((p1.Nodes.length:Int).toNat)] 40),(3,.row [.sl 1 0 ((p1.Nodes.length:Int).toNat) ((p1.Nodes.length:Int).toNat)] 40),(2,.row (List.map cB j25.2.1).flatten 4),(1,.row (List.map cB j25.2.2).flatten 4),(0,.row [.isl false (List.map cGNode p1.Nodes)] 25)],6⟩) ?_ ?_
 rintro _ _ ⟨rfl,rfl⟩
 refine st ?_
 refine WPU.condS (t:=j25.1) rfl (fun h26=>?_) (fun h26=>?_)
 replace hF:=q0i h26 hF
 refine sr ?_
 refine sd ?_
 refine WPU.ret ?_
 refine st ?_
 have hr:=Option.some.inj hF
 subst hr
 exact ⟨.inr rfl,[.bool true],q1w rfl (q1o),.bool true,⟨[],0⟩,Nat.le_refl _,Gh.toR (.bool true) rfl,rfl,BU.h⟩
 replace hF:=q0h h26 hF
 refine st ?_
 refine WPU.skip ?_
 refine sr ?_
 refine RS.q rfl (q06 rfl rfl (q3l _ _ _) rfl) (RS.mv rfl rfl rfl rfl ?_)
 refine sd ?_
 exact ⟨m1,_,_,Nat.lt_succ_self _,⟨(IntKind.i64.wrap (z9+1)),j25.2.1,j25.2.2,hF,rfl,rfl⟩,(Nat.zero_le _),Gh.toC (n1:=6) ⟨rfl,rfl,rfl,rfl,trivial⟩ rfl (Nat.zero_le _) (by simp)⟩
 obtain ⟨x15,h16,h24⟩:=q00 h24
 rcases q2m (!x15) with h17 | h17
 replace h24:=q0i h17 h24
 obtain ⟨r18,h19,h24⟩:=q00 h24
 replace h24:=Option.some.inj h24
 subst h24
 refine sr ?_
 refine RS.q (u:=.sl 2 0 ((p1.Nodes.length:Int).toNat) ((p1.Nodes.length:Int).toNat)) rfl (q05 und40 rfl rfl rfl rfl) (RS.mv rfl rfl rfl rfl (RS.q (u:=.ptr 2 0 (0*1+z9.toNat*1)) rfl (q1x rfl rfl (qav und40 (q02 inf4) rfl h16)) (RS.q (u:=.bool x15) rfl (qay cB (fun x=>.bool x) und4 rfl (fun _=>rfl) rfl rfl h16) (RS.q (u:=.bool (!x15)) rfl (q7b rfl rfl rfl rfl) (RS.mv rfl rfl rfl rfl (RS.op (u:=.fn (.func 35) [] [.ptr 3 0 0,.ptr 0 0 0,.ptr 4 0 0,.ptr 5 0 0]) (want1 rfl rfl rfl h17) (q05 und51 rfl rfl rfl rfl) rfl rfl (RS.op (want1 rfl rfl rfl h17) (q33 rfl) rfl rfl ?_)))))))
 refine RS.callx (R:=fun u σ'=>∃ t20:Nat→Nat,u = .bool r18.1∧σ'=⟨[(5,.row [.fn (.func 35) [] [.ptr 3 0 0,.ptr 0 0 0,.ptr 4 0 0,.ptr 5 0 0]] 51),(4,.row [.sl 2 0 ((p1.Nodes.length:Int).toNat) ((p1.Nodes.length:Int).toNat)] 40),(3,.row [.sl 1 0 ((p1.Nodes.length:Int).toNat) ((p1.Nodes.length:Int).toNat)] 40),(2,.row (List.map cB r18.2.2).flatten 4),(1,.row (List.map cB r18.2.1).flatten 4),(0,.row [.isl false (List.map cGNode p1.Nodes)] 25)],6⟩) (args:=[.int .i64 z9,.ptr 3 0 0,.ptr 0 0 0,.ptr 4 0 0,.ptr 5 0 0]) (want1 rfl rfl rfl h17) (q01 rfl rfl fn35 hb35 rfl rfl) (EvU.st [3,0,4,5,1,2] (q5u n z9 ((p1.Nodes.length:Int).toNat) p1.Nodes ((p1.Nodes.length:Int).toNat) l11 l10 r18 h19 )) rfl rfl ?_
 rintro _ _ ⟨t20,rfl,rfl⟩
 refine RS.q (u:=.bool r18.1) rfl (q0l rfl h17 rfl) ?_
 refine sd ?_
 exact ⟨_,_,⟨rfl,rfl⟩,(Nat.zero_le _),Gh.toC (n1:=6) ⟨rfl,rfl,rfl,rfl,rfl,trivial⟩ rfl (Nat.zero_le _) (by simp)⟩
 replace h24:=q0h h17 h24
 replace h24:=Option.some.inj h24
 subst h24
 refine sr ?_
 refine RS.q (u:=.sl 2 0 ((p1.Nodes.length:Int).toNat) ((p1.Nodes.length:Int).toNat)) rfl (q05 und40 rfl rfl rfl rfl) (RS.mv rfl rfl rfl rfl (RS.q (u:=.ptr 2 0 (0*1+z9.toNat*1)) rfl (q1x rfl rfl (qav und40 (q02 inf4) rfl h16)) (RS.q (u:=.bool x15) rfl (qay cB (fun x=>.bool x) und4 rfl (fun _=>rfl) rfl rfl h16) (RS.q (u:=.bool (!x15)) rfl (q7b rfl rfl rfl rfl) (RS.mv rfl rfl rfl rfl ?_)))))
 repeat refine RS.no (want0 rfl rfl rfl h17) rfl rfl ?_
 refine RS.q (u:=.bool false) rfl (q0k rfl h17 rfl) ?_
 refine sd ?_
 exact ⟨_,_,⟨rfl,rfl⟩,(Nat.zero_le _),Gh.toC (n1:=6) ⟨rfl,rfl,rfl,rfl,rfl,trivial⟩ rfl (Nat.zero_le _) (by simp)⟩
 replace hF:=q0h h14 hF
 refine st ?_
 refine WPU.exit ?_
 refine st ?_
 exact ⟨_,_,⟨l10,l11,hF,rfl,rfl⟩,(Nat.zero_le _),Gh.toC (n1:=6) trivial rfl (Nat.zero_le _) (by simp)⟩
theorem q20 (n:Nat) (p1:GFS) (r:Bool) (hF:q59 n p1=some r) (σ:Sg):EvU Try.prog 22 [.agg [.isl false (List.map cGNode p1.Nodes)]] σ (fun u σ'=>u = .bool r∧σ'=σ) :=
 EvU.pure1C (graph_Cyclic_0 n p1 r hF) σ
def q13 (p1:List GNode) (p2:List GNode)  : Option (Int) :=
 cond (decide ((p1.length:Int)<(p2.length:Int)))
  (some (-1))
  (some 0)
def q0f (p1:List GNode) (p2:List GNode) (f2:GNode→GNode→Option (Int)):Nat→Int→Option (Int)
 | 0,_=>none
 | m1+1,z8 =>
  cond (decide (z8<(p1.length:Int)))
   (bindO (idxO p1 z8) fun x11 =>
   cond (decide (z8 ≥ (p2.length:Int)))
    (some 1)
    (bindO (idxO p2 z8) fun x14 =>
    bindO (f2 x11 x14) fun r16 =>
    cond (r16 != 0)
     (some r16)
     ((q0f p1 p2 f2 m1) (IntKind.i64.wrap (z8+1)))))
   (q13 p1 p2)
def q0v (f2:GNode→GNode→Option (Int)) (n:Nat) (p1:List GNode) (p2:List GNode):Option (Int) :=
 q0f p1 p2 f2 n 0
theorem q3v (f2:GNode→GNode→Option (Int)) (hf2:∀ (a0:GNode) (a1:GNode) (r:Int),f2 a0 a1=some r→EvU Try.prog 38 [.agg (cGNode a0),.agg (cGNode a1)] ⟨[],0⟩ (fun u _=>u = .int .i64 r∧Bel 0 u)) (n:Nat) (p1:List GNode) (p2:List GNode) (r:Int) (hF:q0v f2 n p1 p2=some r):EvU Try.prog 37 [.isl false (List.map cGNode p1),.isl false (List.map cGNode p2),.fn (.func 38) [] []] ⟨[],0⟩ (fun u _=>u = .int .i64 r∧Bel 0 u):=by
 unfold q0v at hF
 have hf2S:∀ (a0:GNode) (a1:GNode) (r:Int),f2 a0 a1=some r→∀ σ,EvU Try.prog 38 [.agg (cGNode a0),.agg (cGNode a1)] σ (fun u σ'=>u = .int .i64 r∧σ'=σ):=fun a0 a1 r h σ=>EvU.pure1C (hf2 a0 a1 r h) σ
 refine EvU.of_body Try.tb_ok fn37 rfl ?_
 refine WPU.ghost (tm':=fr 39 [(0,.isl false (List.map cGNode p1)),(1,.isl false (List.map cGNode p2)),(2,.fn (.func 38) [] [])]) (Gh.start (Nat.le_of_ble_eq_true rfl)) (Nat.zero_le _) ?_
 refine sr ?_
 refine se ?_
 refine RS.q rfl (q1d rfl rfl rfl (q14 cGNode und23)) (RS.mv rfl rfl rfl rfl ?_)
 refine sd ?_
 refine WPU.ghost (tm':=fr 39 [(0,.isl false (List.map cGNode p1)),(1,.isl false (List.map cGNode p2)),(2,.fn (.func 38) [] []),(11,.isl false (List.map cGNode p1)),(12,.int .i64 (p1.length:Int)),(13,.int .i64 0)]) (Gh.sub ⟨rfl,rfl,rfl,rfl,rfl,rfl,trivial⟩) (Nat.zero_le _) ?_
 refine WPU.loopK (fun m tm σ=>∃ z8:Int,q0f p1 p2 f2 m z8=some r∧tm=fr 39 [(0,.isl false (List.map cGNode p1)),(1,.isl false (List.map cGNode p2)),(2,.fn (.func 38) [] []),(11,.isl false (List.map cGNode p1)),(12,.int .i64 (p1.length:Int)),(13,.int .i64 z8)]∧σ=⟨[],0⟩) (fun tm σ=>q13 p1 p2=some r∧tm=fr 39 [(0,.isl false (List.map cGNode p1)),(1,.isl false (List.map cGNode p2))]∧σ=⟨[],0⟩) n ⟨0,hF,rfl,rfl⟩ ?_ ?_
 rintro _ _ ⟨hF,rfl,rfl⟩
 unfold q13 at hF
 refine sr ?_
 refine RS.q rfl (q1d rfl rfl rfl (q14 cGNode und23)) (RS.mv rfl rfl rfl rfl (RS.q rfl (q1d rfl rfl rfl (q14 cGNode und23)) (RS.q rfl (q06 rfl rfl (q2c _ _ _) rfl) ?_)))
 refine sd ?_
 refine WPU.condS (t:=(decide ((p1.length:Int)<(p2.length:Int)))) rfl (fun h9=>?_) (fun h9=>?_)
 replace hF:=q0i h9 hF
 refine sr ?_
 refine sd ?_
 refine WPU.ret ?_
 refine st ?_
 have hr:=Option.some.inj hF
 subst hr
 exact ⟨.inr rfl,[.int .i64 (-1)],q1w rfl (q1o),.int .i64 (-1),⟨[],0⟩,Nat.le_refl _,Gh.toR (.int .i64 (-1)) rfl,rfl,BU.h⟩
 replace hF:=q0h h9 hF
 refine st ?_
 refine WPU.skip ?_
 refine sr ?_
 refine sd ?_
 refine WPU.ret ?_
 refine st ?_
 have hr:=Option.some.inj hF
 subst hr
 exact ⟨.inr rfl,[.int .i64 0],q1w rfl (q1o),.int .i64 0,⟨[],0⟩,Nat.le_refl _,Gh.toR (.int .i64 0) rfl,rfl,BU.h⟩
 rintro m1 _ _ ⟨z8,hF,rfl,rfl⟩
 rcases m1 with _ | m1
 cases hF
 unfold q0f at hF
 refine sr ?_
 refine RS.q rfl (q06 rfl rfl (q2c _ _ _) rfl) ?_
 refine sd ?_
 refine WPU.condS (t:=(decide (z8<(p1.length:Int)))) rfl (fun h10=>?_) (fun h10=>?_)
 replace hF:=q0i h10 hF
 refine st ?_
 refine WPU.skip ?_
 refine st ?_
 refine WPU.block ?_
 refine st ?_
 obtain ⟨x11,h12,hF⟩:=q00 hF
 refine sr ?_
 refine RS.q (u:=.iptr (cGNode x11)) rfl (q1x rfl rfl (q2q cGNode und23 (q02 inf43) q1h h12 rfl)) (RS.q (u:=.agg (cGNode x11)) rfl (q7y und43 rfl (q02 inf43) rfl rfl) (RS.q (u:=.ptr 0 0 0) (σ':=⟨[(0,.row [.int .i64 0,.nils] 43)],1⟩) rfl (q1b inf43 rfl rfl) (RS.as rfl rfl rfl rfl (RS.opn (u:=.junk) (σ':=⟨[(0,.row (cGNode x11) 43)],1⟩) rfl (q0y (q02 inf43) rfl rfl rfl rfl rfl rfl rfl rfl) rfl ?_))))
 refine se ?_
 repeat refine RS.mv rfl rfl rfl rfl ?_
 refine RS.q rfl (q1d rfl rfl rfl (q14 cGNode und23)) (RS.q rfl (q06 rfl rfl (ix_geq _ _ _) rfl) ?_)
 refine sd ?_
 refine WPU.condS (t:=(decide (z8 ≥ (p2.length:Int)))) rfl (fun h13=>?_) (fun h13=>?_)
 replace hF:=q0i h13 hF
 refine sr ?_
 refine sd ?_
 refine WPU.ret ?_
 refine st ?_
 have hr:=Option.some.inj hF
 subst hr
 exact ⟨.inr rfl,[.int .i64 1],q1w rfl (q1o),.int .i64 1,⟨[],0⟩,Nat.le_refl _,Gh.toR (.int .i64 1) rfl,rfl,BU.h⟩
 replace hF:=q0h h13 hF
 refine st ?_
 refine WPU.skip ?_
 refine st ?_
 obtain ⟨x14,h15,hF⟩:=q00 hF
 refine sr ?_
 repeat refine RS.mv rfl rfl rfl rfl ?_
 refine RS.q (u:=.iptr (cGNode x14)) rfl (q1x rfl rfl (q2q cGNode und23 (q02 inf43) q1h h15 rfl)) (RS.q (u:=.agg (cGNode x14)) rfl (q7y und43 rfl (q02 inf43) rfl rfl) (RS.q (u:=.ptr 1 0 0) (σ':=⟨[(1,.row [.int .i64 0,.nils] 43),(0,.row (cGNode x11) 43)],2⟩) rfl (q1b inf43 rfl rfl) (RS.opn (u:=.junk) (σ':=⟨[(1,.row (cGNode x14) 43),(0,.row (cGNode x11) 43)],2⟩) rfl (q0y (q02 inf43) rfl rfl rfl rfl rfl rfl rfl rfl) rfl ?_)))
 refine sd ?_
 obtain ⟨r16,h17,hF⟩:=q00 hF
 refine sr ?_
 refine RS.q (u:=.agg (cGNode x11)) rfl (q0g und43 rfl (q02 inf43) rfl rfl rfl) (RS.q (u:=.agg (cGNode x14)) rfl (q0g und43 rfl (q02 inf43) rfl rfl rfl) (RS.call (u:=.int .i64 r16) (args:=[.agg (cGNode x11),.agg (cGNode x14)]) rfl (q01 rfl rfl fn38 hb38 rfl rfl) (hf2S x11 x14 r16 h17 _) rfl rfl ?_))
 refine se ?_
 refine RS.q rfl (q06 rfl rfl (q3m _ _ _) rfl) ?_
 refine sd ?_
 refine WPU.condS (t:=(r16 != 0)) rfl (fun h18=>?_) (fun h18=>?_)
 replace hF:=q0i h18 hF
 refine sr ?_
 refine sd ?_
 refine WPU.ret ?_
 refine st ?_
 have hr:=Option.some.inj hF
 subst hr
 exact ⟨.inr rfl,[.int .i64 r16],q1w rfl (q1o),.int .i64 r16,⟨[],0⟩,Nat.le_refl _,Gh.toR (.int .i64 r16) rfl,rfl,BU.h⟩
 replace hF:=q0h h18 hF
 refine st ?_
 refine WPU.skip ?_
 refine sr ?_
 refine RS.q rfl (q06 rfl rfl (q3l _ _ _) rfl) (RS.mv rfl rfl rfl rfl ?_)
 refine sd ?_
 exact ⟨m1,_,_,Nat.lt_succ_self _,⟨(IntKind.i64.wrap (z8+1)),hF,rfl,rfl⟩,(Nat.zero_le _),Gh.toC (n1:=0) ⟨rfl,rfl,rfl,rfl,rfl,rfl,trivial⟩ rfl (Nat.zero_le _) (by simp)⟩
 replace hF:=q0h h10 hF
 refine st ?_
 refine WPU.exit ?_
 refine st ?_
 exact ⟨_,_,⟨hF,rfl,rfl⟩,(Nat.zero_le _),Gh.toC (n1:=0) ⟨rfl,rfl,trivial⟩ rfl (Nat.zero_le _) (by simp)⟩
theorem q3p (f2:GNode→GNode→Option (Int)) (hf2:∀ (a0:GNode) (a1:GNode) (r:Int),f2 a0 a1=some r→EvU Try.prog 38 [.agg (cGNode a0),.agg (cGNode a1)] ⟨[],0⟩ (fun u _=>u = .int .i64 r∧Bel 0 u)) (n:Nat) (p1:List GNode) (p2:List GNode) (r:Int) (hF:q0v f2 n p1 p2=some r) (σ:Sg):EvU Try.prog 37 [.isl false (List.map cGNode p1),.isl false (List.map cGNode p2),.fn (.func 38) [] []] σ (fun u σ'=>u = .int .i64 r∧σ'=σ) :=
 EvU.pure1C (q3v f2 hf2 n p1 p2 r hF) σ
def q3r   : Option (Int) :=
 some 0
def q35 (p1:List Int):Nat→Int→Option (Int)
 | 0,_=>none
 | m1+1,z6 =>
  cond (decide (z6<(p1.length:Int)))
   (bindO (idxO p1 z6) fun x8 =>
   cond (x8 != 0)
    (some x8)
    ((q35 p1 m1) (IntKind.i64.wrap (z6+1))))
   (q3r)
def q4d (n:Nat) (p1:List Int):Option (Int) :=
 q35 p1 n 0
theorem q9p (n:Nat) (p1:List Int) (r:Int) (hF:q4d n p1=some r):EvU Try.prog 50 [.isl false (List.map (cI .i64) p1)] ⟨[],0⟩ (fun u _=>u = .int .i64 r∧Bel 0 u):=by
 unfold q4d at hF
 refine EvU.of_body Try.tb_ok fn50 rfl ?_
 refine WPU.ghost (tm':=fr 18 [(0,.isl false (List.map (cI .i64) p1))]) (Gh.start (Nat.le_of_ble_eq_true rfl)) (Nat.zero_le _) ?_
 refine sr ?_
 refine se ?_
 refine se ?_
 refine RS.q rfl (q1d rfl rfl rfl (q14 (cI .i64) und55)) (RS.mv rfl rfl rfl rfl ?_)
 refine sd ?_
 refine WPU.ghost (tm':=fr 18 [(3,.int .i64 0),(6,.isl false (List.map (cI .i64) p1)),(7,.int .i64 (p1.length:Int)),(8,.int .i64 0)]) (Gh.sub ⟨rfl,rfl,rfl,rfl,trivial⟩) (Nat.zero_le _) ?_
 refine WPU.loopK (fun m tm σ=>∃ z6:Int,q35 p1 m z6=some r∧tm=fr 18 [(3,.int .i64 0),(6,.isl false (List.map (cI .i64) p1)),(7,.int .i64 (p1.length:Int)),(8,.int .i64 z6)]∧σ=⟨[],0⟩) (fun tm σ=>q3r=some r∧tm=fr 18 [(3,.int .i64 0)]∧σ=⟨[],0⟩) n ⟨0,hF,rfl,rfl⟩ ?_ ?_
 rintro _ _ ⟨hF,rfl,rfl⟩
 unfold q3r at hF
 refine sr ?_
 refine sd ?_
 refine WPU.ret ?_
 refine st ?_
 have hr:=Option.some.inj hF
 subst hr
 exact ⟨.inr rfl,[.int .i64 0],q1w rfl (q1o),.int .i64 0,⟨[],0⟩,Nat.le_refl _,Gh.toR (.int .i64 0) rfl,rfl,BU.h⟩
 rintro m1 _ _ ⟨z6,hF,rfl,rfl⟩
 rcases m1 with _ | m1
 cases hF
 unfold q35 at hF
 refine sr ?_
 refine RS.q rfl (q06 rfl rfl (q2c _ _ _) rfl) ?_
 refine sd ?_
 refine WPU.condS (t:=(decide (z6<(p1.length:Int)))) rfl (fun h7=>?_) (fun h7=>?_)
 replace hF:=q0i h7 hF
 refine st ?_
 refine WPU.skip ?_
 refine st ?_
 refine WPU.block ?_
 refine st ?_
 obtain ⟨x8,h9,hF⟩:=q00 hF
 refine sr ?_
 refine RS.q (u:=.iptr [.int .i64 x8]) rfl (q1x rfl rfl (q2q (cI .i64) und55 (q02 inf3) (q2t .i64) h9 rfl)) (RS.q (u:=.int .i64 x8) rfl (q43 und3 rfl rfl rfl) ?_)
 refine se ?_
 repeat refine RS.mv rfl rfl rfl rfl ?_
 refine RS.q rfl (q06 rfl rfl (q3m _ _ _) rfl) ?_
 refine sd ?_
 refine WPU.condS (t:=(x8 != 0)) rfl (fun h10=>?_) (fun h10=>?_)
 replace hF:=q0i h10 hF
 refine sr ?_
 refine sd ?_
 refine WPU.ret ?_
 refine st ?_
 have hr:=Option.some.inj hF
 subst hr
 exact ⟨.inr rfl,[.int .i64 x8],q1w rfl (q1o),.int .i64 x8,⟨[],0⟩,Nat.le_refl _,Gh.toR (.int .i64 x8) rfl,rfl,BU.h⟩
 replace hF:=q0h h10 hF
 refine st ?_
 refine WPU.skip ?_
 refine sr ?_
 refine RS.q rfl (q06 rfl rfl (q3l _ _ _) rfl) (RS.mv rfl rfl rfl rfl ?_)
 refine sd ?_
 exact ⟨m1,_,_,Nat.lt_succ_self _,⟨(IntKind.i64.wrap (z6+1)),hF,rfl,rfl⟩,(Nat.zero_le _),Gh.toC (n1:=0) ⟨rfl,rfl,rfl,rfl,trivial⟩ rfl (Nat.zero_le _) (by simp)⟩
 replace hF:=q0h h7 hF
 refine st ?_
 refine WPU.exit ?_
 refine st ?_
 exact ⟨_,_,⟨hF,rfl,rfl⟩,(Nat.zero_le _),Gh.toC (n1:=0) ⟨rfl,trivial⟩ rfl (Nat.zero_le _) (by simp)⟩
def q0z (p1:List GArc) (p2:List GArc)  : Option (Int) :=
 cond (decide ((p1.length:Int)<(p2.length:Int)))
  (some (-1))
  (some 0)
def q0e (p1:List GArc) (p2:List GArc) (f2:GArc→GArc→Option (Int)):Nat→Int→Option (Int)
 | 0,_=>none
 | m1+1,z8 =>
  cond (decide (z8<(p1.length:Int)))
   (bindO (idxO p1 z8) fun x11 =>
   cond (decide (z8 ≥ (p2.length:Int)))
    (some 1)
    (bindO (idxO p2 z8) fun x14 =>
    bindO (f2 x11 x14) fun r16 =>
    cond (r16 != 0)
     (some r16)
     ((q0e p1 p2 f2 m1) (IntKind.i64.wrap (z8+1)))))
   (q0z p1 p2)
def q0t (f2:GArc→GArc→Option (Int)) (n:Nat) (p1:List GArc) (p2:List GArc):Option (Int) :=
 q0e p1 p2 f2 n 0
theorem q3o (f2:GArc→GArc→Option (Int)) (hf2:∀ (a0:GArc) (a1:GArc) (r:Int),f2 a0 a1=some r→EvU Try.prog 52 [.agg (cGArc a0),.agg (cGArc a1)] ⟨[],0⟩ (fun u _=>u = .int .i64 r∧Bel 0 u)) (n:Nat) (p1:List GArc) (p2:List GArc) (r:Int) (hF:q0t f2 n p1 p2=some r):EvU Try.prog 51 [.isl false (List.map cGArc p1),.isl false (List.map cGArc p2),.fn (.func 52) [] []] ⟨[],0⟩ (fun u _=>u = .int .i64 r∧Bel 0 u):=by
 unfold q0t at hF
 have hf2S:∀ (a0:GArc) (a1:GArc) (r:Int),f2 a0 a1=some r→∀ σ,EvU Try.prog 52 [.agg (cGArc a0),.agg (cGArc a1)] σ (fun u σ'=>u = .int .i64 r∧σ'=σ):=fun a0 a1 r h σ=>EvU.pure1C (hf2 a0 a1 r h) σ
 refine EvU.of_body Try.tb_ok fn51 rfl ?_
 refine WPU.ghost (tm':=fr 39 [(0,.isl false (List.map cGArc p1)),(1,.isl false (List.map cGArc p2)),(2,.fn (.func 52) [] [])]) (Gh.start (Nat.le_of_ble_eq_true rfl)) (Nat.zero_le _) ?_
 refine sr ?_
 refine se ?_
 refine RS.q rfl (q1d rfl rfl rfl (q14 cGArc und41)) (RS.mv rfl rfl rfl rfl ?_)
 refine sd ?_
 refine WPU.ghost (tm':=fr 39 [(0,.isl false (List.map cGArc p1)),(1,.isl false (List.map cGArc p2)),(2,.fn (.func 52) [] []),(11,.isl false (List.map cGArc p1)),(12,.int .i64 (p1.length:Int)),(13,.int .i64 0)]) (Gh.sub ⟨rfl,rfl,rfl,rfl,rfl,rfl,trivial⟩) (Nat.zero_le _) ?_
 refine WPU.loopK (fun m tm σ=>∃ z8:Int,q0e p1 p2 f2 m z8=some r∧tm=fr 39 [(0,.isl false (List.map cGArc p1)),(1,.isl false (List.map cGArc p2)),(2,.fn (.func 52) [] []),(11,.isl false (List.map cGArc p1)),(12,.int .i64 (p1.length:Int)),(13,.int .i64 z8)]∧σ=⟨[],0⟩) (fun tm σ=>q0z p1 p2=some r∧tm=fr 39 [(0,.isl false (List.map cGArc p1)),(1,.isl false (List.map cGArc p2))]∧σ=⟨[],0⟩) n ⟨0,hF,rfl,rfl⟩ ?_ ?_
 rintro _ _ ⟨hF,rfl,rfl⟩
 unfold q0z at hF
 refine sr ?_
 refine RS.q rfl (q1d rfl rfl rfl (q14 cGArc und41)) (RS.mv rfl rfl rfl rfl (RS.q rfl (q1d rfl rfl rfl (q14 cGArc und41)) (RS.q rfl (q06 rfl rfl (q2c _ _ _) rfl) ?_)))
 refine sd ?_
 refine WPU.condS (t:=(decide ((p1.length:Int)<(p2.length:Int)))) rfl (fun h9=>?_) (fun h9=>?_)
 replace hF:=q0i h9 hF
 refine sr ?_
 refine sd ?_
 refine WPU.ret ?_
 refine st ?_
 have hr:=Option.some.inj hF
 subst hr
 exact ⟨.inr rfl,[.int .i64 (-1)],q1w rfl (q1o),.int .i64 (-1),⟨[],0⟩,Nat.le_refl _,Gh.toR (.int .i64 (-1)) rfl,rfl,BU.h⟩
 replace hF:=q0h h9 hF
 refine st ?_
 refine WPU.skip ?_
 refine sr ?_
 refine sd ?_
 refine WPU.ret ?_
 refine st ?_
 have hr:=Option.some.inj hF
 subst hr
 exact ⟨.inr rfl,[.int .i64 0],q1w rfl (q1o),.int .i64 0,⟨[],0⟩,Nat.le_refl _,Gh.toR (.int .i64 0) rfl,rfl,BU.h⟩
 rintro m1 _ _ ⟨z8,hF,rfl,rfl⟩
 rcases m1 with _ | m1
 cases hF
 unfold q0e at hF
 refine sr ?_
 refine RS.q rfl (q06 rfl rfl (q2c _ _ _) rfl) ?_
 refine sd ?_
 refine WPU.condS (t:=(decide (z8<(p1.length:Int)))) rfl (fun h10=>?_) (fun h10=>?_)
 replace hF:=q0i h10 hF
 refine st ?_
 refine WPU.skip ?_
 refine st ?_
 refine WPU.block ?_
 refine st ?_
 obtain ⟨x11,h12,hF⟩:=q00 hF
 refine sr ?_
 refine RS.q (u:=.iptr (cGArc x11)) rfl (q1x rfl rfl (q2q cGArc und41 (q02 inf45) q1q h12 rfl)) (RS.q (u:=.agg (cGArc x11)) rfl (q7y und45 rfl (q02 inf45) rfl rfl) (RS.q (u:=.ptr 0 0 0) (σ':=⟨[(0,.row [.int .i64 0,.int .i64 0] 45)],1⟩) rfl (q1b inf45 rfl rfl) (RS.as rfl rfl rfl rfl (RS.opn (u:=.junk) (σ':=⟨[(0,.row (cGArc x11) 45)],1⟩) rfl (q0y (q02 inf45) rfl rfl rfl rfl rfl rfl rfl rfl) rfl ?_))))
 refine se ?_
 repeat refine RS.mv rfl rfl rfl rfl ?_
 refine RS.q rfl (q1d rfl rfl rfl (q14 cGArc und41)) (RS.q rfl (q06 rfl rfl (ix_geq _ _ _) rfl) ?_)
 refine sd ?_
 refine WPU.condS (t:=(decide (z8 ≥ (p2.length:Int)))) rfl (fun h13=>?_) (fun h13=>?_)
 replace hF:=q0i h13 hF
 refine sr ?_
 refine sd ?_
 refine WPU.ret ?_
 refine st ?_
 have hr:=Option.some.inj hF
 subst hr
 exact ⟨.inr rfl,[.int .i64 1],q1w rfl (q1o),.int .i64 1,⟨[],0⟩,Nat.le_refl _,Gh.toR (.int .i64 1) rfl,rfl,BU.h⟩
 replace hF:=q0h h13 hF
 refine st ?_
 refine WPU.skip ?_
 refine st ?_
 obtain ⟨x14,h15,hF⟩:=q00 hF
 refine sr ?_
 repeat refine RS.mv rfl rfl rfl rfl ?_
 refine RS.q (u:=.iptr (cGArc x14)) rfl (q1x rfl rfl (q2q cGArc und41 (q02 inf45) q1q h15 rfl)) (RS.q (u:=.agg (cGArc x14)) rfl (q7y und45 rfl (q02 inf45) rfl rfl) (RS.q (u:=.ptr 1 0 0) (σ':=⟨[(1,.row [.int .i64 0,.int .i64 0] 45),(0,.row (cGArc x11) 45)],2⟩) rfl (q1b inf45 rfl rfl) (RS.opn (u:=.junk) (σ':=⟨[(1,.row (cGArc x14) 45),(0,.row (cGArc x11) 45)],2⟩) rfl (q0y (q02 inf45) rfl rfl rfl rfl rfl rfl rfl rfl) rfl ?_)))
 refine sd ?_
 obtain ⟨r16,h17,hF⟩:=q00 hF
 refine sr ?_
 refine RS.q (u:=.agg (cGArc x11)) rfl (q0g und45 rfl (q02 inf45) rfl rfl rfl) (RS.q (u:=.agg (cGArc x14)) rfl (q0g und45 rfl (q02 inf45) rfl rfl rfl) (RS.call (u:=.int .i64 r16) (args:=[.agg (cGArc x11),.agg (cGArc x14)]) rfl (q01 rfl rfl fn52 hb52 rfl rfl) (hf2S x11 x14 r16 h17 _) rfl rfl ?_))
 refine se ?_
 refine RS.q rfl (q06 rfl rfl (q3m _ _ _) rfl) ?_
 refine sd ?_
 refine WPU.condS (t:=(r16 != 0)) rfl (fun h18=>?_) (fun h18=>?_)
 replace hF:=q0i h18 hF
 refine sr ?_
 refine sd ?_
 refine WPU.ret ?_
 refine st ?_
 have hr:=Option.some.inj hF
 subst hr
 exact ⟨.inr rfl,[.int .i64 r16],q1w rfl (q1o),.int .i64 r16,⟨[],0⟩,Nat.le_refl _,Gh.toR (.int .i64 r16) rfl,rfl,BU.h⟩
 replace hF:=q0h h18 hF
 refine st ?_
 refine WPU.skip ?_
 refine sr ?_
 refine RS.q rfl (q06 rfl rfl (q3l _ _ _) rfl) (RS.mv rfl rfl rfl rfl ?_)
 refine sd ?_
 exact ⟨m1,_,_,Nat.lt_succ_self _,⟨(IntKind.i64.wrap (z8+1)),hF,rfl,rfl⟩,(Nat.zero_le _),Gh.toC (n1:=0) ⟨rfl,rfl,rfl,rfl,rfl,rfl,trivial⟩ rfl (Nat.zero_le _) (by simp)⟩
 replace hF:=q0h h10 hF
 refine st ?_
 refine WPU.exit ?_
 refine st ?_
 exact ⟨_,_,⟨hF,rfl,rfl⟩,(Nat.zero_le _),Gh.toC (n1:=0) ⟨rfl,rfl,trivial⟩ rfl (Nat.zero_le _) (by simp)⟩
theorem q3j (f2:GArc→GArc→Option (Int)) (hf2:∀ (a0:GArc) (a1:GArc) (r:Int),f2 a0 a1=some r→EvU Try.prog 52 [.agg (cGArc a0),.agg (cGArc a1)] ⟨[],0⟩ (fun u _=>u = .int .i64 r∧Bel 0 u)) (n:Nat) (p1:List GArc) (p2:List GArc) (r:Int) (hF:q0t f2 n p1 p2=some r) (σ:Sg):EvU Try.prog 51 [.isl false (List.map cGArc p1),.isl false (List.map cGArc p2),.fn (.func 52) [] []] σ (fun u σ'=>u = .int .i64 r∧σ'=σ) :=
 EvU.pure1C (q3o f2 hf2 n p1 p2 r hF) σ
def q1s (n:Nat) (p1:GArc) (p2:GArc):Option (Int) :=
 bindO (q1j n p1.Feat p2.Feat) fun r3 =>
 bindO (q1j n p1.To p2.To) fun r5 =>
 bindO (q4d n ([r3,r5])) fun r7 =>
 some r7
theorem q70 (n:Nat) (p1:GArc) (p2:GArc) (r:Int) (hF:q1s n p1 p2=some r):EvU Try.prog 52 [.agg (cGArc p1),.agg (cGArc p2)] ⟨[],0⟩ (fun u _=>u = .int .i64 r∧Bel 0 u):=by
 unfold q1s at hF
 refine EvU.of_body Try.tb_ok fn52 rfl ?_
 refine WPU.ghost (tm':=fr 17 [(0,.agg (cGArc p1)),(1,.agg (cGArc p2))]) (Gh.start (Nat.le_of_ble_eq_true rfl)) (Nat.zero_le _) ?_
 refine sr ?_
 refine RS.q (u:=.ptr 0 0 0) (σ':=⟨[(0,.row (cGArc p1) 45)],1⟩) rfl (q2x rfl rfl rfl) (RS.q (u:=.ptr 1 0 0) (σ':=⟨[(1,.row (cGArc p2) 45),(0,.row (cGArc p1) 45)],2⟩) rfl (q2x rfl rfl rfl) ?_)
 refine sd ?_
 obtain ⟨r3,h4,hF⟩:=q00 hF
 obtain ⟨r5,h6,hF⟩:=q00 hF
 obtain ⟨r7,h8,hF⟩:=q00 hF
 refine WPU.drawE Try.tb_ok [] (by kernel_rfl) ?_
 refine RD.q (u:=.ptr 0 0 0) rfl (q16 und45 rfl (q02 inf3) rfl rfl rfl) (RD.q (u:=.int .i64 p1.Feat) rfl (q05 und3 rfl rfl rfl rfl) (RD.q (u:=.ptr 1 0 0) rfl (q16 und45 rfl (q02 inf3) rfl rfl rfl) (RD.q (u:=.int .i64 p2.Feat) rfl (q05 und3 rfl rfl rfl rfl) (RD.free (u:=.int .i64 r3) (args:=[.int .i64 p1.Feat,.int .i64 p2.Feat]) rfl (q01 rfl rfl fn36 hb36 rfl rfl) (fun s=>q2f n p1.Feat p2.Feat r3 h4 s) rfl rfl (RD.q (u:=.ptr 0 0 1) rfl (q16 und45 rfl (q02 inf3) rfl rfl rfl) (RD.q (u:=.int .i64 p1.To) rfl (q05 und3 rfl rfl rfl rfl) (RD.q (u:=.ptr 1 0 1) rfl (q16 und45 rfl (q02 inf3) rfl rfl rfl) ?_)))))))
 refine RD.q (u:=.int .i64 p2.To) rfl (q05 und3 rfl rfl rfl rfl) (RD.free (u:=.int .i64 r5) (args:=[.int .i64 p1.To,.int .i64 p2.To]) rfl (q01 rfl rfl fn36 hb36 rfl rfl) (fun s=>q2f n p1.To p2.To r5 h6 s) rfl rfl (RD.act (u:=.sl 2 0 2 2) (σ':=⟨[(2,.row [.int .i64 r3,.int .i64 r5] 3),(1,.row (cGArc p2) 45),(0,.row (cGArc p1) 45)],3⟩) rfl (q24 und55 inf3 rfl rfl rfl rfl rfl rfl rfl) rfl rfl ?_))
 refine RD.call (u:=.int .i64 r7) (args:=[.sl 2 0 2 2]) rfl (q01 rfl rfl fn50 hb50 rfl rfl) (EvU.view (q9p n ([r3,r5]) r7 h8) BUL.h (by simp only [toV,toVL,okL,okC,cond_true]<;>rfl) (fun m=>by simp [ren,renL]) (Gh.fz (tm':=[.isl false (List.map (cI .i64) ([r3,r5]))]) (h':=[(1,.row (cGArc p2) 45),(0,.row (cGArc p1) 45)]) 2 (.row [.int .i64 r3,.int .i64 r5] 3) 1 rfl (by simp) (by simp only [oneU,q07,q03,q0n,q09,q0q,q0d,q0c,q0b,q0a,q08,q0o,q0p,q0m,q0r,q1k,junkT,q1u,q1v,fz_cGArc,Nat.reduceLeDiff,Nat.reduceMul,List.length_cons,List.length_nil,Nat.reduceAdd]<;>simp only [chunks,List.take,List.drop,List.map,cI,cB,cS,cL]) (by simp only [fzH,fzB,ug,Nat.beq,cond_true,cond_false,oneU,q07,q03,q0n,q09,q0q,q0d,q0c,q0b,q0a,q08,q0o,q0p,q0m,q0r,q1k,junkT,q1u,q1v,fz_cGArc,Nat.reduceLeDiff,Nat.reduceMul,List.length_cons,List.length_nil,Nat.reduceAdd]<;>simp only [chunks,List.take,List.drop,List.map,cI,cB,cS,cL]))) rfl rfl ?_
 refine RD.as rfl rfl rfl rfl ?_
 refine RD.done ⟨by kernel_rfl,trivial,?_⟩
 refine st ?_
 refine WPU.ret ?_
 refine st ?_
 have hr:=Option.some.inj hF
 subst hr
 exact ⟨.inr rfl,[.int .i64 r7],q1w rfl (q1o),.int .i64 r7,⟨[],0⟩,Nat.le_refl _,Gh.toR (.int .i64 r7) rfl,rfl,BU.h⟩
def q22 (n:Nat) (p1:GNode) (p2:GNode):Option (Int) :=
 bindO (q1j n p1.Typex p2.Typex) fun r3 =>
 bindO (q1j n (p1.Arcs.length:Int) (p2.Arcs.length:Int)) fun r5 =>
 bindO (q4d n ([r3,r5])) fun r7 =>
 cond (r7 != 0)
  (some r7)
  (bindO (q0t (q1s n) n p1.Arcs p2.Arcs) fun r10 =>
  some r10)
theorem q7v (n:Nat) (p1:GNode) (p2:GNode) (r:Int) (hF:q22 n p1 p2=some r):EvU Try.prog 38 [.agg (cGNode p1),.agg (cGNode p2)] ⟨[],0⟩ (fun u _=>u = .int .i64 r∧Bel 0 u):=by
 unfold q22 at hF
 refine EvU.of_body Try.tb_ok fn38 rfl ?_
 refine WPU.ghost (tm':=fr 28 [(0,.agg (cGNode p1)),(1,.agg (cGNode p2))]) (Gh.start (Nat.le_of_ble_eq_true rfl)) (Nat.zero_le _) ?_
 refine sr ?_
 refine RS.q (u:=.ptr 0 0 0) (σ':=⟨[(0,.row (cGNode p1) 43)],1⟩) rfl (q2x rfl rfl rfl) (RS.q (u:=.ptr 1 0 0) (σ':=⟨[(1,.row (cGNode p2) 43),(0,.row (cGNode p1) 43)],2⟩) rfl (q2x rfl rfl rfl) ?_)
 refine sd ?_
 obtain ⟨r3,h4,hF⟩:=q00 hF
 obtain ⟨r5,h6,hF⟩:=q00 hF
 obtain ⟨r7,h8,hF⟩:=q00 hF
 refine WPU.drawE Try.tb_ok [] (by kernel_rfl) ?_
 refine RD.q (u:=.ptr 0 0 0) rfl (q16 und43 rfl (q02 inf3) rfl rfl rfl) (RD.q (u:=.int .i64 p1.Typex) rfl (q05 und3 rfl rfl rfl rfl) (RD.q (u:=.ptr 1 0 0) rfl (q16 und43 rfl (q02 inf3) rfl rfl rfl) (RD.q (u:=.int .i64 p2.Typex) rfl (q05 und3 rfl rfl rfl rfl) (RD.free (u:=.int .i64 r3) (args:=[.int .i64 p1.Typex,.int .i64 p2.Typex]) rfl (q01 rfl rfl fn36 hb36 rfl rfl) (fun s=>q2f n p1.Typex p2.Typex r3 h4 s) rfl rfl (RD.q (u:=.ptr 0 0 1) rfl (q16 und43 rfl (q02 inf41) rfl rfl rfl) (RD.q (u:=.isl false (List.map cGArc p1.Arcs)) rfl (q05 und41 rfl rfl rfl rfl) (RD.q rfl (q1d rfl rfl rfl (q14 cGArc und41)) ?_)))))))
 refine RD.q (u:=.ptr 1 0 1) rfl (q16 und43 rfl (q02 inf41) rfl rfl rfl) (RD.q (u:=.isl false (List.map cGArc p2.Arcs)) rfl (q05 und41 rfl rfl rfl rfl) (RD.q rfl (q1d rfl rfl rfl (q14 cGArc und41)) (RD.free (u:=.int .i64 r5) (args:=[.int .i64 (p1.Arcs.length:Int),.int .i64 (p2.Arcs.length:Int)]) rfl (q01 rfl rfl fn36 hb36 rfl rfl) (fun s=>q2f n (p1.Arcs.length:Int) (p2.Arcs.length:Int) r5 h6 s) rfl rfl (RD.act (u:=.sl 2 0 2 2) (σ':=⟨[(2,.row [.int .i64 r3,.int .i64 r5] 3),(1,.row (cGNode p2) 43),(0,.row (cGNode p1) 43)],3⟩) rfl (q24 und55 inf3 rfl rfl rfl rfl rfl rfl rfl) rfl rfl ?_))))
 refine RD.call (u:=.int .i64 r7) (args:=[.sl 2 0 2 2]) rfl (q01 rfl rfl fn50 hb50 rfl rfl) (EvU.view (q9p n ([r3,r5]) r7 h8) BUL.h (by simp only [toV,toVL,okL,okC,cond_true]<;>rfl) (fun m=>by simp [ren,renL]) (Gh.fz (tm':=[.isl false (List.map (cI .i64) ([r3,r5]))]) (h':=[(1,.row (cGNode p2) 43),(0,.row (cGNode p1) 43)]) 2 (.row [.int .i64 r3,.int .i64 r5] 3) 1 rfl (by simp) (by simp only [oneU,q07,q03,q0n,q09,q0q,q0d,q0c,q0b,q0a,q08,q0o,q0p,q0m,q0r,q1k,junkT,q1u,q1v,q29,Nat.reduceLeDiff,Nat.reduceMul,List.length_cons,List.length_nil,Nat.reduceAdd]<;>simp only [chunks,List.take,List.drop,List.map,cI,cB,cS,cL]) (by simp only [fzH,fzB,ug,Nat.beq,cond_true,cond_false,oneU,q07,q03,q0n,q09,q0q,q0d,q0c,q0b,q0a,q08,q0o,q0p,q0m,q0r,q1k,junkT,q1u,q1v,q29,Nat.reduceLeDiff,Nat.reduceMul,List.length_cons,List.length_nil,Nat.reduceAdd]<;>simp only [chunks,List.take,List.drop,List.map,cI,cB,cS,cL]))) rfl rfl ?_
 refine RD.as rfl rfl rfl rfl ?_
 refine RD.done ⟨by kernel_rfl,trivial,?_⟩
 refine sr ?_
 refine RS.q rfl (q06 rfl rfl (q3m _ _ _) rfl) ?_
 refine sd ?_
 refine WPU.condS (t:=(r7 != 0)) rfl (fun h9=>?_) (fun h9=>?_)
 replace hF:=q0i h9 hF
 refine sr ?_
 refine sd ?_
 refine WPU.ret ?_
 refine st ?_
 have hr:=Option.some.inj hF
 subst hr
 exact ⟨.inr rfl,[.int .i64 r7],q1w rfl (q1o),.int .i64 r7,⟨[],0⟩,Nat.le_refl _,Gh.toR (.int .i64 r7) rfl,rfl,BU.h⟩
 replace hF:=q0h h9 hF
 refine st ?_
 refine WPU.skip ?_
 refine st ?_
 obtain ⟨r10,h11,hF⟩:=q00 hF
 refine sr ?_
 refine RS.q (u:=.ptr 0 0 1) rfl (q16 und43 rfl (q02 inf41) rfl rfl rfl) (RS.q (u:=.isl false (List.map cGArc p1.Arcs)) rfl (q05 und41 rfl rfl rfl rfl) (RS.q (u:=.ptr 1 0 1) rfl (q16 und43 rfl (q02 inf41) rfl rfl rfl) (RS.q (u:=.isl false (List.map cGArc p2.Arcs)) rfl (q05 und41 rfl rfl rfl rfl) (RS.call (u:=.int .i64 r10) (args:=[.isl false (List.map cGArc p1.Arcs),.isl false (List.map cGArc p2.Arcs),.fn (.func 52) [] []]) rfl (q01 rfl rfl fn51 hb51 rfl rfl) (q3j (q1s n) (q70 n) n p1.Arcs p2.Arcs r10 h11 _) rfl rfl ?_))))
 refine sd ?_
 refine WPU.ret ?_
 refine st ?_
 have hr:=Option.some.inj hF
 subst hr
 exact ⟨.inr rfl,[.int .i64 r10],q1w rfl (q1o),.int .i64 r10,⟨[],0⟩,Nat.le_refl _,Gh.toR (.int .i64 r10) rfl,rfl,BU.h⟩
def q36 (n:Nat) (p1:GFS) (p2:GFS):Option (Int) :=
 bindO (q1j n (p1.Nodes.length:Int) (p2.Nodes.length:Int)) fun r3 =>
 cond (r3 != 0)
  (some r3)
  (bindO (q0v (q22 n) n p1.Nodes p2.Nodes) fun r6 =>
  some r6)
theorem qat (n:Nat) (p1:GFS) (p2:GFS) (r:Int) (hF:q36 n p1 p2=some r):EvU Try.prog 24 [.agg [.isl false (List.map cGNode p1.Nodes)],.agg [.isl false (List.map cGNode p2.Nodes)]] ⟨[],0⟩ (fun u _=>u = .int .i64 r∧Bel 0 u):=by
 unfold q36 at hF
 refine EvU.of_body Try.tb_ok fn24 rfl ?_
 refine WPU.ghost (tm':=fr 21 [(0,.agg [.isl false (List.map cGNode p1.Nodes)]),(1,.agg [.isl false (List.map cGNode p2.Nodes)])]) (Gh.start (Nat.le_of_ble_eq_true rfl)) (Nat.zero_le _) ?_
 refine sr ?_
 refine RS.q (u:=.ptr 0 0 0) (σ':=⟨[(0,.row [.isl false (List.map cGNode p1.Nodes)] 25)],1⟩) rfl (q2x rfl rfl rfl) (RS.q (u:=.ptr 1 0 0) (σ':=⟨[(1,.row [.isl false (List.map cGNode p2.Nodes)] 25),(0,.row [.isl false (List.map cGNode p1.Nodes)] 25)],2⟩) rfl (q2x rfl rfl rfl) ?_)
 refine sd ?_
 obtain ⟨r3,h4,hF⟩:=q00 hF
 refine sr ?_
 refine RS.q (u:=.ptr 0 0 0) rfl (q16 und25 rfl (q02 inf23) rfl rfl rfl) (RS.q (u:=.isl false (List.map cGNode p1.Nodes)) rfl (q05 und23 rfl rfl rfl rfl) (RS.q rfl (q1d rfl rfl rfl (q14 cGNode und23)) (RS.q (u:=.ptr 1 0 0) rfl (q16 und25 rfl (q02 inf23) rfl rfl rfl) (RS.q (u:=.isl false (List.map cGNode p2.Nodes)) rfl (q05 und23 rfl rfl rfl rfl) (RS.q rfl (q1d rfl rfl rfl (q14 cGNode und23)) (RS.call (u:=.int .i64 r3) (args:=[.int .i64 (p1.Nodes.length:Int),.int .i64 (p2.Nodes.length:Int)]) rfl (q01 rfl rfl fn36 hb36 rfl rfl) (q2f n (p1.Nodes.length:Int) (p2.Nodes.length:Int) r3 h4 _) rfl rfl ?_))))))
 refine se ?_
 refine RS.q rfl (q06 rfl rfl (q3m _ _ _) rfl) ?_
 refine sd ?_
 refine WPU.condS (t:=(r3 != 0)) rfl (fun h5=>?_) (fun h5=>?_)
 replace hF:=q0i h5 hF
 refine sr ?_
 refine sd ?_
 refine WPU.ret ?_
 refine st ?_
 have hr:=Option.some.inj hF
 subst hr
 exact ⟨.inr rfl,[.int .i64 r3],q1w rfl (q1o),.int .i64 r3,⟨[],0⟩,Nat.le_refl _,Gh.toR (.int .i64 r3) rfl,rfl,BU.h⟩
 replace hF:=q0h h5 hF
 refine st ?_
 refine WPU.skip ?_
 refine st ?_
 obtain ⟨r6,h7,hF⟩:=q00 hF
 refine sr ?_
 refine RS.q (u:=.ptr 0 0 0) rfl (q16 und25 rfl (q02 inf23) rfl rfl rfl) (RS.q (u:=.isl false (List.map cGNode p1.Nodes)) rfl (q05 und23 rfl rfl rfl rfl) (RS.q (u:=.ptr 1 0 0) rfl (q16 und25 rfl (q02 inf23) rfl rfl rfl) (RS.q (u:=.isl false (List.map cGNode p2.Nodes)) rfl (q05 und23 rfl rfl rfl rfl) (RS.call (u:=.int .i64 r6) (args:=[.isl false (List.map cGNode p1.Nodes),.isl false (List.map cGNode p2.Nodes),.fn (.func 38) [] []]) rfl (q01 rfl rfl fn37 hb37 rfl rfl) (q3p (q22 n) (q7v n) n p1.Nodes p2.Nodes r6 h7 _) rfl rfl ?_))))
 refine sd ?_
 refine WPU.ret ?_
 refine st ?_
 have hr:=Option.some.inj hF
 subst hr
 exact ⟨.inr rfl,[.int .i64 r6],q1w rfl (q1o),.int .i64 r6,⟨[],0⟩,Nat.le_refl _,Gh.toR (.int .i64 r6) rfl,rfl,BU.h⟩
theorem q6y (n:Nat) (p1:GFS) (p2:GFS) (r:Int) (hF:q36 n p1 p2=some r) (σ:Sg):EvU Try.prog 24 [.agg [.isl false (List.map cGNode p1.Nodes)],.agg [.isl false (List.map cGNode p2.Nodes)]] σ (fun u σ'=>u = .int .i64 r∧σ'=σ) :=
 EvU.pure1C (qat n p1 p2 r hF) σ
def q5j (z6:Int) (rc1:Int→(List Int)→Option ((List Int))) (l28:List Int):Option ((List Int)) :=
 rc1 (IntKind.i64.wrap (z6+1)) l28
def q49 (z6:Int) (rc1:Int→(List Int)→Option ((List Int))) (x12:GNode):Nat→Int→(List Int)→Option ((List Int))
 | 0,_,_=>none
 | m2+1,z25,l26 =>
  cond (decide (z25<(x12.Arcs.length:Int)))
   (bindO (idxO x12.Arcs z25) fun x31 =>
   bindO (idxO x12.Arcs z25) fun x33 =>
   needO ((l26.length+2)*8≤140737488355328∧l26.length+2≤140737488355328) (
   (q49 z6 rc1 x12 m2) (IntKind.i64.wrap (z25+1)) (l26++[x31.Feat,x33.To])))
   (q5j z6 rc1 l26)
def q5i  (l9:List Int):Option ((List Int)) :=
 some l9
def q2r (p1:GFS) (n:Nat):Nat→Int→(List Int)→Option ((List Int))
 | 0,_,_=>none
 | m1+1,z6,l7 =>
  cond (decide (z6<(p1.Nodes.length:Int)))
   (bindO (idxO p1.Nodes z6) fun x12 =>
   bindO (idxO p1.Nodes z6) fun x14 =>
   needO ((l7.length+2)*8≤140737488355328∧l7.length+2≤140737488355328) (
   q49 z6 (q2r p1 n m1) x12 n 0 (l7++[x14.Typex,(x12.Arcs.length:Int)])))
   (q5i l7)
def q5q (n:Nat) (p1:GFS):Option ((List Int)) :=
 q2r p1 n n 0 ([(p1.Nodes.length:Int)])
theorem q7d (n:Nat) (p1:GFS) (r:(List Int)) (hF:q5q n p1=some r):EvU Try.prog 39 [.agg [.isl false (List.map cGNode p1.Nodes)]] ⟨[],0⟩ (fun u σ'=>∃ t,u = .vl 1 t 0 r.length∧σ'=⟨[(1,.vec (List.map (cI .i64) r).flatten 3 1 t)],1+1⟩):=by
 unfold q5q at hF
 refine EvU.of_body Try.tb_ok fn39 rfl ?_
 refine WPU.ghost (tm':=fr 55 [(0,.agg [.isl false (List.map cGNode p1.Nodes)])]) (Gh.start (Nat.le_of_ble_eq_true rfl)) (Nat.zero_le _) ?_
 refine sr ?_
 refine RS.q (u:=.ptr 0 0 0) (σ':=⟨[(0,.row [.isl false (List.map cGNode p1.Nodes)] 25)],1⟩) rfl (q2x rfl rfl rfl) ?_
 refine se ?_
 refine RS.q (u:=.ptr 0 0 0) rfl (q16 und25 rfl (q02 inf23) rfl rfl rfl) (RS.q (u:=.isl false (List.map cGNode p1.Nodes)) rfl (q05 und23 rfl rfl rfl rfl) (RS.q rfl (q1d rfl rfl rfl (q14 cGNode und23)) (RS.step (u:=.vl 1 0 0 ([(p1.Nodes.length:Int)].length)) (σ':=⟨[(1,.vec (List.map (cI .i64) ([(p1.Nodes.length:Int)])).flatten 3 1 0),(0,.row [.isl false (List.map cGNode p1.Nodes)] 25)],2⟩) rfl (StepU.bslv (cs:=(List.map (cI .i64) [(p1.Nodes.length:Int)]).flatten) Try.tb_ok rfl und55 inf3 rfl rfl rfl rfl rfl rfl rfl rfl) rfl rfl ?_)))
 refine se ?_
 refine sd ?_
 refine WPU.ghost (tm':=fr 55 [(1,.ptr 0 0 0),(3,.vl 1 0 0 (([(p1.Nodes.length:Int)]).length)),(4,.int .i64 0)]) (Gh.sub ⟨rfl,rfl,rfl,trivial⟩) (Nat.zero_le _) ?_
 refine WPU.loopK (fun m tm σ=>∃ z6:Int,∃ l7:List Int,∃ t8:Nat,q2r p1 n m z6 l7=some r∧tm=fr 55 [(1,.ptr 0 0 0),(3,.vl 1 t8 0 l7.length),(4,.int .i64 z6)]∧σ=⟨[(1,.vec (List.map (cI .i64) l7).flatten 3 1 t8),(0,.row [.isl false (List.map cGNode p1.Nodes)] 25)],2⟩) (fun tm σ=>∃ l9:List Int,∃ t10:Nat,q5i l9=some r∧tm=fr 55 [(3,.vl 1 t10 0 l9.length)]∧σ=⟨[(1,.vec (List.map (cI .i64) l9).flatten 3 1 t10),(0,.row [.isl false (List.map cGNode p1.Nodes)] 25)],2⟩) n ⟨0,[(p1.Nodes.length:Int)],0,hF,rfl,rfl⟩ ?_ ?_
 rintro _ _ ⟨l9,t10,hF,rfl,rfl⟩
 unfold q5i at hF
 refine sr ?_
 refine sd ?_
 refine WPU.ret ?_
 refine st ?_
 have hr:=Option.some.inj hF
 subst hr
 exact ⟨.inr rfl,[.vl 1 t10 0 l9.length],q1w rfl q1o,.vl 1 t10 0 l9.length,⟨[(1,.vec (List.map (cI .i64) l9).flatten 3 1 t10)],2⟩,(Nat.zero_le _),Gh.trans (Gh.only (fun k=>Nat.beq k 1)) (Gh.to (n1:=2) [] rfl rfl (Nat.zero_le _) (Nat.le_of_ble_eq_true rfl) BUL.h BH.h),t10,rfl,rfl⟩
 rintro m1 _ _ ⟨z6,l7,t8,hF,rfl,rfl⟩
 rcases m1 with _ | m1
 cases hF
 unfold q2r at hF
 refine sr ?_
 refine RS.q (u:=.ptr 0 0 0) rfl (q16 und25 rfl (q02 inf23) rfl rfl rfl) (RS.q (u:=.isl false (List.map cGNode p1.Nodes)) rfl (q05 und23 rfl rfl rfl rfl) (RS.q rfl (q1d rfl rfl rfl (q14 cGNode und23)) (RS.q rfl (q06 rfl rfl (q2c _ _ _) rfl) ?_)))
 refine sd ?_
 refine WPU.condS (t:=(decide (z6<(p1.Nodes.length:Int)))) rfl (fun h11=>?_) (fun h11=>?_)
 replace hF:=q0i h11 hF
 refine st ?_
 refine WPU.skip ?_
 refine st ?_
 refine WPU.block ?_
 refine st ?_
 obtain ⟨x12,h13,hF⟩:=q00 hF
 refine sr ?_
 refine RS.q (u:=.ptr 0 0 0) rfl (q16 und25 rfl (q02 inf23) rfl rfl rfl) (RS.q (u:=.isl false (List.map cGNode p1.Nodes)) rfl (q05 und23 rfl rfl rfl rfl) (RS.mv rfl rfl rfl rfl (RS.q (u:=.iptr (cGNode x12)) rfl (q1x rfl rfl (q2q cGNode und23 (q02 inf43) q1h h13 rfl)) (RS.q (u:=.iptr [.isl false (List.map cGArc x12.Arcs)]) rfl (q7a und43 rfl (q02 inf41) rfl rfl) (RS.q (u:=.isl false (List.map cGArc x12.Arcs)) rfl (q43 und41 rfl rfl rfl) ?_)))))
 refine sd ?_
 obtain ⟨x14,h15,hF⟩:=q00 hF
 obtain ⟨h16,hF⟩:=q32 hF
 refine sr ?_
 refine RS.q (u:=.ptr 0 0 0) rfl (q16 und25 rfl (q02 inf23) rfl rfl rfl) (RS.q (u:=.isl false (List.map cGNode p1.Nodes)) rfl (q05 und23 rfl rfl rfl rfl) (RS.mv rfl rfl rfl rfl (RS.q (u:=.iptr (cGNode x14)) rfl (q1x rfl rfl (q2q cGNode und23 (q02 inf43) q1h h15 rfl)) (RS.q (u:=.iptr (cGNode x14)) rfl (q7a und43 rfl (q02 inf3) rfl rfl) (RS.q (u:=.int .i64 x14.Typex) rfl (q43 und3 rfl rfl rfl) (RS.mv rfl rfl rfl rfl (RS.q rfl (q1d rfl rfl rfl (q14 cGArc und41)) ?_)))))))
 refine RS.q (u:=.sl 2 0 2 2) (σ':=⟨[(2,.row [.int .i64 x14.Typex,.int .i64 (x12.Arcs.length:Int)] 3),(1,.vec (List.map (cI .i64) l7).flatten 3 1 t8),(0,.row [.isl false (List.map cGNode p1.Nodes)] 25)],3⟩) rfl (q24 und55 inf3 rfl rfl rfl rfl rfl rfl rfl) (RS.q (u:=.vl 1 (t8+1) 0 ((l7++[x14.Typex,(x12.Arcs.length:Int)]).length)) (σ':=⟨[(2,.row [.int .i64 x14.Typex,.int .i64 (x12.Arcs.length:Int)] 3),(1,.vec (List.map (cI .i64) (l7++[x14.Typex,(x12.Arcs.length:Int)])).flatten 3 1 (t8+1)),(0,.row [.isl false (List.map cGNode p1.Nodes)] 25)],3⟩) rfl (qb5 rfl rfl rfl rfl (qag (cI .i64) ([x14.Typex,(x12.Arcs.length:Int)]) und55 und55 inf3 rfl (q2t .i64) rfl (q8a (cI .i64) [x14.Typex,(x12.Arcs.length:Int)] rfl rfl rfl rfl) h16)) ?_)
 refine se ?_
 refine sd ?_
 refine WPU.ghost (tm':=fr 55 [(1,.ptr 0 0 0),(3,.vl 1 (t8+1) 0 ((l7++[x14.Typex,(x12.Arcs.length:Int)]).length)),(4,.int .i64 z6),(5,.isl false (List.map cGArc x12.Arcs)),(6,.int .i64 0)]) (Gh.sub ⟨rfl,rfl,rfl,rfl,rfl,trivial⟩) (Nat.zero_le _) ?_
 refine WPU.loopK (fun m tm σ=>∃ z25:Int,∃ l26:List Int,∃ t27:Nat,q49 z6 (q2r p1 n m1) x12 m z25 l26=some r∧tm=fr 55 [(1,.ptr 0 0 0),(3,.vl 1 t27 0 l26.length),(4,.int .i64 z6),(5,.isl false (List.map cGArc x12.Arcs)),(6,.int .i64 z25)]∧σ=⟨[(2,.row [.int .i64 x14.Typex,.int .i64 (x12.Arcs.length:Int)] 3),(1,.vec (List.map (cI .i64) l26).flatten 3 1 t27),(0,.row [.isl false (List.map cGNode p1.Nodes)] 25)],3⟩) (fun tm σ=>∃ l28:List Int,∃ t29:Nat,q5j z6 (q2r p1 n m1) l28=some r∧tm=fr 55 [(1,.ptr 0 0 0),(3,.vl 1 t29 0 l28.length),(4,.int .i64 z6)]∧σ=⟨[(2,.row [.int .i64 x14.Typex,.int .i64 (x12.Arcs.length:Int)] 3),(1,.vec (List.map (cI .i64) l28).flatten 3 1 t29),(0,.row [.isl false (List.map cGNode p1.Nodes)] 25)],3⟩) n ⟨0,(l7++[x14.Typex,(x12.Arcs.length:Int)]),(t8+1),hF,rfl,rfl⟩ ?_ ?_
 rintro _ _ ⟨l28,t29,hF,rfl,rfl⟩
 unfold q5j at hF
 refine sr ?_
 refine RS.q rfl (q06 rfl rfl (q3l _ _ _) rfl) ?_
 refine sd ?_
 exact ⟨m1,_,_,Nat.lt_succ_self _,⟨(IntKind.i64.wrap (z6+1)),l28,t29,hF,rfl,rfl⟩,(Nat.zero_le _),Gh.toC (n1:=2) ⟨rfl,rfl,rfl,trivial⟩ rfl (Nat.zero_le _) (by simp)⟩
 rintro m2 _ _ ⟨z25,l26,t27,hF,rfl,rfl⟩
 rcases m2 with _ | m2
 cases hF
 unfold q49 at hF
 refine sr ?_
 repeat refine RS.mv rfl rfl rfl rfl ?_
 refine RS.q rfl (q1d rfl rfl rfl (q14 cGArc und41)) (RS.q rfl (q06 rfl rfl (q2c _ _ _) rfl) ?_)
 refine sd ?_
 refine WPU.condS (t:=(decide (z25<(x12.Arcs.length:Int)))) rfl (fun h30=>?_) (fun h30=>?_)
 replace hF:=q0i h30 hF
 refine st ?_
 refine WPU.skip ?_
 refine st ?_
 refine WPU.block ?_
 refine st ?_
 obtain ⟨x31,h32,hF⟩:=q00 hF
 obtain ⟨x33,h34,hF⟩:=q00 hF
 obtain ⟨h35,hF⟩:=q32 hF
 refine WPU.drawE Try.tb_ok [(0,11)] (by kernel_rfl) ?_
 repeat refine RD.mv rfl rfl rfl rfl ?_
 refine RD.q (u:=.iptr (cGArc x31)) rfl (q1x rfl rfl (q2q cGArc und41 (q02 inf45) q1q h32 rfl)) (RD.q (u:=.iptr (cGArc x31)) rfl (q7a und45 rfl (q02 inf3) rfl rfl) (RD.q (u:=.int .i64 x31.Feat) rfl (q43 und3 rfl rfl rfl) ?_))
 repeat refine RD.mv rfl rfl rfl rfl ?_
 refine RD.q (u:=.iptr (cGArc x33)) rfl (q1x rfl rfl (q2q cGArc und41 (q02 inf45) q1q h34 rfl)) (RD.q (u:=.iptr [.int .i64 x33.To]) rfl (q7a und45 rfl (q02 inf3) rfl rfl) (RD.q (u:=.int .i64 x33.To) rfl (q43 und3 rfl rfl rfl) (RD.act (u:=.sl 3 0 2 2) (σ':=⟨[(3,.row [.int .i64 x31.Feat,.int .i64 x33.To] 3),(2,.row [.int .i64 x14.Typex,.int .i64 (x12.Arcs.length:Int)] 3),(1,.vec (List.map (cI .i64) l26).flatten 3 1 t27),(0,.row [.isl false (List.map cGNode p1.Nodes)] 25)],4⟩) rfl (q24 und55 inf3 rfl rfl rfl rfl rfl rfl rfl) rfl rfl (RD.act (u:=.vl 1 (t27+1) 0 ((l26++[x31.Feat,x33.To]).length)) (σ':=⟨[(3,.row [.int .i64 x31.Feat,.int .i64 x33.To] 3),(2,.row [.int .i64 x14.Typex,.int .i64 (x12.Arcs.length:Int)] 3),(1,.vec (List.map (cI .i64) (l26++[x31.Feat,x33.To])).flatten 3 1 (t27+1)),(0,.row [.isl false (List.map cGNode p1.Nodes)] 25)],4⟩) rfl (qb5 rfl rfl rfl rfl (qag (cI .i64) ([x31.Feat,x33.To]) und55 und55 inf3 rfl (q2t .i64) rfl (q8a (cI .i64) [x31.Feat,x33.To] rfl rfl rfl rfl) h35)) rfl rfl (RD.as rfl rfl rfl rfl ?_)))))
 refine RD.done ⟨by kernel_rfl,⟨q33 rfl,trivial⟩,?_⟩
 refine sr ?_
 refine RS.q rfl (q06 rfl rfl (q3l _ _ _) rfl) ?_
 refine sd ?_
 exact ⟨m2,_,_,Nat.lt_succ_self _,⟨(IntKind.i64.wrap (z25+1)),(l26++[x31.Feat,x33.To]),(t27+1),hF,rfl,rfl⟩,(Nat.zero_le _),Gh.toC (n1:=3) ⟨rfl,rfl,rfl,rfl,rfl,trivial⟩ rfl (Nat.zero_le _) (by simp)⟩
 replace hF:=q0h h30 hF
 refine st ?_
 refine WPU.exit ?_
 refine st ?_
 exact ⟨_,_,⟨l26,t27,hF,rfl,rfl⟩,(Nat.zero_le _),Gh.toC (n1:=3) ⟨rfl,rfl,rfl,trivial⟩ rfl (Nat.zero_le _) (by simp)⟩
 replace hF:=q0h h11 hF
 refine st ?_
 refine WPU.exit ?_
 refine st ?_
 exact ⟨_,_,⟨l7,t8,hF,rfl,rfl⟩,(Nat.zero_le _),Gh.toC (n1:=2) ⟨rfl,trivial⟩ rfl (Nat.zero_le _) (by simp)⟩
def q5h   : Option (Int) :=
 some 0
def q48 (r3:List Int) (r5:List Int):Nat→Int→Option (Int)
 | 0,_=>none
 | m1+1,z14 =>
  bindO (cond (decide (z14<(r3.length:Int)))
   (some (decide (z14<(r5.length:Int))))
   (some false)) fun b16 =>
  cond b16
   (bindO (idxO r3 z14) fun x19 =>
   bindO (idxO r5 z14) fun x21 =>
   cond (decide (x19<x21))
    (some (-1))
    (bindO (idxO r3 z14) fun x24 =>
    bindO (idxO r5 z14) fun x26 =>
    cond (decide (x24 > x26))
     (some 1)
     ((q48 r3 r5 m1) (IntKind.i64.wrap (z14+1)))))
   (q5h)
def q5p (n:Nat) (p1:GFS) (p2:GFS):Option (Int) :=
 bindO (q5q n p1) fun r3 =>
 bindO (q5q n p2) fun r5 =>
 q48 r3 r5 n 0
theorem qb8 (n:Nat) (p1:GFS) (p2:GFS) (r:Int) (hF:q5p n p1 p2=some r):EvU Try.prog 25 [.agg [.isl false (List.map cGNode p1.Nodes)],.agg [.isl false (List.map cGNode p2.Nodes)]] ⟨[],0⟩ (fun u _=>u = .int .i64 r∧Bel 0 u):=by
 unfold q5p at hF
 refine EvU.of_body Try.tb_ok fn25 rfl ?_
 refine WPU.ghost (tm':=fr 42 [(0,.agg [.isl false (List.map cGNode p1.Nodes)]),(1,.agg [.isl false (List.map cGNode p2.Nodes)])]) (Gh.start (Nat.le_of_ble_eq_true rfl)) (Nat.zero_le _) ?_
 refine sr ?_
 refine RS.q (u:=.ptr 0 0 0) (σ':=⟨[(0,.row [.isl false (List.map cGNode p1.Nodes)] 25)],1⟩) rfl (q2x rfl rfl rfl) (RS.q (u:=.ptr 1 0 0) (σ':=⟨[(1,.row [.isl false (List.map cGNode p2.Nodes)] 25),(0,.row [.isl false (List.map cGNode p1.Nodes)] 25)],2⟩) rfl (q2x rfl rfl rfl) ?_)
 refine sd ?_
 obtain ⟨r3,h4,hF⟩:=q00 hF
 refine sr ?_
 refine RS.q (u:=.agg [.isl false (List.map cGNode p1.Nodes)]) rfl (q0g und25 rfl (q02 inf25) rfl rfl rfl) ?_
 refine RS.callx (R:=fun u σ'=>u = .vl 3 0 0 r3.length∧σ'=⟨[(3,.vec (List.map (cI .i64) r3).flatten 3 1 0),(1,.row [.isl false (List.map cGNode p2.Nodes)] 25),(0,.row [.isl false (List.map cGNode p1.Nodes)] 25)],4⟩) (args:=[.agg [.isl false (List.map cGNode p1.Nodes)]]) rfl (q01 rfl rfl fn39 hb39 rfl rfl) (EvU.own0 (cI .i64) (q7d n p1 r3 h4) _ 3 rfl) rfl rfl ?_
 rintro _ _ ⟨rfl,rfl⟩
 refine sd ?_
 obtain ⟨r5,h6,hF⟩:=q00 hF
 refine sr ?_
 refine RS.q (u:=.agg [.isl false (List.map cGNode p2.Nodes)]) rfl (q0g und25 rfl (q02 inf25) rfl rfl rfl) ?_
 refine RS.callx (R:=fun u σ'=>u = .vl 5 0 0 r5.length∧σ'=⟨[(5,.vec (List.map (cI .i64) r5).flatten 3 1 0),(3,.vec (List.map (cI .i64) r3).flatten 3 1 0),(1,.row [.isl false (List.map cGNode p2.Nodes)] 25),(0,.row [.isl false (List.map cGNode p1.Nodes)] 25)],6⟩) (args:=[.agg [.isl false (List.map cGNode p2.Nodes)]]) rfl (q01 rfl rfl fn39 hb39 rfl rfl) (EvU.own0 (cI .i64) (q7d n p2 r5 h6) _ 5 rfl) rfl rfl ?_
 rintro _ _ ⟨rfl,rfl⟩
 refine se ?_
 refine sd ?_
 refine WPU.ghost (tm':=fr 42 [(5,.vl 3 0 0 r3.length),(6,.vl 5 0 0 r5.length),(7,.int .i64 0)]) (Gh.sub ⟨rfl,rfl,rfl,trivial⟩) (Nat.zero_le _) ?_
 refine WPU.loopK (fun m tm σ=>∃ z14:Int,q48 r3 r5 m z14=some r∧tm=fr 42 [(5,.vl 3 0 0 r3.length),(6,.vl 5 0 0 r5.length),(7,.int .i64 z14)]∧σ=⟨[(5,.vec (List.map (cI .i64) r5).flatten 3 1 0),(3,.vec (List.map (cI .i64) r3).flatten 3 1 0),(1,.row [.isl false (List.map cGNode p2.Nodes)] 25),(0,.row [.isl false (List.map cGNode p1.Nodes)] 25)],6⟩) (fun tm σ=>q5h=some r∧tm=fr 42 []∧σ=⟨[(5,.vec (List.map (cI .i64) r5).flatten 3 1 0),(3,.vec (List.map (cI .i64) r3).flatten 3 1 0),(1,.row [.isl false (List.map cGNode p2.Nodes)] 25),(0,.row [.isl false (List.map cGNode p1.Nodes)] 25)],6⟩) n ⟨0,hF,rfl,rfl⟩ ?_ ?_
 rintro _ _ ⟨hF,rfl,rfl⟩
 unfold q5h at hF
 refine sr ?_
 refine sd ?_
 refine WPU.ret ?_
 refine st ?_
 have hr:=Option.some.inj hF
 subst hr
 exact ⟨.inr rfl,[.int .i64 0],q1w rfl (q1o),.int .i64 0,⟨[],0⟩,Nat.le_refl _,Gh.toR (.int .i64 0) rfl,rfl,BU.h⟩
 rintro m1 _ _ ⟨z14,hF,rfl,rfl⟩
 rcases m1 with _ | m1
 cases hF
 unfold q48 at hF
 refine st ?_
 obtain ⟨b16,h17,hF⟩:=q00 hF
 refine WPU.joinK (fun tm σ=>tm=fr 42 [(5,.vl 3 0 0 r3.length),(6,.vl 5 0 0 r5.length),(7,.int .i64 z14),(21,.bool b16)]∧σ=⟨[(5,.vec (List.map (cI .i64) r5).flatten 3 1 0),(3,.vec (List.map (cI .i64) r3).flatten 3 1 0),(1,.row [.isl false (List.map cGNode p2.Nodes)] 25),(0,.row [.isl false (List.map cGNode p1.Nodes)] 25)],6⟩) ?_ ?_
 rintro _ _ ⟨rfl,rfl⟩
 refine st ?_
 refine WPU.condS (t:=b16) rfl (fun h18=>?_) (fun h18=>?_)
 replace hF:=q0i h18 hF
 refine st ?_
 refine WPU.skip ?_
 refine st ?_
 refine WPU.block ?_
 refine st ?_
 obtain ⟨x19,h20,hF⟩:=q00 hF
 obtain ⟨x21,h22,hF⟩:=q00 hF
 refine WPU.drawE Try.tb_ok [] (by kernel_rfl) ?_
 repeat refine RD.mv rfl rfl rfl rfl ?_
 refine RD.q (u:=.ptr 3 0 (0*1+z14.toNat*1)) rfl (q1x rfl rfl (q6g (cI .i64) und55 (q02 inf3) (by decide) (q2t .i64) (vo rfl) h20)) ?_
 refine RD.q (u:=.int .i64 x19) rfl (q4s (cI .i64) (fun x=>.int .i64 x) und3 rfl (fun _=>rfl) rfl rfl h20) ?_
 repeat refine RD.mv rfl rfl rfl rfl ?_
 refine RD.q (u:=.ptr 5 0 (0*1+z14.toNat*1)) rfl (q1x rfl rfl (q6g (cI .i64) und55 (q02 inf3) (by decide) (q2t .i64) (vo rfl) h22)) ?_
 refine RD.q (u:=.int .i64 x21) rfl (q4s (cI .i64) (fun x=>.int .i64 x) und3 rfl (fun _=>rfl) rfl rfl h22) (RD.q rfl (q06 rfl rfl (q2c _ _ _) rfl) ?_)
 refine RD.done ⟨by kernel_rfl,trivial,?_⟩
 refine st ?_
 refine WPU.condS (t:=(decide (x19<x21))) rfl (fun h23=>?_) (fun h23=>?_)
 replace hF:=q0i h23 hF
 refine sr ?_
 refine sd ?_
 refine WPU.ret ?_
 refine st ?_
 have hr:=Option.some.inj hF
 subst hr
 exact ⟨.inr rfl,[.int .i64 (-1)],q1w rfl (q1o),.int .i64 (-1),⟨[],0⟩,Nat.le_refl _,Gh.toR (.int .i64 (-1)) rfl,rfl,BU.h⟩
 replace hF:=q0h h23 hF
 refine st ?_
 refine WPU.skip ?_
 refine st ?_
 obtain ⟨x24,h25,hF⟩:=q00 hF
 obtain ⟨x26,h27,hF⟩:=q00 hF
 refine WPU.drawE Try.tb_ok [] (by kernel_rfl) ?_
 repeat refine RD.mv rfl rfl rfl rfl ?_
 refine RD.q (u:=.ptr 3 0 (0*1+z14.toNat*1)) rfl (q1x rfl rfl (q6g (cI .i64) und55 (q02 inf3) (by decide) (q2t .i64) (vo rfl) h25)) ?_
 refine RD.q (u:=.int .i64 x24) rfl (q4s (cI .i64) (fun x=>.int .i64 x) und3 rfl (fun _=>rfl) rfl rfl h25) ?_
 repeat refine RD.mv rfl rfl rfl rfl ?_
 refine RD.q (u:=.ptr 5 0 (0*1+z14.toNat*1)) rfl (q1x rfl rfl (q6g (cI .i64) und55 (q02 inf3) (by decide) (q2t .i64) (vo rfl) h27)) ?_
 refine RD.q (u:=.int .i64 x26) rfl (q4s (cI .i64) (fun x=>.int .i64 x) und3 rfl (fun _=>rfl) rfl rfl h27) (RD.q rfl (q06 rfl rfl (ix_gtr _ _ _) rfl) ?_)
 refine RD.done ⟨by kernel_rfl,trivial,?_⟩
 refine st ?_
 refine WPU.condS (t:=(decide (x24 > x26))) rfl (fun h28=>?_) (fun h28=>?_)
 replace hF:=q0i h28 hF
 refine sr ?_
 refine sd ?_
 refine WPU.ret ?_
 refine st ?_
 have hr:=Option.some.inj hF
 subst hr
 exact ⟨.inr rfl,[.int .i64 1],q1w rfl (q1o),.int .i64 1,⟨[],0⟩,Nat.le_refl _,Gh.toR (.int .i64 1) rfl,rfl,BU.h⟩
 replace hF:=q0h h28 hF
 refine st ?_
 refine WPU.skip ?_
 refine sr ?_
 refine RS.q rfl (q06 rfl rfl (q3l _ _ _) rfl) ?_
 refine sd ?_
 exact ⟨m1,_,_,Nat.lt_succ_self _,⟨(IntKind.i64.wrap (z14+1)),hF,rfl,rfl⟩,(Nat.zero_le _),Gh.toC (n1:=6) ⟨rfl,rfl,rfl,trivial⟩ rfl (Nat.zero_le _) (by simp)⟩
 replace hF:=q0h h18 hF
 refine st ?_
 refine WPU.exit ?_
 refine st ?_
 exact ⟨_,_,⟨hF,rfl,rfl⟩,(Nat.zero_le _),Gh.toC (n1:=6) trivial rfl (Nat.zero_le _) (by simp)⟩
 rcases q2m (decide (z14<(r3.length:Int))) with h15 | h15
 replace h17:=q0i h15 h17
 replace h17:=Option.some.inj h17
 subst h17
 refine sr ?_
 repeat refine RS.mv rfl rfl rfl rfl ?_
 refine RS.q rfl (q1d rfl rfl rfl (q8q und55 rfl)) (RS.q rfl (q06 rfl rfl (q2c _ _ _) rfl) (RS.mv rfl rfl rfl rfl (RS.op (want1 rfl rfl rfl h15) (q33 rfl) rfl rfl (RS.op (want1 rfl rfl rfl h15) (q33 rfl) rfl rfl (RS.op (want1 rfl rfl rfl h15) (q1d rfl rfl rfl (q8q und55 rfl)) rfl rfl (RS.op (want1 rfl rfl rfl h15) (q06 rfl rfl (q2c _ _ _) rfl) rfl rfl (RS.q (u:=.bool (decide (z14<(r5.length:Int)))) rfl (q0l rfl h15 rfl) ?_)))))))
 refine sd ?_
 exact ⟨_,_,⟨rfl,rfl⟩,(Nat.zero_le _),Gh.toC (n1:=6) ⟨rfl,rfl,rfl,rfl,trivial⟩ rfl (Nat.zero_le _) (by simp)⟩
 replace h17:=q0h h15 h17
 replace h17:=Option.some.inj h17
 subst h17
 refine sr ?_
 repeat refine RS.mv rfl rfl rfl rfl ?_
 refine RS.q rfl (q1d rfl rfl rfl (q8q und55 rfl)) (RS.q rfl (q06 rfl rfl (q2c _ _ _) rfl) (RS.mv rfl rfl rfl rfl ?_))
 repeat refine RS.no (want0 rfl rfl rfl h15) rfl rfl ?_
 refine RS.q (u:=.bool false) rfl (q0k rfl h15 rfl) ?_
 refine sd ?_
 exact ⟨_,_,⟨rfl,rfl⟩,(Nat.zero_le _),Gh.toC (n1:=6) ⟨rfl,rfl,rfl,rfl,trivial⟩ rfl (Nat.zero_le _) (by simp)⟩
theorem q9x (n:Nat) (p1:GFS) (p2:GFS) (r:Int) (hF:q5p n p1 p2=some r) (σ:Sg):EvU Try.prog 25 [.agg [.isl false (List.map cGNode p1.Nodes)],.agg [.isl false (List.map cGNode p2.Nodes)]] σ (fun u σ'=>u = .int .i64 r∧σ'=σ) :=
 EvU.pure1C (qb8 n p1 p2 r hF) σ
def q4a (n:Nat) (p1:GFS) (p2:GFS):Option (Bool) :=
 bindO (q36 n p1 p2) fun r3 =>
 some (r3 == 0)
theorem graph_Equal_0 (n:Nat) (p1:GFS) (p2:GFS) (r:Bool) (hF:q4a n p1 p2=some r):EvU Try.prog 26 [.agg [.isl false (List.map cGNode p1.Nodes)],.agg [.isl false (List.map cGNode p2.Nodes)]] ⟨[],0⟩ (fun u _=>u = .bool r∧Bel 0 u):=by
 unfold q4a at hF
 refine EvU.of_body Try.tb_ok fn26 rfl ?_
 refine WPU.ghost (tm':=fr 9 [(0,.agg [.isl false (List.map cGNode p1.Nodes)]),(1,.agg [.isl false (List.map cGNode p2.Nodes)])]) (Gh.start (Nat.le_of_ble_eq_true rfl)) (Nat.zero_le _) ?_
 refine sr ?_
 refine RS.q (u:=.ptr 0 0 0) (σ':=⟨[(0,.row [.isl false (List.map cGNode p1.Nodes)] 25)],1⟩) rfl (q2x rfl rfl rfl) (RS.q (u:=.ptr 1 0 0) (σ':=⟨[(1,.row [.isl false (List.map cGNode p2.Nodes)] 25),(0,.row [.isl false (List.map cGNode p1.Nodes)] 25)],2⟩) rfl (q2x rfl rfl rfl) ?_)
 refine sd ?_
 obtain ⟨r3,h4,hF⟩:=q00 hF
 refine sr ?_
 refine RS.q (u:=.agg [.isl false (List.map cGNode p1.Nodes)]) rfl (q0g und25 rfl (q02 inf25) rfl rfl rfl) (RS.q (u:=.agg [.isl false (List.map cGNode p2.Nodes)]) rfl (q0g und25 rfl (q02 inf25) rfl rfl rfl) (RS.call (u:=.int .i64 r3) (args:=[.agg [.isl false (List.map cGNode p1.Nodes)],.agg [.isl false (List.map cGNode p2.Nodes)]]) rfl (q01 rfl rfl fn24 hb24 rfl rfl) (q6y n p1 p2 r3 h4 _) rfl rfl (RS.q rfl (q06 rfl rfl (q6z _ _ _) rfl) ?_)))
 refine sd ?_
 refine WPU.ret ?_
 refine st ?_
 have hr:=Option.some.inj hF
 subst hr
 exact ⟨.inr rfl,[.bool (r3 == 0)],q1w rfl (q1o),.bool (r3 == 0),⟨[],0⟩,Nat.le_refl _,Gh.toR (.bool (r3 == 0)) rfl,rfl,BU.h⟩
theorem q3c (n:Nat) (p1:GFS) (p2:GFS) (r:Bool) (hF:q4a n p1 p2=some r) (σ:Sg):EvU Try.prog 26 [.agg [.isl false (List.map cGNode p1.Nodes)],.agg [.isl false (List.map cGNode p2.Nodes)]] σ (fun u σ'=>u = .bool r∧σ'=σ) :=
 EvU.pure1C (graph_Equal_0 n p1 p2 r hF) σ
def q6e (n:Nat) (p1:Int):Option (GFS) :=
 some (GFS.mk ([(GNode.mk p1 [])]))
theorem graph_Atom_0 (n:Nat) (p1:Int) (r:GFS) (hF:q6e n p1=some r):EvU Try.prog 12 [.int .i64 p1] ⟨[],0⟩ (fun u _=>u = .agg [.isl false (List.map cGNode r.Nodes)]∧Bel 0 u):=by
 unfold q6e at hF
 refine EvU.of_body Try.tb_ok fn12 rfl ?_
 refine WPU.ghost (tm':=fr 7 [(0,.int .i64 p1)]) (Gh.start (Nat.le_of_ble_eq_true rfl)) (Nat.zero_le _) ?_
 refine sr ?_
 refine RS.q (u:=.ptr 0 0 0) (σ':=⟨[(0,.row [.nils] 25)],1⟩) rfl (q1b inf25 rfl rfl) ?_
 refine se ?_
 refine RS.q (u:=.agg [.int .i64 p1,.nils]) rfl (q79 bd43 rfl rfl rfl) (RS.q (u:=.sl 1 0 1 1) (σ':=⟨[(1,.row [.int .i64 p1,.nils] 43),(0,.row [.nils] 25)],2⟩) rfl (q24 und23 inf43 rfl rfl rfl rfl rfl rfl rfl) (RS.q (u:=.agg [.sl 1 0 1 1]) rfl (q79 bd25 rfl rfl rfl) (RS.opn (u:=.junk) (σ':=⟨[(1,.row [.int .i64 p1,.nils] 43),(0,.row [.sl 1 0 1 1] 25)],2⟩) rfl (q0y (q02 inf25) rfl rfl rfl rfl rfl rfl rfl rfl) rfl ?_)))
 refine sd ?_
 refine WPU.ret ?_
 refine st ?_
 have hr:=Option.some.inj hF
 subst hr
 exact ⟨.inr rfl,[.agg [.sl 1 0 1 1]],res_c (q0g und25 rfl (q02 inf25) rfl rfl rfl) (q1o),.agg [.isl false (List.map cGNode ([(GNode.mk p1 [])]))],⟨[],0⟩,Nat.le_refl _,Gh.trans (Gh.trans (Gh.rowW (K:=1) (q':=[.int .i64 p1,.isl false []]) rfl rfl (.cons (.refl _) (.cons (.nil false) .nil))) (Gh.fz (tm':=[.agg [.isl false (List.map cGNode ([(GNode.mk p1 [])]))]]) (h':=[(0,.row [.isl false (List.map cGNode ([(GNode.mk p1 [])]))] 25)]) 1 (.row [.int .i64 p1,.isl false []] 43) 2 rfl (by simp) (by simp only [oneU,q07,q03,q0n,q09,q0q,q0d,q0c,q0b,q0a,q08,q0o,q0p,q0m,q0r,q1k,junkT,q1u,q1v,Nat.reduceLeDiff,Nat.reduceMul,List.length_cons,List.length_nil,Nat.reduceAdd]<;>simp only [chunks,List.take,List.drop,List.map,cGNode]) (by simp only [fzH,fzB,ug,Nat.beq,cond_true,cond_false,oneU,q07,q03,q0n,q09,q0q,q0d,q0c,q0b,q0a,q08,q0o,q0p,q0m,q0r,q1k,junkT,q1u,q1v,Nat.reduceLeDiff,Nat.reduceMul,List.length_cons,List.length_nil,Nat.reduceAdd]<;>simp only [chunks,List.take,List.drop,List.map,cGNode]))) (Gh.toR (.agg [.isl false (List.map cGNode ([(GNode.mk p1 [])]))]) rfl),rfl,BU.h⟩
theorem q5n (n:Nat) (p1:Int) (r:GFS) (hF:q6e n p1=some r) (σ:Sg):EvU Try.prog 12 [.int .i64 p1] σ (fun u σ'=>u = .agg [.isl false (List.map cGNode r.Nodes)]∧σ'=σ) :=
 EvU.pure1C (graph_Atom_0 n p1 r hF) σ
def q3i  (w13:MapL Int Bool):Option (Int) :=
 some 0
def q2g (p1:GNode) (p2:Int):Nat→Int→(MapL Int Bool)→Option (Int)
 | 0,_,_=>none
 | m1+1,z11,w12 =>
  cond (decide (z11<(p1.Arcs.length:Int)))
   (bindO (idxO p1.Arcs z11) fun x15 =>
   bindO (cond (decide (x15.Feat<0))
    (some true)
    (cond (decide (x15.To<0))
     (some true)
     (some (decide (x15.To ≥ p2))))) fun b19 =>
   cond b19
    (some 2)
    (cond ((mGet (fun a b=>a == b) w12 x15.Feat).getD false)
     (some 4)
     ((q2g p1 p2 m1) (IntKind.i64.wrap (z11+1)) (mUpd (fun a b=>a == b) w12 x15.Feat true))))
   (q3i w12)
def q31 (n:Nat) (p1:GNode) (p2:Int):Option (Int) :=
 cond (decide (p1.Typex<0))
  (some 2)
  (q2g p1 p2 n 0 (mNew:MapL Int Bool))
theorem q9f (n:Nat) (p1:GNode) (p2:Int) (r:Int) (hF:q31 n p1 p2=some r):EvU Try.prog 30 [.agg (cGNode p1),.int .i64 p2] ⟨[],0⟩ (fun u _=>u = .int .i64 r∧Bel 0 u):=by
 unfold q31 at hF
 refine EvU.of_body Try.tb_ok fn30 rfl ?_
 refine WPU.ghost (tm':=fr 41 [(0,.agg (cGNode p1)),(1,.int .i64 p2)]) (Gh.start (Nat.le_of_ble_eq_true rfl)) (Nat.zero_le _) ?_
 refine sr ?_
 refine RS.q (u:=.ptr 0 0 0) (σ':=⟨[(0,.row (cGNode p1) 43)],1⟩) rfl (q2x rfl rfl rfl) ?_
 refine se ?_
 refine RS.q (u:=.ptr 0 0 0) rfl (q16 und43 rfl (q02 inf3) rfl rfl rfl) (RS.q (u:=.int .i64 p1.Typex) rfl (q05 und3 rfl rfl rfl rfl) (RS.q rfl (q06 rfl rfl (q2c _ _ _) rfl) ?_))
 refine sd ?_
 refine WPU.condS (t:=(decide (p1.Typex<0))) rfl (fun h3=>?_) (fun h3=>?_)
 replace hF:=q0i h3 hF
 refine sr ?_
 refine sd ?_
 refine WPU.ret ?_
 refine st ?_
 have hr:=Option.some.inj hF
 subst hr
 exact ⟨.inr rfl,[.int .i64 2],q1w rfl (q1o),.int .i64 2,⟨[],0⟩,Nat.le_refl _,Gh.toR (.int .i64 2) rfl,rfl,BU.h⟩
 replace hF:=q0h h3 hF
 refine st ?_
 refine WPU.skip ?_
 refine sr ?_
 refine RS.q (u:=.map 1) (σ':=⟨[(1,.map (List.map (mE (fun x=>.int .i64 x) (fun x=>.bool x)) (mNew:MapL Int Bool).es) (mNew:MapL Int Bool).cl),(0,.row (cGNode p1) 43)],2⟩) rfl (op_mnew) ?_
 refine se ?_
 refine RS.q (u:=.ptr 0 0 1) rfl (q16 und43 rfl (q02 inf41) rfl rfl rfl) (RS.q (u:=.isl false (List.map cGArc p1.Arcs)) rfl (q05 und41 rfl rfl rfl rfl) (RS.q rfl (q1d rfl rfl rfl (q14 cGArc und41)) (RS.mv rfl rfl rfl rfl ?_)))
 refine sd ?_
 refine WPU.ghost (tm':=fr 41 [(1,.int .i64 p2),(5,.map 1),(13,.isl false (List.map cGArc p1.Arcs)),(14,.int .i64 (p1.Arcs.length:Int)),(15,.int .i64 0)]) (Gh.sub ⟨rfl,rfl,rfl,rfl,rfl,trivial⟩) (Nat.zero_le _) ?_
 refine WPU.loopK (fun m tm σ=>∃ z11:Int,∃ w12:MapL Int Bool,q2g p1 p2 m z11 w12=some r∧tm=fr 41 [(1,.int .i64 p2),(5,.map 1),(13,.isl false (List.map cGArc p1.Arcs)),(14,.int .i64 (p1.Arcs.length:Int)),(15,.int .i64 z11)]∧σ=⟨[(1,.map (List.map (mE (fun x=>.int .i64 x) (fun x=>.bool x)) w12.es) w12.cl),(0,.row (cGNode p1) 43)],2⟩) (fun tm σ=>∃ w13:MapL Int Bool,q3i w13=some r∧tm=fr 41 []∧σ=⟨[(1,.map (List.map (mE (fun x=>.int .i64 x) (fun x=>.bool x)) w13.es) w13.cl),(0,.row (cGNode p1) 43)],2⟩) n ⟨0,(mNew:MapL Int Bool),hF,rfl,rfl⟩ ?_ ?_
 rintro _ _ ⟨w13,hF,rfl,rfl⟩
 unfold q3i at hF
 refine sr ?_
 refine sd ?_
 refine WPU.ret ?_
 refine st ?_
 have hr:=Option.some.inj hF
 subst hr
 exact ⟨.inr rfl,[.int .i64 0],q1w rfl (q1o),.int .i64 0,⟨[],0⟩,Nat.le_refl _,Gh.toR (.int .i64 0) rfl,rfl,BU.h⟩
 rintro m1 _ _ ⟨z11,w12,hF,rfl,rfl⟩
 rcases m1 with _ | m1
 cases hF
 unfold q2g at hF
 refine sr ?_
 refine RS.q rfl (q06 rfl rfl (q2c _ _ _) rfl) ?_
 refine sd ?_
 refine WPU.condS (t:=(decide (z11<(p1.Arcs.length:Int)))) rfl (fun h14=>?_) (fun h14=>?_)
 replace hF:=q0i h14 hF
 refine st ?_
 refine WPU.skip ?_
 refine st ?_
 refine WPU.block ?_
 refine st ?_
 obtain ⟨x15,h16,hF⟩:=q00 hF
 refine sr ?_
 refine RS.q (u:=.iptr (cGArc x15)) rfl (q1x rfl rfl (q2q cGArc und41 (q02 inf45) q1q h16 rfl)) (RS.q (u:=.agg (cGArc x15)) rfl (q7y und45 rfl (q02 inf45) rfl rfl) (RS.q (u:=.ptr 2 0 0) (σ':=⟨[(2,.row [.int .i64 0,.int .i64 0] 45),(1,.map (List.map (mE (fun x=>.int .i64 x) (fun x=>.bool x)) w12.es) w12.cl),(0,.row (cGNode p1) 43)],3⟩) rfl (q1b inf45 rfl rfl) (RS.opn (u:=.junk) (σ':=⟨[(2,.row (cGArc x15) 45),(1,.map (List.map (mE (fun x=>.int .i64 x) (fun x=>.bool x)) w12.es) w12.cl),(0,.row (cGNode p1) 43)],3⟩) rfl (q0y (q02 inf45) rfl rfl rfl rfl rfl rfl rfl rfl) rfl ?_)))
 refine sd ?_
 obtain ⟨b19,h20,hF⟩:=q00 hF
 refine WPU.joinK (fun tm σ=>tm=fr 41 [(1,.int .i64 p2),(5,.map 1),(7,.ptr 2 0 0),(13,.isl false (List.map cGArc p1.Arcs)),(14,.int .i64 (p1.Arcs.length:Int)),(15,.int .i64 z11),(32,.bool b19)]∧σ=⟨[(2,.row (cGArc x15) 45),(1,.map (List.map (mE (fun x=>.int .i64 x) (fun x=>.bool x)) w12.es) w12.cl),(0,.row (cGNode p1) 43)],3⟩) ?_ ?_
 rintro _ _ ⟨rfl,rfl⟩
 refine st ?_
 refine WPU.condS (t:=b19) rfl (fun h21=>?_) (fun h21=>?_)
 replace hF:=q0i h21 hF
 refine sr ?_
 refine sd ?_
 refine WPU.ret ?_
 refine st ?_
 have hr:=Option.some.inj hF
 subst hr
 exact ⟨.inr rfl,[.int .i64 2],q1w rfl (q1o),.int .i64 2,⟨[],0⟩,Nat.le_refl _,Gh.toR (.int .i64 2) rfl,rfl,BU.h⟩
 replace hF:=q0h h21 hF
 refine st ?_
 refine WPU.skip ?_
 refine sr ?_
 refine RS.q (u:=.ptr 2 0 0) rfl (q16 und45 rfl (q02 inf3) rfl rfl rfl) (RS.q (u:=.int .i64 x15.Feat) rfl (q05 und3 rfl rfl rfl rfl) (RS.q (u:=.bool ((mGet (fun a b=>a == b) w12 x15.Feat).getD false)) rfl (op_look (kU:=(fun x=>.int .i64 x)) (vU:=(fun x=>.bool x)) (m:=w12) (k:=x15.Feat) (zv:=false) (qax und3) und60 rfl rfl rfl inf4 rfl) ?_))
 refine sd ?_
 refine WPU.condS (t:=((mGet (fun a b=>a == b) w12 x15.Feat).getD false)) rfl (fun h22=>?_) (fun h22=>?_)
 replace hF:=q0i h22 hF
 refine sr ?_
 refine sd ?_
 refine WPU.ret ?_
 refine st ?_
 have hr:=Option.some.inj hF
 subst hr
 exact ⟨.inr rfl,[.int .i64 4],q1w rfl (q1o),.int .i64 4,⟨[],0⟩,Nat.le_refl _,Gh.toR (.int .i64 4) rfl,rfl,BU.h⟩
 replace hF:=q0h h22 hF
 refine st ?_
 refine WPU.skip ?_
 refine sr ?_
 refine RS.q (u:=.ptr 2 0 0) rfl (q16 und45 rfl (q02 inf3) rfl rfl rfl) (RS.q (u:=.int .i64 x15.Feat) rfl (q05 und3 rfl rfl rfl rfl) (RS.opn (u:=.junk) (σ':=⟨[(2,.row (cGArc x15) 45),(1,.map (List.map (mE (fun x=>.int .i64 x) (fun x=>.bool x)) (mUpd (fun a b=>a == b) w12 x15.Feat true).es) (mUpd (fun a b=>a == b) w12 x15.Feat true).cl),(0,.row (cGNode p1) 43)],3⟩) rfl (op_mup (kU:=(fun x=>.int .i64 x)) (vU:=(fun x=>.bool x)) (m:=w12) (k:=x15.Feat) (v:=true) (qax und3) und60 rfl rfl rfl rfl rfl) rfl ?_))
 refine se ?_
 refine RS.q rfl (q06 rfl rfl (q3l _ _ _) rfl) (RS.mv rfl rfl rfl rfl ?_)
 refine sd ?_
 exact ⟨m1,_,_,Nat.lt_succ_self _,⟨(IntKind.i64.wrap (z11+1)),(mUpd (fun a b=>a == b) w12 x15.Feat true),hF,rfl,rfl⟩,(Nat.zero_le _),Gh.toC (n1:=2) ⟨rfl,rfl,rfl,rfl,rfl,trivial⟩ rfl (Nat.zero_le _) (by simp)⟩
 rcases q2m (decide (x15.Feat<0)) with h17 | h17
 replace h20:=q0i h17 h20
 replace h20:=Option.some.inj h20
 subst h20
 refine sr ?_
 refine RS.q (u:=.ptr 2 0 0) rfl (q16 und45 rfl (q02 inf3) rfl rfl rfl) (RS.q (u:=.int .i64 x15.Feat) rfl (q05 und3 rfl rfl rfl rfl) (RS.q rfl (q06 rfl rfl (q2c _ _ _) rfl) (RS.mv rfl rfl rfl rfl ?_)))
 repeat refine RS.no (want0 rfl rfl rfl h17) rfl rfl ?_
 refine RS.q (u:=.bool true) rfl (q0l rfl h17 rfl) (RS.mv rfl rfl rfl rfl ?_)
 repeat refine RS.no (want0 rfl rfl rfl rfl) rfl rfl ?_
 refine RS.q (u:=.bool true) rfl (q0l rfl rfl rfl) ?_
 refine sd ?_
 exact ⟨_,_,⟨rfl,rfl⟩,(Nat.zero_le _),Gh.toC (n1:=3) ⟨rfl,rfl,rfl,rfl,rfl,rfl,rfl,trivial⟩ rfl (Nat.zero_le _) (by simp)⟩
 replace h20:=q0h h17 h20
 rcases q2m (decide (x15.To<0)) with h18 | h18
 replace h20:=q0i h18 h20
 replace h20:=Option.some.inj h20
 subst h20
 refine sr ?_
 refine RS.q (u:=.ptr 2 0 0) rfl (q16 und45 rfl (q02 inf3) rfl rfl rfl) (RS.q (u:=.int .i64 x15.Feat) rfl (q05 und3 rfl rfl rfl rfl) (RS.q rfl (q06 rfl rfl (q2c _ _ _) rfl) (RS.mv rfl rfl rfl rfl (RS.op (u:=.ptr 2 0 1) (want1 rfl rfl rfl h17) (q16 und45 rfl (q02 inf3) rfl rfl rfl) rfl rfl (RS.op (u:=.int .i64 x15.To) (want1 rfl rfl rfl h17) (q05 und3 rfl rfl rfl rfl) rfl rfl (RS.op (want1 rfl rfl rfl h17) (q06 rfl rfl (q2c _ _ _) rfl) rfl rfl (RS.q (u:=.bool (decide (x15.To<0))) rfl (q0k rfl h17 rfl) ?_)))))))
 refine RS.mv rfl rfl rfl rfl ?_
 repeat refine RS.no (want0 rfl rfl rfl h18) rfl rfl ?_
 refine RS.q (u:=.bool true) rfl (q0l rfl h18 rfl) ?_
 refine sd ?_
 exact ⟨_,_,⟨rfl,rfl⟩,(Nat.zero_le _),Gh.toC (n1:=3) ⟨rfl,rfl,rfl,rfl,rfl,rfl,rfl,trivial⟩ rfl (Nat.zero_le _) (by simp)⟩
 replace h20:=q0h h18 h20
 replace h20:=Option.some.inj h20
 subst h20
 refine sr ?_
 refine RS.q (u:=.ptr 2 0 0) rfl (q16 und45 rfl (q02 inf3) rfl rfl rfl) (RS.q (u:=.int .i64 x15.Feat) rfl (q05 und3 rfl rfl rfl rfl) (RS.q rfl (q06 rfl rfl (q2c _ _ _) rfl) (RS.mv rfl rfl rfl rfl (RS.op (u:=.ptr 2 0 1) (want1 rfl rfl rfl h17) (q16 und45 rfl (q02 inf3) rfl rfl rfl) rfl rfl (RS.op (u:=.int .i64 x15.To) (want1 rfl rfl rfl h17) (q05 und3 rfl rfl rfl rfl) rfl rfl (RS.op (want1 rfl rfl rfl h17) (q06 rfl rfl (q2c _ _ _) rfl) rfl rfl (RS.q (u:=.bool (decide (x15.To<0))) rfl (q0k rfl h17 rfl) ?_)))))))
 refine RS.mv rfl rfl rfl rfl (RS.op (u:=.ptr 2 0 1) (want1 rfl rfl rfl h18) (q16 und45 rfl (q02 inf3) rfl rfl rfl) rfl rfl (RS.op (u:=.int .i64 x15.To) (want1 rfl rfl rfl h18) (q05 und3 rfl rfl rfl rfl) rfl rfl (RS.op (want1 rfl rfl rfl h18) (q33 rfl) rfl rfl (RS.op (want1 rfl rfl rfl h18) (q06 rfl rfl (ix_geq _ _ _) rfl) rfl rfl (RS.q (u:=.bool (decide (x15.To ≥ p2))) rfl (q0k rfl h18 rfl) ?_)))))
 refine sd ?_
 exact ⟨_,_,⟨rfl,rfl⟩,(Nat.zero_le _),Gh.toC (n1:=3) ⟨rfl,rfl,rfl,rfl,rfl,rfl,rfl,trivial⟩ rfl (Nat.zero_le _) (by simp)⟩
 replace hF:=q0h h14 hF
 refine st ?_
 refine WPU.exit ?_
 refine st ?_
 exact ⟨_,_,⟨w12,hF,rfl,rfl⟩,(Nat.zero_le _),Gh.toC (n1:=2) trivial rfl (Nat.zero_le _) (by simp)⟩
theorem q8l (n:Nat) (p1:GNode) (p2:Int) (r:Int) (hF:q31 n p1 p2=some r) (σ:Sg):EvU Try.prog 30 [.agg (cGNode p1),.int .i64 p2] σ (fun u σ'=>u = .int .i64 r∧σ'=σ) :=
 EvU.pure1C (q9f n p1 p2 r hF) σ
def q4x (p1:GFS) (n:Nat)  : Option (GFS×Int) :=
 bindO (q2n n p1 0) fun r9 =>
 some (r9,0)
def q3b (p1:GFS) (n:Nat):Nat→Int→Option (GFS×Int)
 | 0,_=>none
 | m1+1,z8 =>
  cond (decide (z8<(p1.Nodes.length:Int)))
   (bindO (idxO p1.Nodes z8) fun x12 =>
   bindO (q31 n x12 (p1.Nodes.length:Int)) fun r14 =>
   cond (r14 != 0)
    (some ((GFS.mk []),r14))
    ((q3b p1 n m1) (IntKind.i64.wrap (z8+1))))
   (q4x p1 n)
def q2v (n:Nat) (p1:GFS):Option (GFS×Int) :=
 cond ((p1.Nodes.length:Int) == 0)
  (some ((GFS.mk []),1))
  (cond (decide ((p1.Nodes.length:Int) > 4096))
   (some ((GFS.mk []),7))
   (q3b p1 n n 0))
theorem graph_Canon_0 (n:Nat) (p1:GFS) (r:GFS×Int) (hF:q2v n p1=some r):EvU Try.prog 13 [.agg [.isl false (List.map cGNode p1.Nodes)]] ⟨[],0⟩ (fun u _=>u = .tup [.agg [.isl false (List.map cGNode r.1.Nodes)],.int .i64 r.2]∧Bel 0 u):=by
 unfold q2v at hF
 refine EvU.of_body Try.tb_ok fn13 rfl ?_
 refine WPU.ghost (tm':=fr 36 [(0,.agg [.isl false (List.map cGNode p1.Nodes)])]) (Gh.start (Nat.le_of_ble_eq_true rfl)) (Nat.zero_le _) ?_
 refine sr ?_
 refine RS.q (u:=.ptr 0 0 0) (σ':=⟨[(0,.row [.isl false (List.map cGNode p1.Nodes)] 25)],1⟩) rfl (q2x rfl rfl rfl) (RS.q (u:=.ptr 1 0 0) (σ':=⟨[(1,.row [.nils] 25),(0,.row [.isl false (List.map cGNode p1.Nodes)] 25)],2⟩) rfl (q1b inf25 rfl rfl) ?_)
 refine se ?_
 refine RS.q (u:=.ptr 0 0 0) rfl (q16 und25 rfl (q02 inf23) rfl rfl rfl) (RS.q (u:=.isl false (List.map cGNode p1.Nodes)) rfl (q05 und23 rfl rfl rfl rfl) (RS.q rfl (q1d rfl rfl rfl (q14 cGNode und23)) (RS.q rfl (q06 rfl rfl (q6z _ _ _) rfl) ?_)))
 refine sd ?_
 refine WPU.condS (t:=((p1.Nodes.length:Int) == 0)) rfl (fun h2=>?_) (fun h2=>?_)
 replace hF:=q0i h2 hF
 refine sr ?_
 refine RS.q (u:=.agg [.nils]) rfl (q79 bd25 rfl rfl rfl) (RS.opn (u:=.junk) (σ':=⟨[(1,.row [.nils] 25),(0,.row [.isl false (List.map cGNode p1.Nodes)] 25)],2⟩) rfl (q0y (q02 inf25) rfl rfl rfl rfl rfl rfl rfl rfl) rfl ?_)
 refine sd ?_
 refine WPU.ret ?_
 refine st ?_
 have hr:=Option.some.inj hF
 subst hr
 exact ⟨.inr rfl,[.agg [.nils],.int .i64 1],res_c (q0g und25 rfl (q02 inf25) rfl rfl rfl) (q1w rfl (q1o)),.tup [.agg [.isl false []],.int .i64 1],⟨[],0⟩,Nat.le_refl _,Gh.trans (Gh.wk (.cons (.tup (.cons (.agg (.cons (.nil false) .nil)) (.cons (.refl _) .nil))) .nil)) (Gh.toR (.tup [.agg [.isl false []],.int .i64 1]) rfl),rfl,BU.h⟩
 replace hF:=q0h h2 hF
 refine st ?_
 refine WPU.skip ?_
 refine sr ?_
 refine RS.q (u:=.ptr 0 0 0) rfl (q16 und25 rfl (q02 inf23) rfl rfl rfl) (RS.q (u:=.isl false (List.map cGNode p1.Nodes)) rfl (q05 und23 rfl rfl rfl rfl) (RS.q rfl (q1d rfl rfl rfl (q14 cGNode und23)) (RS.q rfl (q06 rfl rfl (ix_gtr _ _ _) rfl) ?_)))
 refine sd ?_
 refine WPU.condS (t:=(decide ((p1.Nodes.length:Int) > 4096))) rfl (fun h3=>?_) (fun h3=>?_)
 replace hF:=q0i h3 hF
 refine sr ?_
 refine RS.q (u:=.agg [.nils]) rfl (q79 bd25 rfl rfl rfl) (RS.opn (u:=.junk) (σ':=⟨[(1,.row [.nils] 25),(0,.row [.isl false (List.map cGNode p1.Nodes)] 25)],2⟩) rfl (q0y (q02 inf25) rfl rfl rfl rfl rfl rfl rfl rfl) rfl ?_)
 refine sd ?_
 refine WPU.ret ?_
 refine st ?_
 have hr:=Option.some.inj hF
 subst hr
 exact ⟨.inr rfl,[.agg [.nils],.int .i64 7],res_c (q0g und25 rfl (q02 inf25) rfl rfl rfl) (q1w rfl (q1o)),.tup [.agg [.isl false []],.int .i64 7],⟨[],0⟩,Nat.le_refl _,Gh.trans (Gh.wk (.cons (.tup (.cons (.agg (.cons (.nil false) .nil)) (.cons (.refl _) .nil))) .nil)) (Gh.toR (.tup [.agg [.isl false []],.int .i64 7]) rfl),rfl,BU.h⟩
 replace hF:=q0h h3 hF
 refine st ?_
 refine WPU.skip ?_
 refine sr ?_
 refine RS.q (u:=.ptr 0 0 0) rfl (q16 und25 rfl (q02 inf23) rfl rfl rfl) (RS.q (u:=.isl false (List.map cGNode p1.Nodes)) rfl (q05 und23 rfl rfl rfl rfl) (RS.q rfl (q1d rfl rfl rfl (q14 cGNode und23)) (RS.mv rfl rfl rfl rfl ?_)))
 refine sd ?_
 refine WPU.ghost (tm':=fr 36 [(1,.ptr 0 0 0),(2,.ptr 1 0 0),(18,.isl false (List.map cGNode p1.Nodes)),(19,.int .i64 (p1.Nodes.length:Int)),(20,.int .i64 0)]) (Gh.sub ⟨rfl,rfl,rfl,rfl,rfl,trivial⟩) (Nat.zero_le _) ?_
 refine WPU.loopK (fun m tm σ=>∃ z8:Int,q3b p1 n m z8=some r∧tm=fr 36 [(1,.ptr 0 0 0),(2,.ptr 1 0 0),(18,.isl false (List.map cGNode p1.Nodes)),(19,.int .i64 (p1.Nodes.length:Int)),(20,.int .i64 z8)]∧σ=⟨[(1,.row [.nils] 25),(0,.row [.isl false (List.map cGNode p1.Nodes)] 25)],2⟩) (fun tm σ=>q4x p1 n=some r∧tm=fr 36 [(1,.ptr 0 0 0),(2,.ptr 1 0 0)]∧σ=⟨[(1,.row [.nils] 25),(0,.row [.isl false (List.map cGNode p1.Nodes)] 25)],2⟩) n ⟨0,hF,rfl,rfl⟩ ?_ ?_
 rintro _ _ ⟨hF,rfl,rfl⟩
 unfold q4x at hF
 refine st ?_
 obtain ⟨r9,h10,hF⟩:=q00 hF
 refine sr ?_
 refine RS.q (u:=.agg [.isl false (List.map cGNode p1.Nodes)]) rfl (q0g und25 rfl (q02 inf25) rfl rfl rfl) (RS.call (u:=.agg [.isl false (List.map cGNode r9.Nodes)]) (args:=[.agg [.isl false (List.map cGNode p1.Nodes)],.int .i64 0]) rfl (q01 rfl rfl fn31 hb31 rfl rfl) (q65 n p1 0 r9 h10 _) rfl rfl (RS.opn (u:=.junk) (σ':=⟨[(1,.row [.isl false (List.map cGNode r9.Nodes)] 25),(0,.row [.isl false (List.map cGNode p1.Nodes)] 25)],2⟩) rfl (q0y (q02 inf25) rfl rfl rfl rfl rfl rfl rfl rfl) rfl ?_))
 refine sd ?_
 refine WPU.ret ?_
 refine st ?_
 have hr:=Option.some.inj hF
 subst hr
 exact ⟨.inr rfl,[.agg [.isl false (List.map cGNode r9.Nodes)],.int .i64 0],res_c (q0g und25 rfl (q02 inf25) rfl rfl rfl) (q1w rfl (q1o)),.tup [.agg [.isl false (List.map cGNode r9.Nodes)],.int .i64 0],⟨[],0⟩,Nat.le_refl _,Gh.toR (.tup [.agg [.isl false (List.map cGNode r9.Nodes)],.int .i64 0]) rfl,rfl,BU.h⟩
 rintro m1 _ _ ⟨z8,hF,rfl,rfl⟩
 rcases m1 with _ | m1
 cases hF
 unfold q3b at hF
 refine sr ?_
 refine RS.q rfl (q06 rfl rfl (q2c _ _ _) rfl) ?_
 refine sd ?_
 refine WPU.condS (t:=(decide (z8<(p1.Nodes.length:Int)))) rfl (fun h11=>?_) (fun h11=>?_)
 replace hF:=q0i h11 hF
 refine st ?_
 refine WPU.skip ?_
 refine st ?_
 refine WPU.block ?_
 refine st ?_
 obtain ⟨x12,h13,hF⟩:=q00 hF
 refine sr ?_
 refine RS.q (u:=.iptr (cGNode x12)) rfl (q1x rfl rfl (q2q cGNode und23 (q02 inf43) q1h h13 rfl)) (RS.q (u:=.agg (cGNode x12)) rfl (q7y und43 rfl (q02 inf43) rfl rfl) (RS.q (u:=.ptr 2 0 0) (σ':=⟨[(2,.row [.int .i64 0,.nils] 43),(1,.row [.nils] 25),(0,.row [.isl false (List.map cGNode p1.Nodes)] 25)],3⟩) rfl (q1b inf43 rfl rfl) (RS.opn (u:=.junk) (σ':=⟨[(2,.row (cGNode x12) 43),(1,.row [.nils] 25),(0,.row [.isl false (List.map cGNode p1.Nodes)] 25)],3⟩) rfl (q0y (q02 inf43) rfl rfl rfl rfl rfl rfl rfl rfl) rfl ?_)))
 refine sd ?_
 obtain ⟨r14,h15,hF⟩:=q00 hF
 refine sr ?_
 refine RS.q (u:=.agg (cGNode x12)) rfl (q0g und43 rfl (q02 inf43) rfl rfl rfl) (RS.q (u:=.ptr 0 0 0) rfl (q16 und25 rfl (q02 inf23) rfl rfl rfl) (RS.q (u:=.isl false (List.map cGNode p1.Nodes)) rfl (q05 und23 rfl rfl rfl rfl) (RS.q rfl (q1d rfl rfl rfl (q14 cGNode und23)) (RS.call (u:=.int .i64 r14) (args:=[.agg (cGNode x12),.int .i64 (p1.Nodes.length:Int)]) rfl (q01 rfl rfl fn30 hb30 rfl rfl) (q8l n x12 (p1.Nodes.length:Int) r14 h15 _) rfl rfl ?_))))
 refine se ?_
 refine RS.q rfl (q06 rfl rfl (q3m _ _ _) rfl) ?_
 refine sd ?_
 refine WPU.condS (t:=(r14 != 0)) rfl (fun h16=>?_) (fun h16=>?_)
 replace hF:=q0i h16 hF
 refine sr ?_
 refine RS.q (u:=.agg [.nils]) rfl (q79 bd25 rfl rfl rfl) (RS.mv rfl rfl rfl rfl (RS.opn (u:=.junk) (σ':=⟨[(2,.row (cGNode x12) 43),(1,.row [.nils] 25),(0,.row [.isl false (List.map cGNode p1.Nodes)] 25)],3⟩) rfl (q0y (q02 inf25) rfl rfl rfl rfl rfl rfl rfl rfl) rfl ?_))
 refine sd ?_
 refine WPU.ret ?_
 refine st ?_
 have hr:=Option.some.inj hF
 subst hr
 exact ⟨.inr rfl,[.agg [.nils],.int .i64 r14],res_c (q0g und25 rfl (q02 inf25) rfl rfl rfl) (q1w rfl (q1o)),.tup [.agg [.isl false []],.int .i64 r14],⟨[],0⟩,Nat.le_refl _,Gh.trans (Gh.wk (.cons (.tup (.cons (.agg (.cons (.nil false) .nil)) (.cons (.refl _) .nil))) .nil)) (Gh.toR (.tup [.agg [.isl false []],.int .i64 r14]) rfl),rfl,BU.h⟩
 replace hF:=q0h h16 hF
 refine st ?_
 refine WPU.skip ?_
 refine sr ?_
 refine RS.q rfl (q06 rfl rfl (q3l _ _ _) rfl) (RS.mv rfl rfl rfl rfl ?_)
 refine sd ?_
 exact ⟨m1,_,_,Nat.lt_succ_self _,⟨(IntKind.i64.wrap (z8+1)),hF,rfl,rfl⟩,(Nat.zero_le _),Gh.toC (n1:=2) ⟨rfl,rfl,rfl,rfl,rfl,trivial⟩ rfl (Nat.zero_le _) (by simp)⟩
 replace hF:=q0h h11 hF
 refine st ?_
 refine WPU.exit ?_
 refine st ?_
 exact ⟨_,_,⟨hF,rfl,rfl⟩,(Nat.zero_le _),Gh.toC (n1:=2) ⟨rfl,rfl,trivial⟩ rfl (Nat.zero_le _) (by simp)⟩
theorem q41 (n:Nat) (p1:GFS) (r:GFS×Int) (hF:q2v n p1=some r) (σ:Sg):EvU Try.prog 13 [.agg [.isl false (List.map cGNode p1.Nodes)]] σ (fun u σ'=>u = .tup [.agg [.isl false (List.map cGNode r.1.Nodes)],.int .i64 r.2]∧σ'=σ) :=
 EvU.pure1C (graph_Canon_0 n p1 r hF) σ
def q4b (n:Nat) (p1:GFS) (p2:GFS):Option (Bool) :=
 bindO (q5p n p1 p2) fun r3 =>
 some (r3 == 0)
theorem ref07_Equal_0 (n:Nat) (p1:GFS) (p2:GFS) (r:Bool) (hF:q4b n p1 p2=some r):EvU Try.prog 14 [.agg [.isl false (List.map cGNode p1.Nodes)],.agg [.isl false (List.map cGNode p2.Nodes)]] ⟨[],0⟩ (fun u _=>u = .bool r∧Bel 0 u):=by
 unfold q4b at hF
 refine EvU.of_body Try.tb_ok fn14 rfl ?_
 refine WPU.ghost (tm':=fr 9 [(0,.agg [.isl false (List.map cGNode p1.Nodes)]),(1,.agg [.isl false (List.map cGNode p2.Nodes)])]) (Gh.start (Nat.le_of_ble_eq_true rfl)) (Nat.zero_le _) ?_
 refine sr ?_
 refine RS.q (u:=.ptr 0 0 0) (σ':=⟨[(0,.row [.isl false (List.map cGNode p1.Nodes)] 25)],1⟩) rfl (q2x rfl rfl rfl) (RS.q (u:=.ptr 1 0 0) (σ':=⟨[(1,.row [.isl false (List.map cGNode p2.Nodes)] 25),(0,.row [.isl false (List.map cGNode p1.Nodes)] 25)],2⟩) rfl (q2x rfl rfl rfl) ?_)
 refine sd ?_
 obtain ⟨r3,h4,hF⟩:=q00 hF
 refine sr ?_
 refine RS.q (u:=.agg [.isl false (List.map cGNode p1.Nodes)]) rfl (q0g und25 rfl (q02 inf25) rfl rfl rfl) (RS.q (u:=.agg [.isl false (List.map cGNode p2.Nodes)]) rfl (q0g und25 rfl (q02 inf25) rfl rfl rfl) (RS.call (u:=.int .i64 r3) (args:=[.agg [.isl false (List.map cGNode p1.Nodes)],.agg [.isl false (List.map cGNode p2.Nodes)]]) rfl (q01 rfl rfl fn25 hb25 rfl rfl) (q9x n p1 p2 r3 h4 _) rfl rfl (RS.q rfl (q06 rfl rfl (q6z _ _ _) rfl) ?_)))
 refine sd ?_
 refine WPU.ret ?_
 refine st ?_
 have hr:=Option.some.inj hF
 subst hr
 exact ⟨.inr rfl,[.bool (r3 == 0)],q1w rfl (q1o),.bool (r3 == 0),⟨[],0⟩,Nat.le_refl _,Gh.toR (.bool (r3 == 0)) rfl,rfl,BU.h⟩
theorem q1l (n:Nat) (p1:GFS) (p2:GFS) (r:Bool) (hF:q4b n p1 p2=some r) (σ:Sg):EvU Try.prog 14 [.agg [.isl false (List.map cGNode p1.Nodes)],.agg [.isl false (List.map cGNode p2.Nodes)]] σ (fun u σ'=>u = .bool r∧σ'=σ) :=
 EvU.pure1C (ref07_Equal_0 n p1 p2 r hF) σ
def q53   : Option (Bool) :=
 some true
def q3f (p1:GFS):Nat→Int→Option (Bool)
 | 0,_=>none
 | m1+1,z5 =>
  cond (decide (z5<(p1.Nodes.length:Int)))
   (bindO (idxO p1.Nodes z5) fun x7 =>
   cond (decide ((x7.Arcs.length:Int) > 12))
    (some false)
    ((q3f p1 m1) (IntKind.i64.wrap (z5+1))))
   (q53)
def q4c (n:Nat) (p1:GFS):Option (Bool) :=
 cond (decide ((p1.Nodes.length:Int) > 12))
  (some false)
  (q3f p1 n 0)
theorem ref07_Light_0 (n:Nat) (p1:GFS) (r:Bool) (hF:q4c n p1=some r):EvU Try.prog 17 [.agg [.isl false (List.map cGNode p1.Nodes)]] ⟨[],0⟩ (fun u _=>u = .bool r∧Bel 0 u):=by
 unfold q4c at hF
 refine EvU.of_body Try.tb_ok fn17 rfl ?_
 refine WPU.ghost (tm':=fr 23 [(0,.agg [.isl false (List.map cGNode p1.Nodes)])]) (Gh.start (Nat.le_of_ble_eq_true rfl)) (Nat.zero_le _) ?_
 refine sr ?_
 refine RS.q (u:=.ptr 0 0 0) (σ':=⟨[(0,.row [.isl false (List.map cGNode p1.Nodes)] 25)],1⟩) rfl (q2x rfl rfl rfl) ?_
 refine se ?_
 refine RS.q (u:=.ptr 0 0 0) rfl (q16 und25 rfl (q02 inf23) rfl rfl rfl) (RS.q (u:=.isl false (List.map cGNode p1.Nodes)) rfl (q05 und23 rfl rfl rfl rfl) (RS.q rfl (q1d rfl rfl rfl (q14 cGNode und23)) (RS.q rfl (q06 rfl rfl (ix_gtr _ _ _) rfl) ?_)))
 refine sd ?_
 refine WPU.condS (t:=(decide ((p1.Nodes.length:Int) > 12))) rfl (fun h2=>?_) (fun h2=>?_)
 replace hF:=q0i h2 hF
 refine sr ?_
 refine sd ?_
 refine WPU.ret ?_
 refine st ?_
 have hr:=Option.some.inj hF
 subst hr
 exact ⟨.inr rfl,[.bool false],q1w rfl (q1o),.bool false,⟨[],0⟩,Nat.le_refl _,Gh.toR (.bool false) rfl,rfl,BU.h⟩
 replace hF:=q0h h2 hF
 refine st ?_
 refine WPU.skip ?_
 refine sr ?_
 refine sd ?_
 refine WPU.ghost (tm':=fr 23 [(1,.ptr 0 0 0),(3,.int .i64 0)]) (Gh.sub ⟨rfl,rfl,trivial⟩) (Nat.zero_le _) ?_
 refine WPU.loopK (fun m tm σ=>∃ z5:Int,q3f p1 m z5=some r∧tm=fr 23 [(1,.ptr 0 0 0),(3,.int .i64 z5)]∧σ=⟨[(0,.row [.isl false (List.map cGNode p1.Nodes)] 25)],1⟩) (fun tm σ=>q53=some r∧tm=fr 23 []∧σ=⟨[(0,.row [.isl false (List.map cGNode p1.Nodes)] 25)],1⟩) n ⟨0,hF,rfl,rfl⟩ ?_ ?_
 rintro _ _ ⟨hF,rfl,rfl⟩
 unfold q53 at hF
 refine sr ?_
 refine sd ?_
 refine WPU.ret ?_
 refine st ?_
 have hr:=Option.some.inj hF
 subst hr
 exact ⟨.inr rfl,[.bool true],q1w rfl (q1o),.bool true,⟨[],0⟩,Nat.le_refl _,Gh.toR (.bool true) rfl,rfl,BU.h⟩
 rintro m1 _ _ ⟨z5,hF,rfl,rfl⟩
 rcases m1 with _ | m1
 cases hF
 unfold q3f at hF
 refine sr ?_
 refine RS.q (u:=.ptr 0 0 0) rfl (q16 und25 rfl (q02 inf23) rfl rfl rfl) (RS.q (u:=.isl false (List.map cGNode p1.Nodes)) rfl (q05 und23 rfl rfl rfl rfl) (RS.q rfl (q1d rfl rfl rfl (q14 cGNode und23)) (RS.q rfl (q06 rfl rfl (q2c _ _ _) rfl) ?_)))
 refine sd ?_
 refine WPU.condS (t:=(decide (z5<(p1.Nodes.length:Int)))) rfl (fun h6=>?_) (fun h6=>?_)
 replace hF:=q0i h6 hF
 refine st ?_
 refine WPU.skip ?_
 refine st ?_
 refine WPU.block ?_
 refine st ?_
 obtain ⟨x7,h8,hF⟩:=q00 hF
 refine sr ?_
 refine RS.q (u:=.ptr 0 0 0) rfl (q16 und25 rfl (q02 inf23) rfl rfl rfl) (RS.q (u:=.isl false (List.map cGNode p1.Nodes)) rfl (q05 und23 rfl rfl rfl rfl) (RS.mv rfl rfl rfl rfl (RS.q (u:=.iptr (cGNode x7)) rfl (q1x rfl rfl (q2q cGNode und23 (q02 inf43) q1h h8 rfl)) (RS.q (u:=.iptr [.isl false (List.map cGArc x7.Arcs)]) rfl (q7a und43 rfl (q02 inf41) rfl rfl) (RS.q (u:=.isl false (List.map cGArc x7.Arcs)) rfl (q43 und41 rfl rfl rfl) (RS.q rfl (q1d rfl rfl rfl (q14 cGArc und41)) (RS.q rfl (q06 rfl rfl (ix_gtr _ _ _) rfl) ?_)))))))
 refine sd ?_
 refine WPU.condS (t:=(decide ((x7.Arcs.length:Int) > 12))) rfl (fun h9=>?_) (fun h9=>?_)
 replace hF:=q0i h9 hF
 refine sr ?_
 refine sd ?_
 refine WPU.ret ?_
 refine st ?_
 have hr:=Option.some.inj hF
 subst hr
 exact ⟨.inr rfl,[.bool false],q1w rfl (q1o),.bool false,⟨[],0⟩,Nat.le_refl _,Gh.toR (.bool false) rfl,rfl,BU.h⟩
 replace hF:=q0h h9 hF
 refine st ?_
 refine WPU.skip ?_
 refine sr ?_
 refine RS.q rfl (q06 rfl rfl (q3l _ _ _) rfl) ?_
 refine sd ?_
 exact ⟨m1,_,_,Nat.lt_succ_self _,⟨(IntKind.i64.wrap (z5+1)),hF,rfl,rfl⟩,(Nat.zero_le _),Gh.toC (n1:=1) ⟨rfl,rfl,trivial⟩ rfl (Nat.zero_le _) (by simp)⟩
 replace hF:=q0h h6 hF
 refine st ?_
 refine WPU.exit ?_
 refine st ?_
 exact ⟨_,_,⟨hF,rfl,rfl⟩,(Nat.zero_le _),Gh.toC (n1:=1) trivial rfl (Nat.zero_le _) (by simp)⟩
theorem q6b (n:Nat) (p1:GFS) (r:Bool) (hF:q4c n p1=some r) (σ:Sg):EvU Try.prog 17 [.agg [.isl false (List.map cGNode p1.Nodes)]] σ (fun u σ'=>u = .bool r∧σ'=σ) :=
 EvU.pure1C (ref07_Light_0 n p1 r hF) σ
def q8k (n:Nat) (p1:GFS) (p2:Int):Option (GFS) :=
 bindO (q2n n p1 p2) fun r3 =>
 some r3
theorem graph_Sub_0 (n:Nat) (p1:GFS) (p2:Int) (r:GFS) (hF:q8k n p1 p2=some r):EvU Try.prog 20 [.agg [.isl false (List.map cGNode p1.Nodes)],.int .i64 p2] ⟨[],0⟩ (fun u _=>u = .agg [.isl false (List.map cGNode r.Nodes)]∧Bel 0 u):=by
 unfold q8k at hF
 refine EvU.of_body Try.tb_ok fn20 rfl ?_
 refine WPU.ghost (tm':=fr 8 [(0,.agg [.isl false (List.map cGNode p1.Nodes)]),(1,.int .i64 p2)]) (Gh.start (Nat.le_of_ble_eq_true rfl)) (Nat.zero_le _) ?_
 refine sr ?_
 refine RS.q (u:=.ptr 0 0 0) (σ':=⟨[(0,.row [.isl false (List.map cGNode p1.Nodes)] 25)],1⟩) rfl (q2x rfl rfl rfl) (RS.q (u:=.ptr 1 0 0) (σ':=⟨[(1,.row [.nils] 25),(0,.row [.isl false (List.map cGNode p1.Nodes)] 25)],2⟩) rfl (q1b inf25 rfl rfl) ?_)
 refine sd ?_
 obtain ⟨r3,h4,hF⟩:=q00 hF
 refine sr ?_
 refine RS.q (u:=.agg [.isl false (List.map cGNode p1.Nodes)]) rfl (q0g und25 rfl (q02 inf25) rfl rfl rfl) (RS.mv rfl rfl rfl rfl (RS.call (u:=.agg [.isl false (List.map cGNode r3.Nodes)]) (args:=[.agg [.isl false (List.map cGNode p1.Nodes)],.int .i64 p2]) rfl (q01 rfl rfl fn31 hb31 rfl rfl) (q65 n p1 p2 r3 h4 _) rfl rfl (RS.opn (u:=.junk) (σ':=⟨[(1,.row [.isl false (List.map cGNode r3.Nodes)] 25),(0,.row [.isl false (List.map cGNode p1.Nodes)] 25)],2⟩) rfl (q0y (q02 inf25) rfl rfl rfl rfl rfl rfl rfl rfl) rfl ?_)))
 refine sd ?_
 refine WPU.ret ?_
 refine st ?_
 have hr:=Option.some.inj hF
 subst hr
 exact ⟨.inr rfl,[.agg [.isl false (List.map cGNode r3.Nodes)]],res_c (q0g und25 rfl (q02 inf25) rfl rfl rfl) (q1o),.agg [.isl false (List.map cGNode r3.Nodes)],⟨[],0⟩,Nat.le_refl _,Gh.toR (.agg [.isl false (List.map cGNode r3.Nodes)]) rfl,rfl,BU.h⟩
theorem q4e (n:Nat) (p1:GFS) (p2:Int) (r:GFS) (hF:q8k n p1 p2=some r) (σ:Sg):EvU Try.prog 20 [.agg [.isl false (List.map cGNode p1.Nodes)],.int .i64 p2] σ (fun u σ'=>u = .agg [.isl false (List.map cGNode r.Nodes)]∧σ'=σ) :=
 EvU.pure1C (graph_Sub_0 n p1 p2 r hF) σ
def q6n (p1:Int) (l12:List GArc):Option (GNode) :=
 some (GNode.mk p1 l12)
def q5o (p1:Int) (p2:List Int):Nat→Int→(List GArc)→Option (GNode)
 | 0,_,_=>none
 | m1+1,z9,l10 =>
  cond (decide ((IntKind.i64.wrap (z9+1))<(p2.length:Int)))
   (bindO (idxO p2 z9) fun x15 =>
   bindO (idxO p2 (IntKind.i64.wrap (z9+1))) fun x17 =>
   needO ((l10.length+1)*16≤140737488355328∧l10.length+1≤140737488355328) (
   (q5o p1 p2 m1) (IntKind.i64.wrap (z9+2)) (l10++[(GArc.mk x15 x17)])))
   (q6n p1 l10)
def q1n (n:Nat) (p1:Int) (p2:List Int):Option (GNode) :=
 q5o p1 p2 n 0 ([]:List GArc)
theorem law07_node_0 (n:Nat) (p1:Int) (p2:List Int) (r:GNode) (hF:q1n n p1 p2=some r):EvU Try.prog 29 [.int .i64 p1,.isl false (List.map (cI .i64) p2)] ⟨[],0⟩ (fun u _=>u = .agg (cGNode r)∧Bel 0 u):=by
 unfold q1n at hF
 refine EvU.of_body Try.tb_ok fn29 rfl ?_
 refine WPU.ghost (tm':=fr 32 [(0,.int .i64 p1),(1,.isl false (List.map (cI .i64) p2))]) (Gh.start (Nat.le_of_ble_eq_true rfl)) (Nat.zero_le _) ?_
 refine sr ?_
 refine RS.q (u:=.ptr 0 0 0) (σ':=⟨[(0,.row [.int .i64 0,.nils] 43)],1⟩) rfl (q1b inf43 rfl rfl) ?_
 refine se ?_
 refine RS.q (u:=.agg [.int .i64 p1,.nils]) rfl (q79 bd43 rfl rfl rfl) (RS.q (u:=.ptr 1 0 0) (σ':=⟨[(1,.row [.int .i64 0,.nils] 43),(0,.row [.int .i64 0,.nils] 43)],2⟩) rfl (q1b inf43 rfl rfl) (RS.opn (u:=.junk) (σ':=⟨[(1,.row [.int .i64 p1,.nils] 43),(0,.row [.int .i64 0,.nils] 43)],2⟩) rfl (q0y (q02 inf43) rfl rfl rfl rfl rfl rfl rfl rfl) rfl ?_))
 refine se ?_
 refine sd ?_
 refine WPU.ghost (tm':=fr 32 [(1,.isl false (List.map (cI .i64) p2)),(4,.ptr 0 0 0),(5,.ptr 1 0 0),(6,.int .i64 0)]) (σ':=⟨[(2,.vec (List.map cGArc ([]:List GArc)).flatten 45 2 0),(1,.row [.int .i64 p1,.vl 2 0 0 (([]:List GArc).length)] 43),(0,.row [.int .i64 0,.nils] 43)],3⟩) (Gh.trans (Gh.nilC 1 1 45 2 (by decide) (Nat.zero_le _) rfl rfl) (Gh.eqS ⟨rfl,rfl,rfl,rfl,trivial⟩ rfl)) (Nat.zero_le _) ?_
 refine WPU.ghost (tm':=fr 32 [(1,.isl false (List.map (cI .i64) p2)),(4,.ptr 0 0 0),(5,.ptr 1 0 0),(6,.int .i64 0)]) (Gh.sub ⟨rfl,rfl,rfl,rfl,trivial⟩) (Nat.zero_le _) ?_
 refine WPU.loopK (fun m tm σ=>∃ z9:Int,∃ l10:List GArc,∃ t11:Nat,q5o p1 p2 m z9 l10=some r∧tm=fr 32 [(1,.isl false (List.map (cI .i64) p2)),(4,.ptr 0 0 0),(5,.ptr 1 0 0),(6,.int .i64 z9)]∧σ=⟨[(2,.vec (List.map cGArc l10).flatten 45 2 t11),(1,.row [.int .i64 p1,.vl 2 t11 0 l10.length] 43),(0,.row [.int .i64 0,.nils] 43)],3⟩) (fun tm σ=>∃ l12:List GArc,∃ t13:Nat,q6n p1 l12=some r∧tm=fr 32 [(4,.ptr 0 0 0),(5,.ptr 1 0 0)]∧σ=⟨[(2,.vec (List.map cGArc l12).flatten 45 2 t13),(1,.row [.int .i64 p1,.vl 2 t13 0 l12.length] 43),(0,.row [.int .i64 0,.nils] 43)],3⟩) n ⟨0,([]:List GArc),0,hF,rfl,rfl⟩ ?_ ?_
 rintro _ _ ⟨l12,t13,hF,rfl,rfl⟩
 unfold q6n at hF
 refine sr ?_
 refine RS.q (u:=.agg [.int .i64 p1,.vl 2 t13 0 l12.length]) rfl (q0g und43 rfl (q02 inf43) rfl rfl rfl) (RS.opn (u:=.junk) (σ':=⟨[(2,.vec (List.map cGArc l12).flatten 45 2 t13),(1,.row [.int .i64 p1,.vl 2 t13 0 l12.length] 43),(0,.row [.int .i64 p1,.vl 2 t13 0 l12.length] 43)],3⟩) rfl (q0y (q02 inf43) rfl rfl rfl rfl rfl rfl rfl rfl) rfl ?_)
 refine sd ?_
 refine WPU.ret ?_
 refine st ?_
 have hr:=Option.some.inj hF
 subst hr
 exact ⟨.inr rfl,[.agg [.int .i64 p1,.vl 2 t13 0 l12.length]],res_c (q0g und43 rfl (q02 inf43) rfl rfl rfl) (q1o),.agg [.int .i64 p1,.isl false (List.map cGArc l12)],⟨[],0⟩,Nat.le_refl _,Gh.trans (Gh.fz (tm':=[.agg [.int .i64 p1,.isl false (List.map cGArc l12)]]) (h':=[(1,.row [.int .i64 p1,.isl false (List.map cGArc l12)] 43),(0,.row [.int .i64 p1,.isl false (List.map cGArc l12)] 43)]) 2 (.vec (List.map cGArc l12).flatten 45 2 t13) 2 rfl (by simp) (by simp only [oneU,q07,q03,q0n,q09,q0q,q0d,q0c,q0b,q0a,q08,q0o,q0p,q0m,q0r,q1k,junkT,fz_vl q1q]) (by simp only [fzH,fzB,ug,Nat.beq,cond_true,cond_false,oneU,q07,q03,q0n,q09,q0q,q0d,q0c,q0b,q0a,q08,q0o,q0p,q0m,q0r,q1k,junkT,fz_vl q1q])) (Gh.toR (.agg [.int .i64 p1,.isl false (List.map cGArc l12)]) rfl),rfl,BU.h⟩
 rintro m1 _ _ ⟨z9,l10,t11,hF,rfl,rfl⟩
 rcases m1 with _ | m1
 cases hF
 unfold q5o at hF
 refine sr ?_
 refine RS.q rfl (q06 rfl rfl (q3l _ _ _) rfl) (RS.mv rfl rfl rfl rfl (RS.q rfl (q1d rfl rfl rfl (q14 (cI .i64) und55)) (RS.q rfl (q06 rfl rfl (q2c _ _ _) rfl) ?_)))
 refine sd ?_
 refine WPU.condS (t:=(decide ((IntKind.i64.wrap (z9+1))<(p2.length:Int)))) rfl (fun h14=>?_) (fun h14=>?_)
 replace hF:=q0i h14 hF
 refine st ?_
 refine WPU.skip ?_
 refine st ?_
 refine WPU.block ?_
 refine st ?_
 obtain ⟨x15,h16,hF⟩:=q00 hF
 obtain ⟨x17,h18,hF⟩:=q00 hF
 obtain ⟨h19,hF⟩:=q32 hF
 refine WPU.drawE Try.tb_ok [(0,12),(1,12)] (by kernel_rfl) ?_
 refine RD.q (u:=.ptr 1 0 1) rfl (q16 und43 rfl (q02 inf41) rfl rfl rfl) (RD.q (u:=.vl 2 t11 0 l10.length) rfl (q05 und41 rfl rfl rfl rfl) ?_)
 repeat refine RD.mv rfl rfl rfl rfl ?_
 refine RD.q (u:=.iptr [.int .i64 x15]) rfl (q1x rfl rfl (q2q (cI .i64) und55 (q02 inf3) (q2t .i64) h16 rfl)) (RD.q (u:=.int .i64 x15) rfl (q43 und3 rfl rfl rfl) ?_)
 repeat refine RD.mv rfl rfl rfl rfl ?_
 refine RD.q rfl (q06 rfl rfl (q3l _ _ _) rfl) (RD.q (u:=.iptr [.int .i64 x17]) rfl (q1x rfl rfl (q2q (cI .i64) und55 (q02 inf3) (q2t .i64) h18 rfl)) (RD.q (u:=.int .i64 x17) rfl (q43 und3 rfl rfl rfl) (RD.q (u:=.agg [.int .i64 x15,.int .i64 x17]) rfl (q79 bd45 rfl rfl rfl) (RD.act (u:=.sl 3 0 1 1) (σ':=⟨[(3,.row [.int .i64 x15,.int .i64 x17] 45),(2,.vec (List.map cGArc l10).flatten 45 2 t11),(1,.row [.int .i64 p1,.vl 2 t11 0 l10.length] 43),(0,.row [.int .i64 0,.nils] 43)],4⟩) rfl (q24 und41 inf45 rfl rfl rfl rfl rfl rfl rfl) rfl rfl (RD.act (u:=.vl 2 (t11+1) 0 ((l10++[(GArc.mk x15 x17)]).length)) (σ':=⟨[(3,.row [.int .i64 x15,.int .i64 x17] 45),(2,.vec (List.map cGArc (l10++[(GArc.mk x15 x17)])).flatten 45 2 (t11+1)),(1,.row [.int .i64 p1,.vl 2 t11 0 l10.length] 43),(0,.row [.int .i64 0,.nils] 43)],4⟩) rfl (qb5 rfl rfl rfl rfl (qag cGArc ([(GArc.mk x15 x17)]) und41 und41 inf45 rfl q1q rfl (q8a cGArc [(GArc.mk x15 x17)] rfl rfl rfl rfl) h19)) rfl rfl (RD.q (u:=.ptr 1 0 1) rfl (q16 und43 rfl (q02 inf41) rfl rfl rfl) (RD.actn (u:=.junk) (σ':=⟨[(3,.row [.int .i64 x15,.int .i64 x17] 45),(2,.vec (List.map cGArc (l10++[(GArc.mk x15 x17)])).flatten 45 2 (t11+1)),(1,.row [.int .i64 p1,.vl 2 (t11+1) 0 ((l10++[(GArc.mk x15 x17)]).length)] 43),(0,.row [.int .i64 0,.nils] 43)],4⟩) rfl (q0y (q02 inf41) rfl rfl rfl rfl rfl rfl rfl rfl) rfl ?_)))))))
 refine RD.done ⟨by kernel_rfl,⟨q16 und43 rfl (q02 inf41) rfl rfl rfl,⟨q05 und41 rfl rfl rfl rfl,trivial⟩⟩,?_⟩
 refine sr ?_
 refine RS.q rfl (q06 rfl rfl (q3l _ _ _) rfl) ?_
 refine sd ?_
 exact ⟨m1,_,_,Nat.lt_succ_self _,⟨(IntKind.i64.wrap (z9+2)),(l10++[(GArc.mk x15 x17)]),(t11+1),hF,rfl,rfl⟩,(Nat.zero_le _),Gh.toC (n1:=3) ⟨rfl,rfl,rfl,rfl,trivial⟩ rfl (Nat.zero_le _) (by simp)⟩
 replace hF:=q0h h14 hF
 refine st ?_
 refine WPU.exit ?_
 refine st ?_
 exact ⟨_,_,⟨l10,t11,hF,rfl,rfl⟩,(Nat.zero_le _),Gh.toC (n1:=3) ⟨rfl,rfl,trivial⟩ rfl (Nat.zero_le _) (by simp)⟩
theorem q04 (n:Nat) (p1:Int) (p2:List Int) (r:GNode) (hF:q1n n p1 p2=some r) (σ:Sg):EvU Try.prog 29 [.int .i64 p1,.isl false (List.map (cI .i64) p2)] σ (fun u σ'=>u = .agg (cGNode r)∧σ'=σ) :=
 EvU.pure1C (law07_node_0 n p1 p2 r hF) σ
def q51  (l9:List Int):Option ((List Int)) :=
 some l9
def q3e (p1:Int):Nat→Int→(List Int)→Option ((List Int))
 | 0,_,_=>none
 | m1+1,z6,l7 =>
  cond (decide (z6<p1))
   (needO ((l7.length+1)*8≤140737488355328∧l7.length+1≤140737488355328) (
   (q3e p1 m1) (IntKind.i64.wrap (z6+1)) (l7++[(-1)])))
   (q51 l7)
def q5y (n:Nat) (p1:Int):Option ((List Int)) :=
 q3e p1 n 0 ([]:List Int)
theorem q8p (n:Nat) (p1:Int) (r:(List Int)) (hF:q5y n p1=some r):EvU Try.prog 40 [.int .i64 p1] ⟨[],0⟩ (fun u σ'=>∃ t,u = .vl 0 t 0 r.length∧σ'=⟨[(0,.vec (List.map (cI .i64) r).flatten 3 1 t)],0+1⟩):=by
 unfold q5y at hF
 refine EvU.of_body Try.tb_ok fn40 rfl ?_
 refine WPU.ghost (tm':=fr 14 [(0,.int .i64 p1)]) (Gh.start (Nat.le_of_ble_eq_true rfl)) (Nat.zero_le _) ?_
 refine sr ?_
 refine se ?_
 refine se ?_
 refine sd ?_
 refine WPU.ghost (tm':=fr 14 [(0,.int .i64 p1),(3,.vl 0 0 0 (([]:List Int).length)),(4,.int .i64 0)]) (σ':=⟨[(0,.vec (List.map (cI .i64) ([]:List Int)).flatten 3 1 0)],1⟩) (Gh.trans (Gh.nilS 3 3 1 (by decide) (Nat.zero_le _) rfl rfl) (Gh.eqS ⟨rfl,rfl,rfl,trivial⟩ rfl)) (Nat.zero_le _) ?_
 refine WPU.ghost (tm':=fr 14 [(0,.int .i64 p1),(3,.vl 0 0 0 (([]:List Int).length)),(4,.int .i64 0)]) (Gh.sub ⟨rfl,rfl,rfl,trivial⟩) (Nat.zero_le _) ?_
 refine WPU.loopK (fun m tm σ=>∃ z6:Int,∃ l7:List Int,∃ t8:Nat,q3e p1 m z6 l7=some r∧tm=fr 14 [(0,.int .i64 p1),(3,.vl 0 t8 0 l7.length),(4,.int .i64 z6)]∧σ=⟨[(0,.vec (List.map (cI .i64) l7).flatten 3 1 t8)],1⟩) (fun tm σ=>∃ l9:List Int,∃ t10:Nat,q51 l9=some r∧tm=fr 14 [(3,.vl 0 t10 0 l9.length)]∧σ=⟨[(0,.vec (List.map (cI .i64) l9).flatten 3 1 t10)],1⟩) n ⟨0,([]:List Int),0,hF,rfl,rfl⟩ ?_ ?_
 rintro _ _ ⟨l9,t10,hF,rfl,rfl⟩
 unfold q51 at hF
 refine sr ?_
 refine sd ?_
 refine WPU.ret ?_
 refine st ?_
 have hr:=Option.some.inj hF
 subst hr
 exact ⟨.inr rfl,[.vl 0 t10 0 l9.length],q1w rfl q1o,.vl 0 t10 0 l9.length,⟨[(0,.vec (List.map (cI .i64) l9).flatten 3 1 t10)],1⟩,(Nat.zero_le _),Gh.trans (Gh.only (fun k=>Nat.beq k 0)) (Gh.to (n1:=1) [] rfl rfl (Nat.zero_le _) (Nat.le_of_ble_eq_true rfl) BUL.h BH.h),t10,rfl,rfl⟩
 rintro m1 _ _ ⟨z6,l7,t8,hF,rfl,rfl⟩
 rcases m1 with _ | m1
 cases hF
 unfold q3e at hF
 refine sr ?_
 repeat refine RS.mv rfl rfl rfl rfl ?_
 refine RS.q rfl (q06 rfl rfl (q2c _ _ _) rfl) ?_
 refine sd ?_
 refine WPU.condS (t:=(decide (z6<p1))) rfl (fun h11=>?_) (fun h11=>?_)
 replace hF:=q0i h11 hF
 refine st ?_
 refine WPU.skip ?_
 refine st ?_
 refine WPU.block ?_
 refine st ?_
 obtain ⟨h12,hF⟩:=q32 hF
 refine sr ?_
 refine RS.q (u:=.sl 1 0 1 1) (σ':=⟨[(1,.row [.int .i64 (-1)] 3),(0,.vec (List.map (cI .i64) l7).flatten 3 1 t8)],2⟩) rfl (q24 und55 inf3 rfl rfl rfl rfl rfl rfl rfl) (RS.q (u:=.vl 0 (t8+1) 0 ((l7++[(-1)]).length)) (σ':=⟨[(1,.row [.int .i64 (-1)] 3),(0,.vec (List.map (cI .i64) (l7++[(-1)])).flatten 3 1 (t8+1))],2⟩) rfl (qb5 rfl rfl rfl rfl (qag (cI .i64) ([(-1)]) und55 und55 inf3 rfl (q2t .i64) rfl (q8a (cI .i64) [(-1)] rfl rfl rfl rfl) h12)) ?_)
 refine se ?_
 refine RS.q rfl (q06 rfl rfl (q3l _ _ _) rfl) ?_
 refine sd ?_
 exact ⟨m1,_,_,Nat.lt_succ_self _,⟨(IntKind.i64.wrap (z6+1)),(l7++[(-1)]),(t8+1),hF,rfl,rfl⟩,(Nat.zero_le _),Gh.toC (n1:=1) ⟨rfl,rfl,rfl,trivial⟩ rfl (Nat.zero_le _) (by simp)⟩
 replace hF:=q0h h11 hF
 refine st ?_
 refine WPU.exit ?_
 refine st ?_
 exact ⟨_,_,⟨l7,t8,hF,rfl,rfl⟩,(Nat.zero_le _),Gh.toC (n1:=1) ⟨rfl,trivial⟩ rfl (Nat.zero_le _) (by simp)⟩
def q66   : Option (Int×Bool) :=
 some (0,false)
def q4f (p3:Int) (x4:GNode):Nat→Int→Option (Int×Bool)
 | 0,_=>none
 | m1+1,z11 =>
  cond (decide (z11<(x4.Arcs.length:Int)))
   (bindO (idxO x4.Arcs z11) fun x13 =>
   cond (x13.Feat == p3)
    (some (x13.To,true))
    ((q4f p3 x4 m1) (IntKind.i64.wrap (z11+1))))
   (q66)
def q6h (n:Nat) (p1:GFS) (p2:Int) (p3:Int):Option (Int×Bool) :=
 bindO (idxO p1.Nodes p2) fun x4 =>
 q4f p3 x4 n 0
end Go.Proofs
end
