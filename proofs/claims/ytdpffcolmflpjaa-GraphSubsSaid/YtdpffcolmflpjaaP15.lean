/-
  Texts of the walk: H4.
-/
import Derived.Test.YtdpffcolmflpjaaP14
section
namespace Go.Proofs
open Go Go.Rx Go.Vx Try
set_option maxRecDepth 10000
set_option linter.unusedSimpArgs false
set_option linter.unusedVariables false
structure GNode where
 Typex:Int
 Arcs:List GArc
def cGNode (x:GNode):List U:=[.int .i64 x.Typex,.isl false (List.map cGArc x.Arcs)]
theorem q5d (n:Nat) (x:GNode):BelL n (cGNode x):=by
 simp only [cGNode,BelL,Bel,true_and,and_true]
 exact belR_map _ (fun q=>q7p _ q) _
theorem q1b (x:GNode):(cGNode x).length=2:=rfl
instance:BF cGNode:=⟨q5d⟩
instance (n:Nat) (x:GNode):BUL n (cGNode x):=⟨q5d n x⟩
theorem q24 (K:Nat) (b:B) (sz:Nat) (x:GNode):fzL K b sz (cGNode x)=cGNode x:=q2l _ _ _ (q5d K x)
structure GFS where
 Nodes:List GNode
def cGFS (x:GFS):List U:=[.isl false (List.map cGNode x.Nodes)]
theorem Try.bd25:BdT Try.tb 25 [.nils] [(0,1)]:=bdT und25 inf25 rfl (by kernel_rfl)
theorem Try.bd43:BdT Try.tb 43 [.int .i64 0,.nils] [(0,1),(1,1)]:=bdT und43 inf43 rfl (by kernel_rfl)
theorem Try.bd45:BdT Try.tb 45 [.int .i64 0,.int .i64 0] [(0,1),(1,1)]:=bdT und45 inf45 rfl (by kernel_rfl)
theorem Try.bd71:BdT Try.tb 71 [.nils,.nils,.nils] [(0,1),(1,1),(2,1)]:=bdT und71 inf71 rfl (by kernel_rfl)
def q2j (z7:Int) (l8:List GArc) (rc2:Int→(List GArc)→Option ((List GArc))) (x13:GArc)  : Option ((List GArc)) :=
 rc2 (IntKind.i64.wrap (z7+1)) (l8++[x13])
def q2i  (l10:List GArc):Option ((List GArc)) :=
 some l10
def q0z (p1:List GArc):Nat→Int→(List GArc)→Option ((List GArc))
 | 0,_,_=>none
 | m2+1,z7,l8 =>
  cond (decide (z7<(p1.length:Int)))
   (bindO (idxO p1 z7) fun x13 =>
   needO ((l8.length+1)*16≤140737488355328∧l8.length+1≤140737488355328) (
   q2j z7 l8 (q0z p1 m2) x13))
   (q2i l8)
def q2w (n:Nat) (p1:List GArc):Option ((List GArc)) :=
 q0z p1 n 0 ([]:List GArc)
theorem q6u (n:Nat) (p1:List GArc) (r:(List GArc)) (hF:q2w n p1=some r):EvU Try.prog 56 [.nils,.fn (.func 55) [] [.iptr [.isl false (List.map cGArc p1)]]] ⟨[],0⟩ (fun u σ'=>∃ t:Nat→Nat,u = .vl 1 (t 0) 0 r.length∧σ'=⟨[(1,.vec (List.map cGArc r).flatten 45 2 (t 0))],2⟩):=by
 unfold q2w at hF
 refine EvU.of_bodyM Try.tb_ok fn56 rfl ?_
 refine WPU.ghost (tm':=fr 13 [(0,.nils),(1,.fn (.func 55) [] [.iptr [.isl false (List.map cGArc p1)]])]) (Gh.start (Nat.le_of_ble_eq_true rfl)) (Nat.le_refl _) ?_
 refine sr ?_
 refine RS.q (u:=.ptr 0 0 0) (σ':=⟨[(0,.row [.nils] 41)],1⟩) rfl (q2z rfl rfl rfl) ?_
 refine se ?_
 refine sd ?_
 refine WPU.block ?_
 refine st ?_
 refine WPU.ghost (tm':=fr 13 [(2,.ptr 0 0 0),(6,.fn (.func 55) [] [.iptr [.isl false (List.map cGArc p1)]])]) (Gh.sub ⟨rfl,rfl,trivial⟩) (Nat.le_of_ble_eq_true rfl) ?_
 refine WPU.range Try.tb_ok rfl (fun _ h=>h) (q2f rfl) fn55 rfl rfl ?_
 intro ly1 fn1 tp1 D1
 refine WPU.ghost (tm':=fr 16 [(0,.fn (.yield ly1) [] []),(1,.iptr [.isl false (List.map cGArc p1)])]) (Gh.start (Nat.le_of_ble_eq_true rfl)) (Nat.le_refl _) ?_
 refine sr ?_
 refine RS.q (u:=.isl false (List.map cGArc p1)) rfl (q3h und41 rfl rfl rfl) (RS.q rfl (q10 rfl rfl rfl (q0w cGArc und41)) (RS.mv rfl rfl rfl rfl ?_))
 refine sd ?_
 refine WPU.ghost (tm':=fr 16 [(0,.fn (.yield ly1) [] []),(5,.isl false (List.map cGArc p1)),(6,.int .i64 (p1.length:Int)),(7,.int .i64 0)]) (σ':=⟨[(1,.vec (List.map cGArc ([]:List GArc)).flatten 45 2 0),(0,.row [.vl 1 0 0 (([]:List GArc).length)] 41)],2⟩) (Gh.trans (Gh.nilC 0 0 45 2 (by decide) (Nat.le_of_ble_eq_true rfl) rfl rfl) (Gh.eqS ⟨rfl,rfl,rfl,rfl,trivial⟩ rfl)) (Nat.le_of_ble_eq_true rfl) ?_
 refine WPU.ghost (tm':=fr 16 [(0,.fn (.yield ly1) [] []),(5,.isl false (List.map cGArc p1)),(6,.int .i64 (p1.length:Int)),(7,.int .i64 0)]) (Gh.sub ⟨rfl,rfl,rfl,rfl,trivial⟩) (Nat.le_of_ble_eq_true rfl) ?_
 refine WPU.loopK (fun m tm σ=>∃ z7:Int,∃ l8:List GArc,∃ t9:Nat,q0z p1 m z7 l8=some r∧tm=fr 16 [(0,.fn (.yield ly1) [] []),(5,.isl false (List.map cGArc p1)),(6,.int .i64 (p1.length:Int)),(7,.int .i64 z7)]∧σ=⟨[(1,.vec (List.map cGArc l8).flatten 45 2 t9),(0,.row [.vl 1 t9 0 l8.length] 41)],2⟩) (fun tm σ=>∃ l10:List GArc,∃ t11:Nat,q2i l10=some r∧tm=fr 16 []∧σ=⟨[(1,.vec (List.map cGArc l10).flatten 45 2 t11),(0,.row [.vl 1 t11 0 l10.length] 41)],2⟩) n ⟨0,([]:List GArc),0,hF,rfl,rfl⟩ ?_ ?_
 rintro _ _ ⟨l10,t11,hF,rfl,rfl⟩
 unfold q2i at hF
 refine st ?_
 refine ⟨.inl rfl,?_⟩
 refine sr ?_
 refine RS.q (u:=.vl 1 t11 0 l10.length) rfl (q06 und41 rfl rfl rfl rfl) ?_
 refine sd ?_
 refine WPU.ret ?_
 refine st ?_
 have hr:=Option.some.inj hF
 subst hr
 exact ⟨.inr rfl,[.vl 1 t11 0 l10.length],q1y rfl (q1e),.vl 1 t11 0 l10.length,⟨[(1,.vec (List.map cGArc l10).flatten 45 2 t11)],2⟩,(Nat.le_of_ble_eq_true rfl),Gh.trans (Gh.only (fun k=>hasN [1] k)) (Gh.to (n1:=2) [] rfl rfl (Nat.le_of_ble_eq_true rfl) (Nat.le_of_ble_eq_true rfl) BUL.h BH.h),stF [t11],rfl,rfl⟩
 rintro m2 _ _ ⟨z7,l8,t9,hF,rfl,rfl⟩
 rcases m2 with _ | m2
 cases hF
 unfold q0z at hF
 refine sr ?_
 refine RS.q rfl (q04 rfl rfl (q1n _ _ _) rfl) ?_
 refine sd ?_
 refine WPU.condS (t:=(decide (z7<(p1.length:Int)))) rfl (fun h12=>?_) (fun h12=>?_)
 replace hF:=q0g h12 hF
 refine st ?_
 refine WPU.skip ?_
 refine st ?_
 refine WPU.block ?_
 refine st ?_
 obtain ⟨x13,h14,hF⟩:=q00 hF
 refine sr ?_
 refine RS.q (u:=.iptr (cGArc x13)) rfl (q1t rfl rfl (q2g cGArc und41 (q01 inf45) q0e h14 rfl)) (RS.q (u:=.agg (cGArc x13)) rfl (q7s und45 rfl (q01 inf45) rfl rfl) (RS.q (u:=.ptr 2 0 0) (σ':=⟨[(2,.row [.int .i64 0,.int .i64 0] 45),(1,.vec (List.map cGArc l8).flatten 45 2 t9),(0,.row [.vl 1 t9 0 l8.length] 41)],3⟩) rfl (q15 inf45 rfl rfl) (RS.opn (u:=.junk) (σ':=⟨[(2,.row (cGArc x13) 45),(1,.vec (List.map cGArc l8).flatten 45 2 t9),(0,.row [.vl 1 t9 0 l8.length] 41)],3⟩) rfl (q0s (q01 inf45) rfl rfl rfl rfl rfl rfl rfl rfl) rfl ?_)))
 refine se ?_
 refine RS.q (u:=.agg (cGArc x13)) rfl (q0q und45 rfl (q01 inf45) rfl rfl rfl) (RS.yield (tmx:=fr 13 [(2,.ptr 0 0 0),(6,.fn (.func 55) [] [.iptr [.isl false (List.map cGArc p1)]]),(7,.agg (cGArc x13))]) rfl rfl rfl rfl rfl rfl rfl rfl (setP1 rfl) rfl rfl ?_)
 refine sr ?_
 refine RS.q (u:=.ptr 3 0 0) (σ':=⟨[(3,.row [.int .i64 0,.int .i64 0] 45),(2,.row (cGArc x13) 45),(1,.vec (List.map cGArc l8).flatten 45 2 t9),(0,.row [.vl 1 t9 0 l8.length] 41)],4⟩) rfl (q15 inf45 rfl rfl) (RS.opn (u:=.junk) (σ':=⟨[(3,.row (cGArc x13) 45),(2,.row (cGArc x13) 45),(1,.vec (List.map cGArc l8).flatten 45 2 t9),(0,.row [.vl 1 t9 0 l8.length] 41)],4⟩) rfl (q0s (q01 inf45) rfl rfl rfl rfl rfl rfl rfl rfl) rfl ?_)
 refine sd ?_
 refine WPU.joinK (fun tm σ=>q2j z7 l8 (q0z p1 m2) x13=some r∧tm=fr 13 []∧σ=⟨[(2,.row (cGArc x13) 45),(1,.vec (List.map cGArc (l8++[x13])).flatten 45 2 (t9+1)),(0,.row [.vl 1 (t9+1) 0 ((l8++[x13]).length)] 41)],3⟩) ?_ ?_
 rintro _ _ ⟨hF,rfl,rfl⟩
 unfold q2j at hF
 refine ⟨rfl,?_⟩
 refine RS.q (u:=.bool false) rfl (q7y rfl rfl rfl rfl) ?_
 refine sd ?_
 refine WPU.condS (t:=false) rfl (fun hc=>by cases hc) (fun _=>?_)
 refine st ?_
 refine WPU.skip ?_
 refine sr ?_
 refine RS.q rfl (q04 rfl rfl (q2y _ _ _) rfl) (RS.mv rfl rfl rfl rfl ?_)
 refine sd ?_
 exact ⟨m2,_,_,Nat.lt_succ_self _,⟨(IntKind.i64.wrap (z7+1)),(l8++[x13]),(t9+1),hF,rfl,rfl⟩,(Nat.le_of_ble_eq_true rfl),Gh.toC (n1:=2) ⟨rfl,rfl,rfl,rfl,trivial⟩ rfl (Nat.le_of_ble_eq_true rfl) (by simp)⟩
 refine st ?_
 refine WPU.block ?_
 refine st ?_
 obtain ⟨h15,hF⟩:=q1o hF
 refine sr ?_
 refine RS.q (u:=.vl 1 t9 0 l8.length) rfl (q06 und41 rfl rfl rfl rfl) (RS.q (u:=.agg (cGArc x13)) rfl (q0q und45 rfl (q01 inf45) rfl rfl rfl) (RS.q (u:=.sl 4 0 1 1) (σ':=⟨[(4,.row (cGArc x13) 45),(3,.row (cGArc x13) 45),(2,.row (cGArc x13) 45),(1,.vec (List.map cGArc l8).flatten 45 2 t9),(0,.row [.vl 1 t9 0 l8.length] 41)],5⟩) rfl (q26 und41 inf45 rfl rfl rfl rfl rfl rfl rfl) (RS.q (u:=.vl 1 (t9+1) 0 ((l8++[x13]).length)) (σ':=⟨[(4,.row (cGArc x13) 45),(3,.row (cGArc x13) 45),(2,.row (cGArc x13) 45),(1,.vec (List.map cGArc (l8++[x13])).flatten 45 2 (t9+1)),(0,.row [.vl 1 t9 0 l8.length] 41)],5⟩) rfl (q7x rfl rfl rfl rfl (q8j cGArc ([x13]) und41 und41 inf45 rfl q0e rfl (q7h cGArc [x13] rfl rfl rfl rfl) h15)) (RS.opn (u:=.junk) (σ':=⟨[(4,.row (cGArc x13) 45),(3,.row (cGArc x13) 45),(2,.row (cGArc x13) 45),(1,.vec (List.map cGArc (l8++[x13])).flatten 45 2 (t9+1)),(0,.row [.vl 1 (t9+1) 0 ((l8++[x13]).length)] 41)],5⟩) rfl (q0s (q01 inf41) rfl rfl rfl rfl rfl rfl rfl rfl) rfl ?_))))
 refine sd ?_
 exact ⟨_,_,⟨hF,rfl,rfl⟩,(Nat.le_of_ble_eq_true rfl),Gh.toC (n1:=3) trivial rfl (Nat.le_of_ble_eq_true rfl) (by simp)⟩
 replace hF:=q0f h12 hF
 refine st ?_
 refine WPU.exit ?_
 refine st ?_
 exact ⟨_,_,⟨l8,t9,hF,rfl,rfl⟩,(Nat.le_of_ble_eq_true rfl),Gh.toC (n1:=2) trivial rfl (Nat.le_of_ble_eq_true rfl) (by simp)⟩
def q3e (n:Nat) (p1:List GArc):Option ((List GArc)) :=
 bindO (q2w n p1) fun r2 =>
 some r2
theorem q7g (n:Nat) (p1:List GArc) (r:(List GArc)) (hF:q3e n p1=some r):EvU Try.prog 53 [.fn (.func 55) [] [.iptr [.isl false (List.map cGArc p1)]]] ⟨[],0⟩ (fun u σ'=>∃ t:Nat→Nat,u = .vl 1 (t 0) 0 r.length∧σ'=⟨[(1,.vec (List.map cGArc r).flatten 45 2 (t 0))],2⟩):=by
 unfold q3e at hF
 refine EvU.of_body Try.tb_ok fn53 rfl ?_
 refine WPU.ghost (tm':=fr 5 [(0,.fn (.func 55) [] [.iptr [.isl false (List.map cGArc p1)]])]) (Gh.start (Nat.le_of_ble_eq_true rfl)) (Nat.le_refl _) ?_
 refine sr ?_
 refine sd ?_
 obtain ⟨r2,h3,hF⟩:=q00 hF
 refine sr ?_
 refine RS.callx (R:=fun u σ'=>∃ t4:Nat→Nat,u = .vl 1 (t4 0) 0 r2.length∧σ'=⟨[(1,.vec (List.map cGArc r2).flatten 45 2 (t4 0))],2⟩) (args:=[.nils,.fn (.func 55) [] [.iptr [.isl false (List.map cGArc p1)]]]) rfl (q02 rfl rfl fn56 hb56 rfl rfl) (EvU.st [] (q6u n p1 r2 h3 )) rfl rfl ?_
 rintro _ _ ⟨t4,rfl,rfl⟩
 refine sd ?_
 refine WPU.ret ?_
 refine st ?_
 have hr:=Option.some.inj hF
 subst hr
 exact ⟨.inr rfl,[.vl 1 (t4 0) 0 r2.length],q1y rfl (q1e),.vl 1 (t4 0) 0 r2.length,⟨[(1,.vec (List.map cGArc r2).flatten 45 2 (t4 0))],2⟩,(Nat.le_of_ble_eq_true rfl),Gh.trans (Gh.only (fun k=>hasN [1] k)) (Gh.to (n1:=2) [] rfl rfl (Nat.le_of_ble_eq_true rfl) (Nat.le_of_ble_eq_true rfl) BUL.h BH.h),stF [(t4 0)],rfl,rfl⟩
def q1p (n:Nat) (p1:List GArc):Option ((List GArc)) :=
 bindO (q3e n p1) fun r2 =>
 bindO (sortO eqA (fun a b=>q3l n a b ) r2) fun r6 =>
 some r6
theorem q4j (n:Nat) (p1:List GArc) (r:(List GArc)) (hF:q1p n p1=some r):EvU Try.prog 43 [.fn (.func 55) [] [.iptr [.isl false (List.map cGArc p1)]],.fn (.func 45) [] []] ⟨[],0⟩ (fun u σ'=>∃ t:Nat→Nat,u = .vl 1 (t 0) 0 r.length∧σ'=⟨[(1,.vec (List.map cGArc r).flatten 45 2 (t 0))],2⟩):=by
 unfold q1p at hF
 refine EvU.of_body Try.tb_ok fn43 rfl ?_
 refine WPU.ghost (tm':=fr 12 [(0,.fn (.func 55) [] [.iptr [.isl false (List.map cGArc p1)]]),(1,.fn (.func 45) [] [])]) (Gh.start (Nat.le_of_ble_eq_true rfl)) (Nat.le_refl _) ?_
 refine sr ?_
 refine sd ?_
 obtain ⟨r2,h3,hF⟩:=q00 hF
 refine sr ?_
 refine RS.callx (R:=fun u σ'=>∃ t4:Nat→Nat,u = .vl 1 (t4 0) 0 r2.length∧σ'=⟨[(1,.vec (List.map cGArc r2).flatten 45 2 (t4 0))],2⟩) (args:=[.fn (.func 55) [] [.iptr [.isl false (List.map cGArc p1)]]]) rfl (q02 rfl rfl fn53 hb53 rfl rfl) (EvU.st [] (q7g n p1 r2 h3 )) rfl rfl ?_
 rintro _ _ ⟨t4,rfl,rfl⟩
 refine sd ?_
 obtain ⟨r6,h5,hF⟩:=q00 hF
 refine WPU.joinK (fun tm σ=>tm=fr 12 [(5,.vl 1 (t4 0) 0 r6.length)]∧σ=⟨[(1,.vec (List.map cGArc r6).flatten 45 2 (t4 0))],2⟩) ?_ ?_
 rintro _ _ ⟨rfl,rfl⟩
 refine sr ?_
 refine sd ?_
 refine WPU.ret ?_
 refine st ?_
 have hr:=Option.some.inj hF
 subst hr
 exact ⟨.inr rfl,[.vl 1 (t4 0) 0 r6.length],q1y rfl (q1e),.vl 1 (t4 0) 0 r6.length,⟨[(1,.vec (List.map cGArc r6).flatten 45 2 (t4 0))],2⟩,(Nat.le_of_ble_eq_true rfl),Gh.trans (Gh.only (fun k=>hasN [1] k)) (Gh.to (n1:=2) [] rfl rfl (Nat.le_of_ble_eq_true rfl) (Nat.le_of_ble_eq_true rfl) BUL.h BH.h),stF [(t4 0)],rfl,rfl⟩
 refine sr ?_
 repeat refine RS.mv rfl rfl rfl rfl ?_
 refine RS.callx (args:=[.vl 1 (t4 0) 0 r2.length,.fn (.func 45) [] []]) rfl (q02 rfl rfl fn54 hb54 rfl rfl) (srtJ_ok  (fun a b r h=>q9y n a b  r h) r2 r6 h5 _ rfl rfl) rfl rfl ?_
 rintro _ _ ⟨rfl,rfl⟩
 refine sd ?_
 exact ⟨_,_,⟨rfl,rfl⟩,(Nat.zero_le _),Gh.eqS ⟨(by simp only [sortO_len h5]; rfl),trivial⟩ rfl⟩
def q2e (n:Nat) (p1:List GArc):Option ((List GArc)) :=
 some p1
theorem q5c (n:Nat) (p1:List GArc) (r:(List GArc)) (hF:q2e n p1=some r):EvU Try.prog 44 [.isl false (List.map cGArc p1)] ⟨[],0⟩ (fun u σ'=>∃ t:Nat→Nat,u = .fn (.func 55) [] [.iptr [.isl false (List.map cGArc r)]]∧σ'=⟨[],0⟩):=by
 unfold q2e at hF
 refine EvU.of_body Try.tb_ok fn44 rfl ?_
 refine WPU.ghost (tm':=fr 4 [(0,.isl false (List.map cGArc p1))]) (Gh.start (Nat.le_of_ble_eq_true rfl)) (Nat.le_refl _) ?_
 refine sr ?_
 refine RS.q (u:=.ptr 0 0 0) (σ':=⟨[(0,.row [.isl false (List.map cGArc p1)] 41)],1⟩) rfl (q2z rfl rfl rfl) ?_
 refine se ?_
 refine RS.q rfl (op_fun rfl rfl) ?_
 refine sd ?_
 refine WPU.ret ?_
 refine st ?_
 have hr:=Option.some.inj hF
 subst hr
 exact ⟨.inr rfl,[.fn (.func 55) [] [.ptr 0 0 0]],q1y rfl (q1e),.fn (.func 55) [] [.iptr [.isl false (List.map cGArc p1)]],⟨[],0⟩,(Nat.le_of_ble_eq_true rfl),Gh.trans (Gh.fz (tm':=[.fn (.func 55) [] [.iptr [.isl false (List.map cGArc p1)]]]) (h':=[]) 0 (.row [.isl false (List.map cGArc p1)] 41) 1 rfl (by simp) (by simp only [oneU,q07,q03,q0k,q09,q0n,q0d,q0c,q0b,q0a,q08,q0l,q0m,q0j,q0o,q1j,junkT,q20,q22,fz_iptr,Nat.reduceLeDiff,Nat.reduceMul,List.length_cons,List.length_nil,Nat.reduceAdd]<;>simp only [chunks,List.take,List.drop,List.map,cI,cB,cS,cL]) (by simp only [fzH,fzB,ug,Nat.beq,cond_true,cond_false,oneU,q07,q03,q0k,q09,q0n,q0d,q0c,q0b,q0a,q08,q0l,q0m,q0j,q0o,q1j,junkT,q20,q22,fz_iptr,Nat.reduceLeDiff,Nat.reduceMul,List.length_cons,List.length_nil,Nat.reduceAdd]<;>simp only [chunks,List.take,List.drop,List.map,cI,cB,cS,cL])) (Gh.to (n1:=0) [] rfl rfl (Nat.le_of_ble_eq_true rfl) (Nat.le_of_ble_eq_true rfl) BUL.h BH.h),stF [],rfl,rfl⟩
def q1u (z24:Int) (rc1:Int→(List Int)→(MapL Int Int)→Option ((List Int)×(MapL Int Int))) (l35:List Int) (w37:MapL Int Int):Option ((List Int)×(MapL Int Int)) :=
 rc1 (IntKind.i64.wrap (z24+1)) l35 w37
def q2s  (l28:List Int) (w30:MapL Int Int):Option ((List Int)×(MapL Int Int)) :=
 some (l28,w30)
def q11 (p2:List GNode) (r12:(List GArc)) (self:Int→(List GNode)→(List Int)→(MapL Int Int)→Option ((List Int)×(MapL Int Int))):Nat→Int→(List Int)→(MapL Int Int)→Option ((List Int)×(MapL Int Int))
 | 0,_,_,_=>none
 | m1+1,z24,l25,w27 =>
  cond (decide (z24<(r12.length:Int)))
   (bindO (idxO r12 z24) fun x32 =>
   cond (!((mGet (fun a b=>a == b) w27 x32.To).isSome))
    (bindO (self x32.To p2 l25 w27) fun r38 =>
    q1u z24 (q11 p2 r12 self m1) r38.1 r38.2)
    (q1u z24 (q11 p2 r12 self m1) l25 w27))
   (q2s l25 w27)
def q34 (n:Nat) (self:Int→(List GNode)→(List Int)→(MapL Int Int)→Option ((List Int)×(MapL Int Int))) (p1:Int) (p2:List GNode) (p3:List Int) (p5:MapL Int Int):Option ((List Int)×(MapL Int Int)) :=
 needO ((p3.length+1)*8≤140737488355328∧p3.length+1≤140737488355328) (
 bindO (idxO p2 p1) fun x7 =>
 bindO (q2e n x7.Arcs) fun r9 =>
 bindO (q1p n r9) fun r12 =>
 q11 p2 r12 self n 0 (p3++[p1]) (mUpd (fun a b=>a == b) p5 p1 (p3.length:Int)))
def q14:Nat→Int→(List GNode)→(List Int)→(MapL Int Int)→Option ((List Int)×(MapL Int Int))
 | 0,_,_,_,_=>none
 | n+1,p1,p2,p3,p5=>q34 n (q14 n) p1 p2 p3 p5
theorem q5b:∀ (n:Nat) (p1:Int) (p2:List GNode) (p3:List Int) (p5:MapL Int Int) (r:(List Int)×(MapL Int Int)),q14 n p1 p2 p3 p5=some r→∀ t4:Nat,EvU Try.prog 42 [.int .i64 p1,.ptr 0 0 0,.ptr 1 0 0,.ptr 2 0 0,.ptr 3 0 0] ⟨[(0,.row [.vl 4 t4 0 p3.length] 55),(1,.row [.map 5] 61),(2,.row [.isl false (List.map cGNode p2)] 25),(3,.row [.fn (.func 42) [] [.ptr 0 0 0,.ptr 1 0 0,.ptr 2 0 0,.ptr 3 0 0]] 62),(4,.vec (List.map (cI .i64) p3).flatten 3 1 t4),(5,.map (List.map (mE (fun x=>.int .i64 x) (fun x=>.int .i64 x)) p5.es) p5.cl)],6⟩ (fun u σ'=>∃ t:Nat→Nat,u = .tup []∧σ'=⟨[(0,.row [.vl 4 (t 0) 0 r.1.length] 55),(1,.row [.map 5] 61),(2,.row [.isl false (List.map cGNode p2)] 25),(3,.row [.fn (.func 42) [] [.ptr 0 0 0,.ptr 1 0 0,.ptr 2 0 0,.ptr 3 0 0]] 62),(4,.vec (List.map (cI .i64) r.1).flatten 3 1 (t 0)),(5,.map (List.map (mE (fun x=>.int .i64 x) (fun x=>.int .i64 x)) r.2.es) r.2.cl)],6⟩)
 | 0,p1,p2,p3,p5,r,hF=>by cases hF
 | n+1,p1,p2,p3,p5,r,hF=>by
  have ih:=q5b n
  unfold q14 q34 at hF
  intro t4
  refine EvU.of_body Try.tb_ok fn42 rfl ?_
  refine WPU.ghost (tm':=fr 45 [(0,.int .i64 p1),(1,.ptr 0 0 0),(2,.ptr 1 0 0),(3,.ptr 2 0 0),(4,.ptr 3 0 0)]) (Gh.start (Nat.le_of_ble_eq_true rfl)) (Nat.le_refl _) ?_
  refine sr ?_
  refine RS.q (u:=.map 5) rfl (q06 und61 rfl rfl rfl rfl) (RS.mv rfl rfl rfl rfl (RS.q (u:=.vl 4 t4 0 p3.length) rfl (q06 und55 rfl rfl rfl rfl) (RS.q rfl (q10 rfl rfl rfl (q6z und55 rfl)) (RS.opn (u:=.junk) (σ':=⟨[(0,.row [.vl 4 t4 0 p3.length] 55),(1,.row [.map 5] 61),(2,.row [.isl false (List.map cGNode p2)] 25),(3,.row [.fn (.func 42) [] [.ptr 0 0 0,.ptr 1 0 0,.ptr 2 0 0,.ptr 3 0 0]] 62),(4,.vec (List.map (cI .i64) p3).flatten 3 1 t4),(5,.map (List.map (mE (fun x=>.int .i64 x) (fun x=>.int .i64 x)) (mUpd (fun a b=>a == b) p5 p1 (p3.length:Int)).es) (mUpd (fun a b=>a == b) p5 p1 (p3.length:Int)).cl)],6⟩) rfl (op_mup (kU:=(fun x=>.int .i64 x)) (vU:=(fun x=>.int .i64 x)) (m:=p5) (k:=p1) (v:=(p3.length:Int)) (qbk und3) und61 rfl rfl rfl rfl rfl) rfl ?_))))
  refine sd ?_
  obtain ⟨h6,hF⟩:=q1o hF
  refine sr ?_
  refine RS.q (u:=.vl 4 t4 0 p3.length) rfl (q06 und55 rfl rfl rfl rfl) (RS.mv rfl rfl rfl rfl (RS.q (u:=.sl 6 0 1 1) (σ':=⟨[(6,.row [.int .i64 p1] 3),(0,.row [.vl 4 t4 0 p3.length] 55),(1,.row [.map 5] 61),(2,.row [.isl false (List.map cGNode p2)] 25),(3,.row [.fn (.func 42) [] [.ptr 0 0 0,.ptr 1 0 0,.ptr 2 0 0,.ptr 3 0 0]] 62),(4,.vec (List.map (cI .i64) p3).flatten 3 1 t4),(5,.map (List.map (mE (fun x=>.int .i64 x) (fun x=>.int .i64 x)) (mUpd (fun a b=>a == b) p5 p1 (p3.length:Int)).es) (mUpd (fun a b=>a == b) p5 p1 (p3.length:Int)).cl)],7⟩) rfl (q26 und55 inf3 rfl rfl rfl rfl rfl rfl rfl) (RS.q (u:=.vl 4 (t4+1) 0 ((p3++[p1]).length)) (σ':=⟨[(6,.row [.int .i64 p1] 3),(0,.row [.vl 4 t4 0 p3.length] 55),(1,.row [.map 5] 61),(2,.row [.isl false (List.map cGNode p2)] 25),(3,.row [.fn (.func 42) [] [.ptr 0 0 0,.ptr 1 0 0,.ptr 2 0 0,.ptr 3 0 0]] 62),(4,.vec (List.map (cI .i64) (p3++[p1])).flatten 3 1 (t4+1)),(5,.map (List.map (mE (fun x=>.int .i64 x) (fun x=>.int .i64 x)) (mUpd (fun a b=>a == b) p5 p1 (p3.length:Int)).es) (mUpd (fun a b=>a == b) p5 p1 (p3.length:Int)).cl)],7⟩) rfl (q7x rfl rfl rfl rfl (q8j (cI .i64) ([p1]) und55 und55 inf3 rfl (q52 .i64) rfl (q7h (cI .i64) [p1] rfl rfl rfl rfl) h6)) (RS.opn (u:=.junk) (σ':=⟨[(6,.row [.int .i64 p1] 3),(0,.row [.vl 4 (t4+1) 0 ((p3++[p1]).length)] 55),(1,.row [.map 5] 61),(2,.row [.isl false (List.map cGNode p2)] 25),(3,.row [.fn (.func 42) [] [.ptr 0 0 0,.ptr 1 0 0,.ptr 2 0 0,.ptr 3 0 0]] 62),(4,.vec (List.map (cI .i64) (p3++[p1])).flatten 3 1 (t4+1)),(5,.map (List.map (mE (fun x=>.int .i64 x) (fun x=>.int .i64 x)) (mUpd (fun a b=>a == b) p5 p1 (p3.length:Int)).es) (mUpd (fun a b=>a == b) p5 p1 (p3.length:Int)).cl)],7⟩) rfl (q0s (q01 inf55) rfl rfl rfl rfl rfl rfl rfl rfl) rfl ?_))))
  refine sd ?_
  obtain ⟨x7,h8,hF⟩:=q00 hF
  obtain ⟨r9,h10,hF⟩:=q00 hF
  obtain ⟨r12,h13,hF⟩:=q00 hF
  refine sr ?_
  refine RS.q (u:=.ptr 2 0 0) rfl (q0u und25 rfl (q01 inf23) rfl rfl rfl) (RS.q (u:=.isl false (List.map cGNode p2)) rfl (q06 und23 rfl rfl rfl rfl) (RS.mv rfl rfl rfl rfl (RS.q (u:=.iptr (cGNode x7)) rfl (q1t rfl rfl (q2g cGNode und23 (q01 inf43) q1b h8 rfl)) (RS.q (u:=.iptr [.isl false (List.map cGArc x7.Arcs)]) rfl (q68 und43 rfl (q01 inf41) rfl rfl) (RS.q (u:=.isl false (List.map cGArc x7.Arcs)) rfl (q3h und41 rfl rfl rfl) ?_)))))
  refine RS.callx (R:=fun u σ'=>∃ t11:Nat→Nat,u = .fn (.func 55) [] [.iptr [.isl false (List.map cGArc r9)]]∧σ'=⟨[(6,.row [.int .i64 p1] 3),(0,.row [.vl 4 (t4+1) 0 ((p3++[p1]).length)] 55),(1,.row [.map 5] 61),(2,.row [.isl false (List.map cGNode p2)] 25),(3,.row [.fn (.func 42) [] [.ptr 0 0 0,.ptr 1 0 0,.ptr 2 0 0,.ptr 3 0 0]] 62),(4,.vec (List.map (cI .i64) (p3++[p1])).flatten 3 1 (t4+1)),(5,.map (List.map (mE (fun x=>.int .i64 x) (fun x=>.int .i64 x)) (mUpd (fun a b=>a == b) p5 p1 (p3.length:Int)).es) (mUpd (fun a b=>a == b) p5 p1 (p3.length:Int)).cl)],7⟩) (args:=[.isl false (List.map cGArc x7.Arcs)]) rfl (q02 rfl rfl fn44 hb44 rfl rfl) (EvU.st [] (q5c n x7.Arcs r9 h10 )) rfl rfl ?_
  rintro _ _ ⟨t11,rfl,rfl⟩
  refine RS.callx (R:=fun u σ'=>∃ t14:Nat→Nat,u = .vl 8 (t14 0) 0 r12.length∧σ'=⟨[(8,.vec (List.map cGArc r12).flatten 45 2 (t14 0)),(6,.row [.int .i64 p1] 3),(0,.row [.vl 4 (t4+1) 0 ((p3++[p1]).length)] 55),(1,.row [.map 5] 61),(2,.row [.isl false (List.map cGNode p2)] 25),(3,.row [.fn (.func 42) [] [.ptr 0 0 0,.ptr 1 0 0,.ptr 2 0 0,.ptr 3 0 0]] 62),(4,.vec (List.map (cI .i64) (p3++[p1])).flatten 3 1 (t4+1)),(5,.map (List.map (mE (fun x=>.int .i64 x) (fun x=>.int .i64 x)) (mUpd (fun a b=>a == b) p5 p1 (p3.length:Int)).es) (mUpd (fun a b=>a == b) p5 p1 (p3.length:Int)).cl)],9⟩) (args:=[.fn (.func 55) [] [.iptr [.isl false (List.map cGArc r9)]],.fn (.func 45) [] []]) rfl (q02 rfl rfl fn43 hb43 rfl rfl) (EvU.st [] (q4j n r9 r12 h13 )) rfl rfl ?_
  rintro _ _ ⟨t14,rfl,rfl⟩
  refine RS.q rfl (q10 rfl rfl rfl (q6z und41 rfl)) (RS.mv rfl rfl rfl rfl ?_)
  refine sd ?_
  refine WPU.ghost (tm':=fr 45 [(2,.ptr 1 0 0),(4,.ptr 3 0 0),(25,.vl 8 (t14 0) 0 r12.length),(26,.int .i64 (r12.length:Int)),(27,.int .i64 0)]) (Gh.sub ⟨rfl,rfl,rfl,rfl,rfl,trivial⟩) (Nat.le_of_ble_eq_true rfl) ?_
  refine WPU.loopK (fun m tm σ=>∃ z24:Int,∃ l25:List Int,∃ t26:Nat,∃ w27:MapL Int Int,q11 p2 r12 (q14 n) m z24 l25 w27=some r∧tm=fr 45 [(2,.ptr 1 0 0),(4,.ptr 3 0 0),(25,.vl 8 (t14 0) 0 r12.length),(26,.int .i64 (r12.length:Int)),(27,.int .i64 z24)]∧σ=⟨[(8,.vec (List.map cGArc r12).flatten 45 2 (t14 0)),(6,.row [.int .i64 p1] 3),(0,.row [.vl 4 t26 0 l25.length] 55),(1,.row [.map 5] 61),(2,.row [.isl false (List.map cGNode p2)] 25),(3,.row [.fn (.func 42) [] [.ptr 0 0 0,.ptr 1 0 0,.ptr 2 0 0,.ptr 3 0 0]] 62),(4,.vec (List.map (cI .i64) l25).flatten 3 1 t26),(5,.map (List.map (mE (fun x=>.int .i64 x) (fun x=>.int .i64 x)) w27.es) w27.cl)],9⟩) (fun tm σ=>∃ l28:List Int,∃ t29:Nat,∃ w30:MapL Int Int,q2s l28 w30=some r∧tm=fr 45 []∧σ=⟨[(8,.vec (List.map cGArc r12).flatten 45 2 (t14 0)),(6,.row [.int .i64 p1] 3),(0,.row [.vl 4 t29 0 l28.length] 55),(1,.row [.map 5] 61),(2,.row [.isl false (List.map cGNode p2)] 25),(3,.row [.fn (.func 42) [] [.ptr 0 0 0,.ptr 1 0 0,.ptr 2 0 0,.ptr 3 0 0]] 62),(4,.vec (List.map (cI .i64) l28).flatten 3 1 t29),(5,.map (List.map (mE (fun x=>.int .i64 x) (fun x=>.int .i64 x)) w30.es) w30.cl)],9⟩) n ⟨0,(p3++[p1]),(t4+1),(mUpd (fun a b=>a == b) p5 p1 (p3.length:Int)),hF,rfl,rfl⟩ ?_ ?_
  rintro _ _ ⟨l28,t29,w30,hF,rfl,rfl⟩
  unfold q2s at hF
  refine st ?_
  have hr:=Option.some.inj hF
  subst hr
  exact ⟨.inl rfl,[],q1e,.tup [],⟨[(0,.row [.vl 4 t29 0 l28.length] 55),(1,.row [.map 5] 61),(2,.row [.isl false (List.map cGNode p2)] 25),(3,.row [.fn (.func 42) [] [.ptr 0 0 0,.ptr 1 0 0,.ptr 2 0 0,.ptr 3 0 0]] 62),(4,.vec (List.map (cI .i64) l28).flatten 3 1 t29),(5,.map (List.map (mE (fun x=>.int .i64 x) (fun x=>.int .i64 x)) w30.es) w30.cl)],6⟩,(Nat.le_of_ble_eq_true rfl),Gh.to (n1:=6) [] rfl rfl (Nat.le_of_ble_eq_true rfl) (Nat.le_of_ble_eq_true rfl) BUL.h BH.h,stF [t29],rfl,rfl⟩
  rintro m1 _ _ ⟨z24,l25,t26,w27,hF,rfl,rfl⟩
  rcases m1 with _ | m1
  cases hF
  unfold q11 at hF
  refine sr ?_
  refine RS.q rfl (q04 rfl rfl (q1n _ _ _) rfl) ?_
  refine sd ?_
  refine WPU.condS (t:=(decide (z24<(r12.length:Int)))) rfl (fun h31=>?_) (fun h31=>?_)
  replace hF:=q0g h31 hF
  refine st ?_
  refine WPU.skip ?_
  refine st ?_
  refine WPU.block ?_
  refine st ?_
  obtain ⟨x32,h33,hF⟩:=q00 hF
  refine sr ?_
  refine RS.q (u:=.ptr 8 (t14 0) (0*2+z24.toNat*2)) rfl (q1t rfl rfl (q7o cGArc und41 (q01 inf45) (by decide) q0e (vo rfl) h33)) ?_
  refine RS.q (u:=.agg (cGArc x32)) rfl (ld_vec cGArc und45 rfl (q01 inf45) q0e rfl rfl h33 rfl) (RS.q (u:=.ptr 9 0 0) (σ':=⟨[(9,.row [.int .i64 0,.int .i64 0] 45),(8,.vec (List.map cGArc r12).flatten 45 2 (t14 0)),(6,.row [.int .i64 p1] 3),(0,.row [.vl 4 t26 0 l25.length] 55),(1,.row [.map 5] 61),(2,.row [.isl false (List.map cGNode p2)] 25),(3,.row [.fn (.func 42) [] [.ptr 0 0 0,.ptr 1 0 0,.ptr 2 0 0,.ptr 3 0 0]] 62),(4,.vec (List.map (cI .i64) l25).flatten 3 1 t26),(5,.map (List.map (mE (fun x=>.int .i64 x) (fun x=>.int .i64 x)) w27.es) w27.cl)],10⟩) rfl (q15 inf45 rfl rfl) (RS.opn (u:=.junk) (σ':=⟨[(9,.row (cGArc x32) 45),(8,.vec (List.map cGArc r12).flatten 45 2 (t14 0)),(6,.row [.int .i64 p1] 3),(0,.row [.vl 4 t26 0 l25.length] 55),(1,.row [.map 5] 61),(2,.row [.isl false (List.map cGNode p2)] 25),(3,.row [.fn (.func 42) [] [.ptr 0 0 0,.ptr 1 0 0,.ptr 2 0 0,.ptr 3 0 0]] 62),(4,.vec (List.map (cI .i64) l25).flatten 3 1 t26),(5,.map (List.map (mE (fun x=>.int .i64 x) (fun x=>.int .i64 x)) w27.es) w27.cl)],10⟩) rfl (q0s (q01 inf45) rfl rfl rfl rfl rfl rfl rfl rfl) rfl ?_))
  refine se ?_
  refine RS.q (u:=.map 5) rfl (q06 und61 rfl rfl rfl rfl) (RS.q (u:=.ptr 9 0 1) rfl (q0u und45 rfl (q01 inf3) rfl rfl rfl) (RS.q (u:=.int .i64 x32.To) rfl (q06 und3 rfl rfl rfl rfl) (RS.q (u:=.tup [.int .i64 ((mGet (fun a b=>a == b) w27 x32.To).getD 0),.bool ((mGet (fun a b=>a == b) w27 x32.To).isSome)]) rfl (op_look2 (kU:=(fun x=>.int .i64 x)) (vU:=(fun x=>.int .i64 x)) (m:=w27) (k:=x32.To) (zv:=0) (qbk und3) und61 rfl rfl rfl inf3 rfl) (RS.mv rfl rfl rfl rfl (RS.q rfl (q8n rfl rfl) (RS.q rfl (q8n rfl rfl) ?_))))))
  repeat refine RS.as rfl rfl rfl rfl ?_
  refine se ?_
  refine RS.q (u:=.bool (!((mGet (fun a b=>a == b) w27 x32.To).isSome))) rfl (q7y rfl rfl rfl rfl) ?_
  refine sd ?_
  refine WPU.joinK (fun tm σ=>∃ l35:List Int,∃ t36:Nat,∃ w37:MapL Int Int,q1u z24 (q11 p2 r12 (q14 n) m1) l35 w37=some r∧tm=fr 45 [(2,.ptr 1 0 0),(4,.ptr 3 0 0),(25,.vl 8 (t14 0) 0 r12.length),(26,.int .i64 (r12.length:Int)),(27,.int .i64 z24)]∧σ=⟨[(9,.row (cGArc x32) 45),(8,.vec (List.map cGArc r12).flatten 45 2 (t14 0)),(6,.row [.int .i64 p1] 3),(0,.row [.vl 4 t36 0 l35.length] 55),(1,.row [.map 5] 61),(2,.row [.isl false (List.map cGNode p2)] 25),(3,.row [.fn (.func 42) [] [.ptr 0 0 0,.ptr 1 0 0,.ptr 2 0 0,.ptr 3 0 0]] 62),(4,.vec (List.map (cI .i64) l35).flatten 3 1 t36),(5,.map (List.map (mE (fun x=>.int .i64 x) (fun x=>.int .i64 x)) w37.es) w37.cl)],10⟩) ?_ ?_
  rintro _ _ ⟨l35,t36,w37,hF,rfl,rfl⟩
  unfold q1u at hF
  refine sr ?_
  refine RS.q rfl (q04 rfl rfl (q2y _ _ _) rfl) (RS.mv rfl rfl rfl rfl ?_)
  refine sd ?_
  exact ⟨m1,_,_,Nat.lt_succ_self _,⟨(IntKind.i64.wrap (z24+1)),l35,t36,w37,hF,rfl,rfl⟩,(Nat.le_of_ble_eq_true rfl),Gh.toC (n1:=9) ⟨rfl,rfl,rfl,rfl,rfl,trivial⟩ rfl (Nat.le_of_ble_eq_true rfl) (by simp)⟩
  refine WPU.condS (t:=(!((mGet (fun a b=>a == b) w27 x32.To).isSome))) rfl (fun h34=>?_) (fun h34=>?_)
  replace hF:=q0g h34 hF
  refine st ?_
  obtain ⟨r38,h39,hF⟩:=q00 hF
  refine sr ?_
  refine RS.q (u:=.fn (.func 42) [] [.ptr 0 0 0,.ptr 1 0 0,.ptr 2 0 0,.ptr 3 0 0]) rfl (q06 und62 rfl rfl rfl rfl) (RS.q (u:=.ptr 9 0 1) rfl (q0u und45 rfl (q01 inf3) rfl rfl rfl) (RS.q (u:=.int .i64 x32.To) rfl (q06 und3 rfl rfl rfl rfl) ?_))
  refine RS.callx (R:=fun u σ'=>∃ t40:Nat→Nat,u = .tup []∧σ'=⟨[(9,.row (cGArc x32) 45),(8,.vec (List.map cGArc r12).flatten 45 2 (t14 0)),(6,.row [.int .i64 p1] 3),(0,.row [.vl 4 (t40 0) 0 r38.1.length] 55),(1,.row [.map 5] 61),(2,.row [.isl false (List.map cGNode p2)] 25),(3,.row [.fn (.func 42) [] [.ptr 0 0 0,.ptr 1 0 0,.ptr 2 0 0,.ptr 3 0 0]] 62),(4,.vec (List.map (cI .i64) r38.1).flatten 3 1 (t40 0)),(5,.map (List.map (mE (fun x=>.int .i64 x) (fun x=>.int .i64 x)) r38.2.es) r38.2.cl)],10⟩) (args:=[.int .i64 x32.To,.ptr 0 0 0,.ptr 1 0 0,.ptr 2 0 0,.ptr 3 0 0]) rfl (q02 rfl rfl fn42 hb42 rfl rfl) (EvU.st [0,1,2,3,4,5] (ih x32.To p2 l25 w27 r38 h39 t26)) rfl rfl ?_
  rintro _ _ ⟨t40,rfl,rfl⟩
  refine sd ?_
  exact ⟨_,_,⟨r38.1,(t40 0),r38.2,hF,rfl,rfl⟩,(Nat.le_of_ble_eq_true rfl),Gh.toC (n1:=10) ⟨rfl,rfl,rfl,rfl,rfl,trivial⟩ rfl (Nat.le_of_ble_eq_true rfl) (by simp)⟩
  replace hF:=q0f h34 hF
  refine st ?_
  refine WPU.skip ?_
  refine st ?_
  exact ⟨_,_,⟨l25,t26,w27,hF,rfl,rfl⟩,(Nat.le_of_ble_eq_true rfl),Gh.toC (n1:=10) ⟨rfl,rfl,rfl,rfl,rfl,trivial⟩ rfl (Nat.le_of_ble_eq_true rfl) (by simp)⟩
  replace hF:=q0f h31 hF
  refine st ?_
  refine WPU.exit ?_
  refine st ?_
  exact ⟨_,_,⟨l25,t26,w27,hF,rfl,rfl⟩,(Nat.le_of_ble_eq_true rfl),Gh.toC (n1:=9) trivial rfl (Nat.le_of_ble_eq_true rfl) (by simp)⟩
def q3c (p1:GFS) (r3:(List Int)×(MapL Int Int)) (z14:Int) (l15:List GNode) (rc1:Int→(List GNode)→Option (GFS)) (x19:Int) (l44:List GArc):Option (GFS) :=
 bindO (idxO p1.Nodes x19) fun x45 =>
 bindO (idxV l15 0 ((r3.1.length:Int).toNat) z14) fun x47 =>
 rc1 (IntKind.i64.wrap (z14+1)) (l15.set z14.toNat (GNode.mk x45.Typex l44))
def q28 (p1:GFS) (r3:(List Int)×(MapL Int Int)) (z14:Int) (l15:List GNode) (rc1:Int→(List GNode)→Option (GFS)) (x19:Int) (r26:(List GArc)):Nat→Int→(List GArc)→Option (GFS)
 | 0,_,_=>none
 | m2+1,z42,l43 =>
  cond (decide (z42<(r26.length:Int)))
   (bindO (idxO l43 z42) fun x50 =>
   bindO (idxO l43 z42) fun x52 =>
   (q28 p1 r3 z14 l15 rc1 x19 r26 m2) (IntKind.i64.wrap (z42+1)) (l43.set (0+z42.toNat) (GArc.mk x52.Feat ((mGet (fun a b=>a == b) r3.2 x50.To).getD 0))))
   (q3c p1 r3 z14 l15 rc1 x19 l43)
def q3y (r3:(List Int)×(MapL Int Int)) (l16:List GNode):Option (GFS) :=
 needO ((r3.1.length:Int).toNat=l16.length) (
 some (GFS.mk l16))
def q1k (p1:GFS) (n:Nat) (r3:(List Int)×(MapL Int Int)):Nat→Int→(List GNode)→Option (GFS)
 | 0,_,_=>none
 | m1+1,z14,l15 =>
  cond (decide (z14<(r3.1.length:Int)))
   (bindO (idxO r3.1 z14) fun x19 =>
   bindO (idxO p1.Nodes x19) fun x21 =>
   bindO (q2e n x21.Arcs) fun r23 =>
   bindO (q1p n r23) fun r26 =>
   q28 p1 r3 z14 l15 (q1k p1 n r3 m1) x19 r26 n 0 r26)
   (q3y r3 l15)
def q2x (n:Nat) (p1:GFS) (p2:Int):Option (GFS) :=
 bindO (q14 n p2 p1.Nodes ([]:List Int) (mNew:MapL Int Int)) fun r3 =>
 needO (0≤(r3.1.length:Int)∧32*(r3.1.length:Int).toNat≤281474976710656∧(r3.1.length:Int)≤281474976710656) (
 q1k p1 n r3 n 0 (List.replicate (r3.1.length:Int).toNat (GNode.mk 0 [])))
theorem q9z (n:Nat) (p1:GFS) (p2:Int) (r:GFS) (hF:q2x n p1 p2=some r):EvU Try.prog 31 [.agg [.isl false (List.map cGNode p1.Nodes)],.int .i64 p2] ⟨[],0⟩ (fun u _=>u = .agg [.isl false (List.map cGNode r.Nodes)]∧Bel 0 u):=by
 unfold q2x at hF
 refine EvU.of_body Try.tb_ok fn31 rfl ?_
 refine WPU.ghost (tm':=fr 68 [(0,.agg [.isl false (List.map cGNode p1.Nodes)]),(1,.int .i64 p2)]) (Gh.start (Nat.le_of_ble_eq_true rfl)) (Nat.zero_le _) ?_
 refine sr ?_
 refine RS.q (u:=.ptr 0 0 0) (σ':=⟨[(0,.row [.isl false (List.map cGNode p1.Nodes)] 25)],1⟩) rfl (q2z rfl rfl rfl) (RS.q (u:=.ptr 1 0 0) (σ':=⟨[(1,.row [.nils] 25),(0,.row [.isl false (List.map cGNode p1.Nodes)] 25)],2⟩) rfl (q15 inf25 rfl rfl) ?_)
 refine se ?_
 refine RS.q (u:=.map 2) (σ':=⟨[(2,.map (List.map (mE (fun x=>.int .i64 x) (fun x=>.int .i64 x)) (mNew:MapL Int Int).es) (mNew:MapL Int Int).cl),(1,.row [.nils] 25),(0,.row [.isl false (List.map cGNode p1.Nodes)] 25)],3⟩) rfl (op_mnew) (RS.q (u:=.ptr 3 0 0) (σ':=⟨[(3,.row [.nilm] 61),(2,.map (List.map (mE (fun x=>.int .i64 x) (fun x=>.int .i64 x)) (mNew:MapL Int Int).es) (mNew:MapL Int Int).cl),(1,.row [.nils] 25),(0,.row [.isl false (List.map cGNode p1.Nodes)] 25)],4⟩) rfl (q15 inf61 rfl rfl) (RS.opn (u:=.junk) (σ':=⟨[(3,.row [.map 2] 61),(2,.map (List.map (mE (fun x=>.int .i64 x) (fun x=>.int .i64 x)) (mNew:MapL Int Int).es) (mNew:MapL Int Int).cl),(1,.row [.nils] 25),(0,.row [.isl false (List.map cGNode p1.Nodes)] 25)],4⟩) rfl (q0s (q01 inf61) rfl rfl rfl rfl rfl rfl rfl rfl) rfl ?_))
 refine se ?_
 refine RS.q (u:=.ptr 4 0 0) (σ':=⟨[(4,.row [.nils] 55),(3,.row [.map 2] 61),(2,.map (List.map (mE (fun x=>.int .i64 x) (fun x=>.int .i64 x)) (mNew:MapL Int Int).es) (mNew:MapL Int Int).cl),(1,.row [.nils] 25),(0,.row [.isl false (List.map cGNode p1.Nodes)] 25)],5⟩) rfl (q15 inf55 rfl rfl) ?_
 refine se ?_
 refine RS.q (u:=.ptr 5 0 0) (σ':=⟨[(5,.row [.nilf] 62),(4,.row [.nils] 55),(3,.row [.map 2] 61),(2,.map (List.map (mE (fun x=>.int .i64 x) (fun x=>.int .i64 x)) (mNew:MapL Int Int).es) (mNew:MapL Int Int).cl),(1,.row [.nils] 25),(0,.row [.isl false (List.map cGNode p1.Nodes)] 25)],6⟩) rfl (q15 inf62 rfl rfl) ?_
 refine se ?_
 refine RS.q rfl (op_fun rfl rfl) (RS.opn (u:=.junk) (σ':=⟨[(5,.row [.fn (.func 42) [] [.ptr 4 0 0,.ptr 3 0 0,.ptr 0 0 0,.ptr 5 0 0]] 62),(4,.row [.nils] 55),(3,.row [.map 2] 61),(2,.map (List.map (mE (fun x=>.int .i64 x) (fun x=>.int .i64 x)) (mNew:MapL Int Int).es) (mNew:MapL Int Int).cl),(1,.row [.nils] 25),(0,.row [.isl false (List.map cGNode p1.Nodes)] 25)],6⟩) rfl (q0s (q01 inf62) rfl rfl rfl rfl rfl rfl rfl rfl) rfl ?_)
 refine sd ?_
 refine WPU.ghost (tm':=fr 68 [(1,.int .i64 p2),(2,.ptr 0 0 0),(4,.ptr 1 0 0),(5,.ptr 3 0 0),(6,.ptr 4 0 0),(7,.ptr 5 0 0)]) (σ':=⟨[(6,.vec (List.map (cI .i64) ([]:List Int)).flatten 3 1 0),(5,.row [.fn (.func 42) [] [.ptr 4 0 0,.ptr 3 0 0,.ptr 0 0 0,.ptr 5 0 0]] 62),(4,.row [.vl 6 0 0 (([]:List Int).length)] 55),(3,.row [.map 2] 61),(2,.map (List.map (mE (fun x=>.int .i64 x) (fun x=>.int .i64 x)) (mNew:MapL Int Int).es) (mNew:MapL Int Int).cl),(1,.row [.nils] 25),(0,.row [.isl false (List.map cGNode p1.Nodes)] 25)],7⟩) (Gh.trans (Gh.nilC 4 0 3 1 (by decide) (Nat.zero_le _) rfl rfl) (Gh.eqS ⟨rfl,rfl,rfl,rfl,rfl,rfl,trivial⟩ rfl)) (Nat.zero_le _) ?_
 refine st ?_
 obtain ⟨r3,h4,hF⟩:=q00 hF
 refine sr ?_
 refine RS.q (u:=.fn (.func 42) [] [.ptr 4 0 0,.ptr 3 0 0,.ptr 0 0 0,.ptr 5 0 0]) rfl (q06 und62 rfl rfl rfl rfl) (RS.mv rfl rfl rfl rfl ?_)
 refine RS.callx (R:=fun u σ'=>∃ t5:Nat→Nat,u = .tup []∧σ'=⟨[(6,.vec (List.map (cI .i64) r3.1).flatten 3 1 (t5 0)),(5,.row [.fn (.func 42) [] [.ptr 4 0 0,.ptr 3 0 0,.ptr 0 0 0,.ptr 5 0 0]] 62),(4,.row [.vl 6 (t5 0) 0 r3.1.length] 55),(3,.row [.map 2] 61),(2,.map (List.map (mE (fun x=>.int .i64 x) (fun x=>.int .i64 x)) r3.2.es) r3.2.cl),(1,.row [.nils] 25),(0,.row [.isl false (List.map cGNode p1.Nodes)] 25)],7⟩) (args:=[.int .i64 p2,.ptr 4 0 0,.ptr 3 0 0,.ptr 0 0 0,.ptr 5 0 0]) rfl (q02 rfl rfl fn42 hb42 rfl rfl) (EvU.st [4,3,0,5,6,2] (q5b n p2 p1.Nodes ([]:List Int) (mNew:MapL Int Int) r3 h4 0)) rfl rfl ?_
 rintro _ _ ⟨t5,rfl,rfl⟩
 refine sd ?_
 obtain ⟨h6,hF⟩:=q1o hF
 refine sr ?_
 refine RS.q (u:=.vl 6 (t5 0) 0 r3.1.length) rfl (q06 und55 rfl rfl rfl rfl) (RS.q rfl (q10 rfl rfl rfl (q6z und55 rfl)) (RS.q (u:=.sl 7 0 ((r3.1.length:Int).toNat) ((r3.1.length:Int).toNat)) (σ':=⟨[(7,.row (List.map cGNode (List.replicate (r3.1.length:Int).toNat (GNode.mk 0 []))).flatten 43),(6,.vec (List.map (cI .i64) r3.1).flatten 3 1 (t5 0)),(5,.row [.fn (.func 42) [] [.ptr 4 0 0,.ptr 3 0 0,.ptr 0 0 0,.ptr 5 0 0]] 62),(4,.row [.vl 6 (t5 0) 0 r3.1.length] 55),(3,.row [.map 2] 61),(2,.map (List.map (mE (fun x=>.int .i64 x) (fun x=>.int .i64 x)) r3.2.es) r3.2.cl),(1,.row [.nils] 25),(0,.row [.isl false (List.map cGNode p1.Nodes)] 25)],8⟩) rfl (op_mks cGNode (GNode.mk 0 []) rfl rfl und23 inf43 rfl rfl rfl rfl h6) (RS.q (u:=.agg [.sl 7 0 ((r3.1.length:Int).toNat) ((r3.1.length:Int).toNat)]) rfl (q6q bd25 rfl rfl rfl) (RS.q (u:=.ptr 8 0 0) (σ':=⟨[(8,.row [.nils] 25),(7,.row (List.map cGNode (List.replicate (r3.1.length:Int).toNat (GNode.mk 0 []))).flatten 43),(6,.vec (List.map (cI .i64) r3.1).flatten 3 1 (t5 0)),(5,.row [.fn (.func 42) [] [.ptr 4 0 0,.ptr 3 0 0,.ptr 0 0 0,.ptr 5 0 0]] 62),(4,.row [.vl 6 (t5 0) 0 r3.1.length] 55),(3,.row [.map 2] 61),(2,.map (List.map (mE (fun x=>.int .i64 x) (fun x=>.int .i64 x)) r3.2.es) r3.2.cl),(1,.row [.nils] 25),(0,.row [.isl false (List.map cGNode p1.Nodes)] 25)],9⟩) rfl (q15 inf25 rfl rfl) (RS.opn (u:=.junk) (σ':=⟨[(8,.row [.sl 7 0 ((r3.1.length:Int).toNat) ((r3.1.length:Int).toNat)] 25),(7,.row (List.map cGNode (List.replicate (r3.1.length:Int).toNat (GNode.mk 0 []))).flatten 43),(6,.vec (List.map (cI .i64) r3.1).flatten 3 1 (t5 0)),(5,.row [.fn (.func 42) [] [.ptr 4 0 0,.ptr 3 0 0,.ptr 0 0 0,.ptr 5 0 0]] 62),(4,.row [.vl 6 (t5 0) 0 r3.1.length] 55),(3,.row [.map 2] 61),(2,.map (List.map (mE (fun x=>.int .i64 x) (fun x=>.int .i64 x)) r3.2.es) r3.2.cl),(1,.row [.nils] 25),(0,.row [.isl false (List.map cGNode p1.Nodes)] 25)],9⟩) rfl (q0s (q01 inf25) rfl rfl rfl rfl rfl rfl rfl rfl) rfl ?_)))))
 refine se ?_
 refine RS.q (u:=.vl 6 (t5 0) 0 r3.1.length) rfl (q06 und55 rfl rfl rfl rfl) (RS.q rfl (q10 rfl rfl rfl (q6z und55 rfl)) (RS.mv rfl rfl rfl rfl ?_))
 refine sd ?_
 refine WPU.ghost (tm':=fr 68 [(2,.ptr 0 0 0),(4,.ptr 1 0 0),(5,.ptr 3 0 0),(8,.ptr 8 0 0),(22,.vl 6 (t5 0) 0 r3.1.length),(23,.int .i64 (r3.1.length:Int)),(24,.int .i64 0)]) (Gh.sub ⟨rfl,rfl,rfl,rfl,rfl,rfl,rfl,trivial⟩) (Nat.zero_le _) ?_
 refine WPU.loopK (fun m tm σ=>∃ z14:Int,∃ l15:List GNode,q1k p1 n r3 m z14 l15=some r∧tm=fr 68 [(2,.ptr 0 0 0),(4,.ptr 1 0 0),(5,.ptr 3 0 0),(8,.ptr 8 0 0),(22,.vl 6 (t5 0) 0 r3.1.length),(23,.int .i64 (r3.1.length:Int)),(24,.int .i64 z14)]∧σ=⟨[(8,.row [.sl 7 0 ((r3.1.length:Int).toNat) ((r3.1.length:Int).toNat)] 25),(7,.row (List.map cGNode l15).flatten 43),(6,.vec (List.map (cI .i64) r3.1).flatten 3 1 (t5 0)),(5,.row [.fn (.func 42) [] [.ptr 4 0 0,.ptr 3 0 0,.ptr 0 0 0,.ptr 5 0 0]] 62),(4,.row [.vl 6 (t5 0) 0 r3.1.length] 55),(3,.row [.map 2] 61),(2,.map (List.map (mE (fun x=>.int .i64 x) (fun x=>.int .i64 x)) r3.2.es) r3.2.cl),(1,.row [.nils] 25),(0,.row [.isl false (List.map cGNode p1.Nodes)] 25)],9⟩) (fun tm σ=>∃ l16:List GNode,q3y r3 l16=some r∧tm=fr 68 [(4,.ptr 1 0 0),(8,.ptr 8 0 0)]∧σ=⟨[(8,.row [.sl 7 0 ((r3.1.length:Int).toNat) ((r3.1.length:Int).toNat)] 25),(7,.row (List.map cGNode l16).flatten 43),(6,.vec (List.map (cI .i64) r3.1).flatten 3 1 (t5 0)),(5,.row [.fn (.func 42) [] [.ptr 4 0 0,.ptr 3 0 0,.ptr 0 0 0,.ptr 5 0 0]] 62),(4,.row [.vl 6 (t5 0) 0 r3.1.length] 55),(3,.row [.map 2] 61),(2,.map (List.map (mE (fun x=>.int .i64 x) (fun x=>.int .i64 x)) r3.2.es) r3.2.cl),(1,.row [.nils] 25),(0,.row [.isl false (List.map cGNode p1.Nodes)] 25)],9⟩) n ⟨0,(List.replicate (r3.1.length:Int).toNat (GNode.mk 0 [])),hF,rfl,rfl⟩ ?_ ?_
 rintro _ _ ⟨l16,hF,rfl,rfl⟩
 unfold q3y at hF
 refine sr ?_
 refine RS.q (u:=.agg [.sl 7 0 ((r3.1.length:Int).toNat) ((r3.1.length:Int).toNat)]) rfl (q0q und25 rfl (q01 inf25) rfl rfl rfl) (RS.opn (u:=.junk) (σ':=⟨[(8,.row [.sl 7 0 ((r3.1.length:Int).toNat) ((r3.1.length:Int).toNat)] 25),(7,.row (List.map cGNode l16).flatten 43),(6,.vec (List.map (cI .i64) r3.1).flatten 3 1 (t5 0)),(5,.row [.fn (.func 42) [] [.ptr 4 0 0,.ptr 3 0 0,.ptr 0 0 0,.ptr 5 0 0]] 62),(4,.row [.vl 6 (t5 0) 0 r3.1.length] 55),(3,.row [.map 2] 61),(2,.map (List.map (mE (fun x=>.int .i64 x) (fun x=>.int .i64 x)) r3.2.es) r3.2.cl),(1,.row [.sl 7 0 ((r3.1.length:Int).toNat) ((r3.1.length:Int).toNat)] 25),(0,.row [.isl false (List.map cGNode p1.Nodes)] 25)],9⟩) rfl (q0s (q01 inf25) rfl rfl rfl rfl rfl rfl rfl rfl) rfl ?_)
 refine sd ?_
 refine WPU.ret ?_
 refine st ?_
 obtain ⟨h17,hF⟩:=q1o hF
 have hr:=Option.some.inj hF
 subst hr
 exact ⟨.inr rfl,[.agg [.sl 7 0 ((r3.1.length:Int).toNat) ((r3.1.length:Int).toNat)]],qa9 (q0q und25 rfl (q01 inf25) rfl rfl rfl) (q1e),.agg [.isl false (List.map cGNode l16)],⟨[],0⟩,Nat.le_refl _,Gh.trans (Gh.fz (tm':=[.agg [.isl false (List.map cGNode l16)]]) 7 (.row (List.map cGNode l16).flatten 43) 2 rfl (by simp) (by simp only [oneU,q07,q03,q0k,q09,q0n,q0d,q0c,q0b,q0a,q08,q0l,q0m,q0j,q0o,q1j,junkT,fz_rl q1b h17,q38 (show Nat.beq 0 7=false from rfl),q37 (show Nat.beq 0 7=false from rfl),q36 (show Nat.beq 0 7=false from rfl),q38 (show Nat.beq 2 7=false from rfl),q37 (show Nat.beq 2 7=false from rfl),q36 (show Nat.beq 2 7=false from rfl),q38 (show Nat.beq 3 7=false from rfl),q37 (show Nat.beq 3 7=false from rfl),q36 (show Nat.beq 3 7=false from rfl),q38 (show Nat.beq 4 7=false from rfl),q37 (show Nat.beq 4 7=false from rfl),q36 (show Nat.beq 4 7=false from rfl),q38 (show Nat.beq 5 7=false from rfl),q37 (show Nat.beq 5 7=false from rfl),q36 (show Nat.beq 5 7=false from rfl),q38 (show Nat.beq 6 7=false from rfl),q37 (show Nat.beq 6 7=false from rfl),q36 (show Nat.beq 6 7=false from rfl),q2l _ _ _ (q2m 7 (fun q=>q7j _ .i64 q) r3.1),fz_mE]) rfl) (Gh.toR (.agg [.isl false (List.map cGNode l16)]) rfl),rfl,BU.h⟩
 rintro m1 _ _ ⟨z14,l15,hF,rfl,rfl⟩
 rcases m1 with _ | m1
 cases hF
 unfold q1k at hF
 refine sr ?_
 refine RS.q rfl (q04 rfl rfl (q1n _ _ _) rfl) ?_
 refine sd ?_
 refine WPU.condS (t:=(decide (z14<(r3.1.length:Int)))) rfl (fun h18=>?_) (fun h18=>?_)
 replace hF:=q0g h18 hF
 refine st ?_
 refine WPU.skip ?_
 refine st ?_
 refine WPU.block ?_
 refine st ?_
 obtain ⟨x19,h20,hF⟩:=q00 hF
 refine sr ?_
 refine RS.q (u:=.ptr 6 (t5 0) (0*1+z14.toNat*1)) rfl (q1t rfl rfl (q7o (cI .i64) und55 (q01 inf3) (by decide) (q52 .i64) (vo rfl) h20)) ?_
 refine RS.q (u:=.int .i64 x19) rfl (q79 (cI .i64) (fun x=>.int .i64 x) und3 rfl (fun _=>rfl) rfl rfl h20) ?_
 repeat refine RS.as rfl rfl rfl rfl ?_
 refine sd ?_
 obtain ⟨x21,h22,hF⟩:=q00 hF
 obtain ⟨r23,h24,hF⟩:=q00 hF
 obtain ⟨r26,h27,hF⟩:=q00 hF
 refine sr ?_
 refine RS.q (u:=.ptr 0 0 0) rfl (q0u und25 rfl (q01 inf23) rfl rfl rfl) (RS.q (u:=.isl false (List.map cGNode p1.Nodes)) rfl (q06 und23 rfl rfl rfl rfl) (RS.mv rfl rfl rfl rfl (RS.q (u:=.iptr (cGNode x21)) rfl (q1t rfl rfl (q2g cGNode und23 (q01 inf43) q1b h22 rfl)) (RS.q (u:=.iptr [.isl false (List.map cGArc x21.Arcs)]) rfl (q68 und43 rfl (q01 inf41) rfl rfl) (RS.q (u:=.isl false (List.map cGArc x21.Arcs)) rfl (q3h und41 rfl rfl rfl) ?_)))))
 refine RS.callx (R:=fun u σ'=>∃ t25:Nat→Nat,u = .fn (.func 55) [] [.iptr [.isl false (List.map cGArc r23)]]∧σ'=⟨[(8,.row [.sl 7 0 ((r3.1.length:Int).toNat) ((r3.1.length:Int).toNat)] 25),(7,.row (List.map cGNode l15).flatten 43),(6,.vec (List.map (cI .i64) r3.1).flatten 3 1 (t5 0)),(5,.row [.fn (.func 42) [] [.ptr 4 0 0,.ptr 3 0 0,.ptr 0 0 0,.ptr 5 0 0]] 62),(4,.row [.vl 6 (t5 0) 0 r3.1.length] 55),(3,.row [.map 2] 61),(2,.map (List.map (mE (fun x=>.int .i64 x) (fun x=>.int .i64 x)) r3.2.es) r3.2.cl),(1,.row [.nils] 25),(0,.row [.isl false (List.map cGNode p1.Nodes)] 25)],9⟩) (args:=[.isl false (List.map cGArc x21.Arcs)]) rfl (q02 rfl rfl fn44 hb44 rfl rfl) (EvU.st [] (q5c n x21.Arcs r23 h24 )) rfl rfl ?_
 rintro _ _ ⟨t25,rfl,rfl⟩
 refine RS.callx (R:=fun u σ'=>∃ t28:Nat→Nat,u = .vl 10 (t28 0) 0 r26.length∧σ'=⟨[(10,.vec (List.map cGArc r26).flatten 45 2 (t28 0)),(8,.row [.sl 7 0 ((r3.1.length:Int).toNat) ((r3.1.length:Int).toNat)] 25),(7,.row (List.map cGNode l15).flatten 43),(6,.vec (List.map (cI .i64) r3.1).flatten 3 1 (t5 0)),(5,.row [.fn (.func 42) [] [.ptr 4 0 0,.ptr 3 0 0,.ptr 0 0 0,.ptr 5 0 0]] 62),(4,.row [.vl 6 (t5 0) 0 r3.1.length] 55),(3,.row [.map 2] 61),(2,.map (List.map (mE (fun x=>.int .i64 x) (fun x=>.int .i64 x)) r3.2.es) r3.2.cl),(1,.row [.nils] 25),(0,.row [.isl false (List.map cGNode p1.Nodes)] 25)],11⟩) (args:=[.fn (.func 55) [] [.iptr [.isl false (List.map cGArc r23)]],.fn (.func 45) [] []]) rfl (q02 rfl rfl fn43 hb43 rfl rfl) (EvU.st [] (q4j n r23 r26 h27 )) rfl rfl ?_
 rintro _ _ ⟨t28,rfl,rfl⟩
 refine se ?_
 refine RS.q rfl (q10 rfl rfl rfl (q6z und41 rfl)) (RS.mv rfl rfl rfl rfl ?_)
 refine sd ?_
 refine WPU.ghost (tm':=fr 68 [(2,.ptr 0 0 0),(4,.ptr 1 0 0),(5,.ptr 3 0 0),(8,.ptr 8 0 0),(9,.int .i64 z14),(10,.int .i64 x19),(11,.vl 10 (t28 0) 0 r26.length),(22,.vl 6 (t5 0) 0 r3.1.length),(23,.int .i64 (r3.1.length:Int)),(24,.int .i64 z14),(38,.int .i64 (r26.length:Int)),(39,.int .i64 0)]) (Gh.sub ⟨rfl,rfl,rfl,rfl,rfl,rfl,rfl,rfl,rfl,rfl,rfl,rfl,trivial⟩) (Nat.zero_le _) ?_
 refine WPU.loopK (fun m tm σ=>∃ z42:Int,∃ l43:List GArc,q28 p1 r3 z14 l15 (q1k p1 n r3 m1) x19 r26 m z42 l43=some r∧tm=fr 68 [(2,.ptr 0 0 0),(4,.ptr 1 0 0),(5,.ptr 3 0 0),(8,.ptr 8 0 0),(9,.int .i64 z14),(10,.int .i64 x19),(11,.vl 10 (t28 0) 0 l43.length),(22,.vl 6 (t5 0) 0 r3.1.length),(23,.int .i64 (r3.1.length:Int)),(24,.int .i64 z14),(38,.int .i64 (r26.length:Int)),(39,.int .i64 z42)]∧σ=⟨[(10,.vec (List.map cGArc l43).flatten 45 2 (t28 0)),(8,.row [.sl 7 0 ((r3.1.length:Int).toNat) ((r3.1.length:Int).toNat)] 25),(7,.row (List.map cGNode l15).flatten 43),(6,.vec (List.map (cI .i64) r3.1).flatten 3 1 (t5 0)),(5,.row [.fn (.func 42) [] [.ptr 4 0 0,.ptr 3 0 0,.ptr 0 0 0,.ptr 5 0 0]] 62),(4,.row [.vl 6 (t5 0) 0 r3.1.length] 55),(3,.row [.map 2] 61),(2,.map (List.map (mE (fun x=>.int .i64 x) (fun x=>.int .i64 x)) r3.2.es) r3.2.cl),(1,.row [.nils] 25),(0,.row [.isl false (List.map cGNode p1.Nodes)] 25)],11⟩) (fun tm σ=>∃ l44:List GArc,q3c p1 r3 z14 l15 (q1k p1 n r3 m1) x19 l44=some r∧tm=fr 68 [(2,.ptr 0 0 0),(4,.ptr 1 0 0),(5,.ptr 3 0 0),(8,.ptr 8 0 0),(9,.int .i64 z14),(10,.int .i64 x19),(11,.vl 10 (t28 0) 0 l44.length),(22,.vl 6 (t5 0) 0 r3.1.length),(23,.int .i64 (r3.1.length:Int)),(24,.int .i64 z14)]∧σ=⟨[(10,.vec (List.map cGArc l44).flatten 45 2 (t28 0)),(8,.row [.sl 7 0 ((r3.1.length:Int).toNat) ((r3.1.length:Int).toNat)] 25),(7,.row (List.map cGNode l15).flatten 43),(6,.vec (List.map (cI .i64) r3.1).flatten 3 1 (t5 0)),(5,.row [.fn (.func 42) [] [.ptr 4 0 0,.ptr 3 0 0,.ptr 0 0 0,.ptr 5 0 0]] 62),(4,.row [.vl 6 (t5 0) 0 r3.1.length] 55),(3,.row [.map 2] 61),(2,.map (List.map (mE (fun x=>.int .i64 x) (fun x=>.int .i64 x)) r3.2.es) r3.2.cl),(1,.row [.nils] 25),(0,.row [.isl false (List.map cGNode p1.Nodes)] 25)],11⟩) n ⟨0,r26,hF,rfl,rfl⟩ ?_ ?_
 rintro _ _ ⟨l44,hF,rfl,rfl⟩
 unfold q3c at hF
 refine st ?_
 refine WPU.ghost (tm':=fr 68 [(2,.ptr 0 0 0),(4,.ptr 1 0 0),(5,.ptr 3 0 0),(8,.ptr 8 0 0),(9,.int .i64 z14),(10,.int .i64 x19),(11,.isl false (List.map cGArc l44)),(22,.vl 6 (t5 0) 0 r3.1.length),(23,.int .i64 (r3.1.length:Int)),(24,.int .i64 z14)]) (σ':=⟨[(8,.row [.sl 7 0 ((r3.1.length:Int).toNat) ((r3.1.length:Int).toNat)] 25),(7,.row (List.map cGNode l15).flatten 43),(6,.vec (List.map (cI .i64) r3.1).flatten 3 1 (t5 0)),(5,.row [.fn (.func 42) [] [.ptr 4 0 0,.ptr 3 0 0,.ptr 0 0 0,.ptr 5 0 0]] 62),(4,.row [.vl 6 (t5 0) 0 r3.1.length] 55),(3,.row [.map 2] 61),(2,.map (List.map (mE (fun x=>.int .i64 x) (fun x=>.int .i64 x)) r3.2.es) r3.2.cl),(1,.row [.nils] 25),(0,.row [.isl false (List.map cGNode p1.Nodes)] 25)],11⟩) (Gh.trans (Gh.sub (l':=[(2,.ptr 0 0 0),(4,.ptr 1 0 0),(5,.ptr 3 0 0),(8,.ptr 8 0 0),(9,.int .i64 z14),(10,.int .i64 x19),(11,.vl 10 (t28 0) 0 l44.length),(22,.vl 6 (t5 0) 0 r3.1.length),(23,.int .i64 (r3.1.length:Int)),(24,.int .i64 z14)]) ⟨rfl,rfl,rfl,rfl,rfl,rfl,rfl,rfl,rfl,rfl,trivial⟩) (Gh.fzS (l':=[(2,.ptr 0 0 0),(4,.ptr 1 0 0),(5,.ptr 3 0 0),(8,.ptr 8 0 0),(9,.int .i64 z14),(10,.int .i64 x19),(11,.isl false (List.map cGArc l44)),(22,.vl 6 (t5 0) 0 r3.1.length),(23,.int .i64 (r3.1.length:Int)),(24,.int .i64 z14)]) (h':=[(8,.row [.sl 7 0 ((r3.1.length:Int).toNat) ((r3.1.length:Int).toNat)] 25),(7,.row (List.map cGNode l15).flatten 43),(6,.vec (List.map (cI .i64) r3.1).flatten 3 1 (t5 0)),(5,.row [.fn (.func 42) [] [.ptr 4 0 0,.ptr 3 0 0,.ptr 0 0 0,.ptr 5 0 0]] 62),(4,.row [.vl 6 (t5 0) 0 r3.1.length] 55),(3,.row [.map 2] 61),(2,.map (List.map (mE (fun x=>.int .i64 x) (fun x=>.int .i64 x)) r3.2.es) r3.2.cl),(1,.row [.nils] 25),(0,.row [.isl false (List.map cGNode p1.Nodes)] 25)]) 10 (.vec (List.map cGArc l44).flatten 45 2 (t28 0)) 2 rfl (by simp) (by simp only [fzS,oneU,q07,q03,q0k,q09,q0n,q0d,q0c,q0b,q0a,q08,q0l,q0m,q0j,q0o,q1j,junkT,fz_vl q0e,q38 (show Nat.beq 0 10=false from rfl),q37 (show Nat.beq 0 10=false from rfl),q36 (show Nat.beq 0 10=false from rfl),q38 (show Nat.beq 1 10=false from rfl),q37 (show Nat.beq 1 10=false from rfl),q36 (show Nat.beq 1 10=false from rfl),q38 (show Nat.beq 2 10=false from rfl),q37 (show Nat.beq 2 10=false from rfl),q36 (show Nat.beq 2 10=false from rfl),q38 (show Nat.beq 3 10=false from rfl),q37 (show Nat.beq 3 10=false from rfl),q36 (show Nat.beq 3 10=false from rfl),q38 (show Nat.beq 4 10=false from rfl),q37 (show Nat.beq 4 10=false from rfl),q36 (show Nat.beq 4 10=false from rfl),q38 (show Nat.beq 5 10=false from rfl),q37 (show Nat.beq 5 10=false from rfl),q36 (show Nat.beq 5 10=false from rfl),q38 (show Nat.beq 6 10=false from rfl),q37 (show Nat.beq 6 10=false from rfl),q36 (show Nat.beq 6 10=false from rfl),q38 (show Nat.beq 7 10=false from rfl),q37 (show Nat.beq 7 10=false from rfl),q36 (show Nat.beq 7 10=false from rfl),q38 (show Nat.beq 8 10=false from rfl),q37 (show Nat.beq 8 10=false from rfl),q36 (show Nat.beq 8 10=false from rfl),q2l _ _ _ (q2m 10 (fun q=>q5d _ q) l15),q2l _ _ _ (q2m 10 (fun q=>q7j _ .i64 q) r3.1),fz_mE]) (by simp only [fzH,fzB,ug,Nat.beq,cond_true,cond_false,oneU,q07,q03,q0k,q09,q0n,q0d,q0c,q0b,q0a,q08,q0l,q0m,q0j,q0o,q1j,junkT,fz_vl q0e,q38 (show Nat.beq 0 10=false from rfl),q37 (show Nat.beq 0 10=false from rfl),q36 (show Nat.beq 0 10=false from rfl),q38 (show Nat.beq 1 10=false from rfl),q37 (show Nat.beq 1 10=false from rfl),q36 (show Nat.beq 1 10=false from rfl),q38 (show Nat.beq 2 10=false from rfl),q37 (show Nat.beq 2 10=false from rfl),q36 (show Nat.beq 2 10=false from rfl),q38 (show Nat.beq 3 10=false from rfl),q37 (show Nat.beq 3 10=false from rfl),q36 (show Nat.beq 3 10=false from rfl),q38 (show Nat.beq 4 10=false from rfl),q37 (show Nat.beq 4 10=false from rfl),q36 (show Nat.beq 4 10=false from rfl),q38 (show Nat.beq 5 10=false from rfl),q37 (show Nat.beq 5 10=false from rfl),q36 (show Nat.beq 5 10=false from rfl),q38 (show Nat.beq 6 10=false from rfl),q37 (show Nat.beq 6 10=false from rfl),q36 (show Nat.beq 6 10=false from rfl),q38 (show Nat.beq 7 10=false from rfl),q37 (show Nat.beq 7 10=false from rfl),q36 (show Nat.beq 7 10=false from rfl),q38 (show Nat.beq 8 10=false from rfl),q37 (show Nat.beq 8 10=false from rfl),q36 (show Nat.beq 8 10=false from rfl),q2l _ _ _ (q2m 10 (fun q=>q5d _ q) l15),q2l _ _ _ (q2m 10 (fun q=>q7j _ .i64 q) r3.1),fz_mE]))) (Nat.zero_le _) ?_
 refine st ?_
 obtain ⟨x45,h46,hF⟩:=q00 hF
 obtain ⟨x47,h48,hF⟩:=q00 hF
 refine WPU.drawE Try.tb_ok [] (by kernel_rfl) ?_
 refine RD.q (u:=.ptr 8 0 0) rfl (q0u und25 rfl (q01 inf23) rfl rfl rfl) (RD.q (u:=.sl 7 0 ((r3.1.length:Int).toNat) ((r3.1.length:Int).toNat)) rfl (q06 und23 rfl rfl rfl rfl) (RD.mv rfl rfl rfl rfl (RD.q (u:=.ptr 0 0 0) rfl (q0u und25 rfl (q01 inf23) rfl rfl rfl) (RD.q (u:=.isl false (List.map cGNode p1.Nodes)) rfl (q06 und23 rfl rfl rfl rfl) (RD.mv rfl rfl rfl rfl (RD.q (u:=.iptr (cGNode x45)) rfl (q1t rfl rfl (q2g cGNode und23 (q01 inf43) q1b h46 rfl)) (RD.q (u:=.iptr (cGNode x45)) rfl (q68 und43 rfl (q01 inf3) rfl rfl) ?_)))))))
 refine RD.q (u:=.int .i64 x45.Typex) rfl (q3h und3 rfl rfl rfl) (RD.mv rfl rfl rfl rfl (RD.q (u:=.agg [.int .i64 x45.Typex,.isl false (List.map cGArc l44)]) rfl (q6q bd43 rfl rfl rfl) (RD.q (u:=.ptr 7 0 (0*2+z14.toNat*2)) rfl (q1t rfl rfl (q9a und23 (q01 inf43) rfl h48)) (RD.actn (u:=.junk) (σ':=⟨[(8,.row [.sl 7 0 ((r3.1.length:Int).toNat) ((r3.1.length:Int).toNat)] 25),(7,.row (List.map cGNode (l15.set z14.toNat (GNode.mk x45.Typex l44))).flatten 43),(6,.vec (List.map (cI .i64) r3.1).flatten 3 1 (t5 0)),(5,.row [.fn (.func 42) [] [.ptr 4 0 0,.ptr 3 0 0,.ptr 0 0 0,.ptr 5 0 0]] 62),(4,.row [.vl 6 (t5 0) 0 r3.1.length] 55),(3,.row [.map 2] 61),(2,.map (List.map (mE (fun x=>.int .i64 x) (fun x=>.int .i64 x)) r3.2.es) r3.2.cl),(1,.row [.nils] 25),(0,.row [.isl false (List.map cGNode p1.Nodes)] 25)],11⟩) rfl (st_rl cGNode (q01 inf43) q1b rfl rfl rfl rfl rfl rfl h48 rfl) rfl ?_))))
 refine RD.done ⟨by kernel_rfl,trivial,?_⟩
 refine sr ?_
 refine RS.q rfl (q04 rfl rfl (q2y _ _ _) rfl) (RS.mv rfl rfl rfl rfl ?_)
 refine sd ?_
 exact ⟨m1,_,_,Nat.lt_succ_self _,⟨(IntKind.i64.wrap (z14+1)),(l15.set z14.toNat (GNode.mk x45.Typex l44)),hF,rfl,rfl⟩,(Nat.zero_le _),Gh.toC (n1:=9) ⟨rfl,rfl,rfl,rfl,rfl,rfl,rfl,trivial⟩ rfl (Nat.zero_le _) (by simp)⟩
 rintro m2 _ _ ⟨z42,l43,hF,rfl,rfl⟩
 rcases m2 with _ | m2
 cases hF
 unfold q28 at hF
 refine sr ?_
 refine RS.q rfl (q04 rfl rfl (q1n _ _ _) rfl) ?_
 refine sd ?_
 refine WPU.condS (t:=(decide (z42<(r26.length:Int)))) rfl (fun h49=>?_) (fun h49=>?_)
 replace hF:=q0g h49 hF
 refine st ?_
 refine WPU.skip ?_
 refine st ?_
 refine WPU.block ?_
 refine sr ?_
 refine sd ?_
 obtain ⟨x50,h51,hF⟩:=q00 hF
 obtain ⟨x52,h53,hF⟩:=q00 hF
 refine WPU.joinK (fun tm σ=>tm=fr 68 [(2,.ptr 0 0 0),(4,.ptr 1 0 0),(5,.ptr 3 0 0),(8,.ptr 8 0 0),(9,.int .i64 z14),(10,.int .i64 x19),(11,.vl 10 (t28 0) 0 ((l43.set (0+z42.toNat) (GArc.mk x52.Feat ((mGet (fun a b=>a == b) r3.2 x50.To).getD 0))).length)),(22,.vl 6 (t5 0) 0 r3.1.length),(23,.int .i64 (r3.1.length:Int)),(24,.int .i64 z14),(38,.int .i64 (r26.length:Int)),(39,.int .i64 z42)]∧σ=⟨[(10,.vec (List.map cGArc (l43.set (0+z42.toNat) (GArc.mk x52.Feat ((mGet (fun a b=>a == b) r3.2 x50.To).getD 0)))).flatten 45 2 (t28 0)),(8,.row [.sl 7 0 ((r3.1.length:Int).toNat) ((r3.1.length:Int).toNat)] 25),(7,.row (List.map cGNode l15).flatten 43),(6,.vec (List.map (cI .i64) r3.1).flatten 3 1 (t5 0)),(5,.row [.fn (.func 42) [] [.ptr 4 0 0,.ptr 3 0 0,.ptr 0 0 0,.ptr 5 0 0]] 62),(4,.row [.vl 6 (t5 0) 0 r3.1.length] 55),(3,.row [.map 2] 61),(2,.map (List.map (mE (fun x=>.int .i64 x) (fun x=>.int .i64 x)) r3.2.es) r3.2.cl),(1,.row [.nils] 25),(0,.row [.isl false (List.map cGNode p1.Nodes)] 25)],11⟩) ?_ ?_
 rintro _ _ ⟨rfl,rfl⟩
 refine sr ?_
 refine RS.q rfl (q04 rfl rfl (q2y _ _ _) rfl) (RS.mv rfl rfl rfl rfl ?_)
 refine sd ?_
 exact ⟨m2,_,_,Nat.lt_succ_self _,⟨(IntKind.i64.wrap (z42+1)),(l43.set (0+z42.toNat) (GArc.mk x52.Feat ((mGet (fun a b=>a == b) r3.2 x50.To).getD 0))),hF,rfl,rfl⟩,(Nat.zero_le _),Gh.toC (n1:=11) ⟨rfl,rfl,rfl,rfl,rfl,rfl,rfl,rfl,rfl,rfl,rfl,rfl,trivial⟩ rfl (Nat.zero_le _) (by simp)⟩
 refine WPU.drawE Try.tb_ok [] (by kernel_rfl) ?_
 repeat refine RD.mv rfl rfl rfl rfl ?_
 refine RD.q (u:=.map 2) rfl (q06 und61 rfl rfl rfl rfl) ?_
 repeat refine RD.mv rfl rfl rfl rfl ?_
 refine RD.q (u:=.ptr 10 (t28 0) (0*2+z42.toNat*2)) rfl (q1t rfl rfl (q7o cGArc und41 (q01 inf45) (by decide) q0e (vo rfl) h51)) ?_
 refine RD.q (u:=.ptr 10 (t28 0) (0*2+z42.toNat*2+1)) rfl (q0u und45 rfl (q01 inf3) rfl (qbn rfl) rfl) (RD.q (u:=.int .i64 x50.To) rfl (ld_vf cGArc und3 rfl q0e rfl rfl (qah h51) rfl) (RD.q (u:=.int .i64 ((mGet (fun a b=>a == b) r3.2 x50.To).getD 0)) rfl (op_look (kU:=(fun x=>.int .i64 x)) (vU:=(fun x=>.int .i64 x)) (m:=r3.2) (k:=x50.To) (zv:=0) (qbk und3) und61 rfl rfl rfl inf3 rfl) ?_))
 refine RD.q (u:=.ptr 10 (t28 0) (0*2+z42.toNat*2)) rfl (q1t rfl rfl (q7o cGArc und41 (q01 inf45) (by decide) q0e (vo rfl) h53)) ?_
 refine RD.q (u:=.ptr 10 (t28 0) (0*2+z42.toNat*2+1)) rfl (q0u und45 rfl (q01 inf3) rfl (qbn rfl) rfl) (RD.actn (u:=.junk) (σ':=⟨[(10,.vec (List.map cGArc (l43.set (0+z42.toNat) (GArc.mk x52.Feat ((mGet (fun a b=>a == b) r3.2 x50.To).getD 0)))).flatten 45 2 (t28 0)),(8,.row [.sl 7 0 ((r3.1.length:Int).toNat) ((r3.1.length:Int).toNat)] 25),(7,.row (List.map cGNode l15).flatten 43),(6,.vec (List.map (cI .i64) r3.1).flatten 3 1 (t5 0)),(5,.row [.fn (.func 42) [] [.ptr 4 0 0,.ptr 3 0 0,.ptr 0 0 0,.ptr 5 0 0]] 62),(4,.row [.vl 6 (t5 0) 0 r3.1.length] 55),(3,.row [.map 2] 61),(2,.map (List.map (mE (fun x=>.int .i64 x) (fun x=>.int .i64 x)) r3.2.es) r3.2.cl),(1,.row [.nils] 25),(0,.row [.isl false (List.map cGNode p1.Nodes)] 25)],11⟩) rfl (st_vf (y:=(GArc.mk x52.Feat ((mGet (fun a b=>a == b) r3.2 x50.To).getD 0))) cGArc (q01 inf3) q0e rfl rfl rfl rfl rfl rfl (qah h53) rfl rfl) rfl ?_)
 refine RD.done ⟨by kernel_rfl,trivial,?_⟩
 refine st ?_
 exact ⟨_,_,⟨rfl,rfl⟩,(Nat.zero_le _),Gh.eqS ⟨rfl,rfl,rfl,rfl,rfl,rfl,(by simp only [List.length_set]; rfl),rfl,rfl,rfl,rfl,rfl,trivial⟩ rfl⟩
 replace hF:=q0f h49 hF
 refine st ?_
 refine WPU.exit ?_
 refine st ?_
 exact ⟨_,_,⟨l43,hF,rfl,rfl⟩,(Nat.zero_le _),Gh.toC (n1:=11) ⟨rfl,rfl,rfl,rfl,rfl,rfl,rfl,rfl,rfl,rfl,trivial⟩ rfl (Nat.zero_le _) (by simp)⟩
 replace hF:=q0f h18 hF
 refine st ?_
 refine WPU.exit ?_
 refine st ?_
 exact ⟨_,_,⟨l15,hF,rfl,rfl⟩,(Nat.zero_le _),Gh.toC (n1:=9) ⟨rfl,rfl,trivial⟩ rfl (Nat.zero_le _) (by simp)⟩
theorem q6n (n:Nat) (p1:GFS) (p2:Int) (r:GFS) (hF:q2x n p1 p2=some r) (σ:Sg):EvU Try.prog 31 [.agg [.isl false (List.map cGNode p1.Nodes)],.int .i64 p2] σ (fun u σ'=>u = .agg [.isl false (List.map cGNode r.Nodes)]∧σ'=σ) :=
 EvU.pure1C (q9z n p1 p2 r hF) σ
def q3o (p1:List GArc) (z6:Int) (l7:List GArc) (rc1:Int→(List GArc)→Option ((List GArc))) (z18:Int):Option ((List GArc)) :=
 needO ((0:Int)≤z18∧z18≤((l7.length:Nat):Int)) (
 needO (0+z18.toNat≤l7.length) (
 needO (((l7.drop 0).take z18.toNat).length*16≤140737488355328∧((l7.drop 0).take z18.toNat).length≤140737488355328) (
 bindO (idxO p1 z6) fun x22 =>
 needO ((((l7.drop 0).take z18.toNat).length+1)*16≤140737488355328∧((l7.drop 0).take z18.toNat).length+1≤140737488355328) (
 needO ((0:Int)≤z18∧z18≤((l7.length:Nat):Int)) (
 needO ((0+z18.toNat)+(l7.length - z18.toNat)≤l7.length) (
 needO (((((l7.drop 0).take z18.toNat)++[x22]).length+((l7.drop (0+z18.toNat)).take (l7.length - z18.toNat)).length)*16≤140737488355328∧(((l7.drop 0).take z18.toNat)++[x22]).length+((l7.drop (0+z18.toNat)).take (l7.length - z18.toNat)).length≤140737488355328) (
 rc1 (IntKind.i64.wrap (z6+1)) ((((l7.drop 0).take z18.toNat)++[x22])++((l7.drop (0+z18.toNat)).take (l7.length - z18.toNat))))))))))
def q3p (p1:List GArc) (z6:Int) (l7:List GArc) (rc1:Int→(List GArc)→Option ((List GArc))):Nat→Int→Option ((List GArc))
 | 0,_=>none
 | m2+1,z17 =>
  bindO (cond (decide (z17 > 0))
   (bindO (idxO l7 (IntKind.i64.wrap (z17 - 1))) fun x29 =>
   bindO (idxO p1 z6) fun x31 =>
   some (decide (x29.Feat > x31.Feat)))
   (some false)) fun b33 =>
  cond b33
   ((q3p p1 z6 l7 rc1 m2) (IntKind.i64.wrap (z17 - 1)))
   (q3o p1 z6 l7 rc1 z17)
def q57  (l9:List GArc):Option ((List GArc)) :=
 some l9
def q2c (p1:List GArc) (n:Nat):Nat→Int→(List GArc)→Option ((List GArc))
 | 0,_,_=>none
 | m1+1,z6,l7 =>
  cond (decide (z6<(p1.length:Int)))
   (q3p p1 z6 l7 (q2c p1 n m1) n (l7.length:Int))
   (q57 l7)
def q5x (n:Nat) (p1:List GArc):Option ((List GArc)) :=
 q2c p1 n n 0 ([]:List GArc)
theorem q8o (n:Nat) (p1:List GArc) (r:(List GArc)) (hF:q5x n p1=some r):EvU Try.prog 48 [.isl false (List.map cGArc p1)] ⟨[],0⟩ (fun u σ'=>∃ t,u = .vl 0 t 0 r.length∧σ'=⟨[(0,.vec (List.map cGArc r).flatten 45 2 t)],0+1⟩):=by
 unfold q5x at hF
 refine EvU.of_body Try.tb_ok fn48 rfl ?_
 refine WPU.ghost (tm':=fr 52 [(0,.isl false (List.map cGArc p1))]) (Gh.start (Nat.le_of_ble_eq_true rfl)) (Nat.zero_le _) ?_
 refine sr ?_
 refine se ?_
 refine se ?_
 refine sd ?_
 refine WPU.ghost (tm':=fr 52 [(0,.isl false (List.map cGArc p1)),(3,.vl 0 0 0 (([]:List GArc).length)),(4,.int .i64 0)]) (σ':=⟨[(0,.vec (List.map cGArc ([]:List GArc)).flatten 45 2 0)],1⟩) (Gh.trans (Gh.nilS 3 45 2 (by decide) (Nat.zero_le _) rfl rfl) (Gh.eqS ⟨rfl,rfl,rfl,trivial⟩ rfl)) (Nat.zero_le _) ?_
 refine WPU.ghost (tm':=fr 52 [(0,.isl false (List.map cGArc p1)),(3,.vl 0 0 0 (([]:List GArc).length)),(4,.int .i64 0)]) (Gh.sub ⟨rfl,rfl,rfl,trivial⟩) (Nat.zero_le _) ?_
 refine WPU.loopK (fun m tm σ=>∃ z6:Int,∃ l7:List GArc,∃ t8:Nat,q2c p1 n m z6 l7=some r∧tm=fr 52 [(0,.isl false (List.map cGArc p1)),(3,.vl 0 t8 0 l7.length),(4,.int .i64 z6)]∧σ=⟨[(0,.vec (List.map cGArc l7).flatten 45 2 t8)],1⟩) (fun tm σ=>∃ l9:List GArc,∃ t10:Nat,q57 l9=some r∧tm=fr 52 [(3,.vl 0 t10 0 l9.length)]∧σ=⟨[(0,.vec (List.map cGArc l9).flatten 45 2 t10)],1⟩) n ⟨0,([]:List GArc),0,hF,rfl,rfl⟩ ?_ ?_
 rintro _ _ ⟨l9,t10,hF,rfl,rfl⟩
 unfold q57 at hF
 refine sr ?_
 refine sd ?_
 refine WPU.ret ?_
 refine st ?_
 have hr:=Option.some.inj hF
 subst hr
 exact ⟨.inr rfl,[.vl 0 t10 0 l9.length],q1y rfl q1e,.vl 0 t10 0 l9.length,⟨[(0,.vec (List.map cGArc l9).flatten 45 2 t10)],1⟩,(Nat.zero_le _),Gh.trans (Gh.only (fun k=>Nat.beq k 0)) (Gh.to (n1:=1) [] rfl rfl (Nat.zero_le _) (Nat.le_of_ble_eq_true rfl) BUL.h BH.h),t10,rfl,rfl⟩
 rintro m1 _ _ ⟨z6,l7,t8,hF,rfl,rfl⟩
 rcases m1 with _ | m1
 cases hF
 unfold q2c at hF
 refine sr ?_
 repeat refine RS.mv rfl rfl rfl rfl ?_
 refine RS.q rfl (q10 rfl rfl rfl (q0w cGArc und41)) (RS.q rfl (q04 rfl rfl (q1n _ _ _) rfl) ?_)
 refine sd ?_
 refine WPU.condS (t:=(decide (z6<(p1.length:Int)))) rfl (fun h11=>?_) (fun h11=>?_)
 replace hF:=q0g h11 hF
 refine st ?_
 refine WPU.skip ?_
 refine st ?_
 refine WPU.block ?_
 refine sr ?_
 refine RS.q rfl (q10 rfl rfl rfl (q6z und41 rfl)) ?_
 refine sd ?_
 refine WPU.ghost (tm':=fr 52 [(0,.isl false (List.map cGArc p1)),(3,.vl 0 t8 0 l7.length),(4,.int .i64 z6),(5,.int .i64 (l7.length:Int))]) (Gh.sub ⟨rfl,rfl,rfl,rfl,trivial⟩) (Nat.zero_le _) ?_
 refine WPU.loopK (fun m tm σ=>∃ z17:Int,q3p p1 z6 l7 (q2c p1 n m1) m z17=some r∧tm=fr 52 [(0,.isl false (List.map cGArc p1)),(3,.vl 0 t8 0 l7.length),(4,.int .i64 z6),(5,.int .i64 z17)]∧σ=⟨[(0,.vec (List.map cGArc l7).flatten 45 2 t8)],1⟩) (fun tm σ=>∃ z18:Int,q3o p1 z6 l7 (q2c p1 n m1) z18=some r∧tm=fr 52 [(0,.isl false (List.map cGArc p1)),(3,.vl 0 t8 0 l7.length),(4,.int .i64 z6),(5,.int .i64 z18)]∧σ=⟨[(0,.vec (List.map cGArc l7).flatten 45 2 t8)],1⟩) n ⟨(l7.length:Int),hF,rfl,rfl⟩ ?_ ?_
 rintro _ _ ⟨z18,hF,rfl,rfl⟩
 unfold q3o at hF
 refine sr ?_
 refine sd ?_
 obtain ⟨h19,hF⟩:=q1o hF
 obtain ⟨h20,hF⟩:=q1o hF
 obtain ⟨h21,hF⟩:=q1o hF
 refine sr ?_
 repeat refine RS.mv rfl rfl rfl rfl ?_
 refine RS.q (u:=.vl 0 t8 0 z18.toNat) rfl (op_slice rfl em_n (em_s rfl) em_n (sl_vp cGArc und41 (q01 inf45) q0e (vo rfl) (Nat.le_of_eq (Nat.zero_add _)) (bnd_hi h19.1 h19.2))) (RS.q (u:=.vl 1 0 0 (((l7.drop 0).take z18.toNat).length)) (σ':=⟨[(1,.vec (List.map cGArc ((l7.drop 0).take z18.toNat)).flatten 45 2 0),(0,.vec (List.map cGArc l7).flatten 45 2 t8)],2⟩) rfl (q7x rfl rfl rfl rfl (app_new cGArc ((l7.drop 0).take z18.toNat) und41 und41 inf45 rfl (src_vp cGArc q0e (vo rfl) h20) h21)) ?_)
 refine sd ?_
 obtain ⟨x22,h23,hF⟩:=q00 hF
 obtain ⟨h24,hF⟩:=q1o hF
 refine sr ?_
 repeat refine RS.mv rfl rfl rfl rfl ?_
 refine RS.q (u:=.iptr (cGArc x22)) rfl (q1t rfl rfl (q2g cGArc und41 (q01 inf45) q0e h23 rfl)) (RS.q (u:=.agg (cGArc x22)) rfl (q7s und45 rfl (q01 inf45) rfl rfl) (RS.q (u:=.sl 2 0 1 1) (σ':=⟨[(2,.row (cGArc x22) 45),(1,.vec (List.map cGArc ((l7.drop 0).take z18.toNat)).flatten 45 2 0),(0,.vec (List.map cGArc l7).flatten 45 2 t8)],3⟩) rfl (q26 und41 inf45 rfl rfl rfl rfl rfl rfl rfl) (RS.q (u:=.vl 1 1 0 ((((l7.drop 0).take z18.toNat)++[x22]).length)) (σ':=⟨[(2,.row (cGArc x22) 45),(1,.vec (List.map cGArc (((l7.drop 0).take z18.toNat)++[x22])).flatten 45 2 1),(0,.vec (List.map cGArc l7).flatten 45 2 t8)],3⟩) rfl (q7x rfl rfl rfl rfl (q8j cGArc ([x22]) und41 und41 inf45 rfl q0e rfl (q7h cGArc [x22] rfl rfl rfl rfl) h24)) ?_)))
 refine sd ?_
 obtain ⟨h25,hF⟩:=q1o hF
 obtain ⟨h26,hF⟩:=q1o hF
 obtain ⟨h27,hF⟩:=q1o hF
 refine sr ?_
 repeat refine RS.mv rfl rfl rfl rfl ?_
 refine RS.q (u:=.vl 0 t8 (0+z18.toNat) (l7.length - z18.toNat)) rfl (op_slice rfl (em_s rfl) em_n em_n (sl_vp cGArc und41 (q01 inf45) q0e (vo rfl) (Nat.le_of_eq (Nat.zero_add _)) (bnd_lo h25.1 h25.2))) (RS.q (u:=.vl 1 2 0 (((((l7.drop 0).take z18.toNat)++[x22])++((l7.drop (0+z18.toNat)).take (l7.length - z18.toNat))).length)) (σ':=⟨[(2,.row (cGArc x22) 45),(1,.vec (List.map cGArc ((((l7.drop 0).take z18.toNat)++[x22])++((l7.drop (0+z18.toNat)).take (l7.length - z18.toNat)))).flatten 45 2 2),(0,.vec (List.map cGArc l7).flatten 45 2 t8)],3⟩) rfl (q7x rfl rfl rfl rfl (q8j cGArc ((l7.drop (0+z18.toNat)).take (l7.length - z18.toNat)) und41 und41 inf45 rfl q0e rfl (src_vp cGArc q0e (vo rfl) h26) h27)) ?_)
 refine se ?_
 refine se ?_
 refine RS.q rfl (q04 rfl rfl (q2y _ _ _) rfl) ?_
 refine sd ?_
 exact ⟨m1,_,_,Nat.lt_succ_self _,⟨(IntKind.i64.wrap (z6+1)),((((l7.drop 0).take z18.toNat)++[x22])++((l7.drop (0+z18.toNat)).take (l7.length - z18.toNat))),2,hF,rfl,rfl⟩,(Nat.zero_le _),Gh.trans (Gh.sub (l':=[(0,.isl false (List.map cGArc p1)),(3,.vl 1 2 0 (((((l7.drop 0).take z18.toNat)++[x22])++((l7.drop (0+z18.toNat)).take (l7.length - z18.toNat))).length)),(4,.int .i64 (IntKind.i64.wrap (z6+1)))]) ⟨rfl,rfl,rfl,trivial⟩) (Gh.trans (Gh.mv (l':=[(0,.isl false (List.map cGArc p1)),(3,.vl 0 2 0 (((((l7.drop 0).take z18.toNat)++[x22])++((l7.drop (0+z18.toNat)).take (l7.length - z18.toNat))).length)),(4,.int .i64 (IntKind.i64.wrap (z6+1)))]) (h':=[(2,.row (cGArc x22) 45),(0,.vec (List.map cGArc ((((l7.drop 0).take z18.toNat)++[x22])++((l7.drop (0+z18.toNat)).take (l7.length - z18.toNat)))).flatten 45 2 2)]) 0 1 (Nat.zero_le _) rfl rfl (by simp only [rS,rU,rUL,qa7,mvN,Nat.beq,cond_true,cond_false]) rfl (by simp only [avH,rB,rUL_nf,rUL,rU,qa7,rM_map,mvN,Nat.beq,cond_true,cond_false,and_self])) (Gh.toC (n1:=1) ⟨rfl,rfl,rfl,trivial⟩ rfl (Nat.zero_le _) (by simp)))⟩
 rintro m2 _ _ ⟨z17,hF,rfl,rfl⟩
 rcases m2 with _ | m2
 cases hF
 unfold q3p at hF
 refine st ?_
 obtain ⟨b33,h34,hF⟩:=q00 hF
 refine WPU.joinK (fun tm σ=>tm=fr 52 [(0,.isl false (List.map cGArc p1)),(3,.vl 0 t8 0 l7.length),(4,.int .i64 z6),(5,.int .i64 z17),(30,.bool b33)]∧σ=⟨[(0,.vec (List.map cGArc l7).flatten 45 2 t8)],1⟩) ?_ ?_
 rintro _ _ ⟨rfl,rfl⟩
 refine st ?_
 refine WPU.condS (t:=b33) rfl (fun h35=>?_) (fun h35=>?_)
 replace hF:=q0g h35 hF
 refine st ?_
 refine WPU.skip ?_
 refine st ?_
 refine WPU.block ?_
 refine sr ?_
 refine RS.q rfl (q04 rfl rfl (ix_sub _ _ _) rfl) ?_
 refine sd ?_
 exact ⟨m2,_,_,Nat.lt_succ_self _,⟨(IntKind.i64.wrap (z17 - 1)),hF,rfl,rfl⟩,(Nat.zero_le _),Gh.toC (n1:=1) ⟨rfl,rfl,rfl,rfl,trivial⟩ rfl (Nat.zero_le _) (by simp)⟩
 replace hF:=q0f h35 hF
 refine st ?_
 refine WPU.exit ?_
 refine st ?_
 exact ⟨_,_,⟨z17,hF,rfl,rfl⟩,(Nat.zero_le _),Gh.toC (n1:=1) ⟨rfl,rfl,rfl,rfl,trivial⟩ rfl (Nat.zero_le _) (by simp)⟩
 rcases q3f (decide (z17 > 0)) with h28 | h28
 replace h34:=q0g h28 h34
 obtain ⟨x29,h30,h34⟩:=q00 h34
 obtain ⟨x31,h32,h34⟩:=q00 h34
 replace h34:=Option.some.inj h34
 subst h34
 refine WPU.drawE Try.tb_ok [] (by kernel_rfl) ?_
 refine RD.mv rfl rfl rfl rfl (RD.q rfl (q04 rfl rfl (q9c _ _ _) rfl) (RD.mv rfl rfl rfl rfl (RD.look (want1 rfl rfl rfl h28) (q2b rfl) rfl rfl (RD.look (want1 rfl rfl rfl h28) (q2b rfl) rfl rfl (RD.look (want1 rfl rfl rfl h28) (q04 rfl rfl (ix_sub _ _ _) rfl) rfl rfl ?_)))))
 refine RD.look (u:=.ptr 0 t8 (0*2+(IntKind.i64.wrap (z17 - 1)).toNat*2)) (want1 rfl rfl rfl h28) (q1t rfl rfl (q7o cGArc und41 (q01 inf45) (by decide) q0e (vo rfl) h30)) rfl rfl ?_
 refine RD.look (u:=.ptr 0 t8 (0*2+(IntKind.i64.wrap (z17 - 1)).toNat*2+0)) (want1 rfl rfl rfl h28) (q0u und45 rfl (q01 inf3) rfl (qbn rfl) rfl) rfl rfl (RD.look (u:=.int .i64 x29.Feat) (want1 rfl rfl rfl h28) (ld_vf cGArc und3 rfl q0e rfl rfl (qah h30) rfl) rfl rfl (RD.look (want1 rfl rfl rfl h28) (q2b rfl) rfl rfl (RD.look (want1 rfl rfl rfl h28) (q2b rfl) rfl rfl (RD.look (u:=.iptr (cGArc x31)) (want1 rfl rfl rfl h28) (q1t rfl rfl (q2g cGArc und41 (q01 inf45) q0e h32 rfl)) rfl rfl (RD.look (u:=.iptr (cGArc x31)) (want1 rfl rfl rfl h28) (q68 und45 rfl (q01 inf3) rfl rfl) rfl rfl (RD.look (u:=.int .i64 x31.Feat) (want1 rfl rfl rfl h28) (q3h und3 rfl rfl rfl) rfl rfl (RD.look (want1 rfl rfl rfl h28) (q04 rfl rfl (q9c _ _ _) rfl) rfl rfl ?_)))))))
 refine RD.q (u:=.bool (decide (x29.Feat > x31.Feat))) rfl (q0r rfl h28 rfl) ?_
 refine RD.done ⟨by kernel_rfl,trivial,?_⟩
 refine st ?_
 exact ⟨_,_,⟨rfl,rfl⟩,(Nat.zero_le _),Gh.toC (n1:=1) ⟨rfl,rfl,rfl,rfl,rfl,trivial⟩ rfl (Nat.zero_le _) (by simp)⟩
 replace h34:=q0f h28 h34
 replace h34:=Option.some.inj h34
 subst h34
 refine WPU.drawE Try.tb_ok [] (by kernel_rfl) ?_
 refine RD.mv rfl rfl rfl rfl (RD.q rfl (q04 rfl rfl (q9c _ _ _) rfl) (RD.mv rfl rfl rfl rfl ?_))
 repeat refine RD.no (want0 rfl rfl rfl h28) rfl rfl ?_
 refine RD.q (u:=.bool false) rfl (q0p rfl h28 rfl) ?_
 refine RD.done ⟨by kernel_rfl,trivial,?_⟩
 refine st ?_
 exact ⟨_,_,⟨rfl,rfl⟩,(Nat.zero_le _),Gh.toC (n1:=1) ⟨rfl,rfl,rfl,rfl,rfl,trivial⟩ rfl (Nat.zero_le _) (by simp)⟩
 replace hF:=q0f h11 hF
 refine st ?_
 refine WPU.exit ?_
 refine st ?_
 exact ⟨_,_,⟨l7,t8,hF,rfl,rfl⟩,(Nat.zero_le _),Gh.toC (n1:=1) ⟨rfl,trivial⟩ rfl (Nat.zero_le _) (by simp)⟩
def q1z (z24:Int) (rc1:Int→(List Int)→(List Int)→Option ((List Int)×(List Int))) (l39:List Int) (l41:List Int):Option ((List Int)×(List Int)) :=
 rc1 (IntKind.i64.wrap (z24+1)) l39 l41
def q35  (l29:List Int) (l31:List Int):Option ((List Int)×(List Int)) :=
 some (l29,l31)
def q13 (p2:List GNode) (r12:List GArc) (self:Int→(List GNode)→(List Int)→(List Int)→Option ((List Int)×(List Int))):Nat→Int→(List Int)→(List Int)→Option ((List Int)×(List Int))
 | 0,_,_,_=>none
 | m1+1,z24,l25,l27 =>
  cond (decide (z24<(r12.length:Int)))
   (bindO (idxO r12 z24) fun x34 =>
   bindO (idxO l25 x34.To) fun x36 =>
   cond (decide (x36<0))
    (bindO (idxO r12 z24) fun x43 =>
    bindO (self x43.To p2 l25 l27) fun r45 =>
    q1z z24 (q13 p2 r12 self m1) r45.1 r45.2)
    (q1z z24 (q13 p2 r12 self m1) l25 l27))
   (q35 l25 l27)
def q3d (n:Nat) (self:Int→(List GNode)→(List Int)→(List Int)→Option ((List Int)×(List Int))) (p1:Int) (p2:List GNode) (p3:List Int) (p5:List Int):Option ((List Int)×(List Int)) :=
 bindO (idxO p3 p1) fun x7 =>
 needO ((p5.length+1)*8≤140737488355328∧p5.length+1≤140737488355328) (
 bindO (idxO p2 p1) fun x10 =>
 bindO (q5x n x10.Arcs) fun r12 =>
 q13 p2 r12 self n 0 (p3.set (0+p1.toNat) (p5.length:Int)) (p5++[p1]))
def q1d:Nat→Int→(List GNode)→(List Int)→(List Int)→Option ((List Int)×(List Int))
 | 0,_,_,_,_=>none
 | n+1,p1,p2,p3,p5=>q3d n (q1d n) p1 p2 p3 p5
theorem q5y:∀ (n:Nat) (p1:Int) (p2:List GNode) (p3:List Int) (p5:List Int) (r:(List Int)×(List Int)),q1d n p1 p2 p3 p5=some r→∀ t4 t6:Nat,EvU Try.prog 47 [.ptr 0 0 0,.int .i64 p1] ⟨[(0,.row [.isl false (List.map cGNode p2),.vl 1 t4 0 p3.length,.vl 2 t6 0 p5.length] 71),(1,.vec (List.map (cI .i64) p3).flatten 3 1 t4),(2,.vec (List.map (cI .i64) p5).flatten 3 1 t6)],3⟩ (fun u σ'=>∃ t:Nat→Nat,u = .tup []∧σ'=⟨[(0,.row [.isl false (List.map cGNode p2),.vl 1 (t 0) 0 r.1.length,.vl 2 (t 1) 0 r.2.length] 71),(1,.vec (List.map (cI .i64) r.1).flatten 3 1 (t 0)),(2,.vec (List.map (cI .i64) r.2).flatten 3 1 (t 1))],3⟩)
 | 0,p1,p2,p3,p5,r,hF=>by cases hF
 | n+1,p1,p2,p3,p5,r,hF=>by
  have ih:=q5y n
  unfold q1d q3d at hF
  intro t4 t6
  refine EvU.of_body Try.tb_ok fn47 rfl ?_
  refine WPU.ghost (tm':=fr 62 [(0,.ptr 0 0 0),(1,.int .i64 p1)]) (Gh.start (Nat.le_of_ble_eq_true rfl)) (Nat.le_refl _) ?_
  refine st ?_
  obtain ⟨x7,h8,hF⟩:=q00 hF
  refine WPU.joinK (fun tm σ=>tm=fr 62 [(0,.ptr 0 0 0),(1,.int .i64 p1)]∧σ=⟨[(0,.row [.isl false (List.map cGNode p2),.vl 1 t4 0 ((p3.set (0+p1.toNat) (p5.length:Int)).length),.vl 2 t6 0 p5.length] 71),(1,.vec (List.map (cI .i64) (p3.set (0+p1.toNat) (p5.length:Int))).flatten 3 1 t4),(2,.vec (List.map (cI .i64) p5).flatten 3 1 t6)],3⟩) ?_ ?_
  rintro _ _ ⟨rfl,rfl⟩
  refine st ?_
  obtain ⟨h9,hF⟩:=q1o hF
  refine sr ?_
  repeat refine RS.mv rfl rfl rfl rfl ?_
  refine RS.q (u:=.ptr 0 0 0) rfl (q7m rfl rfl) (RS.q (u:=.ptr 0 0 2) rfl (q0u und71 rfl (q01 inf55) rfl rfl rfl) (RS.q (u:=.vl 2 t6 0 p5.length) rfl (q06 und55 rfl rfl rfl rfl) (RS.mv rfl rfl rfl rfl (RS.q (u:=.sl 3 0 1 1) (σ':=⟨[(3,.row [.int .i64 p1] 3),(0,.row [.isl false (List.map cGNode p2),.vl 1 t4 0 ((p3.set (0+p1.toNat) (p5.length:Int)).length),.vl 2 t6 0 p5.length] 71),(1,.vec (List.map (cI .i64) (p3.set (0+p1.toNat) (p5.length:Int))).flatten 3 1 t4),(2,.vec (List.map (cI .i64) p5).flatten 3 1 t6)],4⟩) rfl (q26 und55 inf3 rfl rfl rfl rfl rfl rfl rfl) (RS.q (u:=.vl 2 (t6+1) 0 ((p5++[p1]).length)) (σ':=⟨[(3,.row [.int .i64 p1] 3),(0,.row [.isl false (List.map cGNode p2),.vl 1 t4 0 ((p3.set (0+p1.toNat) (p5.length:Int)).length),.vl 2 t6 0 p5.length] 71),(1,.vec (List.map (cI .i64) (p3.set (0+p1.toNat) (p5.length:Int))).flatten 3 1 t4),(2,.vec (List.map (cI .i64) (p5++[p1])).flatten 3 1 (t6+1))],4⟩) rfl (q7x rfl rfl rfl rfl (q8j (cI .i64) ([p1]) und55 und55 inf3 rfl (q52 .i64) rfl (q7h (cI .i64) [p1] rfl rfl rfl rfl) h9)) (RS.q (u:=.ptr 0 0 0) rfl (q7m rfl rfl) (RS.q (u:=.ptr 0 0 2) rfl (q0u und71 rfl (q01 inf55) rfl rfl rfl) ?_)))))))
  refine RS.opn (u:=.junk) (σ':=⟨[(3,.row [.int .i64 p1] 3),(0,.row [.isl false (List.map cGNode p2),.vl 1 t4 0 ((p3.set (0+p1.toNat) (p5.length:Int)).length),.vl 2 (t6+1) 0 ((p5++[p1]).length)] 71),(1,.vec (List.map (cI .i64) (p3.set (0+p1.toNat) (p5.length:Int))).flatten 3 1 t4),(2,.vec (List.map (cI .i64) (p5++[p1])).flatten 3 1 (t6+1))],4⟩) rfl (q0s (q01 inf55) rfl rfl rfl rfl rfl rfl rfl rfl) rfl ?_
  refine sd ?_
  obtain ⟨x10,h11,hF⟩:=q00 hF
  obtain ⟨r12,h13,hF⟩:=q00 hF
  refine sr ?_
  refine RS.q (u:=.ptr 0 0 0) rfl (q7m rfl rfl) (RS.q (u:=.ptr 0 0 0) rfl (q0u und71 rfl (q01 inf25) rfl rfl rfl) (RS.q (u:=.ptr 0 0 0) rfl (q0u und25 rfl (q01 inf23) rfl rfl rfl) (RS.q (u:=.isl false (List.map cGNode p2)) rfl (q06 und23 rfl rfl rfl rfl) (RS.mv rfl rfl rfl rfl (RS.q (u:=.iptr (cGNode x10)) rfl (q1t rfl rfl (q2g cGNode und23 (q01 inf43) q1b h11 rfl)) (RS.q (u:=.iptr [.isl false (List.map cGArc x10.Arcs)]) rfl (q68 und43 rfl (q01 inf41) rfl rfl) (RS.q (u:=.isl false (List.map cGArc x10.Arcs)) rfl (q3h und41 rfl rfl rfl) ?_)))))))
  refine RS.callx (R:=fun u σ'=>∃ t14,u = .vl 4 t14 0 r12.length∧σ'=⟨[(4,.vec (List.map cGArc r12).flatten 45 2 t14),(3,.row [.int .i64 p1] 3),(0,.row [.isl false (List.map cGNode p2),.vl 1 t4 0 ((p3.set (0+p1.toNat) (p5.length:Int)).length),.vl 2 (t6+1) 0 ((p5++[p1]).length)] 71),(1,.vec (List.map (cI .i64) (p3.set (0+p1.toNat) (p5.length:Int))).flatten 3 1 t4),(2,.vec (List.map (cI .i64) (p5++[p1])).flatten 3 1 (t6+1))],5⟩) (args:=[.isl false (List.map cGArc x10.Arcs)]) rfl (q02 rfl rfl fn48 hb48 rfl rfl) (EvU.own1 cGArc (q8o n x10.Arcs r12 h13) _ 4 rfl) rfl rfl ?_
  rintro _ _ ⟨t14,rfl,rfl⟩
  refine se ?_
  refine sd ?_
  refine WPU.ghost (tm':=fr 62 [(0,.ptr 0 0 0),(4,.vl 4 t14 0 r12.length),(5,.int .i64 0)]) (Gh.sub ⟨rfl,rfl,rfl,trivial⟩) (Nat.le_of_ble_eq_true rfl) ?_
  refine WPU.loopK (fun m tm σ=>∃ z24:Int,∃ l25:List Int,∃ t26:Nat,∃ l27:List Int,∃ t28:Nat,q13 p2 r12 (q1d n) m z24 l25 l27=some r∧tm=fr 62 [(0,.ptr 0 0 0),(4,.vl 4 t14 0 r12.length),(5,.int .i64 z24)]∧σ=⟨[(4,.vec (List.map cGArc r12).flatten 45 2 t14),(3,.row [.int .i64 p1] 3),(0,.row [.isl false (List.map cGNode p2),.vl 1 t26 0 l25.length,.vl 2 t28 0 l27.length] 71),(1,.vec (List.map (cI .i64) l25).flatten 3 1 t26),(2,.vec (List.map (cI .i64) l27).flatten 3 1 t28)],5⟩) (fun tm σ=>∃ l29:List Int,∃ t30:Nat,∃ l31:List Int,∃ t32:Nat,q35 l29 l31=some r∧tm=fr 62 []∧σ=⟨[(4,.vec (List.map cGArc r12).flatten 45 2 t14),(3,.row [.int .i64 p1] 3),(0,.row [.isl false (List.map cGNode p2),.vl 1 t30 0 l29.length,.vl 2 t32 0 l31.length] 71),(1,.vec (List.map (cI .i64) l29).flatten 3 1 t30),(2,.vec (List.map (cI .i64) l31).flatten 3 1 t32)],5⟩) n ⟨0,(p3.set (0+p1.toNat) (p5.length:Int)),t4,(p5++[p1]),(t6+1),hF,rfl,rfl⟩ ?_ ?_
  rintro _ _ ⟨l29,t30,l31,t32,hF,rfl,rfl⟩
  unfold q35 at hF
  refine st ?_
  have hr:=Option.some.inj hF
  subst hr
  exact ⟨.inl rfl,[],q1e,.tup [],⟨[(0,.row [.isl false (List.map cGNode p2),.vl 1 t30 0 l29.length,.vl 2 t32 0 l31.length] 71),(1,.vec (List.map (cI .i64) l29).flatten 3 1 t30),(2,.vec (List.map (cI .i64) l31).flatten 3 1 t32)],3⟩,(Nat.le_of_ble_eq_true rfl),Gh.to (n1:=3) [] rfl rfl (Nat.le_of_ble_eq_true rfl) (Nat.le_of_ble_eq_true rfl) BUL.h BH.h,stF [t30,t32],rfl,rfl⟩
  rintro m1 _ _ ⟨z24,l25,t26,l27,t28,hF,rfl,rfl⟩
  rcases m1 with _ | m1
  cases hF
  unfold q13 at hF
  refine sr ?_
  repeat refine RS.mv rfl rfl rfl rfl ?_
  refine RS.q rfl (q10 rfl rfl rfl (q6z und41 rfl)) (RS.q rfl (q04 rfl rfl (q1n _ _ _) rfl) ?_)
  refine sd ?_
  refine WPU.condS (t:=(decide (z24<(r12.length:Int)))) rfl (fun h33=>?_) (fun h33=>?_)
  replace hF:=q0g h33 hF
  refine st ?_
  refine WPU.skip ?_
  refine st ?_
  refine WPU.block ?_
  refine st ?_
  obtain ⟨x34,h35,hF⟩:=q00 hF
  obtain ⟨x36,h37,hF⟩:=q00 hF
  refine WPU.drawE Try.tb_ok [] (by kernel_rfl) ?_
  refine RD.mv rfl rfl rfl rfl (RD.q (u:=.ptr 0 0 0) rfl (q7m rfl rfl) (RD.q (u:=.ptr 0 0 1) rfl (q0u und71 rfl (q01 inf55) rfl rfl rfl) (RD.q (u:=.vl 1 t26 0 l25.length) rfl (q06 und55 rfl rfl rfl rfl) ?_)))
  repeat refine RD.mv rfl rfl rfl rfl ?_
  refine RD.q (u:=.ptr 4 t14 (0*2+z24.toNat*2)) rfl (q1t rfl rfl (q7o cGArc und41 (q01 inf45) (by decide) q0e (vo rfl) h35)) ?_
  refine RD.q (u:=.ptr 4 t14 (0*2+z24.toNat*2+1)) rfl (q0u und45 rfl (q01 inf3) rfl (qbn rfl) rfl) (RD.q (u:=.int .i64 x34.To) rfl (ld_vf cGArc und3 rfl q0e rfl rfl (qah h35) rfl) ?_)
  refine RD.q (u:=.ptr 1 t26 (0*1+x34.To.toNat*1)) rfl (q1t rfl rfl (q7o (cI .i64) und55 (q01 inf3) (by decide) (q52 .i64) (vo rfl) h37)) ?_
  refine RD.q (u:=.int .i64 x36) rfl (q79 (cI .i64) (fun x=>.int .i64 x) und3 rfl (fun _=>rfl) rfl rfl h37) (RD.q rfl (q04 rfl rfl (q1n _ _ _) rfl) ?_)
  refine RD.done ⟨by kernel_rfl,trivial,?_⟩
  refine st ?_
  refine WPU.joinK (fun tm σ=>∃ l39:List Int,∃ t40:Nat,∃ l41:List Int,∃ t42:Nat,q1z z24 (q13 p2 r12 (q1d n) m1) l39 l41=some r∧tm=fr 62 [(0,.ptr 0 0 0),(4,.vl 4 t14 0 r12.length),(5,.int .i64 z24)]∧σ=⟨[(4,.vec (List.map cGArc r12).flatten 45 2 t14),(3,.row [.int .i64 p1] 3),(0,.row [.isl false (List.map cGNode p2),.vl 1 t40 0 l39.length,.vl 2 t42 0 l41.length] 71),(1,.vec (List.map (cI .i64) l39).flatten 3 1 t40),(2,.vec (List.map (cI .i64) l41).flatten 3 1 t42)],5⟩) ?_ ?_
  rintro _ _ ⟨l39,t40,l41,t42,hF,rfl,rfl⟩
  unfold q1z at hF
  refine sr ?_
  refine RS.q rfl (q04 rfl rfl (q2y _ _ _) rfl) ?_
  refine sd ?_
  exact ⟨m1,_,_,Nat.lt_succ_self _,⟨(IntKind.i64.wrap (z24+1)),l39,t40,l41,t42,hF,rfl,rfl⟩,(Nat.le_of_ble_eq_true rfl),Gh.toC (n1:=5) ⟨rfl,rfl,rfl,trivial⟩ rfl (Nat.le_of_ble_eq_true rfl) (by simp)⟩
  refine WPU.condS (t:=(decide (x36<0))) rfl (fun h38=>?_) (fun h38=>?_)
  replace hF:=q0g h38 hF
  refine st ?_
  obtain ⟨x43,h44,hF⟩:=q00 hF
  obtain ⟨r45,h46,hF⟩:=q00 hF
  refine sr ?_
  repeat refine RS.mv rfl rfl rfl rfl ?_
  refine RS.q (u:=.ptr 4 t14 (0*2+z24.toNat*2)) rfl (q1t rfl rfl (q7o cGArc und41 (q01 inf45) (by decide) q0e (vo rfl) h44)) ?_
  refine RS.q (u:=.ptr 4 t14 (0*2+z24.toNat*2+1)) rfl (q0u und45 rfl (q01 inf3) rfl (qbn rfl) rfl) (RS.q (u:=.int .i64 x43.To) rfl (ld_vf cGArc und3 rfl q0e rfl rfl (qah h44) rfl) ?_)
  refine RS.callx (R:=fun u σ'=>∃ t47:Nat→Nat,u = .tup []∧σ'=⟨[(4,.vec (List.map cGArc r12).flatten 45 2 t14),(3,.row [.int .i64 p1] 3),(0,.row [.isl false (List.map cGNode p2),.vl 1 (t47 0) 0 r45.1.length,.vl 2 (t47 1) 0 r45.2.length] 71),(1,.vec (List.map (cI .i64) r45.1).flatten 3 1 (t47 0)),(2,.vec (List.map (cI .i64) r45.2).flatten 3 1 (t47 1))],5⟩) (args:=[.ptr 0 0 0,.int .i64 x43.To]) rfl (q02 rfl rfl fn47 hb47 rfl rfl) (EvU.st [0,1,2] (ih x43.To p2 l25 l27 r45 h46 t26 t28)) rfl rfl ?_
  rintro _ _ ⟨t47,rfl,rfl⟩
  refine sd ?_
  exact ⟨_,_,⟨r45.1,(t47 0),r45.2,(t47 1),hF,rfl,rfl⟩,(Nat.le_of_ble_eq_true rfl),Gh.toC (n1:=5) ⟨rfl,rfl,rfl,trivial⟩ rfl (Nat.le_of_ble_eq_true rfl) (by simp)⟩
  replace hF:=q0f h38 hF
  refine st ?_
  refine WPU.skip ?_
  refine st ?_
  exact ⟨_,_,⟨l25,t26,l27,t28,hF,rfl,rfl⟩,(Nat.le_of_ble_eq_true rfl),Gh.toC (n1:=5) ⟨rfl,rfl,rfl,trivial⟩ rfl (Nat.le_of_ble_eq_true rfl) (by simp)⟩
  replace hF:=q0f h33 hF
  refine st ?_
  refine WPU.exit ?_
  refine st ?_
  exact ⟨_,_,⟨l25,t26,l27,t28,hF,rfl,rfl⟩,(Nat.le_of_ble_eq_true rfl),Gh.toC (n1:=5) trivial rfl (Nat.le_of_ble_eq_true rfl) (by simp)⟩
  refine WPU.drawE Try.tb_ok [] (by kernel_rfl) ?_
  refine RD.mv rfl rfl rfl rfl (RD.q (u:=.ptr 0 0 0) rfl (q7m rfl rfl) (RD.q (u:=.ptr 0 0 1) rfl (q0u und71 rfl (q01 inf55) rfl rfl rfl) (RD.q (u:=.vl 1 t4 0 p3.length) rfl (q06 und55 rfl rfl rfl rfl) ?_)))
  repeat refine RD.mv rfl rfl rfl rfl ?_
  refine RD.q (u:=.ptr 0 0 0) rfl (q7m rfl rfl) (RD.q (u:=.ptr 0 0 2) rfl (q0u und71 rfl (q01 inf55) rfl rfl rfl) (RD.q (u:=.vl 2 t6 0 p5.length) rfl (q06 und55 rfl rfl rfl rfl) (RD.q rfl (q10 rfl rfl rfl (q6z und55 rfl)) ?_)))
  refine RD.q (u:=.ptr 1 t4 (0*1+p1.toNat*1)) rfl (q1t rfl rfl (q7o (cI .i64) und55 (q01 inf3) (by decide) (q52 .i64) (vo rfl) h8)) ?_
  refine RD.actn (u:=.junk) (σ':=⟨[(0,.row [.isl false (List.map cGNode p2),.vl 1 t4 0 p3.length,.vl 2 t6 0 p5.length] 71),(1,.vec (List.map (cI .i64) (p3.set (0+p1.toNat) (p5.length:Int))).flatten 3 1 t4),(2,.vec (List.map (cI .i64) p5).flatten 3 1 t6)],3⟩) rfl (st_vp (cI .i64) (q01 inf3) (q52 .i64) rfl rfl rfl rfl rfl rfl rfl (qah h8) rfl) rfl ?_
  refine RD.done ⟨by kernel_rfl,trivial,?_⟩
  refine st ?_
  exact ⟨_,_,⟨rfl,rfl⟩,(Nat.le_of_ble_eq_true rfl),Gh.eqS ⟨rfl,rfl,trivial⟩ (by simp only [List.length_set])⟩
def q56 (z26:Int) (l27:List GNode) (rc2:Int→(List GNode)→Option (GFS)) (x34:GNode) (l55:List GArc):Option (GFS) :=
 needO ((l27.length+1)*32≤140737488355328∧l27.length+1≤140737488355328) (
 rc2 (IntKind.i64.wrap (z26+1)) (l27++[(GNode.mk x34.Typex l55)]))
def q3s (r14:(List Int)×(List Int)) (z26:Int) (l27:List GNode) (rc2:Int→(List GNode)→Option (GFS)) (x34:GNode):Nat→Int→(List GArc)→Option (GFS)
 | 0,_,_=>none
 | m3+1,z53,l54 =>
  cond (decide (z53<(l54.length:Int)))
   (bindO (idxO l54 z53) fun x58 =>
   bindO (idxO r14.1 x58.To) fun x60 =>
   bindO (idxO l54 z53) fun x62 =>
   (q3s r14 z26 l27 rc2 x34 m3) (IntKind.i64.wrap (z53+1)) (l54.set (0+z53.toNat) (GArc.mk x62.Feat x60)))
   (q56 z26 l27 rc2 x34 l54)
def q69  (l29:List GNode):Option (GFS) :=
 some (GFS.mk l29)
def q2u (p1:GFS) (n:Nat) (r14:(List Int)×(List Int)):Nat→Int→(List GNode)→Option (GFS)
 | 0,_,_=>none
 | m2+1,z26,l27 =>
  cond (decide (z26<(r14.2.length:Int)))
   (bindO (idxO r14.2 z26) fun x32 =>
   bindO (idxO p1.Nodes x32) fun x34 =>
   bindO (q5x n x34.Arcs) fun r36 =>
   q3s r14 z26 l27 (q2u p1 n r14 m2) x34 n 0 r36)
   (q69 l27)
def q55 (p1:GFS) (p2:Int) (n:Nat) (l12:List Int):Option (GFS) :=
 bindO (q1d n p2 p1.Nodes l12 ([]:List Int)) fun r14 =>
 q2u p1 n r14 n 0 ([]:List GNode)
def q4d (p1:GFS) (p2:Int) (n:Nat):Nat→Int→(List Int)→Option (GFS)
 | 0,_,_=>none
 | m1+1,z9,l10 =>
  cond (decide (z9<(p1.Nodes.length:Int)))
   (needO ((l10.length+1)*8≤140737488355328∧l10.length+1≤140737488355328) (
   (q4d p1 p2 n m1) (IntKind.i64.wrap (z9+1)) (l10++[(-1)])))
   (q55 p1 p2 n l10)
def q5i (n:Nat) (p1:GFS) (p2:Int):Option (GFS) :=
 q4d p1 p2 n n 0 ([]:List Int)
theorem ref07_From_0 (n:Nat) (p1:GFS) (p2:Int) (r:GFS) (hF:q5i n p1 p2=some r):EvU Try.prog 34 [.agg [.isl false (List.map cGNode p1.Nodes)],.int .i64 p2] ⟨[],0⟩ (fun u _=>u = .agg [.isl false (List.map cGNode r.Nodes)]∧Bel 0 u):=by
 unfold q5i at hF
 refine EvU.of_body Try.tb_ok fn34 rfl ?_
 refine WPU.ghost (tm':=fr 88 [(0,.agg [.isl false (List.map cGNode p1.Nodes)]),(1,.int .i64 p2)]) (Gh.start (Nat.le_of_ble_eq_true rfl)) (Nat.zero_le _) ?_
 refine sr ?_
 refine RS.q (u:=.ptr 0 0 0) (σ':=⟨[(0,.row [.isl false (List.map cGNode p1.Nodes)] 25)],1⟩) rfl (q2z rfl rfl rfl) (RS.q (u:=.ptr 1 0 0) (σ':=⟨[(1,.row [.nils] 25),(0,.row [.isl false (List.map cGNode p1.Nodes)] 25)],2⟩) rfl (q15 inf25 rfl rfl) ?_)
 refine se ?_
 refine RS.q (u:=.agg [.isl false (List.map cGNode p1.Nodes)]) rfl (q0q und25 rfl (q01 inf25) rfl rfl rfl) (RS.q (u:=.agg [.isl false (List.map cGNode p1.Nodes),.nils,.nils]) rfl (q6q bd71 rfl rfl rfl) (RS.q (u:=.ptr 2 0 0) (σ':=⟨[(2,.row [.isl false (List.map cGNode p1.Nodes),.nils,.nils] 71),(1,.row [.nils] 25),(0,.row [.isl false (List.map cGNode p1.Nodes)] 25)],3⟩) rfl (q2z rfl rfl rfl) ?_))
 refine se ?_
 refine sd ?_
 refine WPU.ghost (tm':=fr 88 [(1,.int .i64 p2),(2,.ptr 0 0 0),(4,.ptr 1 0 0),(5,.ptr 2 0 0),(6,.int .i64 0)]) (σ':=⟨[(3,.vec (List.map (cI .i64) ([]:List Int)).flatten 3 1 0),(2,.row [.isl false (List.map cGNode p1.Nodes),.vl 3 0 0 (([]:List Int).length),.nils] 71),(1,.row [.nils] 25),(0,.row [.isl false (List.map cGNode p1.Nodes)] 25)],4⟩) (Gh.trans (Gh.nilC 2 1 3 1 (by decide) (Nat.zero_le _) rfl rfl) (Gh.eqS ⟨rfl,rfl,rfl,rfl,rfl,trivial⟩ rfl)) (Nat.zero_le _) ?_
 refine WPU.ghost (tm':=fr 88 [(1,.int .i64 p2),(2,.ptr 0 0 0),(4,.ptr 1 0 0),(5,.ptr 2 0 0),(6,.int .i64 0)]) (Gh.sub ⟨rfl,rfl,rfl,rfl,rfl,trivial⟩) (Nat.zero_le _) ?_
 refine WPU.loopK (fun m tm σ=>∃ z9:Int,∃ l10:List Int,∃ t11:Nat,q4d p1 p2 n m z9 l10=some r∧tm=fr 88 [(1,.int .i64 p2),(2,.ptr 0 0 0),(4,.ptr 1 0 0),(5,.ptr 2 0 0),(6,.int .i64 z9)]∧σ=⟨[(3,.vec (List.map (cI .i64) l10).flatten 3 1 t11),(2,.row [.isl false (List.map cGNode p1.Nodes),.vl 3 t11 0 l10.length,.nils] 71),(1,.row [.nils] 25),(0,.row [.isl false (List.map cGNode p1.Nodes)] 25)],4⟩) (fun tm σ=>∃ l12:List Int,∃ t13:Nat,q55 p1 p2 n l12=some r∧tm=fr 88 [(1,.int .i64 p2),(2,.ptr 0 0 0),(4,.ptr 1 0 0),(5,.ptr 2 0 0)]∧σ=⟨[(3,.vec (List.map (cI .i64) l12).flatten 3 1 t13),(2,.row [.isl false (List.map cGNode p1.Nodes),.vl 3 t13 0 l12.length,.nils] 71),(1,.row [.nils] 25),(0,.row [.isl false (List.map cGNode p1.Nodes)] 25)],4⟩) n ⟨0,([]:List Int),0,hF,rfl,rfl⟩ ?_ ?_
 rintro _ _ ⟨l12,t13,hF,rfl,rfl⟩
 unfold q55 at hF
 refine st ?_
 refine WPU.ghost (tm':=fr 88 [(1,.int .i64 p2),(2,.ptr 0 0 0),(4,.ptr 1 0 0),(5,.ptr 2 0 0)]) (σ':=⟨[(4,.vec (List.map (cI .i64) ([]:List Int)).flatten 3 1 0),(3,.vec (List.map (cI .i64) l12).flatten 3 1 t13),(2,.row [.isl false (List.map cGNode p1.Nodes),.vl 3 t13 0 l12.length,.vl 4 0 0 (([]:List Int).length)] 71),(1,.row [.nils] 25),(0,.row [.isl false (List.map cGNode p1.Nodes)] 25)],5⟩) (Gh.trans (Gh.nilC 2 2 3 1 (by decide) (Nat.zero_le _) rfl rfl) (Gh.eqS ⟨rfl,rfl,rfl,rfl,trivial⟩ rfl)) (Nat.zero_le _) ?_
 refine st ?_
 obtain ⟨r14,h15,hF⟩:=q00 hF
 refine sr ?_
 repeat refine RS.mv rfl rfl rfl rfl ?_
 refine RS.callx (R:=fun u σ'=>∃ t16:Nat→Nat,u = .tup []∧σ'=⟨[(4,.vec (List.map (cI .i64) r14.2).flatten 3 1 (t16 1)),(3,.vec (List.map (cI .i64) r14.1).flatten 3 1 (t16 0)),(2,.row [.isl false (List.map cGNode p1.Nodes),.vl 3 (t16 0) 0 r14.1.length,.vl 4 (t16 1) 0 r14.2.length] 71),(1,.row [.nils] 25),(0,.row [.isl false (List.map cGNode p1.Nodes)] 25)],5⟩) (args:=[.ptr 2 0 0,.int .i64 p2]) rfl (q02 rfl rfl fn47 hb47 rfl rfl) (EvU.st [2,3,4] (q5y n p2 p1.Nodes l12 ([]:List Int) r14 h15 t13 0)) rfl rfl ?_
 rintro _ _ ⟨t16,rfl,rfl⟩
 refine se ?_
 refine RS.q (u:=.ptr 5 0 0) (σ':=⟨[(5,.row [.nils] 25),(4,.vec (List.map (cI .i64) r14.2).flatten 3 1 (t16 1)),(3,.vec (List.map (cI .i64) r14.1).flatten 3 1 (t16 0)),(2,.row [.isl false (List.map cGNode p1.Nodes),.vl 3 (t16 0) 0 r14.1.length,.vl 4 (t16 1) 0 r14.2.length] 71),(1,.row [.nils] 25),(0,.row [.isl false (List.map cGNode p1.Nodes)] 25)],6⟩) rfl (q15 inf25 rfl rfl) ?_
 refine se ?_
 refine sd ?_
 refine WPU.ghost (tm':=fr 88 [(2,.ptr 0 0 0),(4,.ptr 1 0 0),(5,.ptr 2 0 0),(7,.ptr 5 0 0),(8,.int .i64 0)]) (σ':=⟨[(6,.vec (List.map cGNode ([]:List GNode)).flatten 43 2 0),(5,.row [.vl 6 0 0 (([]:List GNode).length)] 25),(4,.vec (List.map (cI .i64) r14.2).flatten 3 1 (t16 1)),(3,.vec (List.map (cI .i64) r14.1).flatten 3 1 (t16 0)),(2,.row [.isl false (List.map cGNode p1.Nodes),.vl 3 (t16 0) 0 r14.1.length,.vl 4 (t16 1) 0 r14.2.length] 71),(1,.row [.nils] 25),(0,.row [.isl false (List.map cGNode p1.Nodes)] 25)],7⟩) (Gh.trans (Gh.nilC 5 0 43 2 (by decide) (Nat.zero_le _) rfl rfl) (Gh.eqS ⟨rfl,rfl,rfl,rfl,rfl,trivial⟩ rfl)) (Nat.zero_le _) ?_
 refine WPU.ghost (tm':=fr 88 [(2,.ptr 0 0 0),(4,.ptr 1 0 0),(5,.ptr 2 0 0),(7,.ptr 5 0 0),(8,.int .i64 0)]) (Gh.sub ⟨rfl,rfl,rfl,rfl,rfl,trivial⟩) (Nat.zero_le _) ?_
 refine WPU.loopK (fun m tm σ=>∃ z26:Int,∃ l27:List GNode,∃ t28:Nat,q2u p1 n r14 m z26 l27=some r∧tm=fr 88 [(2,.ptr 0 0 0),(4,.ptr 1 0 0),(5,.ptr 2 0 0),(7,.ptr 5 0 0),(8,.int .i64 z26)]∧σ=⟨[(6,.vec (List.map cGNode l27).flatten 43 2 t28),(5,.row [.vl 6 t28 0 l27.length] 25),(4,.vec (List.map (cI .i64) r14.2).flatten 3 1 (t16 1)),(3,.vec (List.map (cI .i64) r14.1).flatten 3 1 (t16 0)),(2,.row [.isl false (List.map cGNode p1.Nodes),.vl 3 (t16 0) 0 r14.1.length,.vl 4 (t16 1) 0 r14.2.length] 71),(1,.row [.nils] 25),(0,.row [.isl false (List.map cGNode p1.Nodes)] 25)],7⟩) (fun tm σ=>∃ l29:List GNode,∃ t30:Nat,q69 l29=some r∧tm=fr 88 [(4,.ptr 1 0 0),(7,.ptr 5 0 0)]∧σ=⟨[(6,.vec (List.map cGNode l29).flatten 43 2 t30),(5,.row [.vl 6 t30 0 l29.length] 25),(4,.vec (List.map (cI .i64) r14.2).flatten 3 1 (t16 1)),(3,.vec (List.map (cI .i64) r14.1).flatten 3 1 (t16 0)),(2,.row [.isl false (List.map cGNode p1.Nodes),.vl 3 (t16 0) 0 r14.1.length,.vl 4 (t16 1) 0 r14.2.length] 71),(1,.row [.nils] 25),(0,.row [.isl false (List.map cGNode p1.Nodes)] 25)],7⟩) n ⟨0,([]:List GNode),0,hF,rfl,rfl⟩ ?_ ?_
 rintro _ _ ⟨l29,t30,hF,rfl,rfl⟩
 unfold q69 at hF
 refine sr ?_
 refine RS.q (u:=.agg [.vl 6 t30 0 l29.length]) rfl (q0q und25 rfl (q01 inf25) rfl rfl rfl) (RS.opn (u:=.junk) (σ':=⟨[(6,.vec (List.map cGNode l29).flatten 43 2 t30),(5,.row [.vl 6 t30 0 l29.length] 25),(4,.vec (List.map (cI .i64) r14.2).flatten 3 1 (t16 1)),(3,.vec (List.map (cI .i64) r14.1).flatten 3 1 (t16 0)),(2,.row [.isl false (List.map cGNode p1.Nodes),.vl 3 (t16 0) 0 r14.1.length,.vl 4 (t16 1) 0 r14.2.length] 71),(1,.row [.vl 6 t30 0 l29.length] 25),(0,.row [.isl false (List.map cGNode p1.Nodes)] 25)],7⟩) rfl (q0s (q01 inf25) rfl rfl rfl rfl rfl rfl rfl rfl) rfl ?_)
 refine sd ?_
 refine WPU.ret ?_
 refine st ?_
 have hr:=Option.some.inj hF
 subst hr
 exact ⟨.inr rfl,[.agg [.vl 6 t30 0 l29.length]],qa9 (q0q und25 rfl (q01 inf25) rfl rfl rfl) (q1e),.agg [.isl false (List.map cGNode l29)],⟨[],0⟩,Nat.le_refl _,Gh.trans (Gh.fz (tm':=[.agg [.isl false (List.map cGNode l29)]]) (h':=[(5,.row [.isl false (List.map cGNode l29)] 25),(4,.vec (List.map (cI .i64) r14.2).flatten 3 1 (t16 1)),(3,.vec (List.map (cI .i64) r14.1).flatten 3 1 (t16 0)),(2,.row [.isl false (List.map cGNode p1.Nodes),.vl 3 (t16 0) 0 r14.1.length,.vl 4 (t16 1) 0 r14.2.length] 71),(1,.row [.isl false (List.map cGNode l29)] 25),(0,.row [.isl false (List.map cGNode p1.Nodes)] 25)]) 6 (.vec (List.map cGNode l29).flatten 43 2 t30) 2 rfl (by simp) (by simp only [oneU,q07,q03,q0k,q09,q0n,q0d,q0c,q0b,q0a,q08,q0l,q0m,q0j,q0o,q1j,junkT,fz_vl q1b,q38 (show Nat.beq 3 6=false from rfl),q37 (show Nat.beq 3 6=false from rfl),q36 (show Nat.beq 3 6=false from rfl),q38 (show Nat.beq 4 6=false from rfl),q37 (show Nat.beq 4 6=false from rfl),q36 (show Nat.beq 4 6=false from rfl),q2l _ _ _ (q2m 6 (fun q=>q7j _ .i64 q) r14.2),q2l _ _ _ (q2m 6 (fun q=>q7j _ .i64 q) r14.1)]) (by simp only [fzH,fzB,ug,Nat.beq,cond_true,cond_false,oneU,q07,q03,q0k,q09,q0n,q0d,q0c,q0b,q0a,q08,q0l,q0m,q0j,q0o,q1j,junkT,fz_vl q1b,q38 (show Nat.beq 3 6=false from rfl),q37 (show Nat.beq 3 6=false from rfl),q36 (show Nat.beq 3 6=false from rfl),q38 (show Nat.beq 4 6=false from rfl),q37 (show Nat.beq 4 6=false from rfl),q36 (show Nat.beq 4 6=false from rfl),q2l _ _ _ (q2m 6 (fun q=>q7j _ .i64 q) r14.2),q2l _ _ _ (q2m 6 (fun q=>q7j _ .i64 q) r14.1)])) (Gh.toR (.agg [.isl false (List.map cGNode l29)]) rfl),rfl,BU.h⟩
 rintro m2 _ _ ⟨z26,l27,t28,hF,rfl,rfl⟩
 rcases m2 with _ | m2
 cases hF
 unfold q2u at hF
 refine sr ?_
 repeat refine RS.mv rfl rfl rfl rfl ?_
 refine RS.q (u:=.ptr 2 0 0) rfl (q7m rfl rfl) (RS.q (u:=.ptr 2 0 2) rfl (q0u und71 rfl (q01 inf55) rfl rfl rfl) (RS.q (u:=.vl 4 (t16 1) 0 r14.2.length) rfl (q06 und55 rfl rfl rfl rfl) (RS.q rfl (q10 rfl rfl rfl (q6z und55 rfl)) (RS.q rfl (q04 rfl rfl (q1n _ _ _) rfl) ?_))))
 refine sd ?_
 refine WPU.condS (t:=(decide (z26<(r14.2.length:Int)))) rfl (fun h31=>?_) (fun h31=>?_)
 replace hF:=q0g h31 hF
 refine st ?_
 refine WPU.skip ?_
 refine st ?_
 refine WPU.block ?_
 refine st ?_
 obtain ⟨x32,h33,hF⟩:=q00 hF
 obtain ⟨x34,h35,hF⟩:=q00 hF
 refine WPU.drawE Try.tb_ok [(0,11),(1,11),(2,11),(3,11),(4,11),(5,11),(6,11),(7,11),(8,11),(9,11),(10,11)] (by kernel_rfl) ?_
 refine RD.q (u:=.ptr 0 0 0) rfl (q0u und25 rfl (q01 inf23) rfl rfl rfl) (RD.q (u:=.isl false (List.map cGNode p1.Nodes)) rfl (q06 und23 rfl rfl rfl rfl) (RD.mv rfl rfl rfl rfl (RD.q (u:=.ptr 2 0 0) rfl (q7m rfl rfl) (RD.q (u:=.ptr 2 0 2) rfl (q0u und71 rfl (q01 inf55) rfl rfl rfl) (RD.q (u:=.vl 4 (t16 1) 0 r14.2.length) rfl (q06 und55 rfl rfl rfl rfl) (RD.mv rfl rfl rfl rfl ?_))))))
 refine RD.q (u:=.ptr 4 (t16 1) (0*1+z26.toNat*1)) rfl (q1t rfl rfl (q7o (cI .i64) und55 (q01 inf3) (by decide) (q52 .i64) (vo rfl) h33)) ?_
 refine RD.q (u:=.int .i64 x32) rfl (q79 (cI .i64) (fun x=>.int .i64 x) und3 rfl (fun _=>rfl) rfl rfl h33) (RD.q (u:=.iptr (cGNode x34)) rfl (q1t rfl rfl (q2g cGNode und23 (q01 inf43) q1b h35 rfl)) (RD.q (u:=.agg (cGNode x34)) rfl (q7s und43 rfl (q01 inf43) rfl rfl) (RD.act (u:=.ptr 7 0 0) (σ':=⟨[(7,.row [.int .i64 0,.nils] 43),(6,.vec (List.map cGNode l27).flatten 43 2 t28),(5,.row [.vl 6 t28 0 l27.length] 25),(4,.vec (List.map (cI .i64) r14.2).flatten 3 1 (t16 1)),(3,.vec (List.map (cI .i64) r14.1).flatten 3 1 (t16 0)),(2,.row [.isl false (List.map cGNode p1.Nodes),.vl 3 (t16 0) 0 r14.1.length,.vl 4 (t16 1) 0 r14.2.length] 71),(1,.row [.nils] 25),(0,.row [.isl false (List.map cGNode p1.Nodes)] 25)],8⟩) rfl (q15 inf43 rfl rfl) rfl rfl (RD.actn (u:=.junk) (σ':=⟨[(7,.row (cGNode x34) 43),(6,.vec (List.map cGNode l27).flatten 43 2 t28),(5,.row [.vl 6 t28 0 l27.length] 25),(4,.vec (List.map (cI .i64) r14.2).flatten 3 1 (t16 1)),(3,.vec (List.map (cI .i64) r14.1).flatten 3 1 (t16 0)),(2,.row [.isl false (List.map cGNode p1.Nodes),.vl 3 (t16 0) 0 r14.1.length,.vl 4 (t16 1) 0 r14.2.length] 71),(1,.row [.nils] 25),(0,.row [.isl false (List.map cGNode p1.Nodes)] 25)],8⟩) rfl (q0s (q01 inf43) rfl rfl rfl rfl rfl rfl rfl rfl) rfl ?_))))
 refine RD.done ⟨by kernel_rfl,⟨q0u und25 rfl (q01 inf23) rfl rfl rfl,⟨q06 und23 rfl rfl rfl rfl,⟨q2b rfl,⟨q7m rfl rfl,⟨q0u und71 rfl (q01 inf55) rfl rfl rfl,⟨q06 und55 rfl rfl rfl rfl,⟨q2b rfl,⟨q1t rfl rfl (q7o (cI .i64) und55 (q01 inf3) (by decide) (q52 .i64) (vo rfl) h33),⟨q79 (cI .i64) (fun x=>.int .i64 x) und3 rfl (fun _=>rfl) rfl rfl h33,⟨q1t rfl rfl (q2g cGNode und23 (q01 inf43) q1b h35 rfl),⟨q7s und43 rfl (q01 inf43) rfl rfl,trivial⟩⟩⟩⟩⟩⟩⟩⟩⟩⟩⟩,?_⟩
 refine st ?_
 obtain ⟨r36,h37,hF⟩:=q00 hF
 refine sr ?_
 refine RS.q (u:=.ptr 7 0 1) rfl (q0u und43 rfl (q01 inf41) rfl rfl rfl) (RS.q (u:=.isl false (List.map cGArc x34.Arcs)) rfl (q06 und41 rfl rfl rfl rfl) ?_)
 refine RS.callx (R:=fun u σ'=>∃ t38,u = .vl 8 t38 0 r36.length∧σ'=⟨[(8,.vec (List.map cGArc r36).flatten 45 2 t38),(7,.row (cGNode x34) 43),(6,.vec (List.map cGNode l27).flatten 43 2 t28),(5,.row [.vl 6 t28 0 l27.length] 25),(4,.vec (List.map (cI .i64) r14.2).flatten 3 1 (t16 1)),(3,.vec (List.map (cI .i64) r14.1).flatten 3 1 (t16 0)),(2,.row [.isl false (List.map cGNode p1.Nodes),.vl 3 (t16 0) 0 r14.1.length,.vl 4 (t16 1) 0 r14.2.length] 71),(1,.row [.nils] 25),(0,.row [.isl false (List.map cGNode p1.Nodes)] 25)],9⟩) (args:=[.isl false (List.map cGArc x34.Arcs)]) rfl (q02 rfl rfl fn48 hb48 rfl rfl) (EvU.own1 cGArc (q8o n x34.Arcs r36 h37) _ 8 rfl) rfl rfl ?_
 rintro _ _ ⟨t38,rfl,rfl⟩
 refine se ?_
 refine sd ?_
 refine WPU.ghost (tm':=fr 88 [(2,.ptr 0 0 0),(4,.ptr 1 0 0),(5,.ptr 2 0 0),(7,.ptr 5 0 0),(8,.int .i64 z26),(9,.ptr 7 0 0),(10,.vl 8 t38 0 r36.length),(11,.int .i64 0)]) (Gh.sub ⟨rfl,rfl,rfl,rfl,rfl,rfl,rfl,rfl,trivial⟩) (Nat.zero_le _) ?_
 refine WPU.loopK (fun m tm σ=>∃ z53:Int,∃ l54:List GArc,q3s r14 z26 l27 (q2u p1 n r14 m2) x34 m z53 l54=some r∧tm=fr 88 [(2,.ptr 0 0 0),(4,.ptr 1 0 0),(5,.ptr 2 0 0),(7,.ptr 5 0 0),(8,.int .i64 z26),(9,.ptr 7 0 0),(10,.vl 8 t38 0 l54.length),(11,.int .i64 z53)]∧σ=⟨[(8,.vec (List.map cGArc l54).flatten 45 2 t38),(7,.row (cGNode x34) 43),(6,.vec (List.map cGNode l27).flatten 43 2 t28),(5,.row [.vl 6 t28 0 l27.length] 25),(4,.vec (List.map (cI .i64) r14.2).flatten 3 1 (t16 1)),(3,.vec (List.map (cI .i64) r14.1).flatten 3 1 (t16 0)),(2,.row [.isl false (List.map cGNode p1.Nodes),.vl 3 (t16 0) 0 r14.1.length,.vl 4 (t16 1) 0 r14.2.length] 71),(1,.row [.nils] 25),(0,.row [.isl false (List.map cGNode p1.Nodes)] 25)],9⟩) (fun tm σ=>∃ l55:List GArc,q56 z26 l27 (q2u p1 n r14 m2) x34 l55=some r∧tm=fr 88 [(2,.ptr 0 0 0),(4,.ptr 1 0 0),(5,.ptr 2 0 0),(7,.ptr 5 0 0),(8,.int .i64 z26),(9,.ptr 7 0 0),(10,.vl 8 t38 0 l55.length)]∧σ=⟨[(8,.vec (List.map cGArc l55).flatten 45 2 t38),(7,.row (cGNode x34) 43),(6,.vec (List.map cGNode l27).flatten 43 2 t28),(5,.row [.vl 6 t28 0 l27.length] 25),(4,.vec (List.map (cI .i64) r14.2).flatten 3 1 (t16 1)),(3,.vec (List.map (cI .i64) r14.1).flatten 3 1 (t16 0)),(2,.row [.isl false (List.map cGNode p1.Nodes),.vl 3 (t16 0) 0 r14.1.length,.vl 4 (t16 1) 0 r14.2.length] 71),(1,.row [.nils] 25),(0,.row [.isl false (List.map cGNode p1.Nodes)] 25)],9⟩) n ⟨0,r36,hF,rfl,rfl⟩ ?_ ?_
 rintro _ _ ⟨l55,hF,rfl,rfl⟩
 unfold q56 at hF
 refine st ?_
 refine WPU.ghost (tm':=fr 88 [(2,.ptr 0 0 0),(4,.ptr 1 0 0),(5,.ptr 2 0 0),(7,.ptr 5 0 0),(8,.int .i64 z26),(9,.ptr 7 0 0),(10,.isl false (List.map cGArc l55))]) (σ':=⟨[(7,.row (cGNode x34) 43),(6,.vec (List.map cGNode l27).flatten 43 2 t28),(5,.row [.vl 6 t28 0 l27.length] 25),(4,.vec (List.map (cI .i64) r14.2).flatten 3 1 (t16 1)),(3,.vec (List.map (cI .i64) r14.1).flatten 3 1 (t16 0)),(2,.row [.isl false (List.map cGNode p1.Nodes),.vl 3 (t16 0) 0 r14.1.length,.vl 4 (t16 1) 0 r14.2.length] 71),(1,.row [.nils] 25),(0,.row [.isl false (List.map cGNode p1.Nodes)] 25)],9⟩) (Gh.trans (Gh.sub (l':=[(2,.ptr 0 0 0),(4,.ptr 1 0 0),(5,.ptr 2 0 0),(7,.ptr 5 0 0),(8,.int .i64 z26),(9,.ptr 7 0 0),(10,.vl 8 t38 0 l55.length)]) ⟨rfl,rfl,rfl,rfl,rfl,rfl,rfl,trivial⟩) (Gh.fzS (l':=[(2,.ptr 0 0 0),(4,.ptr 1 0 0),(5,.ptr 2 0 0),(7,.ptr 5 0 0),(8,.int .i64 z26),(9,.ptr 7 0 0),(10,.isl false (List.map cGArc l55))]) (h':=[(7,.row (cGNode x34) 43),(6,.vec (List.map cGNode l27).flatten 43 2 t28),(5,.row [.vl 6 t28 0 l27.length] 25),(4,.vec (List.map (cI .i64) r14.2).flatten 3 1 (t16 1)),(3,.vec (List.map (cI .i64) r14.1).flatten 3 1 (t16 0)),(2,.row [.isl false (List.map cGNode p1.Nodes),.vl 3 (t16 0) 0 r14.1.length,.vl 4 (t16 1) 0 r14.2.length] 71),(1,.row [.nils] 25),(0,.row [.isl false (List.map cGNode p1.Nodes)] 25)]) 8 (.vec (List.map cGArc l55).flatten 45 2 t38) 2 rfl (by simp) (by simp only [fzS,oneU,q07,q03,q0k,q09,q0n,q0d,q0c,q0b,q0a,q08,q0l,q0m,q0j,q0o,q1j,junkT,fz_vl q0e,q24,q38 (show Nat.beq 0 8=false from rfl),q37 (show Nat.beq 0 8=false from rfl),q36 (show Nat.beq 0 8=false from rfl),q38 (show Nat.beq 1 8=false from rfl),q37 (show Nat.beq 1 8=false from rfl),q36 (show Nat.beq 1 8=false from rfl),q38 (show Nat.beq 2 8=false from rfl),q37 (show Nat.beq 2 8=false from rfl),q36 (show Nat.beq 2 8=false from rfl),q38 (show Nat.beq 3 8=false from rfl),q37 (show Nat.beq 3 8=false from rfl),q36 (show Nat.beq 3 8=false from rfl),q38 (show Nat.beq 4 8=false from rfl),q37 (show Nat.beq 4 8=false from rfl),q36 (show Nat.beq 4 8=false from rfl),q38 (show Nat.beq 5 8=false from rfl),q37 (show Nat.beq 5 8=false from rfl),q36 (show Nat.beq 5 8=false from rfl),q38 (show Nat.beq 6 8=false from rfl),q37 (show Nat.beq 6 8=false from rfl),q36 (show Nat.beq 6 8=false from rfl),q38 (show Nat.beq 7 8=false from rfl),q37 (show Nat.beq 7 8=false from rfl),q36 (show Nat.beq 7 8=false from rfl),q2l _ _ _ (q2m 8 (fun q=>q5d _ q) l27),q2l _ _ _ (q2m 8 (fun q=>q7j _ .i64 q) r14.2),q2l _ _ _ (q2m 8 (fun q=>q7j _ .i64 q) r14.1)]) (by simp only [fzH,fzB,ug,Nat.beq,cond_true,cond_false,oneU,q07,q03,q0k,q09,q0n,q0d,q0c,q0b,q0a,q08,q0l,q0m,q0j,q0o,q1j,junkT,fz_vl q0e,q24,q38 (show Nat.beq 0 8=false from rfl),q37 (show Nat.beq 0 8=false from rfl),q36 (show Nat.beq 0 8=false from rfl),q38 (show Nat.beq 1 8=false from rfl),q37 (show Nat.beq 1 8=false from rfl),q36 (show Nat.beq 1 8=false from rfl),q38 (show Nat.beq 2 8=false from rfl),q37 (show Nat.beq 2 8=false from rfl),q36 (show Nat.beq 2 8=false from rfl),q38 (show Nat.beq 3 8=false from rfl),q37 (show Nat.beq 3 8=false from rfl),q36 (show Nat.beq 3 8=false from rfl),q38 (show Nat.beq 4 8=false from rfl),q37 (show Nat.beq 4 8=false from rfl),q36 (show Nat.beq 4 8=false from rfl),q38 (show Nat.beq 5 8=false from rfl),q37 (show Nat.beq 5 8=false from rfl),q36 (show Nat.beq 5 8=false from rfl),q38 (show Nat.beq 6 8=false from rfl),q37 (show Nat.beq 6 8=false from rfl),q36 (show Nat.beq 6 8=false from rfl),q38 (show Nat.beq 7 8=false from rfl),q37 (show Nat.beq 7 8=false from rfl),q36 (show Nat.beq 7 8=false from rfl),q2l _ _ _ (q2m 8 (fun q=>q5d _ q) l27),q2l _ _ _ (q2m 8 (fun q=>q7j _ .i64 q) r14.2),q2l _ _ _ (q2m 8 (fun q=>q7j _ .i64 q) r14.1)]))) (Nat.zero_le _) ?_
 refine st ?_
 obtain ⟨h56,hF⟩:=q1o hF
 refine sr ?_
 refine RS.q (u:=.ptr 5 0 0) rfl (q0u und25 rfl (q01 inf23) rfl rfl rfl) (RS.q (u:=.vl 6 t28 0 l27.length) rfl (q06 und23 rfl rfl rfl rfl) (RS.q (u:=.ptr 7 0 0) rfl (q0u und43 rfl (q01 inf3) rfl rfl rfl) (RS.q (u:=.int .i64 x34.Typex) rfl (q06 und3 rfl rfl rfl rfl) (RS.mv rfl rfl rfl rfl (RS.q (u:=.agg [.int .i64 x34.Typex,.isl false (List.map cGArc l55)]) rfl (q6q bd43 rfl rfl rfl) (RS.q (u:=.sl 9 0 1 1) (σ':=⟨[(9,.row [.int .i64 x34.Typex,.isl false (List.map cGArc l55)] 43),(7,.row (cGNode x34) 43),(6,.vec (List.map cGNode l27).flatten 43 2 t28),(5,.row [.vl 6 t28 0 l27.length] 25),(4,.vec (List.map (cI .i64) r14.2).flatten 3 1 (t16 1)),(3,.vec (List.map (cI .i64) r14.1).flatten 3 1 (t16 0)),(2,.row [.isl false (List.map cGNode p1.Nodes),.vl 3 (t16 0) 0 r14.1.length,.vl 4 (t16 1) 0 r14.2.length] 71),(1,.row [.nils] 25),(0,.row [.isl false (List.map cGNode p1.Nodes)] 25)],10⟩) rfl (q26 und23 inf43 rfl rfl rfl rfl rfl rfl rfl) (RS.q (u:=.vl 6 (t28+1) 0 ((l27++[(GNode.mk x34.Typex l55)]).length)) (σ':=⟨[(9,.row [.int .i64 x34.Typex,.isl false (List.map cGArc l55)] 43),(7,.row (cGNode x34) 43),(6,.vec (List.map cGNode (l27++[(GNode.mk x34.Typex l55)])).flatten 43 2 (t28+1)),(5,.row [.vl 6 t28 0 l27.length] 25),(4,.vec (List.map (cI .i64) r14.2).flatten 3 1 (t16 1)),(3,.vec (List.map (cI .i64) r14.1).flatten 3 1 (t16 0)),(2,.row [.isl false (List.map cGNode p1.Nodes),.vl 3 (t16 0) 0 r14.1.length,.vl 4 (t16 1) 0 r14.2.length] 71),(1,.row [.nils] 25),(0,.row [.isl false (List.map cGNode p1.Nodes)] 25)],10⟩) rfl (q7x rfl rfl rfl rfl (q8j cGNode ([(GNode.mk x34.Typex l55)]) und23 und23 inf43 rfl q1b rfl (q7h cGNode [(GNode.mk x34.Typex l55)] rfl rfl rfl rfl) h56)) ?_)))))))
 refine RS.q (u:=.ptr 5 0 0) rfl (q0u und25 rfl (q01 inf23) rfl rfl rfl) (RS.opn (u:=.junk) (σ':=⟨[(9,.row [.int .i64 x34.Typex,.isl false (List.map cGArc l55)] 43),(7,.row (cGNode x34) 43),(6,.vec (List.map cGNode (l27++[(GNode.mk x34.Typex l55)])).flatten 43 2 (t28+1)),(5,.row [.vl 6 (t28+1) 0 ((l27++[(GNode.mk x34.Typex l55)]).length)] 25),(4,.vec (List.map (cI .i64) r14.2).flatten 3 1 (t16 1)),(3,.vec (List.map (cI .i64) r14.1).flatten 3 1 (t16 0)),(2,.row [.isl false (List.map cGNode p1.Nodes),.vl 3 (t16 0) 0 r14.1.length,.vl 4 (t16 1) 0 r14.2.length] 71),(1,.row [.nils] 25),(0,.row [.isl false (List.map cGNode p1.Nodes)] 25)],10⟩) rfl (q0s (q01 inf23) rfl rfl rfl rfl rfl rfl rfl rfl) rfl ?_)
 refine se ?_
 refine RS.q rfl (q04 rfl rfl (q2y _ _ _) rfl) ?_
 refine sd ?_
 exact ⟨m2,_,_,Nat.lt_succ_self _,⟨(IntKind.i64.wrap (z26+1)),(l27++[(GNode.mk x34.Typex l55)]),(t28+1),hF,rfl,rfl⟩,(Nat.zero_le _),Gh.toC (n1:=7) ⟨rfl,rfl,rfl,rfl,rfl,trivial⟩ rfl (Nat.zero_le _) (by simp)⟩
 rintro m3 _ _ ⟨z53,l54,hF,rfl,rfl⟩
 rcases m3 with _ | m3
 cases hF
 unfold q3s at hF
 refine sr ?_
 repeat refine RS.mv rfl rfl rfl rfl ?_
 refine RS.q rfl (q10 rfl rfl rfl (q6z und41 rfl)) (RS.q rfl (q04 rfl rfl (q1n _ _ _) rfl) ?_)
 refine sd ?_
 refine WPU.condS (t:=(decide (z53<(l54.length:Int)))) rfl (fun h57=>?_) (fun h57=>?_)
 replace hF:=q0g h57 hF
 refine st ?_
 refine WPU.skip ?_
 refine st ?_
 refine WPU.block ?_
 refine st ?_
 obtain ⟨x58,h59,hF⟩:=q00 hF
 obtain ⟨x60,h61,hF⟩:=q00 hF
 obtain ⟨x62,h63,hF⟩:=q00 hF
 refine WPU.joinK (fun tm σ=>tm=fr 88 [(2,.ptr 0 0 0),(4,.ptr 1 0 0),(5,.ptr 2 0 0),(7,.ptr 5 0 0),(8,.int .i64 z26),(9,.ptr 7 0 0),(10,.vl 8 t38 0 ((l54.set (0+z53.toNat) (GArc.mk x62.Feat x60)).length)),(11,.int .i64 z53)]∧σ=⟨[(8,.vec (List.map cGArc (l54.set (0+z53.toNat) (GArc.mk x62.Feat x60))).flatten 45 2 t38),(7,.row (cGNode x34) 43),(6,.vec (List.map cGNode l27).flatten 43 2 t28),(5,.row [.vl 6 t28 0 l27.length] 25),(4,.vec (List.map (cI .i64) r14.2).flatten 3 1 (t16 1)),(3,.vec (List.map (cI .i64) r14.1).flatten 3 1 (t16 0)),(2,.row [.isl false (List.map cGNode p1.Nodes),.vl 3 (t16 0) 0 r14.1.length,.vl 4 (t16 1) 0 r14.2.length] 71),(1,.row [.nils] 25),(0,.row [.isl false (List.map cGNode p1.Nodes)] 25)],9⟩) ?_ ?_
 rintro _ _ ⟨rfl,rfl⟩
 refine sr ?_
 refine RS.q rfl (q04 rfl rfl (q2y _ _ _) rfl) ?_
 refine sd ?_
 exact ⟨m3,_,_,Nat.lt_succ_self _,⟨(IntKind.i64.wrap (z53+1)),(l54.set (0+z53.toNat) (GArc.mk x62.Feat x60)),hF,rfl,rfl⟩,(Nat.zero_le _),Gh.toC (n1:=9) ⟨rfl,rfl,rfl,rfl,rfl,rfl,rfl,rfl,trivial⟩ rfl (Nat.zero_le _) (by simp)⟩
 refine WPU.drawE Try.tb_ok [] (by kernel_rfl) ?_
 repeat refine RD.mv rfl rfl rfl rfl ?_
 refine RD.q (u:=.ptr 2 0 0) rfl (q7m rfl rfl) (RD.q (u:=.ptr 2 0 1) rfl (q0u und71 rfl (q01 inf55) rfl rfl rfl) (RD.q (u:=.vl 3 (t16 0) 0 r14.1.length) rfl (q06 und55 rfl rfl rfl rfl) ?_))
 repeat refine RD.mv rfl rfl rfl rfl ?_
 refine RD.q (u:=.ptr 8 t38 (0*2+z53.toNat*2)) rfl (q1t rfl rfl (q7o cGArc und41 (q01 inf45) (by decide) q0e (vo rfl) h59)) ?_
 refine RD.q (u:=.ptr 8 t38 (0*2+z53.toNat*2+1)) rfl (q0u und45 rfl (q01 inf3) rfl (qbn rfl) rfl) (RD.q (u:=.int .i64 x58.To) rfl (ld_vf cGArc und3 rfl q0e rfl rfl (qah h59) rfl) ?_)
 refine RD.q (u:=.ptr 3 (t16 0) (0*1+x58.To.toNat*1)) rfl (q1t rfl rfl (q7o (cI .i64) und55 (q01 inf3) (by decide) (q52 .i64) (vo rfl) h61)) ?_
 refine RD.q (u:=.int .i64 x60) rfl (q79 (cI .i64) (fun x=>.int .i64 x) und3 rfl (fun _=>rfl) rfl rfl h61) ?_
 refine RD.q (u:=.ptr 8 t38 (0*2+z53.toNat*2)) rfl (q1t rfl rfl (q7o cGArc und41 (q01 inf45) (by decide) q0e (vo rfl) h63)) ?_
 refine RD.q (u:=.ptr 8 t38 (0*2+z53.toNat*2+1)) rfl (q0u und45 rfl (q01 inf3) rfl (qbn rfl) rfl) (RD.actn (u:=.junk) (σ':=⟨[(8,.vec (List.map cGArc (l54.set (0+z53.toNat) (GArc.mk x62.Feat x60))).flatten 45 2 t38),(7,.row (cGNode x34) 43),(6,.vec (List.map cGNode l27).flatten 43 2 t28),(5,.row [.vl 6 t28 0 l27.length] 25),(4,.vec (List.map (cI .i64) r14.2).flatten 3 1 (t16 1)),(3,.vec (List.map (cI .i64) r14.1).flatten 3 1 (t16 0)),(2,.row [.isl false (List.map cGNode p1.Nodes),.vl 3 (t16 0) 0 r14.1.length,.vl 4 (t16 1) 0 r14.2.length] 71),(1,.row [.nils] 25),(0,.row [.isl false (List.map cGNode p1.Nodes)] 25)],9⟩) rfl (st_vf (y:=(GArc.mk x62.Feat x60)) cGArc (q01 inf3) q0e rfl rfl rfl rfl rfl rfl (qah h63) rfl rfl) rfl ?_)
 refine RD.done ⟨by kernel_rfl,trivial,?_⟩
 refine st ?_
 exact ⟨_,_,⟨rfl,rfl⟩,(Nat.zero_le _),Gh.eqS ⟨rfl,rfl,rfl,rfl,rfl,rfl,(by simp only [List.length_set]; rfl),rfl,trivial⟩ rfl⟩
 replace hF:=q0f h57 hF
 refine st ?_
 refine WPU.exit ?_
 refine st ?_
 exact ⟨_,_,⟨l54,hF,rfl,rfl⟩,(Nat.zero_le _),Gh.toC (n1:=9) ⟨rfl,rfl,rfl,rfl,rfl,rfl,rfl,trivial⟩ rfl (Nat.zero_le _) (by simp)⟩
 replace hF:=q0f h31 hF
 refine st ?_
 refine WPU.exit ?_
 refine st ?_
 exact ⟨_,_,⟨l27,t28,hF,rfl,rfl⟩,(Nat.zero_le _),Gh.toC (n1:=7) ⟨rfl,rfl,trivial⟩ rfl (Nat.zero_le _) (by simp)⟩
 rintro m1 _ _ ⟨z9,l10,t11,hF,rfl,rfl⟩
 rcases m1 with _ | m1
 cases hF
 unfold q4d at hF
 refine sr ?_
 refine RS.q (u:=.ptr 0 0 0) rfl (q0u und25 rfl (q01 inf23) rfl rfl rfl) (RS.q (u:=.isl false (List.map cGNode p1.Nodes)) rfl (q06 und23 rfl rfl rfl rfl) (RS.q rfl (q10 rfl rfl rfl (q0w cGNode und23)) (RS.q rfl (q04 rfl rfl (q1n _ _ _) rfl) ?_)))
 refine sd ?_
 refine WPU.condS (t:=(decide (z9<(p1.Nodes.length:Int)))) rfl (fun h64=>?_) (fun h64=>?_)
 replace hF:=q0g h64 hF
 refine st ?_
 refine WPU.skip ?_
 refine st ?_
 refine WPU.block ?_
 refine st ?_
 obtain ⟨h65,hF⟩:=q1o hF
 refine sr ?_
 repeat refine RS.mv rfl rfl rfl rfl ?_
 refine RS.q (u:=.ptr 2 0 0) rfl (q7m rfl rfl) (RS.q (u:=.ptr 2 0 1) rfl (q0u und71 rfl (q01 inf55) rfl rfl rfl) (RS.q (u:=.vl 3 t11 0 l10.length) rfl (q06 und55 rfl rfl rfl rfl) (RS.q (u:=.sl 4 0 1 1) (σ':=⟨[(4,.row [.int .i64 (-1)] 3),(3,.vec (List.map (cI .i64) l10).flatten 3 1 t11),(2,.row [.isl false (List.map cGNode p1.Nodes),.vl 3 t11 0 l10.length,.nils] 71),(1,.row [.nils] 25),(0,.row [.isl false (List.map cGNode p1.Nodes)] 25)],5⟩) rfl (q26 und55 inf3 rfl rfl rfl rfl rfl rfl rfl) (RS.q (u:=.vl 3 (t11+1) 0 ((l10++[(-1)]).length)) (σ':=⟨[(4,.row [.int .i64 (-1)] 3),(3,.vec (List.map (cI .i64) (l10++[(-1)])).flatten 3 1 (t11+1)),(2,.row [.isl false (List.map cGNode p1.Nodes),.vl 3 t11 0 l10.length,.nils] 71),(1,.row [.nils] 25),(0,.row [.isl false (List.map cGNode p1.Nodes)] 25)],5⟩) rfl (q7x rfl rfl rfl rfl (q8j (cI .i64) ([(-1)]) und55 und55 inf3 rfl (q52 .i64) rfl (q7h (cI .i64) [(-1)] rfl rfl rfl rfl) h65)) (RS.q (u:=.ptr 2 0 0) rfl (q7m rfl rfl) (RS.q (u:=.ptr 2 0 1) rfl (q0u und71 rfl (q01 inf55) rfl rfl rfl) (RS.opn (u:=.junk) (σ':=⟨[(4,.row [.int .i64 (-1)] 3),(3,.vec (List.map (cI .i64) (l10++[(-1)])).flatten 3 1 (t11+1)),(2,.row [.isl false (List.map cGNode p1.Nodes),.vl 3 (t11+1) 0 ((l10++[(-1)]).length),.nils] 71),(1,.row [.nils] 25),(0,.row [.isl false (List.map cGNode p1.Nodes)] 25)],5⟩) rfl (q0s (q01 inf55) rfl rfl rfl rfl rfl rfl rfl rfl) rfl ?_)))))))
 refine se ?_
 refine RS.q rfl (q04 rfl rfl (q2y _ _ _) rfl) ?_
 refine sd ?_
 exact ⟨m1,_,_,Nat.lt_succ_self _,⟨(IntKind.i64.wrap (z9+1)),(l10++[(-1)]),(t11+1),hF,rfl,rfl⟩,(Nat.zero_le _),Gh.toC (n1:=4) ⟨rfl,rfl,rfl,rfl,rfl,trivial⟩ rfl (Nat.zero_le _) (by simp)⟩
 replace hF:=q0f h64 hF
 refine st ?_
 refine WPU.exit ?_
 refine st ?_
 exact ⟨_,_,⟨l10,t11,hF,rfl,rfl⟩,(Nat.zero_le _),Gh.toC (n1:=4) ⟨rfl,rfl,rfl,rfl,trivial⟩ rfl (Nat.zero_le _) (by simp)⟩
theorem q9i (n:Nat) (p1:GFS) (p2:Int) (r:GFS) (hF:q5i n p1 p2=some r) (σ:Sg):EvU Try.prog 34 [.agg [.isl false (List.map cGNode p1.Nodes)],.int .i64 p2] σ (fun u σ'=>u = .agg [.isl false (List.map cGNode r.Nodes)]∧σ'=σ) :=
 EvU.pure1C (ref07_From_0 n p1 p2 r hF) σ
def q3i (p1:Int) (p2:Nat) (p4:Nat) (l21:List Bool) (l22:List Bool):Option (Bool×(List Bool)×(List Bool)) :=
 bindO (idxV l21 0 p2 p1) fun x23 =>
 bindO (idxV l22 0 p4 p1) fun x25 =>
 some (false,(l21.set p1.toNat false),(l22.set p1.toNat true))
def q2d (p1:Int) (p2:Nat) (p3:List GNode) (p4:Nat) (x9:GNode) (self:Int→Nat→(List GNode)→Nat→(List Bool)→(List Bool)→Option (Bool×(List Bool)×(List Bool))):Nat→Int→(List Bool)→(List Bool)→Option (Bool×(List Bool)×(List Bool))
 | 0,_,_,_=>none
 | m1+1,z18,l19,l20 =>
  cond (decide (z18<(x9.Arcs.length:Int)))
   (bindO (idxO x9.Arcs z18) fun x28 =>
   bindO (bindO (idxV l19 0 p2 x28.To) fun x30 =>
   cond x30
    (some (true,l19,l20))
    (bindO (idxV l20 0 p4 x28.To) fun x33 =>
    cond (!x33)
     (bindO (self x28.To p2 p3 p4 l19 l20) fun r36 =>
     some (r36.1,r36.2.1,r36.2.2))
     (some (false,l19,l20)))) fun j43 =>
   cond j43.1
    (some (true,j43.2.1,j43.2.2))
    ((q2d p1 p2 p3 p4 x9 self m1) (IntKind.i64.wrap (z18+1)) j43.2.1 j43.2.2))
   (q3i p1 p2 p4 l19 l20)
def q3r (n:Nat) (self:Int→Nat→(List GNode)→Nat→(List Bool)→(List Bool)→Option (Bool×(List Bool)×(List Bool))) (p1:Int) (p2:Nat) (p3:List GNode) (p4:Nat) (p5:List Bool) (p6:List Bool):Option (Bool×(List Bool)×(List Bool)) :=
 bindO (idxV p5 0 p2 p1) fun x7 =>
 bindO (idxO p3 p1) fun x9 =>
 q2d p1 p2 p3 p4 x9 self n 0 (p5.set p1.toNat true) p6
def q25:Nat→Int→Nat→(List GNode)→Nat→(List Bool)→(List Bool)→Option (Bool×(List Bool)×(List Bool))
 | 0,_,_,_,_,_,_=>none
 | n+1,p1,p2,p3,p4,p5,p6=>q3r n (q25 n) p1 p2 p3 p4 p5 p6
theorem q6h:∀ (n:Nat) (p1:Int) (p2:Nat) (p3:List GNode) (p4:Nat) (p5:List Bool) (p6:List Bool) (r:Bool×(List Bool)×(List Bool)),q25 n p1 p2 p3 p4 p5 p6=some r→EvU Try.prog 35 [.int .i64 p1,.ptr 0 0 0,.ptr 1 0 0,.ptr 2 0 0,.ptr 3 0 0] ⟨[(0,.row [.sl 4 0 p2 p2] 40),(1,.row [.isl false (List.map cGNode p3)] 25),(2,.row [.sl 5 0 p4 p4] 40),(3,.row [.fn (.func 35) [] [.ptr 0 0 0,.ptr 1 0 0,.ptr 2 0 0,.ptr 3 0 0]] 51),(4,.row (List.map cB p5).flatten 4),(5,.row (List.map cB p6).flatten 4)],6⟩ (fun u σ'=>∃ t:Nat→Nat,u = .bool r.1∧σ'=⟨[(0,.row [.sl 4 0 p2 p2] 40),(1,.row [.isl false (List.map cGNode p3)] 25),(2,.row [.sl 5 0 p4 p4] 40),(3,.row [.fn (.func 35) [] [.ptr 0 0 0,.ptr 1 0 0,.ptr 2 0 0,.ptr 3 0 0]] 51),(4,.row (List.map cB r.2.1).flatten 4),(5,.row (List.map cB r.2.2).flatten 4)],6⟩)
 | 0,p1,p2,p3,p4,p5,p6,r,hF=>by cases hF
 | n+1,p1,p2,p3,p4,p5,p6,r,hF=>by
  have ih:=q6h n
  unfold q25 q3r at hF
  refine EvU.of_body Try.tb_ok fn35 rfl ?_
  refine WPU.ghost (tm':=fr 49 [(0,.int .i64 p1),(1,.ptr 0 0 0),(2,.ptr 1 0 0),(3,.ptr 2 0 0),(4,.ptr 3 0 0)]) (Gh.start (Nat.le_of_ble_eq_true rfl)) (Nat.le_refl _) ?_
  refine sr ?_
  refine sd ?_
  obtain ⟨x7,h8,hF⟩:=q00 hF
  refine sr ?_
  refine RS.q (u:=.sl 4 0 p2 p2) rfl (q06 und40 rfl rfl rfl rfl) (RS.mv rfl rfl rfl rfl (RS.q (u:=.ptr 4 0 (0*1+p1.toNat*1)) rfl (q1t rfl rfl (q9a und40 (q01 inf4) rfl h8)) (RS.opn (u:=.junk) (σ':=⟨[(0,.row [.sl 4 0 p2 p2] 40),(1,.row [.isl false (List.map cGNode p3)] 25),(2,.row [.sl 5 0 p4 p4] 40),(3,.row [.fn (.func 35) [] [.ptr 0 0 0,.ptr 1 0 0,.ptr 2 0 0,.ptr 3 0 0]] 51),(4,.row (List.map cB (p5.set p1.toNat true)).flatten 4),(5,.row (List.map cB p6).flatten 4)],6⟩) rfl (st_rl cB (q01 inf4) len_cB rfl rfl rfl rfl rfl rfl h8 rfl) rfl ?_)))
  refine sd ?_
  obtain ⟨x9,h10,hF⟩:=q00 hF
  refine sr ?_
  refine RS.q (u:=.ptr 1 0 0) rfl (q0u und25 rfl (q01 inf23) rfl rfl rfl) (RS.q (u:=.isl false (List.map cGNode p3)) rfl (q06 und23 rfl rfl rfl rfl) (RS.mv rfl rfl rfl rfl (RS.q (u:=.iptr (cGNode x9)) rfl (q1t rfl rfl (q2g cGNode und23 (q01 inf43) q1b h10 rfl)) (RS.q (u:=.iptr [.isl false (List.map cGArc x9.Arcs)]) rfl (q68 und43 rfl (q01 inf41) rfl rfl) (RS.q (u:=.isl false (List.map cGArc x9.Arcs)) rfl (q3h und41 rfl rfl rfl) (RS.q rfl (q10 rfl rfl rfl (q0w cGArc und41)) (RS.mv rfl rfl rfl rfl ?_)))))))
  refine sd ?_
  refine WPU.ghost (tm':=fr 49 [(0,.int .i64 p1),(1,.ptr 0 0 0),(3,.ptr 2 0 0),(4,.ptr 3 0 0),(17,.isl false (List.map cGArc x9.Arcs)),(18,.int .i64 (x9.Arcs.length:Int)),(19,.int .i64 0)]) (Gh.sub ⟨rfl,rfl,rfl,rfl,rfl,rfl,rfl,trivial⟩) (Nat.le_of_ble_eq_true rfl) ?_
  refine WPU.loopK (fun m tm σ=>∃ z18:Int,∃ l19:List Bool,∃ l20:List Bool,q2d p1 p2 p3 p4 x9 (q25 n) m z18 l19 l20=some r∧tm=fr 49 [(0,.int .i64 p1),(1,.ptr 0 0 0),(3,.ptr 2 0 0),(4,.ptr 3 0 0),(17,.isl false (List.map cGArc x9.Arcs)),(18,.int .i64 (x9.Arcs.length:Int)),(19,.int .i64 z18)]∧σ=⟨[(0,.row [.sl 4 0 p2 p2] 40),(1,.row [.isl false (List.map cGNode p3)] 25),(2,.row [.sl 5 0 p4 p4] 40),(3,.row [.fn (.func 35) [] [.ptr 0 0 0,.ptr 1 0 0,.ptr 2 0 0,.ptr 3 0 0]] 51),(4,.row (List.map cB l19).flatten 4),(5,.row (List.map cB l20).flatten 4)],6⟩) (fun tm σ=>∃ l21:List Bool,∃ l22:List Bool,q3i p1 p2 p4 l21 l22=some r∧tm=fr 49 [(0,.int .i64 p1),(1,.ptr 0 0 0),(3,.ptr 2 0 0)]∧σ=⟨[(0,.row [.sl 4 0 p2 p2] 40),(1,.row [.isl false (List.map cGNode p3)] 25),(2,.row [.sl 5 0 p4 p4] 40),(3,.row [.fn (.func 35) [] [.ptr 0 0 0,.ptr 1 0 0,.ptr 2 0 0,.ptr 3 0 0]] 51),(4,.row (List.map cB l21).flatten 4),(5,.row (List.map cB l22).flatten 4)],6⟩) n ⟨0,(p5.set p1.toNat true),p6,hF,rfl,rfl⟩ ?_ ?_
  rintro _ _ ⟨l21,l22,hF,rfl,rfl⟩
  unfold q3i at hF
  refine st ?_
  obtain ⟨x23,h24,hF⟩:=q00 hF
  obtain ⟨x25,h26,hF⟩:=q00 hF
  refine WPU.drawE Try.tb_ok [(2,5),(3,5)] (by kernel_rfl) ?_
  refine RD.q (u:=.sl 4 0 p2 p2) rfl (q06 und40 rfl rfl rfl rfl) (RD.mv rfl rfl rfl rfl (RD.q (u:=.sl 5 0 p4 p4) rfl (q06 und40 rfl rfl rfl rfl) (RD.mv rfl rfl rfl rfl (RD.q (u:=.ptr 4 0 (0*1+p1.toNat*1)) rfl (q1t rfl rfl (q9a und40 (q01 inf4) rfl h24)) (RD.actn (u:=.junk) (σ':=⟨[(0,.row [.sl 4 0 p2 p2] 40),(1,.row [.isl false (List.map cGNode p3)] 25),(2,.row [.sl 5 0 p4 p4] 40),(3,.row [.fn (.func 35) [] [.ptr 0 0 0,.ptr 1 0 0,.ptr 2 0 0,.ptr 3 0 0]] 51),(4,.row (List.map cB (l21.set p1.toNat false)).flatten 4),(5,.row (List.map cB l22).flatten 4)],6⟩) rfl (st_rl cB (q01 inf4) len_cB rfl rfl rfl rfl rfl rfl h24 rfl) rfl (RD.q (u:=.ptr 5 0 (0*1+p1.toNat*1)) rfl (q1t rfl rfl (q9a und40 (q01 inf4) rfl h26)) (RD.actn (u:=.junk) (σ':=⟨[(0,.row [.sl 4 0 p2 p2] 40),(1,.row [.isl false (List.map cGNode p3)] 25),(2,.row [.sl 5 0 p4 p4] 40),(3,.row [.fn (.func 35) [] [.ptr 0 0 0,.ptr 1 0 0,.ptr 2 0 0,.ptr 3 0 0]] 51),(4,.row (List.map cB (l21.set p1.toNat false)).flatten 4),(5,.row (List.map cB (l22.set p1.toNat true)).flatten 4)],6⟩) rfl (st_rl cB (q01 inf4) len_cB rfl rfl rfl rfl rfl rfl h26 rfl) rfl ?_)))))))
  refine RD.done ⟨by kernel_rfl,⟨q06 und40 rfl rfl rfl rfl,⟨q2b rfl,trivial⟩⟩,?_⟩
  refine sr ?_
  refine sd ?_
  refine WPU.ret ?_
  refine st ?_
  have hr:=Option.some.inj hF
  subst hr
  exact ⟨.inr rfl,[.bool false],q1y rfl (q1e),.bool false,⟨[(0,.row [.sl 4 0 p2 p2] 40),(1,.row [.isl false (List.map cGNode p3)] 25),(2,.row [.sl 5 0 p4 p4] 40),(3,.row [.fn (.func 35) [] [.ptr 0 0 0,.ptr 1 0 0,.ptr 2 0 0,.ptr 3 0 0]] 51),(4,.row (List.map cB (l21.set p1.toNat false)).flatten 4),(5,.row (List.map cB (l22.set p1.toNat true)).flatten 4)],6⟩,(Nat.le_of_ble_eq_true rfl),Gh.to (n1:=6) [] rfl rfl (Nat.le_of_ble_eq_true rfl) (Nat.le_of_ble_eq_true rfl) BUL.h BH.h,stF [],rfl,rfl⟩
  rintro m1 _ _ ⟨z18,l19,l20,hF,rfl,rfl⟩
  rcases m1 with _ | m1
  cases hF
  unfold q2d at hF
  refine sr ?_
  refine RS.q rfl (q04 rfl rfl (q1n _ _ _) rfl) ?_
  refine sd ?_
  refine WPU.condS (t:=(decide (z18<(x9.Arcs.length:Int)))) rfl (fun h27=>?_) (fun h27=>?_)
  replace hF:=q0g h27 hF
  refine st ?_
  refine WPU.skip ?_
  refine st ?_
  refine WPU.block ?_
  refine st ?_
  obtain ⟨x28,h29,hF⟩:=q00 hF
  refine sr ?_
  refine RS.q (u:=.iptr (cGArc x28)) rfl (q1t rfl rfl (q2g cGArc und41 (q01 inf45) q0e h29 rfl)) (RS.q (u:=.agg (cGArc x28)) rfl (q7s und45 rfl (q01 inf45) rfl rfl) (RS.q (u:=.ptr 6 0 0) (σ':=⟨[(6,.row [.int .i64 0,.int .i64 0] 45),(0,.row [.sl 4 0 p2 p2] 40),(1,.row [.isl false (List.map cGNode p3)] 25),(2,.row [.sl 5 0 p4 p4] 40),(3,.row [.fn (.func 35) [] [.ptr 0 0 0,.ptr 1 0 0,.ptr 2 0 0,.ptr 3 0 0]] 51),(4,.row (List.map cB l19).flatten 4),(5,.row (List.map cB l20).flatten 4)],7⟩) rfl (q15 inf45 rfl rfl) (RS.opn (u:=.junk) (σ':=⟨[(6,.row (cGArc x28) 45),(0,.row [.sl 4 0 p2 p2] 40),(1,.row [.isl false (List.map cGNode p3)] 25),(2,.row [.sl 5 0 p4 p4] 40),(3,.row [.fn (.func 35) [] [.ptr 0 0 0,.ptr 1 0 0,.ptr 2 0 0,.ptr 3 0 0]] 51),(4,.row (List.map cB l19).flatten 4),(5,.row (List.map cB l20).flatten 4)],7⟩) rfl (q0s (q01 inf45) rfl rfl rfl rfl rfl rfl rfl rfl) rfl ?_)))
  refine sd ?_
  obtain ⟨j43,h42,hF⟩:=q00 hF
  refine WPU.joinK (fun tm σ=>tm=fr 49 [(0,.int .i64 p1),(1,.ptr 0 0 0),(3,.ptr 2 0 0),(4,.ptr 3 0 0),(17,.isl false (List.map cGArc x9.Arcs)),(18,.int .i64 (x9.Arcs.length:Int)),(19,.int .i64 z18),(41,.bool j43.1)]∧σ=⟨[(6,.row (cGArc x28) 45),(0,.row [.sl 4 0 p2 p2] 40),(1,.row [.isl false (List.map cGNode p3)] 25),(2,.row [.sl 5 0 p4 p4] 40),(3,.row [.fn (.func 35) [] [.ptr 0 0 0,.ptr 1 0 0,.ptr 2 0 0,.ptr 3 0 0]] 51),(4,.row (List.map cB j43.2.1).flatten 4),(5,.row (List.map cB j43.2.2).flatten 4)],7⟩) ?_ ?_
  rintro _ _ ⟨rfl,rfl⟩
  refine st ?_
  refine WPU.condS (t:=j43.1) rfl (fun h44=>?_) (fun h44=>?_)
  replace hF:=q0g h44 hF
  refine sr ?_
  refine sd ?_
  refine WPU.ret ?_
  refine st ?_
  have hr:=Option.some.inj hF
  subst hr
  exact ⟨.inr rfl,[.bool true],q1y rfl (q1e),.bool true,⟨[(0,.row [.sl 4 0 p2 p2] 40),(1,.row [.isl false (List.map cGNode p3)] 25),(2,.row [.sl 5 0 p4 p4] 40),(3,.row [.fn (.func 35) [] [.ptr 0 0 0,.ptr 1 0 0,.ptr 2 0 0,.ptr 3 0 0]] 51),(4,.row (List.map cB j43.2.1).flatten 4),(5,.row (List.map cB j43.2.2).flatten 4)],6⟩,(Nat.le_of_ble_eq_true rfl),Gh.to (n1:=6) [] rfl rfl (Nat.le_of_ble_eq_true rfl) (Nat.le_of_ble_eq_true rfl) BUL.h BH.h,stF [],rfl,rfl⟩
  replace hF:=q0f h44 hF
  refine st ?_
  refine WPU.skip ?_
  refine sr ?_
  refine RS.q rfl (q04 rfl rfl (q2y _ _ _) rfl) (RS.mv rfl rfl rfl rfl ?_)
  refine sd ?_
  exact ⟨m1,_,_,Nat.lt_succ_self _,⟨(IntKind.i64.wrap (z18+1)),j43.2.1,j43.2.2,hF,rfl,rfl⟩,(Nat.le_of_ble_eq_true rfl),Gh.toC (n1:=6) ⟨rfl,rfl,rfl,rfl,rfl,rfl,rfl,trivial⟩ rfl (Nat.le_of_ble_eq_true rfl) (by simp)⟩
  obtain ⟨x30,h31,h42⟩:=q00 h42
  rcases q3f x30 with h32 | h32
  replace h42:=q0g h32 h42
  replace h42:=Option.some.inj h42
  subst h42
  refine sr ?_
  refine RS.q (u:=.sl 4 0 p2 p2) rfl (q06 und40 rfl rfl rfl rfl) (RS.q (u:=.ptr 6 0 1) rfl (q0u und45 rfl (q01 inf3) rfl rfl rfl) (RS.q (u:=.int .i64 x28.To) rfl (q06 und3 rfl rfl rfl rfl) (RS.q (u:=.ptr 4 0 (0*1+x28.To.toNat*1)) rfl (q1t rfl rfl (q9a und40 (q01 inf4) rfl h31)) (RS.q (u:=.bool x30) rfl (q9e cB (fun x=>.bool x) und4 rfl (fun _=>rfl) rfl rfl h31) (RS.mv rfl rfl rfl rfl ?_)))))
  repeat refine RS.no (want0 rfl rfl rfl h32) rfl rfl ?_
  repeat refine RS.no (wantT rfl rfl rfl) rfl rfl ?_
  refine RS.no (want0 rfl rfl rfl h32) rfl rfl (RS.q (u:=.bool true) rfl (q0r rfl h32 rfl) ?_)
  refine sd ?_
  exact ⟨_,_,⟨rfl,rfl⟩,(Nat.le_of_ble_eq_true rfl),Gh.toC (n1:=7) ⟨rfl,rfl,rfl,rfl,rfl,rfl,rfl,rfl,trivial⟩ rfl (Nat.le_of_ble_eq_true rfl) (by simp)⟩
  replace h42:=q0f h32 h42
  obtain ⟨x33,h34,h42⟩:=q00 h42
  rcases q3f (!x33) with h35 | h35
  replace h42:=q0g h35 h42
  obtain ⟨r36,h37,h42⟩:=q00 h42
  replace h42:=Option.some.inj h42
  subst h42
  refine sr ?_
  refine RS.q (u:=.sl 4 0 p2 p2) rfl (q06 und40 rfl rfl rfl rfl) (RS.q (u:=.ptr 6 0 1) rfl (q0u und45 rfl (q01 inf3) rfl rfl rfl) (RS.q (u:=.int .i64 x28.To) rfl (q06 und3 rfl rfl rfl rfl) (RS.q (u:=.ptr 4 0 (0*1+x28.To.toNat*1)) rfl (q1t rfl rfl (q9a und40 (q01 inf4) rfl h31)) (RS.q (u:=.bool x30) rfl (q9e cB (fun x=>.bool x) und4 rfl (fun _=>rfl) rfl rfl h31) (RS.mv rfl rfl rfl rfl (RS.op (u:=.sl 5 0 p4 p4) (want1 rfl rfl rfl h32) (q06 und40 rfl rfl rfl rfl) rfl rfl (RS.op (u:=.ptr 6 0 1) (want1 rfl rfl rfl h32) (q0u und45 rfl (q01 inf3) rfl rfl rfl) rfl rfl ?_)))))))
  refine RS.op (u:=.int .i64 x28.To) (want1 rfl rfl rfl h32) (q06 und3 rfl rfl rfl rfl) rfl rfl (RS.op (u:=.ptr 5 0 (0*1+x28.To.toNat*1)) (want1 rfl rfl rfl h32) (q1t rfl rfl (q9a und40 (q01 inf4) rfl h34)) rfl rfl (RS.op (u:=.bool x33) (want1 rfl rfl rfl h32) (q9e cB (fun x=>.bool x) und4 rfl (fun _=>rfl) rfl rfl h34) rfl rfl (RS.op (u:=.bool (!x33)) (want1 rfl rfl rfl h32) (q7y rfl rfl rfl rfl) rfl rfl (RS.op (want1 rfl rfl rfl h32) (q2b rfl) rfl rfl (RS.op (u:=.fn (.func 35) [] [.ptr 0 0 0,.ptr 1 0 0,.ptr 2 0 0,.ptr 3 0 0]) (want1 rfl rfl rfl h35) (q06 und51 rfl rfl rfl rfl) rfl rfl (RS.op (u:=.ptr 6 0 1) (want1 rfl rfl rfl h35) (q0u und45 rfl (q01 inf3) rfl rfl rfl) rfl rfl (RS.op (u:=.int .i64 x28.To) (want1 rfl rfl rfl h35) (q06 und3 rfl rfl rfl rfl) rfl rfl ?_)))))))
  refine RS.callx (R:=fun u σ'=>∃ t38:Nat→Nat,u = .bool r36.1∧σ'=⟨[(6,.row (cGArc x28) 45),(0,.row [.sl 4 0 p2 p2] 40),(1,.row [.isl false (List.map cGNode p3)] 25),(2,.row [.sl 5 0 p4 p4] 40),(3,.row [.fn (.func 35) [] [.ptr 0 0 0,.ptr 1 0 0,.ptr 2 0 0,.ptr 3 0 0]] 51),(4,.row (List.map cB r36.2.1).flatten 4),(5,.row (List.map cB r36.2.2).flatten 4)],7⟩) (args:=[.int .i64 x28.To,.ptr 0 0 0,.ptr 1 0 0,.ptr 2 0 0,.ptr 3 0 0]) (want1 rfl rfl rfl h35) (q02 rfl rfl fn35 hb35 rfl rfl) (EvU.st [0,1,2,3,4,5] (ih x28.To p2 p3 p4 l19 l20 r36 h37 )) rfl rfl ?_
  rintro _ _ ⟨t38,rfl,rfl⟩
  refine RS.op (u:=.bool r36.1) (want1 rfl rfl rfl h32) (q0r rfl h35 rfl) rfl rfl (RS.q (u:=.bool r36.1) rfl (q0p rfl h32 rfl) ?_)
  refine sd ?_
  exact ⟨_,_,⟨rfl,rfl⟩,(Nat.le_of_ble_eq_true rfl),Gh.toC (n1:=7) ⟨rfl,rfl,rfl,rfl,rfl,rfl,rfl,rfl,trivial⟩ rfl (Nat.le_of_ble_eq_true rfl) (by simp)⟩
  replace h42:=q0f h35 h42
  replace h42:=Option.some.inj h42
  subst h42
  refine sr ?_
  refine RS.q (u:=.sl 4 0 p2 p2) rfl (q06 und40 rfl rfl rfl rfl) (RS.q (u:=.ptr 6 0 1) rfl (q0u und45 rfl (q01 inf3) rfl rfl rfl) (RS.q (u:=.int .i64 x28.To) rfl (q06 und3 rfl rfl rfl rfl) (RS.q (u:=.ptr 4 0 (0*1+x28.To.toNat*1)) rfl (q1t rfl rfl (q9a und40 (q01 inf4) rfl h31)) (RS.q (u:=.bool x30) rfl (q9e cB (fun x=>.bool x) und4 rfl (fun _=>rfl) rfl rfl h31) (RS.mv rfl rfl rfl rfl (RS.op (u:=.sl 5 0 p4 p4) (want1 rfl rfl rfl h32) (q06 und40 rfl rfl rfl rfl) rfl rfl (RS.op (u:=.ptr 6 0 1) (want1 rfl rfl rfl h32) (q0u und45 rfl (q01 inf3) rfl rfl rfl) rfl rfl ?_)))))))
  refine RS.op (u:=.int .i64 x28.To) (want1 rfl rfl rfl h32) (q06 und3 rfl rfl rfl rfl) rfl rfl (RS.op (u:=.ptr 5 0 (0*1+x28.To.toNat*1)) (want1 rfl rfl rfl h32) (q1t rfl rfl (q9a und40 (q01 inf4) rfl h34)) rfl rfl (RS.op (u:=.bool x33) (want1 rfl rfl rfl h32) (q9e cB (fun x=>.bool x) und4 rfl (fun _=>rfl) rfl rfl h34) rfl rfl (RS.op (u:=.bool (!x33)) (want1 rfl rfl rfl h32) (q7y rfl rfl rfl rfl) rfl rfl (RS.op (want1 rfl rfl rfl h32) (q2b rfl) rfl rfl ?_))))
  repeat refine RS.no (want0 rfl rfl rfl h35) rfl rfl ?_
  refine RS.op (u:=.bool false) (want1 rfl rfl rfl h32) (q0p rfl h35 rfl) rfl rfl (RS.q (u:=.bool false) rfl (q0p rfl h32 rfl) ?_)
  refine sd ?_
  exact ⟨_,_,⟨rfl,rfl⟩,(Nat.le_of_ble_eq_true rfl),Gh.toC (n1:=7) ⟨rfl,rfl,rfl,rfl,rfl,rfl,rfl,rfl,trivial⟩ rfl (Nat.le_of_ble_eq_true rfl) (by simp)⟩
  replace hF:=q0f h27 hF
  refine st ?_
  refine WPU.exit ?_
  refine st ?_
  exact ⟨_,_,⟨l19,l20,hF,rfl,rfl⟩,(Nat.le_of_ble_eq_true rfl),Gh.toC (n1:=6) ⟨rfl,rfl,rfl,trivial⟩ rfl (Nat.le_of_ble_eq_true rfl) (by simp)⟩
def q4y  (l12:List Bool) (l13:List Bool):Option (Bool) :=
 some false
def q3k (p1:GFS) (n:Nat):Nat→Int→(List Bool)→(List Bool)→Option (Bool)
 | 0,_,_,_=>none
 | m1+1,z9,l10,l11 =>
  cond (decide (z9<(p1.Nodes.length:Int)))
   (bindO (bindO (idxV l10 0 ((p1.Nodes.length:Int).toNat) z9) fun x15 =>
   cond (!x15)
    (bindO (q25 n z9 ((p1.Nodes.length:Int).toNat) p1.Nodes ((p1.Nodes.length:Int).toNat) l11 l10) fun r18 =>
    some (r18.1,r18.2.2,r18.2.1))
    (some (false,l10,l11))) fun j25 =>
   cond j25.1
    (some true)
    ((q3k p1 n m1) (IntKind.i64.wrap (z9+1)) j25.2.1 j25.2.2))
   (q4y l10 l11)
def q3b (n:Nat) (p1:GFS):Option (Bool) :=
 needO (0≤(p1.Nodes.length:Int)∧1*(p1.Nodes.length:Int).toNat≤281474976710656∧(p1.Nodes.length:Int)≤281474976710656) (
 needO (0≤(p1.Nodes.length:Int)∧1*(p1.Nodes.length:Int).toNat≤281474976710656∧(p1.Nodes.length:Int)≤281474976710656) (
 q3k p1 n n 0 (List.replicate (p1.Nodes.length:Int).toNat false) (List.replicate (p1.Nodes.length:Int).toNat false)))
theorem graph_Cyclic_0 (n:Nat) (p1:GFS) (r:Bool) (hF:q3b n p1=some r):EvU Try.prog 22 [.agg [.isl false (List.map cGNode p1.Nodes)]] ⟨[],0⟩ (fun u _=>u = .bool r∧Bel 0 u):=by
 unfold q3b at hF
 refine EvU.of_body Try.tb_ok fn22 rfl ?_
 refine WPU.ghost (tm':=fr 33 [(0,.agg [.isl false (List.map cGNode p1.Nodes)])]) (Gh.start (Nat.le_of_ble_eq_true rfl)) (Nat.zero_le _) ?_
 refine sr ?_
 refine RS.q (u:=.ptr 0 0 0) (σ':=⟨[(0,.row [.isl false (List.map cGNode p1.Nodes)] 25)],1⟩) rfl (q2z rfl rfl rfl) ?_
 refine sd ?_
 obtain ⟨h2,hF⟩:=q1o hF
 obtain ⟨h3,hF⟩:=q1o hF
 refine WPU.drawQ Try.tb_ok [(3,some ((p1.Nodes.length:Int).toNat),(List.map cB (List.replicate (p1.Nodes.length:Int).toNat false)).flatten,4),(7,some ((p1.Nodes.length:Int).toNat),(List.map cB (List.replicate (p1.Nodes.length:Int).toNat false)).flatten,4),(8,none,[.nils],40),(9,none,[.nils],40)] [(4,10),(5,10),(6,10)] (nb:=1) (σe:=⟨[(0,.row [.isl false (List.map cGNode p1.Nodes)] 25)],5⟩) (σ1:=⟨[(4,.row [.nils] 40),(3,.row [.nils] 40),(2,.row (List.map cB (List.replicate (p1.Nodes.length:Int).toNat false)).flatten 4),(1,.row (List.map cB (List.replicate (p1.Nodes.length:Int).toNat false)).flatten 4),(0,.row [.isl false (List.map cGNode p1.Nodes)] 25)],5⟩) (q:=[⟨3,1,some ((p1.Nodes.length:Int).toNat),(List.map cB (List.replicate (p1.Nodes.length:Int).toNat false)).flatten,4⟩,⟨7,2,some ((p1.Nodes.length:Int).toNat),(List.map cB (List.replicate (p1.Nodes.length:Int).toNat false)).flatten,4⟩,⟨8,3,none,[.nils],40⟩,⟨9,4,none,[.nils],40⟩]) (by kernel_rfl) (List.cons_ne_nil _ _) ⟨(q2m 0 (fun q=>bel_cB _ q) (List.replicate (p1.Nodes.length:Int).toNat false)),(q2m 0 (fun q=>bel_cB _ q) (List.replicate (p1.Nodes.length:Int).toNat false)),BUL.h,BUL.h,trivial⟩ rfl rfl rfl rfl ?_
 refine RQ.early (u:=.ptr 0 0 0) rfl (q0u und25 rfl (q01 inf23) rfl rfl rfl) (q0u und25 rfl (q01 inf23) rfl rfl rfl) rfl BU.h rfl rfl ?_
 refine RQ.early (u:=.isl false (List.map cGNode p1.Nodes)) rfl (q06 und23 rfl rfl rfl rfl) (q06 und23 rfl rfl rfl rfl) rfl BU.h rfl rfl ?_
 refine RQ.early (u:=.int .i64 (p1.Nodes.length:Int)) rfl (q10 rfl rfl rfl (q0w cGNode und23)) (q10 rfl rfl rfl (q0w cGNode und23)) rfl BU.h rfl rfl ?_
 refine RQ.alloc rfl (fun s=>op_mks cB false rfl rfl und40 inf4 rfl rfl rfl rfl h2) rfl rfl rfl ?_
 refine RQ.early (u:=.ptr 0 0 0) rfl (q0u und25 rfl (q01 inf23) rfl rfl rfl) (q0u und25 rfl (q01 inf23) rfl rfl rfl) rfl BU.h rfl rfl ?_
 refine RQ.early (u:=.isl false (List.map cGNode p1.Nodes)) rfl (q06 und23 rfl rfl rfl rfl) (q06 und23 rfl rfl rfl rfl) rfl BU.h rfl rfl ?_
 refine RQ.early (u:=.int .i64 (p1.Nodes.length:Int)) rfl (q10 rfl rfl rfl (q0w cGNode und23)) (q10 rfl rfl rfl (q0w cGNode und23)) rfl BU.h rfl rfl ?_
 refine RQ.alloc rfl (fun s=>op_mks cB false rfl rfl und40 inf4 rfl rfl rfl rfl h3) rfl rfl rfl ?_
 refine RQ.alloc rfl (fun s=>q15 inf40 rfl rfl) rfl rfl rfl ?_
 refine RQ.alloc rfl (fun s=>q15 inf40 rfl rfl) rfl rfl rfl ?_
 refine RQ.loc (mk:=783) (σ':=⟨[(4,.row [.nils] 40),(3,.row [.sl 1 0 ((p1.Nodes.length:Int).toNat) ((p1.Nodes.length:Int).toNat)] 40),(2,.row (List.map cB (List.replicate (p1.Nodes.length:Int).toNat false)).flatten 4),(1,.row (List.map cB (List.replicate (p1.Nodes.length:Int).toNat false)).flatten 4),(0,.row [.isl false (List.map cGNode p1.Nodes)] 25)],5⟩) rfl (store_loc (q01 inf40) rfl rfl rfl rfl rfl rfl) (by kernel_rfl) rfl rfl rfl rfl ⟨.inl (show Nat.testBit 783 3=true by decide),⟨.inr ⟨show (2:Nat)≠3 by decide,BUL.h⟩,⟨.inl (show Nat.testBit 783 8=true by decide),⟨.inl (show Nat.testBit 783 9=true by decide),trivial⟩⟩⟩⟩ ?_
 refine RQ.actn (u:=.junk) (σ':=⟨[(4,.row [.sl 2 0 ((p1.Nodes.length:Int).toNat) ((p1.Nodes.length:Int).toNat)] 40),(3,.row [.sl 1 0 ((p1.Nodes.length:Int).toNat) ((p1.Nodes.length:Int).toNat)] 40),(2,.row (List.map cB (List.replicate (p1.Nodes.length:Int).toNat false)).flatten 4),(1,.row (List.map cB (List.replicate (p1.Nodes.length:Int).toNat false)).flatten 4),(0,.row [.isl false (List.map cGNode p1.Nodes)] 25)],5⟩) rfl (q0s (q01 inf40) rfl rfl rfl rfl rfl rfl rfl rfl) rfl ?_
 refine RQ.done ⟨by kernel_rfl,by kernel_rfl,⟨q0u und25 rfl (q01 inf23) rfl rfl rfl,⟨q06 und23 rfl rfl rfl rfl,⟨q10 rfl rfl rfl (q0w cGNode und23),trivial⟩⟩⟩,?_⟩
 refine sr ?_
 refine RS.q (u:=.ptr 5 0 0) (σ':=⟨[(5,.row [.nilf] 51),(4,.row [.sl 2 0 ((p1.Nodes.length:Int).toNat) ((p1.Nodes.length:Int).toNat)] 40),(3,.row [.sl 1 0 ((p1.Nodes.length:Int).toNat) ((p1.Nodes.length:Int).toNat)] 40),(2,.row (List.map cB (List.replicate (p1.Nodes.length:Int).toNat false)).flatten 4),(1,.row (List.map cB (List.replicate (p1.Nodes.length:Int).toNat false)).flatten 4),(0,.row [.isl false (List.map cGNode p1.Nodes)] 25)],6⟩) rfl (q15 inf51 rfl rfl) ?_
 refine se ?_
 refine RS.q rfl (op_fun rfl rfl) (RS.opn (u:=.junk) (σ':=⟨[(5,.row [.fn (.func 35) [] [.ptr 3 0 0,.ptr 0 0 0,.ptr 4 0 0,.ptr 5 0 0]] 51),(4,.row [.sl 2 0 ((p1.Nodes.length:Int).toNat) ((p1.Nodes.length:Int).toNat)] 40),(3,.row [.sl 1 0 ((p1.Nodes.length:Int).toNat) ((p1.Nodes.length:Int).toNat)] 40),(2,.row (List.map cB (List.replicate (p1.Nodes.length:Int).toNat false)).flatten 4),(1,.row (List.map cB (List.replicate (p1.Nodes.length:Int).toNat false)).flatten 4),(0,.row [.isl false (List.map cGNode p1.Nodes)] 25)],6⟩) rfl (q0s (q01 inf51) rfl rfl rfl rfl rfl rfl rfl rfl) rfl ?_)
 refine se ?_
 refine RS.q (u:=.ptr 0 0 0) rfl (q0u und25 rfl (q01 inf23) rfl rfl rfl) (RS.q (u:=.isl false (List.map cGNode p1.Nodes)) rfl (q06 und23 rfl rfl rfl rfl) (RS.q rfl (q10 rfl rfl rfl (q0w cGNode und23)) (RS.mv rfl rfl rfl rfl ?_)))
 refine sd ?_
 refine WPU.ghost (tm':=fr 33 [(4,.ptr 4 0 0),(5,.ptr 5 0 0),(18,.int .i64 (p1.Nodes.length:Int)),(19,.int .i64 0)]) (Gh.sub ⟨rfl,rfl,rfl,rfl,trivial⟩) (Nat.zero_le _) ?_
 refine WPU.loopK (fun m tm σ=>∃ z9:Int,∃ l10:List Bool,∃ l11:List Bool,q3k p1 n m z9 l10 l11=some r∧tm=fr 33 [(4,.ptr 4 0 0),(5,.ptr 5 0 0),(18,.int .i64 (p1.Nodes.length:Int)),(19,.int .i64 z9)]∧σ=⟨[(5,.row [.fn (.func 35) [] [.ptr 3 0 0,.ptr 0 0 0,.ptr 4 0 0,.ptr 5 0 0]] 51),(4,.row [.sl 2 0 ((p1.Nodes.length:Int).toNat) ((p1.Nodes.length:Int).toNat)] 40),(3,.row [.sl 1 0 ((p1.Nodes.length:Int).toNat) ((p1.Nodes.length:Int).toNat)] 40),(2,.row (List.map cB l10).flatten 4),(1,.row (List.map cB l11).flatten 4),(0,.row [.isl false (List.map cGNode p1.Nodes)] 25)],6⟩) (fun tm σ=>∃ l12:List Bool,∃ l13:List Bool,q4y l12 l13=some r∧tm=fr 33 []∧σ=⟨[(5,.row [.fn (.func 35) [] [.ptr 3 0 0,.ptr 0 0 0,.ptr 4 0 0,.ptr 5 0 0]] 51),(4,.row [.sl 2 0 ((p1.Nodes.length:Int).toNat) ((p1.Nodes.length:Int).toNat)] 40),(3,.row [.sl 1 0 ((p1.Nodes.length:Int).toNat) ((p1.Nodes.length:Int).toNat)] 40),(2,.row (List.map cB l12).flatten 4),(1,.row (List.map cB l13).flatten 4),(0,.row [.isl false (List.map cGNode p1.Nodes)] 25)],6⟩) n ⟨0,(List.replicate (p1.Nodes.length:Int).toNat false),(List.replicate (p1.Nodes.length:Int).toNat false),hF,rfl,rfl⟩ ?_ ?_
 rintro _ _ ⟨l12,l13,hF,rfl,rfl⟩
 unfold q4y at hF
 refine sr ?_
 refine sd ?_
 refine WPU.ret ?_
 refine st ?_
 have hr:=Option.some.inj hF
 subst hr
 exact ⟨.inr rfl,[.bool false],q1y rfl (q1e),.bool false,⟨[],0⟩,Nat.le_refl _,Gh.toR (.bool false) rfl,rfl,BU.h⟩
 rintro m1 _ _ ⟨z9,l10,l11,hF,rfl,rfl⟩
 rcases m1 with _ | m1
 cases hF
 unfold q3k at hF
 refine sr ?_
 refine RS.q rfl (q04 rfl rfl (q1n _ _ _) rfl) ?_
 refine sd ?_
 refine WPU.condS (t:=(decide (z9<(p1.Nodes.length:Int)))) rfl (fun h14=>?_) (fun h14=>?_)
 replace hF:=q0g h14 hF
 refine st ?_
 refine WPU.skip ?_
 refine st ?_
 refine WPU.block ?_
 refine sr ?_
 refine sd ?_
 obtain ⟨j25,h24,hF⟩:=q00 hF
 refine WPU.joinK (fun tm σ=>tm=fr 33 [(4,.ptr 4 0 0),(5,.ptr 5 0 0),(18,.int .i64 (p1.Nodes.length:Int)),(19,.int .i64 z9),(31,.bool j25.1)]∧σ=⟨[(5,.row [.fn (.func 35) [] [.ptr 3 0 0,.ptr 0 0 0,.ptr 4 0 0,.ptr 5 0 0]] 51),(4,.row [.sl 2 0 ((p1.Nodes.length:Int).toNat) ((p1.Nodes.length:Int).toNat)] 40),(3,.row [.sl 1 0 ((p1.Nodes.length:Int).toNat) ((p1.Nodes.length:Int).toNat)] 40),(2,.row (List.map cB j25.2.1).flatten 4),(1,.row (List.map cB j25.2.2).flatten 4),(0,.row [.isl false (List.map cGNode p1.Nodes)] 25)],6⟩) ?_ ?_
 rintro _ _ ⟨rfl,rfl⟩
 refine st ?_
 refine WPU.condS (t:=j25.1) rfl (fun h26=>?_) (fun h26=>?_)
 replace hF:=q0g h26 hF
 refine sr ?_
 refine sd ?_
 refine WPU.ret ?_
 refine st ?_
 have hr:=Option.some.inj hF
 subst hr
 exact ⟨.inr rfl,[.bool true],q1y rfl (q1e),.bool true,⟨[],0⟩,Nat.le_refl _,Gh.toR (.bool true) rfl,rfl,BU.h⟩
 replace hF:=q0f h26 hF
 refine st ?_
 refine WPU.skip ?_
 refine sr ?_
 refine RS.q rfl (q04 rfl rfl (q2y _ _ _) rfl) (RS.mv rfl rfl rfl rfl ?_)
 refine sd ?_
 exact ⟨m1,_,_,Nat.lt_succ_self _,⟨(IntKind.i64.wrap (z9+1)),j25.2.1,j25.2.2,hF,rfl,rfl⟩,(Nat.zero_le _),Gh.toC (n1:=6) ⟨rfl,rfl,rfl,rfl,trivial⟩ rfl (Nat.zero_le _) (by simp)⟩
 obtain ⟨x15,h16,h24⟩:=q00 h24
 rcases q3f (!x15) with h17 | h17
 replace h24:=q0g h17 h24
 obtain ⟨r18,h19,h24⟩:=q00 h24
 replace h24:=Option.some.inj h24
 subst h24
 refine sr ?_
 refine RS.q (u:=.sl 2 0 ((p1.Nodes.length:Int).toNat) ((p1.Nodes.length:Int).toNat)) rfl (q06 und40 rfl rfl rfl rfl) (RS.mv rfl rfl rfl rfl (RS.q (u:=.ptr 2 0 (0*1+z9.toNat*1)) rfl (q1t rfl rfl (q9a und40 (q01 inf4) rfl h16)) (RS.q (u:=.bool x15) rfl (q9e cB (fun x=>.bool x) und4 rfl (fun _=>rfl) rfl rfl h16) (RS.q (u:=.bool (!x15)) rfl (q7y rfl rfl rfl rfl) (RS.mv rfl rfl rfl rfl (RS.op (u:=.fn (.func 35) [] [.ptr 3 0 0,.ptr 0 0 0,.ptr 4 0 0,.ptr 5 0 0]) (want1 rfl rfl rfl h17) (q06 und51 rfl rfl rfl rfl) rfl rfl (RS.op (want1 rfl rfl rfl h17) (q2b rfl) rfl rfl ?_)))))))
 refine RS.callx (R:=fun u σ'=>∃ t20:Nat→Nat,u = .bool r18.1∧σ'=⟨[(5,.row [.fn (.func 35) [] [.ptr 3 0 0,.ptr 0 0 0,.ptr 4 0 0,.ptr 5 0 0]] 51),(4,.row [.sl 2 0 ((p1.Nodes.length:Int).toNat) ((p1.Nodes.length:Int).toNat)] 40),(3,.row [.sl 1 0 ((p1.Nodes.length:Int).toNat) ((p1.Nodes.length:Int).toNat)] 40),(2,.row (List.map cB r18.2.2).flatten 4),(1,.row (List.map cB r18.2.1).flatten 4),(0,.row [.isl false (List.map cGNode p1.Nodes)] 25)],6⟩) (args:=[.int .i64 z9,.ptr 3 0 0,.ptr 0 0 0,.ptr 4 0 0,.ptr 5 0 0]) (want1 rfl rfl rfl h17) (q02 rfl rfl fn35 hb35 rfl rfl) (EvU.st [3,0,4,5,1,2] (q6h n z9 ((p1.Nodes.length:Int).toNat) p1.Nodes ((p1.Nodes.length:Int).toNat) l11 l10 r18 h19 )) rfl rfl ?_
 rintro _ _ ⟨t20,rfl,rfl⟩
 refine RS.q (u:=.bool r18.1) rfl (q0r rfl h17 rfl) ?_
 refine sd ?_
 exact ⟨_,_,⟨rfl,rfl⟩,(Nat.zero_le _),Gh.toC (n1:=6) ⟨rfl,rfl,rfl,rfl,rfl,trivial⟩ rfl (Nat.zero_le _) (by simp)⟩
 replace h24:=q0f h17 h24
 replace h24:=Option.some.inj h24
 subst h24
 refine sr ?_
 refine RS.q (u:=.sl 2 0 ((p1.Nodes.length:Int).toNat) ((p1.Nodes.length:Int).toNat)) rfl (q06 und40 rfl rfl rfl rfl) (RS.mv rfl rfl rfl rfl (RS.q (u:=.ptr 2 0 (0*1+z9.toNat*1)) rfl (q1t rfl rfl (q9a und40 (q01 inf4) rfl h16)) (RS.q (u:=.bool x15) rfl (q9e cB (fun x=>.bool x) und4 rfl (fun _=>rfl) rfl rfl h16) (RS.q (u:=.bool (!x15)) rfl (q7y rfl rfl rfl rfl) (RS.mv rfl rfl rfl rfl ?_)))))
 repeat refine RS.no (want0 rfl rfl rfl h17) rfl rfl ?_
 refine RS.q (u:=.bool false) rfl (q0p rfl h17 rfl) ?_
 refine sd ?_
 exact ⟨_,_,⟨rfl,rfl⟩,(Nat.zero_le _),Gh.toC (n1:=6) ⟨rfl,rfl,rfl,rfl,rfl,trivial⟩ rfl (Nat.zero_le _) (by simp)⟩
 replace hF:=q0f h14 hF
 refine st ?_
 refine WPU.exit ?_
 refine st ?_
 exact ⟨_,_,⟨l10,l11,hF,rfl,rfl⟩,(Nat.zero_le _),Gh.toC (n1:=6) trivial rfl (Nat.zero_le _) (by simp)⟩
theorem q1r (n:Nat) (p1:GFS) (r:Bool) (hF:q3b n p1=some r) (σ:Sg):EvU Try.prog 22 [.agg [.isl false (List.map cGNode p1.Nodes)]] σ (fun u σ'=>u = .bool r∧σ'=σ) :=
 EvU.pure1C (graph_Cyclic_0 n p1 r hF) σ
def q30 (z20:Int) (rc2:Int→Bool→Int→(List Bool)→Option (Bool)) (z39:Int) (b40:Bool) (l41:List Bool):Option (Bool) :=
 rc2 z39 b40 (IntKind.i64.wrap (z20+1)) l41
def q31 (p1:GFS) (z18:Int) (b19:Bool) (z20:Int) (l21:List Bool) (rc2:Int→Bool→Int→(List Bool)→Option (Bool)) (b37:Bool):Option (Bool) :=
 cond b37
  (bindO (idxV l21 0 ((p1.Nodes.length:Int).toNat) z20) fun x42 =>
  q30 z20 rc2 (IntKind.i64.wrap (z18+1)) true (l21.set z20.toNat true))
  (q30 z20 rc2 z18 b19 l21)
def q3n (p1:GFS) (z18:Int) (b19:Bool) (z20:Int) (l21:List Bool) (rc2:Int→Bool→Int→(List Bool)→Option (Bool)):Nat→Bool→Int→Option (Bool)
 | 0,_,_=>none
 | m3+1,b35,z36 =>
  bindO (idxO p1.Nodes z20) fun x44 =>
  cond (decide (z36<(x44.Arcs.length:Int)))
   (bindO (cond b35
    (bindO (idxO p1.Nodes z20) fun x48 =>
    bindO (idxO x48.Arcs z36) fun x50 =>
    bindO (idxV l21 0 ((p1.Nodes.length:Int).toNat) x50.To) fun x52 =>
    some x52)
    (some false)) fun b54 =>
   (q3n p1 z18 b19 z20 l21 rc2 m3) b54 (IntKind.i64.wrap (z36+1)))
   (q31 p1 z18 b19 z20 l21 rc2 b35)
def q54 (rc1:Int→Bool→(List Bool)→Option (Bool)) (z22:Int) (b23:Bool) (l24:List Bool):Option (Bool) :=
 rc1 z22 b23 l24
def q21 (p1:GFS) (n:Nat) (rc1:Int→Bool→(List Bool)→Option (Bool)):Nat→Int→Bool→Int→(List Bool)→Option (Bool)
 | 0,_,_,_,_=>none
 | m2+1,z18,b19,z20,l21 =>
  cond (decide (z20<(p1.Nodes.length:Int)))
   (bindO (idxV l21 0 ((p1.Nodes.length:Int).toNat) z20) fun x26 =>
   q3n p1 z18 b19 z20 l21 (q21 p1 n rc1 m2) n (!x26) 0)
   (q54 rc1 z18 b19 l21)
def q53 (p1:GFS) (z10:Int) (l11:List Bool):Option (Bool) :=
 some (decide (z10<(p1.Nodes.length:Int)))
def q1h (p1:GFS) (n:Nat):Nat→Int→Bool→(List Bool)→Option (Bool)
 | 0,_,_,_=>none
 | m1+1,z7,b8,l9 =>
  cond b8
   (q21 p1 n (q1h p1 n m1) n z7 false 0 l9)
   (q53 p1 z7 l9)
def q44 (n:Nat) (p1:GFS):Option (Bool) :=
 needO (0≤(p1.Nodes.length:Int)∧1*(p1.Nodes.length:Int).toNat≤281474976710656∧(p1.Nodes.length:Int)≤281474976710656) (
 q1h p1 n n 0 true (List.replicate (p1.Nodes.length:Int).toNat false))
theorem ref07_Cyclic_0 (n:Nat) (p1:GFS) (r:Bool) (hF:q44 n p1=some r):EvU Try.prog 23 [.agg [.isl false (List.map cGNode p1.Nodes)]] ⟨[],0⟩ (fun u _=>u = .bool r∧Bel 0 u):=by
 unfold q44 at hF
 refine EvU.of_body Try.tb_ok fn23 rfl ?_
 refine WPU.ghost (tm':=fr 64 [(0,.agg [.isl false (List.map cGNode p1.Nodes)])]) (Gh.start (Nat.le_of_ble_eq_true rfl)) (Nat.zero_le _) ?_
 refine sr ?_
 refine RS.q (u:=.ptr 0 0 0) (σ':=⟨[(0,.row [.isl false (List.map cGNode p1.Nodes)] 25)],1⟩) rfl (q2z rfl rfl rfl) ?_
 refine sd ?_
 obtain ⟨h2,hF⟩:=q1o hF
 refine sr ?_
 refine RS.q (u:=.ptr 0 0 0) rfl (q0u und25 rfl (q01 inf23) rfl rfl rfl) (RS.q (u:=.isl false (List.map cGNode p1.Nodes)) rfl (q06 und23 rfl rfl rfl rfl) (RS.q rfl (q10 rfl rfl rfl (q0w cGNode und23)) (RS.q (u:=.sl 1 0 ((p1.Nodes.length:Int).toNat) ((p1.Nodes.length:Int).toNat)) (σ':=⟨[(1,.row (List.map cB (List.replicate (p1.Nodes.length:Int).toNat false)).flatten 4),(0,.row [.isl false (List.map cGNode p1.Nodes)] 25)],2⟩) rfl (op_mks cB false rfl rfl und40 inf4 rfl rfl rfl rfl h2) ?_)))
 refine se ?_
 refine se ?_
 refine sd ?_
 refine WPU.ghost (tm':=fr 64 [(1,.ptr 0 0 0),(3,.sl 1 0 ((p1.Nodes.length:Int).toNat) ((p1.Nodes.length:Int).toNat)),(4,.int .i64 0),(5,.bool true)]) (Gh.sub ⟨rfl,rfl,rfl,rfl,trivial⟩) (Nat.zero_le _) ?_
 refine WPU.loopK (fun m tm σ=>∃ z7:Int,∃ b8:Bool,∃ l9:List Bool,q1h p1 n m z7 b8 l9=some r∧tm=fr 64 [(1,.ptr 0 0 0),(3,.sl 1 0 ((p1.Nodes.length:Int).toNat) ((p1.Nodes.length:Int).toNat)),(4,.int .i64 z7),(5,.bool b8)]∧σ=⟨[(1,.row (List.map cB l9).flatten 4),(0,.row [.isl false (List.map cGNode p1.Nodes)] 25)],2⟩) (fun tm σ=>∃ z10:Int,∃ l11:List Bool,q53 p1 z10 l11=some r∧tm=fr 64 [(1,.ptr 0 0 0),(4,.int .i64 z10)]∧σ=⟨[(1,.row (List.map cB l11).flatten 4),(0,.row [.isl false (List.map cGNode p1.Nodes)] 25)],2⟩) n ⟨0,true,(List.replicate (p1.Nodes.length:Int).toNat false),hF,rfl,rfl⟩ ?_ ?_
 rintro _ _ ⟨z10,l11,hF,rfl,rfl⟩
 unfold q53 at hF
 refine sr ?_
 refine RS.q (u:=.ptr 0 0 0) rfl (q0u und25 rfl (q01 inf23) rfl rfl rfl) (RS.q (u:=.isl false (List.map cGNode p1.Nodes)) rfl (q06 und23 rfl rfl rfl rfl) (RS.q rfl (q10 rfl rfl rfl (q0w cGNode und23)) (RS.q rfl (q04 rfl rfl (q1n _ _ _) rfl) ?_)))
 refine sd ?_
 refine WPU.ret ?_
 refine st ?_
 have hr:=Option.some.inj hF
 subst hr
 exact ⟨.inr rfl,[.bool (decide (z10<(p1.Nodes.length:Int)))],q1y rfl (q1e),.bool (decide (z10<(p1.Nodes.length:Int))),⟨[],0⟩,Nat.le_refl _,Gh.toR (.bool (decide (z10<(p1.Nodes.length:Int)))) rfl,rfl,BU.h⟩
 rintro m1 _ _ ⟨z7,b8,l9,hF,rfl,rfl⟩
 rcases m1 with _ | m1
 cases hF
 unfold q1h at hF
 refine sr ?_
 refine sd ?_
 refine WPU.condS (t:=b8) rfl (fun h12=>?_) (fun h12=>?_)
 replace hF:=q0g h12 hF
 refine st ?_
 refine WPU.skip ?_
 refine st ?_
 refine WPU.block ?_
 refine sr ?_
 refine se ?_
 refine sd ?_
 refine WPU.ghost (tm':=fr 64 [(1,.ptr 0 0 0),(3,.sl 1 0 ((p1.Nodes.length:Int).toNat) ((p1.Nodes.length:Int).toNat)),(4,.int .i64 z7),(5,.bool false),(6,.int .i64 0)]) (Gh.sub ⟨rfl,rfl,rfl,rfl,rfl,trivial⟩) (Nat.zero_le _) ?_
 refine WPU.loopK (fun m tm σ=>∃ z18:Int,∃ b19:Bool,∃ z20:Int,∃ l21:List Bool,q21 p1 n (q1h p1 n m1) m z18 b19 z20 l21=some r∧tm=fr 64 [(1,.ptr 0 0 0),(3,.sl 1 0 ((p1.Nodes.length:Int).toNat) ((p1.Nodes.length:Int).toNat)),(4,.int .i64 z18),(5,.bool b19),(6,.int .i64 z20)]∧σ=⟨[(1,.row (List.map cB l21).flatten 4),(0,.row [.isl false (List.map cGNode p1.Nodes)] 25)],2⟩) (fun tm σ=>∃ z22:Int,∃ b23:Bool,∃ l24:List Bool,q54 (q1h p1 n m1) z22 b23 l24=some r∧tm=fr 64 [(1,.ptr 0 0 0),(3,.sl 1 0 ((p1.Nodes.length:Int).toNat) ((p1.Nodes.length:Int).toNat)),(4,.int .i64 z22),(5,.bool b23)]∧σ=⟨[(1,.row (List.map cB l24).flatten 4),(0,.row [.isl false (List.map cGNode p1.Nodes)] 25)],2⟩) n ⟨z7,false,0,l9,hF,rfl,rfl⟩ ?_ ?_
 rintro _ _ ⟨z22,b23,l24,hF,rfl,rfl⟩
 unfold q54 at hF
 refine st ?_
 exact ⟨m1,_,_,Nat.lt_succ_self _,⟨z22,b23,l24,hF,rfl,rfl⟩,(Nat.zero_le _),Gh.toC (n1:=2) ⟨rfl,rfl,rfl,rfl,trivial⟩ rfl (Nat.zero_le _) (by simp)⟩
 rintro m2 _ _ ⟨z18,b19,z20,l21,hF,rfl,rfl⟩
 rcases m2 with _ | m2
 cases hF
 unfold q21 at hF
 refine sr ?_
 refine RS.q (u:=.ptr 0 0 0) rfl (q0u und25 rfl (q01 inf23) rfl rfl rfl) (RS.q (u:=.isl false (List.map cGNode p1.Nodes)) rfl (q06 und23 rfl rfl rfl rfl) (RS.q rfl (q10 rfl rfl rfl (q0w cGNode und23)) (RS.q rfl (q04 rfl rfl (q1n _ _ _) rfl) ?_)))
 refine sd ?_
 refine WPU.condS (t:=(decide (z20<(p1.Nodes.length:Int)))) rfl (fun h25=>?_) (fun h25=>?_)
 replace hF:=q0g h25 hF
 refine st ?_
 refine WPU.skip ?_
 refine st ?_
 refine WPU.block ?_
 refine st ?_
 obtain ⟨x26,h27,hF⟩:=q00 hF
 refine sr ?_
 repeat refine RS.mv rfl rfl rfl rfl ?_
 refine RS.q (u:=.ptr 1 0 (0*1+z20.toNat*1)) rfl (q1t rfl rfl (q9a und40 (q01 inf4) rfl h27)) (RS.q (u:=.bool x26) rfl (q9e cB (fun x=>.bool x) und4 rfl (fun _=>rfl) rfl rfl h27) (RS.q (u:=.bool (!x26)) rfl (q7y rfl rfl rfl rfl) ?_))
 refine se ?_
 refine sd ?_
 refine WPU.ghost (tm':=fr 64 [(1,.ptr 0 0 0),(3,.sl 1 0 ((p1.Nodes.length:Int).toNat) ((p1.Nodes.length:Int).toNat)),(4,.int .i64 z18),(5,.bool b19),(6,.int .i64 z20),(7,.bool (!x26)),(8,.int .i64 0)]) (Gh.sub ⟨rfl,rfl,rfl,rfl,rfl,rfl,rfl,trivial⟩) (Nat.zero_le _) ?_
 refine WPU.loopK (fun m tm σ=>∃ b35:Bool,∃ z36:Int,q3n p1 z18 b19 z20 l21 (q21 p1 n (q1h p1 n m1) m2) m b35 z36=some r∧tm=fr 64 [(1,.ptr 0 0 0),(3,.sl 1 0 ((p1.Nodes.length:Int).toNat) ((p1.Nodes.length:Int).toNat)),(4,.int .i64 z18),(5,.bool b19),(6,.int .i64 z20),(7,.bool b35),(8,.int .i64 z36)]∧σ=⟨[(1,.row (List.map cB l21).flatten 4),(0,.row [.isl false (List.map cGNode p1.Nodes)] 25)],2⟩) (fun tm σ=>∃ b37:Bool,q31 p1 z18 b19 z20 l21 (q21 p1 n (q1h p1 n m1) m2) b37=some r∧tm=fr 64 [(1,.ptr 0 0 0),(3,.sl 1 0 ((p1.Nodes.length:Int).toNat) ((p1.Nodes.length:Int).toNat)),(4,.int .i64 z18),(5,.bool b19),(6,.int .i64 z20),(7,.bool b37)]∧σ=⟨[(1,.row (List.map cB l21).flatten 4),(0,.row [.isl false (List.map cGNode p1.Nodes)] 25)],2⟩) n ⟨(!x26),0,hF,rfl,rfl⟩ ?_ ?_
 rintro _ _ ⟨b37,hF,rfl,rfl⟩
 unfold q31 at hF
 refine sr ?_
 refine sd ?_
 refine WPU.joinK (fun tm σ=>∃ z39:Int,∃ b40:Bool,∃ l41:List Bool,q30 z20 (q21 p1 n (q1h p1 n m1) m2) z39 b40 l41=some r∧tm=fr 64 [(1,.ptr 0 0 0),(3,.sl 1 0 ((p1.Nodes.length:Int).toNat) ((p1.Nodes.length:Int).toNat)),(4,.int .i64 z39),(5,.bool b40),(6,.int .i64 z20)]∧σ=⟨[(1,.row (List.map cB l41).flatten 4),(0,.row [.isl false (List.map cGNode p1.Nodes)] 25)],2⟩) ?_ ?_
 rintro _ _ ⟨z39,b40,l41,hF,rfl,rfl⟩
 unfold q30 at hF
 refine sr ?_
 refine RS.q rfl (q04 rfl rfl (q2y _ _ _) rfl) ?_
 refine sd ?_
 exact ⟨m2,_,_,Nat.lt_succ_self _,⟨z39,b40,(IntKind.i64.wrap (z20+1)),l41,hF,rfl,rfl⟩,(Nat.zero_le _),Gh.toC (n1:=2) ⟨rfl,rfl,rfl,rfl,rfl,trivial⟩ rfl (Nat.zero_le _) (by simp)⟩
 refine WPU.condS (t:=b37) rfl (fun h38=>?_) (fun h38=>?_)
 replace hF:=q0g h38 hF
 refine st ?_
 obtain ⟨x42,h43,hF⟩:=q00 hF
 refine sr ?_
 repeat refine RS.mv rfl rfl rfl rfl ?_
 refine RS.q (u:=.ptr 1 0 (0*1+z20.toNat*1)) rfl (q1t rfl rfl (q9a und40 (q01 inf4) rfl h43)) (RS.opn (u:=.junk) (σ':=⟨[(1,.row (List.map cB (l21.set z20.toNat true)).flatten 4),(0,.row [.isl false (List.map cGNode p1.Nodes)] 25)],2⟩) rfl (st_rl cB (q01 inf4) len_cB rfl rfl rfl rfl rfl rfl h43 rfl) rfl ?_)
 refine se ?_
 refine RS.q rfl (q04 rfl rfl (q2y _ _ _) rfl) ?_
 refine se ?_
 refine sd ?_
 exact ⟨_,_,⟨(IntKind.i64.wrap (z18+1)),true,(l21.set z20.toNat true),hF,rfl,rfl⟩,(Nat.zero_le _),Gh.toC (n1:=2) ⟨rfl,rfl,rfl,rfl,rfl,trivial⟩ rfl (Nat.zero_le _) (by simp)⟩
 replace hF:=q0f h38 hF
 refine st ?_
 refine WPU.skip ?_
 refine st ?_
 exact ⟨_,_,⟨z18,b19,l21,hF,rfl,rfl⟩,(Nat.zero_le _),Gh.toC (n1:=2) ⟨rfl,rfl,rfl,rfl,rfl,trivial⟩ rfl (Nat.zero_le _) (by simp)⟩
 rintro m3 _ _ ⟨b35,z36,hF,rfl,rfl⟩
 rcases m3 with _ | m3
 cases hF
 unfold q3n at hF
 refine st ?_
 obtain ⟨x44,h45,hF⟩:=q00 hF
 refine sr ?_
 refine RS.q (u:=.ptr 0 0 0) rfl (q0u und25 rfl (q01 inf23) rfl rfl rfl) (RS.q (u:=.isl false (List.map cGNode p1.Nodes)) rfl (q06 und23 rfl rfl rfl rfl) (RS.mv rfl rfl rfl rfl (RS.q (u:=.iptr (cGNode x44)) rfl (q1t rfl rfl (q2g cGNode und23 (q01 inf43) q1b h45 rfl)) (RS.q (u:=.iptr [.isl false (List.map cGArc x44.Arcs)]) rfl (q68 und43 rfl (q01 inf41) rfl rfl) (RS.q (u:=.isl false (List.map cGArc x44.Arcs)) rfl (q3h und41 rfl rfl rfl) (RS.q rfl (q10 rfl rfl rfl (q0w cGArc und41)) (RS.q rfl (q04 rfl rfl (q1n _ _ _) rfl) ?_)))))))
 refine sd ?_
 refine WPU.condS (t:=(decide (z36<(x44.Arcs.length:Int)))) rfl (fun h46=>?_) (fun h46=>?_)
 replace hF:=q0g h46 hF
 refine st ?_
 refine WPU.skip ?_
 refine st ?_
 refine WPU.block ?_
 refine st ?_
 obtain ⟨b54,h55,hF⟩:=q00 hF
 refine WPU.joinK (fun tm σ=>tm=fr 64 [(1,.ptr 0 0 0),(3,.sl 1 0 ((p1.Nodes.length:Int).toNat) ((p1.Nodes.length:Int).toNat)),(4,.int .i64 z18),(5,.bool b19),(6,.int .i64 z20),(7,.bool b54),(8,.int .i64 z36)]∧σ=⟨[(1,.row (List.map cB l21).flatten 4),(0,.row [.isl false (List.map cGNode p1.Nodes)] 25)],2⟩) ?_ ?_
 rintro _ _ ⟨rfl,rfl⟩
 refine sr ?_
 refine RS.q rfl (q04 rfl rfl (q2y _ _ _) rfl) ?_
 refine sd ?_
 exact ⟨m3,_,_,Nat.lt_succ_self _,⟨b54,(IntKind.i64.wrap (z36+1)),hF,rfl,rfl⟩,(Nat.zero_le _),Gh.toC (n1:=2) ⟨rfl,rfl,rfl,rfl,rfl,rfl,rfl,trivial⟩ rfl (Nat.zero_le _) (by simp)⟩
 rcases q3f b35 with h47 | h47
 replace h55:=q0g h47 h55
 obtain ⟨x48,h49,h55⟩:=q00 h55
 obtain ⟨x50,h51,h55⟩:=q00 h55
 obtain ⟨x52,h53,h55⟩:=q00 h55
 replace h55:=Option.some.inj h55
 subst h55
 refine sr ?_
 repeat refine RS.mv rfl rfl rfl rfl ?_
 refine RS.op (want1 rfl rfl rfl h47) (q2b rfl) rfl rfl (RS.op (u:=.ptr 0 0 0) (want1 rfl rfl rfl h47) (q0u und25 rfl (q01 inf23) rfl rfl rfl) rfl rfl (RS.op (u:=.isl false (List.map cGNode p1.Nodes)) (want1 rfl rfl rfl h47) (q06 und23 rfl rfl rfl rfl) rfl rfl (RS.op (want1 rfl rfl rfl h47) (q2b rfl) rfl rfl (RS.op (u:=.iptr (cGNode x48)) (want1 rfl rfl rfl h47) (q1t rfl rfl (q2g cGNode und23 (q01 inf43) q1b h49 rfl)) rfl rfl (RS.op (u:=.iptr [.isl false (List.map cGArc x48.Arcs)]) (want1 rfl rfl rfl h47) (q68 und43 rfl (q01 inf41) rfl rfl) rfl rfl (RS.op (u:=.isl false (List.map cGArc x48.Arcs)) (want1 rfl rfl rfl h47) (q3h und41 rfl rfl rfl) rfl rfl (RS.op (want1 rfl rfl rfl h47) (q2b rfl) rfl rfl ?_)))))))
 refine RS.op (u:=.iptr (cGArc x50)) (want1 rfl rfl rfl h47) (q1t rfl rfl (q2g cGArc und41 (q01 inf45) q0e h51 rfl)) rfl rfl (RS.op (u:=.iptr [.int .i64 x50.To]) (want1 rfl rfl rfl h47) (q68 und45 rfl (q01 inf3) rfl rfl) rfl rfl (RS.op (u:=.int .i64 x50.To) (want1 rfl rfl rfl h47) (q3h und3 rfl rfl rfl) rfl rfl (RS.op (u:=.ptr 1 0 (0*1+x50.To.toNat*1)) (want1 rfl rfl rfl h47) (q1t rfl rfl (q9a und40 (q01 inf4) rfl h53)) rfl rfl (RS.op (u:=.bool x52) (want1 rfl rfl rfl h47) (q9e cB (fun x=>.bool x) und4 rfl (fun _=>rfl) rfl rfl h53) rfl rfl (RS.q (u:=.bool x52) rfl (q0r rfl h47 rfl) ?_)))))
 refine sd ?_
 exact ⟨_,_,⟨rfl,rfl⟩,(Nat.zero_le _),Gh.toC (n1:=2) ⟨rfl,rfl,rfl,rfl,rfl,rfl,rfl,trivial⟩ rfl (Nat.zero_le _) (by simp)⟩
 replace h55:=q0f h47 h55
 replace h55:=Option.some.inj h55
 subst h55
 refine sr ?_
 repeat refine RS.mv rfl rfl rfl rfl ?_
 repeat refine RS.no (want0 rfl rfl rfl h47) rfl rfl ?_
 refine RS.q (u:=.bool false) rfl (q0p rfl h47 rfl) ?_
 refine sd ?_
 exact ⟨_,_,⟨rfl,rfl⟩,(Nat.zero_le _),Gh.toC (n1:=2) ⟨rfl,rfl,rfl,rfl,rfl,rfl,rfl,trivial⟩ rfl (Nat.zero_le _) (by simp)⟩
 replace hF:=q0f h46 hF
 refine st ?_
 refine WPU.exit ?_
 refine st ?_
 exact ⟨_,_,⟨b35,hF,rfl,rfl⟩,(Nat.zero_le _),Gh.toC (n1:=2) ⟨rfl,rfl,rfl,rfl,rfl,rfl,trivial⟩ rfl (Nat.zero_le _) (by simp)⟩
 replace hF:=q0f h25 hF
 refine st ?_
 refine WPU.exit ?_
 refine st ?_
 exact ⟨_,_,⟨z18,b19,l21,hF,rfl,rfl⟩,(Nat.zero_le _),Gh.toC (n1:=2) ⟨rfl,rfl,rfl,rfl,trivial⟩ rfl (Nat.zero_le _) (by simp)⟩
 replace hF:=q0f h12 hF
 refine st ?_
 refine WPU.exit ?_
 refine st ?_
 exact ⟨_,_,⟨z7,l9,hF,rfl,rfl⟩,(Nat.zero_le _),Gh.toC (n1:=2) ⟨rfl,rfl,trivial⟩ rfl (Nat.zero_le _) (by simp)⟩
theorem q7z (n:Nat) (p1:GFS) (r:Bool) (hF:q44 n p1=some r) (σ:Sg):EvU Try.prog 23 [.agg [.isl false (List.map cGNode p1.Nodes)]] σ (fun u σ'=>u = .bool r∧σ'=σ) :=
 EvU.pure1C (ref07_Cyclic_0 n p1 r hF) σ
def q1s (p1:List GNode) (p2:List GNode)  : Option (Int) :=
 cond (decide ((p1.length:Int)<(p2.length:Int)))
  (some (-1))
  (some 0)
def q12 (p1:List GNode) (p2:List GNode) (f2:GNode→GNode→Option (Int)):Nat→Int→Option (Int)
 | 0,_=>none
 | m1+1,z8 =>
  cond (decide (z8<(p1.length:Int)))
   (bindO (idxO p1 z8) fun x11 =>
   cond (decide (z8 ≥ (p2.length:Int)))
    (some 1)
    (bindO (idxO p2 z8) fun x14 =>
    bindO (f2 x11 x14) fun r16 =>
    cond (r16 != 0)
     (some r16)
     ((q12 p1 p2 f2 m1) (IntKind.i64.wrap (z8+1)))))
   (q1s p1 p2)
def q18 (f2:GNode→GNode→Option (Int)) (n:Nat) (p1:List GNode) (p2:List GNode):Option (Int) :=
 q12 p1 p2 f2 n 0
theorem q4h (f2:GNode→GNode→Option (Int)) (hf2:∀ (a0:GNode) (a1:GNode) (r:Int),f2 a0 a1=some r→EvU Try.prog 38 [.agg (cGNode a0),.agg (cGNode a1)] ⟨[],0⟩ (fun u _=>u = .int .i64 r∧Bel 0 u)) (n:Nat) (p1:List GNode) (p2:List GNode) (r:Int) (hF:q18 f2 n p1 p2=some r):EvU Try.prog 37 [.isl false (List.map cGNode p1),.isl false (List.map cGNode p2),.fn (.func 38) [] []] ⟨[],0⟩ (fun u _=>u = .int .i64 r∧Bel 0 u):=by
 unfold q18 at hF
 have hf2S:∀ (a0:GNode) (a1:GNode) (r:Int),f2 a0 a1=some r→∀ σ,EvU Try.prog 38 [.agg (cGNode a0),.agg (cGNode a1)] σ (fun u σ'=>u = .int .i64 r∧σ'=σ):=fun a0 a1 r h σ=>EvU.pure1C (hf2 a0 a1 r h) σ
 refine EvU.of_body Try.tb_ok fn37 rfl ?_
 refine WPU.ghost (tm':=fr 39 [(0,.isl false (List.map cGNode p1)),(1,.isl false (List.map cGNode p2)),(2,.fn (.func 38) [] [])]) (Gh.start (Nat.le_of_ble_eq_true rfl)) (Nat.zero_le _) ?_
 refine sr ?_
 refine se ?_
 refine RS.q rfl (q10 rfl rfl rfl (q0w cGNode und23)) (RS.mv rfl rfl rfl rfl ?_)
 refine sd ?_
 refine WPU.ghost (tm':=fr 39 [(0,.isl false (List.map cGNode p1)),(1,.isl false (List.map cGNode p2)),(2,.fn (.func 38) [] []),(11,.isl false (List.map cGNode p1)),(12,.int .i64 (p1.length:Int)),(13,.int .i64 0)]) (Gh.sub ⟨rfl,rfl,rfl,rfl,rfl,rfl,trivial⟩) (Nat.zero_le _) ?_
 refine WPU.loopK (fun m tm σ=>∃ z8:Int,q12 p1 p2 f2 m z8=some r∧tm=fr 39 [(0,.isl false (List.map cGNode p1)),(1,.isl false (List.map cGNode p2)),(2,.fn (.func 38) [] []),(11,.isl false (List.map cGNode p1)),(12,.int .i64 (p1.length:Int)),(13,.int .i64 z8)]∧σ=⟨[],0⟩) (fun tm σ=>q1s p1 p2=some r∧tm=fr 39 [(0,.isl false (List.map cGNode p1)),(1,.isl false (List.map cGNode p2))]∧σ=⟨[],0⟩) n ⟨0,hF,rfl,rfl⟩ ?_ ?_
 rintro _ _ ⟨hF,rfl,rfl⟩
 unfold q1s at hF
 refine sr ?_
 refine RS.q rfl (q10 rfl rfl rfl (q0w cGNode und23)) (RS.mv rfl rfl rfl rfl (RS.q rfl (q10 rfl rfl rfl (q0w cGNode und23)) (RS.q rfl (q04 rfl rfl (q1n _ _ _) rfl) ?_)))
 refine sd ?_
 refine WPU.condS (t:=(decide ((p1.length:Int)<(p2.length:Int)))) rfl (fun h9=>?_) (fun h9=>?_)
 replace hF:=q0g h9 hF
 refine sr ?_
 refine sd ?_
 refine WPU.ret ?_
 refine st ?_
 have hr:=Option.some.inj hF
 subst hr
 exact ⟨.inr rfl,[.int .i64 (-1)],q1y rfl (q1e),.int .i64 (-1),⟨[],0⟩,Nat.le_refl _,Gh.toR (.int .i64 (-1)) rfl,rfl,BU.h⟩
 replace hF:=q0f h9 hF
 refine st ?_
 refine WPU.skip ?_
 refine sr ?_
 refine sd ?_
 refine WPU.ret ?_
 refine st ?_
 have hr:=Option.some.inj hF
 subst hr
 exact ⟨.inr rfl,[.int .i64 0],q1y rfl (q1e),.int .i64 0,⟨[],0⟩,Nat.le_refl _,Gh.toR (.int .i64 0) rfl,rfl,BU.h⟩
 rintro m1 _ _ ⟨z8,hF,rfl,rfl⟩
 rcases m1 with _ | m1
 cases hF
 unfold q12 at hF
 refine sr ?_
 refine RS.q rfl (q04 rfl rfl (q1n _ _ _) rfl) ?_
 refine sd ?_
 refine WPU.condS (t:=(decide (z8<(p1.length:Int)))) rfl (fun h10=>?_) (fun h10=>?_)
 replace hF:=q0g h10 hF
 refine st ?_
 refine WPU.skip ?_
 refine st ?_
 refine WPU.block ?_
 refine st ?_
 obtain ⟨x11,h12,hF⟩:=q00 hF
 refine sr ?_
 refine RS.q (u:=.iptr (cGNode x11)) rfl (q1t rfl rfl (q2g cGNode und23 (q01 inf43) q1b h12 rfl)) (RS.q (u:=.agg (cGNode x11)) rfl (q7s und43 rfl (q01 inf43) rfl rfl) (RS.q (u:=.ptr 0 0 0) (σ':=⟨[(0,.row [.int .i64 0,.nils] 43)],1⟩) rfl (q15 inf43 rfl rfl) (RS.as rfl rfl rfl rfl (RS.opn (u:=.junk) (σ':=⟨[(0,.row (cGNode x11) 43)],1⟩) rfl (q0s (q01 inf43) rfl rfl rfl rfl rfl rfl rfl rfl) rfl ?_))))
 refine se ?_
 repeat refine RS.mv rfl rfl rfl rfl ?_
 refine RS.q rfl (q10 rfl rfl rfl (q0w cGNode und23)) (RS.q rfl (q04 rfl rfl (ix_geq _ _ _) rfl) ?_)
 refine sd ?_
 refine WPU.condS (t:=(decide (z8 ≥ (p2.length:Int)))) rfl (fun h13=>?_) (fun h13=>?_)
 replace hF:=q0g h13 hF
 refine sr ?_
 refine sd ?_
 refine WPU.ret ?_
 refine st ?_
 have hr:=Option.some.inj hF
 subst hr
 exact ⟨.inr rfl,[.int .i64 1],q1y rfl (q1e),.int .i64 1,⟨[],0⟩,Nat.le_refl _,Gh.toR (.int .i64 1) rfl,rfl,BU.h⟩
 replace hF:=q0f h13 hF
 refine st ?_
 refine WPU.skip ?_
 refine st ?_
 obtain ⟨x14,h15,hF⟩:=q00 hF
 refine sr ?_
 repeat refine RS.mv rfl rfl rfl rfl ?_
 refine RS.q (u:=.iptr (cGNode x14)) rfl (q1t rfl rfl (q2g cGNode und23 (q01 inf43) q1b h15 rfl)) (RS.q (u:=.agg (cGNode x14)) rfl (q7s und43 rfl (q01 inf43) rfl rfl) (RS.q (u:=.ptr 1 0 0) (σ':=⟨[(1,.row [.int .i64 0,.nils] 43),(0,.row (cGNode x11) 43)],2⟩) rfl (q15 inf43 rfl rfl) (RS.opn (u:=.junk) (σ':=⟨[(1,.row (cGNode x14) 43),(0,.row (cGNode x11) 43)],2⟩) rfl (q0s (q01 inf43) rfl rfl rfl rfl rfl rfl rfl rfl) rfl ?_)))
 refine sd ?_
 obtain ⟨r16,h17,hF⟩:=q00 hF
 refine sr ?_
 refine RS.q (u:=.agg (cGNode x11)) rfl (q0q und43 rfl (q01 inf43) rfl rfl rfl) (RS.q (u:=.agg (cGNode x14)) rfl (q0q und43 rfl (q01 inf43) rfl rfl rfl) (RS.call (u:=.int .i64 r16) (args:=[.agg (cGNode x11),.agg (cGNode x14)]) rfl (q02 rfl rfl fn38 hb38 rfl rfl) (hf2S x11 x14 r16 h17 _) rfl rfl ?_))
 refine se ?_
 refine RS.q rfl (q04 rfl rfl (q63 _ _ _) rfl) ?_
 refine sd ?_
 refine WPU.condS (t:=(r16 != 0)) rfl (fun h18=>?_) (fun h18=>?_)
 replace hF:=q0g h18 hF
 refine sr ?_
 refine sd ?_
 refine WPU.ret ?_
 refine st ?_
 have hr:=Option.some.inj hF
 subst hr
 exact ⟨.inr rfl,[.int .i64 r16],q1y rfl (q1e),.int .i64 r16,⟨[],0⟩,Nat.le_refl _,Gh.toR (.int .i64 r16) rfl,rfl,BU.h⟩
 replace hF:=q0f h18 hF
 refine st ?_
 refine WPU.skip ?_
 refine sr ?_
 refine RS.q rfl (q04 rfl rfl (q2y _ _ _) rfl) (RS.mv rfl rfl rfl rfl ?_)
 refine sd ?_
 exact ⟨m1,_,_,Nat.lt_succ_self _,⟨(IntKind.i64.wrap (z8+1)),hF,rfl,rfl⟩,(Nat.zero_le _),Gh.toC (n1:=0) ⟨rfl,rfl,rfl,rfl,rfl,rfl,trivial⟩ rfl (Nat.zero_le _) (by simp)⟩
 replace hF:=q0f h10 hF
 refine st ?_
 refine WPU.exit ?_
 refine st ?_
 exact ⟨_,_,⟨hF,rfl,rfl⟩,(Nat.zero_le _),Gh.toC (n1:=0) ⟨rfl,rfl,trivial⟩ rfl (Nat.zero_le _) (by simp)⟩
theorem q46 (f2:GNode→GNode→Option (Int)) (hf2:∀ (a0:GNode) (a1:GNode) (r:Int),f2 a0 a1=some r→EvU Try.prog 38 [.agg (cGNode a0),.agg (cGNode a1)] ⟨[],0⟩ (fun u _=>u = .int .i64 r∧Bel 0 u)) (n:Nat) (p1:List GNode) (p2:List GNode) (r:Int) (hF:q18 f2 n p1 p2=some r) (σ:Sg):EvU Try.prog 37 [.isl false (List.map cGNode p1),.isl false (List.map cGNode p2),.fn (.func 38) [] []] σ (fun u σ'=>u = .int .i64 r∧σ'=σ) :=
 EvU.pure1C (q4h f2 hf2 n p1 p2 r hF) σ
def q74   : Option (Int) :=
 some 0
def q64 (p1:List Int):Nat→Int→Option (Int)
 | 0,_=>none
 | m1+1,z6 =>
  cond (decide (z6<(p1.length:Int)))
   (bindO (idxO p1 z6) fun x8 =>
   cond (x8 != 0)
    (some x8)
    ((q64 p1 m1) (IntKind.i64.wrap (z6+1))))
   (q74)
def q85 (n:Nat) (p1:List Int):Option (Int) :=
 q64 p1 n 0
theorem qae (n:Nat) (p1:List Int) (r:Int) (hF:q85 n p1=some r):EvU Try.prog 50 [.isl false (List.map (cI .i64) p1)] ⟨[],0⟩ (fun u _=>u = .int .i64 r∧Bel 0 u):=by
 unfold q85 at hF
 refine EvU.of_body Try.tb_ok fn50 rfl ?_
 refine WPU.ghost (tm':=fr 18 [(0,.isl false (List.map (cI .i64) p1))]) (Gh.start (Nat.le_of_ble_eq_true rfl)) (Nat.zero_le _) ?_
 refine sr ?_
 refine se ?_
 refine se ?_
 refine RS.q rfl (q10 rfl rfl rfl (q0w (cI .i64) und55)) (RS.mv rfl rfl rfl rfl ?_)
 refine sd ?_
 refine WPU.ghost (tm':=fr 18 [(3,.int .i64 0),(6,.isl false (List.map (cI .i64) p1)),(7,.int .i64 (p1.length:Int)),(8,.int .i64 0)]) (Gh.sub ⟨rfl,rfl,rfl,rfl,trivial⟩) (Nat.zero_le _) ?_
 refine WPU.loopK (fun m tm σ=>∃ z6:Int,q64 p1 m z6=some r∧tm=fr 18 [(3,.int .i64 0),(6,.isl false (List.map (cI .i64) p1)),(7,.int .i64 (p1.length:Int)),(8,.int .i64 z6)]∧σ=⟨[],0⟩) (fun tm σ=>q74=some r∧tm=fr 18 [(3,.int .i64 0)]∧σ=⟨[],0⟩) n ⟨0,hF,rfl,rfl⟩ ?_ ?_
 rintro _ _ ⟨hF,rfl,rfl⟩
 unfold q74 at hF
 refine sr ?_
 refine sd ?_
 refine WPU.ret ?_
 refine st ?_
 have hr:=Option.some.inj hF
 subst hr
 exact ⟨.inr rfl,[.int .i64 0],q1y rfl (q1e),.int .i64 0,⟨[],0⟩,Nat.le_refl _,Gh.toR (.int .i64 0) rfl,rfl,BU.h⟩
 rintro m1 _ _ ⟨z6,hF,rfl,rfl⟩
 rcases m1 with _ | m1
 cases hF
 unfold q64 at hF
 refine sr ?_
 refine RS.q rfl (q04 rfl rfl (q1n _ _ _) rfl) ?_
 refine sd ?_
 refine WPU.condS (t:=(decide (z6<(p1.length:Int)))) rfl (fun h7=>?_) (fun h7=>?_)
 replace hF:=q0g h7 hF
 refine st ?_
 refine WPU.skip ?_
 refine st ?_
 refine WPU.block ?_
 refine st ?_
 obtain ⟨x8,h9,hF⟩:=q00 hF
 refine sr ?_
 refine RS.q (u:=.iptr [.int .i64 x8]) rfl (q1t rfl rfl (q2g (cI .i64) und55 (q01 inf3) (q52 .i64) h9 rfl)) (RS.q (u:=.int .i64 x8) rfl (q3h und3 rfl rfl rfl) ?_)
 refine se ?_
 repeat refine RS.mv rfl rfl rfl rfl ?_
 refine RS.q rfl (q04 rfl rfl (q63 _ _ _) rfl) ?_
 refine sd ?_
 refine WPU.condS (t:=(x8 != 0)) rfl (fun h10=>?_) (fun h10=>?_)
 replace hF:=q0g h10 hF
 refine sr ?_
 refine sd ?_
 refine WPU.ret ?_
 refine st ?_
 have hr:=Option.some.inj hF
 subst hr
 exact ⟨.inr rfl,[.int .i64 x8],q1y rfl (q1e),.int .i64 x8,⟨[],0⟩,Nat.le_refl _,Gh.toR (.int .i64 x8) rfl,rfl,BU.h⟩
 replace hF:=q0f h10 hF
 refine st ?_
 refine WPU.skip ?_
 refine sr ?_
 refine RS.q rfl (q04 rfl rfl (q2y _ _ _) rfl) (RS.mv rfl rfl rfl rfl ?_)
 refine sd ?_
 exact ⟨m1,_,_,Nat.lt_succ_self _,⟨(IntKind.i64.wrap (z6+1)),hF,rfl,rfl⟩,(Nat.zero_le _),Gh.toC (n1:=0) ⟨rfl,rfl,rfl,rfl,trivial⟩ rfl (Nat.zero_le _) (by simp)⟩
 replace hF:=q0f h7 hF
 refine st ?_
 refine WPU.exit ?_
 refine st ?_
 exact ⟨_,_,⟨hF,rfl,rfl⟩,(Nat.zero_le _),Gh.toC (n1:=0) ⟨rfl,trivial⟩ rfl (Nat.zero_le _) (by simp)⟩
def q1m (p1:List GArc) (p2:List GArc)  : Option (Int) :=
 cond (decide ((p1.length:Int)<(p2.length:Int)))
  (some (-1))
  (some 0)
def q0y (p1:List GArc) (p2:List GArc) (f2:GArc→GArc→Option (Int)):Nat→Int→Option (Int)
 | 0,_=>none
 | m1+1,z8 =>
  cond (decide (z8<(p1.length:Int)))
   (bindO (idxO p1 z8) fun x11 =>
   cond (decide (z8 ≥ (p2.length:Int)))
    (some 1)
    (bindO (idxO p2 z8) fun x14 =>
    bindO (f2 x11 x14) fun r16 =>
    cond (r16 != 0)
     (some r16)
     ((q0y p1 p2 f2 m1) (IntKind.i64.wrap (z8+1)))))
   (q1m p1 p2)
def q16 (f2:GArc→GArc→Option (Int)) (n:Nat) (p1:List GArc) (p2:List GArc):Option (Int) :=
 q0y p1 p2 f2 n 0
theorem q45 (f2:GArc→GArc→Option (Int)) (hf2:∀ (a0:GArc) (a1:GArc) (r:Int),f2 a0 a1=some r→EvU Try.prog 52 [.agg (cGArc a0),.agg (cGArc a1)] ⟨[],0⟩ (fun u _=>u = .int .i64 r∧Bel 0 u)) (n:Nat) (p1:List GArc) (p2:List GArc) (r:Int) (hF:q16 f2 n p1 p2=some r):EvU Try.prog 51 [.isl false (List.map cGArc p1),.isl false (List.map cGArc p2),.fn (.func 52) [] []] ⟨[],0⟩ (fun u _=>u = .int .i64 r∧Bel 0 u):=by
 unfold q16 at hF
 have hf2S:∀ (a0:GArc) (a1:GArc) (r:Int),f2 a0 a1=some r→∀ σ,EvU Try.prog 52 [.agg (cGArc a0),.agg (cGArc a1)] σ (fun u σ'=>u = .int .i64 r∧σ'=σ):=fun a0 a1 r h σ=>EvU.pure1C (hf2 a0 a1 r h) σ
 refine EvU.of_body Try.tb_ok fn51 rfl ?_
 refine WPU.ghost (tm':=fr 39 [(0,.isl false (List.map cGArc p1)),(1,.isl false (List.map cGArc p2)),(2,.fn (.func 52) [] [])]) (Gh.start (Nat.le_of_ble_eq_true rfl)) (Nat.zero_le _) ?_
 refine sr ?_
 refine se ?_
 refine RS.q rfl (q10 rfl rfl rfl (q0w cGArc und41)) (RS.mv rfl rfl rfl rfl ?_)
 refine sd ?_
 refine WPU.ghost (tm':=fr 39 [(0,.isl false (List.map cGArc p1)),(1,.isl false (List.map cGArc p2)),(2,.fn (.func 52) [] []),(11,.isl false (List.map cGArc p1)),(12,.int .i64 (p1.length:Int)),(13,.int .i64 0)]) (Gh.sub ⟨rfl,rfl,rfl,rfl,rfl,rfl,trivial⟩) (Nat.zero_le _) ?_
 refine WPU.loopK (fun m tm σ=>∃ z8:Int,q0y p1 p2 f2 m z8=some r∧tm=fr 39 [(0,.isl false (List.map cGArc p1)),(1,.isl false (List.map cGArc p2)),(2,.fn (.func 52) [] []),(11,.isl false (List.map cGArc p1)),(12,.int .i64 (p1.length:Int)),(13,.int .i64 z8)]∧σ=⟨[],0⟩) (fun tm σ=>q1m p1 p2=some r∧tm=fr 39 [(0,.isl false (List.map cGArc p1)),(1,.isl false (List.map cGArc p2))]∧σ=⟨[],0⟩) n ⟨0,hF,rfl,rfl⟩ ?_ ?_
 rintro _ _ ⟨hF,rfl,rfl⟩
 unfold q1m at hF
 refine sr ?_
 refine RS.q rfl (q10 rfl rfl rfl (q0w cGArc und41)) (RS.mv rfl rfl rfl rfl (RS.q rfl (q10 rfl rfl rfl (q0w cGArc und41)) (RS.q rfl (q04 rfl rfl (q1n _ _ _) rfl) ?_)))
 refine sd ?_
 refine WPU.condS (t:=(decide ((p1.length:Int)<(p2.length:Int)))) rfl (fun h9=>?_) (fun h9=>?_)
 replace hF:=q0g h9 hF
 refine sr ?_
 refine sd ?_
 refine WPU.ret ?_
 refine st ?_
 have hr:=Option.some.inj hF
 subst hr
 exact ⟨.inr rfl,[.int .i64 (-1)],q1y rfl (q1e),.int .i64 (-1),⟨[],0⟩,Nat.le_refl _,Gh.toR (.int .i64 (-1)) rfl,rfl,BU.h⟩
 replace hF:=q0f h9 hF
 refine st ?_
 refine WPU.skip ?_
 refine sr ?_
 refine sd ?_
 refine WPU.ret ?_
 refine st ?_
 have hr:=Option.some.inj hF
 subst hr
 exact ⟨.inr rfl,[.int .i64 0],q1y rfl (q1e),.int .i64 0,⟨[],0⟩,Nat.le_refl _,Gh.toR (.int .i64 0) rfl,rfl,BU.h⟩
 rintro m1 _ _ ⟨z8,hF,rfl,rfl⟩
 rcases m1 with _ | m1
 cases hF
 unfold q0y at hF
 refine sr ?_
 refine RS.q rfl (q04 rfl rfl (q1n _ _ _) rfl) ?_
 refine sd ?_
 refine WPU.condS (t:=(decide (z8<(p1.length:Int)))) rfl (fun h10=>?_) (fun h10=>?_)
 replace hF:=q0g h10 hF
 refine st ?_
 refine WPU.skip ?_
 refine st ?_
 refine WPU.block ?_
 refine st ?_
 obtain ⟨x11,h12,hF⟩:=q00 hF
 refine sr ?_
 refine RS.q (u:=.iptr (cGArc x11)) rfl (q1t rfl rfl (q2g cGArc und41 (q01 inf45) q0e h12 rfl)) (RS.q (u:=.agg (cGArc x11)) rfl (q7s und45 rfl (q01 inf45) rfl rfl) (RS.q (u:=.ptr 0 0 0) (σ':=⟨[(0,.row [.int .i64 0,.int .i64 0] 45)],1⟩) rfl (q15 inf45 rfl rfl) (RS.as rfl rfl rfl rfl (RS.opn (u:=.junk) (σ':=⟨[(0,.row (cGArc x11) 45)],1⟩) rfl (q0s (q01 inf45) rfl rfl rfl rfl rfl rfl rfl rfl) rfl ?_))))
 refine se ?_
 repeat refine RS.mv rfl rfl rfl rfl ?_
 refine RS.q rfl (q10 rfl rfl rfl (q0w cGArc und41)) (RS.q rfl (q04 rfl rfl (ix_geq _ _ _) rfl) ?_)
 refine sd ?_
 refine WPU.condS (t:=(decide (z8 ≥ (p2.length:Int)))) rfl (fun h13=>?_) (fun h13=>?_)
 replace hF:=q0g h13 hF
 refine sr ?_
 refine sd ?_
 refine WPU.ret ?_
 refine st ?_
 have hr:=Option.some.inj hF
 subst hr
 exact ⟨.inr rfl,[.int .i64 1],q1y rfl (q1e),.int .i64 1,⟨[],0⟩,Nat.le_refl _,Gh.toR (.int .i64 1) rfl,rfl,BU.h⟩
 replace hF:=q0f h13 hF
 refine st ?_
 refine WPU.skip ?_
 refine st ?_
 obtain ⟨x14,h15,hF⟩:=q00 hF
 refine sr ?_
 repeat refine RS.mv rfl rfl rfl rfl ?_
 refine RS.q (u:=.iptr (cGArc x14)) rfl (q1t rfl rfl (q2g cGArc und41 (q01 inf45) q0e h15 rfl)) (RS.q (u:=.agg (cGArc x14)) rfl (q7s und45 rfl (q01 inf45) rfl rfl) (RS.q (u:=.ptr 1 0 0) (σ':=⟨[(1,.row [.int .i64 0,.int .i64 0] 45),(0,.row (cGArc x11) 45)],2⟩) rfl (q15 inf45 rfl rfl) (RS.opn (u:=.junk) (σ':=⟨[(1,.row (cGArc x14) 45),(0,.row (cGArc x11) 45)],2⟩) rfl (q0s (q01 inf45) rfl rfl rfl rfl rfl rfl rfl rfl) rfl ?_)))
 refine sd ?_
 obtain ⟨r16,h17,hF⟩:=q00 hF
 refine sr ?_
 refine RS.q (u:=.agg (cGArc x11)) rfl (q0q und45 rfl (q01 inf45) rfl rfl rfl) (RS.q (u:=.agg (cGArc x14)) rfl (q0q und45 rfl (q01 inf45) rfl rfl rfl) (RS.call (u:=.int .i64 r16) (args:=[.agg (cGArc x11),.agg (cGArc x14)]) rfl (q02 rfl rfl fn52 hb52 rfl rfl) (hf2S x11 x14 r16 h17 _) rfl rfl ?_))
 refine se ?_
 refine RS.q rfl (q04 rfl rfl (q63 _ _ _) rfl) ?_
 refine sd ?_
 refine WPU.condS (t:=(r16 != 0)) rfl (fun h18=>?_) (fun h18=>?_)
 replace hF:=q0g h18 hF
 refine sr ?_
 refine sd ?_
 refine WPU.ret ?_
 refine st ?_
 have hr:=Option.some.inj hF
 subst hr
 exact ⟨.inr rfl,[.int .i64 r16],q1y rfl (q1e),.int .i64 r16,⟨[],0⟩,Nat.le_refl _,Gh.toR (.int .i64 r16) rfl,rfl,BU.h⟩
 replace hF:=q0f h18 hF
 refine st ?_
 refine WPU.skip ?_
 refine sr ?_
 refine RS.q rfl (q04 rfl rfl (q2y _ _ _) rfl) (RS.mv rfl rfl rfl rfl ?_)
 refine sd ?_
 exact ⟨m1,_,_,Nat.lt_succ_self _,⟨(IntKind.i64.wrap (z8+1)),hF,rfl,rfl⟩,(Nat.zero_le _),Gh.toC (n1:=0) ⟨rfl,rfl,rfl,rfl,rfl,rfl,trivial⟩ rfl (Nat.zero_le _) (by simp)⟩
 replace hF:=q0f h10 hF
 refine st ?_
 refine WPU.exit ?_
 refine st ?_
 exact ⟨_,_,⟨hF,rfl,rfl⟩,(Nat.zero_le _),Gh.toC (n1:=0) ⟨rfl,rfl,trivial⟩ rfl (Nat.zero_le _) (by simp)⟩
theorem q42 (f2:GArc→GArc→Option (Int)) (hf2:∀ (a0:GArc) (a1:GArc) (r:Int),f2 a0 a1=some r→EvU Try.prog 52 [.agg (cGArc a0),.agg (cGArc a1)] ⟨[],0⟩ (fun u _=>u = .int .i64 r∧Bel 0 u)) (n:Nat) (p1:List GArc) (p2:List GArc) (r:Int) (hF:q16 f2 n p1 p2=some r) (σ:Sg):EvU Try.prog 51 [.isl false (List.map cGArc p1),.isl false (List.map cGArc p2),.fn (.func 52) [] []] σ (fun u σ'=>u = .int .i64 r∧σ'=σ) :=
 EvU.pure1C (q45 f2 hf2 n p1 p2 r hF) σ
def q3j (n:Nat) (p1:GArc) (p2:GArc):Option (Int) :=
 bindO (q1q n p1.Feat p2.Feat) fun r3 =>
 bindO (q1q n p1.To p2.To) fun r5 =>
 bindO (q85 n ([r3,r5])) fun r7 =>
 some r7
theorem q7n (n:Nat) (p1:GArc) (p2:GArc) (r:Int) (hF:q3j n p1 p2=some r):EvU Try.prog 52 [.agg (cGArc p1),.agg (cGArc p2)] ⟨[],0⟩ (fun u _=>u = .int .i64 r∧Bel 0 u):=by
 unfold q3j at hF
 refine EvU.of_body Try.tb_ok fn52 rfl ?_
 refine WPU.ghost (tm':=fr 17 [(0,.agg (cGArc p1)),(1,.agg (cGArc p2))]) (Gh.start (Nat.le_of_ble_eq_true rfl)) (Nat.zero_le _) ?_
 refine sr ?_
 refine RS.q (u:=.ptr 0 0 0) (σ':=⟨[(0,.row (cGArc p1) 45)],1⟩) rfl (q2z rfl rfl rfl) (RS.q (u:=.ptr 1 0 0) (σ':=⟨[(1,.row (cGArc p2) 45),(0,.row (cGArc p1) 45)],2⟩) rfl (q2z rfl rfl rfl) ?_)
 refine sd ?_
 obtain ⟨r3,h4,hF⟩:=q00 hF
 obtain ⟨r5,h6,hF⟩:=q00 hF
 obtain ⟨r7,h8,hF⟩:=q00 hF
 refine WPU.drawE Try.tb_ok [] (by kernel_rfl) ?_
 refine RD.q (u:=.ptr 0 0 0) rfl (q0u und45 rfl (q01 inf3) rfl rfl rfl) (RD.q (u:=.int .i64 p1.Feat) rfl (q06 und3 rfl rfl rfl rfl) (RD.q (u:=.ptr 1 0 0) rfl (q0u und45 rfl (q01 inf3) rfl rfl rfl) (RD.q (u:=.int .i64 p2.Feat) rfl (q06 und3 rfl rfl rfl rfl) (RD.free (u:=.int .i64 r3) (args:=[.int .i64 p1.Feat,.int .i64 p2.Feat]) rfl (q02 rfl rfl fn36 hb36 rfl rfl) (fun s=>q2n n p1.Feat p2.Feat r3 h4 s) rfl rfl (RD.q (u:=.ptr 0 0 1) rfl (q0u und45 rfl (q01 inf3) rfl rfl rfl) (RD.q (u:=.int .i64 p1.To) rfl (q06 und3 rfl rfl rfl rfl) (RD.q (u:=.ptr 1 0 1) rfl (q0u und45 rfl (q01 inf3) rfl rfl rfl) ?_)))))))
 refine RD.q (u:=.int .i64 p2.To) rfl (q06 und3 rfl rfl rfl rfl) (RD.free (u:=.int .i64 r5) (args:=[.int .i64 p1.To,.int .i64 p2.To]) rfl (q02 rfl rfl fn36 hb36 rfl rfl) (fun s=>q2n n p1.To p2.To r5 h6 s) rfl rfl (RD.act (u:=.sl 2 0 2 2) (σ':=⟨[(2,.row [.int .i64 r3,.int .i64 r5] 3),(1,.row (cGArc p2) 45),(0,.row (cGArc p1) 45)],3⟩) rfl (q26 und55 inf3 rfl rfl rfl rfl rfl rfl rfl) rfl rfl ?_))
 refine RD.call (u:=.int .i64 r7) (args:=[.sl 2 0 2 2]) rfl (q02 rfl rfl fn50 hb50 rfl rfl) (EvU.view (qae n ([r3,r5]) r7 h8) BUL.h (by simp only [toV,toVL,okL,okC,cond_true]<;>rfl) (fun m=>by simp [ren,renL]) (Gh.fz (tm':=[.isl false (List.map (cI .i64) ([r3,r5]))]) (h':=[(1,.row (cGArc p2) 45),(0,.row (cGArc p1) 45)]) 2 (.row [.int .i64 r3,.int .i64 r5] 3) 1 rfl (by simp) (by simp only [oneU,q07,q03,q0k,q09,q0n,q0d,q0c,q0b,q0a,q08,q0l,q0m,q0j,q0o,q1j,junkT,q20,q22,fz_cGArc,Nat.reduceLeDiff,Nat.reduceMul,List.length_cons,List.length_nil,Nat.reduceAdd]<;>simp only [chunks,List.take,List.drop,List.map,cI,cB,cS,cL]) (by simp only [fzH,fzB,ug,Nat.beq,cond_true,cond_false,oneU,q07,q03,q0k,q09,q0n,q0d,q0c,q0b,q0a,q08,q0l,q0m,q0j,q0o,q1j,junkT,q20,q22,fz_cGArc,Nat.reduceLeDiff,Nat.reduceMul,List.length_cons,List.length_nil,Nat.reduceAdd]<;>simp only [chunks,List.take,List.drop,List.map,cI,cB,cS,cL]))) rfl rfl ?_
 refine RD.as rfl rfl rfl rfl ?_
 refine RD.done ⟨by kernel_rfl,trivial,?_⟩
 refine st ?_
 refine WPU.ret ?_
 refine st ?_
 have hr:=Option.some.inj hF
 subst hr
 exact ⟨.inr rfl,[.int .i64 r7],q1y rfl (q1e),.int .i64 r7,⟨[],0⟩,Nat.le_refl _,Gh.toR (.int .i64 r7) rfl,rfl,BU.h⟩
def q3z (n:Nat) (p1:GNode) (p2:GNode):Option (Int) :=
 bindO (q1q n p1.Typex p2.Typex) fun r3 =>
 bindO (q1q n (p1.Arcs.length:Int) (p2.Arcs.length:Int)) fun r5 =>
 bindO (q85 n ([r3,r5])) fun r7 =>
 cond (r7 != 0)
  (some r7)
  (bindO (q16 (q3j n) n p1.Arcs p2.Arcs) fun r10 =>
  some r10)
theorem q8h (n:Nat) (p1:GNode) (p2:GNode) (r:Int) (hF:q3z n p1 p2=some r):EvU Try.prog 38 [.agg (cGNode p1),.agg (cGNode p2)] ⟨[],0⟩ (fun u _=>u = .int .i64 r∧Bel 0 u):=by
 unfold q3z at hF
 refine EvU.of_body Try.tb_ok fn38 rfl ?_
 refine WPU.ghost (tm':=fr 28 [(0,.agg (cGNode p1)),(1,.agg (cGNode p2))]) (Gh.start (Nat.le_of_ble_eq_true rfl)) (Nat.zero_le _) ?_
 refine sr ?_
 refine RS.q (u:=.ptr 0 0 0) (σ':=⟨[(0,.row (cGNode p1) 43)],1⟩) rfl (q2z rfl rfl rfl) (RS.q (u:=.ptr 1 0 0) (σ':=⟨[(1,.row (cGNode p2) 43),(0,.row (cGNode p1) 43)],2⟩) rfl (q2z rfl rfl rfl) ?_)
 refine sd ?_
 obtain ⟨r3,h4,hF⟩:=q00 hF
 obtain ⟨r5,h6,hF⟩:=q00 hF
 obtain ⟨r7,h8,hF⟩:=q00 hF
 refine WPU.drawE Try.tb_ok [] (by kernel_rfl) ?_
 refine RD.q (u:=.ptr 0 0 0) rfl (q0u und43 rfl (q01 inf3) rfl rfl rfl) (RD.q (u:=.int .i64 p1.Typex) rfl (q06 und3 rfl rfl rfl rfl) (RD.q (u:=.ptr 1 0 0) rfl (q0u und43 rfl (q01 inf3) rfl rfl rfl) (RD.q (u:=.int .i64 p2.Typex) rfl (q06 und3 rfl rfl rfl rfl) (RD.free (u:=.int .i64 r3) (args:=[.int .i64 p1.Typex,.int .i64 p2.Typex]) rfl (q02 rfl rfl fn36 hb36 rfl rfl) (fun s=>q2n n p1.Typex p2.Typex r3 h4 s) rfl rfl (RD.q (u:=.ptr 0 0 1) rfl (q0u und43 rfl (q01 inf41) rfl rfl rfl) (RD.q (u:=.isl false (List.map cGArc p1.Arcs)) rfl (q06 und41 rfl rfl rfl rfl) (RD.q rfl (q10 rfl rfl rfl (q0w cGArc und41)) ?_)))))))
 refine RD.q (u:=.ptr 1 0 1) rfl (q0u und43 rfl (q01 inf41) rfl rfl rfl) (RD.q (u:=.isl false (List.map cGArc p2.Arcs)) rfl (q06 und41 rfl rfl rfl rfl) (RD.q rfl (q10 rfl rfl rfl (q0w cGArc und41)) (RD.free (u:=.int .i64 r5) (args:=[.int .i64 (p1.Arcs.length:Int),.int .i64 (p2.Arcs.length:Int)]) rfl (q02 rfl rfl fn36 hb36 rfl rfl) (fun s=>q2n n (p1.Arcs.length:Int) (p2.Arcs.length:Int) r5 h6 s) rfl rfl (RD.act (u:=.sl 2 0 2 2) (σ':=⟨[(2,.row [.int .i64 r3,.int .i64 r5] 3),(1,.row (cGNode p2) 43),(0,.row (cGNode p1) 43)],3⟩) rfl (q26 und55 inf3 rfl rfl rfl rfl rfl rfl rfl) rfl rfl ?_))))
 refine RD.call (u:=.int .i64 r7) (args:=[.sl 2 0 2 2]) rfl (q02 rfl rfl fn50 hb50 rfl rfl) (EvU.view (qae n ([r3,r5]) r7 h8) BUL.h (by simp only [toV,toVL,okL,okC,cond_true]<;>rfl) (fun m=>by simp [ren,renL]) (Gh.fz (tm':=[.isl false (List.map (cI .i64) ([r3,r5]))]) (h':=[(1,.row (cGNode p2) 43),(0,.row (cGNode p1) 43)]) 2 (.row [.int .i64 r3,.int .i64 r5] 3) 1 rfl (by simp) (by simp only [oneU,q07,q03,q0k,q09,q0n,q0d,q0c,q0b,q0a,q08,q0l,q0m,q0j,q0o,q1j,junkT,q20,q22,q24,Nat.reduceLeDiff,Nat.reduceMul,List.length_cons,List.length_nil,Nat.reduceAdd]<;>simp only [chunks,List.take,List.drop,List.map,cI,cB,cS,cL]) (by simp only [fzH,fzB,ug,Nat.beq,cond_true,cond_false,oneU,q07,q03,q0k,q09,q0n,q0d,q0c,q0b,q0a,q08,q0l,q0m,q0j,q0o,q1j,junkT,q20,q22,q24,Nat.reduceLeDiff,Nat.reduceMul,List.length_cons,List.length_nil,Nat.reduceAdd]<;>simp only [chunks,List.take,List.drop,List.map,cI,cB,cS,cL]))) rfl rfl ?_
 refine RD.as rfl rfl rfl rfl ?_
 refine RD.done ⟨by kernel_rfl,trivial,?_⟩
 refine sr ?_
 refine RS.q rfl (q04 rfl rfl (q63 _ _ _) rfl) ?_
 refine sd ?_
 refine WPU.condS (t:=(r7 != 0)) rfl (fun h9=>?_) (fun h9=>?_)
 replace hF:=q0g h9 hF
 refine sr ?_
 refine sd ?_
 refine WPU.ret ?_
 refine st ?_
 have hr:=Option.some.inj hF
 subst hr
 exact ⟨.inr rfl,[.int .i64 r7],q1y rfl (q1e),.int .i64 r7,⟨[],0⟩,Nat.le_refl _,Gh.toR (.int .i64 r7) rfl,rfl,BU.h⟩
 replace hF:=q0f h9 hF
 refine st ?_
 refine WPU.skip ?_
 refine st ?_
 obtain ⟨r10,h11,hF⟩:=q00 hF
 refine sr ?_
 refine RS.q (u:=.ptr 0 0 1) rfl (q0u und43 rfl (q01 inf41) rfl rfl rfl) (RS.q (u:=.isl false (List.map cGArc p1.Arcs)) rfl (q06 und41 rfl rfl rfl rfl) (RS.q (u:=.ptr 1 0 1) rfl (q0u und43 rfl (q01 inf41) rfl rfl rfl) (RS.q (u:=.isl false (List.map cGArc p2.Arcs)) rfl (q06 und41 rfl rfl rfl rfl) (RS.call (u:=.int .i64 r10) (args:=[.isl false (List.map cGArc p1.Arcs),.isl false (List.map cGArc p2.Arcs),.fn (.func 52) [] []]) rfl (q02 rfl rfl fn51 hb51 rfl rfl) (q42 (q3j n) (q7n n) n p1.Arcs p2.Arcs r10 h11 _) rfl rfl ?_))))
 refine sd ?_
 refine WPU.ret ?_
 refine st ?_
 have hr:=Option.some.inj hF
 subst hr
 exact ⟨.inr rfl,[.int .i64 r10],q1y rfl (q1e),.int .i64 r10,⟨[],0⟩,Nat.le_refl _,Gh.toR (.int .i64 r10) rfl,rfl,BU.h⟩
def q4x (n:Nat) (p1:GFS) (p2:GFS):Option (Int) :=
 bindO (q1q n (p1.Nodes.length:Int) (p2.Nodes.length:Int)) fun r3 =>
 cond (r3 != 0)
  (some r3)
  (bindO (q18 (q3z n) n p1.Nodes p2.Nodes) fun r6 =>
  some r6)
end Go.Proofs
end
