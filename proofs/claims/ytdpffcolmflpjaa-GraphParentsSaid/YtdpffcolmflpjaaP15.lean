/-
  Texts of the walk: H4.
-/
import Derived.Test.YtdpffcolmflpjaaP14
section
namespace Go.Proofs
open Go Go.Rx Go.Vx Try
set_option maxRecDepth 10000
set_option linter.unusedSimpArgs false
set_option linter.unusedVariables false
structure GNode where
 Typex:Int
 Arcs:List GArc
def cGNode (x:GNode):List U:=[.int .i64 x.Typex,.isl false (List.map cGArc x.Arcs)]
theorem q5y (n:Nat) (x:GNode):BelL n (cGNode x):=by
 simp only [cGNode,BelL,Bel,true_and,and_true]
 exact belR_map _ (fun q=>q6l _ q) _
theorem q2i (x:GNode):(cGNode x).length=2:=rfl
instance:BF cGNode:=⟨q5y⟩
instance (n:Nat) (x:GNode):BUL n (cGNode x):=⟨q5y n x⟩
theorem q29 (K:Nat) (b:B) (sz:Nat) (x:GNode):fzL K b sz (cGNode x)=cGNode x:=q3o _ _ _ (q5y K x)
structure GFS where
 Nodes:List GNode
def cGFS (x:GFS):List U:=[.isl false (List.map cGNode x.Nodes)]
theorem Try.bd25:BdT Try.tb 25 [.nils] [(0,1)]:=bdT und25 inf25 rfl (by kernel_rfl)
theorem Try.bd43:BdT Try.tb 43 [.int .i64 0,.nils] [(0,1),(1,1)]:=bdT und43 inf43 rfl (by kernel_rfl)
theorem Try.bd45:BdT Try.tb 45 [.int .i64 0,.int .i64 0] [(0,1),(1,1)]:=bdT und45 inf45 rfl (by kernel_rfl)
def q28 (z7:Int) (l8:List GArc) (rc2:Int→(List GArc)→Option ((List GArc))) (x13:GArc)  : Option ((List GArc)) :=
 rc2 (IntKind.i64.wrap (z7+1)) (l8++[x13])
def q27  (l10:List GArc):Option ((List GArc)) :=
 some l10
def q11 (p1:List GArc):Nat→Int→(List GArc)→Option ((List GArc))
 | 0,_,_=>none
 | m2+1,z7,l8 =>
  cond (decide (z7<(p1.length:Int)))
   (bindO (idxO p1 z7) fun x13 =>
   needO ((l8.length+1)*16≤140737488355328∧l8.length+1≤140737488355328) (
   q28 z7 l8 (q11 p1 m2) x13))
   (q27 l8)
def q2n (n:Nat) (p1:List GArc):Option ((List GArc)) :=
 q11 p1 n 0 ([]:List GArc)
theorem q5x (n:Nat) (p1:List GArc) (r:(List GArc)) (hF:q2n n p1=some r):EvU Try.prog 56 [.nils,.fn (.func 55) [] [.iptr [.isl false (List.map cGArc p1)]]] ⟨[],0⟩ (fun u σ'=>∃ t:Nat→Nat,u = .vl 1 (t 0) 0 r.length∧σ'=⟨[(1,.vec (List.map cGArc r).flatten 45 2 (t 0))],2⟩):=by
 unfold q2n at hF
 refine EvU.of_bodyM Try.tb_ok fn56 rfl ?_
 refine WPU.ghost (tm':=fr 13 [(0,.nils),(1,.fn (.func 55) [] [.iptr [.isl false (List.map cGArc p1)]])]) (Gh.start (Nat.le_of_ble_eq_true rfl)) (Nat.le_refl _) ?_
 refine sr ?_
 refine RS.q (u:=.ptr 0 0 0) (σ':=⟨[(0,.row [.nils] 41)],1⟩) rfl (q3m rfl rfl rfl) ?_
 refine se ?_
 refine sd ?_
 refine WPU.block ?_
 refine st ?_
 refine WPU.ghost (tm':=fr 13 [(2,.ptr 0 0 0),(6,.fn (.func 55) [] [.iptr [.isl false (List.map cGArc p1)]])]) (Gh.sub ⟨rfl,rfl,trivial⟩) (Nat.le_of_ble_eq_true rfl) ?_
 refine WPU.range Try.tb_ok rfl (fun _ h=>h) (q2f rfl) fn55 rfl rfl ?_
 intro ly1 fn1 tp1 D1
 refine WPU.ghost (tm':=fr 16 [(0,.fn (.yield ly1) [] []),(1,.iptr [.isl false (List.map cGArc p1)])]) (Gh.start (Nat.le_of_ble_eq_true rfl)) (Nat.le_refl _) ?_
 refine sr ?_
 refine RS.q (u:=.isl false (List.map cGArc p1)) rfl (q5b und41 rfl rfl rfl) (RS.q rfl (q0n rfl rfl rfl (q0h cGArc und41)) (RS.mv rfl rfl rfl rfl ?_))
 refine sd ?_
 refine WPU.ghost (tm':=fr 16 [(0,.fn (.yield ly1) [] []),(5,.isl false (List.map cGArc p1)),(6,.int .i64 (p1.length:Int)),(7,.int .i64 0)]) (σ':=⟨[(1,.vec (List.map cGArc ([]:List GArc)).flatten 45 2 0),(0,.row [.vl 1 0 0 (([]:List GArc).length)] 41)],2⟩) (Gh.trans (Gh.nilC 0 0 45 2 (by decide) (Nat.le_of_ble_eq_true rfl) rfl rfl) (Gh.eqS ⟨rfl,rfl,rfl,rfl,trivial⟩ rfl)) (Nat.le_of_ble_eq_true rfl) ?_
 refine WPU.ghost (tm':=fr 16 [(0,.fn (.yield ly1) [] []),(5,.isl false (List.map cGArc p1)),(6,.int .i64 (p1.length:Int)),(7,.int .i64 0)]) (Gh.sub ⟨rfl,rfl,rfl,rfl,trivial⟩) (Nat.le_of_ble_eq_true rfl) ?_
 refine WPU.loopK (fun m tm σ=>∃ z7:Int,∃ l8:List GArc,∃ t9:Nat,q11 p1 m z7 l8=some r∧tm=fr 16 [(0,.fn (.yield ly1) [] []),(5,.isl false (List.map cGArc p1)),(6,.int .i64 (p1.length:Int)),(7,.int .i64 z7)]∧σ=⟨[(1,.vec (List.map cGArc l8).flatten 45 2 t9),(0,.row [.vl 1 t9 0 l8.length] 41)],2⟩) (fun tm σ=>∃ l10:List GArc,∃ t11:Nat,q27 l10=some r∧tm=fr 16 []∧σ=⟨[(1,.vec (List.map cGArc l10).flatten 45 2 t11),(0,.row [.vl 1 t11 0 l10.length] 41)],2⟩) n ⟨0,([]:List GArc),0,hF,rfl,rfl⟩ ?_ ?_
 rintro _ _ ⟨l10,t11,hF,rfl,rfl⟩
 unfold q27 at hF
 refine st ?_
 refine ⟨.inl rfl,?_⟩
 refine sr ?_
 refine RS.q (u:=.vl 1 t11 0 l10.length) rfl (q04 und41 rfl rfl rfl rfl) ?_
 refine sd ?_
 refine WPU.ret ?_
 refine st ?_
 have hr:=Option.some.inj hF
 subst hr
 exact ⟨.inr rfl,[.vl 1 t11 0 l10.length],q2b rfl (q1v),.vl 1 t11 0 l10.length,⟨[(1,.vec (List.map cGArc l10).flatten 45 2 t11)],2⟩,(Nat.le_of_ble_eq_true rfl),Gh.trans (Gh.only (fun k=>hasN [1] k)) (Gh.to (n1:=2) [] rfl rfl (Nat.le_of_ble_eq_true rfl) (Nat.le_of_ble_eq_true rfl) BUL.h BH.h),stF [t11],rfl,rfl⟩
 rintro m2 _ _ ⟨z7,l8,t9,hF,rfl,rfl⟩
 rcases m2 with _ | m2
 cases hF
 unfold q11 at hF
 refine sr ?_
 refine RS.q rfl (q03 rfl rfl (q2d _ _ _) rfl) ?_
 refine sd ?_
 refine WPU.condS (t:=(decide (z7<(p1.length:Int)))) rfl (fun h12=>?_) (fun h12=>?_)
 replace hF:=q0k h12 hF
 refine st ?_
 refine WPU.skip ?_
 refine st ?_
 refine WPU.block ?_
 refine st ?_
 obtain ⟨x13,h14,hF⟩:=q00 hF
 refine sr ?_
 refine RS.q (u:=.iptr (cGArc x13)) rfl (q2r rfl rfl (q3j cGArc und41 (q02 inf45) q1r h14 rfl)) (RS.q (u:=.agg (cGArc x13)) rfl (q80 und45 rfl (q02 inf45) rfl rfl) (RS.q (u:=.ptr 2 0 0) (σ':=⟨[(2,.row [.int .i64 0,.int .i64 0] 45),(1,.vec (List.map cGArc l8).flatten 45 2 t9),(0,.row [.vl 1 t9 0 l8.length] 41)],3⟩) rfl (q1d inf45 rfl rfl) (RS.opn (u:=.junk) (σ':=⟨[(2,.row (cGArc x13) 45),(1,.vec (List.map cGArc l8).flatten 45 2 t9),(0,.row [.vl 1 t9 0 l8.length] 41)],3⟩) rfl (q14 (q02 inf45) rfl rfl rfl rfl rfl rfl rfl rfl) rfl ?_)))
 refine se ?_
 refine RS.q (u:=.agg (cGArc x13)) rfl (q0m und45 rfl (q02 inf45) rfl rfl rfl) (RS.yield (tmx:=fr 13 [(2,.ptr 0 0 0),(6,.fn (.func 55) [] [.iptr [.isl false (List.map cGArc p1)]]),(7,.agg (cGArc x13))]) rfl rfl rfl rfl rfl rfl rfl rfl (setP1 rfl) rfl rfl ?_)
 refine sr ?_
 refine RS.q (u:=.ptr 3 0 0) (σ':=⟨[(3,.row [.int .i64 0,.int .i64 0] 45),(2,.row (cGArc x13) 45),(1,.vec (List.map cGArc l8).flatten 45 2 t9),(0,.row [.vl 1 t9 0 l8.length] 41)],4⟩) rfl (q1d inf45 rfl rfl) (RS.opn (u:=.junk) (σ':=⟨[(3,.row (cGArc x13) 45),(2,.row (cGArc x13) 45),(1,.vec (List.map cGArc l8).flatten 45 2 t9),(0,.row [.vl 1 t9 0 l8.length] 41)],4⟩) rfl (q14 (q02 inf45) rfl rfl rfl rfl rfl rfl rfl rfl) rfl ?_)
 refine sd ?_
 refine WPU.joinK (fun tm σ=>q28 z7 l8 (q11 p1 m2) x13=some r∧tm=fr 13 []∧σ=⟨[(2,.row (cGArc x13) 45),(1,.vec (List.map cGArc (l8++[x13])).flatten 45 2 (t9+1)),(0,.row [.vl 1 (t9+1) 0 ((l8++[x13]).length)] 41)],3⟩) ?_ ?_
 rintro _ _ ⟨hF,rfl,rfl⟩
 unfold q28 at hF
 refine ⟨rfl,?_⟩
 refine RS.q (u:=.bool false) rfl (q4k rfl rfl rfl rfl) ?_
 refine sd ?_
 refine WPU.condS (t:=false) rfl (fun hc=>by cases hc) (fun _=>?_)
 refine st ?_
 refine WPU.skip ?_
 refine sr ?_
 refine RS.q rfl (q03 rfl rfl (q42 _ _ _) rfl) (RS.mv rfl rfl rfl rfl ?_)
 refine sd ?_
 exact ⟨m2,_,_,Nat.lt_succ_self _,⟨(IntKind.i64.wrap (z7+1)),(l8++[x13]),(t9+1),hF,rfl,rfl⟩,(Nat.le_of_ble_eq_true rfl),Gh.toC (n1:=2) ⟨rfl,rfl,rfl,rfl,trivial⟩ rfl (Nat.le_of_ble_eq_true rfl) (by simp)⟩
 refine st ?_
 refine WPU.block ?_
 refine st ?_
 obtain ⟨h15,hF⟩:=q3e hF
 refine sr ?_
 refine RS.q (u:=.vl 1 t9 0 l8.length) rfl (q04 und41 rfl rfl rfl rfl) (RS.q (u:=.agg (cGArc x13)) rfl (q0m und45 rfl (q02 inf45) rfl rfl rfl) (RS.q (u:=.sl 4 0 1 1) (σ':=⟨[(4,.row (cGArc x13) 45),(3,.row (cGArc x13) 45),(2,.row (cGArc x13) 45),(1,.vec (List.map cGArc l8).flatten 45 2 t9),(0,.row [.vl 1 t9 0 l8.length] 41)],5⟩) rfl (q2a und41 inf45 rfl rfl rfl rfl rfl rfl rfl) (RS.q (u:=.vl 1 (t9+1) 0 ((l8++[x13]).length)) (σ':=⟨[(4,.row (cGArc x13) 45),(3,.row (cGArc x13) 45),(2,.row (cGArc x13) 45),(1,.vec (List.map cGArc (l8++[x13])).flatten 45 2 (t9+1)),(0,.row [.vl 1 t9 0 l8.length] 41)],5⟩) rfl (op_app rfl rfl rfl rfl (app_vl cGArc ([x13]) und41 und41 inf45 rfl q1r rfl (qaq cGArc [x13] rfl rfl rfl rfl) h15)) (RS.opn (u:=.junk) (σ':=⟨[(4,.row (cGArc x13) 45),(3,.row (cGArc x13) 45),(2,.row (cGArc x13) 45),(1,.vec (List.map cGArc (l8++[x13])).flatten 45 2 (t9+1)),(0,.row [.vl 1 (t9+1) 0 ((l8++[x13]).length)] 41)],5⟩) rfl (q14 (q02 inf41) rfl rfl rfl rfl rfl rfl rfl rfl) rfl ?_))))
 refine sd ?_
 exact ⟨_,_,⟨hF,rfl,rfl⟩,(Nat.le_of_ble_eq_true rfl),Gh.toC (n1:=3) trivial rfl (Nat.le_of_ble_eq_true rfl) (by simp)⟩
 replace hF:=q0j h12 hF
 refine st ?_
 refine WPU.exit ?_
 refine st ?_
 exact ⟨_,_,⟨l8,t9,hF,rfl,rfl⟩,(Nat.le_of_ble_eq_true rfl),Gh.toC (n1:=2) trivial rfl (Nat.le_of_ble_eq_true rfl) (by simp)⟩
def q2y (n:Nat) (p1:List GArc):Option ((List GArc)) :=
 bindO (q2n n p1) fun r2 =>
 some r2
theorem q6g (n:Nat) (p1:List GArc) (r:(List GArc)) (hF:q2y n p1=some r):EvU Try.prog 53 [.fn (.func 55) [] [.iptr [.isl false (List.map cGArc p1)]]] ⟨[],0⟩ (fun u σ'=>∃ t:Nat→Nat,u = .vl 1 (t 0) 0 r.length∧σ'=⟨[(1,.vec (List.map cGArc r).flatten 45 2 (t 0))],2⟩):=by
 unfold q2y at hF
 refine EvU.of_body Try.tb_ok fn53 rfl ?_
 refine WPU.ghost (tm':=fr 5 [(0,.fn (.func 55) [] [.iptr [.isl false (List.map cGArc p1)]])]) (Gh.start (Nat.le_of_ble_eq_true rfl)) (Nat.le_refl _) ?_
 refine sr ?_
 refine sd ?_
 obtain ⟨r2,h3,hF⟩:=q00 hF
 refine sr ?_
 refine RS.callx (R:=fun u σ'=>∃ t4:Nat→Nat,u = .vl 1 (t4 0) 0 r2.length∧σ'=⟨[(1,.vec (List.map cGArc r2).flatten 45 2 (t4 0))],2⟩) (args:=[.nils,.fn (.func 55) [] [.iptr [.isl false (List.map cGArc p1)]]]) rfl (q01 rfl rfl fn56 hb56 rfl rfl) (EvU.st [] (q5x n p1 r2 h3 )) rfl rfl ?_
 rintro _ _ ⟨t4,rfl,rfl⟩
 refine sd ?_
 refine WPU.ret ?_
 refine st ?_
 have hr:=Option.some.inj hF
 subst hr
 exact ⟨.inr rfl,[.vl 1 (t4 0) 0 r2.length],q2b rfl (q1v),.vl 1 (t4 0) 0 r2.length,⟨[(1,.vec (List.map cGArc r2).flatten 45 2 (t4 0))],2⟩,(Nat.le_of_ble_eq_true rfl),Gh.trans (Gh.only (fun k=>hasN [1] k)) (Gh.to (n1:=2) [] rfl rfl (Nat.le_of_ble_eq_true rfl) (Nat.le_of_ble_eq_true rfl) BUL.h BH.h),stF [(t4 0)],rfl,rfl⟩
def q1i (n:Nat) (p1:List GArc):Option ((List GArc)) :=
 bindO (q2y n p1) fun r2 =>
 bindO (sortO eqA (fun a b=>q34 n a b ) r2) fun r6 =>
 some r6
theorem q43 (n:Nat) (p1:List GArc) (r:(List GArc)) (hF:q1i n p1=some r):EvU Try.prog 43 [.fn (.func 55) [] [.iptr [.isl false (List.map cGArc p1)]],.fn (.func 45) [] []] ⟨[],0⟩ (fun u σ'=>∃ t:Nat→Nat,u = .vl 1 (t 0) 0 r.length∧σ'=⟨[(1,.vec (List.map cGArc r).flatten 45 2 (t 0))],2⟩):=by
 unfold q1i at hF
 refine EvU.of_body Try.tb_ok fn43 rfl ?_
 refine WPU.ghost (tm':=fr 12 [(0,.fn (.func 55) [] [.iptr [.isl false (List.map cGArc p1)]]),(1,.fn (.func 45) [] [])]) (Gh.start (Nat.le_of_ble_eq_true rfl)) (Nat.le_refl _) ?_
 refine sr ?_
 refine sd ?_
 obtain ⟨r2,h3,hF⟩:=q00 hF
 refine sr ?_
 refine RS.callx (R:=fun u σ'=>∃ t4:Nat→Nat,u = .vl 1 (t4 0) 0 r2.length∧σ'=⟨[(1,.vec (List.map cGArc r2).flatten 45 2 (t4 0))],2⟩) (args:=[.fn (.func 55) [] [.iptr [.isl false (List.map cGArc p1)]]]) rfl (q01 rfl rfl fn53 hb53 rfl rfl) (EvU.st [] (q6g n p1 r2 h3 )) rfl rfl ?_
 rintro _ _ ⟨t4,rfl,rfl⟩
 refine sd ?_
 obtain ⟨r6,h5,hF⟩:=q00 hF
 refine WPU.joinK (fun tm σ=>tm=fr 12 [(5,.vl 1 (t4 0) 0 r6.length)]∧σ=⟨[(1,.vec (List.map cGArc r6).flatten 45 2 (t4 0))],2⟩) ?_ ?_
 rintro _ _ ⟨rfl,rfl⟩
 refine sr ?_
 refine sd ?_
 refine WPU.ret ?_
 refine st ?_
 have hr:=Option.some.inj hF
 subst hr
 exact ⟨.inr rfl,[.vl 1 (t4 0) 0 r6.length],q2b rfl (q1v),.vl 1 (t4 0) 0 r6.length,⟨[(1,.vec (List.map cGArc r6).flatten 45 2 (t4 0))],2⟩,(Nat.le_of_ble_eq_true rfl),Gh.trans (Gh.only (fun k=>hasN [1] k)) (Gh.to (n1:=2) [] rfl rfl (Nat.le_of_ble_eq_true rfl) (Nat.le_of_ble_eq_true rfl) BUL.h BH.h),stF [(t4 0)],rfl,rfl⟩
 refine sr ?_
 repeat refine RS.mv rfl rfl rfl rfl ?_
 refine RS.callx (args:=[.vl 1 (t4 0) 0 r2.length,.fn (.func 45) [] []]) rfl (q01 rfl rfl fn54 hb54 rfl rfl) (srtJ_ok  (fun a b r h=>q8j n a b  r h) r2 r6 h5 _ rfl rfl) rfl rfl ?_
 rintro _ _ ⟨rfl,rfl⟩
 refine sd ?_
 exact ⟨_,_,⟨rfl,rfl⟩,(Nat.zero_le _),Gh.eqS ⟨(by simp only [sortO_len h5]; rfl),trivial⟩ rfl⟩
def q24 (n:Nat) (p1:List GArc):Option ((List GArc)) :=
 some p1
theorem q4m (n:Nat) (p1:List GArc) (r:(List GArc)) (hF:q24 n p1=some r):EvU Try.prog 44 [.isl false (List.map cGArc p1)] ⟨[],0⟩ (fun u σ'=>∃ t:Nat→Nat,u = .fn (.func 55) [] [.iptr [.isl false (List.map cGArc r)]]∧σ'=⟨[],0⟩):=by
 unfold q24 at hF
 refine EvU.of_body Try.tb_ok fn44 rfl ?_
 refine WPU.ghost (tm':=fr 4 [(0,.isl false (List.map cGArc p1))]) (Gh.start (Nat.le_of_ble_eq_true rfl)) (Nat.le_refl _) ?_
 refine sr ?_
 refine RS.q (u:=.ptr 0 0 0) (σ':=⟨[(0,.row [.isl false (List.map cGArc p1)] 41)],1⟩) rfl (q3m rfl rfl rfl) ?_
 refine se ?_
 refine RS.q rfl (op_fun rfl rfl) ?_
 refine sd ?_
 refine WPU.ret ?_
 refine st ?_
 have hr:=Option.some.inj hF
 subst hr
 exact ⟨.inr rfl,[.fn (.func 55) [] [.ptr 0 0 0]],q2b rfl (q1v),.fn (.func 55) [] [.iptr [.isl false (List.map cGArc p1)]],⟨[],0⟩,(Nat.le_of_ble_eq_true rfl),Gh.trans (Gh.fz (tm':=[.fn (.func 55) [] [.iptr [.isl false (List.map cGArc p1)]]]) (h':=[]) 0 (.row [.isl false (List.map cGArc p1)] 41) 1 rfl (by simp) (by simp only [oneU,q09,q05,q0q,q0c,q0t,q0g,q0f,q0e,q0d,q0a,q0r,q0s,q0p,q0u,q1k,junkT,q1u,q1w,fz_iptr,Nat.reduceLeDiff,Nat.reduceMul,List.length_cons,List.length_nil,Nat.reduceAdd]<;>simp only [chunks,List.take,List.drop,List.map,cI,cB,cS,cL]) (by simp only [fzH,fzB,ug,Nat.beq,cond_true,cond_false,oneU,q09,q05,q0q,q0c,q0t,q0g,q0f,q0e,q0d,q0a,q0r,q0s,q0p,q0u,q1k,junkT,q1u,q1w,fz_iptr,Nat.reduceLeDiff,Nat.reduceMul,List.length_cons,List.length_nil,Nat.reduceAdd]<;>simp only [chunks,List.take,List.drop,List.map,cI,cB,cS,cL])) (Gh.to (n1:=0) [] rfl rfl (Nat.le_of_ble_eq_true rfl) (Nat.le_of_ble_eq_true rfl) BUL.h BH.h),stF [],rfl,rfl⟩
def q1n (z24:Int) (rc1:Int→(List Int)→(MapL Int Int)→Option ((List Int)×(MapL Int Int))) (l35:List Int) (w37:MapL Int Int):Option ((List Int)×(MapL Int Int)) :=
 rc1 (IntKind.i64.wrap (z24+1)) l35 w37
def q2m  (l28:List Int) (w30:MapL Int Int):Option ((List Int)×(MapL Int Int)) :=
 some (l28,w30)
def q12 (p2:List GNode) (r12:(List GArc)) (self:Int→(List GNode)→(List Int)→(MapL Int Int)→Option ((List Int)×(MapL Int Int))):Nat→Int→(List Int)→(MapL Int Int)→Option ((List Int)×(MapL Int Int))
 | 0,_,_,_=>none
 | m1+1,z24,l25,w27 =>
  cond (decide (z24<(r12.length:Int)))
   (bindO (idxO r12 z24) fun x32 =>
   cond (!((mGet (fun a b=>a == b) w27 x32.To).isSome))
    (bindO (self x32.To p2 l25 w27) fun r38 =>
    q1n z24 (q12 p2 r12 self m1) r38.1 r38.2)
    (q1n z24 (q12 p2 r12 self m1) l25 w27))
   (q2m l25 w27)
def q2q (n:Nat) (self:Int→(List GNode)→(List Int)→(MapL Int Int)→Option ((List Int)×(MapL Int Int))) (p1:Int) (p2:List GNode) (p3:List Int) (p5:MapL Int Int):Option ((List Int)×(MapL Int Int)) :=
 needO ((p3.length+1)*8≤140737488355328∧p3.length+1≤140737488355328) (
 bindO (idxO p2 p1) fun x7 =>
 bindO (q24 n x7.Arcs) fun r9 =>
 bindO (q1i n r9) fun r12 =>
 q12 p2 r12 self n 0 (p3++[p1]) (mUpd (fun a b=>a == b) p5 p1 (p3.length:Int)))
def q16:Nat→Int→(List GNode)→(List Int)→(MapL Int Int)→Option ((List Int)×(MapL Int Int))
 | 0,_,_,_,_=>none
 | n+1,p1,p2,p3,p5=>q2q n (q16 n) p1 p2 p3 p5
theorem q4l:∀ (n:Nat) (p1:Int) (p2:List GNode) (p3:List Int) (p5:MapL Int Int) (r:(List Int)×(MapL Int Int)),q16 n p1 p2 p3 p5=some r→∀ t4:Nat,EvU Try.prog 42 [.int .i64 p1,.ptr 0 0 0,.ptr 1 0 0,.ptr 2 0 0,.ptr 3 0 0] ⟨[(0,.row [.vl 4 t4 0 p3.length] 55),(1,.row [.map 5] 61),(2,.row [.isl false (List.map cGNode p2)] 25),(3,.row [.fn (.func 42) [] [.ptr 0 0 0,.ptr 1 0 0,.ptr 2 0 0,.ptr 3 0 0]] 62),(4,.vec (List.map (cI .i64) p3).flatten 3 1 t4),(5,.map (List.map (mE (fun x=>.int .i64 x) (fun x=>.int .i64 x)) p5.es) p5.cl)],6⟩ (fun u σ'=>∃ t:Nat→Nat,u = .tup []∧σ'=⟨[(0,.row [.vl 4 (t 0) 0 r.1.length] 55),(1,.row [.map 5] 61),(2,.row [.isl false (List.map cGNode p2)] 25),(3,.row [.fn (.func 42) [] [.ptr 0 0 0,.ptr 1 0 0,.ptr 2 0 0,.ptr 3 0 0]] 62),(4,.vec (List.map (cI .i64) r.1).flatten 3 1 (t 0)),(5,.map (List.map (mE (fun x=>.int .i64 x) (fun x=>.int .i64 x)) r.2.es) r.2.cl)],6⟩)
 | 0,p1,p2,p3,p5,r,hF=>by cases hF
 | n+1,p1,p2,p3,p5,r,hF=>by
  have ih:=q4l n
  unfold q16 q2q at hF
  intro t4
  refine EvU.of_body Try.tb_ok fn42 rfl ?_
  refine WPU.ghost (tm':=fr 45 [(0,.int .i64 p1),(1,.ptr 0 0 0),(2,.ptr 1 0 0),(3,.ptr 2 0 0),(4,.ptr 3 0 0)]) (Gh.start (Nat.le_of_ble_eq_true rfl)) (Nat.le_refl _) ?_
  refine sr ?_
  refine RS.q (u:=.map 5) rfl (q04 und61 rfl rfl rfl rfl) (RS.mv rfl rfl rfl rfl (RS.q (u:=.vl 4 t4 0 p3.length) rfl (q04 und55 rfl rfl rfl rfl) (RS.q rfl (q0n rfl rfl rfl (q93 und55 rfl)) (RS.opn (u:=.junk) (σ':=⟨[(0,.row [.vl 4 t4 0 p3.length] 55),(1,.row [.map 5] 61),(2,.row [.isl false (List.map cGNode p2)] 25),(3,.row [.fn (.func 42) [] [.ptr 0 0 0,.ptr 1 0 0,.ptr 2 0 0,.ptr 3 0 0]] 62),(4,.vec (List.map (cI .i64) p3).flatten 3 1 t4),(5,.map (List.map (mE (fun x=>.int .i64 x) (fun x=>.int .i64 x)) (mUpd (fun a b=>a == b) p5 p1 (p3.length:Int)).es) (mUpd (fun a b=>a == b) p5 p1 (p3.length:Int)).cl)],6⟩) rfl (op_mup (kU:=(fun x=>.int .i64 x)) (vU:=(fun x=>.int .i64 x)) (m:=p5) (k:=p1) (v:=(p3.length:Int)) (qaa und3) und61 rfl rfl rfl rfl rfl) rfl ?_))))
  refine sd ?_
  obtain ⟨h6,hF⟩:=q3e hF
  refine sr ?_
  refine RS.q (u:=.vl 4 t4 0 p3.length) rfl (q04 und55 rfl rfl rfl rfl) (RS.mv rfl rfl rfl rfl (RS.q (u:=.sl 6 0 1 1) (σ':=⟨[(6,.row [.int .i64 p1] 3),(0,.row [.vl 4 t4 0 p3.length] 55),(1,.row [.map 5] 61),(2,.row [.isl false (List.map cGNode p2)] 25),(3,.row [.fn (.func 42) [] [.ptr 0 0 0,.ptr 1 0 0,.ptr 2 0 0,.ptr 3 0 0]] 62),(4,.vec (List.map (cI .i64) p3).flatten 3 1 t4),(5,.map (List.map (mE (fun x=>.int .i64 x) (fun x=>.int .i64 x)) (mUpd (fun a b=>a == b) p5 p1 (p3.length:Int)).es) (mUpd (fun a b=>a == b) p5 p1 (p3.length:Int)).cl)],7⟩) rfl (q2a und55 inf3 rfl rfl rfl rfl rfl rfl rfl) (RS.q (u:=.vl 4 (t4+1) 0 ((p3++[p1]).length)) (σ':=⟨[(6,.row [.int .i64 p1] 3),(0,.row [.vl 4 t4 0 p3.length] 55),(1,.row [.map 5] 61),(2,.row [.isl false (List.map cGNode p2)] 25),(3,.row [.fn (.func 42) [] [.ptr 0 0 0,.ptr 1 0 0,.ptr 2 0 0,.ptr 3 0 0]] 62),(4,.vec (List.map (cI .i64) (p3++[p1])).flatten 3 1 (t4+1)),(5,.map (List.map (mE (fun x=>.int .i64 x) (fun x=>.int .i64 x)) (mUpd (fun a b=>a == b) p5 p1 (p3.length:Int)).es) (mUpd (fun a b=>a == b) p5 p1 (p3.length:Int)).cl)],7⟩) rfl (op_app rfl rfl rfl rfl (app_vl (cI .i64) ([p1]) und55 und55 inf3 rfl (q6o .i64) rfl (qaq (cI .i64) [p1] rfl rfl rfl rfl) h6)) (RS.opn (u:=.junk) (σ':=⟨[(6,.row [.int .i64 p1] 3),(0,.row [.vl 4 (t4+1) 0 ((p3++[p1]).length)] 55),(1,.row [.map 5] 61),(2,.row [.isl false (List.map cGNode p2)] 25),(3,.row [.fn (.func 42) [] [.ptr 0 0 0,.ptr 1 0 0,.ptr 2 0 0,.ptr 3 0 0]] 62),(4,.vec (List.map (cI .i64) (p3++[p1])).flatten 3 1 (t4+1)),(5,.map (List.map (mE (fun x=>.int .i64 x) (fun x=>.int .i64 x)) (mUpd (fun a b=>a == b) p5 p1 (p3.length:Int)).es) (mUpd (fun a b=>a == b) p5 p1 (p3.length:Int)).cl)],7⟩) rfl (q14 (q02 inf55) rfl rfl rfl rfl rfl rfl rfl rfl) rfl ?_))))
  refine sd ?_
  obtain ⟨x7,h8,hF⟩:=q00 hF
  obtain ⟨r9,h10,hF⟩:=q00 hF
  obtain ⟨r12,h13,hF⟩:=q00 hF
  refine sr ?_
  refine RS.q (u:=.ptr 2 0 0) rfl (q0v und25 rfl (q02 inf23) rfl rfl rfl) (RS.q (u:=.isl false (List.map cGNode p2)) rfl (q04 und23 rfl rfl rfl rfl) (RS.mv rfl rfl rfl rfl (RS.q (u:=.iptr (cGNode x7)) rfl (q2r rfl rfl (q3j cGNode und23 (q02 inf43) q2i h8 rfl)) (RS.q (u:=.iptr [.isl false (List.map cGArc x7.Arcs)]) rfl (q98 und43 rfl (q02 inf41) rfl rfl) (RS.q (u:=.isl false (List.map cGArc x7.Arcs)) rfl (q5b und41 rfl rfl rfl) ?_)))))
  refine RS.callx (R:=fun u σ'=>∃ t11:Nat→Nat,u = .fn (.func 55) [] [.iptr [.isl false (List.map cGArc r9)]]∧σ'=⟨[(6,.row [.int .i64 p1] 3),(0,.row [.vl 4 (t4+1) 0 ((p3++[p1]).length)] 55),(1,.row [.map 5] 61),(2,.row [.isl false (List.map cGNode p2)] 25),(3,.row [.fn (.func 42) [] [.ptr 0 0 0,.ptr 1 0 0,.ptr 2 0 0,.ptr 3 0 0]] 62),(4,.vec (List.map (cI .i64) (p3++[p1])).flatten 3 1 (t4+1)),(5,.map (List.map (mE (fun x=>.int .i64 x) (fun x=>.int .i64 x)) (mUpd (fun a b=>a == b) p5 p1 (p3.length:Int)).es) (mUpd (fun a b=>a == b) p5 p1 (p3.length:Int)).cl)],7⟩) (args:=[.isl false (List.map cGArc x7.Arcs)]) rfl (q01 rfl rfl fn44 hb44 rfl rfl) (EvU.st [] (q4m n x7.Arcs r9 h10 )) rfl rfl ?_
  rintro _ _ ⟨t11,rfl,rfl⟩
  refine RS.callx (R:=fun u σ'=>∃ t14:Nat→Nat,u = .vl 8 (t14 0) 0 r12.length∧σ'=⟨[(8,.vec (List.map cGArc r12).flatten 45 2 (t14 0)),(6,.row [.int .i64 p1] 3),(0,.row [.vl 4 (t4+1) 0 ((p3++[p1]).length)] 55),(1,.row [.map 5] 61),(2,.row [.isl false (List.map cGNode p2)] 25),(3,.row [.fn (.func 42) [] [.ptr 0 0 0,.ptr 1 0 0,.ptr 2 0 0,.ptr 3 0 0]] 62),(4,.vec (List.map (cI .i64) (p3++[p1])).flatten 3 1 (t4+1)),(5,.map (List.map (mE (fun x=>.int .i64 x) (fun x=>.int .i64 x)) (mUpd (fun a b=>a == b) p5 p1 (p3.length:Int)).es) (mUpd (fun a b=>a == b) p5 p1 (p3.length:Int)).cl)],9⟩) (args:=[.fn (.func 55) [] [.iptr [.isl false (List.map cGArc r9)]],.fn (.func 45) [] []]) rfl (q01 rfl rfl fn43 hb43 rfl rfl) (EvU.st [] (q43 n r9 r12 h13 )) rfl rfl ?_
  rintro _ _ ⟨t14,rfl,rfl⟩
  refine RS.q rfl (q0n rfl rfl rfl (q93 und41 rfl)) (RS.mv rfl rfl rfl rfl ?_)
  refine sd ?_
  refine WPU.ghost (tm':=fr 45 [(2,.ptr 1 0 0),(4,.ptr 3 0 0),(25,.vl 8 (t14 0) 0 r12.length),(26,.int .i64 (r12.length:Int)),(27,.int .i64 0)]) (Gh.sub ⟨rfl,rfl,rfl,rfl,rfl,trivial⟩) (Nat.le_of_ble_eq_true rfl) ?_
  refine WPU.loopK (fun m tm σ=>∃ z24:Int,∃ l25:List Int,∃ t26:Nat,∃ w27:MapL Int Int,q12 p2 r12 (q16 n) m z24 l25 w27=some r∧tm=fr 45 [(2,.ptr 1 0 0),(4,.ptr 3 0 0),(25,.vl 8 (t14 0) 0 r12.length),(26,.int .i64 (r12.length:Int)),(27,.int .i64 z24)]∧σ=⟨[(8,.vec (List.map cGArc r12).flatten 45 2 (t14 0)),(6,.row [.int .i64 p1] 3),(0,.row [.vl 4 t26 0 l25.length] 55),(1,.row [.map 5] 61),(2,.row [.isl false (List.map cGNode p2)] 25),(3,.row [.fn (.func 42) [] [.ptr 0 0 0,.ptr 1 0 0,.ptr 2 0 0,.ptr 3 0 0]] 62),(4,.vec (List.map (cI .i64) l25).flatten 3 1 t26),(5,.map (List.map (mE (fun x=>.int .i64 x) (fun x=>.int .i64 x)) w27.es) w27.cl)],9⟩) (fun tm σ=>∃ l28:List Int,∃ t29:Nat,∃ w30:MapL Int Int,q2m l28 w30=some r∧tm=fr 45 []∧σ=⟨[(8,.vec (List.map cGArc r12).flatten 45 2 (t14 0)),(6,.row [.int .i64 p1] 3),(0,.row [.vl 4 t29 0 l28.length] 55),(1,.row [.map 5] 61),(2,.row [.isl false (List.map cGNode p2)] 25),(3,.row [.fn (.func 42) [] [.ptr 0 0 0,.ptr 1 0 0,.ptr 2 0 0,.ptr 3 0 0]] 62),(4,.vec (List.map (cI .i64) l28).flatten 3 1 t29),(5,.map (List.map (mE (fun x=>.int .i64 x) (fun x=>.int .i64 x)) w30.es) w30.cl)],9⟩) n ⟨0,(p3++[p1]),(t4+1),(mUpd (fun a b=>a == b) p5 p1 (p3.length:Int)),hF,rfl,rfl⟩ ?_ ?_
  rintro _ _ ⟨l28,t29,w30,hF,rfl,rfl⟩
  unfold q2m at hF
  refine st ?_
  have hr:=Option.some.inj hF
  subst hr
  exact ⟨.inl rfl,[],q1v,.tup [],⟨[(0,.row [.vl 4 t29 0 l28.length] 55),(1,.row [.map 5] 61),(2,.row [.isl false (List.map cGNode p2)] 25),(3,.row [.fn (.func 42) [] [.ptr 0 0 0,.ptr 1 0 0,.ptr 2 0 0,.ptr 3 0 0]] 62),(4,.vec (List.map (cI .i64) l28).flatten 3 1 t29),(5,.map (List.map (mE (fun x=>.int .i64 x) (fun x=>.int .i64 x)) w30.es) w30.cl)],6⟩,(Nat.le_of_ble_eq_true rfl),Gh.to (n1:=6) [] rfl rfl (Nat.le_of_ble_eq_true rfl) (Nat.le_of_ble_eq_true rfl) BUL.h BH.h,stF [t29],rfl,rfl⟩
  rintro m1 _ _ ⟨z24,l25,t26,w27,hF,rfl,rfl⟩
  rcases m1 with _ | m1
  cases hF
  unfold q12 at hF
  refine sr ?_
  refine RS.q rfl (q03 rfl rfl (q2d _ _ _) rfl) ?_
  refine sd ?_
  refine WPU.condS (t:=(decide (z24<(r12.length:Int)))) rfl (fun h31=>?_) (fun h31=>?_)
  replace hF:=q0k h31 hF
  refine st ?_
  refine WPU.skip ?_
  refine st ?_
  refine WPU.block ?_
  refine st ?_
  obtain ⟨x32,h33,hF⟩:=q00 hF
  refine sr ?_
  refine RS.q (u:=.ptr 8 (t14 0) (0*2+z24.toNat*2)) rfl (q2r rfl rfl (ia_vl cGArc und41 (q02 inf45) (by decide) q1r (vo rfl) h33)) ?_
  refine RS.q (u:=.agg (cGArc x32)) rfl (ld_vec cGArc und45 rfl (q02 inf45) q1r rfl rfl h33 rfl) (RS.q (u:=.ptr 9 0 0) (σ':=⟨[(9,.row [.int .i64 0,.int .i64 0] 45),(8,.vec (List.map cGArc r12).flatten 45 2 (t14 0)),(6,.row [.int .i64 p1] 3),(0,.row [.vl 4 t26 0 l25.length] 55),(1,.row [.map 5] 61),(2,.row [.isl false (List.map cGNode p2)] 25),(3,.row [.fn (.func 42) [] [.ptr 0 0 0,.ptr 1 0 0,.ptr 2 0 0,.ptr 3 0 0]] 62),(4,.vec (List.map (cI .i64) l25).flatten 3 1 t26),(5,.map (List.map (mE (fun x=>.int .i64 x) (fun x=>.int .i64 x)) w27.es) w27.cl)],10⟩) rfl (q1d inf45 rfl rfl) (RS.opn (u:=.junk) (σ':=⟨[(9,.row (cGArc x32) 45),(8,.vec (List.map cGArc r12).flatten 45 2 (t14 0)),(6,.row [.int .i64 p1] 3),(0,.row [.vl 4 t26 0 l25.length] 55),(1,.row [.map 5] 61),(2,.row [.isl false (List.map cGNode p2)] 25),(3,.row [.fn (.func 42) [] [.ptr 0 0 0,.ptr 1 0 0,.ptr 2 0 0,.ptr 3 0 0]] 62),(4,.vec (List.map (cI .i64) l25).flatten 3 1 t26),(5,.map (List.map (mE (fun x=>.int .i64 x) (fun x=>.int .i64 x)) w27.es) w27.cl)],10⟩) rfl (q14 (q02 inf45) rfl rfl rfl rfl rfl rfl rfl rfl) rfl ?_))
  refine se ?_
  refine RS.q (u:=.map 5) rfl (q04 und61 rfl rfl rfl rfl) (RS.q (u:=.ptr 9 0 1) rfl (q0v und45 rfl (q02 inf3) rfl rfl rfl) (RS.q (u:=.int .i64 x32.To) rfl (q04 und3 rfl rfl rfl rfl) (RS.q (u:=.tup [.int .i64 ((mGet (fun a b=>a == b) w27 x32.To).getD 0),.bool ((mGet (fun a b=>a == b) w27 x32.To).isSome)]) rfl (op_look2 (kU:=(fun x=>.int .i64 x)) (vU:=(fun x=>.int .i64 x)) (m:=w27) (k:=x32.To) (zv:=0) (qaa und3) und61 rfl rfl rfl inf3 rfl) (RS.mv rfl rfl rfl rfl (RS.q rfl (q7f rfl rfl) (RS.q rfl (q7f rfl rfl) ?_))))))
  repeat refine RS.as rfl rfl rfl rfl ?_
  refine se ?_
  refine RS.q (u:=.bool (!((mGet (fun a b=>a == b) w27 x32.To).isSome))) rfl (q4k rfl rfl rfl rfl) ?_
  refine sd ?_
  refine WPU.joinK (fun tm σ=>∃ l35:List Int,∃ t36:Nat,∃ w37:MapL Int Int,q1n z24 (q12 p2 r12 (q16 n) m1) l35 w37=some r∧tm=fr 45 [(2,.ptr 1 0 0),(4,.ptr 3 0 0),(25,.vl 8 (t14 0) 0 r12.length),(26,.int .i64 (r12.length:Int)),(27,.int .i64 z24)]∧σ=⟨[(9,.row (cGArc x32) 45),(8,.vec (List.map cGArc r12).flatten 45 2 (t14 0)),(6,.row [.int .i64 p1] 3),(0,.row [.vl 4 t36 0 l35.length] 55),(1,.row [.map 5] 61),(2,.row [.isl false (List.map cGNode p2)] 25),(3,.row [.fn (.func 42) [] [.ptr 0 0 0,.ptr 1 0 0,.ptr 2 0 0,.ptr 3 0 0]] 62),(4,.vec (List.map (cI .i64) l35).flatten 3 1 t36),(5,.map (List.map (mE (fun x=>.int .i64 x) (fun x=>.int .i64 x)) w37.es) w37.cl)],10⟩) ?_ ?_
  rintro _ _ ⟨l35,t36,w37,hF,rfl,rfl⟩
  unfold q1n at hF
  refine sr ?_
  refine RS.q rfl (q03 rfl rfl (q42 _ _ _) rfl) (RS.mv rfl rfl rfl rfl ?_)
  refine sd ?_
  exact ⟨m1,_,_,Nat.lt_succ_self _,⟨(IntKind.i64.wrap (z24+1)),l35,t36,w37,hF,rfl,rfl⟩,(Nat.le_of_ble_eq_true rfl),Gh.toC (n1:=9) ⟨rfl,rfl,rfl,rfl,rfl,trivial⟩ rfl (Nat.le_of_ble_eq_true rfl) (by simp)⟩
  refine WPU.condS (t:=(!((mGet (fun a b=>a == b) w27 x32.To).isSome))) rfl (fun h34=>?_) (fun h34=>?_)
  replace hF:=q0k h34 hF
  refine st ?_
  obtain ⟨r38,h39,hF⟩:=q00 hF
  refine sr ?_
  refine RS.q (u:=.fn (.func 42) [] [.ptr 0 0 0,.ptr 1 0 0,.ptr 2 0 0,.ptr 3 0 0]) rfl (q04 und62 rfl rfl rfl rfl) (RS.q (u:=.ptr 9 0 1) rfl (q0v und45 rfl (q02 inf3) rfl rfl rfl) (RS.q (u:=.int .i64 x32.To) rfl (q04 und3 rfl rfl rfl rfl) ?_))
  refine RS.callx (R:=fun u σ'=>∃ t40:Nat→Nat,u = .tup []∧σ'=⟨[(9,.row (cGArc x32) 45),(8,.vec (List.map cGArc r12).flatten 45 2 (t14 0)),(6,.row [.int .i64 p1] 3),(0,.row [.vl 4 (t40 0) 0 r38.1.length] 55),(1,.row [.map 5] 61),(2,.row [.isl false (List.map cGNode p2)] 25),(3,.row [.fn (.func 42) [] [.ptr 0 0 0,.ptr 1 0 0,.ptr 2 0 0,.ptr 3 0 0]] 62),(4,.vec (List.map (cI .i64) r38.1).flatten 3 1 (t40 0)),(5,.map (List.map (mE (fun x=>.int .i64 x) (fun x=>.int .i64 x)) r38.2.es) r38.2.cl)],10⟩) (args:=[.int .i64 x32.To,.ptr 0 0 0,.ptr 1 0 0,.ptr 2 0 0,.ptr 3 0 0]) rfl (q01 rfl rfl fn42 hb42 rfl rfl) (EvU.st [0,1,2,3,4,5] (ih x32.To p2 l25 w27 r38 h39 t26)) rfl rfl ?_
  rintro _ _ ⟨t40,rfl,rfl⟩
  refine sd ?_
  exact ⟨_,_,⟨r38.1,(t40 0),r38.2,hF,rfl,rfl⟩,(Nat.le_of_ble_eq_true rfl),Gh.toC (n1:=10) ⟨rfl,rfl,rfl,rfl,rfl,trivial⟩ rfl (Nat.le_of_ble_eq_true rfl) (by simp)⟩
  replace hF:=q0j h34 hF
  refine st ?_
  refine WPU.skip ?_
  refine st ?_
  exact ⟨_,_,⟨l25,t26,w27,hF,rfl,rfl⟩,(Nat.le_of_ble_eq_true rfl),Gh.toC (n1:=10) ⟨rfl,rfl,rfl,rfl,rfl,trivial⟩ rfl (Nat.le_of_ble_eq_true rfl) (by simp)⟩
  replace hF:=q0j h31 hF
  refine st ?_
  refine WPU.exit ?_
  refine st ?_
  exact ⟨_,_,⟨l25,t26,w27,hF,rfl,rfl⟩,(Nat.le_of_ble_eq_true rfl),Gh.toC (n1:=9) trivial rfl (Nat.le_of_ble_eq_true rfl) (by simp)⟩
def q2u (p1:GFS) (r3:(List Int)×(MapL Int Int)) (z14:Int) (l15:List GNode) (rc1:Int→(List GNode)→Option (GFS)) (x19:Int) (l44:List GArc):Option (GFS) :=
 bindO (idxO p1.Nodes x19) fun x45 =>
 bindO (idxV l15 0 ((r3.1.length:Int).toNat) z14) fun x47 =>
 rc1 (IntKind.i64.wrap (z14+1)) (l15.set z14.toNat (GNode.mk x45.Typex l44))
def q21 (p1:GFS) (r3:(List Int)×(MapL Int Int)) (z14:Int) (l15:List GNode) (rc1:Int→(List GNode)→Option (GFS)) (x19:Int) (r26:(List GArc)):Nat→Int→(List GArc)→Option (GFS)
 | 0,_,_=>none
 | m2+1,z42,l43 =>
  cond (decide (z42<(r26.length:Int)))
   (bindO (idxO l43 z42) fun x50 =>
   bindO (idxO l43 z42) fun x52 =>
   (q21 p1 r3 z14 l15 rc1 x19 r26 m2) (IntKind.i64.wrap (z42+1)) (l43.set (0+z42.toNat) (GArc.mk x52.Feat ((mGet (fun a b=>a == b) r3.2 x50.To).getD 0))))
   (q2u p1 r3 z14 l15 rc1 x19 l43)
def q3g (r3:(List Int)×(MapL Int Int)) (l16:List GNode):Option (GFS) :=
 needO ((r3.1.length:Int).toNat=l16.length) (
 some (GFS.mk l16))
def q1f (p1:GFS) (n:Nat) (r3:(List Int)×(MapL Int Int)):Nat→Int→(List GNode)→Option (GFS)
 | 0,_,_=>none
 | m1+1,z14,l15 =>
  cond (decide (z14<(r3.1.length:Int)))
   (bindO (idxO r3.1 z14) fun x19 =>
   bindO (idxO p1.Nodes x19) fun x21 =>
   bindO (q24 n x21.Arcs) fun r23 =>
   bindO (q1i n r23) fun r26 =>
   q21 p1 r3 z14 l15 (q1f p1 n r3 m1) x19 r26 n 0 r26)
   (q3g r3 l15)
def q2o (n:Nat) (p1:GFS) (p2:Int):Option (GFS) :=
 bindO (q16 n p2 p1.Nodes ([]:List Int) (mNew:MapL Int Int)) fun r3 =>
 needO (0≤(r3.1.length:Int)∧32*(r3.1.length:Int).toNat≤281474976710656∧(r3.1.length:Int)≤281474976710656) (
 q1f p1 n r3 n 0 (List.replicate (r3.1.length:Int).toNat (GNode.mk 0 [])))
theorem q8k (n:Nat) (p1:GFS) (p2:Int) (r:GFS) (hF:q2o n p1 p2=some r):EvU Try.prog 31 [.agg [.isl false (List.map cGNode p1.Nodes)],.int .i64 p2] ⟨[],0⟩ (fun u _=>u = .agg [.isl false (List.map cGNode r.Nodes)]∧Bel 0 u):=by
 unfold q2o at hF
 refine EvU.of_body Try.tb_ok fn31 rfl ?_
 refine WPU.ghost (tm':=fr 68 [(0,.agg [.isl false (List.map cGNode p1.Nodes)]),(1,.int .i64 p2)]) (Gh.start (Nat.le_of_ble_eq_true rfl)) (Nat.zero_le _) ?_
 refine sr ?_
 refine RS.q (u:=.ptr 0 0 0) (σ':=⟨[(0,.row [.isl false (List.map cGNode p1.Nodes)] 25)],1⟩) rfl (q3m rfl rfl rfl) (RS.q (u:=.ptr 1 0 0) (σ':=⟨[(1,.row [.nils] 25),(0,.row [.isl false (List.map cGNode p1.Nodes)] 25)],2⟩) rfl (q1d inf25 rfl rfl) ?_)
 refine se ?_
 refine RS.q (u:=.map 2) (σ':=⟨[(2,.map (List.map (mE (fun x=>.int .i64 x) (fun x=>.int .i64 x)) (mNew:MapL Int Int).es) (mNew:MapL Int Int).cl),(1,.row [.nils] 25),(0,.row [.isl false (List.map cGNode p1.Nodes)] 25)],3⟩) rfl (op_mnew) (RS.q (u:=.ptr 3 0 0) (σ':=⟨[(3,.row [.nilm] 61),(2,.map (List.map (mE (fun x=>.int .i64 x) (fun x=>.int .i64 x)) (mNew:MapL Int Int).es) (mNew:MapL Int Int).cl),(1,.row [.nils] 25),(0,.row [.isl false (List.map cGNode p1.Nodes)] 25)],4⟩) rfl (q1d inf61 rfl rfl) (RS.opn (u:=.junk) (σ':=⟨[(3,.row [.map 2] 61),(2,.map (List.map (mE (fun x=>.int .i64 x) (fun x=>.int .i64 x)) (mNew:MapL Int Int).es) (mNew:MapL Int Int).cl),(1,.row [.nils] 25),(0,.row [.isl false (List.map cGNode p1.Nodes)] 25)],4⟩) rfl (q14 (q02 inf61) rfl rfl rfl rfl rfl rfl rfl rfl) rfl ?_))
 refine se ?_
 refine RS.q (u:=.ptr 4 0 0) (σ':=⟨[(4,.row [.nils] 55),(3,.row [.map 2] 61),(2,.map (List.map (mE (fun x=>.int .i64 x) (fun x=>.int .i64 x)) (mNew:MapL Int Int).es) (mNew:MapL Int Int).cl),(1,.row [.nils] 25),(0,.row [.isl false (List.map cGNode p1.Nodes)] 25)],5⟩) rfl (q1d inf55 rfl rfl) ?_
 refine se ?_
 refine RS.q (u:=.ptr 5 0 0) (σ':=⟨[(5,.row [.nilf] 62),(4,.row [.nils] 55),(3,.row [.map 2] 61),(2,.map (List.map (mE (fun x=>.int .i64 x) (fun x=>.int .i64 x)) (mNew:MapL Int Int).es) (mNew:MapL Int Int).cl),(1,.row [.nils] 25),(0,.row [.isl false (List.map cGNode p1.Nodes)] 25)],6⟩) rfl (q1d inf62 rfl rfl) ?_
 refine se ?_
 refine RS.q rfl (op_fun rfl rfl) (RS.opn (u:=.junk) (σ':=⟨[(5,.row [.fn (.func 42) [] [.ptr 4 0 0,.ptr 3 0 0,.ptr 0 0 0,.ptr 5 0 0]] 62),(4,.row [.nils] 55),(3,.row [.map 2] 61),(2,.map (List.map (mE (fun x=>.int .i64 x) (fun x=>.int .i64 x)) (mNew:MapL Int Int).es) (mNew:MapL Int Int).cl),(1,.row [.nils] 25),(0,.row [.isl false (List.map cGNode p1.Nodes)] 25)],6⟩) rfl (q14 (q02 inf62) rfl rfl rfl rfl rfl rfl rfl rfl) rfl ?_)
 refine sd ?_
 refine WPU.ghost (tm':=fr 68 [(1,.int .i64 p2),(2,.ptr 0 0 0),(4,.ptr 1 0 0),(5,.ptr 3 0 0),(6,.ptr 4 0 0),(7,.ptr 5 0 0)]) (σ':=⟨[(6,.vec (List.map (cI .i64) ([]:List Int)).flatten 3 1 0),(5,.row [.fn (.func 42) [] [.ptr 4 0 0,.ptr 3 0 0,.ptr 0 0 0,.ptr 5 0 0]] 62),(4,.row [.vl 6 0 0 (([]:List Int).length)] 55),(3,.row [.map 2] 61),(2,.map (List.map (mE (fun x=>.int .i64 x) (fun x=>.int .i64 x)) (mNew:MapL Int Int).es) (mNew:MapL Int Int).cl),(1,.row [.nils] 25),(0,.row [.isl false (List.map cGNode p1.Nodes)] 25)],7⟩) (Gh.trans (Gh.nilC 4 0 3 1 (by decide) (Nat.zero_le _) rfl rfl) (Gh.eqS ⟨rfl,rfl,rfl,rfl,rfl,rfl,trivial⟩ rfl)) (Nat.zero_le _) ?_
 refine st ?_
 obtain ⟨r3,h4,hF⟩:=q00 hF
 refine sr ?_
 refine RS.q (u:=.fn (.func 42) [] [.ptr 4 0 0,.ptr 3 0 0,.ptr 0 0 0,.ptr 5 0 0]) rfl (q04 und62 rfl rfl rfl rfl) (RS.mv rfl rfl rfl rfl ?_)
 refine RS.callx (R:=fun u σ'=>∃ t5:Nat→Nat,u = .tup []∧σ'=⟨[(6,.vec (List.map (cI .i64) r3.1).flatten 3 1 (t5 0)),(5,.row [.fn (.func 42) [] [.ptr 4 0 0,.ptr 3 0 0,.ptr 0 0 0,.ptr 5 0 0]] 62),(4,.row [.vl 6 (t5 0) 0 r3.1.length] 55),(3,.row [.map 2] 61),(2,.map (List.map (mE (fun x=>.int .i64 x) (fun x=>.int .i64 x)) r3.2.es) r3.2.cl),(1,.row [.nils] 25),(0,.row [.isl false (List.map cGNode p1.Nodes)] 25)],7⟩) (args:=[.int .i64 p2,.ptr 4 0 0,.ptr 3 0 0,.ptr 0 0 0,.ptr 5 0 0]) rfl (q01 rfl rfl fn42 hb42 rfl rfl) (EvU.st [4,3,0,5,6,2] (q4l n p2 p1.Nodes ([]:List Int) (mNew:MapL Int Int) r3 h4 0)) rfl rfl ?_
 rintro _ _ ⟨t5,rfl,rfl⟩
 refine sd ?_
 obtain ⟨h6,hF⟩:=q3e hF
 refine sr ?_
 refine RS.q (u:=.vl 6 (t5 0) 0 r3.1.length) rfl (q04 und55 rfl rfl rfl rfl) (RS.q rfl (q0n rfl rfl rfl (q93 und55 rfl)) (RS.q (u:=.sl 7 0 ((r3.1.length:Int).toNat) ((r3.1.length:Int).toNat)) (σ':=⟨[(7,.row (List.map cGNode (List.replicate (r3.1.length:Int).toNat (GNode.mk 0 []))).flatten 43),(6,.vec (List.map (cI .i64) r3.1).flatten 3 1 (t5 0)),(5,.row [.fn (.func 42) [] [.ptr 4 0 0,.ptr 3 0 0,.ptr 0 0 0,.ptr 5 0 0]] 62),(4,.row [.vl 6 (t5 0) 0 r3.1.length] 55),(3,.row [.map 2] 61),(2,.map (List.map (mE (fun x=>.int .i64 x) (fun x=>.int .i64 x)) r3.2.es) r3.2.cl),(1,.row [.nils] 25),(0,.row [.isl false (List.map cGNode p1.Nodes)] 25)],8⟩) rfl (op_mks cGNode (GNode.mk 0 []) rfl rfl und23 inf43 rfl rfl rfl rfl h6) (RS.q (u:=.agg [.sl 7 0 ((r3.1.length:Int).toNat) ((r3.1.length:Int).toNat)]) rfl (q6t bd25 rfl rfl rfl) (RS.q (u:=.ptr 8 0 0) (σ':=⟨[(8,.row [.nils] 25),(7,.row (List.map cGNode (List.replicate (r3.1.length:Int).toNat (GNode.mk 0 []))).flatten 43),(6,.vec (List.map (cI .i64) r3.1).flatten 3 1 (t5 0)),(5,.row [.fn (.func 42) [] [.ptr 4 0 0,.ptr 3 0 0,.ptr 0 0 0,.ptr 5 0 0]] 62),(4,.row [.vl 6 (t5 0) 0 r3.1.length] 55),(3,.row [.map 2] 61),(2,.map (List.map (mE (fun x=>.int .i64 x) (fun x=>.int .i64 x)) r3.2.es) r3.2.cl),(1,.row [.nils] 25),(0,.row [.isl false (List.map cGNode p1.Nodes)] 25)],9⟩) rfl (q1d inf25 rfl rfl) (RS.opn (u:=.junk) (σ':=⟨[(8,.row [.sl 7 0 ((r3.1.length:Int).toNat) ((r3.1.length:Int).toNat)] 25),(7,.row (List.map cGNode (List.replicate (r3.1.length:Int).toNat (GNode.mk 0 []))).flatten 43),(6,.vec (List.map (cI .i64) r3.1).flatten 3 1 (t5 0)),(5,.row [.fn (.func 42) [] [.ptr 4 0 0,.ptr 3 0 0,.ptr 0 0 0,.ptr 5 0 0]] 62),(4,.row [.vl 6 (t5 0) 0 r3.1.length] 55),(3,.row [.map 2] 61),(2,.map (List.map (mE (fun x=>.int .i64 x) (fun x=>.int .i64 x)) r3.2.es) r3.2.cl),(1,.row [.nils] 25),(0,.row [.isl false (List.map cGNode p1.Nodes)] 25)],9⟩) rfl (q14 (q02 inf25) rfl rfl rfl rfl rfl rfl rfl rfl) rfl ?_)))))
 refine se ?_
 refine RS.q (u:=.vl 6 (t5 0) 0 r3.1.length) rfl (q04 und55 rfl rfl rfl rfl) (RS.q rfl (q0n rfl rfl rfl (q93 und55 rfl)) (RS.mv rfl rfl rfl rfl ?_))
 refine sd ?_
 refine WPU.ghost (tm':=fr 68 [(2,.ptr 0 0 0),(4,.ptr 1 0 0),(5,.ptr 3 0 0),(8,.ptr 8 0 0),(22,.vl 6 (t5 0) 0 r3.1.length),(23,.int .i64 (r3.1.length:Int)),(24,.int .i64 0)]) (Gh.sub ⟨rfl,rfl,rfl,rfl,rfl,rfl,rfl,trivial⟩) (Nat.zero_le _) ?_
 refine WPU.loopK (fun m tm σ=>∃ z14:Int,∃ l15:List GNode,q1f p1 n r3 m z14 l15=some r∧tm=fr 68 [(2,.ptr 0 0 0),(4,.ptr 1 0 0),(5,.ptr 3 0 0),(8,.ptr 8 0 0),(22,.vl 6 (t5 0) 0 r3.1.length),(23,.int .i64 (r3.1.length:Int)),(24,.int .i64 z14)]∧σ=⟨[(8,.row [.sl 7 0 ((r3.1.length:Int).toNat) ((r3.1.length:Int).toNat)] 25),(7,.row (List.map cGNode l15).flatten 43),(6,.vec (List.map (cI .i64) r3.1).flatten 3 1 (t5 0)),(5,.row [.fn (.func 42) [] [.ptr 4 0 0,.ptr 3 0 0,.ptr 0 0 0,.ptr 5 0 0]] 62),(4,.row [.vl 6 (t5 0) 0 r3.1.length] 55),(3,.row [.map 2] 61),(2,.map (List.map (mE (fun x=>.int .i64 x) (fun x=>.int .i64 x)) r3.2.es) r3.2.cl),(1,.row [.nils] 25),(0,.row [.isl false (List.map cGNode p1.Nodes)] 25)],9⟩) (fun tm σ=>∃ l16:List GNode,q3g r3 l16=some r∧tm=fr 68 [(4,.ptr 1 0 0),(8,.ptr 8 0 0)]∧σ=⟨[(8,.row [.sl 7 0 ((r3.1.length:Int).toNat) ((r3.1.length:Int).toNat)] 25),(7,.row (List.map cGNode l16).flatten 43),(6,.vec (List.map (cI .i64) r3.1).flatten 3 1 (t5 0)),(5,.row [.fn (.func 42) [] [.ptr 4 0 0,.ptr 3 0 0,.ptr 0 0 0,.ptr 5 0 0]] 62),(4,.row [.vl 6 (t5 0) 0 r3.1.length] 55),(3,.row [.map 2] 61),(2,.map (List.map (mE (fun x=>.int .i64 x) (fun x=>.int .i64 x)) r3.2.es) r3.2.cl),(1,.row [.nils] 25),(0,.row [.isl false (List.map cGNode p1.Nodes)] 25)],9⟩) n ⟨0,(List.replicate (r3.1.length:Int).toNat (GNode.mk 0 [])),hF,rfl,rfl⟩ ?_ ?_
 rintro _ _ ⟨l16,hF,rfl,rfl⟩
 unfold q3g at hF
 refine sr ?_
 refine RS.q (u:=.agg [.sl 7 0 ((r3.1.length:Int).toNat) ((r3.1.length:Int).toNat)]) rfl (q0m und25 rfl (q02 inf25) rfl rfl rfl) (RS.opn (u:=.junk) (σ':=⟨[(8,.row [.sl 7 0 ((r3.1.length:Int).toNat) ((r3.1.length:Int).toNat)] 25),(7,.row (List.map cGNode l16).flatten 43),(6,.vec (List.map (cI .i64) r3.1).flatten 3 1 (t5 0)),(5,.row [.fn (.func 42) [] [.ptr 4 0 0,.ptr 3 0 0,.ptr 0 0 0,.ptr 5 0 0]] 62),(4,.row [.vl 6 (t5 0) 0 r3.1.length] 55),(3,.row [.map 2] 61),(2,.map (List.map (mE (fun x=>.int .i64 x) (fun x=>.int .i64 x)) r3.2.es) r3.2.cl),(1,.row [.sl 7 0 ((r3.1.length:Int).toNat) ((r3.1.length:Int).toNat)] 25),(0,.row [.isl false (List.map cGNode p1.Nodes)] 25)],9⟩) rfl (q14 (q02 inf25) rfl rfl rfl rfl rfl rfl rfl rfl) rfl ?_)
 refine sd ?_
 refine WPU.ret ?_
 refine st ?_
 obtain ⟨h17,hF⟩:=q3e hF
 have hr:=Option.some.inj hF
 subst hr
 exact ⟨.inr rfl,[.agg [.sl 7 0 ((r3.1.length:Int).toNat) ((r3.1.length:Int).toNat)]],res_c (q0m und25 rfl (q02 inf25) rfl rfl rfl) (q1v),.agg [.isl false (List.map cGNode l16)],⟨[],0⟩,Nat.le_refl _,Gh.trans (Gh.fz (tm':=[.agg [.isl false (List.map cGNode l16)]]) 7 (.row (List.map cGNode l16).flatten 43) 2 rfl (by simp) (by simp only [oneU,q09,q05,q0q,q0c,q0t,q0g,q0f,q0e,q0d,q0a,q0r,q0s,q0p,q0u,q1k,junkT,fz_rl q2i h17,q58 (show Nat.beq 0 7=false from rfl),q57 (show Nat.beq 0 7=false from rfl),q56 (show Nat.beq 0 7=false from rfl),q58 (show Nat.beq 2 7=false from rfl),q57 (show Nat.beq 2 7=false from rfl),q56 (show Nat.beq 2 7=false from rfl),q58 (show Nat.beq 3 7=false from rfl),q57 (show Nat.beq 3 7=false from rfl),q56 (show Nat.beq 3 7=false from rfl),q58 (show Nat.beq 4 7=false from rfl),q57 (show Nat.beq 4 7=false from rfl),q56 (show Nat.beq 4 7=false from rfl),q58 (show Nat.beq 5 7=false from rfl),q57 (show Nat.beq 5 7=false from rfl),q56 (show Nat.beq 5 7=false from rfl),q58 (show Nat.beq 6 7=false from rfl),q57 (show Nat.beq 6 7=false from rfl),q56 (show Nat.beq 6 7=false from rfl),q3o _ _ _ (q4r 7 (fun q=>bel_cI _ .i64 q) r3.1),fz_mE]) rfl) (Gh.toR (.agg [.isl false (List.map cGNode l16)]) rfl),rfl,BU.h⟩
 rintro m1 _ _ ⟨z14,l15,hF,rfl,rfl⟩
 rcases m1 with _ | m1
 cases hF
 unfold q1f at hF
 refine sr ?_
 refine RS.q rfl (q03 rfl rfl (q2d _ _ _) rfl) ?_
 refine sd ?_
 refine WPU.condS (t:=(decide (z14<(r3.1.length:Int)))) rfl (fun h18=>?_) (fun h18=>?_)
 replace hF:=q0k h18 hF
 refine st ?_
 refine WPU.skip ?_
 refine st ?_
 refine WPU.block ?_
 refine st ?_
 obtain ⟨x19,h20,hF⟩:=q00 hF
 refine sr ?_
 refine RS.q (u:=.ptr 6 (t5 0) (0*1+z14.toNat*1)) rfl (q2r rfl rfl (ia_vl (cI .i64) und55 (q02 inf3) (by decide) (q6o .i64) (vo rfl) h20)) ?_
 refine RS.q (u:=.int .i64 x19) rfl (qab (cI .i64) (fun x=>.int .i64 x) und3 rfl (fun _=>rfl) rfl rfl h20) ?_
 repeat refine RS.as rfl rfl rfl rfl ?_
 refine sd ?_
 obtain ⟨x21,h22,hF⟩:=q00 hF
 obtain ⟨r23,h24,hF⟩:=q00 hF
 obtain ⟨r26,h27,hF⟩:=q00 hF
 refine sr ?_
 refine RS.q (u:=.ptr 0 0 0) rfl (q0v und25 rfl (q02 inf23) rfl rfl rfl) (RS.q (u:=.isl false (List.map cGNode p1.Nodes)) rfl (q04 und23 rfl rfl rfl rfl) (RS.mv rfl rfl rfl rfl (RS.q (u:=.iptr (cGNode x21)) rfl (q2r rfl rfl (q3j cGNode und23 (q02 inf43) q2i h22 rfl)) (RS.q (u:=.iptr [.isl false (List.map cGArc x21.Arcs)]) rfl (q98 und43 rfl (q02 inf41) rfl rfl) (RS.q (u:=.isl false (List.map cGArc x21.Arcs)) rfl (q5b und41 rfl rfl rfl) ?_)))))
 refine RS.callx (R:=fun u σ'=>∃ t25:Nat→Nat,u = .fn (.func 55) [] [.iptr [.isl false (List.map cGArc r23)]]∧σ'=⟨[(8,.row [.sl 7 0 ((r3.1.length:Int).toNat) ((r3.1.length:Int).toNat)] 25),(7,.row (List.map cGNode l15).flatten 43),(6,.vec (List.map (cI .i64) r3.1).flatten 3 1 (t5 0)),(5,.row [.fn (.func 42) [] [.ptr 4 0 0,.ptr 3 0 0,.ptr 0 0 0,.ptr 5 0 0]] 62),(4,.row [.vl 6 (t5 0) 0 r3.1.length] 55),(3,.row [.map 2] 61),(2,.map (List.map (mE (fun x=>.int .i64 x) (fun x=>.int .i64 x)) r3.2.es) r3.2.cl),(1,.row [.nils] 25),(0,.row [.isl false (List.map cGNode p1.Nodes)] 25)],9⟩) (args:=[.isl false (List.map cGArc x21.Arcs)]) rfl (q01 rfl rfl fn44 hb44 rfl rfl) (EvU.st [] (q4m n x21.Arcs r23 h24 )) rfl rfl ?_
 rintro _ _ ⟨t25,rfl,rfl⟩
 refine RS.callx (R:=fun u σ'=>∃ t28:Nat→Nat,u = .vl 10 (t28 0) 0 r26.length∧σ'=⟨[(10,.vec (List.map cGArc r26).flatten 45 2 (t28 0)),(8,.row [.sl 7 0 ((r3.1.length:Int).toNat) ((r3.1.length:Int).toNat)] 25),(7,.row (List.map cGNode l15).flatten 43),(6,.vec (List.map (cI .i64) r3.1).flatten 3 1 (t5 0)),(5,.row [.fn (.func 42) [] [.ptr 4 0 0,.ptr 3 0 0,.ptr 0 0 0,.ptr 5 0 0]] 62),(4,.row [.vl 6 (t5 0) 0 r3.1.length] 55),(3,.row [.map 2] 61),(2,.map (List.map (mE (fun x=>.int .i64 x) (fun x=>.int .i64 x)) r3.2.es) r3.2.cl),(1,.row [.nils] 25),(0,.row [.isl false (List.map cGNode p1.Nodes)] 25)],11⟩) (args:=[.fn (.func 55) [] [.iptr [.isl false (List.map cGArc r23)]],.fn (.func 45) [] []]) rfl (q01 rfl rfl fn43 hb43 rfl rfl) (EvU.st [] (q43 n r23 r26 h27 )) rfl rfl ?_
 rintro _ _ ⟨t28,rfl,rfl⟩
 refine se ?_
 refine RS.q rfl (q0n rfl rfl rfl (q93 und41 rfl)) (RS.mv rfl rfl rfl rfl ?_)
 refine sd ?_
 refine WPU.ghost (tm':=fr 68 [(2,.ptr 0 0 0),(4,.ptr 1 0 0),(5,.ptr 3 0 0),(8,.ptr 8 0 0),(9,.int .i64 z14),(10,.int .i64 x19),(11,.vl 10 (t28 0) 0 r26.length),(22,.vl 6 (t5 0) 0 r3.1.length),(23,.int .i64 (r3.1.length:Int)),(24,.int .i64 z14),(38,.int .i64 (r26.length:Int)),(39,.int .i64 0)]) (Gh.sub ⟨rfl,rfl,rfl,rfl,rfl,rfl,rfl,rfl,rfl,rfl,rfl,rfl,trivial⟩) (Nat.zero_le _) ?_
 refine WPU.loopK (fun m tm σ=>∃ z42:Int,∃ l43:List GArc,q21 p1 r3 z14 l15 (q1f p1 n r3 m1) x19 r26 m z42 l43=some r∧tm=fr 68 [(2,.ptr 0 0 0),(4,.ptr 1 0 0),(5,.ptr 3 0 0),(8,.ptr 8 0 0),(9,.int .i64 z14),(10,.int .i64 x19),(11,.vl 10 (t28 0) 0 l43.length),(22,.vl 6 (t5 0) 0 r3.1.length),(23,.int .i64 (r3.1.length:Int)),(24,.int .i64 z14),(38,.int .i64 (r26.length:Int)),(39,.int .i64 z42)]∧σ=⟨[(10,.vec (List.map cGArc l43).flatten 45 2 (t28 0)),(8,.row [.sl 7 0 ((r3.1.length:Int).toNat) ((r3.1.length:Int).toNat)] 25),(7,.row (List.map cGNode l15).flatten 43),(6,.vec (List.map (cI .i64) r3.1).flatten 3 1 (t5 0)),(5,.row [.fn (.func 42) [] [.ptr 4 0 0,.ptr 3 0 0,.ptr 0 0 0,.ptr 5 0 0]] 62),(4,.row [.vl 6 (t5 0) 0 r3.1.length] 55),(3,.row [.map 2] 61),(2,.map (List.map (mE (fun x=>.int .i64 x) (fun x=>.int .i64 x)) r3.2.es) r3.2.cl),(1,.row [.nils] 25),(0,.row [.isl false (List.map cGNode p1.Nodes)] 25)],11⟩) (fun tm σ=>∃ l44:List GArc,q2u p1 r3 z14 l15 (q1f p1 n r3 m1) x19 l44=some r∧tm=fr 68 [(2,.ptr 0 0 0),(4,.ptr 1 0 0),(5,.ptr 3 0 0),(8,.ptr 8 0 0),(9,.int .i64 z14),(10,.int .i64 x19),(11,.vl 10 (t28 0) 0 l44.length),(22,.vl 6 (t5 0) 0 r3.1.length),(23,.int .i64 (r3.1.length:Int)),(24,.int .i64 z14)]∧σ=⟨[(10,.vec (List.map cGArc l44).flatten 45 2 (t28 0)),(8,.row [.sl 7 0 ((r3.1.length:Int).toNat) ((r3.1.length:Int).toNat)] 25),(7,.row (List.map cGNode l15).flatten 43),(6,.vec (List.map (cI .i64) r3.1).flatten 3 1 (t5 0)),(5,.row [.fn (.func 42) [] [.ptr 4 0 0,.ptr 3 0 0,.ptr 0 0 0,.ptr 5 0 0]] 62),(4,.row [.vl 6 (t5 0) 0 r3.1.length] 55),(3,.row [.map 2] 61),(2,.map (List.map (mE (fun x=>.int .i64 x) (fun x=>.int .i64 x)) r3.2.es) r3.2.cl),(1,.row [.nils] 25),(0,.row [.isl false (List.map cGNode p1.Nodes)] 25)],11⟩) n ⟨0,r26,hF,rfl,rfl⟩ ?_ ?_
 rintro _ _ ⟨l44,hF,rfl,rfl⟩
 unfold q2u at hF
 refine st ?_
 refine WPU.ghost (tm':=fr 68 [(2,.ptr 0 0 0),(4,.ptr 1 0 0),(5,.ptr 3 0 0),(8,.ptr 8 0 0),(9,.int .i64 z14),(10,.int .i64 x19),(11,.isl false (List.map cGArc l44)),(22,.vl 6 (t5 0) 0 r3.1.length),(23,.int .i64 (r3.1.length:Int)),(24,.int .i64 z14)]) (σ':=⟨[(8,.row [.sl 7 0 ((r3.1.length:Int).toNat) ((r3.1.length:Int).toNat)] 25),(7,.row (List.map cGNode l15).flatten 43),(6,.vec (List.map (cI .i64) r3.1).flatten 3 1 (t5 0)),(5,.row [.fn (.func 42) [] [.ptr 4 0 0,.ptr 3 0 0,.ptr 0 0 0,.ptr 5 0 0]] 62),(4,.row [.vl 6 (t5 0) 0 r3.1.length] 55),(3,.row [.map 2] 61),(2,.map (List.map (mE (fun x=>.int .i64 x) (fun x=>.int .i64 x)) r3.2.es) r3.2.cl),(1,.row [.nils] 25),(0,.row [.isl false (List.map cGNode p1.Nodes)] 25)],11⟩) (Gh.trans (Gh.sub (l':=[(2,.ptr 0 0 0),(4,.ptr 1 0 0),(5,.ptr 3 0 0),(8,.ptr 8 0 0),(9,.int .i64 z14),(10,.int .i64 x19),(11,.vl 10 (t28 0) 0 l44.length),(22,.vl 6 (t5 0) 0 r3.1.length),(23,.int .i64 (r3.1.length:Int)),(24,.int .i64 z14)]) ⟨rfl,rfl,rfl,rfl,rfl,rfl,rfl,rfl,rfl,rfl,trivial⟩) (Gh.fzS (l':=[(2,.ptr 0 0 0),(4,.ptr 1 0 0),(5,.ptr 3 0 0),(8,.ptr 8 0 0),(9,.int .i64 z14),(10,.int .i64 x19),(11,.isl false (List.map cGArc l44)),(22,.vl 6 (t5 0) 0 r3.1.length),(23,.int .i64 (r3.1.length:Int)),(24,.int .i64 z14)]) (h':=[(8,.row [.sl 7 0 ((r3.1.length:Int).toNat) ((r3.1.length:Int).toNat)] 25),(7,.row (List.map cGNode l15).flatten 43),(6,.vec (List.map (cI .i64) r3.1).flatten 3 1 (t5 0)),(5,.row [.fn (.func 42) [] [.ptr 4 0 0,.ptr 3 0 0,.ptr 0 0 0,.ptr 5 0 0]] 62),(4,.row [.vl 6 (t5 0) 0 r3.1.length] 55),(3,.row [.map 2] 61),(2,.map (List.map (mE (fun x=>.int .i64 x) (fun x=>.int .i64 x)) r3.2.es) r3.2.cl),(1,.row [.nils] 25),(0,.row [.isl false (List.map cGNode p1.Nodes)] 25)]) 10 (.vec (List.map cGArc l44).flatten 45 2 (t28 0)) 2 rfl (by simp) (by simp only [fzS,oneU,q09,q05,q0q,q0c,q0t,q0g,q0f,q0e,q0d,q0a,q0r,q0s,q0p,q0u,q1k,junkT,fz_vl q1r,q58 (show Nat.beq 0 10=false from rfl),q57 (show Nat.beq 0 10=false from rfl),q56 (show Nat.beq 0 10=false from rfl),q58 (show Nat.beq 1 10=false from rfl),q57 (show Nat.beq 1 10=false from rfl),q56 (show Nat.beq 1 10=false from rfl),q58 (show Nat.beq 2 10=false from rfl),q57 (show Nat.beq 2 10=false from rfl),q56 (show Nat.beq 2 10=false from rfl),q58 (show Nat.beq 3 10=false from rfl),q57 (show Nat.beq 3 10=false from rfl),q56 (show Nat.beq 3 10=false from rfl),q58 (show Nat.beq 4 10=false from rfl),q57 (show Nat.beq 4 10=false from rfl),q56 (show Nat.beq 4 10=false from rfl),q58 (show Nat.beq 5 10=false from rfl),q57 (show Nat.beq 5 10=false from rfl),q56 (show Nat.beq 5 10=false from rfl),q58 (show Nat.beq 6 10=false from rfl),q57 (show Nat.beq 6 10=false from rfl),q56 (show Nat.beq 6 10=false from rfl),q58 (show Nat.beq 7 10=false from rfl),q57 (show Nat.beq 7 10=false from rfl),q56 (show Nat.beq 7 10=false from rfl),q58 (show Nat.beq 8 10=false from rfl),q57 (show Nat.beq 8 10=false from rfl),q56 (show Nat.beq 8 10=false from rfl),q3o _ _ _ (q4r 10 (fun q=>q5y _ q) l15),q3o _ _ _ (q4r 10 (fun q=>bel_cI _ .i64 q) r3.1),fz_mE]) (by simp only [fzH,fzB,ug,Nat.beq,cond_true,cond_false,oneU,q09,q05,q0q,q0c,q0t,q0g,q0f,q0e,q0d,q0a,q0r,q0s,q0p,q0u,q1k,junkT,fz_vl q1r,q58 (show Nat.beq 0 10=false from rfl),q57 (show Nat.beq 0 10=false from rfl),q56 (show Nat.beq 0 10=false from rfl),q58 (show Nat.beq 1 10=false from rfl),q57 (show Nat.beq 1 10=false from rfl),q56 (show Nat.beq 1 10=false from rfl),q58 (show Nat.beq 2 10=false from rfl),q57 (show Nat.beq 2 10=false from rfl),q56 (show Nat.beq 2 10=false from rfl),q58 (show Nat.beq 3 10=false from rfl),q57 (show Nat.beq 3 10=false from rfl),q56 (show Nat.beq 3 10=false from rfl),q58 (show Nat.beq 4 10=false from rfl),q57 (show Nat.beq 4 10=false from rfl),q56 (show Nat.beq 4 10=false from rfl),q58 (show Nat.beq 5 10=false from rfl),q57 (show Nat.beq 5 10=false from rfl),q56 (show Nat.beq 5 10=false from rfl),q58 (show Nat.beq 6 10=false from rfl),q57 (show Nat.beq 6 10=false from rfl),q56 (show Nat.beq 6 10=false from rfl),q58 (show Nat.beq 7 10=false from rfl),q57 (show Nat.beq 7 10=false from rfl),q56 (show Nat.beq 7 10=false from rfl),q58 (show Nat.beq 8 10=false from rfl),q57 (show Nat.beq 8 10=false from rfl),q56 (show Nat.beq 8 10=false from rfl),q3o _ _ _ (q4r 10 (fun q=>q5y _ q) l15),q3o _ _ _ (q4r 10 (fun q=>bel_cI _ .i64 q) r3.1),fz_mE]))) (Nat.zero_le _) ?_
 refine st ?_
 obtain ⟨x45,h46,hF⟩:=q00 hF
 obtain ⟨x47,h48,hF⟩:=q00 hF
 refine WPU.drawE Try.tb_ok [] (by kernel_rfl) ?_
 refine RD.q (u:=.ptr 8 0 0) rfl (q0v und25 rfl (q02 inf23) rfl rfl rfl) (RD.q (u:=.sl 7 0 ((r3.1.length:Int).toNat) ((r3.1.length:Int).toNat)) rfl (q04 und23 rfl rfl rfl rfl) (RD.mv rfl rfl rfl rfl (RD.q (u:=.ptr 0 0 0) rfl (q0v und25 rfl (q02 inf23) rfl rfl rfl) (RD.q (u:=.isl false (List.map cGNode p1.Nodes)) rfl (q04 und23 rfl rfl rfl rfl) (RD.mv rfl rfl rfl rfl (RD.q (u:=.iptr (cGNode x45)) rfl (q2r rfl rfl (q3j cGNode und23 (q02 inf43) q2i h46 rfl)) (RD.q (u:=.iptr (cGNode x45)) rfl (q98 und43 rfl (q02 inf3) rfl rfl) ?_)))))))
 refine RD.q (u:=.int .i64 x45.Typex) rfl (q5b und3 rfl rfl rfl) (RD.mv rfl rfl rfl rfl (RD.q (u:=.agg [.int .i64 x45.Typex,.isl false (List.map cGArc l44)]) rfl (q6t bd43 rfl rfl rfl) (RD.q (u:=.ptr 7 0 (0*2+z14.toNat*2)) rfl (q2r rfl rfl (q8m und23 (q02 inf43) rfl h48)) (RD.actn (u:=.junk) (σ':=⟨[(8,.row [.sl 7 0 ((r3.1.length:Int).toNat) ((r3.1.length:Int).toNat)] 25),(7,.row (List.map cGNode (l15.set z14.toNat (GNode.mk x45.Typex l44))).flatten 43),(6,.vec (List.map (cI .i64) r3.1).flatten 3 1 (t5 0)),(5,.row [.fn (.func 42) [] [.ptr 4 0 0,.ptr 3 0 0,.ptr 0 0 0,.ptr 5 0 0]] 62),(4,.row [.vl 6 (t5 0) 0 r3.1.length] 55),(3,.row [.map 2] 61),(2,.map (List.map (mE (fun x=>.int .i64 x) (fun x=>.int .i64 x)) r3.2.es) r3.2.cl),(1,.row [.nils] 25),(0,.row [.isl false (List.map cGNode p1.Nodes)] 25)],11⟩) rfl (st_rl cGNode (q02 inf43) q2i rfl rfl rfl rfl rfl rfl h48 rfl) rfl ?_))))
 refine RD.done ⟨by kernel_rfl,trivial,?_⟩
 refine sr ?_
 refine RS.q rfl (q03 rfl rfl (q42 _ _ _) rfl) (RS.mv rfl rfl rfl rfl ?_)
 refine sd ?_
 exact ⟨m1,_,_,Nat.lt_succ_self _,⟨(IntKind.i64.wrap (z14+1)),(l15.set z14.toNat (GNode.mk x45.Typex l44)),hF,rfl,rfl⟩,(Nat.zero_le _),Gh.toC (n1:=9) ⟨rfl,rfl,rfl,rfl,rfl,rfl,rfl,trivial⟩ rfl (Nat.zero_le _) (by simp)⟩
 rintro m2 _ _ ⟨z42,l43,hF,rfl,rfl⟩
 rcases m2 with _ | m2
 cases hF
 unfold q21 at hF
 refine sr ?_
 refine RS.q rfl (q03 rfl rfl (q2d _ _ _) rfl) ?_
 refine sd ?_
 refine WPU.condS (t:=(decide (z42<(r26.length:Int)))) rfl (fun h49=>?_) (fun h49=>?_)
 replace hF:=q0k h49 hF
 refine st ?_
 refine WPU.skip ?_
 refine st ?_
 refine WPU.block ?_
 refine sr ?_
 refine sd ?_
 obtain ⟨x50,h51,hF⟩:=q00 hF
 obtain ⟨x52,h53,hF⟩:=q00 hF
 refine WPU.joinK (fun tm σ=>tm=fr 68 [(2,.ptr 0 0 0),(4,.ptr 1 0 0),(5,.ptr 3 0 0),(8,.ptr 8 0 0),(9,.int .i64 z14),(10,.int .i64 x19),(11,.vl 10 (t28 0) 0 ((l43.set (0+z42.toNat) (GArc.mk x52.Feat ((mGet (fun a b=>a == b) r3.2 x50.To).getD 0))).length)),(22,.vl 6 (t5 0) 0 r3.1.length),(23,.int .i64 (r3.1.length:Int)),(24,.int .i64 z14),(38,.int .i64 (r26.length:Int)),(39,.int .i64 z42)]∧σ=⟨[(10,.vec (List.map cGArc (l43.set (0+z42.toNat) (GArc.mk x52.Feat ((mGet (fun a b=>a == b) r3.2 x50.To).getD 0)))).flatten 45 2 (t28 0)),(8,.row [.sl 7 0 ((r3.1.length:Int).toNat) ((r3.1.length:Int).toNat)] 25),(7,.row (List.map cGNode l15).flatten 43),(6,.vec (List.map (cI .i64) r3.1).flatten 3 1 (t5 0)),(5,.row [.fn (.func 42) [] [.ptr 4 0 0,.ptr 3 0 0,.ptr 0 0 0,.ptr 5 0 0]] 62),(4,.row [.vl 6 (t5 0) 0 r3.1.length] 55),(3,.row [.map 2] 61),(2,.map (List.map (mE (fun x=>.int .i64 x) (fun x=>.int .i64 x)) r3.2.es) r3.2.cl),(1,.row [.nils] 25),(0,.row [.isl false (List.map cGNode p1.Nodes)] 25)],11⟩) ?_ ?_
 rintro _ _ ⟨rfl,rfl⟩
 refine sr ?_
 refine RS.q rfl (q03 rfl rfl (q42 _ _ _) rfl) (RS.mv rfl rfl rfl rfl ?_)
 refine sd ?_
 exact ⟨m2,_,_,Nat.lt_succ_self _,⟨(IntKind.i64.wrap (z42+1)),(l43.set (0+z42.toNat) (GArc.mk x52.Feat ((mGet (fun a b=>a == b) r3.2 x50.To).getD 0))),hF,rfl,rfl⟩,(Nat.zero_le _),Gh.toC (n1:=11) ⟨rfl,rfl,rfl,rfl,rfl,rfl,rfl,rfl,rfl,rfl,rfl,rfl,trivial⟩ rfl (Nat.zero_le _) (by simp)⟩
 refine WPU.drawE Try.tb_ok [] (by kernel_rfl) ?_
 repeat refine RD.mv rfl rfl rfl rfl ?_
 refine RD.q (u:=.map 2) rfl (q04 und61 rfl rfl rfl rfl) ?_
 repeat refine RD.mv rfl rfl rfl rfl ?_
 refine RD.q (u:=.ptr 10 (t28 0) (0*2+z42.toNat*2)) rfl (q2r rfl rfl (ia_vl cGArc und41 (q02 inf45) (by decide) q1r (vo rfl) h51)) ?_
 refine RD.q (u:=.ptr 10 (t28 0) (0*2+z42.toNat*2+1)) rfl (q0v und45 rfl (q02 inf3) rfl (live_v rfl) rfl) (RD.q (u:=.int .i64 x50.To) rfl (ld_vf cGArc und3 rfl q1r rfl rfl (idxO_V h51) rfl) (RD.q (u:=.int .i64 ((mGet (fun a b=>a == b) r3.2 x50.To).getD 0)) rfl (op_look (kU:=(fun x=>.int .i64 x)) (vU:=(fun x=>.int .i64 x)) (m:=r3.2) (k:=x50.To) (zv:=0) (qaa und3) und61 rfl rfl rfl inf3 rfl) ?_))
 refine RD.q (u:=.ptr 10 (t28 0) (0*2+z42.toNat*2)) rfl (q2r rfl rfl (ia_vl cGArc und41 (q02 inf45) (by decide) q1r (vo rfl) h53)) ?_
 refine RD.q (u:=.ptr 10 (t28 0) (0*2+z42.toNat*2+1)) rfl (q0v und45 rfl (q02 inf3) rfl (live_v rfl) rfl) (RD.actn (u:=.junk) (σ':=⟨[(10,.vec (List.map cGArc (l43.set (0+z42.toNat) (GArc.mk x52.Feat ((mGet (fun a b=>a == b) r3.2 x50.To).getD 0)))).flatten 45 2 (t28 0)),(8,.row [.sl 7 0 ((r3.1.length:Int).toNat) ((r3.1.length:Int).toNat)] 25),(7,.row (List.map cGNode l15).flatten 43),(6,.vec (List.map (cI .i64) r3.1).flatten 3 1 (t5 0)),(5,.row [.fn (.func 42) [] [.ptr 4 0 0,.ptr 3 0 0,.ptr 0 0 0,.ptr 5 0 0]] 62),(4,.row [.vl 6 (t5 0) 0 r3.1.length] 55),(3,.row [.map 2] 61),(2,.map (List.map (mE (fun x=>.int .i64 x) (fun x=>.int .i64 x)) r3.2.es) r3.2.cl),(1,.row [.nils] 25),(0,.row [.isl false (List.map cGNode p1.Nodes)] 25)],11⟩) rfl (st_vf (y:=(GArc.mk x52.Feat ((mGet (fun a b=>a == b) r3.2 x50.To).getD 0))) cGArc (q02 inf3) q1r rfl rfl rfl rfl rfl rfl (idxO_V h53) rfl rfl) rfl ?_)
 refine RD.done ⟨by kernel_rfl,trivial,?_⟩
 refine st ?_
 exact ⟨_,_,⟨rfl,rfl⟩,(Nat.zero_le _),Gh.eqS ⟨rfl,rfl,rfl,rfl,rfl,rfl,(by simp only [List.length_set]; rfl),rfl,rfl,rfl,rfl,rfl,trivial⟩ rfl⟩
 replace hF:=q0j h49 hF
 refine st ?_
 refine WPU.exit ?_
 refine st ?_
 exact ⟨_,_,⟨l43,hF,rfl,rfl⟩,(Nat.zero_le _),Gh.toC (n1:=11) ⟨rfl,rfl,rfl,rfl,rfl,rfl,rfl,rfl,rfl,rfl,trivial⟩ rfl (Nat.zero_le _) (by simp)⟩
 replace hF:=q0j h18 hF
 refine st ?_
 refine WPU.exit ?_
 refine st ?_
 exact ⟨_,_,⟨l15,hF,rfl,rfl⟩,(Nat.zero_le _),Gh.toC (n1:=9) ⟨rfl,rfl,trivial⟩ rfl (Nat.zero_le _) (by simp)⟩
theorem q5s (n:Nat) (p1:GFS) (p2:Int) (r:GFS) (hF:q2o n p1 p2=some r) (σ:Sg):EvU Try.prog 31 [.agg [.isl false (List.map cGNode p1.Nodes)],.int .i64 p2] σ (fun u σ'=>u = .agg [.isl false (List.map cGNode r.Nodes)]∧σ'=σ) :=
 EvU.pure1C (q8k n p1 p2 r hF) σ
def q31 (p1:Int) (p2:Nat) (p4:Nat) (l21:List Bool) (l22:List Bool):Option (Bool×(List Bool)×(List Bool)) :=
 bindO (idxV l21 0 p2 p1) fun x23 =>
 bindO (idxV l22 0 p4 p1) fun x25 =>
 some (false,(l21.set p1.toNat false),(l22.set p1.toNat true))
def q23 (p1:Int) (p2:Nat) (p3:List GNode) (p4:Nat) (x9:GNode) (self:Int→Nat→(List GNode)→Nat→(List Bool)→(List Bool)→Option (Bool×(List Bool)×(List Bool))):Nat→Int→(List Bool)→(List Bool)→Option (Bool×(List Bool)×(List Bool))
 | 0,_,_,_=>none
 | m1+1,z18,l19,l20 =>
  cond (decide (z18<(x9.Arcs.length:Int)))
   (bindO (idxO x9.Arcs z18) fun x28 =>
   bindO (bindO (idxV l19 0 p2 x28.To) fun x30 =>
   cond x30
    (some (true,l19,l20))
    (bindO (idxV l20 0 p4 x28.To) fun x33 =>
    cond (!x33)
     (bindO (self x28.To p2 p3 p4 l19 l20) fun r36 =>
     some (r36.1,r36.2.1,r36.2.2))
     (some (false,l19,l20)))) fun j43 =>
   cond j43.1
    (some (true,j43.2.1,j43.2.2))
    ((q23 p1 p2 p3 p4 x9 self m1) (IntKind.i64.wrap (z18+1)) j43.2.1 j43.2.2))
   (q31 p1 p2 p4 l19 l20)
def q38 (n:Nat) (self:Int→Nat→(List GNode)→Nat→(List Bool)→(List Bool)→Option (Bool×(List Bool)×(List Bool))) (p1:Int) (p2:Nat) (p3:List GNode) (p4:Nat) (p5:List Bool) (p6:List Bool):Option (Bool×(List Bool)×(List Bool)) :=
 bindO (idxV p5 0 p2 p1) fun x7 =>
 bindO (idxO p3 p1) fun x9 =>
 q23 p1 p2 p3 p4 x9 self n 0 (p5.set p1.toNat true) p6
def q1y:Nat→Int→Nat→(List GNode)→Nat→(List Bool)→(List Bool)→Option (Bool×(List Bool)×(List Bool))
 | 0,_,_,_,_,_,_=>none
 | n+1,p1,p2,p3,p4,p5,p6=>q38 n (q1y n) p1 p2 p3 p4 p5 p6
theorem q5j:∀ (n:Nat) (p1:Int) (p2:Nat) (p3:List GNode) (p4:Nat) (p5:List Bool) (p6:List Bool) (r:Bool×(List Bool)×(List Bool)),q1y n p1 p2 p3 p4 p5 p6=some r→EvU Try.prog 35 [.int .i64 p1,.ptr 0 0 0,.ptr 1 0 0,.ptr 2 0 0,.ptr 3 0 0] ⟨[(0,.row [.sl 4 0 p2 p2] 40),(1,.row [.isl false (List.map cGNode p3)] 25),(2,.row [.sl 5 0 p4 p4] 40),(3,.row [.fn (.func 35) [] [.ptr 0 0 0,.ptr 1 0 0,.ptr 2 0 0,.ptr 3 0 0]] 51),(4,.row (List.map cB p5).flatten 4),(5,.row (List.map cB p6).flatten 4)],6⟩ (fun u σ'=>∃ t:Nat→Nat,u = .bool r.1∧σ'=⟨[(0,.row [.sl 4 0 p2 p2] 40),(1,.row [.isl false (List.map cGNode p3)] 25),(2,.row [.sl 5 0 p4 p4] 40),(3,.row [.fn (.func 35) [] [.ptr 0 0 0,.ptr 1 0 0,.ptr 2 0 0,.ptr 3 0 0]] 51),(4,.row (List.map cB r.2.1).flatten 4),(5,.row (List.map cB r.2.2).flatten 4)],6⟩)
 | 0,p1,p2,p3,p4,p5,p6,r,hF=>by cases hF
 | n+1,p1,p2,p3,p4,p5,p6,r,hF=>by
  have ih:=q5j n
  unfold q1y q38 at hF
  refine EvU.of_body Try.tb_ok fn35 rfl ?_
  refine WPU.ghost (tm':=fr 49 [(0,.int .i64 p1),(1,.ptr 0 0 0),(2,.ptr 1 0 0),(3,.ptr 2 0 0),(4,.ptr 3 0 0)]) (Gh.start (Nat.le_of_ble_eq_true rfl)) (Nat.le_refl _) ?_
  refine sr ?_
  refine sd ?_
  obtain ⟨x7,h8,hF⟩:=q00 hF
  refine sr ?_
  refine RS.q (u:=.sl 4 0 p2 p2) rfl (q04 und40 rfl rfl rfl rfl) (RS.mv rfl rfl rfl rfl (RS.q (u:=.ptr 4 0 (0*1+p1.toNat*1)) rfl (q2r rfl rfl (q8m und40 (q02 inf4) rfl h8)) (RS.opn (u:=.junk) (σ':=⟨[(0,.row [.sl 4 0 p2 p2] 40),(1,.row [.isl false (List.map cGNode p3)] 25),(2,.row [.sl 5 0 p4 p4] 40),(3,.row [.fn (.func 35) [] [.ptr 0 0 0,.ptr 1 0 0,.ptr 2 0 0,.ptr 3 0 0]] 51),(4,.row (List.map cB (p5.set p1.toNat true)).flatten 4),(5,.row (List.map cB p6).flatten 4)],6⟩) rfl (st_rl cB (q02 inf4) len_cB rfl rfl rfl rfl rfl rfl h8 rfl) rfl ?_)))
  refine sd ?_
  obtain ⟨x9,h10,hF⟩:=q00 hF
  refine sr ?_
  refine RS.q (u:=.ptr 1 0 0) rfl (q0v und25 rfl (q02 inf23) rfl rfl rfl) (RS.q (u:=.isl false (List.map cGNode p3)) rfl (q04 und23 rfl rfl rfl rfl) (RS.mv rfl rfl rfl rfl (RS.q (u:=.iptr (cGNode x9)) rfl (q2r rfl rfl (q3j cGNode und23 (q02 inf43) q2i h10 rfl)) (RS.q (u:=.iptr [.isl false (List.map cGArc x9.Arcs)]) rfl (q98 und43 rfl (q02 inf41) rfl rfl) (RS.q (u:=.isl false (List.map cGArc x9.Arcs)) rfl (q5b und41 rfl rfl rfl) (RS.q rfl (q0n rfl rfl rfl (q0h cGArc und41)) (RS.mv rfl rfl rfl rfl ?_)))))))
  refine sd ?_
  refine WPU.ghost (tm':=fr 49 [(0,.int .i64 p1),(1,.ptr 0 0 0),(3,.ptr 2 0 0),(4,.ptr 3 0 0),(17,.isl false (List.map cGArc x9.Arcs)),(18,.int .i64 (x9.Arcs.length:Int)),(19,.int .i64 0)]) (Gh.sub ⟨rfl,rfl,rfl,rfl,rfl,rfl,rfl,trivial⟩) (Nat.le_of_ble_eq_true rfl) ?_
  refine WPU.loopK (fun m tm σ=>∃ z18:Int,∃ l19:List Bool,∃ l20:List Bool,q23 p1 p2 p3 p4 x9 (q1y n) m z18 l19 l20=some r∧tm=fr 49 [(0,.int .i64 p1),(1,.ptr 0 0 0),(3,.ptr 2 0 0),(4,.ptr 3 0 0),(17,.isl false (List.map cGArc x9.Arcs)),(18,.int .i64 (x9.Arcs.length:Int)),(19,.int .i64 z18)]∧σ=⟨[(0,.row [.sl 4 0 p2 p2] 40),(1,.row [.isl false (List.map cGNode p3)] 25),(2,.row [.sl 5 0 p4 p4] 40),(3,.row [.fn (.func 35) [] [.ptr 0 0 0,.ptr 1 0 0,.ptr 2 0 0,.ptr 3 0 0]] 51),(4,.row (List.map cB l19).flatten 4),(5,.row (List.map cB l20).flatten 4)],6⟩) (fun tm σ=>∃ l21:List Bool,∃ l22:List Bool,q31 p1 p2 p4 l21 l22=some r∧tm=fr 49 [(0,.int .i64 p1),(1,.ptr 0 0 0),(3,.ptr 2 0 0)]∧σ=⟨[(0,.row [.sl 4 0 p2 p2] 40),(1,.row [.isl false (List.map cGNode p3)] 25),(2,.row [.sl 5 0 p4 p4] 40),(3,.row [.fn (.func 35) [] [.ptr 0 0 0,.ptr 1 0 0,.ptr 2 0 0,.ptr 3 0 0]] 51),(4,.row (List.map cB l21).flatten 4),(5,.row (List.map cB l22).flatten 4)],6⟩) n ⟨0,(p5.set p1.toNat true),p6,hF,rfl,rfl⟩ ?_ ?_
  rintro _ _ ⟨l21,l22,hF,rfl,rfl⟩
  unfold q31 at hF
  refine st ?_
  obtain ⟨x23,h24,hF⟩:=q00 hF
  obtain ⟨x25,h26,hF⟩:=q00 hF
  refine WPU.drawE Try.tb_ok [(2,5),(3,5)] (by kernel_rfl) ?_
  refine RD.q (u:=.sl 4 0 p2 p2) rfl (q04 und40 rfl rfl rfl rfl) (RD.mv rfl rfl rfl rfl (RD.q (u:=.sl 5 0 p4 p4) rfl (q04 und40 rfl rfl rfl rfl) (RD.mv rfl rfl rfl rfl (RD.q (u:=.ptr 4 0 (0*1+p1.toNat*1)) rfl (q2r rfl rfl (q8m und40 (q02 inf4) rfl h24)) (RD.actn (u:=.junk) (σ':=⟨[(0,.row [.sl 4 0 p2 p2] 40),(1,.row [.isl false (List.map cGNode p3)] 25),(2,.row [.sl 5 0 p4 p4] 40),(3,.row [.fn (.func 35) [] [.ptr 0 0 0,.ptr 1 0 0,.ptr 2 0 0,.ptr 3 0 0]] 51),(4,.row (List.map cB (l21.set p1.toNat false)).flatten 4),(5,.row (List.map cB l22).flatten 4)],6⟩) rfl (st_rl cB (q02 inf4) len_cB rfl rfl rfl rfl rfl rfl h24 rfl) rfl (RD.q (u:=.ptr 5 0 (0*1+p1.toNat*1)) rfl (q2r rfl rfl (q8m und40 (q02 inf4) rfl h26)) (RD.actn (u:=.junk) (σ':=⟨[(0,.row [.sl 4 0 p2 p2] 40),(1,.row [.isl false (List.map cGNode p3)] 25),(2,.row [.sl 5 0 p4 p4] 40),(3,.row [.fn (.func 35) [] [.ptr 0 0 0,.ptr 1 0 0,.ptr 2 0 0,.ptr 3 0 0]] 51),(4,.row (List.map cB (l21.set p1.toNat false)).flatten 4),(5,.row (List.map cB (l22.set p1.toNat true)).flatten 4)],6⟩) rfl (st_rl cB (q02 inf4) len_cB rfl rfl rfl rfl rfl rfl h26 rfl) rfl ?_)))))))
  refine RD.done ⟨by kernel_rfl,⟨q04 und40 rfl rfl rfl rfl,⟨q0i rfl,trivial⟩⟩,?_⟩
  refine sr ?_
  refine sd ?_
  refine WPU.ret ?_
  refine st ?_
  have hr:=Option.some.inj hF
  subst hr
  exact ⟨.inr rfl,[.bool false],q2b rfl (q1v),.bool false,⟨[(0,.row [.sl 4 0 p2 p2] 40),(1,.row [.isl false (List.map cGNode p3)] 25),(2,.row [.sl 5 0 p4 p4] 40),(3,.row [.fn (.func 35) [] [.ptr 0 0 0,.ptr 1 0 0,.ptr 2 0 0,.ptr 3 0 0]] 51),(4,.row (List.map cB (l21.set p1.toNat false)).flatten 4),(5,.row (List.map cB (l22.set p1.toNat true)).flatten 4)],6⟩,(Nat.le_of_ble_eq_true rfl),Gh.to (n1:=6) [] rfl rfl (Nat.le_of_ble_eq_true rfl) (Nat.le_of_ble_eq_true rfl) BUL.h BH.h,stF [],rfl,rfl⟩
  rintro m1 _ _ ⟨z18,l19,l20,hF,rfl,rfl⟩
  rcases m1 with _ | m1
  cases hF
  unfold q23 at hF
  refine sr ?_
  refine RS.q rfl (q03 rfl rfl (q2d _ _ _) rfl) ?_
  refine sd ?_
  refine WPU.condS (t:=(decide (z18<(x9.Arcs.length:Int)))) rfl (fun h27=>?_) (fun h27=>?_)
  replace hF:=q0k h27 hF
  refine st ?_
  refine WPU.skip ?_
  refine st ?_
  refine WPU.block ?_
  refine st ?_
  obtain ⟨x28,h29,hF⟩:=q00 hF
  refine sr ?_
  refine RS.q (u:=.iptr (cGArc x28)) rfl (q2r rfl rfl (q3j cGArc und41 (q02 inf45) q1r h29 rfl)) (RS.q (u:=.agg (cGArc x28)) rfl (q80 und45 rfl (q02 inf45) rfl rfl) (RS.q (u:=.ptr 6 0 0) (σ':=⟨[(6,.row [.int .i64 0,.int .i64 0] 45),(0,.row [.sl 4 0 p2 p2] 40),(1,.row [.isl false (List.map cGNode p3)] 25),(2,.row [.sl 5 0 p4 p4] 40),(3,.row [.fn (.func 35) [] [.ptr 0 0 0,.ptr 1 0 0,.ptr 2 0 0,.ptr 3 0 0]] 51),(4,.row (List.map cB l19).flatten 4),(5,.row (List.map cB l20).flatten 4)],7⟩) rfl (q1d inf45 rfl rfl) (RS.opn (u:=.junk) (σ':=⟨[(6,.row (cGArc x28) 45),(0,.row [.sl 4 0 p2 p2] 40),(1,.row [.isl false (List.map cGNode p3)] 25),(2,.row [.sl 5 0 p4 p4] 40),(3,.row [.fn (.func 35) [] [.ptr 0 0 0,.ptr 1 0 0,.ptr 2 0 0,.ptr 3 0 0]] 51),(4,.row (List.map cB l19).flatten 4),(5,.row (List.map cB l20).flatten 4)],7⟩) rfl (q14 (q02 inf45) rfl rfl rfl rfl rfl rfl rfl rfl) rfl ?_)))
  refine sd ?_
  obtain ⟨j43,h42,hF⟩:=q00 hF
  refine WPU.joinK (fun tm σ=>tm=fr 49 [(0,.int .i64 p1),(1,.ptr 0 0 0),(3,.ptr 2 0 0),(4,.ptr 3 0 0),(17,.isl false (List.map cGArc x9.Arcs)),(18,.int .i64 (x9.Arcs.length:Int)),(19,.int .i64 z18),(41,.bool j43.1)]∧σ=⟨[(6,.row (cGArc x28) 45),(0,.row [.sl 4 0 p2 p2] 40),(1,.row [.isl false (List.map cGNode p3)] 25),(2,.row [.sl 5 0 p4 p4] 40),(3,.row [.fn (.func 35) [] [.ptr 0 0 0,.ptr 1 0 0,.ptr 2 0 0,.ptr 3 0 0]] 51),(4,.row (List.map cB j43.2.1).flatten 4),(5,.row (List.map cB j43.2.2).flatten 4)],7⟩) ?_ ?_
  rintro _ _ ⟨rfl,rfl⟩
  refine st ?_
  refine WPU.condS (t:=j43.1) rfl (fun h44=>?_) (fun h44=>?_)
  replace hF:=q0k h44 hF
  refine sr ?_
  refine sd ?_
  refine WPU.ret ?_
  refine st ?_
  have hr:=Option.some.inj hF
  subst hr
  exact ⟨.inr rfl,[.bool true],q2b rfl (q1v),.bool true,⟨[(0,.row [.sl 4 0 p2 p2] 40),(1,.row [.isl false (List.map cGNode p3)] 25),(2,.row [.sl 5 0 p4 p4] 40),(3,.row [.fn (.func 35) [] [.ptr 0 0 0,.ptr 1 0 0,.ptr 2 0 0,.ptr 3 0 0]] 51),(4,.row (List.map cB j43.2.1).flatten 4),(5,.row (List.map cB j43.2.2).flatten 4)],6⟩,(Nat.le_of_ble_eq_true rfl),Gh.to (n1:=6) [] rfl rfl (Nat.le_of_ble_eq_true rfl) (Nat.le_of_ble_eq_true rfl) BUL.h BH.h,stF [],rfl,rfl⟩
  replace hF:=q0j h44 hF
  refine st ?_
  refine WPU.skip ?_
  refine sr ?_
  refine RS.q rfl (q03 rfl rfl (q42 _ _ _) rfl) (RS.mv rfl rfl rfl rfl ?_)
  refine sd ?_
  exact ⟨m1,_,_,Nat.lt_succ_self _,⟨(IntKind.i64.wrap (z18+1)),j43.2.1,j43.2.2,hF,rfl,rfl⟩,(Nat.le_of_ble_eq_true rfl),Gh.toC (n1:=6) ⟨rfl,rfl,rfl,rfl,rfl,rfl,rfl,trivial⟩ rfl (Nat.le_of_ble_eq_true rfl) (by simp)⟩
  obtain ⟨x30,h31,h42⟩:=q00 h42
  rcases q25 x30 with h32 | h32
  replace h42:=q0k h32 h42
  replace h42:=Option.some.inj h42
  subst h42
  refine sr ?_
  refine RS.q (u:=.sl 4 0 p2 p2) rfl (q04 und40 rfl rfl rfl rfl) (RS.q (u:=.ptr 6 0 1) rfl (q0v und45 rfl (q02 inf3) rfl rfl rfl) (RS.q (u:=.int .i64 x28.To) rfl (q04 und3 rfl rfl rfl rfl) (RS.q (u:=.ptr 4 0 (0*1+x28.To.toNat*1)) rfl (q2r rfl rfl (q8m und40 (q02 inf4) rfl h31)) (RS.q (u:=.bool x30) rfl (q92 cB (fun x=>.bool x) und4 rfl (fun _=>rfl) rfl rfl h31) (RS.mv rfl rfl rfl rfl ?_)))))
  repeat refine RS.no (want0 rfl rfl rfl h32) rfl rfl ?_
  repeat refine RS.no (wantT rfl rfl rfl) rfl rfl ?_
  refine RS.no (want0 rfl rfl rfl h32) rfl rfl (RS.q (u:=.bool true) rfl (q08 rfl h32 rfl) ?_)
  refine sd ?_
  exact ⟨_,_,⟨rfl,rfl⟩,(Nat.le_of_ble_eq_true rfl),Gh.toC (n1:=7) ⟨rfl,rfl,rfl,rfl,rfl,rfl,rfl,rfl,trivial⟩ rfl (Nat.le_of_ble_eq_true rfl) (by simp)⟩
  replace h42:=q0j h32 h42
  obtain ⟨x33,h34,h42⟩:=q00 h42
  rcases q25 (!x33) with h35 | h35
  replace h42:=q0k h35 h42
  obtain ⟨r36,h37,h42⟩:=q00 h42
  replace h42:=Option.some.inj h42
  subst h42
  refine sr ?_
  refine RS.q (u:=.sl 4 0 p2 p2) rfl (q04 und40 rfl rfl rfl rfl) (RS.q (u:=.ptr 6 0 1) rfl (q0v und45 rfl (q02 inf3) rfl rfl rfl) (RS.q (u:=.int .i64 x28.To) rfl (q04 und3 rfl rfl rfl rfl) (RS.q (u:=.ptr 4 0 (0*1+x28.To.toNat*1)) rfl (q2r rfl rfl (q8m und40 (q02 inf4) rfl h31)) (RS.q (u:=.bool x30) rfl (q92 cB (fun x=>.bool x) und4 rfl (fun _=>rfl) rfl rfl h31) (RS.mv rfl rfl rfl rfl (RS.op (u:=.sl 5 0 p4 p4) (want1 rfl rfl rfl h32) (q04 und40 rfl rfl rfl rfl) rfl rfl (RS.op (u:=.ptr 6 0 1) (want1 rfl rfl rfl h32) (q0v und45 rfl (q02 inf3) rfl rfl rfl) rfl rfl ?_)))))))
  refine RS.op (u:=.int .i64 x28.To) (want1 rfl rfl rfl h32) (q04 und3 rfl rfl rfl rfl) rfl rfl (RS.op (u:=.ptr 5 0 (0*1+x28.To.toNat*1)) (want1 rfl rfl rfl h32) (q2r rfl rfl (q8m und40 (q02 inf4) rfl h34)) rfl rfl (RS.op (u:=.bool x33) (want1 rfl rfl rfl h32) (q92 cB (fun x=>.bool x) und4 rfl (fun _=>rfl) rfl rfl h34) rfl rfl (RS.op (u:=.bool (!x33)) (want1 rfl rfl rfl h32) (q4k rfl rfl rfl rfl) rfl rfl (RS.op (want1 rfl rfl rfl h32) (q0i rfl) rfl rfl (RS.op (u:=.fn (.func 35) [] [.ptr 0 0 0,.ptr 1 0 0,.ptr 2 0 0,.ptr 3 0 0]) (want1 rfl rfl rfl h35) (q04 und51 rfl rfl rfl rfl) rfl rfl (RS.op (u:=.ptr 6 0 1) (want1 rfl rfl rfl h35) (q0v und45 rfl (q02 inf3) rfl rfl rfl) rfl rfl (RS.op (u:=.int .i64 x28.To) (want1 rfl rfl rfl h35) (q04 und3 rfl rfl rfl rfl) rfl rfl ?_)))))))
  refine RS.callx (R:=fun u σ'=>∃ t38:Nat→Nat,u = .bool r36.1∧σ'=⟨[(6,.row (cGArc x28) 45),(0,.row [.sl 4 0 p2 p2] 40),(1,.row [.isl false (List.map cGNode p3)] 25),(2,.row [.sl 5 0 p4 p4] 40),(3,.row [.fn (.func 35) [] [.ptr 0 0 0,.ptr 1 0 0,.ptr 2 0 0,.ptr 3 0 0]] 51),(4,.row (List.map cB r36.2.1).flatten 4),(5,.row (List.map cB r36.2.2).flatten 4)],7⟩) (args:=[.int .i64 x28.To,.ptr 0 0 0,.ptr 1 0 0,.ptr 2 0 0,.ptr 3 0 0]) (want1 rfl rfl rfl h35) (q01 rfl rfl fn35 hb35 rfl rfl) (EvU.st [0,1,2,3,4,5] (ih x28.To p2 p3 p4 l19 l20 r36 h37 )) rfl rfl ?_
  rintro _ _ ⟨t38,rfl,rfl⟩
  refine RS.op (u:=.bool r36.1) (want1 rfl rfl rfl h32) (q08 rfl h35 rfl) rfl rfl (RS.q (u:=.bool r36.1) rfl (q07 rfl h32 rfl) ?_)
  refine sd ?_
  exact ⟨_,_,⟨rfl,rfl⟩,(Nat.le_of_ble_eq_true rfl),Gh.toC (n1:=7) ⟨rfl,rfl,rfl,rfl,rfl,rfl,rfl,rfl,trivial⟩ rfl (Nat.le_of_ble_eq_true rfl) (by simp)⟩
  replace h42:=q0j h35 h42
  replace h42:=Option.some.inj h42
  subst h42
  refine sr ?_
  refine RS.q (u:=.sl 4 0 p2 p2) rfl (q04 und40 rfl rfl rfl rfl) (RS.q (u:=.ptr 6 0 1) rfl (q0v und45 rfl (q02 inf3) rfl rfl rfl) (RS.q (u:=.int .i64 x28.To) rfl (q04 und3 rfl rfl rfl rfl) (RS.q (u:=.ptr 4 0 (0*1+x28.To.toNat*1)) rfl (q2r rfl rfl (q8m und40 (q02 inf4) rfl h31)) (RS.q (u:=.bool x30) rfl (q92 cB (fun x=>.bool x) und4 rfl (fun _=>rfl) rfl rfl h31) (RS.mv rfl rfl rfl rfl (RS.op (u:=.sl 5 0 p4 p4) (want1 rfl rfl rfl h32) (q04 und40 rfl rfl rfl rfl) rfl rfl (RS.op (u:=.ptr 6 0 1) (want1 rfl rfl rfl h32) (q0v und45 rfl (q02 inf3) rfl rfl rfl) rfl rfl ?_)))))))
  refine RS.op (u:=.int .i64 x28.To) (want1 rfl rfl rfl h32) (q04 und3 rfl rfl rfl rfl) rfl rfl (RS.op (u:=.ptr 5 0 (0*1+x28.To.toNat*1)) (want1 rfl rfl rfl h32) (q2r rfl rfl (q8m und40 (q02 inf4) rfl h34)) rfl rfl (RS.op (u:=.bool x33) (want1 rfl rfl rfl h32) (q92 cB (fun x=>.bool x) und4 rfl (fun _=>rfl) rfl rfl h34) rfl rfl (RS.op (u:=.bool (!x33)) (want1 rfl rfl rfl h32) (q4k rfl rfl rfl rfl) rfl rfl (RS.op (want1 rfl rfl rfl h32) (q0i rfl) rfl rfl ?_))))
  repeat refine RS.no (want0 rfl rfl rfl h35) rfl rfl ?_
  refine RS.op (u:=.bool false) (want1 rfl rfl rfl h32) (q07 rfl h35 rfl) rfl rfl (RS.q (u:=.bool false) rfl (q07 rfl h32 rfl) ?_)
  refine sd ?_
  exact ⟨_,_,⟨rfl,rfl⟩,(Nat.le_of_ble_eq_true rfl),Gh.toC (n1:=7) ⟨rfl,rfl,rfl,rfl,rfl,rfl,rfl,rfl,trivial⟩ rfl (Nat.le_of_ble_eq_true rfl) (by simp)⟩
  replace hF:=q0j h27 hF
  refine st ?_
  refine WPU.exit ?_
  refine st ?_
  exact ⟨_,_,⟨l19,l20,hF,rfl,rfl⟩,(Nat.le_of_ble_eq_true rfl),Gh.toC (n1:=6) ⟨rfl,rfl,rfl,trivial⟩ rfl (Nat.le_of_ble_eq_true rfl) (by simp)⟩
def q4g  (l12:List Bool) (l13:List Bool):Option (Bool) :=
 some false
def q33 (p1:GFS) (n:Nat):Nat→Int→(List Bool)→(List Bool)→Option (Bool)
 | 0,_,_,_=>none
 | m1+1,z9,l10,l11 =>
  cond (decide (z9<(p1.Nodes.length:Int)))
   (bindO (bindO (idxV l10 0 ((p1.Nodes.length:Int).toNat) z9) fun x15 =>
   cond (!x15)
    (bindO (q1y n z9 ((p1.Nodes.length:Int).toNat) p1.Nodes ((p1.Nodes.length:Int).toNat) l11 l10) fun r18 =>
    some (r18.1,r18.2.2,r18.2.1))
    (some (false,l10,l11))) fun j25 =>
   cond j25.1
    (some true)
    ((q33 p1 n m1) (IntKind.i64.wrap (z9+1)) j25.2.1 j25.2.2))
   (q4g l10 l11)
def q2e (n:Nat) (p1:GFS):Option (Bool) :=
 needO (0≤(p1.Nodes.length:Int)∧1*(p1.Nodes.length:Int).toNat≤281474976710656∧(p1.Nodes.length:Int)≤281474976710656) (
 needO (0≤(p1.Nodes.length:Int)∧1*(p1.Nodes.length:Int).toNat≤281474976710656∧(p1.Nodes.length:Int)≤281474976710656) (
 q33 p1 n n 0 (List.replicate (p1.Nodes.length:Int).toNat false) (List.replicate (p1.Nodes.length:Int).toNat false)))
theorem graph_Cyclic_0 (n:Nat) (p1:GFS) (r:Bool) (hF:q2e n p1=some r):EvU Try.prog 22 [.agg [.isl false (List.map cGNode p1.Nodes)]] ⟨[],0⟩ (fun u _=>u = .bool r∧Bel 0 u):=by
 unfold q2e at hF
 refine EvU.of_body Try.tb_ok fn22 rfl ?_
 refine WPU.ghost (tm':=fr 33 [(0,.agg [.isl false (List.map cGNode p1.Nodes)])]) (Gh.start (Nat.le_of_ble_eq_true rfl)) (Nat.zero_le _) ?_
 refine sr ?_
 refine RS.q (u:=.ptr 0 0 0) (σ':=⟨[(0,.row [.isl false (List.map cGNode p1.Nodes)] 25)],1⟩) rfl (q3m rfl rfl rfl) ?_
 refine sd ?_
 obtain ⟨h2,hF⟩:=q3e hF
 obtain ⟨h3,hF⟩:=q3e hF
 refine WPU.drawQ Try.tb_ok [(3,some ((p1.Nodes.length:Int).toNat),(List.map cB (List.replicate (p1.Nodes.length:Int).toNat false)).flatten,4),(7,some ((p1.Nodes.length:Int).toNat),(List.map cB (List.replicate (p1.Nodes.length:Int).toNat false)).flatten,4),(8,none,[.nils],40),(9,none,[.nils],40)] [(4,10),(5,10),(6,10)] (nb:=1) (σe:=⟨[(0,.row [.isl false (List.map cGNode p1.Nodes)] 25)],5⟩) (σ1:=⟨[(4,.row [.nils] 40),(3,.row [.nils] 40),(2,.row (List.map cB (List.replicate (p1.Nodes.length:Int).toNat false)).flatten 4),(1,.row (List.map cB (List.replicate (p1.Nodes.length:Int).toNat false)).flatten 4),(0,.row [.isl false (List.map cGNode p1.Nodes)] 25)],5⟩) (q:=[⟨3,1,some ((p1.Nodes.length:Int).toNat),(List.map cB (List.replicate (p1.Nodes.length:Int).toNat false)).flatten,4⟩,⟨7,2,some ((p1.Nodes.length:Int).toNat),(List.map cB (List.replicate (p1.Nodes.length:Int).toNat false)).flatten,4⟩,⟨8,3,none,[.nils],40⟩,⟨9,4,none,[.nils],40⟩]) (by kernel_rfl) (List.cons_ne_nil _ _) ⟨(q4r 0 (fun q=>bel_cB _ q) (List.replicate (p1.Nodes.length:Int).toNat false)),(q4r 0 (fun q=>bel_cB _ q) (List.replicate (p1.Nodes.length:Int).toNat false)),BUL.h,BUL.h,trivial⟩ rfl rfl rfl rfl ?_
 refine RQ.early (u:=.ptr 0 0 0) rfl (q0v und25 rfl (q02 inf23) rfl rfl rfl) (q0v und25 rfl (q02 inf23) rfl rfl rfl) rfl BU.h rfl rfl ?_
 refine RQ.early (u:=.isl false (List.map cGNode p1.Nodes)) rfl (q04 und23 rfl rfl rfl rfl) (q04 und23 rfl rfl rfl rfl) rfl BU.h rfl rfl ?_
 refine RQ.early (u:=.int .i64 (p1.Nodes.length:Int)) rfl (q0n rfl rfl rfl (q0h cGNode und23)) (q0n rfl rfl rfl (q0h cGNode und23)) rfl BU.h rfl rfl ?_
 refine RQ.alloc rfl (fun s=>op_mks cB false rfl rfl und40 inf4 rfl rfl rfl rfl h2) rfl rfl rfl ?_
 refine RQ.early (u:=.ptr 0 0 0) rfl (q0v und25 rfl (q02 inf23) rfl rfl rfl) (q0v und25 rfl (q02 inf23) rfl rfl rfl) rfl BU.h rfl rfl ?_
 refine RQ.early (u:=.isl false (List.map cGNode p1.Nodes)) rfl (q04 und23 rfl rfl rfl rfl) (q04 und23 rfl rfl rfl rfl) rfl BU.h rfl rfl ?_
 refine RQ.early (u:=.int .i64 (p1.Nodes.length:Int)) rfl (q0n rfl rfl rfl (q0h cGNode und23)) (q0n rfl rfl rfl (q0h cGNode und23)) rfl BU.h rfl rfl ?_
 refine RQ.alloc rfl (fun s=>op_mks cB false rfl rfl und40 inf4 rfl rfl rfl rfl h3) rfl rfl rfl ?_
 refine RQ.alloc rfl (fun s=>q1d inf40 rfl rfl) rfl rfl rfl ?_
 refine RQ.alloc rfl (fun s=>q1d inf40 rfl rfl) rfl rfl rfl ?_
 refine RQ.loc (mk:=783) (σ':=⟨[(4,.row [.nils] 40),(3,.row [.sl 1 0 ((p1.Nodes.length:Int).toNat) ((p1.Nodes.length:Int).toNat)] 40),(2,.row (List.map cB (List.replicate (p1.Nodes.length:Int).toNat false)).flatten 4),(1,.row (List.map cB (List.replicate (p1.Nodes.length:Int).toNat false)).flatten 4),(0,.row [.isl false (List.map cGNode p1.Nodes)] 25)],5⟩) rfl (store_loc (q02 inf40) rfl rfl rfl rfl rfl rfl) (by kernel_rfl) rfl rfl rfl rfl ⟨.inl (show Nat.testBit 783 3=true by decide),⟨.inr ⟨show (2:Nat)≠3 by decide,BUL.h⟩,⟨.inl (show Nat.testBit 783 8=true by decide),⟨.inl (show Nat.testBit 783 9=true by decide),trivial⟩⟩⟩⟩ ?_
 refine RQ.actn (u:=.junk) (σ':=⟨[(4,.row [.sl 2 0 ((p1.Nodes.length:Int).toNat) ((p1.Nodes.length:Int).toNat)] 40),(3,.row [.sl 1 0 ((p1.Nodes.length:Int).toNat) ((p1.Nodes.length:Int).toNat)] 40),(2,.row (List.map cB (List.replicate (p1.Nodes.length:Int).toNat false)).flatten 4),(1,.row (List.map cB (List.replicate (p1.Nodes.length:Int).toNat false)).flatten 4),(0,.row [.isl false (List.map cGNode p1.Nodes)] 25)],5⟩) rfl (q14 (q02 inf40) rfl rfl rfl rfl rfl rfl rfl rfl) rfl ?_
 refine RQ.done ⟨by kernel_rfl,by kernel_rfl,⟨q0v und25 rfl (q02 inf23) rfl rfl rfl,⟨q04 und23 rfl rfl rfl rfl,⟨q0n rfl rfl rfl (q0h cGNode und23),trivial⟩⟩⟩,?_⟩
 refine sr ?_
 refine RS.q (u:=.ptr 5 0 0) (σ':=⟨[(5,.row [.nilf] 51),(4,.row [.sl 2 0 ((p1.Nodes.length:Int).toNat) ((p1.Nodes.length:Int).toNat)] 40),(3,.row [.sl 1 0 ((p1.Nodes.length:Int).toNat) ((p1.Nodes.length:Int).toNat)] 40),(2,.row (List.map cB (List.replicate (p1.Nodes.length:Int).toNat false)).flatten 4),(1,.row (List.map cB (List.replicate (p1.Nodes.length:Int).toNat false)).flatten 4),(0,.row [.isl false (List.map cGNode p1.Nodes)] 25)],6⟩) rfl (q1d inf51 rfl rfl) ?_
 refine se ?_
 refine RS.q rfl (op_fun rfl rfl) (RS.opn (u:=.junk) (σ':=⟨[(5,.row [.fn (.func 35) [] [.ptr 3 0 0,.ptr 0 0 0,.ptr 4 0 0,.ptr 5 0 0]] 51),(4,.row [.sl 2 0 ((p1.Nodes.length:Int).toNat) ((p1.Nodes.length:Int).toNat)] 40),(3,.row [.sl 1 0 ((p1.Nodes.length:Int).toNat) ((p1.Nodes.length:Int).toNat)] 40),(2,.row (List.map cB (List.replicate (p1.Nodes.length:Int).toNat false)).flatten 4),(1,.row (List.map cB (List.replicate (p1.Nodes.length:Int).toNat false)).flatten 4),(0,.row [.isl false (List.map cGNode p1.Nodes)] 25)],6⟩) rfl (q14 (q02 inf51) rfl rfl rfl rfl rfl rfl rfl rfl) rfl ?_)
 refine se ?_
 refine RS.q (u:=.ptr 0 0 0) rfl (q0v und25 rfl (q02 inf23) rfl rfl rfl) (RS.q (u:=.isl false (List.map cGNode p1.Nodes)) rfl (q04 und23 rfl rfl rfl rfl) (RS.q rfl (q0n rfl rfl rfl (q0h cGNode und23)) (RS.mv rfl rfl rfl rfl ?_)))
 refine sd ?_
 refine WPU.ghost (tm':=fr 33 [(4,.ptr 4 0 0),(5,.ptr 5 0 0),(18,.int .i64 (p1.Nodes.length:Int)),(19,.int .i64 0)]) (Gh.sub ⟨rfl,rfl,rfl,rfl,trivial⟩) (Nat.zero_le _) ?_
 refine WPU.loopK (fun m tm σ=>∃ z9:Int,∃ l10:List Bool,∃ l11:List Bool,q33 p1 n m z9 l10 l11=some r∧tm=fr 33 [(4,.ptr 4 0 0),(5,.ptr 5 0 0),(18,.int .i64 (p1.Nodes.length:Int)),(19,.int .i64 z9)]∧σ=⟨[(5,.row [.fn (.func 35) [] [.ptr 3 0 0,.ptr 0 0 0,.ptr 4 0 0,.ptr 5 0 0]] 51),(4,.row [.sl 2 0 ((p1.Nodes.length:Int).toNat) ((p1.Nodes.length:Int).toNat)] 40),(3,.row [.sl 1 0 ((p1.Nodes.length:Int).toNat) ((p1.Nodes.length:Int).toNat)] 40),(2,.row (List.map cB l10).flatten 4),(1,.row (List.map cB l11).flatten 4),(0,.row [.isl false (List.map cGNode p1.Nodes)] 25)],6⟩) (fun tm σ=>∃ l12:List Bool,∃ l13:List Bool,q4g l12 l13=some r∧tm=fr 33 []∧σ=⟨[(5,.row [.fn (.func 35) [] [.ptr 3 0 0,.ptr 0 0 0,.ptr 4 0 0,.ptr 5 0 0]] 51),(4,.row [.sl 2 0 ((p1.Nodes.length:Int).toNat) ((p1.Nodes.length:Int).toNat)] 40),(3,.row [.sl 1 0 ((p1.Nodes.length:Int).toNat) ((p1.Nodes.length:Int).toNat)] 40),(2,.row (List.map cB l12).flatten 4),(1,.row (List.map cB l13).flatten 4),(0,.row [.isl false (List.map cGNode p1.Nodes)] 25)],6⟩) n ⟨0,(List.replicate (p1.Nodes.length:Int).toNat false),(List.replicate (p1.Nodes.length:Int).toNat false),hF,rfl,rfl⟩ ?_ ?_
 rintro _ _ ⟨l12,l13,hF,rfl,rfl⟩
 unfold q4g at hF
 refine sr ?_
 refine sd ?_
 refine WPU.ret ?_
 refine st ?_
 have hr:=Option.some.inj hF
 subst hr
 exact ⟨.inr rfl,[.bool false],q2b rfl (q1v),.bool false,⟨[],0⟩,Nat.le_refl _,Gh.toR (.bool false) rfl,rfl,BU.h⟩
 rintro m1 _ _ ⟨z9,l10,l11,hF,rfl,rfl⟩
 rcases m1 with _ | m1
 cases hF
 unfold q33 at hF
 refine sr ?_
 refine RS.q rfl (q03 rfl rfl (q2d _ _ _) rfl) ?_
 refine sd ?_
 refine WPU.condS (t:=(decide (z9<(p1.Nodes.length:Int)))) rfl (fun h14=>?_) (fun h14=>?_)
 replace hF:=q0k h14 hF
 refine st ?_
 refine WPU.skip ?_
 refine st ?_
 refine WPU.block ?_
 refine sr ?_
 refine sd ?_
 obtain ⟨j25,h24,hF⟩:=q00 hF
 refine WPU.joinK (fun tm σ=>tm=fr 33 [(4,.ptr 4 0 0),(5,.ptr 5 0 0),(18,.int .i64 (p1.Nodes.length:Int)),(19,.int .i64 z9),(31,.bool j25.1)]∧σ=⟨[(5,.row [.fn (.func 35) [] [.ptr 3 0 0,.ptr 0 0 0,.ptr 4 0 0,.ptr 5 0 0]] 51),(4,.row [.sl 2 0 ((p1.Nodes.length:Int).toNat) ((p1.Nodes.length:Int).toNat)] 40),(3,.row [.sl 1 0 ((p1.Nodes.length:Int).toNat) ((p1.Nodes.length:Int).toNat)] 40),(2,.row (List.map cB j25.2.1).flatten 4),(1,.row (List.map cB j25.2.2).flatten 4),(0,.row [.isl false (List.map cGNode p1.Nodes)] 25)],6⟩) ?_ ?_
 rintro _ _ ⟨rfl,rfl⟩
 refine st ?_
 refine WPU.condS (t:=j25.1) rfl (fun h26=>?_) (fun h26=>?_)
 replace hF:=q0k h26 hF
 refine sr ?_
 refine sd ?_
 refine WPU.ret ?_
 refine st ?_
 have hr:=Option.some.inj hF
 subst hr
 exact ⟨.inr rfl,[.bool true],q2b rfl (q1v),.bool true,⟨[],0⟩,Nat.le_refl _,Gh.toR (.bool true) rfl,rfl,BU.h⟩
 replace hF:=q0j h26 hF
 refine st ?_
 refine WPU.skip ?_
 refine sr ?_
 refine RS.q rfl (q03 rfl rfl (q42 _ _ _) rfl) (RS.mv rfl rfl rfl rfl ?_)
 refine sd ?_
 exact ⟨m1,_,_,Nat.lt_succ_self _,⟨(IntKind.i64.wrap (z9+1)),j25.2.1,j25.2.2,hF,rfl,rfl⟩,(Nat.zero_le _),Gh.toC (n1:=6) ⟨rfl,rfl,rfl,rfl,trivial⟩ rfl (Nat.zero_le _) (by simp)⟩
 obtain ⟨x15,h16,h24⟩:=q00 h24
 rcases q25 (!x15) with h17 | h17
 replace h24:=q0k h17 h24
 obtain ⟨r18,h19,h24⟩:=q00 h24
 replace h24:=Option.some.inj h24
 subst h24
 refine sr ?_
 refine RS.q (u:=.sl 2 0 ((p1.Nodes.length:Int).toNat) ((p1.Nodes.length:Int).toNat)) rfl (q04 und40 rfl rfl rfl rfl) (RS.mv rfl rfl rfl rfl (RS.q (u:=.ptr 2 0 (0*1+z9.toNat*1)) rfl (q2r rfl rfl (q8m und40 (q02 inf4) rfl h16)) (RS.q (u:=.bool x15) rfl (q92 cB (fun x=>.bool x) und4 rfl (fun _=>rfl) rfl rfl h16) (RS.q (u:=.bool (!x15)) rfl (q4k rfl rfl rfl rfl) (RS.mv rfl rfl rfl rfl (RS.op (u:=.fn (.func 35) [] [.ptr 3 0 0,.ptr 0 0 0,.ptr 4 0 0,.ptr 5 0 0]) (want1 rfl rfl rfl h17) (q04 und51 rfl rfl rfl rfl) rfl rfl (RS.op (want1 rfl rfl rfl h17) (q0i rfl) rfl rfl ?_)))))))
 refine RS.callx (R:=fun u σ'=>∃ t20:Nat→Nat,u = .bool r18.1∧σ'=⟨[(5,.row [.fn (.func 35) [] [.ptr 3 0 0,.ptr 0 0 0,.ptr 4 0 0,.ptr 5 0 0]] 51),(4,.row [.sl 2 0 ((p1.Nodes.length:Int).toNat) ((p1.Nodes.length:Int).toNat)] 40),(3,.row [.sl 1 0 ((p1.Nodes.length:Int).toNat) ((p1.Nodes.length:Int).toNat)] 40),(2,.row (List.map cB r18.2.2).flatten 4),(1,.row (List.map cB r18.2.1).flatten 4),(0,.row [.isl false (List.map cGNode p1.Nodes)] 25)],6⟩) (args:=[.int .i64 z9,.ptr 3 0 0,.ptr 0 0 0,.ptr 4 0 0,.ptr 5 0 0]) (want1 rfl rfl rfl h17) (q01 rfl rfl fn35 hb35 rfl rfl) (EvU.st [3,0,4,5,1,2] (q5j n z9 ((p1.Nodes.length:Int).toNat) p1.Nodes ((p1.Nodes.length:Int).toNat) l11 l10 r18 h19 )) rfl rfl ?_
 rintro _ _ ⟨t20,rfl,rfl⟩
 refine RS.q (u:=.bool r18.1) rfl (q08 rfl h17 rfl) ?_
 refine sd ?_
 exact ⟨_,_,⟨rfl,rfl⟩,(Nat.zero_le _),Gh.toC (n1:=6) ⟨rfl,rfl,rfl,rfl,rfl,trivial⟩ rfl (Nat.zero_le _) (by simp)⟩
 replace h24:=q0j h17 h24
 replace h24:=Option.some.inj h24
 subst h24
 refine sr ?_
 refine RS.q (u:=.sl 2 0 ((p1.Nodes.length:Int).toNat) ((p1.Nodes.length:Int).toNat)) rfl (q04 und40 rfl rfl rfl rfl) (RS.mv rfl rfl rfl rfl (RS.q (u:=.ptr 2 0 (0*1+z9.toNat*1)) rfl (q2r rfl rfl (q8m und40 (q02 inf4) rfl h16)) (RS.q (u:=.bool x15) rfl (q92 cB (fun x=>.bool x) und4 rfl (fun _=>rfl) rfl rfl h16) (RS.q (u:=.bool (!x15)) rfl (q4k rfl rfl rfl rfl) (RS.mv rfl rfl rfl rfl ?_)))))
 repeat refine RS.no (want0 rfl rfl rfl h17) rfl rfl ?_
 refine RS.q (u:=.bool false) rfl (q07 rfl h17 rfl) ?_
 refine sd ?_
 exact ⟨_,_,⟨rfl,rfl⟩,(Nat.zero_le _),Gh.toC (n1:=6) ⟨rfl,rfl,rfl,rfl,rfl,trivial⟩ rfl (Nat.zero_le _) (by simp)⟩
 replace hF:=q0j h14 hF
 refine st ?_
 refine WPU.exit ?_
 refine st ?_
 exact ⟨_,_,⟨l10,l11,hF,rfl,rfl⟩,(Nat.zero_le _),Gh.toC (n1:=6) trivial rfl (Nat.zero_le _) (by simp)⟩
theorem q0b (n:Nat) (p1:GFS) (r:Bool) (hF:q2e n p1=some r) (σ:Sg):EvU Try.prog 22 [.agg [.isl false (List.map cGNode p1.Nodes)]] σ (fun u σ'=>u = .bool r∧σ'=σ) :=
 EvU.pure1C (graph_Cyclic_0 n p1 r hF) σ
def q1m (p1:List GNode) (p2:List GNode)  : Option (Int) :=
 cond (decide ((p1.length:Int)<(p2.length:Int)))
  (some (-1))
  (some 0)
def q15 (p1:List GNode) (p2:List GNode) (f2:GNode→GNode→Option (Int)):Nat→Int→Option (Int)
 | 0,_=>none
 | m1+1,z8 =>
  cond (decide (z8<(p1.length:Int)))
   (bindO (idxO p1 z8) fun x11 =>
   cond (decide (z8 ≥ (p2.length:Int)))
    (some 1)
    (bindO (idxO p2 z8) fun x14 =>
    bindO (f2 x11 x14) fun r16 =>
    cond (r16 != 0)
     (some r16)
     ((q15 p1 p2 f2 m1) (IntKind.i64.wrap (z8+1)))))
   (q1m p1 p2)
def q18 (f2:GNode→GNode→Option (Int)) (n:Nat) (p1:List GNode) (p2:List GNode):Option (Int) :=
 q15 p1 p2 f2 n 0
theorem q40 (f2:GNode→GNode→Option (Int)) (hf2:∀ (a0:GNode) (a1:GNode) (r:Int),f2 a0 a1=some r→EvU Try.prog 38 [.agg (cGNode a0),.agg (cGNode a1)] ⟨[],0⟩ (fun u _=>u = .int .i64 r∧Bel 0 u)) (n:Nat) (p1:List GNode) (p2:List GNode) (r:Int) (hF:q18 f2 n p1 p2=some r):EvU Try.prog 37 [.isl false (List.map cGNode p1),.isl false (List.map cGNode p2),.fn (.func 38) [] []] ⟨[],0⟩ (fun u _=>u = .int .i64 r∧Bel 0 u):=by
 unfold q18 at hF
 have hf2S:∀ (a0:GNode) (a1:GNode) (r:Int),f2 a0 a1=some r→∀ σ,EvU Try.prog 38 [.agg (cGNode a0),.agg (cGNode a1)] σ (fun u σ'=>u = .int .i64 r∧σ'=σ):=fun a0 a1 r h σ=>EvU.pure1C (hf2 a0 a1 r h) σ
 refine EvU.of_body Try.tb_ok fn37 rfl ?_
 refine WPU.ghost (tm':=fr 39 [(0,.isl false (List.map cGNode p1)),(1,.isl false (List.map cGNode p2)),(2,.fn (.func 38) [] [])]) (Gh.start (Nat.le_of_ble_eq_true rfl)) (Nat.zero_le _) ?_
 refine sr ?_
 refine se ?_
 refine RS.q rfl (q0n rfl rfl rfl (q0h cGNode und23)) (RS.mv rfl rfl rfl rfl ?_)
 refine sd ?_
 refine WPU.ghost (tm':=fr 39 [(0,.isl false (List.map cGNode p1)),(1,.isl false (List.map cGNode p2)),(2,.fn (.func 38) [] []),(11,.isl false (List.map cGNode p1)),(12,.int .i64 (p1.length:Int)),(13,.int .i64 0)]) (Gh.sub ⟨rfl,rfl,rfl,rfl,rfl,rfl,trivial⟩) (Nat.zero_le _) ?_
 refine WPU.loopK (fun m tm σ=>∃ z8:Int,q15 p1 p2 f2 m z8=some r∧tm=fr 39 [(0,.isl false (List.map cGNode p1)),(1,.isl false (List.map cGNode p2)),(2,.fn (.func 38) [] []),(11,.isl false (List.map cGNode p1)),(12,.int .i64 (p1.length:Int)),(13,.int .i64 z8)]∧σ=⟨[],0⟩) (fun tm σ=>q1m p1 p2=some r∧tm=fr 39 [(0,.isl false (List.map cGNode p1)),(1,.isl false (List.map cGNode p2))]∧σ=⟨[],0⟩) n ⟨0,hF,rfl,rfl⟩ ?_ ?_
 rintro _ _ ⟨hF,rfl,rfl⟩
 unfold q1m at hF
 refine sr ?_
 refine RS.q rfl (q0n rfl rfl rfl (q0h cGNode und23)) (RS.mv rfl rfl rfl rfl (RS.q rfl (q0n rfl rfl rfl (q0h cGNode und23)) (RS.q rfl (q03 rfl rfl (q2d _ _ _) rfl) ?_)))
 refine sd ?_
 refine WPU.condS (t:=(decide ((p1.length:Int)<(p2.length:Int)))) rfl (fun h9=>?_) (fun h9=>?_)
 replace hF:=q0k h9 hF
 refine sr ?_
 refine sd ?_
 refine WPU.ret ?_
 refine st ?_
 have hr:=Option.some.inj hF
 subst hr
 exact ⟨.inr rfl,[.int .i64 (-1)],q2b rfl (q1v),.int .i64 (-1),⟨[],0⟩,Nat.le_refl _,Gh.toR (.int .i64 (-1)) rfl,rfl,BU.h⟩
 replace hF:=q0j h9 hF
 refine st ?_
 refine WPU.skip ?_
 refine sr ?_
 refine sd ?_
 refine WPU.ret ?_
 refine st ?_
 have hr:=Option.some.inj hF
 subst hr
 exact ⟨.inr rfl,[.int .i64 0],q2b rfl (q1v),.int .i64 0,⟨[],0⟩,Nat.le_refl _,Gh.toR (.int .i64 0) rfl,rfl,BU.h⟩
 rintro m1 _ _ ⟨z8,hF,rfl,rfl⟩
 rcases m1 with _ | m1
 cases hF
 unfold q15 at hF
 refine sr ?_
 refine RS.q rfl (q03 rfl rfl (q2d _ _ _) rfl) ?_
 refine sd ?_
 refine WPU.condS (t:=(decide (z8<(p1.length:Int)))) rfl (fun h10=>?_) (fun h10=>?_)
 replace hF:=q0k h10 hF
 refine st ?_
 refine WPU.skip ?_
 refine st ?_
 refine WPU.block ?_
 refine st ?_
 obtain ⟨x11,h12,hF⟩:=q00 hF
 refine sr ?_
 refine RS.q (u:=.iptr (cGNode x11)) rfl (q2r rfl rfl (q3j cGNode und23 (q02 inf43) q2i h12 rfl)) (RS.q (u:=.agg (cGNode x11)) rfl (q80 und43 rfl (q02 inf43) rfl rfl) (RS.q (u:=.ptr 0 0 0) (σ':=⟨[(0,.row [.int .i64 0,.nils] 43)],1⟩) rfl (q1d inf43 rfl rfl) (RS.as rfl rfl rfl rfl (RS.opn (u:=.junk) (σ':=⟨[(0,.row (cGNode x11) 43)],1⟩) rfl (q14 (q02 inf43) rfl rfl rfl rfl rfl rfl rfl rfl) rfl ?_))))
 refine se ?_
 repeat refine RS.mv rfl rfl rfl rfl ?_
 refine RS.q rfl (q0n rfl rfl rfl (q0h cGNode und23)) (RS.q rfl (q03 rfl rfl (q91 _ _ _) rfl) ?_)
 refine sd ?_
 refine WPU.condS (t:=(decide (z8 ≥ (p2.length:Int)))) rfl (fun h13=>?_) (fun h13=>?_)
 replace hF:=q0k h13 hF
 refine sr ?_
 refine sd ?_
 refine WPU.ret ?_
 refine st ?_
 have hr:=Option.some.inj hF
 subst hr
 exact ⟨.inr rfl,[.int .i64 1],q2b rfl (q1v),.int .i64 1,⟨[],0⟩,Nat.le_refl _,Gh.toR (.int .i64 1) rfl,rfl,BU.h⟩
 replace hF:=q0j h13 hF
 refine st ?_
 refine WPU.skip ?_
 refine st ?_
 obtain ⟨x14,h15,hF⟩:=q00 hF
 refine sr ?_
 repeat refine RS.mv rfl rfl rfl rfl ?_
 refine RS.q (u:=.iptr (cGNode x14)) rfl (q2r rfl rfl (q3j cGNode und23 (q02 inf43) q2i h15 rfl)) (RS.q (u:=.agg (cGNode x14)) rfl (q80 und43 rfl (q02 inf43) rfl rfl) (RS.q (u:=.ptr 1 0 0) (σ':=⟨[(1,.row [.int .i64 0,.nils] 43),(0,.row (cGNode x11) 43)],2⟩) rfl (q1d inf43 rfl rfl) (RS.opn (u:=.junk) (σ':=⟨[(1,.row (cGNode x14) 43),(0,.row (cGNode x11) 43)],2⟩) rfl (q14 (q02 inf43) rfl rfl rfl rfl rfl rfl rfl rfl) rfl ?_)))
 refine sd ?_
 obtain ⟨r16,h17,hF⟩:=q00 hF
 refine sr ?_
 refine RS.q (u:=.agg (cGNode x11)) rfl (q0m und43 rfl (q02 inf43) rfl rfl rfl) (RS.q (u:=.agg (cGNode x14)) rfl (q0m und43 rfl (q02 inf43) rfl rfl rfl) (RS.call (u:=.int .i64 r16) (args:=[.agg (cGNode x11),.agg (cGNode x14)]) rfl (q01 rfl rfl fn38 hb38 rfl rfl) (hf2S x11 x14 r16 h17 _) rfl rfl ?_))
 refine se ?_
 refine RS.q rfl (q03 rfl rfl (q5l _ _ _) rfl) ?_
 refine sd ?_
 refine WPU.condS (t:=(r16 != 0)) rfl (fun h18=>?_) (fun h18=>?_)
 replace hF:=q0k h18 hF
 refine sr ?_
 refine sd ?_
 refine WPU.ret ?_
 refine st ?_
 have hr:=Option.some.inj hF
 subst hr
 exact ⟨.inr rfl,[.int .i64 r16],q2b rfl (q1v),.int .i64 r16,⟨[],0⟩,Nat.le_refl _,Gh.toR (.int .i64 r16) rfl,rfl,BU.h⟩
 replace hF:=q0j h18 hF
 refine st ?_
 refine WPU.skip ?_
 refine sr ?_
 refine RS.q rfl (q03 rfl rfl (q42 _ _ _) rfl) (RS.mv rfl rfl rfl rfl ?_)
 refine sd ?_
 exact ⟨m1,_,_,Nat.lt_succ_self _,⟨(IntKind.i64.wrap (z8+1)),hF,rfl,rfl⟩,(Nat.zero_le _),Gh.toC (n1:=0) ⟨rfl,rfl,rfl,rfl,rfl,rfl,trivial⟩ rfl (Nat.zero_le _) (by simp)⟩
 replace hF:=q0j h10 hF
 refine st ?_
 refine WPU.exit ?_
 refine st ?_
 exact ⟨_,_,⟨hF,rfl,rfl⟩,(Nat.zero_le _),Gh.toC (n1:=0) ⟨rfl,rfl,trivial⟩ rfl (Nat.zero_le _) (by simp)⟩
theorem q3t (f2:GNode→GNode→Option (Int)) (hf2:∀ (a0:GNode) (a1:GNode) (r:Int),f2 a0 a1=some r→EvU Try.prog 38 [.agg (cGNode a0),.agg (cGNode a1)] ⟨[],0⟩ (fun u _=>u = .int .i64 r∧Bel 0 u)) (n:Nat) (p1:List GNode) (p2:List GNode) (r:Int) (hF:q18 f2 n p1 p2=some r) (σ:Sg):EvU Try.prog 37 [.isl false (List.map cGNode p1),.isl false (List.map cGNode p2),.fn (.func 38) [] []] σ (fun u σ'=>u = .int .i64 r∧σ'=σ) :=
 EvU.pure1C (q40 f2 hf2 n p1 p2 r hF) σ
def q65   : Option (Int) :=
 some 0
def q5c (p1:List Int):Nat→Int→Option (Int)
 | 0,_=>none
 | m1+1,z6 =>
  cond (decide (z6<(p1.length:Int)))
   (bindO (idxO p1 z6) fun x8 =>
   cond (x8 != 0)
    (some x8)
    ((q5c p1 m1) (IntKind.i64.wrap (z6+1))))
   (q65)
def q6y (n:Nat) (p1:List Int):Option (Int) :=
 q5c p1 n 0
theorem q8x (n:Nat) (p1:List Int) (r:Int) (hF:q6y n p1=some r):EvU Try.prog 50 [.isl false (List.map (cI .i64) p1)] ⟨[],0⟩ (fun u _=>u = .int .i64 r∧Bel 0 u):=by
 unfold q6y at hF
 refine EvU.of_body Try.tb_ok fn50 rfl ?_
 refine WPU.ghost (tm':=fr 18 [(0,.isl false (List.map (cI .i64) p1))]) (Gh.start (Nat.le_of_ble_eq_true rfl)) (Nat.zero_le _) ?_
 refine sr ?_
 refine se ?_
 refine se ?_
 refine RS.q rfl (q0n rfl rfl rfl (q0h (cI .i64) und55)) (RS.mv rfl rfl rfl rfl ?_)
 refine sd ?_
 refine WPU.ghost (tm':=fr 18 [(3,.int .i64 0),(6,.isl false (List.map (cI .i64) p1)),(7,.int .i64 (p1.length:Int)),(8,.int .i64 0)]) (Gh.sub ⟨rfl,rfl,rfl,rfl,trivial⟩) (Nat.zero_le _) ?_
 refine WPU.loopK (fun m tm σ=>∃ z6:Int,q5c p1 m z6=some r∧tm=fr 18 [(3,.int .i64 0),(6,.isl false (List.map (cI .i64) p1)),(7,.int .i64 (p1.length:Int)),(8,.int .i64 z6)]∧σ=⟨[],0⟩) (fun tm σ=>q65=some r∧tm=fr 18 [(3,.int .i64 0)]∧σ=⟨[],0⟩) n ⟨0,hF,rfl,rfl⟩ ?_ ?_
 rintro _ _ ⟨hF,rfl,rfl⟩
 unfold q65 at hF
 refine sr ?_
 refine sd ?_
 refine WPU.ret ?_
 refine st ?_
 have hr:=Option.some.inj hF
 subst hr
 exact ⟨.inr rfl,[.int .i64 0],q2b rfl (q1v),.int .i64 0,⟨[],0⟩,Nat.le_refl _,Gh.toR (.int .i64 0) rfl,rfl,BU.h⟩
 rintro m1 _ _ ⟨z6,hF,rfl,rfl⟩
 rcases m1 with _ | m1
 cases hF
 unfold q5c at hF
 refine sr ?_
 refine RS.q rfl (q03 rfl rfl (q2d _ _ _) rfl) ?_
 refine sd ?_
 refine WPU.condS (t:=(decide (z6<(p1.length:Int)))) rfl (fun h7=>?_) (fun h7=>?_)
 replace hF:=q0k h7 hF
 refine st ?_
 refine WPU.skip ?_
 refine st ?_
 refine WPU.block ?_
 refine st ?_
 obtain ⟨x8,h9,hF⟩:=q00 hF
 refine sr ?_
 refine RS.q (u:=.iptr [.int .i64 x8]) rfl (q2r rfl rfl (q3j (cI .i64) und55 (q02 inf3) (q6o .i64) h9 rfl)) (RS.q (u:=.int .i64 x8) rfl (q5b und3 rfl rfl rfl) ?_)
 refine se ?_
 repeat refine RS.mv rfl rfl rfl rfl ?_
 refine RS.q rfl (q03 rfl rfl (q5l _ _ _) rfl) ?_
 refine sd ?_
 refine WPU.condS (t:=(x8 != 0)) rfl (fun h10=>?_) (fun h10=>?_)
 replace hF:=q0k h10 hF
 refine sr ?_
 refine sd ?_
 refine WPU.ret ?_
 refine st ?_
 have hr:=Option.some.inj hF
 subst hr
 exact ⟨.inr rfl,[.int .i64 x8],q2b rfl (q1v),.int .i64 x8,⟨[],0⟩,Nat.le_refl _,Gh.toR (.int .i64 x8) rfl,rfl,BU.h⟩
 replace hF:=q0j h10 hF
 refine st ?_
 refine WPU.skip ?_
 refine sr ?_
 refine RS.q rfl (q03 rfl rfl (q42 _ _ _) rfl) (RS.mv rfl rfl rfl rfl ?_)
 refine sd ?_
 exact ⟨m1,_,_,Nat.lt_succ_self _,⟨(IntKind.i64.wrap (z6+1)),hF,rfl,rfl⟩,(Nat.zero_le _),Gh.toC (n1:=0) ⟨rfl,rfl,rfl,rfl,trivial⟩ rfl (Nat.zero_le _) (by simp)⟩
 replace hF:=q0j h7 hF
 refine st ?_
 refine WPU.exit ?_
 refine st ?_
 exact ⟨_,_,⟨hF,rfl,rfl⟩,(Nat.zero_le _),Gh.toC (n1:=0) ⟨rfl,trivial⟩ rfl (Nat.zero_le _) (by simp)⟩
def q1h (p1:List GArc) (p2:List GArc)  : Option (Int) :=
 cond (decide ((p1.length:Int)<(p2.length:Int)))
  (some (-1))
  (some 0)
def q10 (p1:List GArc) (p2:List GArc) (f2:GArc→GArc→Option (Int)):Nat→Int→Option (Int)
 | 0,_=>none
 | m1+1,z8 =>
  cond (decide (z8<(p1.length:Int)))
   (bindO (idxO p1 z8) fun x11 =>
   cond (decide (z8 ≥ (p2.length:Int)))
    (some 1)
    (bindO (idxO p2 z8) fun x14 =>
    bindO (f2 x11 x14) fun r16 =>
    cond (r16 != 0)
     (some r16)
     ((q10 p1 p2 f2 m1) (IntKind.i64.wrap (z8+1)))))
   (q1h p1 p2)
def q17 (f2:GArc→GArc→Option (Int)) (n:Nat) (p1:List GArc) (p2:List GArc):Option (Int) :=
 q10 p1 p2 f2 n 0
theorem q3s (f2:GArc→GArc→Option (Int)) (hf2:∀ (a0:GArc) (a1:GArc) (r:Int),f2 a0 a1=some r→EvU Try.prog 52 [.agg (cGArc a0),.agg (cGArc a1)] ⟨[],0⟩ (fun u _=>u = .int .i64 r∧Bel 0 u)) (n:Nat) (p1:List GArc) (p2:List GArc) (r:Int) (hF:q17 f2 n p1 p2=some r):EvU Try.prog 51 [.isl false (List.map cGArc p1),.isl false (List.map cGArc p2),.fn (.func 52) [] []] ⟨[],0⟩ (fun u _=>u = .int .i64 r∧Bel 0 u):=by
 unfold q17 at hF
 have hf2S:∀ (a0:GArc) (a1:GArc) (r:Int),f2 a0 a1=some r→∀ σ,EvU Try.prog 52 [.agg (cGArc a0),.agg (cGArc a1)] σ (fun u σ'=>u = .int .i64 r∧σ'=σ):=fun a0 a1 r h σ=>EvU.pure1C (hf2 a0 a1 r h) σ
 refine EvU.of_body Try.tb_ok fn51 rfl ?_
 refine WPU.ghost (tm':=fr 39 [(0,.isl false (List.map cGArc p1)),(1,.isl false (List.map cGArc p2)),(2,.fn (.func 52) [] [])]) (Gh.start (Nat.le_of_ble_eq_true rfl)) (Nat.zero_le _) ?_
 refine sr ?_
 refine se ?_
 refine RS.q rfl (q0n rfl rfl rfl (q0h cGArc und41)) (RS.mv rfl rfl rfl rfl ?_)
 refine sd ?_
 refine WPU.ghost (tm':=fr 39 [(0,.isl false (List.map cGArc p1)),(1,.isl false (List.map cGArc p2)),(2,.fn (.func 52) [] []),(11,.isl false (List.map cGArc p1)),(12,.int .i64 (p1.length:Int)),(13,.int .i64 0)]) (Gh.sub ⟨rfl,rfl,rfl,rfl,rfl,rfl,trivial⟩) (Nat.zero_le _) ?_
 refine WPU.loopK (fun m tm σ=>∃ z8:Int,q10 p1 p2 f2 m z8=some r∧tm=fr 39 [(0,.isl false (List.map cGArc p1)),(1,.isl false (List.map cGArc p2)),(2,.fn (.func 52) [] []),(11,.isl false (List.map cGArc p1)),(12,.int .i64 (p1.length:Int)),(13,.int .i64 z8)]∧σ=⟨[],0⟩) (fun tm σ=>q1h p1 p2=some r∧tm=fr 39 [(0,.isl false (List.map cGArc p1)),(1,.isl false (List.map cGArc p2))]∧σ=⟨[],0⟩) n ⟨0,hF,rfl,rfl⟩ ?_ ?_
 rintro _ _ ⟨hF,rfl,rfl⟩
 unfold q1h at hF
 refine sr ?_
 refine RS.q rfl (q0n rfl rfl rfl (q0h cGArc und41)) (RS.mv rfl rfl rfl rfl (RS.q rfl (q0n rfl rfl rfl (q0h cGArc und41)) (RS.q rfl (q03 rfl rfl (q2d _ _ _) rfl) ?_)))
 refine sd ?_
 refine WPU.condS (t:=(decide ((p1.length:Int)<(p2.length:Int)))) rfl (fun h9=>?_) (fun h9=>?_)
 replace hF:=q0k h9 hF
 refine sr ?_
 refine sd ?_
 refine WPU.ret ?_
 refine st ?_
 have hr:=Option.some.inj hF
 subst hr
 exact ⟨.inr rfl,[.int .i64 (-1)],q2b rfl (q1v),.int .i64 (-1),⟨[],0⟩,Nat.le_refl _,Gh.toR (.int .i64 (-1)) rfl,rfl,BU.h⟩
 replace hF:=q0j h9 hF
 refine st ?_
 refine WPU.skip ?_
 refine sr ?_
 refine sd ?_
 refine WPU.ret ?_
 refine st ?_
 have hr:=Option.some.inj hF
 subst hr
 exact ⟨.inr rfl,[.int .i64 0],q2b rfl (q1v),.int .i64 0,⟨[],0⟩,Nat.le_refl _,Gh.toR (.int .i64 0) rfl,rfl,BU.h⟩
 rintro m1 _ _ ⟨z8,hF,rfl,rfl⟩
 rcases m1 with _ | m1
 cases hF
 unfold q10 at hF
 refine sr ?_
 refine RS.q rfl (q03 rfl rfl (q2d _ _ _) rfl) ?_
 refine sd ?_
 refine WPU.condS (t:=(decide (z8<(p1.length:Int)))) rfl (fun h10=>?_) (fun h10=>?_)
 replace hF:=q0k h10 hF
 refine st ?_
 refine WPU.skip ?_
 refine st ?_
 refine WPU.block ?_
 refine st ?_
 obtain ⟨x11,h12,hF⟩:=q00 hF
 refine sr ?_
 refine RS.q (u:=.iptr (cGArc x11)) rfl (q2r rfl rfl (q3j cGArc und41 (q02 inf45) q1r h12 rfl)) (RS.q (u:=.agg (cGArc x11)) rfl (q80 und45 rfl (q02 inf45) rfl rfl) (RS.q (u:=.ptr 0 0 0) (σ':=⟨[(0,.row [.int .i64 0,.int .i64 0] 45)],1⟩) rfl (q1d inf45 rfl rfl) (RS.as rfl rfl rfl rfl (RS.opn (u:=.junk) (σ':=⟨[(0,.row (cGArc x11) 45)],1⟩) rfl (q14 (q02 inf45) rfl rfl rfl rfl rfl rfl rfl rfl) rfl ?_))))
 refine se ?_
 repeat refine RS.mv rfl rfl rfl rfl ?_
 refine RS.q rfl (q0n rfl rfl rfl (q0h cGArc und41)) (RS.q rfl (q03 rfl rfl (q91 _ _ _) rfl) ?_)
 refine sd ?_
 refine WPU.condS (t:=(decide (z8 ≥ (p2.length:Int)))) rfl (fun h13=>?_) (fun h13=>?_)
 replace hF:=q0k h13 hF
 refine sr ?_
 refine sd ?_
 refine WPU.ret ?_
 refine st ?_
 have hr:=Option.some.inj hF
 subst hr
 exact ⟨.inr rfl,[.int .i64 1],q2b rfl (q1v),.int .i64 1,⟨[],0⟩,Nat.le_refl _,Gh.toR (.int .i64 1) rfl,rfl,BU.h⟩
 replace hF:=q0j h13 hF
 refine st ?_
 refine WPU.skip ?_
 refine st ?_
 obtain ⟨x14,h15,hF⟩:=q00 hF
 refine sr ?_
 repeat refine RS.mv rfl rfl rfl rfl ?_
 refine RS.q (u:=.iptr (cGArc x14)) rfl (q2r rfl rfl (q3j cGArc und41 (q02 inf45) q1r h15 rfl)) (RS.q (u:=.agg (cGArc x14)) rfl (q80 und45 rfl (q02 inf45) rfl rfl) (RS.q (u:=.ptr 1 0 0) (σ':=⟨[(1,.row [.int .i64 0,.int .i64 0] 45),(0,.row (cGArc x11) 45)],2⟩) rfl (q1d inf45 rfl rfl) (RS.opn (u:=.junk) (σ':=⟨[(1,.row (cGArc x14) 45),(0,.row (cGArc x11) 45)],2⟩) rfl (q14 (q02 inf45) rfl rfl rfl rfl rfl rfl rfl rfl) rfl ?_)))
 refine sd ?_
 obtain ⟨r16,h17,hF⟩:=q00 hF
 refine sr ?_
 refine RS.q (u:=.agg (cGArc x11)) rfl (q0m und45 rfl (q02 inf45) rfl rfl rfl) (RS.q (u:=.agg (cGArc x14)) rfl (q0m und45 rfl (q02 inf45) rfl rfl rfl) (RS.call (u:=.int .i64 r16) (args:=[.agg (cGArc x11),.agg (cGArc x14)]) rfl (q01 rfl rfl fn52 hb52 rfl rfl) (hf2S x11 x14 r16 h17 _) rfl rfl ?_))
 refine se ?_
 refine RS.q rfl (q03 rfl rfl (q5l _ _ _) rfl) ?_
 refine sd ?_
 refine WPU.condS (t:=(r16 != 0)) rfl (fun h18=>?_) (fun h18=>?_)
 replace hF:=q0k h18 hF
 refine sr ?_
 refine sd ?_
 refine WPU.ret ?_
 refine st ?_
 have hr:=Option.some.inj hF
 subst hr
 exact ⟨.inr rfl,[.int .i64 r16],q2b rfl (q1v),.int .i64 r16,⟨[],0⟩,Nat.le_refl _,Gh.toR (.int .i64 r16) rfl,rfl,BU.h⟩
 replace hF:=q0j h18 hF
 refine st ?_
 refine WPU.skip ?_
 refine sr ?_
 refine RS.q rfl (q03 rfl rfl (q42 _ _ _) rfl) (RS.mv rfl rfl rfl rfl ?_)
 refine sd ?_
 exact ⟨m1,_,_,Nat.lt_succ_self _,⟨(IntKind.i64.wrap (z8+1)),hF,rfl,rfl⟩,(Nat.zero_le _),Gh.toC (n1:=0) ⟨rfl,rfl,rfl,rfl,rfl,rfl,trivial⟩ rfl (Nat.zero_le _) (by simp)⟩
 replace hF:=q0j h10 hF
 refine st ?_
 refine WPU.exit ?_
 refine st ?_
 exact ⟨_,_,⟨hF,rfl,rfl⟩,(Nat.zero_le _),Gh.toC (n1:=0) ⟨rfl,rfl,trivial⟩ rfl (Nat.zero_le _) (by simp)⟩
theorem q3n (f2:GArc→GArc→Option (Int)) (hf2:∀ (a0:GArc) (a1:GArc) (r:Int),f2 a0 a1=some r→EvU Try.prog 52 [.agg (cGArc a0),.agg (cGArc a1)] ⟨[],0⟩ (fun u _=>u = .int .i64 r∧Bel 0 u)) (n:Nat) (p1:List GArc) (p2:List GArc) (r:Int) (hF:q17 f2 n p1 p2=some r) (σ:Sg):EvU Try.prog 51 [.isl false (List.map cGArc p1),.isl false (List.map cGArc p2),.fn (.func 52) [] []] σ (fun u σ'=>u = .int .i64 r∧σ'=σ) :=
 EvU.pure1C (q3s f2 hf2 n p1 p2 r hF) σ
def q32 (n:Nat) (p1:GArc) (p2:GArc):Option (Int) :=
 bindO (q1j n p1.Feat p2.Feat) fun r3 =>
 bindO (q1j n p1.To p2.To) fun r5 =>
 bindO (q6y n ([r3,r5])) fun r7 =>
 some r7
theorem q6k (n:Nat) (p1:GArc) (p2:GArc) (r:Int) (hF:q32 n p1 p2=some r):EvU Try.prog 52 [.agg (cGArc p1),.agg (cGArc p2)] ⟨[],0⟩ (fun u _=>u = .int .i64 r∧Bel 0 u):=by
 unfold q32 at hF
 refine EvU.of_body Try.tb_ok fn52 rfl ?_
 refine WPU.ghost (tm':=fr 17 [(0,.agg (cGArc p1)),(1,.agg (cGArc p2))]) (Gh.start (Nat.le_of_ble_eq_true rfl)) (Nat.zero_le _) ?_
 refine sr ?_
 refine RS.q (u:=.ptr 0 0 0) (σ':=⟨[(0,.row (cGArc p1) 45)],1⟩) rfl (q3m rfl rfl rfl) (RS.q (u:=.ptr 1 0 0) (σ':=⟨[(1,.row (cGArc p2) 45),(0,.row (cGArc p1) 45)],2⟩) rfl (q3m rfl rfl rfl) ?_)
 refine sd ?_
 obtain ⟨r3,h4,hF⟩:=q00 hF
 obtain ⟨r5,h6,hF⟩:=q00 hF
 obtain ⟨r7,h8,hF⟩:=q00 hF
 refine WPU.drawE Try.tb_ok [] (by kernel_rfl) ?_
 refine RD.q (u:=.ptr 0 0 0) rfl (q0v und45 rfl (q02 inf3) rfl rfl rfl) (RD.q (u:=.int .i64 p1.Feat) rfl (q04 und3 rfl rfl rfl rfl) (RD.q (u:=.ptr 1 0 0) rfl (q0v und45 rfl (q02 inf3) rfl rfl rfl) (RD.q (u:=.int .i64 p2.Feat) rfl (q04 und3 rfl rfl rfl rfl) (RD.free (u:=.int .i64 r3) (args:=[.int .i64 p1.Feat,.int .i64 p2.Feat]) rfl (q01 rfl rfl fn36 hb36 rfl rfl) (fun s=>q2g n p1.Feat p2.Feat r3 h4 s) rfl rfl (RD.q (u:=.ptr 0 0 1) rfl (q0v und45 rfl (q02 inf3) rfl rfl rfl) (RD.q (u:=.int .i64 p1.To) rfl (q04 und3 rfl rfl rfl rfl) (RD.q (u:=.ptr 1 0 1) rfl (q0v und45 rfl (q02 inf3) rfl rfl rfl) ?_)))))))
 refine RD.q (u:=.int .i64 p2.To) rfl (q04 und3 rfl rfl rfl rfl) (RD.free (u:=.int .i64 r5) (args:=[.int .i64 p1.To,.int .i64 p2.To]) rfl (q01 rfl rfl fn36 hb36 rfl rfl) (fun s=>q2g n p1.To p2.To r5 h6 s) rfl rfl (RD.act (u:=.sl 2 0 2 2) (σ':=⟨[(2,.row [.int .i64 r3,.int .i64 r5] 3),(1,.row (cGArc p2) 45),(0,.row (cGArc p1) 45)],3⟩) rfl (q2a und55 inf3 rfl rfl rfl rfl rfl rfl rfl) rfl rfl ?_))
 refine RD.call (u:=.int .i64 r7) (args:=[.sl 2 0 2 2]) rfl (q01 rfl rfl fn50 hb50 rfl rfl) (EvU.view (q8x n ([r3,r5]) r7 h8) BUL.h (by simp only [toV,toVL,okL,okC,cond_true]<;>rfl) (fun m=>by simp [ren,renL]) (Gh.fz (tm':=[.isl false (List.map (cI .i64) ([r3,r5]))]) (h':=[(1,.row (cGArc p2) 45),(0,.row (cGArc p1) 45)]) 2 (.row [.int .i64 r3,.int .i64 r5] 3) 1 rfl (by simp) (by simp only [oneU,q09,q05,q0q,q0c,q0t,q0g,q0f,q0e,q0d,q0a,q0r,q0s,q0p,q0u,q1k,junkT,q1u,q1w,fz_cGArc,Nat.reduceLeDiff,Nat.reduceMul,List.length_cons,List.length_nil,Nat.reduceAdd]<;>simp only [chunks,List.take,List.drop,List.map,cI,cB,cS,cL]) (by simp only [fzH,fzB,ug,Nat.beq,cond_true,cond_false,oneU,q09,q05,q0q,q0c,q0t,q0g,q0f,q0e,q0d,q0a,q0r,q0s,q0p,q0u,q1k,junkT,q1u,q1w,fz_cGArc,Nat.reduceLeDiff,Nat.reduceMul,List.length_cons,List.length_nil,Nat.reduceAdd]<;>simp only [chunks,List.take,List.drop,List.map,cI,cB,cS,cL]))) rfl rfl ?_
 refine RD.as rfl rfl rfl rfl ?_
 refine RD.done ⟨by kernel_rfl,trivial,?_⟩
 refine st ?_
 refine WPU.ret ?_
 refine st ?_
 have hr:=Option.some.inj hF
 subst hr
 exact ⟨.inr rfl,[.int .i64 r7],q2b rfl (q1v),.int .i64 r7,⟨[],0⟩,Nat.le_refl _,Gh.toR (.int .i64 r7) rfl,rfl,BU.h⟩
def q3h (n:Nat) (p1:GNode) (p2:GNode):Option (Int) :=
 bindO (q1j n p1.Typex p2.Typex) fun r3 =>
 bindO (q1j n (p1.Arcs.length:Int) (p2.Arcs.length:Int)) fun r5 =>
 bindO (q6y n ([r3,r5])) fun r7 =>
 cond (r7 != 0)
  (some r7)
  (bindO (q17 (q32 n) n p1.Arcs p2.Arcs) fun r10 =>
  some r10)
theorem q7b (n:Nat) (p1:GNode) (p2:GNode) (r:Int) (hF:q3h n p1 p2=some r):EvU Try.prog 38 [.agg (cGNode p1),.agg (cGNode p2)] ⟨[],0⟩ (fun u _=>u = .int .i64 r∧Bel 0 u):=by
 unfold q3h at hF
 refine EvU.of_body Try.tb_ok fn38 rfl ?_
 refine WPU.ghost (tm':=fr 28 [(0,.agg (cGNode p1)),(1,.agg (cGNode p2))]) (Gh.start (Nat.le_of_ble_eq_true rfl)) (Nat.zero_le _) ?_
 refine sr ?_
 refine RS.q (u:=.ptr 0 0 0) (σ':=⟨[(0,.row (cGNode p1) 43)],1⟩) rfl (q3m rfl rfl rfl) (RS.q (u:=.ptr 1 0 0) (σ':=⟨[(1,.row (cGNode p2) 43),(0,.row (cGNode p1) 43)],2⟩) rfl (q3m rfl rfl rfl) ?_)
 refine sd ?_
 obtain ⟨r3,h4,hF⟩:=q00 hF
 obtain ⟨r5,h6,hF⟩:=q00 hF
 obtain ⟨r7,h8,hF⟩:=q00 hF
 refine WPU.drawE Try.tb_ok [] (by kernel_rfl) ?_
 refine RD.q (u:=.ptr 0 0 0) rfl (q0v und43 rfl (q02 inf3) rfl rfl rfl) (RD.q (u:=.int .i64 p1.Typex) rfl (q04 und3 rfl rfl rfl rfl) (RD.q (u:=.ptr 1 0 0) rfl (q0v und43 rfl (q02 inf3) rfl rfl rfl) (RD.q (u:=.int .i64 p2.Typex) rfl (q04 und3 rfl rfl rfl rfl) (RD.free (u:=.int .i64 r3) (args:=[.int .i64 p1.Typex,.int .i64 p2.Typex]) rfl (q01 rfl rfl fn36 hb36 rfl rfl) (fun s=>q2g n p1.Typex p2.Typex r3 h4 s) rfl rfl (RD.q (u:=.ptr 0 0 1) rfl (q0v und43 rfl (q02 inf41) rfl rfl rfl) (RD.q (u:=.isl false (List.map cGArc p1.Arcs)) rfl (q04 und41 rfl rfl rfl rfl) (RD.q rfl (q0n rfl rfl rfl (q0h cGArc und41)) ?_)))))))
 refine RD.q (u:=.ptr 1 0 1) rfl (q0v und43 rfl (q02 inf41) rfl rfl rfl) (RD.q (u:=.isl false (List.map cGArc p2.Arcs)) rfl (q04 und41 rfl rfl rfl rfl) (RD.q rfl (q0n rfl rfl rfl (q0h cGArc und41)) (RD.free (u:=.int .i64 r5) (args:=[.int .i64 (p1.Arcs.length:Int),.int .i64 (p2.Arcs.length:Int)]) rfl (q01 rfl rfl fn36 hb36 rfl rfl) (fun s=>q2g n (p1.Arcs.length:Int) (p2.Arcs.length:Int) r5 h6 s) rfl rfl (RD.act (u:=.sl 2 0 2 2) (σ':=⟨[(2,.row [.int .i64 r3,.int .i64 r5] 3),(1,.row (cGNode p2) 43),(0,.row (cGNode p1) 43)],3⟩) rfl (q2a und55 inf3 rfl rfl rfl rfl rfl rfl rfl) rfl rfl ?_))))
 refine RD.call (u:=.int .i64 r7) (args:=[.sl 2 0 2 2]) rfl (q01 rfl rfl fn50 hb50 rfl rfl) (EvU.view (q8x n ([r3,r5]) r7 h8) BUL.h (by simp only [toV,toVL,okL,okC,cond_true]<;>rfl) (fun m=>by simp [ren,renL]) (Gh.fz (tm':=[.isl false (List.map (cI .i64) ([r3,r5]))]) (h':=[(1,.row (cGNode p2) 43),(0,.row (cGNode p1) 43)]) 2 (.row [.int .i64 r3,.int .i64 r5] 3) 1 rfl (by simp) (by simp only [oneU,q09,q05,q0q,q0c,q0t,q0g,q0f,q0e,q0d,q0a,q0r,q0s,q0p,q0u,q1k,junkT,q1u,q1w,q29,Nat.reduceLeDiff,Nat.reduceMul,List.length_cons,List.length_nil,Nat.reduceAdd]<;>simp only [chunks,List.take,List.drop,List.map,cI,cB,cS,cL]) (by simp only [fzH,fzB,ug,Nat.beq,cond_true,cond_false,oneU,q09,q05,q0q,q0c,q0t,q0g,q0f,q0e,q0d,q0a,q0r,q0s,q0p,q0u,q1k,junkT,q1u,q1w,q29,Nat.reduceLeDiff,Nat.reduceMul,List.length_cons,List.length_nil,Nat.reduceAdd]<;>simp only [chunks,List.take,List.drop,List.map,cI,cB,cS,cL]))) rfl rfl ?_
 refine RD.as rfl rfl rfl rfl ?_
 refine RD.done ⟨by kernel_rfl,trivial,?_⟩
 refine sr ?_
 refine RS.q rfl (q03 rfl rfl (q5l _ _ _) rfl) ?_
 refine sd ?_
 refine WPU.condS (t:=(r7 != 0)) rfl (fun h9=>?_) (fun h9=>?_)
 replace hF:=q0k h9 hF
 refine sr ?_
 refine sd ?_
 refine WPU.ret ?_
 refine st ?_
 have hr:=Option.some.inj hF
 subst hr
 exact ⟨.inr rfl,[.int .i64 r7],q2b rfl (q1v),.int .i64 r7,⟨[],0⟩,Nat.le_refl _,Gh.toR (.int .i64 r7) rfl,rfl,BU.h⟩
 replace hF:=q0j h9 hF
 refine st ?_
 refine WPU.skip ?_
 refine st ?_
 obtain ⟨r10,h11,hF⟩:=q00 hF
 refine sr ?_
 refine RS.q (u:=.ptr 0 0 1) rfl (q0v und43 rfl (q02 inf41) rfl rfl rfl) (RS.q (u:=.isl false (List.map cGArc p1.Arcs)) rfl (q04 und41 rfl rfl rfl rfl) (RS.q (u:=.ptr 1 0 1) rfl (q0v und43 rfl (q02 inf41) rfl rfl rfl) (RS.q (u:=.isl false (List.map cGArc p2.Arcs)) rfl (q04 und41 rfl rfl rfl rfl) (RS.call (u:=.int .i64 r10) (args:=[.isl false (List.map cGArc p1.Arcs),.isl false (List.map cGArc p2.Arcs),.fn (.func 52) [] []]) rfl (q01 rfl rfl fn51 hb51 rfl rfl) (q3n (q32 n) (q6k n) n p1.Arcs p2.Arcs r10 h11 _) rfl rfl ?_))))
 refine sd ?_
 refine WPU.ret ?_
 refine st ?_
 have hr:=Option.some.inj hF
 subst hr
 exact ⟨.inr rfl,[.int .i64 r10],q2b rfl (q1v),.int .i64 r10,⟨[],0⟩,Nat.le_refl _,Gh.toR (.int .i64 r10) rfl,rfl,BU.h⟩
def q4f (n:Nat) (p1:GFS) (p2:GFS):Option (Int) :=
 bindO (q1j n (p1.Nodes.length:Int) (p2.Nodes.length:Int)) fun r3 =>
 cond (r3 != 0)
  (some r3)
  (bindO (q18 (q3h n) n p1.Nodes p2.Nodes) fun r6 =>
  some r6)
theorem qa7 (n:Nat) (p1:GFS) (p2:GFS) (r:Int) (hF:q4f n p1 p2=some r):EvU Try.prog 24 [.agg [.isl false (List.map cGNode p1.Nodes)],.agg [.isl false (List.map cGNode p2.Nodes)]] ⟨[],0⟩ (fun u _=>u = .int .i64 r∧Bel 0 u):=by
 unfold q4f at hF
 refine EvU.of_body Try.tb_ok fn24 rfl ?_
 refine WPU.ghost (tm':=fr 21 [(0,.agg [.isl false (List.map cGNode p1.Nodes)]),(1,.agg [.isl false (List.map cGNode p2.Nodes)])]) (Gh.start (Nat.le_of_ble_eq_true rfl)) (Nat.zero_le _) ?_
 refine sr ?_
 refine RS.q (u:=.ptr 0 0 0) (σ':=⟨[(0,.row [.isl false (List.map cGNode p1.Nodes)] 25)],1⟩) rfl (q3m rfl rfl rfl) (RS.q (u:=.ptr 1 0 0) (σ':=⟨[(1,.row [.isl false (List.map cGNode p2.Nodes)] 25),(0,.row [.isl false (List.map cGNode p1.Nodes)] 25)],2⟩) rfl (q3m rfl rfl rfl) ?_)
 refine sd ?_
 obtain ⟨r3,h4,hF⟩:=q00 hF
 refine sr ?_
 refine RS.q (u:=.ptr 0 0 0) rfl (q0v und25 rfl (q02 inf23) rfl rfl rfl) (RS.q (u:=.isl false (List.map cGNode p1.Nodes)) rfl (q04 und23 rfl rfl rfl rfl) (RS.q rfl (q0n rfl rfl rfl (q0h cGNode und23)) (RS.q (u:=.ptr 1 0 0) rfl (q0v und25 rfl (q02 inf23) rfl rfl rfl) (RS.q (u:=.isl false (List.map cGNode p2.Nodes)) rfl (q04 und23 rfl rfl rfl rfl) (RS.q rfl (q0n rfl rfl rfl (q0h cGNode und23)) (RS.call (u:=.int .i64 r3) (args:=[.int .i64 (p1.Nodes.length:Int),.int .i64 (p2.Nodes.length:Int)]) rfl (q01 rfl rfl fn36 hb36 rfl rfl) (q2g n (p1.Nodes.length:Int) (p2.Nodes.length:Int) r3 h4 _) rfl rfl ?_))))))
 refine se ?_
 refine RS.q rfl (q03 rfl rfl (q5l _ _ _) rfl) ?_
 refine sd ?_
 refine WPU.condS (t:=(r3 != 0)) rfl (fun h5=>?_) (fun h5=>?_)
 replace hF:=q0k h5 hF
 refine sr ?_
 refine sd ?_
 refine WPU.ret ?_
 refine st ?_
 have hr:=Option.some.inj hF
 subst hr
 exact ⟨.inr rfl,[.int .i64 r3],q2b rfl (q1v),.int .i64 r3,⟨[],0⟩,Nat.le_refl _,Gh.toR (.int .i64 r3) rfl,rfl,BU.h⟩
 replace hF:=q0j h5 hF
 refine st ?_
 refine WPU.skip ?_
 refine st ?_
 obtain ⟨r6,h7,hF⟩:=q00 hF
 refine sr ?_
 refine RS.q (u:=.ptr 0 0 0) rfl (q0v und25 rfl (q02 inf23) rfl rfl rfl) (RS.q (u:=.isl false (List.map cGNode p1.Nodes)) rfl (q04 und23 rfl rfl rfl rfl) (RS.q (u:=.ptr 1 0 0) rfl (q0v und25 rfl (q02 inf23) rfl rfl rfl) (RS.q (u:=.isl false (List.map cGNode p2.Nodes)) rfl (q04 und23 rfl rfl rfl rfl) (RS.call (u:=.int .i64 r6) (args:=[.isl false (List.map cGNode p1.Nodes),.isl false (List.map cGNode p2.Nodes),.fn (.func 38) [] []]) rfl (q01 rfl rfl fn37 hb37 rfl rfl) (q3t (q3h n) (q7b n) n p1.Nodes p2.Nodes r6 h7 _) rfl rfl ?_))))
 refine sd ?_
 refine WPU.ret ?_
 refine st ?_
 have hr:=Option.some.inj hF
 subst hr
 exact ⟨.inr rfl,[.int .i64 r6],q2b rfl (q1v),.int .i64 r6,⟨[],0⟩,Nat.le_refl _,Gh.toR (.int .i64 r6) rfl,rfl,BU.h⟩
theorem q6j (n:Nat) (p1:GFS) (p2:GFS) (r:Int) (hF:q4f n p1 p2=some r) (σ:Sg):EvU Try.prog 24 [.agg [.isl false (List.map cGNode p1.Nodes)],.agg [.isl false (List.map cGNode p2.Nodes)]] σ (fun u σ'=>u = .int .i64 r∧σ'=σ) :=
 EvU.pure1C (qa7 n p1 p2 r hF) σ
def q49 (z6:Int) (rc1:Int→(List Int)→Option ((List Int))) (l28:List Int):Option ((List Int)) :=
 rc1 (IntKind.i64.wrap (z6+1)) l28
def q2t (z6:Int) (rc1:Int→(List Int)→Option ((List Int))) (x12:GNode):Nat→Int→(List Int)→Option ((List Int))
 | 0,_,_=>none
 | m2+1,z25,l26 =>
  cond (decide (z25<(x12.Arcs.length:Int)))
   (bindO (idxO x12.Arcs z25) fun x31 =>
   bindO (idxO x12.Arcs z25) fun x33 =>
   needO ((l26.length+2)*8≤140737488355328∧l26.length+2≤140737488355328) (
   (q2t z6 rc1 x12 m2) (IntKind.i64.wrap (z25+1)) (l26++[x31.Feat,x33.To])))
   (q49 z6 rc1 l26)
def q48  (l9:List Int):Option ((List Int)) :=
 some l9
def q1x (p1:GFS) (n:Nat):Nat→Int→(List Int)→Option ((List Int))
 | 0,_,_=>none
 | m1+1,z6,l7 =>
  cond (decide (z6<(p1.Nodes.length:Int)))
   (bindO (idxO p1.Nodes z6) fun x12 =>
   bindO (idxO p1.Nodes z6) fun x14 =>
   needO ((l7.length+2)*8≤140737488355328∧l7.length+2≤140737488355328) (
   q2t z6 (q1x p1 n m1) x12 n 0 (l7++[x14.Typex,(x12.Arcs.length:Int)])))
   (q48 l7)
def q3z (n:Nat) (p1:GFS):Option ((List Int)) :=
 q1x p1 n n 0 ([(p1.Nodes.length:Int)])
theorem q6u (n:Nat) (p1:GFS) (r:(List Int)) (hF:q3z n p1=some r):EvU Try.prog 39 [.agg [.isl false (List.map cGNode p1.Nodes)]] ⟨[],0⟩ (fun u σ'=>∃ t,u = .vl 1 t 0 r.length∧σ'=⟨[(1,.vec (List.map (cI .i64) r).flatten 3 1 t)],1+1⟩):=by
 unfold q3z at hF
 refine EvU.of_body Try.tb_ok fn39 rfl ?_
 refine WPU.ghost (tm':=fr 55 [(0,.agg [.isl false (List.map cGNode p1.Nodes)])]) (Gh.start (Nat.le_of_ble_eq_true rfl)) (Nat.zero_le _) ?_
 refine sr ?_
 refine RS.q (u:=.ptr 0 0 0) (σ':=⟨[(0,.row [.isl false (List.map cGNode p1.Nodes)] 25)],1⟩) rfl (q3m rfl rfl rfl) ?_
 refine se ?_
 refine RS.q (u:=.ptr 0 0 0) rfl (q0v und25 rfl (q02 inf23) rfl rfl rfl) (RS.q (u:=.isl false (List.map cGNode p1.Nodes)) rfl (q04 und23 rfl rfl rfl rfl) (RS.q rfl (q0n rfl rfl rfl (q0h cGNode und23)) (RS.step (u:=.vl 1 0 0 ([(p1.Nodes.length:Int)].length)) (σ':=⟨[(1,.vec (List.map (cI .i64) ([(p1.Nodes.length:Int)])).flatten 3 1 0),(0,.row [.isl false (List.map cGNode p1.Nodes)] 25)],2⟩) rfl (StepU.bslv (cs:=(List.map (cI .i64) [(p1.Nodes.length:Int)]).flatten) Try.tb_ok rfl und55 inf3 rfl rfl rfl rfl rfl rfl rfl rfl) rfl rfl ?_)))
 refine se ?_
 refine sd ?_
 refine WPU.ghost (tm':=fr 55 [(1,.ptr 0 0 0),(3,.vl 1 0 0 (([(p1.Nodes.length:Int)]).length)),(4,.int .i64 0)]) (Gh.sub ⟨rfl,rfl,rfl,trivial⟩) (Nat.zero_le _) ?_
 refine WPU.loopK (fun m tm σ=>∃ z6:Int,∃ l7:List Int,∃ t8:Nat,q1x p1 n m z6 l7=some r∧tm=fr 55 [(1,.ptr 0 0 0),(3,.vl 1 t8 0 l7.length),(4,.int .i64 z6)]∧σ=⟨[(1,.vec (List.map (cI .i64) l7).flatten 3 1 t8),(0,.row [.isl false (List.map cGNode p1.Nodes)] 25)],2⟩) (fun tm σ=>∃ l9:List Int,∃ t10:Nat,q48 l9=some r∧tm=fr 55 [(3,.vl 1 t10 0 l9.length)]∧σ=⟨[(1,.vec (List.map (cI .i64) l9).flatten 3 1 t10),(0,.row [.isl false (List.map cGNode p1.Nodes)] 25)],2⟩) n ⟨0,[(p1.Nodes.length:Int)],0,hF,rfl,rfl⟩ ?_ ?_
 rintro _ _ ⟨l9,t10,hF,rfl,rfl⟩
 unfold q48 at hF
 refine sr ?_
 refine sd ?_
 refine WPU.ret ?_
 refine st ?_
 have hr:=Option.some.inj hF
 subst hr
 exact ⟨.inr rfl,[.vl 1 t10 0 l9.length],q2b rfl q1v,.vl 1 t10 0 l9.length,⟨[(1,.vec (List.map (cI .i64) l9).flatten 3 1 t10)],2⟩,(Nat.zero_le _),Gh.trans (Gh.only (fun k=>Nat.beq k 1)) (Gh.to (n1:=2) [] rfl rfl (Nat.zero_le _) (Nat.le_of_ble_eq_true rfl) BUL.h BH.h),t10,rfl,rfl⟩
 rintro m1 _ _ ⟨z6,l7,t8,hF,rfl,rfl⟩
 rcases m1 with _ | m1
 cases hF
 unfold q1x at hF
 refine sr ?_
 refine RS.q (u:=.ptr 0 0 0) rfl (q0v und25 rfl (q02 inf23) rfl rfl rfl) (RS.q (u:=.isl false (List.map cGNode p1.Nodes)) rfl (q04 und23 rfl rfl rfl rfl) (RS.q rfl (q0n rfl rfl rfl (q0h cGNode und23)) (RS.q rfl (q03 rfl rfl (q2d _ _ _) rfl) ?_)))
 refine sd ?_
 refine WPU.condS (t:=(decide (z6<(p1.Nodes.length:Int)))) rfl (fun h11=>?_) (fun h11=>?_)
 replace hF:=q0k h11 hF
 refine st ?_
 refine WPU.skip ?_
 refine st ?_
 refine WPU.block ?_
 refine st ?_
 obtain ⟨x12,h13,hF⟩:=q00 hF
 refine sr ?_
 refine RS.q (u:=.ptr 0 0 0) rfl (q0v und25 rfl (q02 inf23) rfl rfl rfl) (RS.q (u:=.isl false (List.map cGNode p1.Nodes)) rfl (q04 und23 rfl rfl rfl rfl) (RS.mv rfl rfl rfl rfl (RS.q (u:=.iptr (cGNode x12)) rfl (q2r rfl rfl (q3j cGNode und23 (q02 inf43) q2i h13 rfl)) (RS.q (u:=.iptr [.isl false (List.map cGArc x12.Arcs)]) rfl (q98 und43 rfl (q02 inf41) rfl rfl) (RS.q (u:=.isl false (List.map cGArc x12.Arcs)) rfl (q5b und41 rfl rfl rfl) ?_)))))
 refine sd ?_
 obtain ⟨x14,h15,hF⟩:=q00 hF
 obtain ⟨h16,hF⟩:=q3e hF
 refine sr ?_
 refine RS.q (u:=.ptr 0 0 0) rfl (q0v und25 rfl (q02 inf23) rfl rfl rfl) (RS.q (u:=.isl false (List.map cGNode p1.Nodes)) rfl (q04 und23 rfl rfl rfl rfl) (RS.mv rfl rfl rfl rfl (RS.q (u:=.iptr (cGNode x14)) rfl (q2r rfl rfl (q3j cGNode und23 (q02 inf43) q2i h15 rfl)) (RS.q (u:=.iptr (cGNode x14)) rfl (q98 und43 rfl (q02 inf3) rfl rfl) (RS.q (u:=.int .i64 x14.Typex) rfl (q5b und3 rfl rfl rfl) (RS.mv rfl rfl rfl rfl (RS.q rfl (q0n rfl rfl rfl (q0h cGArc und41)) ?_)))))))
 refine RS.q (u:=.sl 2 0 2 2) (σ':=⟨[(2,.row [.int .i64 x14.Typex,.int .i64 (x12.Arcs.length:Int)] 3),(1,.vec (List.map (cI .i64) l7).flatten 3 1 t8),(0,.row [.isl false (List.map cGNode p1.Nodes)] 25)],3⟩) rfl (q2a und55 inf3 rfl rfl rfl rfl rfl rfl rfl) (RS.q (u:=.vl 1 (t8+1) 0 ((l7++[x14.Typex,(x12.Arcs.length:Int)]).length)) (σ':=⟨[(2,.row [.int .i64 x14.Typex,.int .i64 (x12.Arcs.length:Int)] 3),(1,.vec (List.map (cI .i64) (l7++[x14.Typex,(x12.Arcs.length:Int)])).flatten 3 1 (t8+1)),(0,.row [.isl false (List.map cGNode p1.Nodes)] 25)],3⟩) rfl (op_app rfl rfl rfl rfl (app_vl (cI .i64) ([x14.Typex,(x12.Arcs.length:Int)]) und55 und55 inf3 rfl (q6o .i64) rfl (qaq (cI .i64) [x14.Typex,(x12.Arcs.length:Int)] rfl rfl rfl rfl) h16)) ?_)
 refine se ?_
 refine sd ?_
 refine WPU.ghost (tm':=fr 55 [(1,.ptr 0 0 0),(3,.vl 1 (t8+1) 0 ((l7++[x14.Typex,(x12.Arcs.length:Int)]).length)),(4,.int .i64 z6),(5,.isl false (List.map cGArc x12.Arcs)),(6,.int .i64 0)]) (Gh.sub ⟨rfl,rfl,rfl,rfl,rfl,trivial⟩) (Nat.zero_le _) ?_
 refine WPU.loopK (fun m tm σ=>∃ z25:Int,∃ l26:List Int,∃ t27:Nat,q2t z6 (q1x p1 n m1) x12 m z25 l26=some r∧tm=fr 55 [(1,.ptr 0 0 0),(3,.vl 1 t27 0 l26.length),(4,.int .i64 z6),(5,.isl false (List.map cGArc x12.Arcs)),(6,.int .i64 z25)]∧σ=⟨[(2,.row [.int .i64 x14.Typex,.int .i64 (x12.Arcs.length:Int)] 3),(1,.vec (List.map (cI .i64) l26).flatten 3 1 t27),(0,.row [.isl false (List.map cGNode p1.Nodes)] 25)],3⟩) (fun tm σ=>∃ l28:List Int,∃ t29:Nat,q49 z6 (q1x p1 n m1) l28=some r∧tm=fr 55 [(1,.ptr 0 0 0),(3,.vl 1 t29 0 l28.length),(4,.int .i64 z6)]∧σ=⟨[(2,.row [.int .i64 x14.Typex,.int .i64 (x12.Arcs.length:Int)] 3),(1,.vec (List.map (cI .i64) l28).flatten 3 1 t29),(0,.row [.isl false (List.map cGNode p1.Nodes)] 25)],3⟩) n ⟨0,(l7++[x14.Typex,(x12.Arcs.length:Int)]),(t8+1),hF,rfl,rfl⟩ ?_ ?_
 rintro _ _ ⟨l28,t29,hF,rfl,rfl⟩
 unfold q49 at hF
 refine sr ?_
 refine RS.q rfl (q03 rfl rfl (q42 _ _ _) rfl) ?_
 refine sd ?_
 exact ⟨m1,_,_,Nat.lt_succ_self _,⟨(IntKind.i64.wrap (z6+1)),l28,t29,hF,rfl,rfl⟩,(Nat.zero_le _),Gh.toC (n1:=2) ⟨rfl,rfl,rfl,trivial⟩ rfl (Nat.zero_le _) (by simp)⟩
 rintro m2 _ _ ⟨z25,l26,t27,hF,rfl,rfl⟩
 rcases m2 with _ | m2
 cases hF
 unfold q2t at hF
 refine sr ?_
 repeat refine RS.mv rfl rfl rfl rfl ?_
 refine RS.q rfl (q0n rfl rfl rfl (q0h cGArc und41)) (RS.q rfl (q03 rfl rfl (q2d _ _ _) rfl) ?_)
 refine sd ?_
 refine WPU.condS (t:=(decide (z25<(x12.Arcs.length:Int)))) rfl (fun h30=>?_) (fun h30=>?_)
 replace hF:=q0k h30 hF
 refine st ?_
 refine WPU.skip ?_
 refine st ?_
 refine WPU.block ?_
 refine st ?_
 obtain ⟨x31,h32,hF⟩:=q00 hF
 obtain ⟨x33,h34,hF⟩:=q00 hF
 obtain ⟨h35,hF⟩:=q3e hF
 refine WPU.drawE Try.tb_ok [(0,11)] (by kernel_rfl) ?_
 repeat refine RD.mv rfl rfl rfl rfl ?_
 refine RD.q (u:=.iptr (cGArc x31)) rfl (q2r rfl rfl (q3j cGArc und41 (q02 inf45) q1r h32 rfl)) (RD.q (u:=.iptr (cGArc x31)) rfl (q98 und45 rfl (q02 inf3) rfl rfl) (RD.q (u:=.int .i64 x31.Feat) rfl (q5b und3 rfl rfl rfl) ?_))
 repeat refine RD.mv rfl rfl rfl rfl ?_
 refine RD.q (u:=.iptr (cGArc x33)) rfl (q2r rfl rfl (q3j cGArc und41 (q02 inf45) q1r h34 rfl)) (RD.q (u:=.iptr [.int .i64 x33.To]) rfl (q98 und45 rfl (q02 inf3) rfl rfl) (RD.q (u:=.int .i64 x33.To) rfl (q5b und3 rfl rfl rfl) (RD.act (u:=.sl 3 0 2 2) (σ':=⟨[(3,.row [.int .i64 x31.Feat,.int .i64 x33.To] 3),(2,.row [.int .i64 x14.Typex,.int .i64 (x12.Arcs.length:Int)] 3),(1,.vec (List.map (cI .i64) l26).flatten 3 1 t27),(0,.row [.isl false (List.map cGNode p1.Nodes)] 25)],4⟩) rfl (q2a und55 inf3 rfl rfl rfl rfl rfl rfl rfl) rfl rfl (RD.act (u:=.vl 1 (t27+1) 0 ((l26++[x31.Feat,x33.To]).length)) (σ':=⟨[(3,.row [.int .i64 x31.Feat,.int .i64 x33.To] 3),(2,.row [.int .i64 x14.Typex,.int .i64 (x12.Arcs.length:Int)] 3),(1,.vec (List.map (cI .i64) (l26++[x31.Feat,x33.To])).flatten 3 1 (t27+1)),(0,.row [.isl false (List.map cGNode p1.Nodes)] 25)],4⟩) rfl (op_app rfl rfl rfl rfl (app_vl (cI .i64) ([x31.Feat,x33.To]) und55 und55 inf3 rfl (q6o .i64) rfl (qaq (cI .i64) [x31.Feat,x33.To] rfl rfl rfl rfl) h35)) rfl rfl (RD.as rfl rfl rfl rfl ?_)))))
 refine RD.done ⟨by kernel_rfl,⟨q0i rfl,trivial⟩,?_⟩
 refine sr ?_
 refine RS.q rfl (q03 rfl rfl (q42 _ _ _) rfl) ?_
 refine sd ?_
 exact ⟨m2,_,_,Nat.lt_succ_self _,⟨(IntKind.i64.wrap (z25+1)),(l26++[x31.Feat,x33.To]),(t27+1),hF,rfl,rfl⟩,(Nat.zero_le _),Gh.toC (n1:=3) ⟨rfl,rfl,rfl,rfl,rfl,trivial⟩ rfl (Nat.zero_le _) (by simp)⟩
 replace hF:=q0j h30 hF
 refine st ?_
 refine WPU.exit ?_
 refine st ?_
 exact ⟨_,_,⟨l26,t27,hF,rfl,rfl⟩,(Nat.zero_le _),Gh.toC (n1:=3) ⟨rfl,rfl,rfl,trivial⟩ rfl (Nat.zero_le _) (by simp)⟩
 replace hF:=q0j h11 hF
 refine st ?_
 refine WPU.exit ?_
 refine st ?_
 exact ⟨_,_,⟨l7,t8,hF,rfl,rfl⟩,(Nat.zero_le _),Gh.toC (n1:=2) ⟨rfl,trivial⟩ rfl (Nat.zero_le _) (by simp)⟩
def q3a   : Option (Int) :=
 some 0
def q2s (r3:List Int) (r6:List Int):Nat→Int→Option (Int)
 | 0,_=>none
 | m1+1,z16 =>
  bindO (cond (decide (z16<(r3.length:Int)))
   (some (decide (z16<(r6.length:Int))))
   (some false)) fun b18 =>
  cond b18
   (bindO (idxO r3 z16) fun x21 =>
   bindO (idxO r6 z16) fun x23 =>
   cond (decide (x21<x23))
    (some (-1))
    (bindO (idxO r3 z16) fun x26 =>
    bindO (idxO r6 z16) fun x28 =>
    cond (decide (x26 > x28))
     (some 1)
     ((q2s r3 r6 m1) (IntKind.i64.wrap (z16+1)))))
   (q3a)
def q3y (n:Nat) (p1:GFS) (p2:GFS):Option (Int) :=
 bindO (q3z n p1) fun r3 =>
 bindO (q3z n p2) fun r6 =>
 q2s r3 r6 n 0
theorem qaj (n:Nat) (p1:GFS) (p2:GFS) (r:Int) (hF:q3y n p1 p2=some r):EvU Try.prog 25 [.agg [.isl false (List.map cGNode p1.Nodes)],.agg [.isl false (List.map cGNode p2.Nodes)]] ⟨[],0⟩ (fun u _=>u = .int .i64 r∧Bel 0 u):=by
 unfold q3y at hF
 refine EvU.of_body Try.tb_ok fn25 rfl ?_
 refine WPU.ghost (tm':=fr 42 [(0,.agg [.isl false (List.map cGNode p1.Nodes)]),(1,.agg [.isl false (List.map cGNode p2.Nodes)])]) (Gh.start (Nat.le_of_ble_eq_true rfl)) (Nat.zero_le _) ?_
 refine sr ?_
 refine RS.q (u:=.ptr 0 0 0) (σ':=⟨[(0,.row [.isl false (List.map cGNode p1.Nodes)] 25)],1⟩) rfl (q3m rfl rfl rfl) (RS.q (u:=.ptr 1 0 0) (σ':=⟨[(1,.row [.isl false (List.map cGNode p2.Nodes)] 25),(0,.row [.isl false (List.map cGNode p1.Nodes)] 25)],2⟩) rfl (q3m rfl rfl rfl) ?_)
 refine sd ?_
 obtain ⟨r3,h4,hF⟩:=q00 hF
 refine sr ?_
 refine RS.q (u:=.agg [.isl false (List.map cGNode p1.Nodes)]) rfl (q0m und25 rfl (q02 inf25) rfl rfl rfl) ?_
 refine RS.callx (R:=fun u σ'=>∃ t5,u = .vl 3 t5 0 r3.length∧σ'=⟨[(3,.vec (List.map (cI .i64) r3).flatten 3 1 t5),(1,.row [.isl false (List.map cGNode p2.Nodes)] 25),(0,.row [.isl false (List.map cGNode p1.Nodes)] 25)],4⟩) (args:=[.agg [.isl false (List.map cGNode p1.Nodes)]]) rfl (q01 rfl rfl fn39 hb39 rfl rfl) (EvU.own1 (cI .i64) (q6u n p1 r3 h4) _ 3 rfl) rfl rfl ?_
 rintro _ _ ⟨t5,rfl,rfl⟩
 refine sd ?_
 obtain ⟨r6,h7,hF⟩:=q00 hF
 refine sr ?_
 refine RS.q (u:=.agg [.isl false (List.map cGNode p2.Nodes)]) rfl (q0m und25 rfl (q02 inf25) rfl rfl rfl) ?_
 refine RS.callx (R:=fun u σ'=>∃ t8,u = .vl 5 t8 0 r6.length∧σ'=⟨[(5,.vec (List.map (cI .i64) r6).flatten 3 1 t8),(3,.vec (List.map (cI .i64) r3).flatten 3 1 t5),(1,.row [.isl false (List.map cGNode p2.Nodes)] 25),(0,.row [.isl false (List.map cGNode p1.Nodes)] 25)],6⟩) (args:=[.agg [.isl false (List.map cGNode p2.Nodes)]]) rfl (q01 rfl rfl fn39 hb39 rfl rfl) (EvU.own1 (cI .i64) (q6u n p2 r6 h7) _ 5 rfl) rfl rfl ?_
 rintro _ _ ⟨t8,rfl,rfl⟩
 refine se ?_
 refine sd ?_
 refine WPU.ghost (tm':=fr 42 [(5,.vl 3 t5 0 r3.length),(6,.vl 5 t8 0 r6.length),(7,.int .i64 0)]) (Gh.sub ⟨rfl,rfl,rfl,trivial⟩) (Nat.zero_le _) ?_
 refine WPU.loopK (fun m tm σ=>∃ z16:Int,q2s r3 r6 m z16=some r∧tm=fr 42 [(5,.vl 3 t5 0 r3.length),(6,.vl 5 t8 0 r6.length),(7,.int .i64 z16)]∧σ=⟨[(5,.vec (List.map (cI .i64) r6).flatten 3 1 t8),(3,.vec (List.map (cI .i64) r3).flatten 3 1 t5),(1,.row [.isl false (List.map cGNode p2.Nodes)] 25),(0,.row [.isl false (List.map cGNode p1.Nodes)] 25)],6⟩) (fun tm σ=>q3a=some r∧tm=fr 42 []∧σ=⟨[(5,.vec (List.map (cI .i64) r6).flatten 3 1 t8),(3,.vec (List.map (cI .i64) r3).flatten 3 1 t5),(1,.row [.isl false (List.map cGNode p2.Nodes)] 25),(0,.row [.isl false (List.map cGNode p1.Nodes)] 25)],6⟩) n ⟨0,hF,rfl,rfl⟩ ?_ ?_
 rintro _ _ ⟨hF,rfl,rfl⟩
 unfold q3a at hF
 refine sr ?_
 refine sd ?_
 refine WPU.ret ?_
 refine st ?_
 have hr:=Option.some.inj hF
 subst hr
 exact ⟨.inr rfl,[.int .i64 0],q2b rfl (q1v),.int .i64 0,⟨[],0⟩,Nat.le_refl _,Gh.toR (.int .i64 0) rfl,rfl,BU.h⟩
 rintro m1 _ _ ⟨z16,hF,rfl,rfl⟩
 rcases m1 with _ | m1
 cases hF
 unfold q2s at hF
 refine st ?_
 obtain ⟨b18,h19,hF⟩:=q00 hF
 refine WPU.joinK (fun tm σ=>tm=fr 42 [(5,.vl 3 t5 0 r3.length),(6,.vl 5 t8 0 r6.length),(7,.int .i64 z16),(21,.bool b18)]∧σ=⟨[(5,.vec (List.map (cI .i64) r6).flatten 3 1 t8),(3,.vec (List.map (cI .i64) r3).flatten 3 1 t5),(1,.row [.isl false (List.map cGNode p2.Nodes)] 25),(0,.row [.isl false (List.map cGNode p1.Nodes)] 25)],6⟩) ?_ ?_
 rintro _ _ ⟨rfl,rfl⟩
 refine st ?_
 refine WPU.condS (t:=b18) rfl (fun h20=>?_) (fun h20=>?_)
 replace hF:=q0k h20 hF
 refine st ?_
 refine WPU.skip ?_
 refine st ?_
 refine WPU.block ?_
 refine st ?_
 obtain ⟨x21,h22,hF⟩:=q00 hF
 obtain ⟨x23,h24,hF⟩:=q00 hF
 refine WPU.drawE Try.tb_ok [] (by kernel_rfl) ?_
 repeat refine RD.mv rfl rfl rfl rfl ?_
 refine RD.q (u:=.ptr 3 t5 (0*1+z16.toNat*1)) rfl (q2r rfl rfl (ia_vl (cI .i64) und55 (q02 inf3) (by decide) (q6o .i64) (vo rfl) h22)) ?_
 refine RD.q (u:=.int .i64 x21) rfl (qab (cI .i64) (fun x=>.int .i64 x) und3 rfl (fun _=>rfl) rfl rfl h22) ?_
 repeat refine RD.mv rfl rfl rfl rfl ?_
 refine RD.q (u:=.ptr 5 t8 (0*1+z16.toNat*1)) rfl (q2r rfl rfl (ia_vl (cI .i64) und55 (q02 inf3) (by decide) (q6o .i64) (vo rfl) h24)) ?_
 refine RD.q (u:=.int .i64 x23) rfl (qab (cI .i64) (fun x=>.int .i64 x) und3 rfl (fun _=>rfl) rfl rfl h24) (RD.q rfl (q03 rfl rfl (q2d _ _ _) rfl) ?_)
 refine RD.done ⟨by kernel_rfl,trivial,?_⟩
 refine st ?_
 refine WPU.condS (t:=(decide (x21<x23))) rfl (fun h25=>?_) (fun h25=>?_)
 replace hF:=q0k h25 hF
 refine sr ?_
 refine sd ?_
 refine WPU.ret ?_
 refine st ?_
 have hr:=Option.some.inj hF
 subst hr
 exact ⟨.inr rfl,[.int .i64 (-1)],q2b rfl (q1v),.int .i64 (-1),⟨[],0⟩,Nat.le_refl _,Gh.toR (.int .i64 (-1)) rfl,rfl,BU.h⟩
 replace hF:=q0j h25 hF
 refine st ?_
 refine WPU.skip ?_
 refine st ?_
 obtain ⟨x26,h27,hF⟩:=q00 hF
 obtain ⟨x28,h29,hF⟩:=q00 hF
 refine WPU.drawE Try.tb_ok [] (by kernel_rfl) ?_
 repeat refine RD.mv rfl rfl rfl rfl ?_
 refine RD.q (u:=.ptr 3 t5 (0*1+z16.toNat*1)) rfl (q2r rfl rfl (ia_vl (cI .i64) und55 (q02 inf3) (by decide) (q6o .i64) (vo rfl) h27)) ?_
 refine RD.q (u:=.int .i64 x26) rfl (qab (cI .i64) (fun x=>.int .i64 x) und3 rfl (fun _=>rfl) rfl rfl h27) ?_
 repeat refine RD.mv rfl rfl rfl rfl ?_
 refine RD.q (u:=.ptr 5 t8 (0*1+z16.toNat*1)) rfl (q2r rfl rfl (ia_vl (cI .i64) und55 (q02 inf3) (by decide) (q6o .i64) (vo rfl) h29)) ?_
 refine RD.q (u:=.int .i64 x28) rfl (qab (cI .i64) (fun x=>.int .i64 x) und3 rfl (fun _=>rfl) rfl rfl h29) (RD.q rfl (q03 rfl rfl (q3q _ _ _) rfl) ?_)
 refine RD.done ⟨by kernel_rfl,trivial,?_⟩
 refine st ?_
 refine WPU.condS (t:=(decide (x26 > x28))) rfl (fun h30=>?_) (fun h30=>?_)
 replace hF:=q0k h30 hF
 refine sr ?_
 refine sd ?_
 refine WPU.ret ?_
 refine st ?_
 have hr:=Option.some.inj hF
 subst hr
 exact ⟨.inr rfl,[.int .i64 1],q2b rfl (q1v),.int .i64 1,⟨[],0⟩,Nat.le_refl _,Gh.toR (.int .i64 1) rfl,rfl,BU.h⟩
 replace hF:=q0j h30 hF
 refine st ?_
 refine WPU.skip ?_
 refine sr ?_
 refine RS.q rfl (q03 rfl rfl (q42 _ _ _) rfl) ?_
 refine sd ?_
 exact ⟨m1,_,_,Nat.lt_succ_self _,⟨(IntKind.i64.wrap (z16+1)),hF,rfl,rfl⟩,(Nat.zero_le _),Gh.toC (n1:=6) ⟨rfl,rfl,rfl,trivial⟩ rfl (Nat.zero_le _) (by simp)⟩
 replace hF:=q0j h20 hF
 refine st ?_
 refine WPU.exit ?_
 refine st ?_
 exact ⟨_,_,⟨hF,rfl,rfl⟩,(Nat.zero_le _),Gh.toC (n1:=6) trivial rfl (Nat.zero_le _) (by simp)⟩
 rcases q25 (decide (z16<(r3.length:Int))) with h17 | h17
 replace h19:=q0k h17 h19
 replace h19:=Option.some.inj h19
 subst h19
 refine sr ?_
 repeat refine RS.mv rfl rfl rfl rfl ?_
 refine RS.q rfl (q0n rfl rfl rfl (q93 und55 rfl)) (RS.q rfl (q03 rfl rfl (q2d _ _ _) rfl) (RS.mv rfl rfl rfl rfl (RS.op (want1 rfl rfl rfl h17) (q0i rfl) rfl rfl (RS.op (want1 rfl rfl rfl h17) (q0i rfl) rfl rfl (RS.op (want1 rfl rfl rfl h17) (q0n rfl rfl rfl (q93 und55 rfl)) rfl rfl (RS.op (want1 rfl rfl rfl h17) (q03 rfl rfl (q2d _ _ _) rfl) rfl rfl (RS.q (u:=.bool (decide (z16<(r6.length:Int)))) rfl (q08 rfl h17 rfl) ?_)))))))
 refine sd ?_
 exact ⟨_,_,⟨rfl,rfl⟩,(Nat.zero_le _),Gh.toC (n1:=6) ⟨rfl,rfl,rfl,rfl,trivial⟩ rfl (Nat.zero_le _) (by simp)⟩
 replace h19:=q0j h17 h19
 replace h19:=Option.some.inj h19
 subst h19
 refine sr ?_
 repeat refine RS.mv rfl rfl rfl rfl ?_
 refine RS.q rfl (q0n rfl rfl rfl (q93 und55 rfl)) (RS.q rfl (q03 rfl rfl (q2d _ _ _) rfl) (RS.mv rfl rfl rfl rfl ?_))
 repeat refine RS.no (want0 rfl rfl rfl h17) rfl rfl ?_
 refine RS.q (u:=.bool false) rfl (q07 rfl h17 rfl) ?_
 refine sd ?_
 exact ⟨_,_,⟨rfl,rfl⟩,(Nat.zero_le _),Gh.toC (n1:=6) ⟨rfl,rfl,rfl,rfl,trivial⟩ rfl (Nat.zero_le _) (by simp)⟩
theorem q99 (n:Nat) (p1:GFS) (p2:GFS) (r:Int) (hF:q3y n p1 p2=some r) (σ:Sg):EvU Try.prog 25 [.agg [.isl false (List.map cGNode p1.Nodes)],.agg [.isl false (List.map cGNode p2.Nodes)]] σ (fun u σ'=>u = .int .i64 r∧σ'=σ) :=
 EvU.pure1C (qaj n p1 p2 r hF) σ
def q66 (n:Nat) (p1:GFS) (p2:GFS):Option (Bool) :=
 bindO (q4f n p1 p2) fun r3 =>
 some (r3 == 0)
theorem graph_Equal_0 (n:Nat) (p1:GFS) (p2:GFS) (r:Bool) (hF:q66 n p1 p2=some r):EvU Try.prog 26 [.agg [.isl false (List.map cGNode p1.Nodes)],.agg [.isl false (List.map cGNode p2.Nodes)]] ⟨[],0⟩ (fun u _=>u = .bool r∧Bel 0 u):=by
 unfold q66 at hF
 refine EvU.of_body Try.tb_ok fn26 rfl ?_
 refine WPU.ghost (tm':=fr 9 [(0,.agg [.isl false (List.map cGNode p1.Nodes)]),(1,.agg [.isl false (List.map cGNode p2.Nodes)])]) (Gh.start (Nat.le_of_ble_eq_true rfl)) (Nat.zero_le _) ?_
 refine sr ?_
 refine RS.q (u:=.ptr 0 0 0) (σ':=⟨[(0,.row [.isl false (List.map cGNode p1.Nodes)] 25)],1⟩) rfl (q3m rfl rfl rfl) (RS.q (u:=.ptr 1 0 0) (σ':=⟨[(1,.row [.isl false (List.map cGNode p2.Nodes)] 25),(0,.row [.isl false (List.map cGNode p1.Nodes)] 25)],2⟩) rfl (q3m rfl rfl rfl) ?_)
 refine sd ?_
 obtain ⟨r3,h4,hF⟩:=q00 hF
 refine sr ?_
 refine RS.q (u:=.agg [.isl false (List.map cGNode p1.Nodes)]) rfl (q0m und25 rfl (q02 inf25) rfl rfl rfl) (RS.q (u:=.agg [.isl false (List.map cGNode p2.Nodes)]) rfl (q0m und25 rfl (q02 inf25) rfl rfl rfl) (RS.call (u:=.int .i64 r3) (args:=[.agg [.isl false (List.map cGNode p1.Nodes)],.agg [.isl false (List.map cGNode p2.Nodes)]]) rfl (q01 rfl rfl fn24 hb24 rfl rfl) (q6j n p1 p2 r3 h4 _) rfl rfl (RS.q rfl (q03 rfl rfl (q4a _ _ _) rfl) ?_)))
 refine sd ?_
 refine WPU.ret ?_
 refine st ?_
 have hr:=Option.some.inj hF
 subst hr
 exact ⟨.inr rfl,[.bool (r3 == 0)],q2b rfl (q1v),.bool (r3 == 0),⟨[],0⟩,Nat.le_refl _,Gh.toR (.bool (r3 == 0)) rfl,rfl,BU.h⟩
theorem q7e (n:Nat) (p1:GFS) (p2:GFS) (r:Bool) (hF:q66 n p1 p2=some r) (σ:Sg):EvU Try.prog 26 [.agg [.isl false (List.map cGNode p1.Nodes)],.agg [.isl false (List.map cGNode p2.Nodes)]] σ (fun u σ'=>u = .bool r∧σ'=σ) :=
 EvU.pure1C (graph_Equal_0 n p1 p2 r hF) σ
def q5z (n:Nat) (p1:Int):Option (GFS) :=
 some (GFS.mk ([(GNode.mk p1 [])]))
theorem graph_Atom_0 (n:Nat) (p1:Int) (r:GFS) (hF:q5z n p1=some r):EvU Try.prog 12 [.int .i64 p1] ⟨[],0⟩ (fun u _=>u = .agg [.isl false (List.map cGNode r.Nodes)]∧Bel 0 u):=by
 unfold q5z at hF
 refine EvU.of_body Try.tb_ok fn12 rfl ?_
 refine WPU.ghost (tm':=fr 7 [(0,.int .i64 p1)]) (Gh.start (Nat.le_of_ble_eq_true rfl)) (Nat.zero_le _) ?_
 refine sr ?_
 refine RS.q (u:=.ptr 0 0 0) (σ':=⟨[(0,.row [.nils] 25)],1⟩) rfl (q1d inf25 rfl rfl) ?_
 refine se ?_
 refine RS.q (u:=.agg [.int .i64 p1,.nils]) rfl (q6t bd43 rfl rfl rfl) (RS.q (u:=.sl 1 0 1 1) (σ':=⟨[(1,.row [.int .i64 p1,.nils] 43),(0,.row [.nils] 25)],2⟩) rfl (q2a und23 inf43 rfl rfl rfl rfl rfl rfl rfl) (RS.q (u:=.agg [.sl 1 0 1 1]) rfl (q6t bd25 rfl rfl rfl) (RS.opn (u:=.junk) (σ':=⟨[(1,.row [.int .i64 p1,.nils] 43),(0,.row [.sl 1 0 1 1] 25)],2⟩) rfl (q14 (q02 inf25) rfl rfl rfl rfl rfl rfl rfl rfl) rfl ?_)))
 refine sd ?_
 refine WPU.ret ?_
 refine st ?_
 have hr:=Option.some.inj hF
 subst hr
 exact ⟨.inr rfl,[.agg [.sl 1 0 1 1]],res_c (q0m und25 rfl (q02 inf25) rfl rfl rfl) (q1v),.agg [.isl false (List.map cGNode ([(GNode.mk p1 [])]))],⟨[],0⟩,Nat.le_refl _,Gh.trans (Gh.trans (Gh.rowW (K:=1) (q':=[.int .i64 p1,.isl false []]) rfl rfl (.cons (.refl _) (.cons (.nil false) .nil))) (Gh.fz (tm':=[.agg [.isl false (List.map cGNode ([(GNode.mk p1 [])]))]]) (h':=[(0,.row [.isl false (List.map cGNode ([(GNode.mk p1 [])]))] 25)]) 1 (.row [.int .i64 p1,.isl false []] 43) 2 rfl (by simp) (by simp only [oneU,q09,q05,q0q,q0c,q0t,q0g,q0f,q0e,q0d,q0a,q0r,q0s,q0p,q0u,q1k,junkT,q1u,q1w,Nat.reduceLeDiff,Nat.reduceMul,List.length_cons,List.length_nil,Nat.reduceAdd]<;>simp only [chunks,List.take,List.drop,List.map,cGNode]) (by simp only [fzH,fzB,ug,Nat.beq,cond_true,cond_false,oneU,q09,q05,q0q,q0c,q0t,q0g,q0f,q0e,q0d,q0a,q0r,q0s,q0p,q0u,q1k,junkT,q1u,q1w,Nat.reduceLeDiff,Nat.reduceMul,List.length_cons,List.length_nil,Nat.reduceAdd]<;>simp only [chunks,List.take,List.drop,List.map,cGNode]))) (Gh.toR (.agg [.isl false (List.map cGNode ([(GNode.mk p1 [])]))]) rfl),rfl,BU.h⟩
theorem q5e (n:Nat) (p1:Int) (r:GFS) (hF:q5z n p1=some r) (σ:Sg):EvU Try.prog 12 [.int .i64 p1] σ (fun u σ'=>u = .agg [.isl false (List.map cGNode r.Nodes)]∧σ'=σ) :=
 EvU.pure1C (graph_Atom_0 n p1 r hF) σ
def q3i  (w13:MapL Int Bool):Option (Int) :=
 some 0
def q2h (p1:GNode) (p2:Int):Nat→Int→(MapL Int Bool)→Option (Int)
 | 0,_,_=>none
 | m1+1,z11,w12 =>
  cond (decide (z11<(p1.Arcs.length:Int)))
   (bindO (idxO p1.Arcs z11) fun x15 =>
   bindO (cond (decide (x15.Feat<0))
    (some true)
    (cond (decide (x15.To<0))
     (some true)
     (some (decide (x15.To ≥ p2))))) fun b19 =>
   cond b19
    (some 2)
    (cond ((mGet (fun a b=>a == b) w12 x15.Feat).getD false)
     (some 4)
     ((q2h p1 p2 m1) (IntKind.i64.wrap (z11+1)) (mUpd (fun a b=>a == b) w12 x15.Feat true))))
   (q3i w12)
def q35 (n:Nat) (p1:GNode) (p2:Int):Option (Int) :=
 cond (decide (p1.Typex<0))
  (some 2)
  (q2h p1 p2 n 0 (mNew:MapL Int Bool))
theorem q8l (n:Nat) (p1:GNode) (p2:Int) (r:Int) (hF:q35 n p1 p2=some r):EvU Try.prog 30 [.agg (cGNode p1),.int .i64 p2] ⟨[],0⟩ (fun u _=>u = .int .i64 r∧Bel 0 u):=by
 unfold q35 at hF
 refine EvU.of_body Try.tb_ok fn30 rfl ?_
 refine WPU.ghost (tm':=fr 41 [(0,.agg (cGNode p1)),(1,.int .i64 p2)]) (Gh.start (Nat.le_of_ble_eq_true rfl)) (Nat.zero_le _) ?_
 refine sr ?_
 refine RS.q (u:=.ptr 0 0 0) (σ':=⟨[(0,.row (cGNode p1) 43)],1⟩) rfl (q3m rfl rfl rfl) ?_
 refine se ?_
 refine RS.q (u:=.ptr 0 0 0) rfl (q0v und43 rfl (q02 inf3) rfl rfl rfl) (RS.q (u:=.int .i64 p1.Typex) rfl (q04 und3 rfl rfl rfl rfl) (RS.q rfl (q03 rfl rfl (q2d _ _ _) rfl) ?_))
 refine sd ?_
 refine WPU.condS (t:=(decide (p1.Typex<0))) rfl (fun h3=>?_) (fun h3=>?_)
 replace hF:=q0k h3 hF
 refine sr ?_
 refine sd ?_
 refine WPU.ret ?_
 refine st ?_
 have hr:=Option.some.inj hF
 subst hr
 exact ⟨.inr rfl,[.int .i64 2],q2b rfl (q1v),.int .i64 2,⟨[],0⟩,Nat.le_refl _,Gh.toR (.int .i64 2) rfl,rfl,BU.h⟩
 replace hF:=q0j h3 hF
 refine st ?_
 refine WPU.skip ?_
 refine sr ?_
 refine RS.q (u:=.map 1) (σ':=⟨[(1,.map (List.map (mE (fun x=>.int .i64 x) (fun x=>.bool x)) (mNew:MapL Int Bool).es) (mNew:MapL Int Bool).cl),(0,.row (cGNode p1) 43)],2⟩) rfl (op_mnew) ?_
 refine se ?_
 refine RS.q (u:=.ptr 0 0 1) rfl (q0v und43 rfl (q02 inf41) rfl rfl rfl) (RS.q (u:=.isl false (List.map cGArc p1.Arcs)) rfl (q04 und41 rfl rfl rfl rfl) (RS.q rfl (q0n rfl rfl rfl (q0h cGArc und41)) (RS.mv rfl rfl rfl rfl ?_)))
 refine sd ?_
 refine WPU.ghost (tm':=fr 41 [(1,.int .i64 p2),(5,.map 1),(13,.isl false (List.map cGArc p1.Arcs)),(14,.int .i64 (p1.Arcs.length:Int)),(15,.int .i64 0)]) (Gh.sub ⟨rfl,rfl,rfl,rfl,rfl,trivial⟩) (Nat.zero_le _) ?_
 refine WPU.loopK (fun m tm σ=>∃ z11:Int,∃ w12:MapL Int Bool,q2h p1 p2 m z11 w12=some r∧tm=fr 41 [(1,.int .i64 p2),(5,.map 1),(13,.isl false (List.map cGArc p1.Arcs)),(14,.int .i64 (p1.Arcs.length:Int)),(15,.int .i64 z11)]∧σ=⟨[(1,.map (List.map (mE (fun x=>.int .i64 x) (fun x=>.bool x)) w12.es) w12.cl),(0,.row (cGNode p1) 43)],2⟩) (fun tm σ=>∃ w13:MapL Int Bool,q3i w13=some r∧tm=fr 41 []∧σ=⟨[(1,.map (List.map (mE (fun x=>.int .i64 x) (fun x=>.bool x)) w13.es) w13.cl),(0,.row (cGNode p1) 43)],2⟩) n ⟨0,(mNew:MapL Int Bool),hF,rfl,rfl⟩ ?_ ?_
 rintro _ _ ⟨w13,hF,rfl,rfl⟩
 unfold q3i at hF
 refine sr ?_
 refine sd ?_
 refine WPU.ret ?_
 refine st ?_
 have hr:=Option.some.inj hF
 subst hr
 exact ⟨.inr rfl,[.int .i64 0],q2b rfl (q1v),.int .i64 0,⟨[],0⟩,Nat.le_refl _,Gh.toR (.int .i64 0) rfl,rfl,BU.h⟩
 rintro m1 _ _ ⟨z11,w12,hF,rfl,rfl⟩
 rcases m1 with _ | m1
 cases hF
 unfold q2h at hF
 refine sr ?_
 refine RS.q rfl (q03 rfl rfl (q2d _ _ _) rfl) ?_
 refine sd ?_
 refine WPU.condS (t:=(decide (z11<(p1.Arcs.length:Int)))) rfl (fun h14=>?_) (fun h14=>?_)
 replace hF:=q0k h14 hF
 refine st ?_
 refine WPU.skip ?_
 refine st ?_
 refine WPU.block ?_
 refine st ?_
 obtain ⟨x15,h16,hF⟩:=q00 hF
 refine sr ?_
 refine RS.q (u:=.iptr (cGArc x15)) rfl (q2r rfl rfl (q3j cGArc und41 (q02 inf45) q1r h16 rfl)) (RS.q (u:=.agg (cGArc x15)) rfl (q80 und45 rfl (q02 inf45) rfl rfl) (RS.q (u:=.ptr 2 0 0) (σ':=⟨[(2,.row [.int .i64 0,.int .i64 0] 45),(1,.map (List.map (mE (fun x=>.int .i64 x) (fun x=>.bool x)) w12.es) w12.cl),(0,.row (cGNode p1) 43)],3⟩) rfl (q1d inf45 rfl rfl) (RS.opn (u:=.junk) (σ':=⟨[(2,.row (cGArc x15) 45),(1,.map (List.map (mE (fun x=>.int .i64 x) (fun x=>.bool x)) w12.es) w12.cl),(0,.row (cGNode p1) 43)],3⟩) rfl (q14 (q02 inf45) rfl rfl rfl rfl rfl rfl rfl rfl) rfl ?_)))
 refine sd ?_
 obtain ⟨b19,h20,hF⟩:=q00 hF
 refine WPU.joinK (fun tm σ=>tm=fr 41 [(1,.int .i64 p2),(5,.map 1),(7,.ptr 2 0 0),(13,.isl false (List.map cGArc p1.Arcs)),(14,.int .i64 (p1.Arcs.length:Int)),(15,.int .i64 z11),(32,.bool b19)]∧σ=⟨[(2,.row (cGArc x15) 45),(1,.map (List.map (mE (fun x=>.int .i64 x) (fun x=>.bool x)) w12.es) w12.cl),(0,.row (cGNode p1) 43)],3⟩) ?_ ?_
 rintro _ _ ⟨rfl,rfl⟩
 refine st ?_
 refine WPU.condS (t:=b19) rfl (fun h21=>?_) (fun h21=>?_)
 replace hF:=q0k h21 hF
 refine sr ?_
 refine sd ?_
 refine WPU.ret ?_
 refine st ?_
 have hr:=Option.some.inj hF
 subst hr
 exact ⟨.inr rfl,[.int .i64 2],q2b rfl (q1v),.int .i64 2,⟨[],0⟩,Nat.le_refl _,Gh.toR (.int .i64 2) rfl,rfl,BU.h⟩
 replace hF:=q0j h21 hF
 refine st ?_
 refine WPU.skip ?_
 refine sr ?_
 refine RS.q (u:=.ptr 2 0 0) rfl (q0v und45 rfl (q02 inf3) rfl rfl rfl) (RS.q (u:=.int .i64 x15.Feat) rfl (q04 und3 rfl rfl rfl rfl) (RS.q (u:=.bool ((mGet (fun a b=>a == b) w12 x15.Feat).getD false)) rfl (op_look (kU:=(fun x=>.int .i64 x)) (vU:=(fun x=>.bool x)) (m:=w12) (k:=x15.Feat) (zv:=false) (qaa und3) und60 rfl rfl rfl inf4 rfl) ?_))
 refine sd ?_
 refine WPU.condS (t:=((mGet (fun a b=>a == b) w12 x15.Feat).getD false)) rfl (fun h22=>?_) (fun h22=>?_)
 replace hF:=q0k h22 hF
 refine sr ?_
 refine sd ?_
 refine WPU.ret ?_
 refine st ?_
 have hr:=Option.some.inj hF
 subst hr
 exact ⟨.inr rfl,[.int .i64 4],q2b rfl (q1v),.int .i64 4,⟨[],0⟩,Nat.le_refl _,Gh.toR (.int .i64 4) rfl,rfl,BU.h⟩
 replace hF:=q0j h22 hF
 refine st ?_
 refine WPU.skip ?_
 refine sr ?_
 refine RS.q (u:=.ptr 2 0 0) rfl (q0v und45 rfl (q02 inf3) rfl rfl rfl) (RS.q (u:=.int .i64 x15.Feat) rfl (q04 und3 rfl rfl rfl rfl) (RS.opn (u:=.junk) (σ':=⟨[(2,.row (cGArc x15) 45),(1,.map (List.map (mE (fun x=>.int .i64 x) (fun x=>.bool x)) (mUpd (fun a b=>a == b) w12 x15.Feat true).es) (mUpd (fun a b=>a == b) w12 x15.Feat true).cl),(0,.row (cGNode p1) 43)],3⟩) rfl (op_mup (kU:=(fun x=>.int .i64 x)) (vU:=(fun x=>.bool x)) (m:=w12) (k:=x15.Feat) (v:=true) (qaa und3) und60 rfl rfl rfl rfl rfl) rfl ?_))
 refine se ?_
 refine RS.q rfl (q03 rfl rfl (q42 _ _ _) rfl) (RS.mv rfl rfl rfl rfl ?_)
 refine sd ?_
 exact ⟨m1,_,_,Nat.lt_succ_self _,⟨(IntKind.i64.wrap (z11+1)),(mUpd (fun a b=>a == b) w12 x15.Feat true),hF,rfl,rfl⟩,(Nat.zero_le _),Gh.toC (n1:=2) ⟨rfl,rfl,rfl,rfl,rfl,trivial⟩ rfl (Nat.zero_le _) (by simp)⟩
 rcases q25 (decide (x15.Feat<0)) with h17 | h17
 replace h20:=q0k h17 h20
 replace h20:=Option.some.inj h20
 subst h20
 refine sr ?_
 refine RS.q (u:=.ptr 2 0 0) rfl (q0v und45 rfl (q02 inf3) rfl rfl rfl) (RS.q (u:=.int .i64 x15.Feat) rfl (q04 und3 rfl rfl rfl rfl) (RS.q rfl (q03 rfl rfl (q2d _ _ _) rfl) (RS.mv rfl rfl rfl rfl ?_)))
 repeat refine RS.no (want0 rfl rfl rfl h17) rfl rfl ?_
 refine RS.q (u:=.bool true) rfl (q08 rfl h17 rfl) (RS.mv rfl rfl rfl rfl ?_)
 repeat refine RS.no (want0 rfl rfl rfl rfl) rfl rfl ?_
 refine RS.q (u:=.bool true) rfl (q08 rfl rfl rfl) ?_
 refine sd ?_
 exact ⟨_,_,⟨rfl,rfl⟩,(Nat.zero_le _),Gh.toC (n1:=3) ⟨rfl,rfl,rfl,rfl,rfl,rfl,rfl,trivial⟩ rfl (Nat.zero_le _) (by simp)⟩
 replace h20:=q0j h17 h20
 rcases q25 (decide (x15.To<0)) with h18 | h18
 replace h20:=q0k h18 h20
 replace h20:=Option.some.inj h20
 subst h20
 refine sr ?_
 refine RS.q (u:=.ptr 2 0 0) rfl (q0v und45 rfl (q02 inf3) rfl rfl rfl) (RS.q (u:=.int .i64 x15.Feat) rfl (q04 und3 rfl rfl rfl rfl) (RS.q rfl (q03 rfl rfl (q2d _ _ _) rfl) (RS.mv rfl rfl rfl rfl (RS.op (u:=.ptr 2 0 1) (want1 rfl rfl rfl h17) (q0v und45 rfl (q02 inf3) rfl rfl rfl) rfl rfl (RS.op (u:=.int .i64 x15.To) (want1 rfl rfl rfl h17) (q04 und3 rfl rfl rfl rfl) rfl rfl (RS.op (want1 rfl rfl rfl h17) (q03 rfl rfl (q2d _ _ _) rfl) rfl rfl (RS.q (u:=.bool (decide (x15.To<0))) rfl (q07 rfl h17 rfl) ?_)))))))
 refine RS.mv rfl rfl rfl rfl ?_
 repeat refine RS.no (want0 rfl rfl rfl h18) rfl rfl ?_
 refine RS.q (u:=.bool true) rfl (q08 rfl h18 rfl) ?_
 refine sd ?_
 exact ⟨_,_,⟨rfl,rfl⟩,(Nat.zero_le _),Gh.toC (n1:=3) ⟨rfl,rfl,rfl,rfl,rfl,rfl,rfl,trivial⟩ rfl (Nat.zero_le _) (by simp)⟩
 replace h20:=q0j h18 h20
 replace h20:=Option.some.inj h20
 subst h20
 refine sr ?_
 refine RS.q (u:=.ptr 2 0 0) rfl (q0v und45 rfl (q02 inf3) rfl rfl rfl) (RS.q (u:=.int .i64 x15.Feat) rfl (q04 und3 rfl rfl rfl rfl) (RS.q rfl (q03 rfl rfl (q2d _ _ _) rfl) (RS.mv rfl rfl rfl rfl (RS.op (u:=.ptr 2 0 1) (want1 rfl rfl rfl h17) (q0v und45 rfl (q02 inf3) rfl rfl rfl) rfl rfl (RS.op (u:=.int .i64 x15.To) (want1 rfl rfl rfl h17) (q04 und3 rfl rfl rfl rfl) rfl rfl (RS.op (want1 rfl rfl rfl h17) (q03 rfl rfl (q2d _ _ _) rfl) rfl rfl (RS.q (u:=.bool (decide (x15.To<0))) rfl (q07 rfl h17 rfl) ?_)))))))
 refine RS.mv rfl rfl rfl rfl (RS.op (u:=.ptr 2 0 1) (want1 rfl rfl rfl h18) (q0v und45 rfl (q02 inf3) rfl rfl rfl) rfl rfl (RS.op (u:=.int .i64 x15.To) (want1 rfl rfl rfl h18) (q04 und3 rfl rfl rfl rfl) rfl rfl (RS.op (want1 rfl rfl rfl h18) (q0i rfl) rfl rfl (RS.op (want1 rfl rfl rfl h18) (q03 rfl rfl (q91 _ _ _) rfl) rfl rfl (RS.q (u:=.bool (decide (x15.To ≥ p2))) rfl (q07 rfl h18 rfl) ?_)))))
 refine sd ?_
 exact ⟨_,_,⟨rfl,rfl⟩,(Nat.zero_le _),Gh.toC (n1:=3) ⟨rfl,rfl,rfl,rfl,rfl,rfl,rfl,trivial⟩ rfl (Nat.zero_le _) (by simp)⟩
 replace hF:=q0j h14 hF
 refine st ?_
 refine WPU.exit ?_
 refine st ?_
 exact ⟨_,_,⟨w12,hF,rfl,rfl⟩,(Nat.zero_le _),Gh.toC (n1:=2) trivial rfl (Nat.zero_le _) (by simp)⟩
theorem q7w (n:Nat) (p1:GNode) (p2:Int) (r:Int) (hF:q35 n p1 p2=some r) (σ:Sg):EvU Try.prog 30 [.agg (cGNode p1),.int .i64 p2] σ (fun u σ'=>u = .int .i64 r∧σ'=σ) :=
 EvU.pure1C (q8l n p1 p2 r hF) σ
def q4s (p1:GFS) (n:Nat)  : Option (GFS×Int) :=
 bindO (q2o n p1 0) fun r9 =>
 some (r9,0)
def q3d (p1:GFS) (n:Nat):Nat→Int→Option (GFS×Int)
 | 0,_=>none
 | m1+1,z8 =>
  cond (decide (z8<(p1.Nodes.length:Int)))
   (bindO (idxO p1.Nodes z8) fun x12 =>
   bindO (q35 n x12 (p1.Nodes.length:Int)) fun r14 =>
   cond (r14 != 0)
    (some ((GFS.mk []),r14))
    ((q3d p1 n m1) (IntKind.i64.wrap (z8+1))))
   (q4s p1 n)
def q37 (n:Nat) (p1:GFS):Option (GFS×Int) :=
 cond ((p1.Nodes.length:Int) == 0)
  (some ((GFS.mk []),1))
  (cond (decide ((p1.Nodes.length:Int) > 4096))
   (some ((GFS.mk []),7))
   (q3d p1 n n 0))
theorem graph_Canon_0 (n:Nat) (p1:GFS) (r:GFS×Int) (hF:q37 n p1=some r):EvU Try.prog 13 [.agg [.isl false (List.map cGNode p1.Nodes)]] ⟨[],0⟩ (fun u _=>u = .tup [.agg [.isl false (List.map cGNode r.1.Nodes)],.int .i64 r.2]∧Bel 0 u):=by
 unfold q37 at hF
 refine EvU.of_body Try.tb_ok fn13 rfl ?_
 refine WPU.ghost (tm':=fr 36 [(0,.agg [.isl false (List.map cGNode p1.Nodes)])]) (Gh.start (Nat.le_of_ble_eq_true rfl)) (Nat.zero_le _) ?_
 refine sr ?_
 refine RS.q (u:=.ptr 0 0 0) (σ':=⟨[(0,.row [.isl false (List.map cGNode p1.Nodes)] 25)],1⟩) rfl (q3m rfl rfl rfl) (RS.q (u:=.ptr 1 0 0) (σ':=⟨[(1,.row [.nils] 25),(0,.row [.isl false (List.map cGNode p1.Nodes)] 25)],2⟩) rfl (q1d inf25 rfl rfl) ?_)
 refine se ?_
 refine RS.q (u:=.ptr 0 0 0) rfl (q0v und25 rfl (q02 inf23) rfl rfl rfl) (RS.q (u:=.isl false (List.map cGNode p1.Nodes)) rfl (q04 und23 rfl rfl rfl rfl) (RS.q rfl (q0n rfl rfl rfl (q0h cGNode und23)) (RS.q rfl (q03 rfl rfl (q4a _ _ _) rfl) ?_)))
 refine sd ?_
 refine WPU.condS (t:=((p1.Nodes.length:Int) == 0)) rfl (fun h2=>?_) (fun h2=>?_)
 replace hF:=q0k h2 hF
 refine sr ?_
 refine RS.q (u:=.agg [.nils]) rfl (q6t bd25 rfl rfl rfl) (RS.opn (u:=.junk) (σ':=⟨[(1,.row [.nils] 25),(0,.row [.isl false (List.map cGNode p1.Nodes)] 25)],2⟩) rfl (q14 (q02 inf25) rfl rfl rfl rfl rfl rfl rfl rfl) rfl ?_)
 refine sd ?_
 refine WPU.ret ?_
 refine st ?_
 have hr:=Option.some.inj hF
 subst hr
 exact ⟨.inr rfl,[.agg [.nils],.int .i64 1],res_c (q0m und25 rfl (q02 inf25) rfl rfl rfl) (q2b rfl (q1v)),.tup [.agg [.isl false []],.int .i64 1],⟨[],0⟩,Nat.le_refl _,Gh.trans (Gh.wk (.cons (.tup (.cons (.agg (.cons (.nil false) .nil)) (.cons (.refl _) .nil))) .nil)) (Gh.toR (.tup [.agg [.isl false []],.int .i64 1]) rfl),rfl,BU.h⟩
 replace hF:=q0j h2 hF
 refine st ?_
 refine WPU.skip ?_
 refine sr ?_
 refine RS.q (u:=.ptr 0 0 0) rfl (q0v und25 rfl (q02 inf23) rfl rfl rfl) (RS.q (u:=.isl false (List.map cGNode p1.Nodes)) rfl (q04 und23 rfl rfl rfl rfl) (RS.q rfl (q0n rfl rfl rfl (q0h cGNode und23)) (RS.q rfl (q03 rfl rfl (q3q _ _ _) rfl) ?_)))
 refine sd ?_
 refine WPU.condS (t:=(decide ((p1.Nodes.length:Int) > 4096))) rfl (fun h3=>?_) (fun h3=>?_)
 replace hF:=q0k h3 hF
 refine sr ?_
 refine RS.q (u:=.agg [.nils]) rfl (q6t bd25 rfl rfl rfl) (RS.opn (u:=.junk) (σ':=⟨[(1,.row [.nils] 25),(0,.row [.isl false (List.map cGNode p1.Nodes)] 25)],2⟩) rfl (q14 (q02 inf25) rfl rfl rfl rfl rfl rfl rfl rfl) rfl ?_)
 refine sd ?_
 refine WPU.ret ?_
 refine st ?_
 have hr:=Option.some.inj hF
 subst hr
 exact ⟨.inr rfl,[.agg [.nils],.int .i64 7],res_c (q0m und25 rfl (q02 inf25) rfl rfl rfl) (q2b rfl (q1v)),.tup [.agg [.isl false []],.int .i64 7],⟨[],0⟩,Nat.le_refl _,Gh.trans (Gh.wk (.cons (.tup (.cons (.agg (.cons (.nil false) .nil)) (.cons (.refl _) .nil))) .nil)) (Gh.toR (.tup [.agg [.isl false []],.int .i64 7]) rfl),rfl,BU.h⟩
 replace hF:=q0j h3 hF
 refine st ?_
 refine WPU.skip ?_
 refine sr ?_
 refine RS.q (u:=.ptr 0 0 0) rfl (q0v und25 rfl (q02 inf23) rfl rfl rfl) (RS.q (u:=.isl false (List.map cGNode p1.Nodes)) rfl (q04 und23 rfl rfl rfl rfl) (RS.q rfl (q0n rfl rfl rfl (q0h cGNode und23)) (RS.mv rfl rfl rfl rfl ?_)))
 refine sd ?_
 refine WPU.ghost (tm':=fr 36 [(1,.ptr 0 0 0),(2,.ptr 1 0 0),(18,.isl false (List.map cGNode p1.Nodes)),(19,.int .i64 (p1.Nodes.length:Int)),(20,.int .i64 0)]) (Gh.sub ⟨rfl,rfl,rfl,rfl,rfl,trivial⟩) (Nat.zero_le _) ?_
 refine WPU.loopK (fun m tm σ=>∃ z8:Int,q3d p1 n m z8=some r∧tm=fr 36 [(1,.ptr 0 0 0),(2,.ptr 1 0 0),(18,.isl false (List.map cGNode p1.Nodes)),(19,.int .i64 (p1.Nodes.length:Int)),(20,.int .i64 z8)]∧σ=⟨[(1,.row [.nils] 25),(0,.row [.isl false (List.map cGNode p1.Nodes)] 25)],2⟩) (fun tm σ=>q4s p1 n=some r∧tm=fr 36 [(1,.ptr 0 0 0),(2,.ptr 1 0 0)]∧σ=⟨[(1,.row [.nils] 25),(0,.row [.isl false (List.map cGNode p1.Nodes)] 25)],2⟩) n ⟨0,hF,rfl,rfl⟩ ?_ ?_
 rintro _ _ ⟨hF,rfl,rfl⟩
 unfold q4s at hF
 refine st ?_
 obtain ⟨r9,h10,hF⟩:=q00 hF
 refine sr ?_
 refine RS.q (u:=.agg [.isl false (List.map cGNode p1.Nodes)]) rfl (q0m und25 rfl (q02 inf25) rfl rfl rfl) (RS.call (u:=.agg [.isl false (List.map cGNode r9.Nodes)]) (args:=[.agg [.isl false (List.map cGNode p1.Nodes)],.int .i64 0]) rfl (q01 rfl rfl fn31 hb31 rfl rfl) (q5s n p1 0 r9 h10 _) rfl rfl (RS.opn (u:=.junk) (σ':=⟨[(1,.row [.isl false (List.map cGNode r9.Nodes)] 25),(0,.row [.isl false (List.map cGNode p1.Nodes)] 25)],2⟩) rfl (q14 (q02 inf25) rfl rfl rfl rfl rfl rfl rfl rfl) rfl ?_))
 refine sd ?_
 refine WPU.ret ?_
 refine st ?_
 have hr:=Option.some.inj hF
 subst hr
 exact ⟨.inr rfl,[.agg [.isl false (List.map cGNode r9.Nodes)],.int .i64 0],res_c (q0m und25 rfl (q02 inf25) rfl rfl rfl) (q2b rfl (q1v)),.tup [.agg [.isl false (List.map cGNode r9.Nodes)],.int .i64 0],⟨[],0⟩,Nat.le_refl _,Gh.toR (.tup [.agg [.isl false (List.map cGNode r9.Nodes)],.int .i64 0]) rfl,rfl,BU.h⟩
 rintro m1 _ _ ⟨z8,hF,rfl,rfl⟩
 rcases m1 with _ | m1
 cases hF
 unfold q3d at hF
 refine sr ?_
 refine RS.q rfl (q03 rfl rfl (q2d _ _ _) rfl) ?_
 refine sd ?_
 refine WPU.condS (t:=(decide (z8<(p1.Nodes.length:Int)))) rfl (fun h11=>?_) (fun h11=>?_)
 replace hF:=q0k h11 hF
 refine st ?_
 refine WPU.skip ?_
 refine st ?_
 refine WPU.block ?_
 refine st ?_
 obtain ⟨x12,h13,hF⟩:=q00 hF
 refine sr ?_
 refine RS.q (u:=.iptr (cGNode x12)) rfl (q2r rfl rfl (q3j cGNode und23 (q02 inf43) q2i h13 rfl)) (RS.q (u:=.agg (cGNode x12)) rfl (q80 und43 rfl (q02 inf43) rfl rfl) (RS.q (u:=.ptr 2 0 0) (σ':=⟨[(2,.row [.int .i64 0,.nils] 43),(1,.row [.nils] 25),(0,.row [.isl false (List.map cGNode p1.Nodes)] 25)],3⟩) rfl (q1d inf43 rfl rfl) (RS.opn (u:=.junk) (σ':=⟨[(2,.row (cGNode x12) 43),(1,.row [.nils] 25),(0,.row [.isl false (List.map cGNode p1.Nodes)] 25)],3⟩) rfl (q14 (q02 inf43) rfl rfl rfl rfl rfl rfl rfl rfl) rfl ?_)))
 refine sd ?_
 obtain ⟨r14,h15,hF⟩:=q00 hF
 refine sr ?_
 refine RS.q (u:=.agg (cGNode x12)) rfl (q0m und43 rfl (q02 inf43) rfl rfl rfl) (RS.q (u:=.ptr 0 0 0) rfl (q0v und25 rfl (q02 inf23) rfl rfl rfl) (RS.q (u:=.isl false (List.map cGNode p1.Nodes)) rfl (q04 und23 rfl rfl rfl rfl) (RS.q rfl (q0n rfl rfl rfl (q0h cGNode und23)) (RS.call (u:=.int .i64 r14) (args:=[.agg (cGNode x12),.int .i64 (p1.Nodes.length:Int)]) rfl (q01 rfl rfl fn30 hb30 rfl rfl) (q7w n x12 (p1.Nodes.length:Int) r14 h15 _) rfl rfl ?_))))
 refine se ?_
 refine RS.q rfl (q03 rfl rfl (q5l _ _ _) rfl) ?_
 refine sd ?_
 refine WPU.condS (t:=(r14 != 0)) rfl (fun h16=>?_) (fun h16=>?_)
 replace hF:=q0k h16 hF
 refine sr ?_
 refine RS.q (u:=.agg [.nils]) rfl (q6t bd25 rfl rfl rfl) (RS.mv rfl rfl rfl rfl (RS.opn (u:=.junk) (σ':=⟨[(2,.row (cGNode x12) 43),(1,.row [.nils] 25),(0,.row [.isl false (List.map cGNode p1.Nodes)] 25)],3⟩) rfl (q14 (q02 inf25) rfl rfl rfl rfl rfl rfl rfl rfl) rfl ?_))
 refine sd ?_
 refine WPU.ret ?_
 refine st ?_
 have hr:=Option.some.inj hF
 subst hr
 exact ⟨.inr rfl,[.agg [.nils],.int .i64 r14],res_c (q0m und25 rfl (q02 inf25) rfl rfl rfl) (q2b rfl (q1v)),.tup [.agg [.isl false []],.int .i64 r14],⟨[],0⟩,Nat.le_refl _,Gh.trans (Gh.wk (.cons (.tup (.cons (.agg (.cons (.nil false) .nil)) (.cons (.refl _) .nil))) .nil)) (Gh.toR (.tup [.agg [.isl false []],.int .i64 r14]) rfl),rfl,BU.h⟩
 replace hF:=q0j h16 hF
 refine st ?_
 refine WPU.skip ?_
 refine sr ?_
 refine RS.q rfl (q03 rfl rfl (q42 _ _ _) rfl) (RS.mv rfl rfl rfl rfl ?_)
 refine sd ?_
 exact ⟨m1,_,_,Nat.lt_succ_self _,⟨(IntKind.i64.wrap (z8+1)),hF,rfl,rfl⟩,(Nat.zero_le _),Gh.toC (n1:=2) ⟨rfl,rfl,rfl,rfl,rfl,trivial⟩ rfl (Nat.zero_le _) (by simp)⟩
 replace hF:=q0j h11 hF
 refine st ?_
 refine WPU.exit ?_
 refine st ?_
 exact ⟨_,_,⟨hF,rfl,rfl⟩,(Nat.zero_le _),Gh.toC (n1:=2) ⟨rfl,rfl,trivial⟩ rfl (Nat.zero_le _) (by simp)⟩
theorem q4t (n:Nat) (p1:GFS) (r:GFS×Int) (hF:q37 n p1=some r) (σ:Sg):EvU Try.prog 13 [.agg [.isl false (List.map cGNode p1.Nodes)]] σ (fun u σ'=>u = .tup [.agg [.isl false (List.map cGNode r.1.Nodes)],.int .i64 r.2]∧σ'=σ) :=
 EvU.pure1C (graph_Canon_0 n p1 r hF) σ
def q2z (n:Nat) (p1:GFS) (p2:GFS):Option (Bool) :=
 bindO (q3y n p1 p2) fun r3 =>
 some (r3 == 0)
theorem ref07_Equal_0 (n:Nat) (p1:GFS) (p2:GFS) (r:Bool) (hF:q2z n p1 p2=some r):EvU Try.prog 14 [.agg [.isl false (List.map cGNode p1.Nodes)],.agg [.isl false (List.map cGNode p2.Nodes)]] ⟨[],0⟩ (fun u _=>u = .bool r∧Bel 0 u):=by
 unfold q2z at hF
 refine EvU.of_body Try.tb_ok fn14 rfl ?_
 refine WPU.ghost (tm':=fr 9 [(0,.agg [.isl false (List.map cGNode p1.Nodes)]),(1,.agg [.isl false (List.map cGNode p2.Nodes)])]) (Gh.start (Nat.le_of_ble_eq_true rfl)) (Nat.zero_le _) ?_
 refine sr ?_
 refine RS.q (u:=.ptr 0 0 0) (σ':=⟨[(0,.row [.isl false (List.map cGNode p1.Nodes)] 25)],1⟩) rfl (q3m rfl rfl rfl) (RS.q (u:=.ptr 1 0 0) (σ':=⟨[(1,.row [.isl false (List.map cGNode p2.Nodes)] 25),(0,.row [.isl false (List.map cGNode p1.Nodes)] 25)],2⟩) rfl (q3m rfl rfl rfl) ?_)
 refine sd ?_
 obtain ⟨r3,h4,hF⟩:=q00 hF
 refine sr ?_
 refine RS.q (u:=.agg [.isl false (List.map cGNode p1.Nodes)]) rfl (q0m und25 rfl (q02 inf25) rfl rfl rfl) (RS.q (u:=.agg [.isl false (List.map cGNode p2.Nodes)]) rfl (q0m und25 rfl (q02 inf25) rfl rfl rfl) (RS.call (u:=.int .i64 r3) (args:=[.agg [.isl false (List.map cGNode p1.Nodes)],.agg [.isl false (List.map cGNode p2.Nodes)]]) rfl (q01 rfl rfl fn25 hb25 rfl rfl) (q99 n p1 p2 r3 h4 _) rfl rfl (RS.q rfl (q03 rfl rfl (q4a _ _ _) rfl) ?_)))
 refine sd ?_
 refine WPU.ret ?_
 refine st ?_
 have hr:=Option.some.inj hF
 subst hr
 exact ⟨.inr rfl,[.bool (r3 == 0)],q2b rfl (q1v),.bool (r3 == 0),⟨[],0⟩,Nat.le_refl _,Gh.toR (.bool (r3 == 0)) rfl,rfl,BU.h⟩
theorem q0x (n:Nat) (p1:GFS) (p2:GFS) (r:Bool) (hF:q2z n p1 p2=some r) (σ:Sg):EvU Try.prog 14 [.agg [.isl false (List.map cGNode p1.Nodes)],.agg [.isl false (List.map cGNode p2.Nodes)]] σ (fun u σ'=>u = .bool r∧σ'=σ) :=
 EvU.pure1C (ref07_Equal_0 n p1 p2 r hF) σ
def q4w   : Option (Bool) :=
 some true
def q3f (p1:GFS):Nat→Int→Option (Bool)
 | 0,_=>none
 | m1+1,z5 =>
  cond (decide (z5<(p1.Nodes.length:Int)))
   (bindO (idxO p1.Nodes z5) fun x7 =>
   cond (decide ((x7.Arcs.length:Int) > 12))
    (some false)
    ((q3f p1 m1) (IntKind.i64.wrap (z5+1))))
   (q4w)
def q4p (n:Nat) (p1:GFS):Option (Bool) :=
 cond (decide ((p1.Nodes.length:Int) > 12))
  (some false)
  (q3f p1 n 0)
theorem ref07_Light_0 (n:Nat) (p1:GFS) (r:Bool) (hF:q4p n p1=some r):EvU Try.prog 17 [.agg [.isl false (List.map cGNode p1.Nodes)]] ⟨[],0⟩ (fun u _=>u = .bool r∧Bel 0 u):=by
 unfold q4p at hF
 refine EvU.of_body Try.tb_ok fn17 rfl ?_
 refine WPU.ghost (tm':=fr 23 [(0,.agg [.isl false (List.map cGNode p1.Nodes)])]) (Gh.start (Nat.le_of_ble_eq_true rfl)) (Nat.zero_le _) ?_
 refine sr ?_
 refine RS.q (u:=.ptr 0 0 0) (σ':=⟨[(0,.row [.isl false (List.map cGNode p1.Nodes)] 25)],1⟩) rfl (q3m rfl rfl rfl) ?_
 refine se ?_
 refine RS.q (u:=.ptr 0 0 0) rfl (q0v und25 rfl (q02 inf23) rfl rfl rfl) (RS.q (u:=.isl false (List.map cGNode p1.Nodes)) rfl (q04 und23 rfl rfl rfl rfl) (RS.q rfl (q0n rfl rfl rfl (q0h cGNode und23)) (RS.q rfl (q03 rfl rfl (q3q _ _ _) rfl) ?_)))
 refine sd ?_
 refine WPU.condS (t:=(decide ((p1.Nodes.length:Int) > 12))) rfl (fun h2=>?_) (fun h2=>?_)
 replace hF:=q0k h2 hF
 refine sr ?_
 refine sd ?_
 refine WPU.ret ?_
 refine st ?_
 have hr:=Option.some.inj hF
 subst hr
 exact ⟨.inr rfl,[.bool false],q2b rfl (q1v),.bool false,⟨[],0⟩,Nat.le_refl _,Gh.toR (.bool false) rfl,rfl,BU.h⟩
 replace hF:=q0j h2 hF
 refine st ?_
 refine WPU.skip ?_
 refine sr ?_
 refine sd ?_
 refine WPU.ghost (tm':=fr 23 [(1,.ptr 0 0 0),(3,.int .i64 0)]) (Gh.sub ⟨rfl,rfl,trivial⟩) (Nat.zero_le _) ?_
 refine WPU.loopK (fun m tm σ=>∃ z5:Int,q3f p1 m z5=some r∧tm=fr 23 [(1,.ptr 0 0 0),(3,.int .i64 z5)]∧σ=⟨[(0,.row [.isl false (List.map cGNode p1.Nodes)] 25)],1⟩) (fun tm σ=>q4w=some r∧tm=fr 23 []∧σ=⟨[(0,.row [.isl false (List.map cGNode p1.Nodes)] 25)],1⟩) n ⟨0,hF,rfl,rfl⟩ ?_ ?_
 rintro _ _ ⟨hF,rfl,rfl⟩
 unfold q4w at hF
 refine sr ?_
 refine sd ?_
 refine WPU.ret ?_
 refine st ?_
 have hr:=Option.some.inj hF
 subst hr
 exact ⟨.inr rfl,[.bool true],q2b rfl (q1v),.bool true,⟨[],0⟩,Nat.le_refl _,Gh.toR (.bool true) rfl,rfl,BU.h⟩
 rintro m1 _ _ ⟨z5,hF,rfl,rfl⟩
 rcases m1 with _ | m1
 cases hF
 unfold q3f at hF
 refine sr ?_
 refine RS.q (u:=.ptr 0 0 0) rfl (q0v und25 rfl (q02 inf23) rfl rfl rfl) (RS.q (u:=.isl false (List.map cGNode p1.Nodes)) rfl (q04 und23 rfl rfl rfl rfl) (RS.q rfl (q0n rfl rfl rfl (q0h cGNode und23)) (RS.q rfl (q03 rfl rfl (q2d _ _ _) rfl) ?_)))
 refine sd ?_
 refine WPU.condS (t:=(decide (z5<(p1.Nodes.length:Int)))) rfl (fun h6=>?_) (fun h6=>?_)
 replace hF:=q0k h6 hF
 refine st ?_
 refine WPU.skip ?_
 refine st ?_
 refine WPU.block ?_
 refine st ?_
 obtain ⟨x7,h8,hF⟩:=q00 hF
 refine sr ?_
 refine RS.q (u:=.ptr 0 0 0) rfl (q0v und25 rfl (q02 inf23) rfl rfl rfl) (RS.q (u:=.isl false (List.map cGNode p1.Nodes)) rfl (q04 und23 rfl rfl rfl rfl) (RS.mv rfl rfl rfl rfl (RS.q (u:=.iptr (cGNode x7)) rfl (q2r rfl rfl (q3j cGNode und23 (q02 inf43) q2i h8 rfl)) (RS.q (u:=.iptr [.isl false (List.map cGArc x7.Arcs)]) rfl (q98 und43 rfl (q02 inf41) rfl rfl) (RS.q (u:=.isl false (List.map cGArc x7.Arcs)) rfl (q5b und41 rfl rfl rfl) (RS.q rfl (q0n rfl rfl rfl (q0h cGArc und41)) (RS.q rfl (q03 rfl rfl (q3q _ _ _) rfl) ?_)))))))
 refine sd ?_
 refine WPU.condS (t:=(decide ((x7.Arcs.length:Int) > 12))) rfl (fun h9=>?_) (fun h9=>?_)
 replace hF:=q0k h9 hF
 refine sr ?_
 refine sd ?_
 refine WPU.ret ?_
 refine st ?_
 have hr:=Option.some.inj hF
 subst hr
 exact ⟨.inr rfl,[.bool false],q2b rfl (q1v),.bool false,⟨[],0⟩,Nat.le_refl _,Gh.toR (.bool false) rfl,rfl,BU.h⟩
 replace hF:=q0j h9 hF
 refine st ?_
 refine WPU.skip ?_
 refine sr ?_
 refine RS.q rfl (q03 rfl rfl (q42 _ _ _) rfl) ?_
 refine sd ?_
 exact ⟨m1,_,_,Nat.lt_succ_self _,⟨(IntKind.i64.wrap (z5+1)),hF,rfl,rfl⟩,(Nat.zero_le _),Gh.toC (n1:=1) ⟨rfl,rfl,trivial⟩ rfl (Nat.zero_le _) (by simp)⟩
 replace hF:=q0j h6 hF
 refine st ?_
 refine WPU.exit ?_
 refine st ?_
 exact ⟨_,_,⟨hF,rfl,rfl⟩,(Nat.zero_le _),Gh.toC (n1:=1) trivial rfl (Nat.zero_le _) (by simp)⟩
theorem ref07_Light_ok (n:Nat) (p1:GFS) (r:Bool) (hF:q4p n p1=some r) (σ:Sg):EvU Try.prog 17 [.agg [.isl false (List.map cGNode p1.Nodes)]] σ (fun u σ'=>u = .bool r∧σ'=σ) :=
 EvU.pure1C (ref07_Light_0 n p1 r hF) σ
def q5k (n:Nat) (p1:GFS) (p2:Int):Option (GFS) :=
 bindO (q2o n p1 p2) fun r3 =>
 some r3
theorem graph_Sub_0 (n:Nat) (p1:GFS) (p2:Int) (r:GFS) (hF:q5k n p1 p2=some r):EvU Try.prog 20 [.agg [.isl false (List.map cGNode p1.Nodes)],.int .i64 p2] ⟨[],0⟩ (fun u _=>u = .agg [.isl false (List.map cGNode r.Nodes)]∧Bel 0 u):=by
 unfold q5k at hF
 refine EvU.of_body Try.tb_ok fn20 rfl ?_
 refine WPU.ghost (tm':=fr 8 [(0,.agg [.isl false (List.map cGNode p1.Nodes)]),(1,.int .i64 p2)]) (Gh.start (Nat.le_of_ble_eq_true rfl)) (Nat.zero_le _) ?_
 refine sr ?_
 refine RS.q (u:=.ptr 0 0 0) (σ':=⟨[(0,.row [.isl false (List.map cGNode p1.Nodes)] 25)],1⟩) rfl (q3m rfl rfl rfl) (RS.q (u:=.ptr 1 0 0) (σ':=⟨[(1,.row [.nils] 25),(0,.row [.isl false (List.map cGNode p1.Nodes)] 25)],2⟩) rfl (q1d inf25 rfl rfl) ?_)
 refine sd ?_
 obtain ⟨r3,h4,hF⟩:=q00 hF
 refine sr ?_
 refine RS.q (u:=.agg [.isl false (List.map cGNode p1.Nodes)]) rfl (q0m und25 rfl (q02 inf25) rfl rfl rfl) (RS.mv rfl rfl rfl rfl (RS.call (u:=.agg [.isl false (List.map cGNode r3.Nodes)]) (args:=[.agg [.isl false (List.map cGNode p1.Nodes)],.int .i64 p2]) rfl (q01 rfl rfl fn31 hb31 rfl rfl) (q5s n p1 p2 r3 h4 _) rfl rfl (RS.opn (u:=.junk) (σ':=⟨[(1,.row [.isl false (List.map cGNode r3.Nodes)] 25),(0,.row [.isl false (List.map cGNode p1.Nodes)] 25)],2⟩) rfl (q14 (q02 inf25) rfl rfl rfl rfl rfl rfl rfl rfl) rfl ?_)))
 refine sd ?_
 refine WPU.ret ?_
 refine st ?_
 have hr:=Option.some.inj hF
 subst hr
 exact ⟨.inr rfl,[.agg [.isl false (List.map cGNode r3.Nodes)]],res_c (q0m und25 rfl (q02 inf25) rfl rfl rfl) (q1v),.agg [.isl false (List.map cGNode r3.Nodes)],⟨[],0⟩,Nat.le_refl _,Gh.toR (.agg [.isl false (List.map cGNode r3.Nodes)]) rfl,rfl,BU.h⟩
theorem q3p (n:Nat) (p1:GFS) (p2:Int) (r:GFS) (hF:q5k n p1 p2=some r) (σ:Sg):EvU Try.prog 20 [.agg [.isl false (List.map cGNode p1.Nodes)],.int .i64 p2] σ (fun u σ'=>u = .agg [.isl false (List.map cGNode r.Nodes)]∧σ'=σ) :=
 EvU.pure1C (graph_Sub_0 n p1 p2 r hF) σ
def q68 (p1:Int) (l12:List GArc):Option (GNode) :=
 some (GNode.mk p1 l12)
def q5f (p1:Int) (p2:List Int):Nat→Int→(List GArc)→Option (GNode)
 | 0,_,_=>none
 | m1+1,z9,l10 =>
  cond (decide ((IntKind.i64.wrap (z9+1))<(p2.length:Int)))
   (bindO (idxO p2 z9) fun x15 =>
   bindO (idxO p2 (IntKind.i64.wrap (z9+1))) fun x17 =>
   needO ((l10.length+1)*16≤140737488355328∧l10.length+1≤140737488355328) (
   (q5f p1 p2 m1) (IntKind.i64.wrap (z9+2)) (l10++[(GArc.mk x15 x17)])))
   (q68 p1 l10)
def q1p (n:Nat) (p1:Int) (p2:List Int):Option (GNode) :=
 q5f p1 p2 n 0 ([]:List GArc)
theorem law07_node_0 (n:Nat) (p1:Int) (p2:List Int) (r:GNode) (hF:q1p n p1 p2=some r):EvU Try.prog 29 [.int .i64 p1,.isl false (List.map (cI .i64) p2)] ⟨[],0⟩ (fun u _=>u = .agg (cGNode r)∧Bel 0 u):=by
 unfold q1p at hF
 refine EvU.of_body Try.tb_ok fn29 rfl ?_
 refine WPU.ghost (tm':=fr 32 [(0,.int .i64 p1),(1,.isl false (List.map (cI .i64) p2))]) (Gh.start (Nat.le_of_ble_eq_true rfl)) (Nat.zero_le _) ?_
 refine sr ?_
 refine RS.q (u:=.ptr 0 0 0) (σ':=⟨[(0,.row [.int .i64 0,.nils] 43)],1⟩) rfl (q1d inf43 rfl rfl) ?_
 refine se ?_
 refine RS.q (u:=.agg [.int .i64 p1,.nils]) rfl (q6t bd43 rfl rfl rfl) (RS.q (u:=.ptr 1 0 0) (σ':=⟨[(1,.row [.int .i64 0,.nils] 43),(0,.row [.int .i64 0,.nils] 43)],2⟩) rfl (q1d inf43 rfl rfl) (RS.opn (u:=.junk) (σ':=⟨[(1,.row [.int .i64 p1,.nils] 43),(0,.row [.int .i64 0,.nils] 43)],2⟩) rfl (q14 (q02 inf43) rfl rfl rfl rfl rfl rfl rfl rfl) rfl ?_))
 refine se ?_
 refine sd ?_
 refine WPU.ghost (tm':=fr 32 [(1,.isl false (List.map (cI .i64) p2)),(4,.ptr 0 0 0),(5,.ptr 1 0 0),(6,.int .i64 0)]) (σ':=⟨[(2,.vec (List.map cGArc ([]:List GArc)).flatten 45 2 0),(1,.row [.int .i64 p1,.vl 2 0 0 (([]:List GArc).length)] 43),(0,.row [.int .i64 0,.nils] 43)],3⟩) (Gh.trans (Gh.nilC 1 1 45 2 (by decide) (Nat.zero_le _) rfl rfl) (Gh.eqS ⟨rfl,rfl,rfl,rfl,trivial⟩ rfl)) (Nat.zero_le _) ?_
 refine WPU.ghost (tm':=fr 32 [(1,.isl false (List.map (cI .i64) p2)),(4,.ptr 0 0 0),(5,.ptr 1 0 0),(6,.int .i64 0)]) (Gh.sub ⟨rfl,rfl,rfl,rfl,trivial⟩) (Nat.zero_le _) ?_
 refine WPU.loopK (fun m tm σ=>∃ z9:Int,∃ l10:List GArc,∃ t11:Nat,q5f p1 p2 m z9 l10=some r∧tm=fr 32 [(1,.isl false (List.map (cI .i64) p2)),(4,.ptr 0 0 0),(5,.ptr 1 0 0),(6,.int .i64 z9)]∧σ=⟨[(2,.vec (List.map cGArc l10).flatten 45 2 t11),(1,.row [.int .i64 p1,.vl 2 t11 0 l10.length] 43),(0,.row [.int .i64 0,.nils] 43)],3⟩) (fun tm σ=>∃ l12:List GArc,∃ t13:Nat,q68 p1 l12=some r∧tm=fr 32 [(4,.ptr 0 0 0),(5,.ptr 1 0 0)]∧σ=⟨[(2,.vec (List.map cGArc l12).flatten 45 2 t13),(1,.row [.int .i64 p1,.vl 2 t13 0 l12.length] 43),(0,.row [.int .i64 0,.nils] 43)],3⟩) n ⟨0,([]:List GArc),0,hF,rfl,rfl⟩ ?_ ?_
 rintro _ _ ⟨l12,t13,hF,rfl,rfl⟩
 unfold q68 at hF
 refine sr ?_
 refine RS.q (u:=.agg [.int .i64 p1,.vl 2 t13 0 l12.length]) rfl (q0m und43 rfl (q02 inf43) rfl rfl rfl) (RS.opn (u:=.junk) (σ':=⟨[(2,.vec (List.map cGArc l12).flatten 45 2 t13),(1,.row [.int .i64 p1,.vl 2 t13 0 l12.length] 43),(0,.row [.int .i64 p1,.vl 2 t13 0 l12.length] 43)],3⟩) rfl (q14 (q02 inf43) rfl rfl rfl rfl rfl rfl rfl rfl) rfl ?_)
 refine sd ?_
 refine WPU.ret ?_
 refine st ?_
 have hr:=Option.some.inj hF
 subst hr
 exact ⟨.inr rfl,[.agg [.int .i64 p1,.vl 2 t13 0 l12.length]],res_c (q0m und43 rfl (q02 inf43) rfl rfl rfl) (q1v),.agg [.int .i64 p1,.isl false (List.map cGArc l12)],⟨[],0⟩,Nat.le_refl _,Gh.trans (Gh.fz (tm':=[.agg [.int .i64 p1,.isl false (List.map cGArc l12)]]) (h':=[(1,.row [.int .i64 p1,.isl false (List.map cGArc l12)] 43),(0,.row [.int .i64 p1,.isl false (List.map cGArc l12)] 43)]) 2 (.vec (List.map cGArc l12).flatten 45 2 t13) 2 rfl (by simp) (by simp only [oneU,q09,q05,q0q,q0c,q0t,q0g,q0f,q0e,q0d,q0a,q0r,q0s,q0p,q0u,q1k,junkT,fz_vl q1r]) (by simp only [fzH,fzB,ug,Nat.beq,cond_true,cond_false,oneU,q09,q05,q0q,q0c,q0t,q0g,q0f,q0e,q0d,q0a,q0r,q0s,q0p,q0u,q1k,junkT,fz_vl q1r])) (Gh.toR (.agg [.int .i64 p1,.isl false (List.map cGArc l12)]) rfl),rfl,BU.h⟩
 rintro m1 _ _ ⟨z9,l10,t11,hF,rfl,rfl⟩
 rcases m1 with _ | m1
 cases hF
 unfold q5f at hF
 refine sr ?_
 refine RS.q rfl (q03 rfl rfl (q42 _ _ _) rfl) (RS.mv rfl rfl rfl rfl (RS.q rfl (q0n rfl rfl rfl (q0h (cI .i64) und55)) (RS.q rfl (q03 rfl rfl (q2d _ _ _) rfl) ?_)))
 refine sd ?_
 refine WPU.condS (t:=(decide ((IntKind.i64.wrap (z9+1))<(p2.length:Int)))) rfl (fun h14=>?_) (fun h14=>?_)
 replace hF:=q0k h14 hF
 refine st ?_
 refine WPU.skip ?_
 refine st ?_
 refine WPU.block ?_
 refine st ?_
 obtain ⟨x15,h16,hF⟩:=q00 hF
 obtain ⟨x17,h18,hF⟩:=q00 hF
 obtain ⟨h19,hF⟩:=q3e hF
 refine WPU.drawE Try.tb_ok [(0,12),(1,12)] (by kernel_rfl) ?_
 refine RD.q (u:=.ptr 1 0 1) rfl (q0v und43 rfl (q02 inf41) rfl rfl rfl) (RD.q (u:=.vl 2 t11 0 l10.length) rfl (q04 und41 rfl rfl rfl rfl) ?_)
 repeat refine RD.mv rfl rfl rfl rfl ?_
 refine RD.q (u:=.iptr [.int .i64 x15]) rfl (q2r rfl rfl (q3j (cI .i64) und55 (q02 inf3) (q6o .i64) h16 rfl)) (RD.q (u:=.int .i64 x15) rfl (q5b und3 rfl rfl rfl) ?_)
 repeat refine RD.mv rfl rfl rfl rfl ?_
 refine RD.q rfl (q03 rfl rfl (q42 _ _ _) rfl) (RD.q (u:=.iptr [.int .i64 x17]) rfl (q2r rfl rfl (q3j (cI .i64) und55 (q02 inf3) (q6o .i64) h18 rfl)) (RD.q (u:=.int .i64 x17) rfl (q5b und3 rfl rfl rfl) (RD.q (u:=.agg [.int .i64 x15,.int .i64 x17]) rfl (q6t bd45 rfl rfl rfl) (RD.act (u:=.sl 3 0 1 1) (σ':=⟨[(3,.row [.int .i64 x15,.int .i64 x17] 45),(2,.vec (List.map cGArc l10).flatten 45 2 t11),(1,.row [.int .i64 p1,.vl 2 t11 0 l10.length] 43),(0,.row [.int .i64 0,.nils] 43)],4⟩) rfl (q2a und41 inf45 rfl rfl rfl rfl rfl rfl rfl) rfl rfl (RD.act (u:=.vl 2 (t11+1) 0 ((l10++[(GArc.mk x15 x17)]).length)) (σ':=⟨[(3,.row [.int .i64 x15,.int .i64 x17] 45),(2,.vec (List.map cGArc (l10++[(GArc.mk x15 x17)])).flatten 45 2 (t11+1)),(1,.row [.int .i64 p1,.vl 2 t11 0 l10.length] 43),(0,.row [.int .i64 0,.nils] 43)],4⟩) rfl (op_app rfl rfl rfl rfl (app_vl cGArc ([(GArc.mk x15 x17)]) und41 und41 inf45 rfl q1r rfl (qaq cGArc [(GArc.mk x15 x17)] rfl rfl rfl rfl) h19)) rfl rfl (RD.q (u:=.ptr 1 0 1) rfl (q0v und43 rfl (q02 inf41) rfl rfl rfl) (RD.actn (u:=.junk) (σ':=⟨[(3,.row [.int .i64 x15,.int .i64 x17] 45),(2,.vec (List.map cGArc (l10++[(GArc.mk x15 x17)])).flatten 45 2 (t11+1)),(1,.row [.int .i64 p1,.vl 2 (t11+1) 0 ((l10++[(GArc.mk x15 x17)]).length)] 43),(0,.row [.int .i64 0,.nils] 43)],4⟩) rfl (q14 (q02 inf41) rfl rfl rfl rfl rfl rfl rfl rfl) rfl ?_)))))))
 refine RD.done ⟨by kernel_rfl,⟨q0v und43 rfl (q02 inf41) rfl rfl rfl,⟨q04 und41 rfl rfl rfl rfl,trivial⟩⟩,?_⟩
 refine sr ?_
 refine RS.q rfl (q03 rfl rfl (q42 _ _ _) rfl) ?_
 refine sd ?_
 exact ⟨m1,_,_,Nat.lt_succ_self _,⟨(IntKind.i64.wrap (z9+2)),(l10++[(GArc.mk x15 x17)]),(t11+1),hF,rfl,rfl⟩,(Nat.zero_le _),Gh.toC (n1:=3) ⟨rfl,rfl,rfl,rfl,trivial⟩ rfl (Nat.zero_le _) (by simp)⟩
 replace hF:=q0j h14 hF
 refine st ?_
 refine WPU.exit ?_
 refine st ?_
 exact ⟨_,_,⟨l10,t11,hF,rfl,rfl⟩,(Nat.zero_le _),Gh.toC (n1:=3) ⟨rfl,rfl,trivial⟩ rfl (Nat.zero_le _) (by simp)⟩
theorem q06 (n:Nat) (p1:Int) (p2:List Int) (r:GNode) (hF:q1p n p1 p2=some r) (σ:Sg):EvU Try.prog 29 [.int .i64 p1,.isl false (List.map (cI .i64) p2)] σ (fun u σ'=>u = .agg (cGNode r)∧σ'=σ) :=
 EvU.pure1C (law07_node_0 n p1 p2 r hF) σ
def q4u (n:Nat) (p1:List GNode):Option (GFS) :=
 some (GFS.mk p1)
theorem law07_of_0 (n:Nat) (p1:List GNode) (r:GFS) (hF:q4u n p1=some r):EvU Try.prog 32 [.isl false (List.map cGNode p1)] ⟨[],0⟩ (fun u _=>u = .agg [.isl false (List.map cGNode r.Nodes)]∧Bel 0 u):=by
 unfold q4u at hF
 refine EvU.of_body Try.tb_ok fn32 rfl ?_
 refine WPU.ghost (tm':=fr 5 [(0,.isl false (List.map cGNode p1))]) (Gh.start (Nat.le_of_ble_eq_true rfl)) (Nat.zero_le _) ?_
 refine sr ?_
 refine RS.q (u:=.ptr 0 0 0) (σ':=⟨[(0,.row [.nils] 25)],1⟩) rfl (q1d inf25 rfl rfl) ?_
 refine se ?_
 refine RS.q (u:=.agg [.isl false (List.map cGNode p1)]) rfl (q6t bd25 rfl rfl rfl) (RS.opn (u:=.junk) (σ':=⟨[(0,.row [.isl false (List.map cGNode p1)] 25)],1⟩) rfl (q14 (q02 inf25) rfl rfl rfl rfl rfl rfl rfl rfl) rfl ?_)
 refine sd ?_
 refine WPU.ret ?_
 refine st ?_
 have hr:=Option.some.inj hF
 subst hr
 exact ⟨.inr rfl,[.agg [.isl false (List.map cGNode p1)]],res_c (q0m und25 rfl (q02 inf25) rfl rfl rfl) (q1v),.agg [.isl false (List.map cGNode p1)],⟨[],0⟩,Nat.le_refl _,Gh.toR (.agg [.isl false (List.map cGNode p1)]) rfl,rfl,BU.h⟩
theorem q1b (n:Nat) (p1:List GNode) (r:GFS) (hF:q4u n p1=some r) (σ:Sg):EvU Try.prog 32 [.isl false (List.map cGNode p1)] σ (fun u σ'=>u = .agg [.isl false (List.map cGNode r.Nodes)]∧σ'=σ) :=
 EvU.pure1C (law07_of_0 n p1 r hF) σ
def q1s (n:Nat)  : Option (Bool) :=
 bindO (q1p n 1 ([0,2,1,1])) fun r1 =>
 bindO (q1p n 2 []) fun r3 =>
 bindO (q1p n 3 ([0,1])) fun r5 =>
 bindO (q4u n ([r1,r3,r5])) fun r7 =>
 bindO (q37 n r7) fun r9 =>
 bindO (q1p n 4 ([7,2,3,1])) fun r11 =>
 bindO (q1p n 5 []) fun r13 =>
 bindO (q1p n 6 ([2,0])) fun r15 =>
 bindO (q4u n ([r11,r13,r15])) fun r17 =>
 bindO (q37 n r17) fun r19 =>
 bindO (cond (r9.2 != 0)
  (some true)
  (cond (r19.2 != 0)
   (some true)
   (bindO (q1p n 1 ([0,1,1,2])) fun r23 =>
   bindO (q1p n 3 ([0,2])) fun r25 =>
   bindO (q1p n 2 []) fun r27 =>
   bindO (q4u n ([r23,r25,r27])) fun r29 =>
   bindO (q2z n (GFS.mk r9.1.Nodes) r29) fun r31 =>
   cond (!r31)
    (some true)
    (bindO (q1p n 4 ([3,1,7,2])) fun r34 =>
    bindO (q1p n 5 []) fun r36 =>
    bindO (q1p n 6 ([2,0])) fun r38 =>
    bindO (q4u n ([r34,r36,r38])) fun r40 =>
    bindO (q2z n (GFS.mk r19.1.Nodes) r40) fun r42 =>
    some (!r42))))) fun b44 =>
 cond b44
  (some false)
  (bindO (q37 n (GFS.mk [])) fun r47 =>
  bindO (cond (r47.2 == 1)
   (bindO (q5k n (GFS.mk r9.1.Nodes) 1) fun r50 =>
   bindO (q1p n 3 ([0,1])) fun r52 =>
   bindO (q1p n 2 []) fun r54 =>
   bindO (q4u n ([r52,r54])) fun r56 =>
   bindO (q2z n r50 r56) fun r58 =>
   cond r58
    (bindO (q1p n 1 ([5,0])) fun r61 =>
    bindO (q4u n ([r61])) fun r63 =>
    bindO (q2e n r63) fun r65 =>
    cond r65
     (bindO (q2e n (GFS.mk r9.1.Nodes)) fun r68 =>
     cond (!r68)
      (bindO (q5z n 4) fun r71 =>
      bindO (q1p n 4 []) fun r73 =>
      bindO (q4u n ([r73])) fun r75 =>
      bindO (q2z n r71 r75) fun r77 =>
      cond r77
       (bindO (q66 n (GFS.mk r9.1.Nodes) (GFS.mk r9.1.Nodes)) fun r80 =>
       cond r80
        (bindO (q5z n 9) fun r83 =>
        bindO (q4f n r83 (GFS.mk r9.1.Nodes)) fun r85 =>
        some (r85 == (-1)))
        (some false))
       (some false))
      (some false))
     (some false))
    (some false))
   (some false)) fun b87 =>
  some b87)
end Go.Proofs
end
