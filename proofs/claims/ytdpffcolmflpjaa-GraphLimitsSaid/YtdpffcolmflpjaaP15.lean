/-
  Texts of the walk: H4.
-/
import Derived.Test.YtdpffcolmflpjaaP14
section
namespace Go.Proofs
open Go Go.Rx Go.Vx Try
set_option maxRecDepth 10000
set_option linter.unusedSimpArgs false
set_option linter.unusedVariables false
structure GNode where
 Typex:Int
 Arcs:List GArc
def cGNode (x:GNode):List U:=[.int .i64 x.Typex,.isl false (List.map cGArc x.Arcs)]
theorem q32 (n:Nat) (x:GNode):BelL n (cGNode x):=by
 simp only [cGNode,BelL,Bel,true_and,and_true]
 exact belR_map _ (fun q=>q6w _ q) _
theorem q0s (x:GNode):(cGNode x).length=2:=rfl
instance:BF cGNode:=⟨q32⟩
instance (n:Nat) (x:GNode):BUL n (cGNode x):=⟨q32 n x⟩
theorem q2e (K:Nat) (b:B) (sz:Nat) (x:GNode):fzL K b sz (cGNode x)=cGNode x:=q2g _ _ _ (q32 K x)
structure GFS where
 Nodes:List GNode
theorem Try.bd25:BdT Try.tb 25 [.nils] [(0,1)]:=bdT und25 inf25 rfl (by kernel_rfl)
theorem Try.bd43:BdT Try.tb 43 [.int .i64 0,.nils] [(0,1),(1,1)]:=bdT und43 inf43 rfl (by kernel_rfl)
theorem Try.bd45:BdT Try.tb 45 [.int .i64 0,.int .i64 0] [(0,1),(1,1)]:=bdT und45 inf45 rfl (by kernel_rfl)
def q2c (z7:Int) (l8:List GArc) (rc2:Int→(List GArc)→Option ((List GArc))) (x13:GArc)  : Option ((List GArc)) :=
 rc2 (IntKind.i64.wrap (z7+1)) (l8++[x13])
def q2b  (l10:List GArc):Option ((List GArc)) :=
 some l10
def q11 (p1:List GArc):Nat→Int→(List GArc)→Option ((List GArc))
 | 0,_,_=>none
 | m2+1,z7,l8 =>
  cond (decide (z7<(p1.length:Int)))
   (bindO (idxO p1 z7) fun x13 =>
   needO ((l8.length+1)*16≤140737488355328∧l8.length+1≤140737488355328) (
   q2c z7 l8 (q11 p1 m2) x13))
   (q2b l8)
def q2z (n:Nat) (p1:List GArc):Option ((List GArc)) :=
 q11 p1 n 0 ([]:List GArc)
theorem q65 (n:Nat) (p1:List GArc) (r:(List GArc)) (hF:q2z n p1=some r):EvU Try.prog 56 [.nils,.fn (.func 55) [] [.iptr [.isl false (List.map cGArc p1)]]] ⟨[],0⟩ (fun u σ'=>∃ t:Nat→Nat,u = .vl 1 (t 0) 0 r.length∧σ'=⟨[(1,.vec (List.map cGArc r).flatten 45 2 (t 0))],2⟩):=by
 unfold q2z at hF
 refine EvU.of_bodyM Try.tb_ok fn56 rfl ?_
 refine WPU.ghost (tm':=fr 13 [(0,.nils),(1,.fn (.func 55) [] [.iptr [.isl false (List.map cGArc p1)]])]) (Gh.start (Nat.le_of_ble_eq_true rfl)) (Nat.le_refl _) ?_
 refine sr ?_
 refine RS.q (u:=.ptr 0 0 0) (σ':=⟨[(0,.row [.nils] 41)],1⟩) rfl (q3u rfl rfl rfl) ?_
 refine se ?_
 refine sd ?_
 refine WPU.block ?_
 refine st ?_
 refine WPU.ghost (tm':=fr 13 [(2,.ptr 0 0 0),(6,.fn (.func 55) [] [.iptr [.isl false (List.map cGArc p1)]])]) (Gh.sub ⟨rfl,rfl,trivial⟩) (Nat.le_of_ble_eq_true rfl) ?_
 refine WPU.range Try.tb_ok rfl (fun _ h=>h) (q2j rfl) fn55 rfl rfl ?_
 intro ly1 fn1 tp1 D1
 refine WPU.ghost (tm':=fr 16 [(0,.fn (.yield ly1) [] []),(1,.iptr [.isl false (List.map cGArc p1)])]) (Gh.start (Nat.le_of_ble_eq_true rfl)) (Nat.le_refl _) ?_
 refine sr ?_
 refine RS.q (u:=.isl false (List.map cGArc p1)) rfl (q5r und41 rfl rfl rfl) (RS.q rfl (q1e rfl rfl rfl (q1n cGArc und41)) (RS.mv rfl rfl rfl rfl ?_))
 refine sd ?_
 refine WPU.ghost (tm':=fr 16 [(0,.fn (.yield ly1) [] []),(5,.isl false (List.map cGArc p1)),(6,.int .i64 (p1.length:Int)),(7,.int .i64 0)]) (σ':=⟨[(1,.vec (List.map cGArc ([]:List GArc)).flatten 45 2 0),(0,.row [.vl 1 0 0 (([]:List GArc).length)] 41)],2⟩) (Gh.trans (Gh.nilC 0 0 45 2 (by decide) (Nat.le_of_ble_eq_true rfl) rfl rfl) (Gh.eqS ⟨rfl,rfl,rfl,rfl,trivial⟩ rfl)) (Nat.le_of_ble_eq_true rfl) ?_
 refine WPU.ghost (tm':=fr 16 [(0,.fn (.yield ly1) [] []),(5,.isl false (List.map cGArc p1)),(6,.int .i64 (p1.length:Int)),(7,.int .i64 0)]) (Gh.sub ⟨rfl,rfl,rfl,rfl,trivial⟩) (Nat.le_of_ble_eq_true rfl) ?_
 refine WPU.loopK (fun m tm σ=>∃ z7:Int,∃ l8:List GArc,∃ t9:Nat,q11 p1 m z7 l8=some r∧tm=fr 16 [(0,.fn (.yield ly1) [] []),(5,.isl false (List.map cGArc p1)),(6,.int .i64 (p1.length:Int)),(7,.int .i64 z7)]∧σ=⟨[(1,.vec (List.map cGArc l8).flatten 45 2 t9),(0,.row [.vl 1 t9 0 l8.length] 41)],2⟩) (fun tm σ=>∃ l10:List GArc,∃ t11:Nat,q2b l10=some r∧tm=fr 16 []∧σ=⟨[(1,.vec (List.map cGArc l10).flatten 45 2 t11),(0,.row [.vl 1 t11 0 l10.length] 41)],2⟩) n ⟨0,([]:List GArc),0,hF,rfl,rfl⟩ ?_ ?_
 rintro _ _ ⟨l10,t11,hF,rfl,rfl⟩
 unfold q2b at hF
 refine st ?_
 refine ⟨.inl rfl,?_⟩
 refine sr ?_
 refine RS.q (u:=.vl 1 t11 0 l10.length) rfl (q05 und41 rfl rfl rfl rfl) ?_
 refine sd ?_
 refine WPU.ret ?_
 refine st ?_
 have hr:=Option.some.inj hF
 subst hr
 exact ⟨.inr rfl,[.vl 1 t11 0 l10.length],q2k rfl (q20),.vl 1 t11 0 l10.length,⟨[(1,.vec (List.map cGArc l10).flatten 45 2 t11)],2⟩,(Nat.le_of_ble_eq_true rfl),Gh.trans (Gh.only (fun k=>hasN [1] k)) (Gh.to (n1:=2) [] rfl rfl (Nat.le_of_ble_eq_true rfl) (Nat.le_of_ble_eq_true rfl) BUL.h BH.h),stF [t11],rfl,rfl⟩
 rintro m2 _ _ ⟨z7,l8,t9,hF,rfl,rfl⟩
 rcases m2 with _ | m2
 cases hF
 unfold q11 at hF
 refine sr ?_
 refine RS.q rfl (q06 rfl rfl (q2s _ _ _) rfl) ?_
 refine sd ?_
 refine WPU.condS (t:=(decide (z7<(p1.length:Int)))) rfl (fun h12=>?_) (fun h12=>?_)
 replace hF:=q0q h12 hF
 refine st ?_
 refine WPU.skip ?_
 refine st ?_
 refine WPU.block ?_
 refine st ?_
 obtain ⟨x13,h14,hF⟩:=q00 hF
 refine sr ?_
 refine RS.q (u:=.iptr (cGArc x13)) rfl (q2t rfl rfl (q45 cGArc und41 (q02 inf45) q17 h14 rfl)) (RS.q (u:=.agg (cGArc x13)) rfl (q9j und45 rfl (q02 inf45) rfl rfl) (RS.q (u:=.ptr 2 0 0) (σ':=⟨[(2,.row [.int .i64 0,.int .i64 0] 45),(1,.vec (List.map cGArc l8).flatten 45 2 t9),(0,.row [.vl 1 t9 0 l8.length] 41)],3⟩) rfl (q0v inf45 rfl rfl) (RS.opn (u:=.junk) (σ':=⟨[(2,.row (cGArc x13) 45),(1,.vec (List.map cGArc l8).flatten 45 2 t9),(0,.row [.vl 1 t9 0 l8.length] 41)],3⟩) rfl (q0e (q02 inf45) rfl rfl rfl rfl rfl rfl rfl rfl) rfl ?_)))
 refine se ?_
 refine RS.q (u:=.agg (cGArc x13)) rfl (q12 und45 rfl (q02 inf45) rfl rfl rfl) (RS.yield (tmx:=fr 13 [(2,.ptr 0 0 0),(6,.fn (.func 55) [] [.iptr [.isl false (List.map cGArc p1)]]),(7,.agg (cGArc x13))]) rfl rfl rfl rfl rfl rfl rfl rfl (setP1 rfl) rfl rfl ?_)
 refine sr ?_
 refine RS.q (u:=.ptr 3 0 0) (σ':=⟨[(3,.row [.int .i64 0,.int .i64 0] 45),(2,.row (cGArc x13) 45),(1,.vec (List.map cGArc l8).flatten 45 2 t9),(0,.row [.vl 1 t9 0 l8.length] 41)],4⟩) rfl (q0v inf45 rfl rfl) (RS.opn (u:=.junk) (σ':=⟨[(3,.row (cGArc x13) 45),(2,.row (cGArc x13) 45),(1,.vec (List.map cGArc l8).flatten 45 2 t9),(0,.row [.vl 1 t9 0 l8.length] 41)],4⟩) rfl (q0e (q02 inf45) rfl rfl rfl rfl rfl rfl rfl rfl) rfl ?_)
 refine sd ?_
 refine WPU.joinK (fun tm σ=>q2c z7 l8 (q11 p1 m2) x13=some r∧tm=fr 13 []∧σ=⟨[(2,.row (cGArc x13) 45),(1,.vec (List.map cGArc (l8++[x13])).flatten 45 2 (t9+1)),(0,.row [.vl 1 (t9+1) 0 ((l8++[x13]).length)] 41)],3⟩) ?_ ?_
 rintro _ _ ⟨hF,rfl,rfl⟩
 unfold q2c at hF
 refine ⟨rfl,?_⟩
 refine RS.q (u:=.bool false) rfl (q8j rfl rfl rfl rfl) ?_
 refine sd ?_
 refine WPU.condS (t:=false) rfl (fun hc=>by cases hc) (fun _=>?_)
 refine st ?_
 refine WPU.skip ?_
 refine sr ?_
 refine RS.q rfl (q06 rfl rfl (q3w _ _ _) rfl) (RS.mv rfl rfl rfl rfl ?_)
 refine sd ?_
 exact ⟨m2,_,_,Nat.lt_succ_self _,⟨(IntKind.i64.wrap (z7+1)),(l8++[x13]),(t9+1),hF,rfl,rfl⟩,(Nat.le_of_ble_eq_true rfl),Gh.toC (n1:=2) ⟨rfl,rfl,rfl,rfl,trivial⟩ rfl (Nat.le_of_ble_eq_true rfl) (by simp)⟩
 refine st ?_
 refine WPU.block ?_
 refine st ?_
 obtain ⟨h15,hF⟩:=q2h hF
 refine sr ?_
 refine RS.q (u:=.vl 1 t9 0 l8.length) rfl (q05 und41 rfl rfl rfl rfl) (RS.q (u:=.agg (cGArc x13)) rfl (q12 und45 rfl (q02 inf45) rfl rfl rfl) (RS.q (u:=.sl 4 0 1 1) (σ':=⟨[(4,.row (cGArc x13) 45),(3,.row (cGArc x13) 45),(2,.row (cGArc x13) 45),(1,.vec (List.map cGArc l8).flatten 45 2 t9),(0,.row [.vl 1 t9 0 l8.length] 41)],5⟩) rfl (q1z und41 inf45 rfl rfl rfl rfl rfl rfl rfl) (RS.q (u:=.vl 1 (t9+1) 0 ((l8++[x13]).length)) (σ':=⟨[(4,.row (cGArc x13) 45),(3,.row (cGArc x13) 45),(2,.row (cGArc x13) 45),(1,.vec (List.map cGArc (l8++[x13])).flatten 45 2 (t9+1)),(0,.row [.vl 1 t9 0 l8.length] 41)],5⟩) rfl (q8i rfl rfl rfl rfl (q86 cGArc ([x13]) und41 und41 inf45 rfl q17 rfl (q6p cGArc [x13] rfl rfl rfl rfl) h15)) (RS.opn (u:=.junk) (σ':=⟨[(4,.row (cGArc x13) 45),(3,.row (cGArc x13) 45),(2,.row (cGArc x13) 45),(1,.vec (List.map cGArc (l8++[x13])).flatten 45 2 (t9+1)),(0,.row [.vl 1 (t9+1) 0 ((l8++[x13]).length)] 41)],5⟩) rfl (q0e (q02 inf41) rfl rfl rfl rfl rfl rfl rfl rfl) rfl ?_))))
 refine sd ?_
 exact ⟨_,_,⟨hF,rfl,rfl⟩,(Nat.le_of_ble_eq_true rfl),Gh.toC (n1:=3) trivial rfl (Nat.le_of_ble_eq_true rfl) (by simp)⟩
 replace hF:=q0p h12 hF
 refine st ?_
 refine WPU.exit ?_
 refine st ?_
 exact ⟨_,_,⟨l8,t9,hF,rfl,rfl⟩,(Nat.le_of_ble_eq_true rfl),Gh.toC (n1:=2) trivial rfl (Nat.le_of_ble_eq_true rfl) (by simp)⟩
def q3d (n:Nat) (p1:List GArc):Option ((List GArc)) :=
 bindO (q2z n p1) fun r2 =>
 some r2
theorem q6o (n:Nat) (p1:List GArc) (r:(List GArc)) (hF:q3d n p1=some r):EvU Try.prog 53 [.fn (.func 55) [] [.iptr [.isl false (List.map cGArc p1)]]] ⟨[],0⟩ (fun u σ'=>∃ t:Nat→Nat,u = .vl 1 (t 0) 0 r.length∧σ'=⟨[(1,.vec (List.map cGArc r).flatten 45 2 (t 0))],2⟩):=by
 unfold q3d at hF
 refine EvU.of_body Try.tb_ok fn53 rfl ?_
 refine WPU.ghost (tm':=fr 5 [(0,.fn (.func 55) [] [.iptr [.isl false (List.map cGArc p1)]])]) (Gh.start (Nat.le_of_ble_eq_true rfl)) (Nat.le_refl _) ?_
 refine sr ?_
 refine sd ?_
 obtain ⟨r2,h3,hF⟩:=q00 hF
 refine sr ?_
 refine RS.callx (R:=fun u σ'=>∃ t4:Nat→Nat,u = .vl 1 (t4 0) 0 r2.length∧σ'=⟨[(1,.vec (List.map cGArc r2).flatten 45 2 (t4 0))],2⟩) (args:=[.nils,.fn (.func 55) [] [.iptr [.isl false (List.map cGArc p1)]]]) rfl (q01 rfl rfl fn56 hb56 rfl rfl) (EvU.st [] (q65 n p1 r2 h3 )) rfl rfl ?_
 rintro _ _ ⟨t4,rfl,rfl⟩
 refine sd ?_
 refine WPU.ret ?_
 refine st ?_
 have hr:=Option.some.inj hF
 subst hr
 exact ⟨.inr rfl,[.vl 1 (t4 0) 0 r2.length],q2k rfl (q20),.vl 1 (t4 0) 0 r2.length,⟨[(1,.vec (List.map cGArc r2).flatten 45 2 (t4 0))],2⟩,(Nat.le_of_ble_eq_true rfl),Gh.trans (Gh.only (fun k=>hasN [1] k)) (Gh.to (n1:=2) [] rfl rfl (Nat.le_of_ble_eq_true rfl) (Nat.le_of_ble_eq_true rfl) BUL.h BH.h),stF [(t4 0)],rfl,rfl⟩
def q0x (n:Nat) (p1:List GArc):Option ((List GArc)) :=
 bindO (q3d n p1) fun r2 =>
 bindO (sortO eqA (fun a b=>q3j n a b ) r2) fun r6 =>
 some r6
theorem q2d (n:Nat) (p1:List GArc) (r:(List GArc)) (hF:q0x n p1=some r):EvU Try.prog 43 [.fn (.func 55) [] [.iptr [.isl false (List.map cGArc p1)]],.fn (.func 45) [] []] ⟨[],0⟩ (fun u σ'=>∃ t:Nat→Nat,u = .vl 1 (t 0) 0 r.length∧σ'=⟨[(1,.vec (List.map cGArc r).flatten 45 2 (t 0))],2⟩):=by
 unfold q0x at hF
 refine EvU.of_body Try.tb_ok fn43 rfl ?_
 refine WPU.ghost (tm':=fr 12 [(0,.fn (.func 55) [] [.iptr [.isl false (List.map cGArc p1)]]),(1,.fn (.func 45) [] [])]) (Gh.start (Nat.le_of_ble_eq_true rfl)) (Nat.le_refl _) ?_
 refine sr ?_
 refine sd ?_
 obtain ⟨r2,h3,hF⟩:=q00 hF
 refine sr ?_
 refine RS.callx (R:=fun u σ'=>∃ t4:Nat→Nat,u = .vl 1 (t4 0) 0 r2.length∧σ'=⟨[(1,.vec (List.map cGArc r2).flatten 45 2 (t4 0))],2⟩) (args:=[.fn (.func 55) [] [.iptr [.isl false (List.map cGArc p1)]]]) rfl (q01 rfl rfl fn53 hb53 rfl rfl) (EvU.st [] (q6o n p1 r2 h3 )) rfl rfl ?_
 rintro _ _ ⟨t4,rfl,rfl⟩
 refine sd ?_
 obtain ⟨r6,h5,hF⟩:=q00 hF
 refine WPU.joinK (fun tm σ=>tm=fr 12 [(5,.vl 1 (t4 0) 0 r6.length)]∧σ=⟨[(1,.vec (List.map cGArc r6).flatten 45 2 (t4 0))],2⟩) ?_ ?_
 rintro _ _ ⟨rfl,rfl⟩
 refine sr ?_
 refine sd ?_
 refine WPU.ret ?_
 refine st ?_
 have hr:=Option.some.inj hF
 subst hr
 exact ⟨.inr rfl,[.vl 1 (t4 0) 0 r6.length],q2k rfl (q20),.vl 1 (t4 0) 0 r6.length,⟨[(1,.vec (List.map cGArc r6).flatten 45 2 (t4 0))],2⟩,(Nat.le_of_ble_eq_true rfl),Gh.trans (Gh.only (fun k=>hasN [1] k)) (Gh.to (n1:=2) [] rfl rfl (Nat.le_of_ble_eq_true rfl) (Nat.le_of_ble_eq_true rfl) BUL.h BH.h),stF [(t4 0)],rfl,rfl⟩
 refine sr ?_
 repeat refine RS.mv rfl rfl rfl rfl ?_
 refine RS.callx (args:=[.vl 1 (t4 0) 0 r2.length,.fn (.func 45) [] []]) rfl (q01 rfl rfl fn54 hb54 rfl rfl) (srtJ_ok  (fun a b r h=>q94 n a b  r h) r2 r6 h5 _ rfl rfl) rfl rfl ?_
 rintro _ _ ⟨rfl,rfl⟩
 refine sd ?_
 exact ⟨_,_,⟨rfl,rfl⟩,(Nat.zero_le _),Gh.eqS ⟨(by simp only [sortO_len h5]; rfl),trivial⟩ rfl⟩
def q1l (n:Nat) (p1:List GArc):Option ((List GArc)) :=
 some p1
theorem q37 (n:Nat) (p1:List GArc) (r:(List GArc)) (hF:q1l n p1=some r):EvU Try.prog 44 [.isl false (List.map cGArc p1)] ⟨[],0⟩ (fun u σ'=>∃ t:Nat→Nat,u = .fn (.func 55) [] [.iptr [.isl false (List.map cGArc r)]]∧σ'=⟨[],0⟩):=by
 unfold q1l at hF
 refine EvU.of_body Try.tb_ok fn44 rfl ?_
 refine WPU.ghost (tm':=fr 4 [(0,.isl false (List.map cGArc p1))]) (Gh.start (Nat.le_of_ble_eq_true rfl)) (Nat.le_refl _) ?_
 refine sr ?_
 refine RS.q (u:=.ptr 0 0 0) (σ':=⟨[(0,.row [.isl false (List.map cGArc p1)] 41)],1⟩) rfl (q3u rfl rfl rfl) ?_
 refine se ?_
 refine RS.q rfl (op_fun rfl rfl) ?_
 refine sd ?_
 refine WPU.ret ?_
 refine st ?_
 have hr:=Option.some.inj hF
 subst hr
 exact ⟨.inr rfl,[.fn (.func 55) [] [.ptr 0 0 0]],q2k rfl (q20),.fn (.func 55) [] [.iptr [.isl false (List.map cGArc p1)]],⟨[],0⟩,(Nat.le_of_ble_eq_true rfl),Gh.trans (Gh.fz (tm':=[.fn (.func 55) [] [.iptr [.isl false (List.map cGArc p1)]]]) (h':=[]) 0 (.row [.isl false (List.map cGArc p1)] 41) 1 rfl (by simp) (by simp only [oneU,q07,q03,q0h,q09,q0k,q0d,q0c,q0b,q0a,q08,q0i,q0j,q0g,q0l,q1i,junkT,q1u,q1x,fz_iptr,Nat.reduceLeDiff,Nat.reduceMul,List.length_cons,List.length_nil,Nat.reduceAdd]<;>simp only [chunks,List.take,List.drop,List.map,cI,cB,cS,cL]) (by simp only [fzH,fzB,ug,Nat.beq,cond_true,cond_false,oneU,q07,q03,q0h,q09,q0k,q0d,q0c,q0b,q0a,q08,q0i,q0j,q0g,q0l,q1i,junkT,q1u,q1x,fz_iptr,Nat.reduceLeDiff,Nat.reduceMul,List.length_cons,List.length_nil,Nat.reduceAdd]<;>simp only [chunks,List.take,List.drop,List.map,cI,cB,cS,cL])) (Gh.to (n1:=0) [] rfl rfl (Nat.le_of_ble_eq_true rfl) (Nat.le_of_ble_eq_true rfl) BUL.h BH.h),stF [],rfl,rfl⟩
def q1f (z24:Int) (rc1:Int→(List Int)→(MapL Int Int)→Option ((List Int)×(MapL Int Int))) (l35:List Int) (w37:MapL Int Int):Option ((List Int)×(MapL Int Int)) :=
 rc1 (IntKind.i64.wrap (z24+1)) l35 w37
def q25  (l28:List Int) (w30:MapL Int Int):Option ((List Int)×(MapL Int Int)) :=
 some (l28,w30)
def q0o (p2:List GNode) (r12:(List GArc)) (self:Int→(List GNode)→(List Int)→(MapL Int Int)→Option ((List Int)×(MapL Int Int))):Nat→Int→(List Int)→(MapL Int Int)→Option ((List Int)×(MapL Int Int))
 | 0,_,_,_=>none
 | m1+1,z24,l25,w27 =>
  cond (decide (z24<(r12.length:Int)))
   (bindO (idxO r12 z24) fun x32 =>
   cond (!((mGet (fun a b=>a == b) w27 x32.To).isSome))
    (bindO (self x32.To p2 l25 w27) fun r38 =>
    q1f z24 (q0o p2 r12 self m1) r38.1 r38.2)
    (q1f z24 (q0o p2 r12 self m1) l25 w27))
   (q25 l25 w27)
def q1y (n:Nat) (self:Int→(List GNode)→(List Int)→(MapL Int Int)→Option ((List Int)×(MapL Int Int))) (p1:Int) (p2:List GNode) (p3:List Int) (p5:MapL Int Int):Option ((List Int)×(MapL Int Int)) :=
 needO ((p3.length+1)*8≤140737488355328∧p3.length+1≤140737488355328) (
 bindO (idxO p2 p1) fun x7 =>
 bindO (q1l n x7.Arcs) fun r9 =>
 bindO (q0x n r9) fun r12 =>
 q0o p2 r12 self n 0 (p3++[p1]) (mUpd (fun a b=>a == b) p5 p1 (p3.length:Int)))
def q0r:Nat→Int→(List GNode)→(List Int)→(MapL Int Int)→Option ((List Int)×(MapL Int Int))
 | 0,_,_,_,_=>none
 | n+1,p1,p2,p3,p5=>q1y n (q0r n) p1 p2 p3 p5
theorem q4p:∀ (n:Nat) (p1:Int) (p2:List GNode) (p3:List Int) (p5:MapL Int Int) (r:(List Int)×(MapL Int Int)),q0r n p1 p2 p3 p5=some r→∀ t4:Nat,EvU Try.prog 42 [.int .i64 p1,.ptr 0 0 0,.ptr 1 0 0,.ptr 2 0 0,.ptr 3 0 0] ⟨[(0,.row [.vl 4 t4 0 p3.length] 55),(1,.row [.map 5] 61),(2,.row [.isl false (List.map cGNode p2)] 25),(3,.row [.fn (.func 42) [] [.ptr 0 0 0,.ptr 1 0 0,.ptr 2 0 0,.ptr 3 0 0]] 62),(4,.vec (List.map (cI .i64) p3).flatten 3 1 t4),(5,.map (List.map (mE (fun x=>.int .i64 x) (fun x=>.int .i64 x)) p5.es) p5.cl)],6⟩ (fun u σ'=>∃ t:Nat→Nat,u = .tup []∧σ'=⟨[(0,.row [.vl 4 (t 0) 0 r.1.length] 55),(1,.row [.map 5] 61),(2,.row [.isl false (List.map cGNode p2)] 25),(3,.row [.fn (.func 42) [] [.ptr 0 0 0,.ptr 1 0 0,.ptr 2 0 0,.ptr 3 0 0]] 62),(4,.vec (List.map (cI .i64) r.1).flatten 3 1 (t 0)),(5,.map (List.map (mE (fun x=>.int .i64 x) (fun x=>.int .i64 x)) r.2.es) r.2.cl)],6⟩)
 | 0,p1,p2,p3,p5,r,hF=>by cases hF
 | n+1,p1,p2,p3,p5,r,hF=>by
  have ih:=q4p n
  unfold q0r q1y at hF
  intro t4
  refine EvU.of_body Try.tb_ok fn42 rfl ?_
  refine WPU.ghost (tm':=fr 45 [(0,.int .i64 p1),(1,.ptr 0 0 0),(2,.ptr 1 0 0),(3,.ptr 2 0 0),(4,.ptr 3 0 0)]) (Gh.start (Nat.le_of_ble_eq_true rfl)) (Nat.le_refl _) ?_
  refine sr ?_
  refine RS.q (u:=.map 5) rfl (q05 und61 rfl rfl rfl rfl) (RS.mv rfl rfl rfl rfl (RS.q (u:=.vl 4 t4 0 p3.length) rfl (q05 und55 rfl rfl rfl rfl) (RS.q rfl (q1e rfl rfl rfl (q54 und55 rfl)) (RS.opn (u:=.junk) (σ':=⟨[(0,.row [.vl 4 t4 0 p3.length] 55),(1,.row [.map 5] 61),(2,.row [.isl false (List.map cGNode p2)] 25),(3,.row [.fn (.func 42) [] [.ptr 0 0 0,.ptr 1 0 0,.ptr 2 0 0,.ptr 3 0 0]] 62),(4,.vec (List.map (cI .i64) p3).flatten 3 1 t4),(5,.map (List.map (mE (fun x=>.int .i64 x) (fun x=>.int .i64 x)) (mUpd (fun a b=>a == b) p5 p1 (p3.length:Int)).es) (mUpd (fun a b=>a == b) p5 p1 (p3.length:Int)).cl)],6⟩) rfl (op_mup (kU:=(fun x=>.int .i64 x)) (vU:=(fun x=>.int .i64 x)) (m:=p5) (k:=p1) (v:=(p3.length:Int)) (q70 und3) und61 rfl rfl rfl rfl rfl) rfl ?_))))
  refine sd ?_
  obtain ⟨h6,hF⟩:=q2h hF
  refine sr ?_
  refine RS.q (u:=.vl 4 t4 0 p3.length) rfl (q05 und55 rfl rfl rfl rfl) (RS.mv rfl rfl rfl rfl (RS.q (u:=.sl 6 0 1 1) (σ':=⟨[(6,.row [.int .i64 p1] 3),(0,.row [.vl 4 t4 0 p3.length] 55),(1,.row [.map 5] 61),(2,.row [.isl false (List.map cGNode p2)] 25),(3,.row [.fn (.func 42) [] [.ptr 0 0 0,.ptr 1 0 0,.ptr 2 0 0,.ptr 3 0 0]] 62),(4,.vec (List.map (cI .i64) p3).flatten 3 1 t4),(5,.map (List.map (mE (fun x=>.int .i64 x) (fun x=>.int .i64 x)) (mUpd (fun a b=>a == b) p5 p1 (p3.length:Int)).es) (mUpd (fun a b=>a == b) p5 p1 (p3.length:Int)).cl)],7⟩) rfl (q1z und55 inf3 rfl rfl rfl rfl rfl rfl rfl) (RS.q (u:=.vl 4 (t4+1) 0 ((p3++[p1]).length)) (σ':=⟨[(6,.row [.int .i64 p1] 3),(0,.row [.vl 4 t4 0 p3.length] 55),(1,.row [.map 5] 61),(2,.row [.isl false (List.map cGNode p2)] 25),(3,.row [.fn (.func 42) [] [.ptr 0 0 0,.ptr 1 0 0,.ptr 2 0 0,.ptr 3 0 0]] 62),(4,.vec (List.map (cI .i64) (p3++[p1])).flatten 3 1 (t4+1)),(5,.map (List.map (mE (fun x=>.int .i64 x) (fun x=>.int .i64 x)) (mUpd (fun a b=>a == b) p5 p1 (p3.length:Int)).es) (mUpd (fun a b=>a == b) p5 p1 (p3.length:Int)).cl)],7⟩) rfl (q8i rfl rfl rfl rfl (q86 (cI .i64) ([p1]) und55 und55 inf3 rfl (q68 .i64) rfl (q6p (cI .i64) [p1] rfl rfl rfl rfl) h6)) (RS.opn (u:=.junk) (σ':=⟨[(6,.row [.int .i64 p1] 3),(0,.row [.vl 4 (t4+1) 0 ((p3++[p1]).length)] 55),(1,.row [.map 5] 61),(2,.row [.isl false (List.map cGNode p2)] 25),(3,.row [.fn (.func 42) [] [.ptr 0 0 0,.ptr 1 0 0,.ptr 2 0 0,.ptr 3 0 0]] 62),(4,.vec (List.map (cI .i64) (p3++[p1])).flatten 3 1 (t4+1)),(5,.map (List.map (mE (fun x=>.int .i64 x) (fun x=>.int .i64 x)) (mUpd (fun a b=>a == b) p5 p1 (p3.length:Int)).es) (mUpd (fun a b=>a == b) p5 p1 (p3.length:Int)).cl)],7⟩) rfl (q0e (q02 inf55) rfl rfl rfl rfl rfl rfl rfl rfl) rfl ?_))))
  refine sd ?_
  obtain ⟨x7,h8,hF⟩:=q00 hF
  obtain ⟨r9,h10,hF⟩:=q00 hF
  obtain ⟨r12,h13,hF⟩:=q00 hF
  refine sr ?_
  refine RS.q (u:=.ptr 2 0 0) rfl (q0z und25 rfl (q02 inf23) rfl rfl rfl) (RS.q (u:=.isl false (List.map cGNode p2)) rfl (q05 und23 rfl rfl rfl rfl) (RS.mv rfl rfl rfl rfl (RS.q (u:=.iptr (cGNode x7)) rfl (q2t rfl rfl (q45 cGNode und23 (q02 inf43) q0s h8 rfl)) (RS.q (u:=.iptr [.isl false (List.map cGArc x7.Arcs)]) rfl (qax und43 rfl (q02 inf41) rfl rfl) (RS.q (u:=.isl false (List.map cGArc x7.Arcs)) rfl (q5r und41 rfl rfl rfl) ?_)))))
  refine RS.callx (R:=fun u σ'=>∃ t11:Nat→Nat,u = .fn (.func 55) [] [.iptr [.isl false (List.map cGArc r9)]]∧σ'=⟨[(6,.row [.int .i64 p1] 3),(0,.row [.vl 4 (t4+1) 0 ((p3++[p1]).length)] 55),(1,.row [.map 5] 61),(2,.row [.isl false (List.map cGNode p2)] 25),(3,.row [.fn (.func 42) [] [.ptr 0 0 0,.ptr 1 0 0,.ptr 2 0 0,.ptr 3 0 0]] 62),(4,.vec (List.map (cI .i64) (p3++[p1])).flatten 3 1 (t4+1)),(5,.map (List.map (mE (fun x=>.int .i64 x) (fun x=>.int .i64 x)) (mUpd (fun a b=>a == b) p5 p1 (p3.length:Int)).es) (mUpd (fun a b=>a == b) p5 p1 (p3.length:Int)).cl)],7⟩) (args:=[.isl false (List.map cGArc x7.Arcs)]) rfl (q01 rfl rfl fn44 hb44 rfl rfl) (EvU.st [] (q37 n x7.Arcs r9 h10 )) rfl rfl ?_
  rintro _ _ ⟨t11,rfl,rfl⟩
  refine RS.callx (R:=fun u σ'=>∃ t14:Nat→Nat,u = .vl 8 (t14 0) 0 r12.length∧σ'=⟨[(8,.vec (List.map cGArc r12).flatten 45 2 (t14 0)),(6,.row [.int .i64 p1] 3),(0,.row [.vl 4 (t4+1) 0 ((p3++[p1]).length)] 55),(1,.row [.map 5] 61),(2,.row [.isl false (List.map cGNode p2)] 25),(3,.row [.fn (.func 42) [] [.ptr 0 0 0,.ptr 1 0 0,.ptr 2 0 0,.ptr 3 0 0]] 62),(4,.vec (List.map (cI .i64) (p3++[p1])).flatten 3 1 (t4+1)),(5,.map (List.map (mE (fun x=>.int .i64 x) (fun x=>.int .i64 x)) (mUpd (fun a b=>a == b) p5 p1 (p3.length:Int)).es) (mUpd (fun a b=>a == b) p5 p1 (p3.length:Int)).cl)],9⟩) (args:=[.fn (.func 55) [] [.iptr [.isl false (List.map cGArc r9)]],.fn (.func 45) [] []]) rfl (q01 rfl rfl fn43 hb43 rfl rfl) (EvU.st [] (q2d n r9 r12 h13 )) rfl rfl ?_
  rintro _ _ ⟨t14,rfl,rfl⟩
  refine RS.q rfl (q1e rfl rfl rfl (q54 und41 rfl)) (RS.mv rfl rfl rfl rfl ?_)
  refine sd ?_
  refine WPU.ghost (tm':=fr 45 [(2,.ptr 1 0 0),(4,.ptr 3 0 0),(25,.vl 8 (t14 0) 0 r12.length),(26,.int .i64 (r12.length:Int)),(27,.int .i64 0)]) (Gh.sub ⟨rfl,rfl,rfl,rfl,rfl,trivial⟩) (Nat.le_of_ble_eq_true rfl) ?_
  refine WPU.loopK (fun m tm σ=>∃ z24:Int,∃ l25:List Int,∃ t26:Nat,∃ w27:MapL Int Int,q0o p2 r12 (q0r n) m z24 l25 w27=some r∧tm=fr 45 [(2,.ptr 1 0 0),(4,.ptr 3 0 0),(25,.vl 8 (t14 0) 0 r12.length),(26,.int .i64 (r12.length:Int)),(27,.int .i64 z24)]∧σ=⟨[(8,.vec (List.map cGArc r12).flatten 45 2 (t14 0)),(6,.row [.int .i64 p1] 3),(0,.row [.vl 4 t26 0 l25.length] 55),(1,.row [.map 5] 61),(2,.row [.isl false (List.map cGNode p2)] 25),(3,.row [.fn (.func 42) [] [.ptr 0 0 0,.ptr 1 0 0,.ptr 2 0 0,.ptr 3 0 0]] 62),(4,.vec (List.map (cI .i64) l25).flatten 3 1 t26),(5,.map (List.map (mE (fun x=>.int .i64 x) (fun x=>.int .i64 x)) w27.es) w27.cl)],9⟩) (fun tm σ=>∃ l28:List Int,∃ t29:Nat,∃ w30:MapL Int Int,q25 l28 w30=some r∧tm=fr 45 []∧σ=⟨[(8,.vec (List.map cGArc r12).flatten 45 2 (t14 0)),(6,.row [.int .i64 p1] 3),(0,.row [.vl 4 t29 0 l28.length] 55),(1,.row [.map 5] 61),(2,.row [.isl false (List.map cGNode p2)] 25),(3,.row [.fn (.func 42) [] [.ptr 0 0 0,.ptr 1 0 0,.ptr 2 0 0,.ptr 3 0 0]] 62),(4,.vec (List.map (cI .i64) l28).flatten 3 1 t29),(5,.map (List.map (mE (fun x=>.int .i64 x) (fun x=>.int .i64 x)) w30.es) w30.cl)],9⟩) n ⟨0,(p3++[p1]),(t4+1),(mUpd (fun a b=>a == b) p5 p1 (p3.length:Int)),hF,rfl,rfl⟩ ?_ ?_
  rintro _ _ ⟨l28,t29,w30,hF,rfl,rfl⟩
  unfold q25 at hF
  refine st ?_
  have hr:=Option.some.inj hF
  subst hr
  exact ⟨.inl rfl,[],q20,.tup [],⟨[(0,.row [.vl 4 t29 0 l28.length] 55),(1,.row [.map 5] 61),(2,.row [.isl false (List.map cGNode p2)] 25),(3,.row [.fn (.func 42) [] [.ptr 0 0 0,.ptr 1 0 0,.ptr 2 0 0,.ptr 3 0 0]] 62),(4,.vec (List.map (cI .i64) l28).flatten 3 1 t29),(5,.map (List.map (mE (fun x=>.int .i64 x) (fun x=>.int .i64 x)) w30.es) w30.cl)],6⟩,(Nat.le_of_ble_eq_true rfl),Gh.to (n1:=6) [] rfl rfl (Nat.le_of_ble_eq_true rfl) (Nat.le_of_ble_eq_true rfl) BUL.h BH.h,stF [t29],rfl,rfl⟩
  rintro m1 _ _ ⟨z24,l25,t26,w27,hF,rfl,rfl⟩
  rcases m1 with _ | m1
  cases hF
  unfold q0o at hF
  refine sr ?_
  refine RS.q rfl (q06 rfl rfl (q2s _ _ _) rfl) ?_
  refine sd ?_
  refine WPU.condS (t:=(decide (z24<(r12.length:Int)))) rfl (fun h31=>?_) (fun h31=>?_)
  replace hF:=q0q h31 hF
  refine st ?_
  refine WPU.skip ?_
  refine st ?_
  refine WPU.block ?_
  refine st ?_
  obtain ⟨x32,h33,hF⟩:=q00 hF
  refine sr ?_
  refine RS.q (u:=.ptr 8 (t14 0) (0*2+z24.toNat*2)) rfl (q2t rfl rfl (q7r cGArc und41 (q02 inf45) (by decide) q17 (vo rfl) h33)) ?_
  refine RS.q (u:=.agg (cGArc x32)) rfl (ld_vec cGArc und45 rfl (q02 inf45) q17 rfl rfl h33 rfl) (RS.q (u:=.ptr 9 0 0) (σ':=⟨[(9,.row [.int .i64 0,.int .i64 0] 45),(8,.vec (List.map cGArc r12).flatten 45 2 (t14 0)),(6,.row [.int .i64 p1] 3),(0,.row [.vl 4 t26 0 l25.length] 55),(1,.row [.map 5] 61),(2,.row [.isl false (List.map cGNode p2)] 25),(3,.row [.fn (.func 42) [] [.ptr 0 0 0,.ptr 1 0 0,.ptr 2 0 0,.ptr 3 0 0]] 62),(4,.vec (List.map (cI .i64) l25).flatten 3 1 t26),(5,.map (List.map (mE (fun x=>.int .i64 x) (fun x=>.int .i64 x)) w27.es) w27.cl)],10⟩) rfl (q0v inf45 rfl rfl) (RS.opn (u:=.junk) (σ':=⟨[(9,.row (cGArc x32) 45),(8,.vec (List.map cGArc r12).flatten 45 2 (t14 0)),(6,.row [.int .i64 p1] 3),(0,.row [.vl 4 t26 0 l25.length] 55),(1,.row [.map 5] 61),(2,.row [.isl false (List.map cGNode p2)] 25),(3,.row [.fn (.func 42) [] [.ptr 0 0 0,.ptr 1 0 0,.ptr 2 0 0,.ptr 3 0 0]] 62),(4,.vec (List.map (cI .i64) l25).flatten 3 1 t26),(5,.map (List.map (mE (fun x=>.int .i64 x) (fun x=>.int .i64 x)) w27.es) w27.cl)],10⟩) rfl (q0e (q02 inf45) rfl rfl rfl rfl rfl rfl rfl rfl) rfl ?_))
  refine se ?_
  refine RS.q (u:=.map 5) rfl (q05 und61 rfl rfl rfl rfl) (RS.q (u:=.ptr 9 0 1) rfl (q0z und45 rfl (q02 inf3) rfl rfl rfl) (RS.q (u:=.int .i64 x32.To) rfl (q05 und3 rfl rfl rfl rfl) (RS.q (u:=.tup [.int .i64 ((mGet (fun a b=>a == b) w27 x32.To).getD 0),.bool ((mGet (fun a b=>a == b) w27 x32.To).isSome)]) rfl (op_look2 (kU:=(fun x=>.int .i64 x)) (vU:=(fun x=>.int .i64 x)) (m:=w27) (k:=x32.To) (zv:=0) (q70 und3) und61 rfl rfl rfl inf3 rfl) (RS.mv rfl rfl rfl rfl (RS.q rfl (q62 rfl rfl) (RS.q rfl (q62 rfl rfl) ?_))))))
  repeat refine RS.as rfl rfl rfl rfl ?_
  refine se ?_
  refine RS.q (u:=.bool (!((mGet (fun a b=>a == b) w27 x32.To).isSome))) rfl (q8j rfl rfl rfl rfl) ?_
  refine sd ?_
  refine WPU.joinK (fun tm σ=>∃ l35:List Int,∃ t36:Nat,∃ w37:MapL Int Int,q1f z24 (q0o p2 r12 (q0r n) m1) l35 w37=some r∧tm=fr 45 [(2,.ptr 1 0 0),(4,.ptr 3 0 0),(25,.vl 8 (t14 0) 0 r12.length),(26,.int .i64 (r12.length:Int)),(27,.int .i64 z24)]∧σ=⟨[(9,.row (cGArc x32) 45),(8,.vec (List.map cGArc r12).flatten 45 2 (t14 0)),(6,.row [.int .i64 p1] 3),(0,.row [.vl 4 t36 0 l35.length] 55),(1,.row [.map 5] 61),(2,.row [.isl false (List.map cGNode p2)] 25),(3,.row [.fn (.func 42) [] [.ptr 0 0 0,.ptr 1 0 0,.ptr 2 0 0,.ptr 3 0 0]] 62),(4,.vec (List.map (cI .i64) l35).flatten 3 1 t36),(5,.map (List.map (mE (fun x=>.int .i64 x) (fun x=>.int .i64 x)) w37.es) w37.cl)],10⟩) ?_ ?_
  rintro _ _ ⟨l35,t36,w37,hF,rfl,rfl⟩
  unfold q1f at hF
  refine sr ?_
  refine RS.q rfl (q06 rfl rfl (q3w _ _ _) rfl) (RS.mv rfl rfl rfl rfl ?_)
  refine sd ?_
  exact ⟨m1,_,_,Nat.lt_succ_self _,⟨(IntKind.i64.wrap (z24+1)),l35,t36,w37,hF,rfl,rfl⟩,(Nat.le_of_ble_eq_true rfl),Gh.toC (n1:=9) ⟨rfl,rfl,rfl,rfl,rfl,trivial⟩ rfl (Nat.le_of_ble_eq_true rfl) (by simp)⟩
  refine WPU.condS (t:=(!((mGet (fun a b=>a == b) w27 x32.To).isSome))) rfl (fun h34=>?_) (fun h34=>?_)
  replace hF:=q0q h34 hF
  refine st ?_
  obtain ⟨r38,h39,hF⟩:=q00 hF
  refine sr ?_
  refine RS.q (u:=.fn (.func 42) [] [.ptr 0 0 0,.ptr 1 0 0,.ptr 2 0 0,.ptr 3 0 0]) rfl (q05 und62 rfl rfl rfl rfl) (RS.q (u:=.ptr 9 0 1) rfl (q0z und45 rfl (q02 inf3) rfl rfl rfl) (RS.q (u:=.int .i64 x32.To) rfl (q05 und3 rfl rfl rfl rfl) ?_))
  refine RS.callx (R:=fun u σ'=>∃ t40:Nat→Nat,u = .tup []∧σ'=⟨[(9,.row (cGArc x32) 45),(8,.vec (List.map cGArc r12).flatten 45 2 (t14 0)),(6,.row [.int .i64 p1] 3),(0,.row [.vl 4 (t40 0) 0 r38.1.length] 55),(1,.row [.map 5] 61),(2,.row [.isl false (List.map cGNode p2)] 25),(3,.row [.fn (.func 42) [] [.ptr 0 0 0,.ptr 1 0 0,.ptr 2 0 0,.ptr 3 0 0]] 62),(4,.vec (List.map (cI .i64) r38.1).flatten 3 1 (t40 0)),(5,.map (List.map (mE (fun x=>.int .i64 x) (fun x=>.int .i64 x)) r38.2.es) r38.2.cl)],10⟩) (args:=[.int .i64 x32.To,.ptr 0 0 0,.ptr 1 0 0,.ptr 2 0 0,.ptr 3 0 0]) rfl (q01 rfl rfl fn42 hb42 rfl rfl) (EvU.st [0,1,2,3,4,5] (ih x32.To p2 l25 w27 r38 h39 t26)) rfl rfl ?_
  rintro _ _ ⟨t40,rfl,rfl⟩
  refine sd ?_
  exact ⟨_,_,⟨r38.1,(t40 0),r38.2,hF,rfl,rfl⟩,(Nat.le_of_ble_eq_true rfl),Gh.toC (n1:=10) ⟨rfl,rfl,rfl,rfl,rfl,trivial⟩ rfl (Nat.le_of_ble_eq_true rfl) (by simp)⟩
  replace hF:=q0p h34 hF
  refine st ?_
  refine WPU.skip ?_
  refine st ?_
  exact ⟨_,_,⟨l25,t26,w27,hF,rfl,rfl⟩,(Nat.le_of_ble_eq_true rfl),Gh.toC (n1:=10) ⟨rfl,rfl,rfl,rfl,rfl,trivial⟩ rfl (Nat.le_of_ble_eq_true rfl) (by simp)⟩
  replace hF:=q0p h31 hF
  refine st ?_
  refine WPU.exit ?_
  refine st ?_
  exact ⟨_,_,⟨l25,t26,w27,hF,rfl,rfl⟩,(Nat.le_of_ble_eq_true rfl),Gh.toC (n1:=9) trivial rfl (Nat.le_of_ble_eq_true rfl) (by simp)⟩
def q2m (p1:GFS) (r3:(List Int)×(MapL Int Int)) (z14:Int) (l15:List GNode) (rc1:Int→(List GNode)→Option (GFS)) (x19:Int) (l44:List GArc):Option (GFS) :=
 bindO (idxO p1.Nodes x19) fun x45 =>
 bindO (idxV l15 0 ((r3.1.length:Int).toNat) z14) fun x47 =>
 rc1 (IntKind.i64.wrap (z14+1)) (l15.set z14.toNat (GNode.mk x45.Typex l44))
def q1m (p1:GFS) (r3:(List Int)×(MapL Int Int)) (z14:Int) (l15:List GNode) (rc1:Int→(List GNode)→Option (GFS)) (x19:Int) (r26:(List GArc)):Nat→Int→(List GArc)→Option (GFS)
 | 0,_,_=>none
 | m2+1,z42,l43 =>
  cond (decide (z42<(r26.length:Int)))
   (bindO (idxO l43 z42) fun x50 =>
   bindO (idxO l43 z42) fun x52 =>
   (q1m p1 r3 z14 l15 rc1 x19 r26 m2) (IntKind.i64.wrap (z42+1)) (l43.set (0+z42.toNat) (GArc.mk x52.Feat ((mGet (fun a b=>a == b) r3.2 x50.To).getD 0))))
   (q2m p1 r3 z14 l15 rc1 x19 l43)
def q39 (r3:(List Int)×(MapL Int Int)) (l16:List GNode):Option (GFS) :=
 needO ((r3.1.length:Int).toNat=l16.length) (
 some (GFS.mk l16))
def q14 (p1:GFS) (n:Nat) (r3:(List Int)×(MapL Int Int)):Nat→Int→(List GNode)→Option (GFS)
 | 0,_,_=>none
 | m1+1,z14,l15 =>
  cond (decide (z14<(r3.1.length:Int)))
   (bindO (idxO r3.1 z14) fun x19 =>
   bindO (idxO p1.Nodes x19) fun x21 =>
   bindO (q1l n x21.Arcs) fun r23 =>
   bindO (q0x n r23) fun r26 =>
   q1m p1 r3 z14 l15 (q14 p1 n r3 m1) x19 r26 n 0 r26)
   (q39 r3 l15)
def q24 (n:Nat) (p1:GFS) (p2:Int):Option (GFS) :=
 bindO (q0r n p2 p1.Nodes ([]:List Int) (mNew:MapL Int Int)) fun r3 =>
 needO (0≤(r3.1.length:Int)∧32*(r3.1.length:Int).toNat≤281474976710656∧(r3.1.length:Int)≤281474976710656) (
 q14 p1 n r3 n 0 (List.replicate (r3.1.length:Int).toNat (GNode.mk 0 [])))
theorem q95 (n:Nat) (p1:GFS) (p2:Int) (r:GFS) (hF:q24 n p1 p2=some r):EvU Try.prog 31 [.agg [.isl false (List.map cGNode p1.Nodes)],.int .i64 p2] ⟨[],0⟩ (fun u _=>u = .agg [.isl false (List.map cGNode r.Nodes)]∧Bel 0 u):=by
 unfold q24 at hF
 refine EvU.of_body Try.tb_ok fn31 rfl ?_
 refine WPU.ghost (tm':=fr 68 [(0,.agg [.isl false (List.map cGNode p1.Nodes)]),(1,.int .i64 p2)]) (Gh.start (Nat.le_of_ble_eq_true rfl)) (Nat.zero_le _) ?_
 refine sr ?_
 refine RS.q (u:=.ptr 0 0 0) (σ':=⟨[(0,.row [.isl false (List.map cGNode p1.Nodes)] 25)],1⟩) rfl (q3u rfl rfl rfl) (RS.q (u:=.ptr 1 0 0) (σ':=⟨[(1,.row [.nils] 25),(0,.row [.isl false (List.map cGNode p1.Nodes)] 25)],2⟩) rfl (q0v inf25 rfl rfl) ?_)
 refine se ?_
 refine RS.q (u:=.map 2) (σ':=⟨[(2,.map (List.map (mE (fun x=>.int .i64 x) (fun x=>.int .i64 x)) (mNew:MapL Int Int).es) (mNew:MapL Int Int).cl),(1,.row [.nils] 25),(0,.row [.isl false (List.map cGNode p1.Nodes)] 25)],3⟩) rfl (op_mnew) (RS.q (u:=.ptr 3 0 0) (σ':=⟨[(3,.row [.nilm] 61),(2,.map (List.map (mE (fun x=>.int .i64 x) (fun x=>.int .i64 x)) (mNew:MapL Int Int).es) (mNew:MapL Int Int).cl),(1,.row [.nils] 25),(0,.row [.isl false (List.map cGNode p1.Nodes)] 25)],4⟩) rfl (q0v inf61 rfl rfl) (RS.opn (u:=.junk) (σ':=⟨[(3,.row [.map 2] 61),(2,.map (List.map (mE (fun x=>.int .i64 x) (fun x=>.int .i64 x)) (mNew:MapL Int Int).es) (mNew:MapL Int Int).cl),(1,.row [.nils] 25),(0,.row [.isl false (List.map cGNode p1.Nodes)] 25)],4⟩) rfl (q0e (q02 inf61) rfl rfl rfl rfl rfl rfl rfl rfl) rfl ?_))
 refine se ?_
 refine RS.q (u:=.ptr 4 0 0) (σ':=⟨[(4,.row [.nils] 55),(3,.row [.map 2] 61),(2,.map (List.map (mE (fun x=>.int .i64 x) (fun x=>.int .i64 x)) (mNew:MapL Int Int).es) (mNew:MapL Int Int).cl),(1,.row [.nils] 25),(0,.row [.isl false (List.map cGNode p1.Nodes)] 25)],5⟩) rfl (q0v inf55 rfl rfl) ?_
 refine se ?_
 refine RS.q (u:=.ptr 5 0 0) (σ':=⟨[(5,.row [.nilf] 62),(4,.row [.nils] 55),(3,.row [.map 2] 61),(2,.map (List.map (mE (fun x=>.int .i64 x) (fun x=>.int .i64 x)) (mNew:MapL Int Int).es) (mNew:MapL Int Int).cl),(1,.row [.nils] 25),(0,.row [.isl false (List.map cGNode p1.Nodes)] 25)],6⟩) rfl (q0v inf62 rfl rfl) ?_
 refine se ?_
 refine RS.q rfl (op_fun rfl rfl) (RS.opn (u:=.junk) (σ':=⟨[(5,.row [.fn (.func 42) [] [.ptr 4 0 0,.ptr 3 0 0,.ptr 0 0 0,.ptr 5 0 0]] 62),(4,.row [.nils] 55),(3,.row [.map 2] 61),(2,.map (List.map (mE (fun x=>.int .i64 x) (fun x=>.int .i64 x)) (mNew:MapL Int Int).es) (mNew:MapL Int Int).cl),(1,.row [.nils] 25),(0,.row [.isl false (List.map cGNode p1.Nodes)] 25)],6⟩) rfl (q0e (q02 inf62) rfl rfl rfl rfl rfl rfl rfl rfl) rfl ?_)
 refine sd ?_
 refine WPU.ghost (tm':=fr 68 [(1,.int .i64 p2),(2,.ptr 0 0 0),(4,.ptr 1 0 0),(5,.ptr 3 0 0),(6,.ptr 4 0 0),(7,.ptr 5 0 0)]) (σ':=⟨[(6,.vec (List.map (cI .i64) ([]:List Int)).flatten 3 1 0),(5,.row [.fn (.func 42) [] [.ptr 4 0 0,.ptr 3 0 0,.ptr 0 0 0,.ptr 5 0 0]] 62),(4,.row [.vl 6 0 0 (([]:List Int).length)] 55),(3,.row [.map 2] 61),(2,.map (List.map (mE (fun x=>.int .i64 x) (fun x=>.int .i64 x)) (mNew:MapL Int Int).es) (mNew:MapL Int Int).cl),(1,.row [.nils] 25),(0,.row [.isl false (List.map cGNode p1.Nodes)] 25)],7⟩) (Gh.trans (Gh.nilC 4 0 3 1 (by decide) (Nat.zero_le _) rfl rfl) (Gh.eqS ⟨rfl,rfl,rfl,rfl,rfl,rfl,trivial⟩ rfl)) (Nat.zero_le _) ?_
 refine st ?_
 obtain ⟨r3,h4,hF⟩:=q00 hF
 refine sr ?_
 refine RS.q (u:=.fn (.func 42) [] [.ptr 4 0 0,.ptr 3 0 0,.ptr 0 0 0,.ptr 5 0 0]) rfl (q05 und62 rfl rfl rfl rfl) (RS.mv rfl rfl rfl rfl ?_)
 refine RS.callx (R:=fun u σ'=>∃ t5:Nat→Nat,u = .tup []∧σ'=⟨[(6,.vec (List.map (cI .i64) r3.1).flatten 3 1 (t5 0)),(5,.row [.fn (.func 42) [] [.ptr 4 0 0,.ptr 3 0 0,.ptr 0 0 0,.ptr 5 0 0]] 62),(4,.row [.vl 6 (t5 0) 0 r3.1.length] 55),(3,.row [.map 2] 61),(2,.map (List.map (mE (fun x=>.int .i64 x) (fun x=>.int .i64 x)) r3.2.es) r3.2.cl),(1,.row [.nils] 25),(0,.row [.isl false (List.map cGNode p1.Nodes)] 25)],7⟩) (args:=[.int .i64 p2,.ptr 4 0 0,.ptr 3 0 0,.ptr 0 0 0,.ptr 5 0 0]) rfl (q01 rfl rfl fn42 hb42 rfl rfl) (EvU.st [4,3,0,5,6,2] (q4p n p2 p1.Nodes ([]:List Int) (mNew:MapL Int Int) r3 h4 0)) rfl rfl ?_
 rintro _ _ ⟨t5,rfl,rfl⟩
 refine sd ?_
 obtain ⟨h6,hF⟩:=q2h hF
 refine sr ?_
 refine RS.q (u:=.vl 6 (t5 0) 0 r3.1.length) rfl (q05 und55 rfl rfl rfl rfl) (RS.q rfl (q1e rfl rfl rfl (q54 und55 rfl)) (RS.q (u:=.sl 7 0 ((r3.1.length:Int).toNat) ((r3.1.length:Int).toNat)) (σ':=⟨[(7,.row (List.map cGNode (List.replicate (r3.1.length:Int).toNat (GNode.mk 0 []))).flatten 43),(6,.vec (List.map (cI .i64) r3.1).flatten 3 1 (t5 0)),(5,.row [.fn (.func 42) [] [.ptr 4 0 0,.ptr 3 0 0,.ptr 0 0 0,.ptr 5 0 0]] 62),(4,.row [.vl 6 (t5 0) 0 r3.1.length] 55),(3,.row [.map 2] 61),(2,.map (List.map (mE (fun x=>.int .i64 x) (fun x=>.int .i64 x)) r3.2.es) r3.2.cl),(1,.row [.nils] 25),(0,.row [.isl false (List.map cGNode p1.Nodes)] 25)],8⟩) rfl (op_mks cGNode (GNode.mk 0 []) rfl rfl und23 inf43 rfl rfl rfl rfl h6) (RS.q (u:=.agg [.sl 7 0 ((r3.1.length:Int).toNat) ((r3.1.length:Int).toNat)]) rfl (q5d bd25 rfl rfl rfl) (RS.q (u:=.ptr 8 0 0) (σ':=⟨[(8,.row [.nils] 25),(7,.row (List.map cGNode (List.replicate (r3.1.length:Int).toNat (GNode.mk 0 []))).flatten 43),(6,.vec (List.map (cI .i64) r3.1).flatten 3 1 (t5 0)),(5,.row [.fn (.func 42) [] [.ptr 4 0 0,.ptr 3 0 0,.ptr 0 0 0,.ptr 5 0 0]] 62),(4,.row [.vl 6 (t5 0) 0 r3.1.length] 55),(3,.row [.map 2] 61),(2,.map (List.map (mE (fun x=>.int .i64 x) (fun x=>.int .i64 x)) r3.2.es) r3.2.cl),(1,.row [.nils] 25),(0,.row [.isl false (List.map cGNode p1.Nodes)] 25)],9⟩) rfl (q0v inf25 rfl rfl) (RS.opn (u:=.junk) (σ':=⟨[(8,.row [.sl 7 0 ((r3.1.length:Int).toNat) ((r3.1.length:Int).toNat)] 25),(7,.row (List.map cGNode (List.replicate (r3.1.length:Int).toNat (GNode.mk 0 []))).flatten 43),(6,.vec (List.map (cI .i64) r3.1).flatten 3 1 (t5 0)),(5,.row [.fn (.func 42) [] [.ptr 4 0 0,.ptr 3 0 0,.ptr 0 0 0,.ptr 5 0 0]] 62),(4,.row [.vl 6 (t5 0) 0 r3.1.length] 55),(3,.row [.map 2] 61),(2,.map (List.map (mE (fun x=>.int .i64 x) (fun x=>.int .i64 x)) r3.2.es) r3.2.cl),(1,.row [.nils] 25),(0,.row [.isl false (List.map cGNode p1.Nodes)] 25)],9⟩) rfl (q0e (q02 inf25) rfl rfl rfl rfl rfl rfl rfl rfl) rfl ?_)))))
 refine se ?_
 refine RS.q (u:=.vl 6 (t5 0) 0 r3.1.length) rfl (q05 und55 rfl rfl rfl rfl) (RS.q rfl (q1e rfl rfl rfl (q54 und55 rfl)) (RS.mv rfl rfl rfl rfl ?_))
 refine sd ?_
 refine WPU.ghost (tm':=fr 68 [(2,.ptr 0 0 0),(4,.ptr 1 0 0),(5,.ptr 3 0 0),(8,.ptr 8 0 0),(22,.vl 6 (t5 0) 0 r3.1.length),(23,.int .i64 (r3.1.length:Int)),(24,.int .i64 0)]) (Gh.sub ⟨rfl,rfl,rfl,rfl,rfl,rfl,rfl,trivial⟩) (Nat.zero_le _) ?_
 refine WPU.loopK (fun m tm σ=>∃ z14:Int,∃ l15:List GNode,q14 p1 n r3 m z14 l15=some r∧tm=fr 68 [(2,.ptr 0 0 0),(4,.ptr 1 0 0),(5,.ptr 3 0 0),(8,.ptr 8 0 0),(22,.vl 6 (t5 0) 0 r3.1.length),(23,.int .i64 (r3.1.length:Int)),(24,.int .i64 z14)]∧σ=⟨[(8,.row [.sl 7 0 ((r3.1.length:Int).toNat) ((r3.1.length:Int).toNat)] 25),(7,.row (List.map cGNode l15).flatten 43),(6,.vec (List.map (cI .i64) r3.1).flatten 3 1 (t5 0)),(5,.row [.fn (.func 42) [] [.ptr 4 0 0,.ptr 3 0 0,.ptr 0 0 0,.ptr 5 0 0]] 62),(4,.row [.vl 6 (t5 0) 0 r3.1.length] 55),(3,.row [.map 2] 61),(2,.map (List.map (mE (fun x=>.int .i64 x) (fun x=>.int .i64 x)) r3.2.es) r3.2.cl),(1,.row [.nils] 25),(0,.row [.isl false (List.map cGNode p1.Nodes)] 25)],9⟩) (fun tm σ=>∃ l16:List GNode,q39 r3 l16=some r∧tm=fr 68 [(4,.ptr 1 0 0),(8,.ptr 8 0 0)]∧σ=⟨[(8,.row [.sl 7 0 ((r3.1.length:Int).toNat) ((r3.1.length:Int).toNat)] 25),(7,.row (List.map cGNode l16).flatten 43),(6,.vec (List.map (cI .i64) r3.1).flatten 3 1 (t5 0)),(5,.row [.fn (.func 42) [] [.ptr 4 0 0,.ptr 3 0 0,.ptr 0 0 0,.ptr 5 0 0]] 62),(4,.row [.vl 6 (t5 0) 0 r3.1.length] 55),(3,.row [.map 2] 61),(2,.map (List.map (mE (fun x=>.int .i64 x) (fun x=>.int .i64 x)) r3.2.es) r3.2.cl),(1,.row [.nils] 25),(0,.row [.isl false (List.map cGNode p1.Nodes)] 25)],9⟩) n ⟨0,(List.replicate (r3.1.length:Int).toNat (GNode.mk 0 [])),hF,rfl,rfl⟩ ?_ ?_
 rintro _ _ ⟨l16,hF,rfl,rfl⟩
 unfold q39 at hF
 refine sr ?_
 refine RS.q (u:=.agg [.sl 7 0 ((r3.1.length:Int).toNat) ((r3.1.length:Int).toNat)]) rfl (q12 und25 rfl (q02 inf25) rfl rfl rfl) (RS.opn (u:=.junk) (σ':=⟨[(8,.row [.sl 7 0 ((r3.1.length:Int).toNat) ((r3.1.length:Int).toNat)] 25),(7,.row (List.map cGNode l16).flatten 43),(6,.vec (List.map (cI .i64) r3.1).flatten 3 1 (t5 0)),(5,.row [.fn (.func 42) [] [.ptr 4 0 0,.ptr 3 0 0,.ptr 0 0 0,.ptr 5 0 0]] 62),(4,.row [.vl 6 (t5 0) 0 r3.1.length] 55),(3,.row [.map 2] 61),(2,.map (List.map (mE (fun x=>.int .i64 x) (fun x=>.int .i64 x)) r3.2.es) r3.2.cl),(1,.row [.sl 7 0 ((r3.1.length:Int).toNat) ((r3.1.length:Int).toNat)] 25),(0,.row [.isl false (List.map cGNode p1.Nodes)] 25)],9⟩) rfl (q0e (q02 inf25) rfl rfl rfl rfl rfl rfl rfl rfl) rfl ?_)
 refine sd ?_
 refine WPU.ret ?_
 refine st ?_
 obtain ⟨h17,hF⟩:=q2h hF
 have hr:=Option.some.inj hF
 subst hr
 exact ⟨.inr rfl,[.agg [.sl 7 0 ((r3.1.length:Int).toNat) ((r3.1.length:Int).toNat)]],q8n (q12 und25 rfl (q02 inf25) rfl rfl rfl) (q20),.agg [.isl false (List.map cGNode l16)],⟨[],0⟩,Nat.le_refl _,Gh.trans (Gh.fz (tm':=[.agg [.isl false (List.map cGNode l16)]]) 7 (.row (List.map cGNode l16).flatten 43) 2 rfl (by simp) (by simp only [oneU,q07,q03,q0h,q09,q0k,q0d,q0c,q0b,q0a,q08,q0i,q0j,q0g,q0l,q1i,junkT,fz_rl q0s h17,q2x (show Nat.beq 0 7=false from rfl),q2w (show Nat.beq 0 7=false from rfl),q2v (show Nat.beq 0 7=false from rfl),q2x (show Nat.beq 2 7=false from rfl),q2w (show Nat.beq 2 7=false from rfl),q2v (show Nat.beq 2 7=false from rfl),q2x (show Nat.beq 3 7=false from rfl),q2w (show Nat.beq 3 7=false from rfl),q2v (show Nat.beq 3 7=false from rfl),q2x (show Nat.beq 4 7=false from rfl),q2w (show Nat.beq 4 7=false from rfl),q2v (show Nat.beq 4 7=false from rfl),q2x (show Nat.beq 5 7=false from rfl),q2w (show Nat.beq 5 7=false from rfl),q2v (show Nat.beq 5 7=false from rfl),q2x (show Nat.beq 6 7=false from rfl),q2w (show Nat.beq 6 7=false from rfl),q2v (show Nat.beq 6 7=false from rfl),q2g _ _ _ (q2i 7 (fun q=>bel_cI _ .i64 q) r3.1),fz_mE]) rfl) (Gh.toR (.agg [.isl false (List.map cGNode l16)]) rfl),rfl,BU.h⟩
 rintro m1 _ _ ⟨z14,l15,hF,rfl,rfl⟩
 rcases m1 with _ | m1
 cases hF
 unfold q14 at hF
 refine sr ?_
 refine RS.q rfl (q06 rfl rfl (q2s _ _ _) rfl) ?_
 refine sd ?_
 refine WPU.condS (t:=(decide (z14<(r3.1.length:Int)))) rfl (fun h18=>?_) (fun h18=>?_)
 replace hF:=q0q h18 hF
 refine st ?_
 refine WPU.skip ?_
 refine st ?_
 refine WPU.block ?_
 refine st ?_
 obtain ⟨x19,h20,hF⟩:=q00 hF
 refine sr ?_
 refine RS.q (u:=.ptr 6 (t5 0) (0*1+z14.toNat*1)) rfl (q2t rfl rfl (q7r (cI .i64) und55 (q02 inf3) (by decide) (q68 .i64) (vo rfl) h20)) ?_
 refine RS.q (u:=.int .i64 x19) rfl (q97 (cI .i64) (fun x=>.int .i64 x) und3 rfl (fun _=>rfl) rfl rfl h20) ?_
 repeat refine RS.as rfl rfl rfl rfl ?_
 refine sd ?_
 obtain ⟨x21,h22,hF⟩:=q00 hF
 obtain ⟨r23,h24,hF⟩:=q00 hF
 obtain ⟨r26,h27,hF⟩:=q00 hF
 refine sr ?_
 refine RS.q (u:=.ptr 0 0 0) rfl (q0z und25 rfl (q02 inf23) rfl rfl rfl) (RS.q (u:=.isl false (List.map cGNode p1.Nodes)) rfl (q05 und23 rfl rfl rfl rfl) (RS.mv rfl rfl rfl rfl (RS.q (u:=.iptr (cGNode x21)) rfl (q2t rfl rfl (q45 cGNode und23 (q02 inf43) q0s h22 rfl)) (RS.q (u:=.iptr [.isl false (List.map cGArc x21.Arcs)]) rfl (qax und43 rfl (q02 inf41) rfl rfl) (RS.q (u:=.isl false (List.map cGArc x21.Arcs)) rfl (q5r und41 rfl rfl rfl) ?_)))))
 refine RS.callx (R:=fun u σ'=>∃ t25:Nat→Nat,u = .fn (.func 55) [] [.iptr [.isl false (List.map cGArc r23)]]∧σ'=⟨[(8,.row [.sl 7 0 ((r3.1.length:Int).toNat) ((r3.1.length:Int).toNat)] 25),(7,.row (List.map cGNode l15).flatten 43),(6,.vec (List.map (cI .i64) r3.1).flatten 3 1 (t5 0)),(5,.row [.fn (.func 42) [] [.ptr 4 0 0,.ptr 3 0 0,.ptr 0 0 0,.ptr 5 0 0]] 62),(4,.row [.vl 6 (t5 0) 0 r3.1.length] 55),(3,.row [.map 2] 61),(2,.map (List.map (mE (fun x=>.int .i64 x) (fun x=>.int .i64 x)) r3.2.es) r3.2.cl),(1,.row [.nils] 25),(0,.row [.isl false (List.map cGNode p1.Nodes)] 25)],9⟩) (args:=[.isl false (List.map cGArc x21.Arcs)]) rfl (q01 rfl rfl fn44 hb44 rfl rfl) (EvU.st [] (q37 n x21.Arcs r23 h24 )) rfl rfl ?_
 rintro _ _ ⟨t25,rfl,rfl⟩
 refine RS.callx (R:=fun u σ'=>∃ t28:Nat→Nat,u = .vl 10 (t28 0) 0 r26.length∧σ'=⟨[(10,.vec (List.map cGArc r26).flatten 45 2 (t28 0)),(8,.row [.sl 7 0 ((r3.1.length:Int).toNat) ((r3.1.length:Int).toNat)] 25),(7,.row (List.map cGNode l15).flatten 43),(6,.vec (List.map (cI .i64) r3.1).flatten 3 1 (t5 0)),(5,.row [.fn (.func 42) [] [.ptr 4 0 0,.ptr 3 0 0,.ptr 0 0 0,.ptr 5 0 0]] 62),(4,.row [.vl 6 (t5 0) 0 r3.1.length] 55),(3,.row [.map 2] 61),(2,.map (List.map (mE (fun x=>.int .i64 x) (fun x=>.int .i64 x)) r3.2.es) r3.2.cl),(1,.row [.nils] 25),(0,.row [.isl false (List.map cGNode p1.Nodes)] 25)],11⟩) (args:=[.fn (.func 55) [] [.iptr [.isl false (List.map cGArc r23)]],.fn (.func 45) [] []]) rfl (q01 rfl rfl fn43 hb43 rfl rfl) (EvU.st [] (q2d n r23 r26 h27 )) rfl rfl ?_
 rintro _ _ ⟨t28,rfl,rfl⟩
 refine se ?_
 refine RS.q rfl (q1e rfl rfl rfl (q54 und41 rfl)) (RS.mv rfl rfl rfl rfl ?_)
 refine sd ?_
 refine WPU.ghost (tm':=fr 68 [(2,.ptr 0 0 0),(4,.ptr 1 0 0),(5,.ptr 3 0 0),(8,.ptr 8 0 0),(9,.int .i64 z14),(10,.int .i64 x19),(11,.vl 10 (t28 0) 0 r26.length),(22,.vl 6 (t5 0) 0 r3.1.length),(23,.int .i64 (r3.1.length:Int)),(24,.int .i64 z14),(38,.int .i64 (r26.length:Int)),(39,.int .i64 0)]) (Gh.sub ⟨rfl,rfl,rfl,rfl,rfl,rfl,rfl,rfl,rfl,rfl,rfl,rfl,trivial⟩) (Nat.zero_le _) ?_
 refine WPU.loopK (fun m tm σ=>∃ z42:Int,∃ l43:List GArc,q1m p1 r3 z14 l15 (q14 p1 n r3 m1) x19 r26 m z42 l43=some r∧tm=fr 68 [(2,.ptr 0 0 0),(4,.ptr 1 0 0),(5,.ptr 3 0 0),(8,.ptr 8 0 0),(9,.int .i64 z14),(10,.int .i64 x19),(11,.vl 10 (t28 0) 0 l43.length),(22,.vl 6 (t5 0) 0 r3.1.length),(23,.int .i64 (r3.1.length:Int)),(24,.int .i64 z14),(38,.int .i64 (r26.length:Int)),(39,.int .i64 z42)]∧σ=⟨[(10,.vec (List.map cGArc l43).flatten 45 2 (t28 0)),(8,.row [.sl 7 0 ((r3.1.length:Int).toNat) ((r3.1.length:Int).toNat)] 25),(7,.row (List.map cGNode l15).flatten 43),(6,.vec (List.map (cI .i64) r3.1).flatten 3 1 (t5 0)),(5,.row [.fn (.func 42) [] [.ptr 4 0 0,.ptr 3 0 0,.ptr 0 0 0,.ptr 5 0 0]] 62),(4,.row [.vl 6 (t5 0) 0 r3.1.length] 55),(3,.row [.map 2] 61),(2,.map (List.map (mE (fun x=>.int .i64 x) (fun x=>.int .i64 x)) r3.2.es) r3.2.cl),(1,.row [.nils] 25),(0,.row [.isl false (List.map cGNode p1.Nodes)] 25)],11⟩) (fun tm σ=>∃ l44:List GArc,q2m p1 r3 z14 l15 (q14 p1 n r3 m1) x19 l44=some r∧tm=fr 68 [(2,.ptr 0 0 0),(4,.ptr 1 0 0),(5,.ptr 3 0 0),(8,.ptr 8 0 0),(9,.int .i64 z14),(10,.int .i64 x19),(11,.vl 10 (t28 0) 0 l44.length),(22,.vl 6 (t5 0) 0 r3.1.length),(23,.int .i64 (r3.1.length:Int)),(24,.int .i64 z14)]∧σ=⟨[(10,.vec (List.map cGArc l44).flatten 45 2 (t28 0)),(8,.row [.sl 7 0 ((r3.1.length:Int).toNat) ((r3.1.length:Int).toNat)] 25),(7,.row (List.map cGNode l15).flatten 43),(6,.vec (List.map (cI .i64) r3.1).flatten 3 1 (t5 0)),(5,.row [.fn (.func 42) [] [.ptr 4 0 0,.ptr 3 0 0,.ptr 0 0 0,.ptr 5 0 0]] 62),(4,.row [.vl 6 (t5 0) 0 r3.1.length] 55),(3,.row [.map 2] 61),(2,.map (List.map (mE (fun x=>.int .i64 x) (fun x=>.int .i64 x)) r3.2.es) r3.2.cl),(1,.row [.nils] 25),(0,.row [.isl false (List.map cGNode p1.Nodes)] 25)],11⟩) n ⟨0,r26,hF,rfl,rfl⟩ ?_ ?_
 rintro _ _ ⟨l44,hF,rfl,rfl⟩
 unfold q2m at hF
 refine st ?_
 refine WPU.ghost (tm':=fr 68 [(2,.ptr 0 0 0),(4,.ptr 1 0 0),(5,.ptr 3 0 0),(8,.ptr 8 0 0),(9,.int .i64 z14),(10,.int .i64 x19),(11,.isl false (List.map cGArc l44)),(22,.vl 6 (t5 0) 0 r3.1.length),(23,.int .i64 (r3.1.length:Int)),(24,.int .i64 z14)]) (σ':=⟨[(8,.row [.sl 7 0 ((r3.1.length:Int).toNat) ((r3.1.length:Int).toNat)] 25),(7,.row (List.map cGNode l15).flatten 43),(6,.vec (List.map (cI .i64) r3.1).flatten 3 1 (t5 0)),(5,.row [.fn (.func 42) [] [.ptr 4 0 0,.ptr 3 0 0,.ptr 0 0 0,.ptr 5 0 0]] 62),(4,.row [.vl 6 (t5 0) 0 r3.1.length] 55),(3,.row [.map 2] 61),(2,.map (List.map (mE (fun x=>.int .i64 x) (fun x=>.int .i64 x)) r3.2.es) r3.2.cl),(1,.row [.nils] 25),(0,.row [.isl false (List.map cGNode p1.Nodes)] 25)],11⟩) (Gh.trans (Gh.sub (l':=[(2,.ptr 0 0 0),(4,.ptr 1 0 0),(5,.ptr 3 0 0),(8,.ptr 8 0 0),(9,.int .i64 z14),(10,.int .i64 x19),(11,.vl 10 (t28 0) 0 l44.length),(22,.vl 6 (t5 0) 0 r3.1.length),(23,.int .i64 (r3.1.length:Int)),(24,.int .i64 z14)]) ⟨rfl,rfl,rfl,rfl,rfl,rfl,rfl,rfl,rfl,rfl,trivial⟩) (Gh.fzS (l':=[(2,.ptr 0 0 0),(4,.ptr 1 0 0),(5,.ptr 3 0 0),(8,.ptr 8 0 0),(9,.int .i64 z14),(10,.int .i64 x19),(11,.isl false (List.map cGArc l44)),(22,.vl 6 (t5 0) 0 r3.1.length),(23,.int .i64 (r3.1.length:Int)),(24,.int .i64 z14)]) (h':=[(8,.row [.sl 7 0 ((r3.1.length:Int).toNat) ((r3.1.length:Int).toNat)] 25),(7,.row (List.map cGNode l15).flatten 43),(6,.vec (List.map (cI .i64) r3.1).flatten 3 1 (t5 0)),(5,.row [.fn (.func 42) [] [.ptr 4 0 0,.ptr 3 0 0,.ptr 0 0 0,.ptr 5 0 0]] 62),(4,.row [.vl 6 (t5 0) 0 r3.1.length] 55),(3,.row [.map 2] 61),(2,.map (List.map (mE (fun x=>.int .i64 x) (fun x=>.int .i64 x)) r3.2.es) r3.2.cl),(1,.row [.nils] 25),(0,.row [.isl false (List.map cGNode p1.Nodes)] 25)]) 10 (.vec (List.map cGArc l44).flatten 45 2 (t28 0)) 2 rfl (by simp) (by simp only [fzS,oneU,q07,q03,q0h,q09,q0k,q0d,q0c,q0b,q0a,q08,q0i,q0j,q0g,q0l,q1i,junkT,fz_vl q17,q2x (show Nat.beq 0 10=false from rfl),q2w (show Nat.beq 0 10=false from rfl),q2v (show Nat.beq 0 10=false from rfl),q2x (show Nat.beq 1 10=false from rfl),q2w (show Nat.beq 1 10=false from rfl),q2v (show Nat.beq 1 10=false from rfl),q2x (show Nat.beq 2 10=false from rfl),q2w (show Nat.beq 2 10=false from rfl),q2v (show Nat.beq 2 10=false from rfl),q2x (show Nat.beq 3 10=false from rfl),q2w (show Nat.beq 3 10=false from rfl),q2v (show Nat.beq 3 10=false from rfl),q2x (show Nat.beq 4 10=false from rfl),q2w (show Nat.beq 4 10=false from rfl),q2v (show Nat.beq 4 10=false from rfl),q2x (show Nat.beq 5 10=false from rfl),q2w (show Nat.beq 5 10=false from rfl),q2v (show Nat.beq 5 10=false from rfl),q2x (show Nat.beq 6 10=false from rfl),q2w (show Nat.beq 6 10=false from rfl),q2v (show Nat.beq 6 10=false from rfl),q2x (show Nat.beq 7 10=false from rfl),q2w (show Nat.beq 7 10=false from rfl),q2v (show Nat.beq 7 10=false from rfl),q2x (show Nat.beq 8 10=false from rfl),q2w (show Nat.beq 8 10=false from rfl),q2v (show Nat.beq 8 10=false from rfl),q2g _ _ _ (q2i 10 (fun q=>q32 _ q) l15),q2g _ _ _ (q2i 10 (fun q=>bel_cI _ .i64 q) r3.1),fz_mE]) (by simp only [fzH,fzB,ug,Nat.beq,cond_true,cond_false,oneU,q07,q03,q0h,q09,q0k,q0d,q0c,q0b,q0a,q08,q0i,q0j,q0g,q0l,q1i,junkT,fz_vl q17,q2x (show Nat.beq 0 10=false from rfl),q2w (show Nat.beq 0 10=false from rfl),q2v (show Nat.beq 0 10=false from rfl),q2x (show Nat.beq 1 10=false from rfl),q2w (show Nat.beq 1 10=false from rfl),q2v (show Nat.beq 1 10=false from rfl),q2x (show Nat.beq 2 10=false from rfl),q2w (show Nat.beq 2 10=false from rfl),q2v (show Nat.beq 2 10=false from rfl),q2x (show Nat.beq 3 10=false from rfl),q2w (show Nat.beq 3 10=false from rfl),q2v (show Nat.beq 3 10=false from rfl),q2x (show Nat.beq 4 10=false from rfl),q2w (show Nat.beq 4 10=false from rfl),q2v (show Nat.beq 4 10=false from rfl),q2x (show Nat.beq 5 10=false from rfl),q2w (show Nat.beq 5 10=false from rfl),q2v (show Nat.beq 5 10=false from rfl),q2x (show Nat.beq 6 10=false from rfl),q2w (show Nat.beq 6 10=false from rfl),q2v (show Nat.beq 6 10=false from rfl),q2x (show Nat.beq 7 10=false from rfl),q2w (show Nat.beq 7 10=false from rfl),q2v (show Nat.beq 7 10=false from rfl),q2x (show Nat.beq 8 10=false from rfl),q2w (show Nat.beq 8 10=false from rfl),q2v (show Nat.beq 8 10=false from rfl),q2g _ _ _ (q2i 10 (fun q=>q32 _ q) l15),q2g _ _ _ (q2i 10 (fun q=>bel_cI _ .i64 q) r3.1),fz_mE]))) (Nat.zero_le _) ?_
 refine st ?_
 obtain ⟨x45,h46,hF⟩:=q00 hF
 obtain ⟨x47,h48,hF⟩:=q00 hF
 refine WPU.drawE Try.tb_ok [] (by kernel_rfl) ?_
 refine RD.q (u:=.ptr 8 0 0) rfl (q0z und25 rfl (q02 inf23) rfl rfl rfl) (RD.q (u:=.sl 7 0 ((r3.1.length:Int).toNat) ((r3.1.length:Int).toNat)) rfl (q05 und23 rfl rfl rfl rfl) (RD.mv rfl rfl rfl rfl (RD.q (u:=.ptr 0 0 0) rfl (q0z und25 rfl (q02 inf23) rfl rfl rfl) (RD.q (u:=.isl false (List.map cGNode p1.Nodes)) rfl (q05 und23 rfl rfl rfl rfl) (RD.mv rfl rfl rfl rfl (RD.q (u:=.iptr (cGNode x45)) rfl (q2t rfl rfl (q45 cGNode und23 (q02 inf43) q0s h46 rfl)) (RD.q (u:=.iptr (cGNode x45)) rfl (qax und43 rfl (q02 inf3) rfl rfl) ?_)))))))
 refine RD.q (u:=.int .i64 x45.Typex) rfl (q5r und3 rfl rfl rfl) (RD.mv rfl rfl rfl rfl (RD.q (u:=.agg [.int .i64 x45.Typex,.isl false (List.map cGArc l44)]) rfl (q5d bd43 rfl rfl rfl) (RD.q (u:=.ptr 7 0 (0*2+z14.toNat*2)) rfl (q2t rfl rfl (q9o und23 (q02 inf43) rfl h48)) (RD.actn (u:=.junk) (σ':=⟨[(8,.row [.sl 7 0 ((r3.1.length:Int).toNat) ((r3.1.length:Int).toNat)] 25),(7,.row (List.map cGNode (l15.set z14.toNat (GNode.mk x45.Typex l44))).flatten 43),(6,.vec (List.map (cI .i64) r3.1).flatten 3 1 (t5 0)),(5,.row [.fn (.func 42) [] [.ptr 4 0 0,.ptr 3 0 0,.ptr 0 0 0,.ptr 5 0 0]] 62),(4,.row [.vl 6 (t5 0) 0 r3.1.length] 55),(3,.row [.map 2] 61),(2,.map (List.map (mE (fun x=>.int .i64 x) (fun x=>.int .i64 x)) r3.2.es) r3.2.cl),(1,.row [.nils] 25),(0,.row [.isl false (List.map cGNode p1.Nodes)] 25)],11⟩) rfl (st_rl cGNode (q02 inf43) q0s rfl rfl rfl rfl rfl rfl h48 rfl) rfl ?_))))
 refine RD.done ⟨by kernel_rfl,trivial,?_⟩
 refine sr ?_
 refine RS.q rfl (q06 rfl rfl (q3w _ _ _) rfl) (RS.mv rfl rfl rfl rfl ?_)
 refine sd ?_
 exact ⟨m1,_,_,Nat.lt_succ_self _,⟨(IntKind.i64.wrap (z14+1)),(l15.set z14.toNat (GNode.mk x45.Typex l44)),hF,rfl,rfl⟩,(Nat.zero_le _),Gh.toC (n1:=9) ⟨rfl,rfl,rfl,rfl,rfl,rfl,rfl,trivial⟩ rfl (Nat.zero_le _) (by simp)⟩
 rintro m2 _ _ ⟨z42,l43,hF,rfl,rfl⟩
 rcases m2 with _ | m2
 cases hF
 unfold q1m at hF
 refine sr ?_
 refine RS.q rfl (q06 rfl rfl (q2s _ _ _) rfl) ?_
 refine sd ?_
 refine WPU.condS (t:=(decide (z42<(r26.length:Int)))) rfl (fun h49=>?_) (fun h49=>?_)
 replace hF:=q0q h49 hF
 refine st ?_
 refine WPU.skip ?_
 refine st ?_
 refine WPU.block ?_
 refine sr ?_
 refine sd ?_
 obtain ⟨x50,h51,hF⟩:=q00 hF
 obtain ⟨x52,h53,hF⟩:=q00 hF
 refine WPU.joinK (fun tm σ=>tm=fr 68 [(2,.ptr 0 0 0),(4,.ptr 1 0 0),(5,.ptr 3 0 0),(8,.ptr 8 0 0),(9,.int .i64 z14),(10,.int .i64 x19),(11,.vl 10 (t28 0) 0 ((l43.set (0+z42.toNat) (GArc.mk x52.Feat ((mGet (fun a b=>a == b) r3.2 x50.To).getD 0))).length)),(22,.vl 6 (t5 0) 0 r3.1.length),(23,.int .i64 (r3.1.length:Int)),(24,.int .i64 z14),(38,.int .i64 (r26.length:Int)),(39,.int .i64 z42)]∧σ=⟨[(10,.vec (List.map cGArc (l43.set (0+z42.toNat) (GArc.mk x52.Feat ((mGet (fun a b=>a == b) r3.2 x50.To).getD 0)))).flatten 45 2 (t28 0)),(8,.row [.sl 7 0 ((r3.1.length:Int).toNat) ((r3.1.length:Int).toNat)] 25),(7,.row (List.map cGNode l15).flatten 43),(6,.vec (List.map (cI .i64) r3.1).flatten 3 1 (t5 0)),(5,.row [.fn (.func 42) [] [.ptr 4 0 0,.ptr 3 0 0,.ptr 0 0 0,.ptr 5 0 0]] 62),(4,.row [.vl 6 (t5 0) 0 r3.1.length] 55),(3,.row [.map 2] 61),(2,.map (List.map (mE (fun x=>.int .i64 x) (fun x=>.int .i64 x)) r3.2.es) r3.2.cl),(1,.row [.nils] 25),(0,.row [.isl false (List.map cGNode p1.Nodes)] 25)],11⟩) ?_ ?_
 rintro _ _ ⟨rfl,rfl⟩
 refine sr ?_
 refine RS.q rfl (q06 rfl rfl (q3w _ _ _) rfl) (RS.mv rfl rfl rfl rfl ?_)
 refine sd ?_
 exact ⟨m2,_,_,Nat.lt_succ_self _,⟨(IntKind.i64.wrap (z42+1)),(l43.set (0+z42.toNat) (GArc.mk x52.Feat ((mGet (fun a b=>a == b) r3.2 x50.To).getD 0))),hF,rfl,rfl⟩,(Nat.zero_le _),Gh.toC (n1:=11) ⟨rfl,rfl,rfl,rfl,rfl,rfl,rfl,rfl,rfl,rfl,rfl,rfl,trivial⟩ rfl (Nat.zero_le _) (by simp)⟩
 refine WPU.drawE Try.tb_ok [] (by kernel_rfl) ?_
 repeat refine RD.mv rfl rfl rfl rfl ?_
 refine RD.q (u:=.map 2) rfl (q05 und61 rfl rfl rfl rfl) ?_
 repeat refine RD.mv rfl rfl rfl rfl ?_
 refine RD.q (u:=.ptr 10 (t28 0) (0*2+z42.toNat*2)) rfl (q2t rfl rfl (q7r cGArc und41 (q02 inf45) (by decide) q17 (vo rfl) h51)) ?_
 refine RD.q (u:=.ptr 10 (t28 0) (0*2+z42.toNat*2+1)) rfl (q0z und45 rfl (q02 inf3) rfl (qar rfl) rfl) (RD.q (u:=.int .i64 x50.To) rfl (ld_vf cGArc und3 rfl q17 rfl rfl (qan h51) rfl) (RD.q (u:=.int .i64 ((mGet (fun a b=>a == b) r3.2 x50.To).getD 0)) rfl (op_look (kU:=(fun x=>.int .i64 x)) (vU:=(fun x=>.int .i64 x)) (m:=r3.2) (k:=x50.To) (zv:=0) (q70 und3) und61 rfl rfl rfl inf3 rfl) ?_))
 refine RD.q (u:=.ptr 10 (t28 0) (0*2+z42.toNat*2)) rfl (q2t rfl rfl (q7r cGArc und41 (q02 inf45) (by decide) q17 (vo rfl) h53)) ?_
 refine RD.q (u:=.ptr 10 (t28 0) (0*2+z42.toNat*2+1)) rfl (q0z und45 rfl (q02 inf3) rfl (qar rfl) rfl) (RD.actn (u:=.junk) (σ':=⟨[(10,.vec (List.map cGArc (l43.set (0+z42.toNat) (GArc.mk x52.Feat ((mGet (fun a b=>a == b) r3.2 x50.To).getD 0)))).flatten 45 2 (t28 0)),(8,.row [.sl 7 0 ((r3.1.length:Int).toNat) ((r3.1.length:Int).toNat)] 25),(7,.row (List.map cGNode l15).flatten 43),(6,.vec (List.map (cI .i64) r3.1).flatten 3 1 (t5 0)),(5,.row [.fn (.func 42) [] [.ptr 4 0 0,.ptr 3 0 0,.ptr 0 0 0,.ptr 5 0 0]] 62),(4,.row [.vl 6 (t5 0) 0 r3.1.length] 55),(3,.row [.map 2] 61),(2,.map (List.map (mE (fun x=>.int .i64 x) (fun x=>.int .i64 x)) r3.2.es) r3.2.cl),(1,.row [.nils] 25),(0,.row [.isl false (List.map cGNode p1.Nodes)] 25)],11⟩) rfl (st_vf (y:=(GArc.mk x52.Feat ((mGet (fun a b=>a == b) r3.2 x50.To).getD 0))) cGArc (q02 inf3) q17 rfl rfl rfl rfl rfl rfl (qan h53) rfl rfl) rfl ?_)
 refine RD.done ⟨by kernel_rfl,trivial,?_⟩
 refine st ?_
 exact ⟨_,_,⟨rfl,rfl⟩,(Nat.zero_le _),Gh.eqS ⟨rfl,rfl,rfl,rfl,rfl,rfl,(by simp only [List.length_set]; rfl),rfl,rfl,rfl,rfl,rfl,trivial⟩ rfl⟩
 replace hF:=q0p h49 hF
 refine st ?_
 refine WPU.exit ?_
 refine st ?_
 exact ⟨_,_,⟨l43,hF,rfl,rfl⟩,(Nat.zero_le _),Gh.toC (n1:=11) ⟨rfl,rfl,rfl,rfl,rfl,rfl,rfl,rfl,rfl,rfl,trivial⟩ rfl (Nat.zero_le _) (by simp)⟩
 replace hF:=q0p h18 hF
 refine st ?_
 refine WPU.exit ?_
 refine st ?_
 exact ⟨_,_,⟨l15,hF,rfl,rfl⟩,(Nat.zero_le _),Gh.toC (n1:=9) ⟨rfl,rfl,trivial⟩ rfl (Nat.zero_le _) (by simp)⟩
theorem q5y (n:Nat) (p1:GFS) (p2:Int) (r:GFS) (hF:q24 n p1 p2=some r) (σ:Sg):EvU Try.prog 31 [.agg [.isl false (List.map cGNode p1.Nodes)],.int .i64 p2] σ (fun u σ'=>u = .agg [.isl false (List.map cGNode r.Nodes)]∧σ'=σ) :=
 EvU.pure1C (q95 n p1 p2 r hF) σ
def qb2 (p1:List GArc) (z6:Int) (l7:List GArc) (rc1:Int→(List GArc)→Option ((List GArc))) (z18:Int):Option ((List GArc)) :=
 needO ((0:Int)≤z18∧z18≤((l7.length:Nat):Int)) (
 needO (0+z18.toNat≤l7.length) (
 needO (((l7.drop 0).take z18.toNat).length*16≤140737488355328∧((l7.drop 0).take z18.toNat).length≤140737488355328) (
 bindO (idxO p1 z6) fun x22 =>
 needO ((((l7.drop 0).take z18.toNat).length+1)*16≤140737488355328∧((l7.drop 0).take z18.toNat).length+1≤140737488355328) (
 needO ((0:Int)≤z18∧z18≤((l7.length:Nat):Int)) (
 needO ((0+z18.toNat)+(l7.length - z18.toNat)≤l7.length) (
 needO (((((l7.drop 0).take z18.toNat)++[x22]).length+((l7.drop (0+z18.toNat)).take (l7.length - z18.toNat)).length)*16≤140737488355328∧(((l7.drop 0).take z18.toNat)++[x22]).length+((l7.drop (0+z18.toNat)).take (l7.length - z18.toNat)).length≤140737488355328) (
 rc1 (IntKind.i64.wrap (z6+1)) ((((l7.drop 0).take z18.toNat)++[x22])++((l7.drop (0+z18.toNat)).take (l7.length - z18.toNat))))))))))
def q78 (p1:List GArc) (z6:Int) (l7:List GArc) (rc1:Int→(List GArc)→Option ((List GArc))):Nat→Int→Option ((List GArc))
 | 0,_=>none
 | m2+1,z17 =>
  bindO (cond (decide (z17 > 0))
   (bindO (idxO l7 (IntKind.i64.wrap (z17 - 1))) fun x29 =>
   bindO (idxO p1 z6) fun x31 =>
   some (decide (x29.Feat > x31.Feat)))
   (some false)) fun b33 =>
  cond b33
   ((q78 p1 z6 l7 rc1 m2) (IntKind.i64.wrap (z17 - 1)))
   (qb2 p1 z6 l7 rc1 z17)
def qb1  (l9:List GArc):Option ((List GArc)) :=
 some l9
def q77 (p1:List GArc) (n:Nat):Nat→Int→(List GArc)→Option ((List GArc))
 | 0,_,_=>none
 | m1+1,z6,l7 =>
  cond (decide (z6<(p1.length:Int)))
   (q78 p1 z6 l7 (q77 p1 n m1) n (l7.length:Int))
   (qb1 l7)
def q9k (n:Nat) (p1:List GArc):Option ((List GArc)) :=
 q77 p1 n n 0 ([]:List GArc)
def q4r (z23:Int) (rc1:Int→(List Int)→(List Int)→Option ((List Int)×(List Int))) (l38:List Int) (l40:List Int):Option ((List Int)×(List Int)) :=
 rc1 (IntKind.i64.wrap (z23+1)) l38 l40
def q6v  (l28:List Int) (l30:List Int):Option ((List Int)×(List Int)) :=
 some (l28,l30)
def q3r (p2:List GNode) (r12:List GArc) (self:Int→(List GNode)→(List Int)→(List Int)→Option ((List Int)×(List Int))):Nat→Int→(List Int)→(List Int)→Option ((List Int)×(List Int))
 | 0,_,_,_=>none
 | m1+1,z23,l24,l26 =>
  cond (decide (z23<(r12.length:Int)))
   (bindO (idxO r12 z23) fun x33 =>
   bindO (idxO l24 x33.To) fun x35 =>
   cond (decide (x35<0))
    (bindO (idxO r12 z23) fun x42 =>
    bindO (self x42.To p2 l24 l26) fun r44 =>
    q4r z23 (q3r p2 r12 self m1) r44.1 r44.2)
    (q4r z23 (q3r p2 r12 self m1) l24 l26))
   (q6v l24 l26)
def q79 (n:Nat) (self:Int→(List GNode)→(List Int)→(List Int)→Option ((List Int)×(List Int))) (p1:Int) (p2:List GNode) (p3:List Int) (p5:List Int):Option ((List Int)×(List Int)) :=
 bindO (idxO p3 p1) fun x7 =>
 needO ((p5.length+1)*8≤140737488355328∧p5.length+1≤140737488355328) (
 bindO (idxO p2 p1) fun x10 =>
 bindO (q9k n x10.Arcs) fun r12 =>
 q3r p2 r12 self n 0 (p3.set (0+p1.toNat) (p5.length:Int)) (p5++[p1]))
def q5t:Nat→Int→(List GNode)→(List Int)→(List Int)→Option ((List Int)×(List Int))
 | 0,_,_,_,_=>none
 | n+1,p1,p2,p3,p5=>q79 n (q5t n) p1 p2 p3 p5
def ref07_From_K3 (z26:Int) (l27:List GNode) (rc2:Int→(List GNode)→Option (GFS)) (x34:GNode) (l54:List GArc):Option (GFS) :=
 needO ((l27.length+1)*32≤140737488355328∧l27.length+1≤140737488355328) (
 rc2 (IntKind.i64.wrap (z26+1)) (l27++[(GNode.mk x34.Typex l54)]))
def q8m (r14:(List Int)×(List Int)) (z26:Int) (l27:List GNode) (rc2:Int→(List GNode)→Option (GFS)) (x34:GNode):Nat→Int→(List GArc)→Option (GFS)
 | 0,_,_=>none
 | m3+1,z52,l53 =>
  cond (decide (z52<(l53.length:Int)))
   (bindO (idxO l53 z52) fun x57 =>
   bindO (idxO r14.1 x57.To) fun x59 =>
   bindO (idxO l53 z52) fun x61 =>
   (q8m r14 z26 l27 rc2 x34 m3) (IntKind.i64.wrap (z52+1)) (l53.set (0+z52.toNat) (GArc.mk x61.Feat x59)))
   (ref07_From_K3 z26 l27 rc2 x34 l53)
def ref07_From_K2  (l29:List GNode):Option (GFS) :=
 some (GFS.mk l29)
def q8l (p1:GFS) (n:Nat) (r14:(List Int)×(List Int)):Nat→Int→(List GNode)→Option (GFS)
 | 0,_,_=>none
 | m2+1,z26,l27 =>
  cond (decide (z26<(r14.2.length:Int)))
   (bindO (idxO r14.2 z26) fun x32 =>
   bindO (idxO p1.Nodes x32) fun x34 =>
   bindO (q9k n x34.Arcs) fun r36 =>
   q8m r14 z26 l27 (q8l p1 n r14 m2) x34 n 0 r36)
   (ref07_From_K2 l27)
def ref07_From_K1 (p1:GFS) (p2:Int) (n:Nat) (l12:List Int):Option (GFS) :=
 bindO (q5t n p2 p1.Nodes l12 ([]:List Int)) fun r14 =>
 q8l p1 n r14 n 0 ([]:List GNode)
def ref07_From_L1 (p1:GFS) (p2:Int) (n:Nat):Nat→Int→(List Int)→Option (GFS)
 | 0,_,_=>none
 | m1+1,z9,l10 =>
  cond (decide (z9<(p1.Nodes.length:Int)))
   (needO ((l10.length+1)*8≤140737488355328∧l10.length+1≤140737488355328) (
   (ref07_From_L1 p1 p2 n m1) (IntKind.i64.wrap (z9+1)) (l10++[(-1)])))
   (ref07_From_K1 p1 p2 n l10)
def q46 (p1:Int) (p2:Nat) (p4:Nat) (l21:List Bool) (l22:List Bool):Option (Bool×(List Bool)×(List Bool)) :=
 bindO (idxV l21 0 p2 p1) fun x23 =>
 bindO (idxV l22 0 p4 p1) fun x25 =>
 some (false,(l21.set p1.toNat false),(l22.set p1.toNat true))
def q3f (p1:Int) (p2:Nat) (p3:List GNode) (p4:Nat) (x9:GNode) (self:Int→Nat→(List GNode)→Nat→(List Bool)→(List Bool)→Option (Bool×(List Bool)×(List Bool))):Nat→Int→(List Bool)→(List Bool)→Option (Bool×(List Bool)×(List Bool))
 | 0,_,_,_=>none
 | m1+1,z18,l19,l20 =>
  cond (decide (z18<(x9.Arcs.length:Int)))
   (bindO (idxO x9.Arcs z18) fun x28 =>
   bindO (bindO (idxV l19 0 p2 x28.To) fun x30 =>
   cond x30
    (some (true,l19,l20))
    (bindO (idxV l20 0 p4 x28.To) fun x33 =>
    cond (!x33)
     (bindO (self x28.To p2 p3 p4 l19 l20) fun r36 =>
     some (r36.1,r36.2.1,r36.2.2))
     (some (false,l19,l20)))) fun j43 =>
   cond j43.1
    (some (true,j43.2.1,j43.2.2))
    ((q3f p1 p2 p3 p4 x9 self m1) (IntKind.i64.wrap (z18+1)) j43.2.1 j43.2.2))
   (q46 p1 p2 p4 l19 l20)
def q5o (n:Nat) (self:Int→Nat→(List GNode)→Nat→(List Bool)→(List Bool)→Option (Bool×(List Bool)×(List Bool))) (p1:Int) (p2:Nat) (p3:List GNode) (p4:Nat) (p5:List Bool) (p6:List Bool):Option (Bool×(List Bool)×(List Bool)) :=
 bindO (idxV p5 0 p2 p1) fun x7 =>
 bindO (idxO p3 p1) fun x9 =>
 q3f p1 p2 p3 p4 x9 self n 0 (p5.set p1.toNat true) p6
def q3i:Nat→Int→Nat→(List GNode)→Nat→(List Bool)→(List Bool)→Option (Bool×(List Bool)×(List Bool))
 | 0,_,_,_,_,_,_=>none
 | n+1,p1,p2,p3,p4,p5,p6=>q5o n (q3i n) p1 p2 p3 p4 p5 p6
theorem q5n:∀ (n:Nat) (p1:Int) (p2:Nat) (p3:List GNode) (p4:Nat) (p5:List Bool) (p6:List Bool) (r:Bool×(List Bool)×(List Bool)),q3i n p1 p2 p3 p4 p5 p6=some r→EvU Try.prog 35 [.int .i64 p1,.ptr 0 0 0,.ptr 1 0 0,.ptr 2 0 0,.ptr 3 0 0] ⟨[(0,.row [.sl 4 0 p2 p2] 40),(1,.row [.isl false (List.map cGNode p3)] 25),(2,.row [.sl 5 0 p4 p4] 40),(3,.row [.fn (.func 35) [] [.ptr 0 0 0,.ptr 1 0 0,.ptr 2 0 0,.ptr 3 0 0]] 51),(4,.row (List.map cB p5).flatten 4),(5,.row (List.map cB p6).flatten 4)],6⟩ (fun u σ'=>∃ t:Nat→Nat,u = .bool r.1∧σ'=⟨[(0,.row [.sl 4 0 p2 p2] 40),(1,.row [.isl false (List.map cGNode p3)] 25),(2,.row [.sl 5 0 p4 p4] 40),(3,.row [.fn (.func 35) [] [.ptr 0 0 0,.ptr 1 0 0,.ptr 2 0 0,.ptr 3 0 0]] 51),(4,.row (List.map cB r.2.1).flatten 4),(5,.row (List.map cB r.2.2).flatten 4)],6⟩)
 | 0,p1,p2,p3,p4,p5,p6,r,hF=>by cases hF
 | n+1,p1,p2,p3,p4,p5,p6,r,hF=>by
  have ih:=q5n n
  unfold q3i q5o at hF
  refine EvU.of_body Try.tb_ok fn35 rfl ?_
  refine WPU.ghost (tm':=fr 49 [(0,.int .i64 p1),(1,.ptr 0 0 0),(2,.ptr 1 0 0),(3,.ptr 2 0 0),(4,.ptr 3 0 0)]) (Gh.start (Nat.le_of_ble_eq_true rfl)) (Nat.le_refl _) ?_
  refine sr ?_
  refine sd ?_
  obtain ⟨x7,h8,hF⟩:=q00 hF
  refine sr ?_
  refine RS.q (u:=.sl 4 0 p2 p2) rfl (q05 und40 rfl rfl rfl rfl) (RS.mv rfl rfl rfl rfl (RS.q (u:=.ptr 4 0 (0*1+p1.toNat*1)) rfl (q2t rfl rfl (q9o und40 (q02 inf4) rfl h8)) (RS.opn (u:=.junk) (σ':=⟨[(0,.row [.sl 4 0 p2 p2] 40),(1,.row [.isl false (List.map cGNode p3)] 25),(2,.row [.sl 5 0 p4 p4] 40),(3,.row [.fn (.func 35) [] [.ptr 0 0 0,.ptr 1 0 0,.ptr 2 0 0,.ptr 3 0 0]] 51),(4,.row (List.map cB (p5.set p1.toNat true)).flatten 4),(5,.row (List.map cB p6).flatten 4)],6⟩) rfl (st_rl cB (q02 inf4) len_cB rfl rfl rfl rfl rfl rfl h8 rfl) rfl ?_)))
  refine sd ?_
  obtain ⟨x9,h10,hF⟩:=q00 hF
  refine sr ?_
  refine RS.q (u:=.ptr 1 0 0) rfl (q0z und25 rfl (q02 inf23) rfl rfl rfl) (RS.q (u:=.isl false (List.map cGNode p3)) rfl (q05 und23 rfl rfl rfl rfl) (RS.mv rfl rfl rfl rfl (RS.q (u:=.iptr (cGNode x9)) rfl (q2t rfl rfl (q45 cGNode und23 (q02 inf43) q0s h10 rfl)) (RS.q (u:=.iptr [.isl false (List.map cGArc x9.Arcs)]) rfl (qax und43 rfl (q02 inf41) rfl rfl) (RS.q (u:=.isl false (List.map cGArc x9.Arcs)) rfl (q5r und41 rfl rfl rfl) (RS.q rfl (q1e rfl rfl rfl (q1n cGArc und41)) (RS.mv rfl rfl rfl rfl ?_)))))))
  refine sd ?_
  refine WPU.ghost (tm':=fr 49 [(0,.int .i64 p1),(1,.ptr 0 0 0),(3,.ptr 2 0 0),(4,.ptr 3 0 0),(17,.isl false (List.map cGArc x9.Arcs)),(18,.int .i64 (x9.Arcs.length:Int)),(19,.int .i64 0)]) (Gh.sub ⟨rfl,rfl,rfl,rfl,rfl,rfl,rfl,trivial⟩) (Nat.le_of_ble_eq_true rfl) ?_
  refine WPU.loopK (fun m tm σ=>∃ z18:Int,∃ l19:List Bool,∃ l20:List Bool,q3f p1 p2 p3 p4 x9 (q3i n) m z18 l19 l20=some r∧tm=fr 49 [(0,.int .i64 p1),(1,.ptr 0 0 0),(3,.ptr 2 0 0),(4,.ptr 3 0 0),(17,.isl false (List.map cGArc x9.Arcs)),(18,.int .i64 (x9.Arcs.length:Int)),(19,.int .i64 z18)]∧σ=⟨[(0,.row [.sl 4 0 p2 p2] 40),(1,.row [.isl false (List.map cGNode p3)] 25),(2,.row [.sl 5 0 p4 p4] 40),(3,.row [.fn (.func 35) [] [.ptr 0 0 0,.ptr 1 0 0,.ptr 2 0 0,.ptr 3 0 0]] 51),(4,.row (List.map cB l19).flatten 4),(5,.row (List.map cB l20).flatten 4)],6⟩) (fun tm σ=>∃ l21:List Bool,∃ l22:List Bool,q46 p1 p2 p4 l21 l22=some r∧tm=fr 49 [(0,.int .i64 p1),(1,.ptr 0 0 0),(3,.ptr 2 0 0)]∧σ=⟨[(0,.row [.sl 4 0 p2 p2] 40),(1,.row [.isl false (List.map cGNode p3)] 25),(2,.row [.sl 5 0 p4 p4] 40),(3,.row [.fn (.func 35) [] [.ptr 0 0 0,.ptr 1 0 0,.ptr 2 0 0,.ptr 3 0 0]] 51),(4,.row (List.map cB l21).flatten 4),(5,.row (List.map cB l22).flatten 4)],6⟩) n ⟨0,(p5.set p1.toNat true),p6,hF,rfl,rfl⟩ ?_ ?_
  rintro _ _ ⟨l21,l22,hF,rfl,rfl⟩
  unfold q46 at hF
  refine st ?_
  obtain ⟨x23,h24,hF⟩:=q00 hF
  obtain ⟨x25,h26,hF⟩:=q00 hF
  refine WPU.drawE Try.tb_ok [(2,5),(3,5)] (by kernel_rfl) ?_
  refine RD.q (u:=.sl 4 0 p2 p2) rfl (q05 und40 rfl rfl rfl rfl) (RD.mv rfl rfl rfl rfl (RD.q (u:=.sl 5 0 p4 p4) rfl (q05 und40 rfl rfl rfl rfl) (RD.mv rfl rfl rfl rfl (RD.q (u:=.ptr 4 0 (0*1+p1.toNat*1)) rfl (q2t rfl rfl (q9o und40 (q02 inf4) rfl h24)) (RD.actn (u:=.junk) (σ':=⟨[(0,.row [.sl 4 0 p2 p2] 40),(1,.row [.isl false (List.map cGNode p3)] 25),(2,.row [.sl 5 0 p4 p4] 40),(3,.row [.fn (.func 35) [] [.ptr 0 0 0,.ptr 1 0 0,.ptr 2 0 0,.ptr 3 0 0]] 51),(4,.row (List.map cB (l21.set p1.toNat false)).flatten 4),(5,.row (List.map cB l22).flatten 4)],6⟩) rfl (st_rl cB (q02 inf4) len_cB rfl rfl rfl rfl rfl rfl h24 rfl) rfl (RD.q (u:=.ptr 5 0 (0*1+p1.toNat*1)) rfl (q2t rfl rfl (q9o und40 (q02 inf4) rfl h26)) (RD.actn (u:=.junk) (σ':=⟨[(0,.row [.sl 4 0 p2 p2] 40),(1,.row [.isl false (List.map cGNode p3)] 25),(2,.row [.sl 5 0 p4 p4] 40),(3,.row [.fn (.func 35) [] [.ptr 0 0 0,.ptr 1 0 0,.ptr 2 0 0,.ptr 3 0 0]] 51),(4,.row (List.map cB (l21.set p1.toNat false)).flatten 4),(5,.row (List.map cB (l22.set p1.toNat true)).flatten 4)],6⟩) rfl (st_rl cB (q02 inf4) len_cB rfl rfl rfl rfl rfl rfl h26 rfl) rfl ?_)))))))
  refine RD.done ⟨by kernel_rfl,⟨q05 und40 rfl rfl rfl rfl,⟨q4d rfl,trivial⟩⟩,?_⟩
  refine sr ?_
  refine sd ?_
  refine WPU.ret ?_
  refine st ?_
  have hr:=Option.some.inj hF
  subst hr
  exact ⟨.inr rfl,[.bool false],q2k rfl (q20),.bool false,⟨[(0,.row [.sl 4 0 p2 p2] 40),(1,.row [.isl false (List.map cGNode p3)] 25),(2,.row [.sl 5 0 p4 p4] 40),(3,.row [.fn (.func 35) [] [.ptr 0 0 0,.ptr 1 0 0,.ptr 2 0 0,.ptr 3 0 0]] 51),(4,.row (List.map cB (l21.set p1.toNat false)).flatten 4),(5,.row (List.map cB (l22.set p1.toNat true)).flatten 4)],6⟩,(Nat.le_of_ble_eq_true rfl),Gh.to (n1:=6) [] rfl rfl (Nat.le_of_ble_eq_true rfl) (Nat.le_of_ble_eq_true rfl) BUL.h BH.h,stF [],rfl,rfl⟩
  rintro m1 _ _ ⟨z18,l19,l20,hF,rfl,rfl⟩
  rcases m1 with _ | m1
  cases hF
  unfold q3f at hF
  refine sr ?_
  refine RS.q rfl (q06 rfl rfl (q2s _ _ _) rfl) ?_
  refine sd ?_
  refine WPU.condS (t:=(decide (z18<(x9.Arcs.length:Int)))) rfl (fun h27=>?_) (fun h27=>?_)
  replace hF:=q0q h27 hF
  refine st ?_
  refine WPU.skip ?_
  refine st ?_
  refine WPU.block ?_
  refine st ?_
  obtain ⟨x28,h29,hF⟩:=q00 hF
  refine sr ?_
  refine RS.q (u:=.iptr (cGArc x28)) rfl (q2t rfl rfl (q45 cGArc und41 (q02 inf45) q17 h29 rfl)) (RS.q (u:=.agg (cGArc x28)) rfl (q9j und45 rfl (q02 inf45) rfl rfl) (RS.q (u:=.ptr 6 0 0) (σ':=⟨[(6,.row [.int .i64 0,.int .i64 0] 45),(0,.row [.sl 4 0 p2 p2] 40),(1,.row [.isl false (List.map cGNode p3)] 25),(2,.row [.sl 5 0 p4 p4] 40),(3,.row [.fn (.func 35) [] [.ptr 0 0 0,.ptr 1 0 0,.ptr 2 0 0,.ptr 3 0 0]] 51),(4,.row (List.map cB l19).flatten 4),(5,.row (List.map cB l20).flatten 4)],7⟩) rfl (q0v inf45 rfl rfl) (RS.opn (u:=.junk) (σ':=⟨[(6,.row (cGArc x28) 45),(0,.row [.sl 4 0 p2 p2] 40),(1,.row [.isl false (List.map cGNode p3)] 25),(2,.row [.sl 5 0 p4 p4] 40),(3,.row [.fn (.func 35) [] [.ptr 0 0 0,.ptr 1 0 0,.ptr 2 0 0,.ptr 3 0 0]] 51),(4,.row (List.map cB l19).flatten 4),(5,.row (List.map cB l20).flatten 4)],7⟩) rfl (q0e (q02 inf45) rfl rfl rfl rfl rfl rfl rfl rfl) rfl ?_)))
  refine sd ?_
  obtain ⟨j43,h42,hF⟩:=q00 hF
  refine WPU.joinK (fun tm σ=>tm=fr 49 [(0,.int .i64 p1),(1,.ptr 0 0 0),(3,.ptr 2 0 0),(4,.ptr 3 0 0),(17,.isl false (List.map cGArc x9.Arcs)),(18,.int .i64 (x9.Arcs.length:Int)),(19,.int .i64 z18),(41,.bool j43.1)]∧σ=⟨[(6,.row (cGArc x28) 45),(0,.row [.sl 4 0 p2 p2] 40),(1,.row [.isl false (List.map cGNode p3)] 25),(2,.row [.sl 5 0 p4 p4] 40),(3,.row [.fn (.func 35) [] [.ptr 0 0 0,.ptr 1 0 0,.ptr 2 0 0,.ptr 3 0 0]] 51),(4,.row (List.map cB j43.2.1).flatten 4),(5,.row (List.map cB j43.2.2).flatten 4)],7⟩) ?_ ?_
  rintro _ _ ⟨rfl,rfl⟩
  refine st ?_
  refine WPU.condS (t:=j43.1) rfl (fun h44=>?_) (fun h44=>?_)
  replace hF:=q0q h44 hF
  refine sr ?_
  refine sd ?_
  refine WPU.ret ?_
  refine st ?_
  have hr:=Option.some.inj hF
  subst hr
  exact ⟨.inr rfl,[.bool true],q2k rfl (q20),.bool true,⟨[(0,.row [.sl 4 0 p2 p2] 40),(1,.row [.isl false (List.map cGNode p3)] 25),(2,.row [.sl 5 0 p4 p4] 40),(3,.row [.fn (.func 35) [] [.ptr 0 0 0,.ptr 1 0 0,.ptr 2 0 0,.ptr 3 0 0]] 51),(4,.row (List.map cB j43.2.1).flatten 4),(5,.row (List.map cB j43.2.2).flatten 4)],6⟩,(Nat.le_of_ble_eq_true rfl),Gh.to (n1:=6) [] rfl rfl (Nat.le_of_ble_eq_true rfl) (Nat.le_of_ble_eq_true rfl) BUL.h BH.h,stF [],rfl,rfl⟩
  replace hF:=q0p h44 hF
  refine st ?_
  refine WPU.skip ?_
  refine sr ?_
  refine RS.q rfl (q06 rfl rfl (q3w _ _ _) rfl) (RS.mv rfl rfl rfl rfl ?_)
  refine sd ?_
  exact ⟨m1,_,_,Nat.lt_succ_self _,⟨(IntKind.i64.wrap (z18+1)),j43.2.1,j43.2.2,hF,rfl,rfl⟩,(Nat.le_of_ble_eq_true rfl),Gh.toC (n1:=6) ⟨rfl,rfl,rfl,rfl,rfl,rfl,rfl,trivial⟩ rfl (Nat.le_of_ble_eq_true rfl) (by simp)⟩
  obtain ⟨x30,h31,h42⟩:=q00 h42
  rcases q3m x30 with h32 | h32
  replace h42:=q0q h32 h42
  replace h42:=Option.some.inj h42
  subst h42
  refine sr ?_
  refine RS.q (u:=.sl 4 0 p2 p2) rfl (q05 und40 rfl rfl rfl rfl) (RS.q (u:=.ptr 6 0 1) rfl (q0z und45 rfl (q02 inf3) rfl rfl rfl) (RS.q (u:=.int .i64 x28.To) rfl (q05 und3 rfl rfl rfl rfl) (RS.q (u:=.ptr 4 0 (0*1+x28.To.toNat*1)) rfl (q2t rfl rfl (q9o und40 (q02 inf4) rfl h31)) (RS.q (u:=.bool x30) rfl (qaq cB (fun x=>.bool x) und4 rfl (fun _=>rfl) rfl rfl h31) (RS.mv rfl rfl rfl rfl ?_)))))
  repeat refine RS.no (want0 rfl rfl rfl h32) rfl rfl ?_
  repeat refine RS.no (wantT rfl rfl rfl) rfl rfl ?_
  refine RS.no (want0 rfl rfl rfl h32) rfl rfl (RS.q (u:=.bool true) rfl (q0n rfl h32 rfl) ?_)
  refine sd ?_
  exact ⟨_,_,⟨rfl,rfl⟩,(Nat.le_of_ble_eq_true rfl),Gh.toC (n1:=7) ⟨rfl,rfl,rfl,rfl,rfl,rfl,rfl,rfl,trivial⟩ rfl (Nat.le_of_ble_eq_true rfl) (by simp)⟩
  replace h42:=q0p h32 h42
  obtain ⟨x33,h34,h42⟩:=q00 h42
  rcases q3m (!x33) with h35 | h35
  replace h42:=q0q h35 h42
  obtain ⟨r36,h37,h42⟩:=q00 h42
  replace h42:=Option.some.inj h42
  subst h42
  refine sr ?_
  refine RS.q (u:=.sl 4 0 p2 p2) rfl (q05 und40 rfl rfl rfl rfl) (RS.q (u:=.ptr 6 0 1) rfl (q0z und45 rfl (q02 inf3) rfl rfl rfl) (RS.q (u:=.int .i64 x28.To) rfl (q05 und3 rfl rfl rfl rfl) (RS.q (u:=.ptr 4 0 (0*1+x28.To.toNat*1)) rfl (q2t rfl rfl (q9o und40 (q02 inf4) rfl h31)) (RS.q (u:=.bool x30) rfl (qaq cB (fun x=>.bool x) und4 rfl (fun _=>rfl) rfl rfl h31) (RS.mv rfl rfl rfl rfl (RS.op (u:=.sl 5 0 p4 p4) (want1 rfl rfl rfl h32) (q05 und40 rfl rfl rfl rfl) rfl rfl (RS.op (u:=.ptr 6 0 1) (want1 rfl rfl rfl h32) (q0z und45 rfl (q02 inf3) rfl rfl rfl) rfl rfl ?_)))))))
  refine RS.op (u:=.int .i64 x28.To) (want1 rfl rfl rfl h32) (q05 und3 rfl rfl rfl rfl) rfl rfl (RS.op (u:=.ptr 5 0 (0*1+x28.To.toNat*1)) (want1 rfl rfl rfl h32) (q2t rfl rfl (q9o und40 (q02 inf4) rfl h34)) rfl rfl (RS.op (u:=.bool x33) (want1 rfl rfl rfl h32) (qaq cB (fun x=>.bool x) und4 rfl (fun _=>rfl) rfl rfl h34) rfl rfl (RS.op (u:=.bool (!x33)) (want1 rfl rfl rfl h32) (q8j rfl rfl rfl rfl) rfl rfl (RS.op (want1 rfl rfl rfl h32) (q4d rfl) rfl rfl (RS.op (u:=.fn (.func 35) [] [.ptr 0 0 0,.ptr 1 0 0,.ptr 2 0 0,.ptr 3 0 0]) (want1 rfl rfl rfl h35) (q05 und51 rfl rfl rfl rfl) rfl rfl (RS.op (u:=.ptr 6 0 1) (want1 rfl rfl rfl h35) (q0z und45 rfl (q02 inf3) rfl rfl rfl) rfl rfl (RS.op (u:=.int .i64 x28.To) (want1 rfl rfl rfl h35) (q05 und3 rfl rfl rfl rfl) rfl rfl ?_)))))))
  refine RS.callx (R:=fun u σ'=>∃ t38:Nat→Nat,u = .bool r36.1∧σ'=⟨[(6,.row (cGArc x28) 45),(0,.row [.sl 4 0 p2 p2] 40),(1,.row [.isl false (List.map cGNode p3)] 25),(2,.row [.sl 5 0 p4 p4] 40),(3,.row [.fn (.func 35) [] [.ptr 0 0 0,.ptr 1 0 0,.ptr 2 0 0,.ptr 3 0 0]] 51),(4,.row (List.map cB r36.2.1).flatten 4),(5,.row (List.map cB r36.2.2).flatten 4)],7⟩) (args:=[.int .i64 x28.To,.ptr 0 0 0,.ptr 1 0 0,.ptr 2 0 0,.ptr 3 0 0]) (want1 rfl rfl rfl h35) (q01 rfl rfl fn35 hb35 rfl rfl) (EvU.st [0,1,2,3,4,5] (ih x28.To p2 p3 p4 l19 l20 r36 h37 )) rfl rfl ?_
  rintro _ _ ⟨t38,rfl,rfl⟩
  refine RS.op (u:=.bool r36.1) (want1 rfl rfl rfl h32) (q0n rfl h35 rfl) rfl rfl (RS.q (u:=.bool r36.1) rfl (q0m rfl h32 rfl) ?_)
  refine sd ?_
  exact ⟨_,_,⟨rfl,rfl⟩,(Nat.le_of_ble_eq_true rfl),Gh.toC (n1:=7) ⟨rfl,rfl,rfl,rfl,rfl,rfl,rfl,rfl,trivial⟩ rfl (Nat.le_of_ble_eq_true rfl) (by simp)⟩
  replace h42:=q0p h35 h42
  replace h42:=Option.some.inj h42
  subst h42
  refine sr ?_
  refine RS.q (u:=.sl 4 0 p2 p2) rfl (q05 und40 rfl rfl rfl rfl) (RS.q (u:=.ptr 6 0 1) rfl (q0z und45 rfl (q02 inf3) rfl rfl rfl) (RS.q (u:=.int .i64 x28.To) rfl (q05 und3 rfl rfl rfl rfl) (RS.q (u:=.ptr 4 0 (0*1+x28.To.toNat*1)) rfl (q2t rfl rfl (q9o und40 (q02 inf4) rfl h31)) (RS.q (u:=.bool x30) rfl (qaq cB (fun x=>.bool x) und4 rfl (fun _=>rfl) rfl rfl h31) (RS.mv rfl rfl rfl rfl (RS.op (u:=.sl 5 0 p4 p4) (want1 rfl rfl rfl h32) (q05 und40 rfl rfl rfl rfl) rfl rfl (RS.op (u:=.ptr 6 0 1) (want1 rfl rfl rfl h32) (q0z und45 rfl (q02 inf3) rfl rfl rfl) rfl rfl ?_)))))))
  refine RS.op (u:=.int .i64 x28.To) (want1 rfl rfl rfl h32) (q05 und3 rfl rfl rfl rfl) rfl rfl (RS.op (u:=.ptr 5 0 (0*1+x28.To.toNat*1)) (want1 rfl rfl rfl h32) (q2t rfl rfl (q9o und40 (q02 inf4) rfl h34)) rfl rfl (RS.op (u:=.bool x33) (want1 rfl rfl rfl h32) (qaq cB (fun x=>.bool x) und4 rfl (fun _=>rfl) rfl rfl h34) rfl rfl (RS.op (u:=.bool (!x33)) (want1 rfl rfl rfl h32) (q8j rfl rfl rfl rfl) rfl rfl (RS.op (want1 rfl rfl rfl h32) (q4d rfl) rfl rfl ?_))))
  repeat refine RS.no (want0 rfl rfl rfl h35) rfl rfl ?_
  refine RS.op (u:=.bool false) (want1 rfl rfl rfl h32) (q0m rfl h35 rfl) rfl rfl (RS.q (u:=.bool false) rfl (q0m rfl h32 rfl) ?_)
  refine sd ?_
  exact ⟨_,_,⟨rfl,rfl⟩,(Nat.le_of_ble_eq_true rfl),Gh.toC (n1:=7) ⟨rfl,rfl,rfl,rfl,rfl,rfl,rfl,rfl,trivial⟩ rfl (Nat.le_of_ble_eq_true rfl) (by simp)⟩
  replace hF:=q0p h27 hF
  refine st ?_
  refine WPU.exit ?_
  refine st ?_
  exact ⟨_,_,⟨l19,l20,hF,rfl,rfl⟩,(Nat.le_of_ble_eq_true rfl),Gh.toC (n1:=6) ⟨rfl,rfl,rfl,trivial⟩ rfl (Nat.le_of_ble_eq_true rfl) (by simp)⟩
def q5p  (l12:List Bool) (l13:List Bool):Option (Bool) :=
 some false
def q4l (p1:GFS) (n:Nat):Nat→Int→(List Bool)→(List Bool)→Option (Bool)
 | 0,_,_,_=>none
 | m1+1,z9,l10,l11 =>
  cond (decide (z9<(p1.Nodes.length:Int)))
   (bindO (bindO (idxV l10 0 ((p1.Nodes.length:Int).toNat) z9) fun x15 =>
   cond (!x15)
    (bindO (q3i n z9 ((p1.Nodes.length:Int).toNat) p1.Nodes ((p1.Nodes.length:Int).toNat) l11 l10) fun r18 =>
    some (r18.1,r18.2.2,r18.2.1))
    (some (false,l10,l11))) fun j25 =>
   cond j25.1
    (some true)
    ((q4l p1 n m1) (IntKind.i64.wrap (z9+1)) j25.2.1 j25.2.2))
   (q5p l10 l11)
def q53 (n:Nat) (p1:GFS):Option (Bool) :=
 needO (0≤(p1.Nodes.length:Int)∧1*(p1.Nodes.length:Int).toNat≤281474976710656∧(p1.Nodes.length:Int)≤281474976710656) (
 needO (0≤(p1.Nodes.length:Int)∧1*(p1.Nodes.length:Int).toNat≤281474976710656∧(p1.Nodes.length:Int)≤281474976710656) (
 q4l p1 n n 0 (List.replicate (p1.Nodes.length:Int).toNat false) (List.replicate (p1.Nodes.length:Int).toNat false)))
theorem graph_Cyclic_0 (n:Nat) (p1:GFS) (r:Bool) (hF:q53 n p1=some r):EvU Try.prog 22 [.agg [.isl false (List.map cGNode p1.Nodes)]] ⟨[],0⟩ (fun u _=>u = .bool r∧Bel 0 u):=by
 unfold q53 at hF
 refine EvU.of_body Try.tb_ok fn22 rfl ?_
 refine WPU.ghost (tm':=fr 33 [(0,.agg [.isl false (List.map cGNode p1.Nodes)])]) (Gh.start (Nat.le_of_ble_eq_true rfl)) (Nat.zero_le _) ?_
 refine sr ?_
 refine RS.q (u:=.ptr 0 0 0) (σ':=⟨[(0,.row [.isl false (List.map cGNode p1.Nodes)] 25)],1⟩) rfl (q3u rfl rfl rfl) ?_
 refine sd ?_
 obtain ⟨h2,hF⟩:=q2h hF
 obtain ⟨h3,hF⟩:=q2h hF
 refine WPU.drawQ Try.tb_ok [(3,some ((p1.Nodes.length:Int).toNat),(List.map cB (List.replicate (p1.Nodes.length:Int).toNat false)).flatten,4),(7,some ((p1.Nodes.length:Int).toNat),(List.map cB (List.replicate (p1.Nodes.length:Int).toNat false)).flatten,4),(8,none,[.nils],40),(9,none,[.nils],40)] [(4,10),(5,10),(6,10)] (nb:=1) (σe:=⟨[(0,.row [.isl false (List.map cGNode p1.Nodes)] 25)],5⟩) (σ1:=⟨[(4,.row [.nils] 40),(3,.row [.nils] 40),(2,.row (List.map cB (List.replicate (p1.Nodes.length:Int).toNat false)).flatten 4),(1,.row (List.map cB (List.replicate (p1.Nodes.length:Int).toNat false)).flatten 4),(0,.row [.isl false (List.map cGNode p1.Nodes)] 25)],5⟩) (q:=[⟨3,1,some ((p1.Nodes.length:Int).toNat),(List.map cB (List.replicate (p1.Nodes.length:Int).toNat false)).flatten,4⟩,⟨7,2,some ((p1.Nodes.length:Int).toNat),(List.map cB (List.replicate (p1.Nodes.length:Int).toNat false)).flatten,4⟩,⟨8,3,none,[.nils],40⟩,⟨9,4,none,[.nils],40⟩]) (by kernel_rfl) (List.cons_ne_nil _ _) ⟨(q2i 0 (fun q=>bel_cB _ q) (List.replicate (p1.Nodes.length:Int).toNat false)),(q2i 0 (fun q=>bel_cB _ q) (List.replicate (p1.Nodes.length:Int).toNat false)),BUL.h,BUL.h,trivial⟩ rfl rfl rfl rfl ?_
 refine RQ.early (u:=.ptr 0 0 0) rfl (q0z und25 rfl (q02 inf23) rfl rfl rfl) (q0z und25 rfl (q02 inf23) rfl rfl rfl) rfl BU.h rfl rfl ?_
 refine RQ.early (u:=.isl false (List.map cGNode p1.Nodes)) rfl (q05 und23 rfl rfl rfl rfl) (q05 und23 rfl rfl rfl rfl) rfl BU.h rfl rfl ?_
 refine RQ.early (u:=.int .i64 (p1.Nodes.length:Int)) rfl (q1e rfl rfl rfl (q1n cGNode und23)) (q1e rfl rfl rfl (q1n cGNode und23)) rfl BU.h rfl rfl ?_
 refine RQ.alloc rfl (fun s=>op_mks cB false rfl rfl und40 inf4 rfl rfl rfl rfl h2) rfl rfl rfl ?_
 refine RQ.early (u:=.ptr 0 0 0) rfl (q0z und25 rfl (q02 inf23) rfl rfl rfl) (q0z und25 rfl (q02 inf23) rfl rfl rfl) rfl BU.h rfl rfl ?_
 refine RQ.early (u:=.isl false (List.map cGNode p1.Nodes)) rfl (q05 und23 rfl rfl rfl rfl) (q05 und23 rfl rfl rfl rfl) rfl BU.h rfl rfl ?_
 refine RQ.early (u:=.int .i64 (p1.Nodes.length:Int)) rfl (q1e rfl rfl rfl (q1n cGNode und23)) (q1e rfl rfl rfl (q1n cGNode und23)) rfl BU.h rfl rfl ?_
 refine RQ.alloc rfl (fun s=>op_mks cB false rfl rfl und40 inf4 rfl rfl rfl rfl h3) rfl rfl rfl ?_
 refine RQ.alloc rfl (fun s=>q0v inf40 rfl rfl) rfl rfl rfl ?_
 refine RQ.alloc rfl (fun s=>q0v inf40 rfl rfl) rfl rfl rfl ?_
 refine RQ.loc (mk:=783) (σ':=⟨[(4,.row [.nils] 40),(3,.row [.sl 1 0 ((p1.Nodes.length:Int).toNat) ((p1.Nodes.length:Int).toNat)] 40),(2,.row (List.map cB (List.replicate (p1.Nodes.length:Int).toNat false)).flatten 4),(1,.row (List.map cB (List.replicate (p1.Nodes.length:Int).toNat false)).flatten 4),(0,.row [.isl false (List.map cGNode p1.Nodes)] 25)],5⟩) rfl (store_loc (q02 inf40) rfl rfl rfl rfl rfl rfl) (by kernel_rfl) rfl rfl rfl rfl ⟨.inl (show Nat.testBit 783 3=true by decide),⟨.inr ⟨show (2:Nat)≠3 by decide,BUL.h⟩,⟨.inl (show Nat.testBit 783 8=true by decide),⟨.inl (show Nat.testBit 783 9=true by decide),trivial⟩⟩⟩⟩ ?_
 refine RQ.actn (u:=.junk) (σ':=⟨[(4,.row [.sl 2 0 ((p1.Nodes.length:Int).toNat) ((p1.Nodes.length:Int).toNat)] 40),(3,.row [.sl 1 0 ((p1.Nodes.length:Int).toNat) ((p1.Nodes.length:Int).toNat)] 40),(2,.row (List.map cB (List.replicate (p1.Nodes.length:Int).toNat false)).flatten 4),(1,.row (List.map cB (List.replicate (p1.Nodes.length:Int).toNat false)).flatten 4),(0,.row [.isl false (List.map cGNode p1.Nodes)] 25)],5⟩) rfl (q0e (q02 inf40) rfl rfl rfl rfl rfl rfl rfl rfl) rfl ?_
 refine RQ.done ⟨by kernel_rfl,by kernel_rfl,⟨q0z und25 rfl (q02 inf23) rfl rfl rfl,⟨q05 und23 rfl rfl rfl rfl,⟨q1e rfl rfl rfl (q1n cGNode und23),trivial⟩⟩⟩,?_⟩
 refine sr ?_
 refine RS.q (u:=.ptr 5 0 0) (σ':=⟨[(5,.row [.nilf] 51),(4,.row [.sl 2 0 ((p1.Nodes.length:Int).toNat) ((p1.Nodes.length:Int).toNat)] 40),(3,.row [.sl 1 0 ((p1.Nodes.length:Int).toNat) ((p1.Nodes.length:Int).toNat)] 40),(2,.row (List.map cB (List.replicate (p1.Nodes.length:Int).toNat false)).flatten 4),(1,.row (List.map cB (List.replicate (p1.Nodes.length:Int).toNat false)).flatten 4),(0,.row [.isl false (List.map cGNode p1.Nodes)] 25)],6⟩) rfl (q0v inf51 rfl rfl) ?_
 refine se ?_
 refine RS.q rfl (op_fun rfl rfl) (RS.opn (u:=.junk) (σ':=⟨[(5,.row [.fn (.func 35) [] [.ptr 3 0 0,.ptr 0 0 0,.ptr 4 0 0,.ptr 5 0 0]] 51),(4,.row [.sl 2 0 ((p1.Nodes.length:Int).toNat) ((p1.Nodes.length:Int).toNat)] 40),(3,.row [.sl 1 0 ((p1.Nodes.length:Int).toNat) ((p1.Nodes.length:Int).toNat)] 40),(2,.row (List.map cB (List.replicate (p1.Nodes.length:Int).toNat false)).flatten 4),(1,.row (List.map cB (List.replicate (p1.Nodes.length:Int).toNat false)).flatten 4),(0,.row [.isl false (List.map cGNode p1.Nodes)] 25)],6⟩) rfl (q0e (q02 inf51) rfl rfl rfl rfl rfl rfl rfl rfl) rfl ?_)
 refine se ?_
 refine RS.q (u:=.ptr 0 0 0) rfl (q0z und25 rfl (q02 inf23) rfl rfl rfl) (RS.q (u:=.isl false (List.map cGNode p1.Nodes)) rfl (q05 und23 rfl rfl rfl rfl) (RS.q rfl (q1e rfl rfl rfl (q1n cGNode und23)) (RS.mv rfl rfl rfl rfl ?_)))
 refine sd ?_
 refine WPU.ghost (tm':=fr 33 [(4,.ptr 4 0 0),(5,.ptr 5 0 0),(18,.int .i64 (p1.Nodes.length:Int)),(19,.int .i64 0)]) (Gh.sub ⟨rfl,rfl,rfl,rfl,trivial⟩) (Nat.zero_le _) ?_
 refine WPU.loopK (fun m tm σ=>∃ z9:Int,∃ l10:List Bool,∃ l11:List Bool,q4l p1 n m z9 l10 l11=some r∧tm=fr 33 [(4,.ptr 4 0 0),(5,.ptr 5 0 0),(18,.int .i64 (p1.Nodes.length:Int)),(19,.int .i64 z9)]∧σ=⟨[(5,.row [.fn (.func 35) [] [.ptr 3 0 0,.ptr 0 0 0,.ptr 4 0 0,.ptr 5 0 0]] 51),(4,.row [.sl 2 0 ((p1.Nodes.length:Int).toNat) ((p1.Nodes.length:Int).toNat)] 40),(3,.row [.sl 1 0 ((p1.Nodes.length:Int).toNat) ((p1.Nodes.length:Int).toNat)] 40),(2,.row (List.map cB l10).flatten 4),(1,.row (List.map cB l11).flatten 4),(0,.row [.isl false (List.map cGNode p1.Nodes)] 25)],6⟩) (fun tm σ=>∃ l12:List Bool,∃ l13:List Bool,q5p l12 l13=some r∧tm=fr 33 []∧σ=⟨[(5,.row [.fn (.func 35) [] [.ptr 3 0 0,.ptr 0 0 0,.ptr 4 0 0,.ptr 5 0 0]] 51),(4,.row [.sl 2 0 ((p1.Nodes.length:Int).toNat) ((p1.Nodes.length:Int).toNat)] 40),(3,.row [.sl 1 0 ((p1.Nodes.length:Int).toNat) ((p1.Nodes.length:Int).toNat)] 40),(2,.row (List.map cB l12).flatten 4),(1,.row (List.map cB l13).flatten 4),(0,.row [.isl false (List.map cGNode p1.Nodes)] 25)],6⟩) n ⟨0,(List.replicate (p1.Nodes.length:Int).toNat false),(List.replicate (p1.Nodes.length:Int).toNat false),hF,rfl,rfl⟩ ?_ ?_
 rintro _ _ ⟨l12,l13,hF,rfl,rfl⟩
 unfold q5p at hF
 refine sr ?_
 refine sd ?_
 refine WPU.ret ?_
 refine st ?_
 have hr:=Option.some.inj hF
 subst hr
 exact ⟨.inr rfl,[.bool false],q2k rfl (q20),.bool false,⟨[],0⟩,Nat.le_refl _,Gh.toR (.bool false) rfl,rfl,BU.h⟩
 rintro m1 _ _ ⟨z9,l10,l11,hF,rfl,rfl⟩
 rcases m1 with _ | m1
 cases hF
 unfold q4l at hF
 refine sr ?_
 refine RS.q rfl (q06 rfl rfl (q2s _ _ _) rfl) ?_
 refine sd ?_
 refine WPU.condS (t:=(decide (z9<(p1.Nodes.length:Int)))) rfl (fun h14=>?_) (fun h14=>?_)
 replace hF:=q0q h14 hF
 refine st ?_
 refine WPU.skip ?_
 refine st ?_
 refine WPU.block ?_
 refine sr ?_
 refine sd ?_
 obtain ⟨j25,h24,hF⟩:=q00 hF
 refine WPU.joinK (fun tm σ=>tm=fr 33 [(4,.ptr 4 0 0),(5,.ptr 5 0 0),(18,.int .i64 (p1.Nodes.length:Int)),(19,.int .i64 z9),(31,.bool j25.1)]∧σ=⟨[(5,.row [.fn (.func 35) [] [.ptr 3 0 0,.ptr 0 0 0,.ptr 4 0 0,.ptr 5 0 0]] 51),(4,.row [.sl 2 0 ((p1.Nodes.length:Int).toNat) ((p1.Nodes.length:Int).toNat)] 40),(3,.row [.sl 1 0 ((p1.Nodes.length:Int).toNat) ((p1.Nodes.length:Int).toNat)] 40),(2,.row (List.map cB j25.2.1).flatten 4),(1,.row (List.map cB j25.2.2).flatten 4),(0,.row [.isl false (List.map cGNode p1.Nodes)] 25)],6⟩) ?_ ?_
 rintro _ _ ⟨rfl,rfl⟩
 refine st ?_
 refine WPU.condS (t:=j25.1) rfl (fun h26=>?_) (fun h26=>?_)
 replace hF:=q0q h26 hF
 refine sr ?_
 refine sd ?_
 refine WPU.ret ?_
 refine st ?_
 have hr:=Option.some.inj hF
 subst hr
 exact ⟨.inr rfl,[.bool true],q2k rfl (q20),.bool true,⟨[],0⟩,Nat.le_refl _,Gh.toR (.bool true) rfl,rfl,BU.h⟩
 replace hF:=q0p h26 hF
 refine st ?_
 refine WPU.skip ?_
 refine sr ?_
 refine RS.q rfl (q06 rfl rfl (q3w _ _ _) rfl) (RS.mv rfl rfl rfl rfl ?_)
 refine sd ?_
 exact ⟨m1,_,_,Nat.lt_succ_self _,⟨(IntKind.i64.wrap (z9+1)),j25.2.1,j25.2.2,hF,rfl,rfl⟩,(Nat.zero_le _),Gh.toC (n1:=6) ⟨rfl,rfl,rfl,rfl,trivial⟩ rfl (Nat.zero_le _) (by simp)⟩
 obtain ⟨x15,h16,h24⟩:=q00 h24
 rcases q3m (!x15) with h17 | h17
 replace h24:=q0q h17 h24
 obtain ⟨r18,h19,h24⟩:=q00 h24
 replace h24:=Option.some.inj h24
 subst h24
 refine sr ?_
 refine RS.q (u:=.sl 2 0 ((p1.Nodes.length:Int).toNat) ((p1.Nodes.length:Int).toNat)) rfl (q05 und40 rfl rfl rfl rfl) (RS.mv rfl rfl rfl rfl (RS.q (u:=.ptr 2 0 (0*1+z9.toNat*1)) rfl (q2t rfl rfl (q9o und40 (q02 inf4) rfl h16)) (RS.q (u:=.bool x15) rfl (qaq cB (fun x=>.bool x) und4 rfl (fun _=>rfl) rfl rfl h16) (RS.q (u:=.bool (!x15)) rfl (q8j rfl rfl rfl rfl) (RS.mv rfl rfl rfl rfl (RS.op (u:=.fn (.func 35) [] [.ptr 3 0 0,.ptr 0 0 0,.ptr 4 0 0,.ptr 5 0 0]) (want1 rfl rfl rfl h17) (q05 und51 rfl rfl rfl rfl) rfl rfl (RS.op (want1 rfl rfl rfl h17) (q4d rfl) rfl rfl ?_)))))))
 refine RS.callx (R:=fun u σ'=>∃ t20:Nat→Nat,u = .bool r18.1∧σ'=⟨[(5,.row [.fn (.func 35) [] [.ptr 3 0 0,.ptr 0 0 0,.ptr 4 0 0,.ptr 5 0 0]] 51),(4,.row [.sl 2 0 ((p1.Nodes.length:Int).toNat) ((p1.Nodes.length:Int).toNat)] 40),(3,.row [.sl 1 0 ((p1.Nodes.length:Int).toNat) ((p1.Nodes.length:Int).toNat)] 40),(2,.row (List.map cB r18.2.2).flatten 4),(1,.row (List.map cB r18.2.1).flatten 4),(0,.row [.isl false (List.map cGNode p1.Nodes)] 25)],6⟩) (args:=[.int .i64 z9,.ptr 3 0 0,.ptr 0 0 0,.ptr 4 0 0,.ptr 5 0 0]) (want1 rfl rfl rfl h17) (q01 rfl rfl fn35 hb35 rfl rfl) (EvU.st [3,0,4,5,1,2] (q5n n z9 ((p1.Nodes.length:Int).toNat) p1.Nodes ((p1.Nodes.length:Int).toNat) l11 l10 r18 h19 )) rfl rfl ?_
 rintro _ _ ⟨t20,rfl,rfl⟩
 refine RS.q (u:=.bool r18.1) rfl (q0n rfl h17 rfl) ?_
 refine sd ?_
 exact ⟨_,_,⟨rfl,rfl⟩,(Nat.zero_le _),Gh.toC (n1:=6) ⟨rfl,rfl,rfl,rfl,rfl,trivial⟩ rfl (Nat.zero_le _) (by simp)⟩
 replace h24:=q0p h17 h24
 replace h24:=Option.some.inj h24
 subst h24
 refine sr ?_
 refine RS.q (u:=.sl 2 0 ((p1.Nodes.length:Int).toNat) ((p1.Nodes.length:Int).toNat)) rfl (q05 und40 rfl rfl rfl rfl) (RS.mv rfl rfl rfl rfl (RS.q (u:=.ptr 2 0 (0*1+z9.toNat*1)) rfl (q2t rfl rfl (q9o und40 (q02 inf4) rfl h16)) (RS.q (u:=.bool x15) rfl (qaq cB (fun x=>.bool x) und4 rfl (fun _=>rfl) rfl rfl h16) (RS.q (u:=.bool (!x15)) rfl (q8j rfl rfl rfl rfl) (RS.mv rfl rfl rfl rfl ?_)))))
 repeat refine RS.no (want0 rfl rfl rfl h17) rfl rfl ?_
 refine RS.q (u:=.bool false) rfl (q0m rfl h17 rfl) ?_
 refine sd ?_
 exact ⟨_,_,⟨rfl,rfl⟩,(Nat.zero_le _),Gh.toC (n1:=6) ⟨rfl,rfl,rfl,rfl,rfl,trivial⟩ rfl (Nat.zero_le _) (by simp)⟩
 replace hF:=q0p h14 hF
 refine st ?_
 refine WPU.exit ?_
 refine st ?_
 exact ⟨_,_,⟨l10,l11,hF,rfl,rfl⟩,(Nat.zero_le _),Gh.toC (n1:=6) trivial rfl (Nat.zero_le _) (by simp)⟩
theorem q23 (n:Nat) (p1:GFS) (r:Bool) (hF:q53 n p1=some r) (σ:Sg):EvU Try.prog 22 [.agg [.isl false (List.map cGNode p1.Nodes)]] σ (fun u σ'=>u = .bool r∧σ'=σ) :=
 EvU.pure1C (graph_Cyclic_0 n p1 r hF) σ
def q1r (p1:List GNode) (p2:List GNode)  : Option (Int) :=
 cond (decide ((p1.length:Int)<(p2.length:Int)))
  (some (-1))
  (some 0)
def q15 (p1:List GNode) (p2:List GNode) (f2:GNode→GNode→Option (Int)):Nat→Int→Option (Int)
 | 0,_=>none
 | m1+1,z8 =>
  cond (decide (z8<(p1.length:Int)))
   (bindO (idxO p1 z8) fun x11 =>
   cond (decide (z8 ≥ (p2.length:Int)))
    (some 1)
    (bindO (idxO p2 z8) fun x14 =>
    bindO (f2 x11 x14) fun r16 =>
    cond (r16 != 0)
     (some r16)
     ((q15 p1 p2 f2 m1) (IntKind.i64.wrap (z8+1)))))
   (q1r p1 p2)
def q19 (f2:GNode→GNode→Option (Int)) (n:Nat) (p1:List GNode) (p2:List GNode):Option (Int) :=
 q15 p1 p2 f2 n 0
theorem q43 (f2:GNode→GNode→Option (Int)) (hf2:∀ (a0:GNode) (a1:GNode) (r:Int),f2 a0 a1=some r→EvU Try.prog 38 [.agg (cGNode a0),.agg (cGNode a1)] ⟨[],0⟩ (fun u _=>u = .int .i64 r∧Bel 0 u)) (n:Nat) (p1:List GNode) (p2:List GNode) (r:Int) (hF:q19 f2 n p1 p2=some r):EvU Try.prog 37 [.isl false (List.map cGNode p1),.isl false (List.map cGNode p2),.fn (.func 38) [] []] ⟨[],0⟩ (fun u _=>u = .int .i64 r∧Bel 0 u):=by
 unfold q19 at hF
 have hf2S:∀ (a0:GNode) (a1:GNode) (r:Int),f2 a0 a1=some r→∀ σ,EvU Try.prog 38 [.agg (cGNode a0),.agg (cGNode a1)] σ (fun u σ'=>u = .int .i64 r∧σ'=σ):=fun a0 a1 r h σ=>EvU.pure1C (hf2 a0 a1 r h) σ
 refine EvU.of_body Try.tb_ok fn37 rfl ?_
 refine WPU.ghost (tm':=fr 39 [(0,.isl false (List.map cGNode p1)),(1,.isl false (List.map cGNode p2)),(2,.fn (.func 38) [] [])]) (Gh.start (Nat.le_of_ble_eq_true rfl)) (Nat.zero_le _) ?_
 refine sr ?_
 refine se ?_
 refine RS.q rfl (q1e rfl rfl rfl (q1n cGNode und23)) (RS.mv rfl rfl rfl rfl ?_)
 refine sd ?_
 refine WPU.ghost (tm':=fr 39 [(0,.isl false (List.map cGNode p1)),(1,.isl false (List.map cGNode p2)),(2,.fn (.func 38) [] []),(11,.isl false (List.map cGNode p1)),(12,.int .i64 (p1.length:Int)),(13,.int .i64 0)]) (Gh.sub ⟨rfl,rfl,rfl,rfl,rfl,rfl,trivial⟩) (Nat.zero_le _) ?_
 refine WPU.loopK (fun m tm σ=>∃ z8:Int,q15 p1 p2 f2 m z8=some r∧tm=fr 39 [(0,.isl false (List.map cGNode p1)),(1,.isl false (List.map cGNode p2)),(2,.fn (.func 38) [] []),(11,.isl false (List.map cGNode p1)),(12,.int .i64 (p1.length:Int)),(13,.int .i64 z8)]∧σ=⟨[],0⟩) (fun tm σ=>q1r p1 p2=some r∧tm=fr 39 [(0,.isl false (List.map cGNode p1)),(1,.isl false (List.map cGNode p2))]∧σ=⟨[],0⟩) n ⟨0,hF,rfl,rfl⟩ ?_ ?_
 rintro _ _ ⟨hF,rfl,rfl⟩
 unfold q1r at hF
 refine sr ?_
 refine RS.q rfl (q1e rfl rfl rfl (q1n cGNode und23)) (RS.mv rfl rfl rfl rfl (RS.q rfl (q1e rfl rfl rfl (q1n cGNode und23)) (RS.q rfl (q06 rfl rfl (q2s _ _ _) rfl) ?_)))
 refine sd ?_
 refine WPU.condS (t:=(decide ((p1.length:Int)<(p2.length:Int)))) rfl (fun h9=>?_) (fun h9=>?_)
 replace hF:=q0q h9 hF
 refine sr ?_
 refine sd ?_
 refine WPU.ret ?_
 refine st ?_
 have hr:=Option.some.inj hF
 subst hr
 exact ⟨.inr rfl,[.int .i64 (-1)],q2k rfl (q20),.int .i64 (-1),⟨[],0⟩,Nat.le_refl _,Gh.toR (.int .i64 (-1)) rfl,rfl,BU.h⟩
 replace hF:=q0p h9 hF
 refine st ?_
 refine WPU.skip ?_
 refine sr ?_
 refine sd ?_
 refine WPU.ret ?_
 refine st ?_
 have hr:=Option.some.inj hF
 subst hr
 exact ⟨.inr rfl,[.int .i64 0],q2k rfl (q20),.int .i64 0,⟨[],0⟩,Nat.le_refl _,Gh.toR (.int .i64 0) rfl,rfl,BU.h⟩
 rintro m1 _ _ ⟨z8,hF,rfl,rfl⟩
 rcases m1 with _ | m1
 cases hF
 unfold q15 at hF
 refine sr ?_
 refine RS.q rfl (q06 rfl rfl (q2s _ _ _) rfl) ?_
 refine sd ?_
 refine WPU.condS (t:=(decide (z8<(p1.length:Int)))) rfl (fun h10=>?_) (fun h10=>?_)
 replace hF:=q0q h10 hF
 refine st ?_
 refine WPU.skip ?_
 refine st ?_
 refine WPU.block ?_
 refine st ?_
 obtain ⟨x11,h12,hF⟩:=q00 hF
 refine sr ?_
 refine RS.q (u:=.iptr (cGNode x11)) rfl (q2t rfl rfl (q45 cGNode und23 (q02 inf43) q0s h12 rfl)) (RS.q (u:=.agg (cGNode x11)) rfl (q9j und43 rfl (q02 inf43) rfl rfl) (RS.q (u:=.ptr 0 0 0) (σ':=⟨[(0,.row [.int .i64 0,.nils] 43)],1⟩) rfl (q0v inf43 rfl rfl) (RS.as rfl rfl rfl rfl (RS.opn (u:=.junk) (σ':=⟨[(0,.row (cGNode x11) 43)],1⟩) rfl (q0e (q02 inf43) rfl rfl rfl rfl rfl rfl rfl rfl) rfl ?_))))
 refine se ?_
 repeat refine RS.mv rfl rfl rfl rfl ?_
 refine RS.q rfl (q1e rfl rfl rfl (q1n cGNode und23)) (RS.q rfl (q06 rfl rfl (ix_geq _ _ _) rfl) ?_)
 refine sd ?_
 refine WPU.condS (t:=(decide (z8 ≥ (p2.length:Int)))) rfl (fun h13=>?_) (fun h13=>?_)
 replace hF:=q0q h13 hF
 refine sr ?_
 refine sd ?_
 refine WPU.ret ?_
 refine st ?_
 have hr:=Option.some.inj hF
 subst hr
 exact ⟨.inr rfl,[.int .i64 1],q2k rfl (q20),.int .i64 1,⟨[],0⟩,Nat.le_refl _,Gh.toR (.int .i64 1) rfl,rfl,BU.h⟩
 replace hF:=q0p h13 hF
 refine st ?_
 refine WPU.skip ?_
 refine st ?_
 obtain ⟨x14,h15,hF⟩:=q00 hF
 refine sr ?_
 repeat refine RS.mv rfl rfl rfl rfl ?_
 refine RS.q (u:=.iptr (cGNode x14)) rfl (q2t rfl rfl (q45 cGNode und23 (q02 inf43) q0s h15 rfl)) (RS.q (u:=.agg (cGNode x14)) rfl (q9j und43 rfl (q02 inf43) rfl rfl) (RS.q (u:=.ptr 1 0 0) (σ':=⟨[(1,.row [.int .i64 0,.nils] 43),(0,.row (cGNode x11) 43)],2⟩) rfl (q0v inf43 rfl rfl) (RS.opn (u:=.junk) (σ':=⟨[(1,.row (cGNode x14) 43),(0,.row (cGNode x11) 43)],2⟩) rfl (q0e (q02 inf43) rfl rfl rfl rfl rfl rfl rfl rfl) rfl ?_)))
 refine sd ?_
 obtain ⟨r16,h17,hF⟩:=q00 hF
 refine sr ?_
 refine RS.q (u:=.agg (cGNode x11)) rfl (q12 und43 rfl (q02 inf43) rfl rfl rfl) (RS.q (u:=.agg (cGNode x14)) rfl (q12 und43 rfl (q02 inf43) rfl rfl rfl) (RS.call (u:=.int .i64 r16) (args:=[.agg (cGNode x11),.agg (cGNode x14)]) rfl (q01 rfl rfl fn38 hb38 rfl rfl) (hf2S x11 x14 r16 h17 _) rfl rfl ?_))
 refine se ?_
 refine RS.q rfl (q06 rfl rfl (q5q _ _ _) rfl) ?_
 refine sd ?_
 refine WPU.condS (t:=(r16 != 0)) rfl (fun h18=>?_) (fun h18=>?_)
 replace hF:=q0q h18 hF
 refine sr ?_
 refine sd ?_
 refine WPU.ret ?_
 refine st ?_
 have hr:=Option.some.inj hF
 subst hr
 exact ⟨.inr rfl,[.int .i64 r16],q2k rfl (q20),.int .i64 r16,⟨[],0⟩,Nat.le_refl _,Gh.toR (.int .i64 r16) rfl,rfl,BU.h⟩
 replace hF:=q0p h18 hF
 refine st ?_
 refine WPU.skip ?_
 refine sr ?_
 refine RS.q rfl (q06 rfl rfl (q3w _ _ _) rfl) (RS.mv rfl rfl rfl rfl ?_)
 refine sd ?_
 exact ⟨m1,_,_,Nat.lt_succ_self _,⟨(IntKind.i64.wrap (z8+1)),hF,rfl,rfl⟩,(Nat.zero_le _),Gh.toC (n1:=0) ⟨rfl,rfl,rfl,rfl,rfl,rfl,trivial⟩ rfl (Nat.zero_le _) (by simp)⟩
 replace hF:=q0p h10 hF
 refine st ?_
 refine WPU.exit ?_
 refine st ?_
 exact ⟨_,_,⟨hF,rfl,rfl⟩,(Nat.zero_le _),Gh.toC (n1:=0) ⟨rfl,rfl,trivial⟩ rfl (Nat.zero_le _) (by simp)⟩
theorem q3y (f2:GNode→GNode→Option (Int)) (hf2:∀ (a0:GNode) (a1:GNode) (r:Int),f2 a0 a1=some r→EvU Try.prog 38 [.agg (cGNode a0),.agg (cGNode a1)] ⟨[],0⟩ (fun u _=>u = .int .i64 r∧Bel 0 u)) (n:Nat) (p1:List GNode) (p2:List GNode) (r:Int) (hF:q19 f2 n p1 p2=some r) (σ:Sg):EvU Try.prog 37 [.isl false (List.map cGNode p1),.isl false (List.map cGNode p2),.fn (.func 38) [] []] σ (fun u σ'=>u = .int .i64 r∧σ'=σ) :=
 EvU.pure1C (q43 f2 hf2 n p1 p2 r hF) σ
def q6d   : Option (Int) :=
 some 0
def q5e (p1:List Int):Nat→Int→Option (Int)
 | 0,_=>none
 | m1+1,z6 =>
  cond (decide (z6<(p1.length:Int)))
   (bindO (idxO p1 z6) fun x8 =>
   cond (x8 != 0)
    (some x8)
    ((q5e p1 m1) (IntKind.i64.wrap (z6+1))))
   (q6d)
def q7c (n:Nat) (p1:List Int):Option (Int) :=
 q5e p1 n 0
theorem q9g (n:Nat) (p1:List Int) (r:Int) (hF:q7c n p1=some r):EvU Try.prog 50 [.isl false (List.map (cI .i64) p1)] ⟨[],0⟩ (fun u _=>u = .int .i64 r∧Bel 0 u):=by
 unfold q7c at hF
 refine EvU.of_body Try.tb_ok fn50 rfl ?_
 refine WPU.ghost (tm':=fr 18 [(0,.isl false (List.map (cI .i64) p1))]) (Gh.start (Nat.le_of_ble_eq_true rfl)) (Nat.zero_le _) ?_
 refine sr ?_
 refine se ?_
 refine se ?_
 refine RS.q rfl (q1e rfl rfl rfl (q1n (cI .i64) und55)) (RS.mv rfl rfl rfl rfl ?_)
 refine sd ?_
 refine WPU.ghost (tm':=fr 18 [(3,.int .i64 0),(6,.isl false (List.map (cI .i64) p1)),(7,.int .i64 (p1.length:Int)),(8,.int .i64 0)]) (Gh.sub ⟨rfl,rfl,rfl,rfl,trivial⟩) (Nat.zero_le _) ?_
 refine WPU.loopK (fun m tm σ=>∃ z6:Int,q5e p1 m z6=some r∧tm=fr 18 [(3,.int .i64 0),(6,.isl false (List.map (cI .i64) p1)),(7,.int .i64 (p1.length:Int)),(8,.int .i64 z6)]∧σ=⟨[],0⟩) (fun tm σ=>q6d=some r∧tm=fr 18 [(3,.int .i64 0)]∧σ=⟨[],0⟩) n ⟨0,hF,rfl,rfl⟩ ?_ ?_
 rintro _ _ ⟨hF,rfl,rfl⟩
 unfold q6d at hF
 refine sr ?_
 refine sd ?_
 refine WPU.ret ?_
 refine st ?_
 have hr:=Option.some.inj hF
 subst hr
 exact ⟨.inr rfl,[.int .i64 0],q2k rfl (q20),.int .i64 0,⟨[],0⟩,Nat.le_refl _,Gh.toR (.int .i64 0) rfl,rfl,BU.h⟩
 rintro m1 _ _ ⟨z6,hF,rfl,rfl⟩
 rcases m1 with _ | m1
 cases hF
 unfold q5e at hF
 refine sr ?_
 refine RS.q rfl (q06 rfl rfl (q2s _ _ _) rfl) ?_
 refine sd ?_
 refine WPU.condS (t:=(decide (z6<(p1.length:Int)))) rfl (fun h7=>?_) (fun h7=>?_)
 replace hF:=q0q h7 hF
 refine st ?_
 refine WPU.skip ?_
 refine st ?_
 refine WPU.block ?_
 refine st ?_
 obtain ⟨x8,h9,hF⟩:=q00 hF
 refine sr ?_
 refine RS.q (u:=.iptr [.int .i64 x8]) rfl (q2t rfl rfl (q45 (cI .i64) und55 (q02 inf3) (q68 .i64) h9 rfl)) (RS.q (u:=.int .i64 x8) rfl (q5r und3 rfl rfl rfl) ?_)
 refine se ?_
 repeat refine RS.mv rfl rfl rfl rfl ?_
 refine RS.q rfl (q06 rfl rfl (q5q _ _ _) rfl) ?_
 refine sd ?_
 refine WPU.condS (t:=(x8 != 0)) rfl (fun h10=>?_) (fun h10=>?_)
 replace hF:=q0q h10 hF
 refine sr ?_
 refine sd ?_
 refine WPU.ret ?_
 refine st ?_
 have hr:=Option.some.inj hF
 subst hr
 exact ⟨.inr rfl,[.int .i64 x8],q2k rfl (q20),.int .i64 x8,⟨[],0⟩,Nat.le_refl _,Gh.toR (.int .i64 x8) rfl,rfl,BU.h⟩
 replace hF:=q0p h10 hF
 refine st ?_
 refine WPU.skip ?_
 refine sr ?_
 refine RS.q rfl (q06 rfl rfl (q3w _ _ _) rfl) (RS.mv rfl rfl rfl rfl ?_)
 refine sd ?_
 exact ⟨m1,_,_,Nat.lt_succ_self _,⟨(IntKind.i64.wrap (z6+1)),hF,rfl,rfl⟩,(Nat.zero_le _),Gh.toC (n1:=0) ⟨rfl,rfl,rfl,rfl,trivial⟩ rfl (Nat.zero_le _) (by simp)⟩
 replace hF:=q0p h7 hF
 refine st ?_
 refine WPU.exit ?_
 refine st ?_
 exact ⟨_,_,⟨hF,rfl,rfl⟩,(Nat.zero_le _),Gh.toC (n1:=0) ⟨rfl,trivial⟩ rfl (Nat.zero_le _) (by simp)⟩
def q1p (p1:List GArc) (p2:List GArc)  : Option (Int) :=
 cond (decide ((p1.length:Int)<(p2.length:Int)))
  (some (-1))
  (some 0)
def q0y (p1:List GArc) (p2:List GArc) (f2:GArc→GArc→Option (Int)):Nat→Int→Option (Int)
 | 0,_=>none
 | m1+1,z8 =>
  cond (decide (z8<(p1.length:Int)))
   (bindO (idxO p1 z8) fun x11 =>
   cond (decide (z8 ≥ (p2.length:Int)))
    (some 1)
    (bindO (idxO p2 z8) fun x14 =>
    bindO (f2 x11 x14) fun r16 =>
    cond (r16 != 0)
     (some r16)
     ((q0y p1 p2 f2 m1) (IntKind.i64.wrap (z8+1)))))
   (q1p p1 p2)
def q18 (f2:GArc→GArc→Option (Int)) (n:Nat) (p1:List GArc) (p2:List GArc):Option (Int) :=
 q0y p1 p2 f2 n 0
theorem q3x (f2:GArc→GArc→Option (Int)) (hf2:∀ (a0:GArc) (a1:GArc) (r:Int),f2 a0 a1=some r→EvU Try.prog 52 [.agg (cGArc a0),.agg (cGArc a1)] ⟨[],0⟩ (fun u _=>u = .int .i64 r∧Bel 0 u)) (n:Nat) (p1:List GArc) (p2:List GArc) (r:Int) (hF:q18 f2 n p1 p2=some r):EvU Try.prog 51 [.isl false (List.map cGArc p1),.isl false (List.map cGArc p2),.fn (.func 52) [] []] ⟨[],0⟩ (fun u _=>u = .int .i64 r∧Bel 0 u):=by
 unfold q18 at hF
 have hf2S:∀ (a0:GArc) (a1:GArc) (r:Int),f2 a0 a1=some r→∀ σ,EvU Try.prog 52 [.agg (cGArc a0),.agg (cGArc a1)] σ (fun u σ'=>u = .int .i64 r∧σ'=σ):=fun a0 a1 r h σ=>EvU.pure1C (hf2 a0 a1 r h) σ
 refine EvU.of_body Try.tb_ok fn51 rfl ?_
 refine WPU.ghost (tm':=fr 39 [(0,.isl false (List.map cGArc p1)),(1,.isl false (List.map cGArc p2)),(2,.fn (.func 52) [] [])]) (Gh.start (Nat.le_of_ble_eq_true rfl)) (Nat.zero_le _) ?_
 refine sr ?_
 refine se ?_
 refine RS.q rfl (q1e rfl rfl rfl (q1n cGArc und41)) (RS.mv rfl rfl rfl rfl ?_)
 refine sd ?_
 refine WPU.ghost (tm':=fr 39 [(0,.isl false (List.map cGArc p1)),(1,.isl false (List.map cGArc p2)),(2,.fn (.func 52) [] []),(11,.isl false (List.map cGArc p1)),(12,.int .i64 (p1.length:Int)),(13,.int .i64 0)]) (Gh.sub ⟨rfl,rfl,rfl,rfl,rfl,rfl,trivial⟩) (Nat.zero_le _) ?_
 refine WPU.loopK (fun m tm σ=>∃ z8:Int,q0y p1 p2 f2 m z8=some r∧tm=fr 39 [(0,.isl false (List.map cGArc p1)),(1,.isl false (List.map cGArc p2)),(2,.fn (.func 52) [] []),(11,.isl false (List.map cGArc p1)),(12,.int .i64 (p1.length:Int)),(13,.int .i64 z8)]∧σ=⟨[],0⟩) (fun tm σ=>q1p p1 p2=some r∧tm=fr 39 [(0,.isl false (List.map cGArc p1)),(1,.isl false (List.map cGArc p2))]∧σ=⟨[],0⟩) n ⟨0,hF,rfl,rfl⟩ ?_ ?_
 rintro _ _ ⟨hF,rfl,rfl⟩
 unfold q1p at hF
 refine sr ?_
 refine RS.q rfl (q1e rfl rfl rfl (q1n cGArc und41)) (RS.mv rfl rfl rfl rfl (RS.q rfl (q1e rfl rfl rfl (q1n cGArc und41)) (RS.q rfl (q06 rfl rfl (q2s _ _ _) rfl) ?_)))
 refine sd ?_
 refine WPU.condS (t:=(decide ((p1.length:Int)<(p2.length:Int)))) rfl (fun h9=>?_) (fun h9=>?_)
 replace hF:=q0q h9 hF
 refine sr ?_
 refine sd ?_
 refine WPU.ret ?_
 refine st ?_
 have hr:=Option.some.inj hF
 subst hr
 exact ⟨.inr rfl,[.int .i64 (-1)],q2k rfl (q20),.int .i64 (-1),⟨[],0⟩,Nat.le_refl _,Gh.toR (.int .i64 (-1)) rfl,rfl,BU.h⟩
 replace hF:=q0p h9 hF
 refine st ?_
 refine WPU.skip ?_
 refine sr ?_
 refine sd ?_
 refine WPU.ret ?_
 refine st ?_
 have hr:=Option.some.inj hF
 subst hr
 exact ⟨.inr rfl,[.int .i64 0],q2k rfl (q20),.int .i64 0,⟨[],0⟩,Nat.le_refl _,Gh.toR (.int .i64 0) rfl,rfl,BU.h⟩
 rintro m1 _ _ ⟨z8,hF,rfl,rfl⟩
 rcases m1 with _ | m1
 cases hF
 unfold q0y at hF
 refine sr ?_
 refine RS.q rfl (q06 rfl rfl (q2s _ _ _) rfl) ?_
 refine sd ?_
 refine WPU.condS (t:=(decide (z8<(p1.length:Int)))) rfl (fun h10=>?_) (fun h10=>?_)
 replace hF:=q0q h10 hF
 refine st ?_
 refine WPU.skip ?_
 refine st ?_
 refine WPU.block ?_
 refine st ?_
 obtain ⟨x11,h12,hF⟩:=q00 hF
 refine sr ?_
 refine RS.q (u:=.iptr (cGArc x11)) rfl (q2t rfl rfl (q45 cGArc und41 (q02 inf45) q17 h12 rfl)) (RS.q (u:=.agg (cGArc x11)) rfl (q9j und45 rfl (q02 inf45) rfl rfl) (RS.q (u:=.ptr 0 0 0) (σ':=⟨[(0,.row [.int .i64 0,.int .i64 0] 45)],1⟩) rfl (q0v inf45 rfl rfl) (RS.as rfl rfl rfl rfl (RS.opn (u:=.junk) (σ':=⟨[(0,.row (cGArc x11) 45)],1⟩) rfl (q0e (q02 inf45) rfl rfl rfl rfl rfl rfl rfl rfl) rfl ?_))))
 refine se ?_
 repeat refine RS.mv rfl rfl rfl rfl ?_
 refine RS.q rfl (q1e rfl rfl rfl (q1n cGArc und41)) (RS.q rfl (q06 rfl rfl (ix_geq _ _ _) rfl) ?_)
 refine sd ?_
 refine WPU.condS (t:=(decide (z8 ≥ (p2.length:Int)))) rfl (fun h13=>?_) (fun h13=>?_)
 replace hF:=q0q h13 hF
 refine sr ?_
 refine sd ?_
 refine WPU.ret ?_
 refine st ?_
 have hr:=Option.some.inj hF
 subst hr
 exact ⟨.inr rfl,[.int .i64 1],q2k rfl (q20),.int .i64 1,⟨[],0⟩,Nat.le_refl _,Gh.toR (.int .i64 1) rfl,rfl,BU.h⟩
 replace hF:=q0p h13 hF
 refine st ?_
 refine WPU.skip ?_
 refine st ?_
 obtain ⟨x14,h15,hF⟩:=q00 hF
 refine sr ?_
 repeat refine RS.mv rfl rfl rfl rfl ?_
 refine RS.q (u:=.iptr (cGArc x14)) rfl (q2t rfl rfl (q45 cGArc und41 (q02 inf45) q17 h15 rfl)) (RS.q (u:=.agg (cGArc x14)) rfl (q9j und45 rfl (q02 inf45) rfl rfl) (RS.q (u:=.ptr 1 0 0) (σ':=⟨[(1,.row [.int .i64 0,.int .i64 0] 45),(0,.row (cGArc x11) 45)],2⟩) rfl (q0v inf45 rfl rfl) (RS.opn (u:=.junk) (σ':=⟨[(1,.row (cGArc x14) 45),(0,.row (cGArc x11) 45)],2⟩) rfl (q0e (q02 inf45) rfl rfl rfl rfl rfl rfl rfl rfl) rfl ?_)))
 refine sd ?_
 obtain ⟨r16,h17,hF⟩:=q00 hF
 refine sr ?_
 refine RS.q (u:=.agg (cGArc x11)) rfl (q12 und45 rfl (q02 inf45) rfl rfl rfl) (RS.q (u:=.agg (cGArc x14)) rfl (q12 und45 rfl (q02 inf45) rfl rfl rfl) (RS.call (u:=.int .i64 r16) (args:=[.agg (cGArc x11),.agg (cGArc x14)]) rfl (q01 rfl rfl fn52 hb52 rfl rfl) (hf2S x11 x14 r16 h17 _) rfl rfl ?_))
 refine se ?_
 refine RS.q rfl (q06 rfl rfl (q5q _ _ _) rfl) ?_
 refine sd ?_
 refine WPU.condS (t:=(r16 != 0)) rfl (fun h18=>?_) (fun h18=>?_)
 replace hF:=q0q h18 hF
 refine sr ?_
 refine sd ?_
 refine WPU.ret ?_
 refine st ?_
 have hr:=Option.some.inj hF
 subst hr
 exact ⟨.inr rfl,[.int .i64 r16],q2k rfl (q20),.int .i64 r16,⟨[],0⟩,Nat.le_refl _,Gh.toR (.int .i64 r16) rfl,rfl,BU.h⟩
 replace hF:=q0p h18 hF
 refine st ?_
 refine WPU.skip ?_
 refine sr ?_
 refine RS.q rfl (q06 rfl rfl (q3w _ _ _) rfl) (RS.mv rfl rfl rfl rfl ?_)
 refine sd ?_
 exact ⟨m1,_,_,Nat.lt_succ_self _,⟨(IntKind.i64.wrap (z8+1)),hF,rfl,rfl⟩,(Nat.zero_le _),Gh.toC (n1:=0) ⟨rfl,rfl,rfl,rfl,rfl,rfl,trivial⟩ rfl (Nat.zero_le _) (by simp)⟩
 replace hF:=q0p h10 hF
 refine st ?_
 refine WPU.exit ?_
 refine st ?_
 exact ⟨_,_,⟨hF,rfl,rfl⟩,(Nat.zero_le _),Gh.toC (n1:=0) ⟨rfl,rfl,trivial⟩ rfl (Nat.zero_le _) (by simp)⟩
theorem q3v (f2:GArc→GArc→Option (Int)) (hf2:∀ (a0:GArc) (a1:GArc) (r:Int),f2 a0 a1=some r→EvU Try.prog 52 [.agg (cGArc a0),.agg (cGArc a1)] ⟨[],0⟩ (fun u _=>u = .int .i64 r∧Bel 0 u)) (n:Nat) (p1:List GArc) (p2:List GArc) (r:Int) (hF:q18 f2 n p1 p2=some r) (σ:Sg):EvU Try.prog 51 [.isl false (List.map cGArc p1),.isl false (List.map cGArc p2),.fn (.func 52) [] []] σ (fun u σ'=>u = .int .i64 r∧σ'=σ) :=
 EvU.pure1C (q3x f2 hf2 n p1 p2 r hF) σ
def q3g (n:Nat) (p1:GArc) (p2:GArc):Option (Int) :=
 bindO (q1q n p1.Feat p2.Feat) fun r3 =>
 bindO (q1q n p1.To p2.To) fun r5 =>
 bindO (q7c n ([r3,r5])) fun r7 =>
 some r7
theorem q6u (n:Nat) (p1:GArc) (p2:GArc) (r:Int) (hF:q3g n p1 p2=some r):EvU Try.prog 52 [.agg (cGArc p1),.agg (cGArc p2)] ⟨[],0⟩ (fun u _=>u = .int .i64 r∧Bel 0 u):=by
 unfold q3g at hF
 refine EvU.of_body Try.tb_ok fn52 rfl ?_
 refine WPU.ghost (tm':=fr 17 [(0,.agg (cGArc p1)),(1,.agg (cGArc p2))]) (Gh.start (Nat.le_of_ble_eq_true rfl)) (Nat.zero_le _) ?_
 refine sr ?_
 refine RS.q (u:=.ptr 0 0 0) (σ':=⟨[(0,.row (cGArc p1) 45)],1⟩) rfl (q3u rfl rfl rfl) (RS.q (u:=.ptr 1 0 0) (σ':=⟨[(1,.row (cGArc p2) 45),(0,.row (cGArc p1) 45)],2⟩) rfl (q3u rfl rfl rfl) ?_)
 refine sd ?_
 obtain ⟨r3,h4,hF⟩:=q00 hF
 obtain ⟨r5,h6,hF⟩:=q00 hF
 obtain ⟨r7,h8,hF⟩:=q00 hF
 refine WPU.drawE Try.tb_ok [] (by kernel_rfl) ?_
 refine RD.q (u:=.ptr 0 0 0) rfl (q0z und45 rfl (q02 inf3) rfl rfl rfl) (RD.q (u:=.int .i64 p1.Feat) rfl (q05 und3 rfl rfl rfl rfl) (RD.q (u:=.ptr 1 0 0) rfl (q0z und45 rfl (q02 inf3) rfl rfl rfl) (RD.q (u:=.int .i64 p2.Feat) rfl (q05 und3 rfl rfl rfl rfl) (RD.free (u:=.int .i64 r3) (args:=[.int .i64 p1.Feat,.int .i64 p2.Feat]) rfl (q01 rfl rfl fn36 hb36 rfl rfl) (fun s=>q2l n p1.Feat p2.Feat r3 h4 s) rfl rfl (RD.q (u:=.ptr 0 0 1) rfl (q0z und45 rfl (q02 inf3) rfl rfl rfl) (RD.q (u:=.int .i64 p1.To) rfl (q05 und3 rfl rfl rfl rfl) (RD.q (u:=.ptr 1 0 1) rfl (q0z und45 rfl (q02 inf3) rfl rfl rfl) ?_)))))))
 refine RD.q (u:=.int .i64 p2.To) rfl (q05 und3 rfl rfl rfl rfl) (RD.free (u:=.int .i64 r5) (args:=[.int .i64 p1.To,.int .i64 p2.To]) rfl (q01 rfl rfl fn36 hb36 rfl rfl) (fun s=>q2l n p1.To p2.To r5 h6 s) rfl rfl (RD.act (u:=.sl 2 0 2 2) (σ':=⟨[(2,.row [.int .i64 r3,.int .i64 r5] 3),(1,.row (cGArc p2) 45),(0,.row (cGArc p1) 45)],3⟩) rfl (q1z und55 inf3 rfl rfl rfl rfl rfl rfl rfl) rfl rfl ?_))
 refine RD.call (u:=.int .i64 r7) (args:=[.sl 2 0 2 2]) rfl (q01 rfl rfl fn50 hb50 rfl rfl) (EvU.view (q9g n ([r3,r5]) r7 h8) BUL.h (by simp only [toV,toVL,okL,okC,cond_true]<;>rfl) (fun m=>by simp [ren,renL]) (Gh.fz (tm':=[.isl false (List.map (cI .i64) ([r3,r5]))]) (h':=[(1,.row (cGArc p2) 45),(0,.row (cGArc p1) 45)]) 2 (.row [.int .i64 r3,.int .i64 r5] 3) 1 rfl (by simp) (by simp only [oneU,q07,q03,q0h,q09,q0k,q0d,q0c,q0b,q0a,q08,q0i,q0j,q0g,q0l,q1i,junkT,q1u,q1x,fz_cGArc,Nat.reduceLeDiff,Nat.reduceMul,List.length_cons,List.length_nil,Nat.reduceAdd]<;>simp only [chunks,List.take,List.drop,List.map,cI,cB,cS,cL]) (by simp only [fzH,fzB,ug,Nat.beq,cond_true,cond_false,oneU,q07,q03,q0h,q09,q0k,q0d,q0c,q0b,q0a,q08,q0i,q0j,q0g,q0l,q1i,junkT,q1u,q1x,fz_cGArc,Nat.reduceLeDiff,Nat.reduceMul,List.length_cons,List.length_nil,Nat.reduceAdd]<;>simp only [chunks,List.take,List.drop,List.map,cI,cB,cS,cL]))) rfl rfl ?_
 refine RD.as rfl rfl rfl rfl ?_
 refine RD.done ⟨by kernel_rfl,trivial,?_⟩
 refine st ?_
 refine WPU.ret ?_
 refine st ?_
 have hr:=Option.some.inj hF
 subst hr
 exact ⟨.inr rfl,[.int .i64 r7],q2k rfl (q20),.int .i64 r7,⟨[],0⟩,Nat.le_refl _,Gh.toR (.int .i64 r7) rfl,rfl,BU.h⟩
def q3s (n:Nat) (p1:GNode) (p2:GNode):Option (Int) :=
 bindO (q1q n p1.Typex p2.Typex) fun r3 =>
 bindO (q1q n (p1.Arcs.length:Int) (p2.Arcs.length:Int)) fun r5 =>
 bindO (q7c n ([r3,r5])) fun r7 =>
 cond (r7 != 0)
  (some r7)
  (bindO (q18 (q3g n) n p1.Arcs p2.Arcs) fun r10 =>
  some r10)
theorem q7q (n:Nat) (p1:GNode) (p2:GNode) (r:Int) (hF:q3s n p1 p2=some r):EvU Try.prog 38 [.agg (cGNode p1),.agg (cGNode p2)] ⟨[],0⟩ (fun u _=>u = .int .i64 r∧Bel 0 u):=by
 unfold q3s at hF
 refine EvU.of_body Try.tb_ok fn38 rfl ?_
 refine WPU.ghost (tm':=fr 28 [(0,.agg (cGNode p1)),(1,.agg (cGNode p2))]) (Gh.start (Nat.le_of_ble_eq_true rfl)) (Nat.zero_le _) ?_
 refine sr ?_
 refine RS.q (u:=.ptr 0 0 0) (σ':=⟨[(0,.row (cGNode p1) 43)],1⟩) rfl (q3u rfl rfl rfl) (RS.q (u:=.ptr 1 0 0) (σ':=⟨[(1,.row (cGNode p2) 43),(0,.row (cGNode p1) 43)],2⟩) rfl (q3u rfl rfl rfl) ?_)
 refine sd ?_
 obtain ⟨r3,h4,hF⟩:=q00 hF
 obtain ⟨r5,h6,hF⟩:=q00 hF
 obtain ⟨r7,h8,hF⟩:=q00 hF
 refine WPU.drawE Try.tb_ok [] (by kernel_rfl) ?_
 refine RD.q (u:=.ptr 0 0 0) rfl (q0z und43 rfl (q02 inf3) rfl rfl rfl) (RD.q (u:=.int .i64 p1.Typex) rfl (q05 und3 rfl rfl rfl rfl) (RD.q (u:=.ptr 1 0 0) rfl (q0z und43 rfl (q02 inf3) rfl rfl rfl) (RD.q (u:=.int .i64 p2.Typex) rfl (q05 und3 rfl rfl rfl rfl) (RD.free (u:=.int .i64 r3) (args:=[.int .i64 p1.Typex,.int .i64 p2.Typex]) rfl (q01 rfl rfl fn36 hb36 rfl rfl) (fun s=>q2l n p1.Typex p2.Typex r3 h4 s) rfl rfl (RD.q (u:=.ptr 0 0 1) rfl (q0z und43 rfl (q02 inf41) rfl rfl rfl) (RD.q (u:=.isl false (List.map cGArc p1.Arcs)) rfl (q05 und41 rfl rfl rfl rfl) (RD.q rfl (q1e rfl rfl rfl (q1n cGArc und41)) ?_)))))))
 refine RD.q (u:=.ptr 1 0 1) rfl (q0z und43 rfl (q02 inf41) rfl rfl rfl) (RD.q (u:=.isl false (List.map cGArc p2.Arcs)) rfl (q05 und41 rfl rfl rfl rfl) (RD.q rfl (q1e rfl rfl rfl (q1n cGArc und41)) (RD.free (u:=.int .i64 r5) (args:=[.int .i64 (p1.Arcs.length:Int),.int .i64 (p2.Arcs.length:Int)]) rfl (q01 rfl rfl fn36 hb36 rfl rfl) (fun s=>q2l n (p1.Arcs.length:Int) (p2.Arcs.length:Int) r5 h6 s) rfl rfl (RD.act (u:=.sl 2 0 2 2) (σ':=⟨[(2,.row [.int .i64 r3,.int .i64 r5] 3),(1,.row (cGNode p2) 43),(0,.row (cGNode p1) 43)],3⟩) rfl (q1z und55 inf3 rfl rfl rfl rfl rfl rfl rfl) rfl rfl ?_))))
 refine RD.call (u:=.int .i64 r7) (args:=[.sl 2 0 2 2]) rfl (q01 rfl rfl fn50 hb50 rfl rfl) (EvU.view (q9g n ([r3,r5]) r7 h8) BUL.h (by simp only [toV,toVL,okL,okC,cond_true]<;>rfl) (fun m=>by simp [ren,renL]) (Gh.fz (tm':=[.isl false (List.map (cI .i64) ([r3,r5]))]) (h':=[(1,.row (cGNode p2) 43),(0,.row (cGNode p1) 43)]) 2 (.row [.int .i64 r3,.int .i64 r5] 3) 1 rfl (by simp) (by simp only [oneU,q07,q03,q0h,q09,q0k,q0d,q0c,q0b,q0a,q08,q0i,q0j,q0g,q0l,q1i,junkT,q1u,q1x,q2e,Nat.reduceLeDiff,Nat.reduceMul,List.length_cons,List.length_nil,Nat.reduceAdd]<;>simp only [chunks,List.take,List.drop,List.map,cI,cB,cS,cL]) (by simp only [fzH,fzB,ug,Nat.beq,cond_true,cond_false,oneU,q07,q03,q0h,q09,q0k,q0d,q0c,q0b,q0a,q08,q0i,q0j,q0g,q0l,q1i,junkT,q1u,q1x,q2e,Nat.reduceLeDiff,Nat.reduceMul,List.length_cons,List.length_nil,Nat.reduceAdd]<;>simp only [chunks,List.take,List.drop,List.map,cI,cB,cS,cL]))) rfl rfl ?_
 refine RD.as rfl rfl rfl rfl ?_
 refine RD.done ⟨by kernel_rfl,trivial,?_⟩
 refine sr ?_
 refine RS.q rfl (q06 rfl rfl (q5q _ _ _) rfl) ?_
 refine sd ?_
 refine WPU.condS (t:=(r7 != 0)) rfl (fun h9=>?_) (fun h9=>?_)
 replace hF:=q0q h9 hF
 refine sr ?_
 refine sd ?_
 refine WPU.ret ?_
 refine st ?_
 have hr:=Option.some.inj hF
 subst hr
 exact ⟨.inr rfl,[.int .i64 r7],q2k rfl (q20),.int .i64 r7,⟨[],0⟩,Nat.le_refl _,Gh.toR (.int .i64 r7) rfl,rfl,BU.h⟩
 replace hF:=q0p h9 hF
 refine st ?_
 refine WPU.skip ?_
 refine st ?_
 obtain ⟨r10,h11,hF⟩:=q00 hF
 refine sr ?_
 refine RS.q (u:=.ptr 0 0 1) rfl (q0z und43 rfl (q02 inf41) rfl rfl rfl) (RS.q (u:=.isl false (List.map cGArc p1.Arcs)) rfl (q05 und41 rfl rfl rfl rfl) (RS.q (u:=.ptr 1 0 1) rfl (q0z und43 rfl (q02 inf41) rfl rfl rfl) (RS.q (u:=.isl false (List.map cGArc p2.Arcs)) rfl (q05 und41 rfl rfl rfl rfl) (RS.call (u:=.int .i64 r10) (args:=[.isl false (List.map cGArc p1.Arcs),.isl false (List.map cGArc p2.Arcs),.fn (.func 52) [] []]) rfl (q01 rfl rfl fn51 hb51 rfl rfl) (q3v (q3g n) (q6u n) n p1.Arcs p2.Arcs r10 h11 _) rfl rfl ?_))))
 refine sd ?_
 refine WPU.ret ?_
 refine st ?_
 have hr:=Option.some.inj hF
 subst hr
 exact ⟨.inr rfl,[.int .i64 r10],q2k rfl (q20),.int .i64 r10,⟨[],0⟩,Nat.le_refl _,Gh.toR (.int .i64 r10) rfl,rfl,BU.h⟩
def q4k (n:Nat) (p1:GFS) (p2:GFS):Option (Int) :=
 bindO (q1q n (p1.Nodes.length:Int) (p2.Nodes.length:Int)) fun r3 =>
 cond (r3 != 0)
  (some r3)
  (bindO (q19 (q3s n) n p1.Nodes p2.Nodes) fun r6 =>
  some r6)
theorem qal (n:Nat) (p1:GFS) (p2:GFS) (r:Int) (hF:q4k n p1 p2=some r):EvU Try.prog 24 [.agg [.isl false (List.map cGNode p1.Nodes)],.agg [.isl false (List.map cGNode p2.Nodes)]] ⟨[],0⟩ (fun u _=>u = .int .i64 r∧Bel 0 u):=by
 unfold q4k at hF
 refine EvU.of_body Try.tb_ok fn24 rfl ?_
 refine WPU.ghost (tm':=fr 21 [(0,.agg [.isl false (List.map cGNode p1.Nodes)]),(1,.agg [.isl false (List.map cGNode p2.Nodes)])]) (Gh.start (Nat.le_of_ble_eq_true rfl)) (Nat.zero_le _) ?_
 refine sr ?_
 refine RS.q (u:=.ptr 0 0 0) (σ':=⟨[(0,.row [.isl false (List.map cGNode p1.Nodes)] 25)],1⟩) rfl (q3u rfl rfl rfl) (RS.q (u:=.ptr 1 0 0) (σ':=⟨[(1,.row [.isl false (List.map cGNode p2.Nodes)] 25),(0,.row [.isl false (List.map cGNode p1.Nodes)] 25)],2⟩) rfl (q3u rfl rfl rfl) ?_)
 refine sd ?_
 obtain ⟨r3,h4,hF⟩:=q00 hF
 refine sr ?_
 refine RS.q (u:=.ptr 0 0 0) rfl (q0z und25 rfl (q02 inf23) rfl rfl rfl) (RS.q (u:=.isl false (List.map cGNode p1.Nodes)) rfl (q05 und23 rfl rfl rfl rfl) (RS.q rfl (q1e rfl rfl rfl (q1n cGNode und23)) (RS.q (u:=.ptr 1 0 0) rfl (q0z und25 rfl (q02 inf23) rfl rfl rfl) (RS.q (u:=.isl false (List.map cGNode p2.Nodes)) rfl (q05 und23 rfl rfl rfl rfl) (RS.q rfl (q1e rfl rfl rfl (q1n cGNode und23)) (RS.call (u:=.int .i64 r3) (args:=[.int .i64 (p1.Nodes.length:Int),.int .i64 (p2.Nodes.length:Int)]) rfl (q01 rfl rfl fn36 hb36 rfl rfl) (q2l n (p1.Nodes.length:Int) (p2.Nodes.length:Int) r3 h4 _) rfl rfl ?_))))))
 refine se ?_
 refine RS.q rfl (q06 rfl rfl (q5q _ _ _) rfl) ?_
 refine sd ?_
 refine WPU.condS (t:=(r3 != 0)) rfl (fun h5=>?_) (fun h5=>?_)
 replace hF:=q0q h5 hF
 refine sr ?_
 refine sd ?_
 refine WPU.ret ?_
 refine st ?_
 have hr:=Option.some.inj hF
 subst hr
 exact ⟨.inr rfl,[.int .i64 r3],q2k rfl (q20),.int .i64 r3,⟨[],0⟩,Nat.le_refl _,Gh.toR (.int .i64 r3) rfl,rfl,BU.h⟩
 replace hF:=q0p h5 hF
 refine st ?_
 refine WPU.skip ?_
 refine st ?_
 obtain ⟨r6,h7,hF⟩:=q00 hF
 refine sr ?_
 refine RS.q (u:=.ptr 0 0 0) rfl (q0z und25 rfl (q02 inf23) rfl rfl rfl) (RS.q (u:=.isl false (List.map cGNode p1.Nodes)) rfl (q05 und23 rfl rfl rfl rfl) (RS.q (u:=.ptr 1 0 0) rfl (q0z und25 rfl (q02 inf23) rfl rfl rfl) (RS.q (u:=.isl false (List.map cGNode p2.Nodes)) rfl (q05 und23 rfl rfl rfl rfl) (RS.call (u:=.int .i64 r6) (args:=[.isl false (List.map cGNode p1.Nodes),.isl false (List.map cGNode p2.Nodes),.fn (.func 38) [] []]) rfl (q01 rfl rfl fn37 hb37 rfl rfl) (q3y (q3s n) (q7q n) n p1.Nodes p2.Nodes r6 h7 _) rfl rfl ?_))))
 refine sd ?_
 refine WPU.ret ?_
 refine st ?_
 have hr:=Option.some.inj hF
 subst hr
 exact ⟨.inr rfl,[.int .i64 r6],q2k rfl (q20),.int .i64 r6,⟨[],0⟩,Nat.le_refl _,Gh.toR (.int .i64 r6) rfl,rfl,BU.h⟩
theorem q6t (n:Nat) (p1:GFS) (p2:GFS) (r:Int) (hF:q4k n p1 p2=some r) (σ:Sg):EvU Try.prog 24 [.agg [.isl false (List.map cGNode p1.Nodes)],.agg [.isl false (List.map cGNode p2.Nodes)]] σ (fun u σ'=>u = .int .i64 r∧σ'=σ) :=
 EvU.pure1C (qal n p1 p2 r hF) σ
def q5b (z6:Int) (rc1:Int→(List Int)→Option ((List Int))) (l28:List Int):Option ((List Int)) :=
 rc1 (IntKind.i64.wrap (z6+1)) l28
def q4c (z6:Int) (rc1:Int→(List Int)→Option ((List Int))) (x12:GNode):Nat→Int→(List Int)→Option ((List Int))
 | 0,_,_=>none
 | m2+1,z25,l26 =>
  cond (decide (z25<(x12.Arcs.length:Int)))
   (bindO (idxO x12.Arcs z25) fun x31 =>
   bindO (idxO x12.Arcs z25) fun x33 =>
   needO ((l26.length+2)*8≤140737488355328∧l26.length+2≤140737488355328) (
   (q4c z6 rc1 x12 m2) (IntKind.i64.wrap (z25+1)) (l26++[x31.Feat,x33.To])))
   (q5b z6 rc1 l26)
def q5a  (l9:List Int):Option ((List Int)) :=
 some l9
def q38 (p1:GFS) (n:Nat):Nat→Int→(List Int)→Option ((List Int))
 | 0,_,_=>none
 | m1+1,z6,l7 =>
  cond (decide (z6<(p1.Nodes.length:Int)))
   (bindO (idxO p1.Nodes z6) fun x12 =>
   bindO (idxO p1.Nodes z6) fun x14 =>
   needO ((l7.length+2)*8≤140737488355328∧l7.length+2≤140737488355328) (
   q4c z6 (q38 p1 n m1) x12 n 0 (l7++[x14.Typex,(x12.Arcs.length:Int)])))
   (q5a l7)
def q5j (n:Nat) (p1:GFS):Option ((List Int)) :=
 q38 p1 n n 0 ([(p1.Nodes.length:Int)])
theorem q76 (n:Nat) (p1:GFS) (r:(List Int)) (hF:q5j n p1=some r):EvU Try.prog 39 [.agg [.isl false (List.map cGNode p1.Nodes)]] ⟨[],0⟩ (fun u σ'=>∃ t,u = .vl 1 t 0 r.length∧σ'=⟨[(1,.vec (List.map (cI .i64) r).flatten 3 1 t)],1+1⟩):=by
 unfold q5j at hF
 refine EvU.of_body Try.tb_ok fn39 rfl ?_
 refine WPU.ghost (tm':=fr 55 [(0,.agg [.isl false (List.map cGNode p1.Nodes)])]) (Gh.start (Nat.le_of_ble_eq_true rfl)) (Nat.zero_le _) ?_
 refine sr ?_
 refine RS.q (u:=.ptr 0 0 0) (σ':=⟨[(0,.row [.isl false (List.map cGNode p1.Nodes)] 25)],1⟩) rfl (q3u rfl rfl rfl) ?_
 refine se ?_
 refine RS.q (u:=.ptr 0 0 0) rfl (q0z und25 rfl (q02 inf23) rfl rfl rfl) (RS.q (u:=.isl false (List.map cGNode p1.Nodes)) rfl (q05 und23 rfl rfl rfl rfl) (RS.q rfl (q1e rfl rfl rfl (q1n cGNode und23)) (RS.step (u:=.vl 1 0 0 ([(p1.Nodes.length:Int)].length)) (σ':=⟨[(1,.vec (List.map (cI .i64) ([(p1.Nodes.length:Int)])).flatten 3 1 0),(0,.row [.isl false (List.map cGNode p1.Nodes)] 25)],2⟩) rfl (StepU.bslv (cs:=(List.map (cI .i64) [(p1.Nodes.length:Int)]).flatten) Try.tb_ok rfl und55 inf3 rfl rfl rfl rfl rfl rfl rfl rfl) rfl rfl ?_)))
 refine se ?_
 refine sd ?_
 refine WPU.ghost (tm':=fr 55 [(1,.ptr 0 0 0),(3,.vl 1 0 0 (([(p1.Nodes.length:Int)]).length)),(4,.int .i64 0)]) (Gh.sub ⟨rfl,rfl,rfl,trivial⟩) (Nat.zero_le _) ?_
 refine WPU.loopK (fun m tm σ=>∃ z6:Int,∃ l7:List Int,∃ t8:Nat,q38 p1 n m z6 l7=some r∧tm=fr 55 [(1,.ptr 0 0 0),(3,.vl 1 t8 0 l7.length),(4,.int .i64 z6)]∧σ=⟨[(1,.vec (List.map (cI .i64) l7).flatten 3 1 t8),(0,.row [.isl false (List.map cGNode p1.Nodes)] 25)],2⟩) (fun tm σ=>∃ l9:List Int,∃ t10:Nat,q5a l9=some r∧tm=fr 55 [(3,.vl 1 t10 0 l9.length)]∧σ=⟨[(1,.vec (List.map (cI .i64) l9).flatten 3 1 t10),(0,.row [.isl false (List.map cGNode p1.Nodes)] 25)],2⟩) n ⟨0,[(p1.Nodes.length:Int)],0,hF,rfl,rfl⟩ ?_ ?_
 rintro _ _ ⟨l9,t10,hF,rfl,rfl⟩
 unfold q5a at hF
 refine sr ?_
 refine sd ?_
 refine WPU.ret ?_
 refine st ?_
 have hr:=Option.some.inj hF
 subst hr
 exact ⟨.inr rfl,[.vl 1 t10 0 l9.length],q2k rfl q20,.vl 1 t10 0 l9.length,⟨[(1,.vec (List.map (cI .i64) l9).flatten 3 1 t10)],2⟩,(Nat.zero_le _),Gh.trans (Gh.only (fun k=>Nat.beq k 1)) (Gh.to (n1:=2) [] rfl rfl (Nat.zero_le _) (Nat.le_of_ble_eq_true rfl) BUL.h BH.h),t10,rfl,rfl⟩
 rintro m1 _ _ ⟨z6,l7,t8,hF,rfl,rfl⟩
 rcases m1 with _ | m1
 cases hF
 unfold q38 at hF
 refine sr ?_
 refine RS.q (u:=.ptr 0 0 0) rfl (q0z und25 rfl (q02 inf23) rfl rfl rfl) (RS.q (u:=.isl false (List.map cGNode p1.Nodes)) rfl (q05 und23 rfl rfl rfl rfl) (RS.q rfl (q1e rfl rfl rfl (q1n cGNode und23)) (RS.q rfl (q06 rfl rfl (q2s _ _ _) rfl) ?_)))
 refine sd ?_
 refine WPU.condS (t:=(decide (z6<(p1.Nodes.length:Int)))) rfl (fun h11=>?_) (fun h11=>?_)
 replace hF:=q0q h11 hF
 refine st ?_
 refine WPU.skip ?_
 refine st ?_
 refine WPU.block ?_
 refine st ?_
 obtain ⟨x12,h13,hF⟩:=q00 hF
 refine sr ?_
 refine RS.q (u:=.ptr 0 0 0) rfl (q0z und25 rfl (q02 inf23) rfl rfl rfl) (RS.q (u:=.isl false (List.map cGNode p1.Nodes)) rfl (q05 und23 rfl rfl rfl rfl) (RS.mv rfl rfl rfl rfl (RS.q (u:=.iptr (cGNode x12)) rfl (q2t rfl rfl (q45 cGNode und23 (q02 inf43) q0s h13 rfl)) (RS.q (u:=.iptr [.isl false (List.map cGArc x12.Arcs)]) rfl (qax und43 rfl (q02 inf41) rfl rfl) (RS.q (u:=.isl false (List.map cGArc x12.Arcs)) rfl (q5r und41 rfl rfl rfl) ?_)))))
 refine sd ?_
 obtain ⟨x14,h15,hF⟩:=q00 hF
 obtain ⟨h16,hF⟩:=q2h hF
 refine sr ?_
 refine RS.q (u:=.ptr 0 0 0) rfl (q0z und25 rfl (q02 inf23) rfl rfl rfl) (RS.q (u:=.isl false (List.map cGNode p1.Nodes)) rfl (q05 und23 rfl rfl rfl rfl) (RS.mv rfl rfl rfl rfl (RS.q (u:=.iptr (cGNode x14)) rfl (q2t rfl rfl (q45 cGNode und23 (q02 inf43) q0s h15 rfl)) (RS.q (u:=.iptr (cGNode x14)) rfl (qax und43 rfl (q02 inf3) rfl rfl) (RS.q (u:=.int .i64 x14.Typex) rfl (q5r und3 rfl rfl rfl) (RS.mv rfl rfl rfl rfl (RS.q rfl (q1e rfl rfl rfl (q1n cGArc und41)) ?_)))))))
 refine RS.q (u:=.sl 2 0 2 2) (σ':=⟨[(2,.row [.int .i64 x14.Typex,.int .i64 (x12.Arcs.length:Int)] 3),(1,.vec (List.map (cI .i64) l7).flatten 3 1 t8),(0,.row [.isl false (List.map cGNode p1.Nodes)] 25)],3⟩) rfl (q1z und55 inf3 rfl rfl rfl rfl rfl rfl rfl) (RS.q (u:=.vl 1 (t8+1) 0 ((l7++[x14.Typex,(x12.Arcs.length:Int)]).length)) (σ':=⟨[(2,.row [.int .i64 x14.Typex,.int .i64 (x12.Arcs.length:Int)] 3),(1,.vec (List.map (cI .i64) (l7++[x14.Typex,(x12.Arcs.length:Int)])).flatten 3 1 (t8+1)),(0,.row [.isl false (List.map cGNode p1.Nodes)] 25)],3⟩) rfl (q8i rfl rfl rfl rfl (q86 (cI .i64) ([x14.Typex,(x12.Arcs.length:Int)]) und55 und55 inf3 rfl (q68 .i64) rfl (q6p (cI .i64) [x14.Typex,(x12.Arcs.length:Int)] rfl rfl rfl rfl) h16)) ?_)
 refine se ?_
 refine sd ?_
 refine WPU.ghost (tm':=fr 55 [(1,.ptr 0 0 0),(3,.vl 1 (t8+1) 0 ((l7++[x14.Typex,(x12.Arcs.length:Int)]).length)),(4,.int .i64 z6),(5,.isl false (List.map cGArc x12.Arcs)),(6,.int .i64 0)]) (Gh.sub ⟨rfl,rfl,rfl,rfl,rfl,trivial⟩) (Nat.zero_le _) ?_
 refine WPU.loopK (fun m tm σ=>∃ z25:Int,∃ l26:List Int,∃ t27:Nat,q4c z6 (q38 p1 n m1) x12 m z25 l26=some r∧tm=fr 55 [(1,.ptr 0 0 0),(3,.vl 1 t27 0 l26.length),(4,.int .i64 z6),(5,.isl false (List.map cGArc x12.Arcs)),(6,.int .i64 z25)]∧σ=⟨[(2,.row [.int .i64 x14.Typex,.int .i64 (x12.Arcs.length:Int)] 3),(1,.vec (List.map (cI .i64) l26).flatten 3 1 t27),(0,.row [.isl false (List.map cGNode p1.Nodes)] 25)],3⟩) (fun tm σ=>∃ l28:List Int,∃ t29:Nat,q5b z6 (q38 p1 n m1) l28=some r∧tm=fr 55 [(1,.ptr 0 0 0),(3,.vl 1 t29 0 l28.length),(4,.int .i64 z6)]∧σ=⟨[(2,.row [.int .i64 x14.Typex,.int .i64 (x12.Arcs.length:Int)] 3),(1,.vec (List.map (cI .i64) l28).flatten 3 1 t29),(0,.row [.isl false (List.map cGNode p1.Nodes)] 25)],3⟩) n ⟨0,(l7++[x14.Typex,(x12.Arcs.length:Int)]),(t8+1),hF,rfl,rfl⟩ ?_ ?_
 rintro _ _ ⟨l28,t29,hF,rfl,rfl⟩
 unfold q5b at hF
 refine sr ?_
 refine RS.q rfl (q06 rfl rfl (q3w _ _ _) rfl) ?_
 refine sd ?_
 exact ⟨m1,_,_,Nat.lt_succ_self _,⟨(IntKind.i64.wrap (z6+1)),l28,t29,hF,rfl,rfl⟩,(Nat.zero_le _),Gh.toC (n1:=2) ⟨rfl,rfl,rfl,trivial⟩ rfl (Nat.zero_le _) (by simp)⟩
 rintro m2 _ _ ⟨z25,l26,t27,hF,rfl,rfl⟩
 rcases m2 with _ | m2
 cases hF
 unfold q4c at hF
 refine sr ?_
 repeat refine RS.mv rfl rfl rfl rfl ?_
 refine RS.q rfl (q1e rfl rfl rfl (q1n cGArc und41)) (RS.q rfl (q06 rfl rfl (q2s _ _ _) rfl) ?_)
 refine sd ?_
 refine WPU.condS (t:=(decide (z25<(x12.Arcs.length:Int)))) rfl (fun h30=>?_) (fun h30=>?_)
 replace hF:=q0q h30 hF
 refine st ?_
 refine WPU.skip ?_
 refine st ?_
 refine WPU.block ?_
 refine st ?_
 obtain ⟨x31,h32,hF⟩:=q00 hF
 obtain ⟨x33,h34,hF⟩:=q00 hF
 obtain ⟨h35,hF⟩:=q2h hF
 refine WPU.drawE Try.tb_ok [(0,11)] (by kernel_rfl) ?_
 repeat refine RD.mv rfl rfl rfl rfl ?_
 refine RD.q (u:=.iptr (cGArc x31)) rfl (q2t rfl rfl (q45 cGArc und41 (q02 inf45) q17 h32 rfl)) (RD.q (u:=.iptr (cGArc x31)) rfl (qax und45 rfl (q02 inf3) rfl rfl) (RD.q (u:=.int .i64 x31.Feat) rfl (q5r und3 rfl rfl rfl) ?_))
 repeat refine RD.mv rfl rfl rfl rfl ?_
 refine RD.q (u:=.iptr (cGArc x33)) rfl (q2t rfl rfl (q45 cGArc und41 (q02 inf45) q17 h34 rfl)) (RD.q (u:=.iptr [.int .i64 x33.To]) rfl (qax und45 rfl (q02 inf3) rfl rfl) (RD.q (u:=.int .i64 x33.To) rfl (q5r und3 rfl rfl rfl) (RD.act (u:=.sl 3 0 2 2) (σ':=⟨[(3,.row [.int .i64 x31.Feat,.int .i64 x33.To] 3),(2,.row [.int .i64 x14.Typex,.int .i64 (x12.Arcs.length:Int)] 3),(1,.vec (List.map (cI .i64) l26).flatten 3 1 t27),(0,.row [.isl false (List.map cGNode p1.Nodes)] 25)],4⟩) rfl (q1z und55 inf3 rfl rfl rfl rfl rfl rfl rfl) rfl rfl (RD.act (u:=.vl 1 (t27+1) 0 ((l26++[x31.Feat,x33.To]).length)) (σ':=⟨[(3,.row [.int .i64 x31.Feat,.int .i64 x33.To] 3),(2,.row [.int .i64 x14.Typex,.int .i64 (x12.Arcs.length:Int)] 3),(1,.vec (List.map (cI .i64) (l26++[x31.Feat,x33.To])).flatten 3 1 (t27+1)),(0,.row [.isl false (List.map cGNode p1.Nodes)] 25)],4⟩) rfl (q8i rfl rfl rfl rfl (q86 (cI .i64) ([x31.Feat,x33.To]) und55 und55 inf3 rfl (q68 .i64) rfl (q6p (cI .i64) [x31.Feat,x33.To] rfl rfl rfl rfl) h35)) rfl rfl (RD.as rfl rfl rfl rfl ?_)))))
 refine RD.done ⟨by kernel_rfl,⟨q4d rfl,trivial⟩,?_⟩
 refine sr ?_
 refine RS.q rfl (q06 rfl rfl (q3w _ _ _) rfl) ?_
 refine sd ?_
 exact ⟨m2,_,_,Nat.lt_succ_self _,⟨(IntKind.i64.wrap (z25+1)),(l26++[x31.Feat,x33.To]),(t27+1),hF,rfl,rfl⟩,(Nat.zero_le _),Gh.toC (n1:=3) ⟨rfl,rfl,rfl,rfl,rfl,trivial⟩ rfl (Nat.zero_le _) (by simp)⟩
 replace hF:=q0p h30 hF
 refine st ?_
 refine WPU.exit ?_
 refine st ?_
 exact ⟨_,_,⟨l26,t27,hF,rfl,rfl⟩,(Nat.zero_le _),Gh.toC (n1:=3) ⟨rfl,rfl,rfl,trivial⟩ rfl (Nat.zero_le _) (by simp)⟩
 replace hF:=q0p h11 hF
 refine st ?_
 refine WPU.exit ?_
 refine st ?_
 exact ⟨_,_,⟨l7,t8,hF,rfl,rfl⟩,(Nat.zero_le _),Gh.toC (n1:=2) ⟨rfl,trivial⟩ rfl (Nat.zero_le _) (by simp)⟩
def q59   : Option (Int) :=
 some 0
def q4b (r3:List Int) (r5:List Int):Nat→Int→Option (Int)
 | 0,_=>none
 | m1+1,z14 =>
  bindO (cond (decide (z14<(r3.length:Int)))
   (some (decide (z14<(r5.length:Int))))
   (some false)) fun b16 =>
  cond b16
   (bindO (idxO r3 z14) fun x19 =>
   bindO (idxO r5 z14) fun x21 =>
   cond (decide (x19<x21))
    (some (-1))
    (bindO (idxO r3 z14) fun x24 =>
    bindO (idxO r5 z14) fun x26 =>
    cond (decide (x24 > x26))
     (some 1)
     ((q4b r3 r5 m1) (IntKind.i64.wrap (z14+1)))))
   (q59)
def q5i (n:Nat) (p1:GFS) (p2:GFS):Option (Int) :=
 bindO (q5j n p1) fun r3 =>
 bindO (q5j n p2) fun r5 =>
 q4b r3 r5 n 0
theorem qb0 (n:Nat) (p1:GFS) (p2:GFS) (r:Int) (hF:q5i n p1 p2=some r):EvU Try.prog 25 [.agg [.isl false (List.map cGNode p1.Nodes)],.agg [.isl false (List.map cGNode p2.Nodes)]] ⟨[],0⟩ (fun u _=>u = .int .i64 r∧Bel 0 u):=by
 unfold q5i at hF
 refine EvU.of_body Try.tb_ok fn25 rfl ?_
 refine WPU.ghost (tm':=fr 42 [(0,.agg [.isl false (List.map cGNode p1.Nodes)]),(1,.agg [.isl false (List.map cGNode p2.Nodes)])]) (Gh.start (Nat.le_of_ble_eq_true rfl)) (Nat.zero_le _) ?_
 refine sr ?_
 refine RS.q (u:=.ptr 0 0 0) (σ':=⟨[(0,.row [.isl false (List.map cGNode p1.Nodes)] 25)],1⟩) rfl (q3u rfl rfl rfl) (RS.q (u:=.ptr 1 0 0) (σ':=⟨[(1,.row [.isl false (List.map cGNode p2.Nodes)] 25),(0,.row [.isl false (List.map cGNode p1.Nodes)] 25)],2⟩) rfl (q3u rfl rfl rfl) ?_)
 refine sd ?_
 obtain ⟨r3,h4,hF⟩:=q00 hF
 refine sr ?_
 refine RS.q (u:=.agg [.isl false (List.map cGNode p1.Nodes)]) rfl (q12 und25 rfl (q02 inf25) rfl rfl rfl) ?_
 refine RS.callx (R:=fun u σ'=>u = .vl 3 0 0 r3.length∧σ'=⟨[(3,.vec (List.map (cI .i64) r3).flatten 3 1 0),(1,.row [.isl false (List.map cGNode p2.Nodes)] 25),(0,.row [.isl false (List.map cGNode p1.Nodes)] 25)],4⟩) (args:=[.agg [.isl false (List.map cGNode p1.Nodes)]]) rfl (q01 rfl rfl fn39 hb39 rfl rfl) (EvU.own0 (cI .i64) (q76 n p1 r3 h4) _ 3 rfl) rfl rfl ?_
 rintro _ _ ⟨rfl,rfl⟩
 refine sd ?_
 obtain ⟨r5,h6,hF⟩:=q00 hF
 refine sr ?_
 refine RS.q (u:=.agg [.isl false (List.map cGNode p2.Nodes)]) rfl (q12 und25 rfl (q02 inf25) rfl rfl rfl) ?_
 refine RS.callx (R:=fun u σ'=>u = .vl 5 0 0 r5.length∧σ'=⟨[(5,.vec (List.map (cI .i64) r5).flatten 3 1 0),(3,.vec (List.map (cI .i64) r3).flatten 3 1 0),(1,.row [.isl false (List.map cGNode p2.Nodes)] 25),(0,.row [.isl false (List.map cGNode p1.Nodes)] 25)],6⟩) (args:=[.agg [.isl false (List.map cGNode p2.Nodes)]]) rfl (q01 rfl rfl fn39 hb39 rfl rfl) (EvU.own0 (cI .i64) (q76 n p2 r5 h6) _ 5 rfl) rfl rfl ?_
 rintro _ _ ⟨rfl,rfl⟩
 refine se ?_
 refine sd ?_
 refine WPU.ghost (tm':=fr 42 [(5,.vl 3 0 0 r3.length),(6,.vl 5 0 0 r5.length),(7,.int .i64 0)]) (Gh.sub ⟨rfl,rfl,rfl,trivial⟩) (Nat.zero_le _) ?_
 refine WPU.loopK (fun m tm σ=>∃ z14:Int,q4b r3 r5 m z14=some r∧tm=fr 42 [(5,.vl 3 0 0 r3.length),(6,.vl 5 0 0 r5.length),(7,.int .i64 z14)]∧σ=⟨[(5,.vec (List.map (cI .i64) r5).flatten 3 1 0),(3,.vec (List.map (cI .i64) r3).flatten 3 1 0),(1,.row [.isl false (List.map cGNode p2.Nodes)] 25),(0,.row [.isl false (List.map cGNode p1.Nodes)] 25)],6⟩) (fun tm σ=>q59=some r∧tm=fr 42 []∧σ=⟨[(5,.vec (List.map (cI .i64) r5).flatten 3 1 0),(3,.vec (List.map (cI .i64) r3).flatten 3 1 0),(1,.row [.isl false (List.map cGNode p2.Nodes)] 25),(0,.row [.isl false (List.map cGNode p1.Nodes)] 25)],6⟩) n ⟨0,hF,rfl,rfl⟩ ?_ ?_
 rintro _ _ ⟨hF,rfl,rfl⟩
 unfold q59 at hF
 refine sr ?_
 refine sd ?_
 refine WPU.ret ?_
 refine st ?_
 have hr:=Option.some.inj hF
 subst hr
 exact ⟨.inr rfl,[.int .i64 0],q2k rfl (q20),.int .i64 0,⟨[],0⟩,Nat.le_refl _,Gh.toR (.int .i64 0) rfl,rfl,BU.h⟩
 rintro m1 _ _ ⟨z14,hF,rfl,rfl⟩
 rcases m1 with _ | m1
 cases hF
 unfold q4b at hF
 refine st ?_
 obtain ⟨b16,h17,hF⟩:=q00 hF
 refine WPU.joinK (fun tm σ=>tm=fr 42 [(5,.vl 3 0 0 r3.length),(6,.vl 5 0 0 r5.length),(7,.int .i64 z14),(21,.bool b16)]∧σ=⟨[(5,.vec (List.map (cI .i64) r5).flatten 3 1 0),(3,.vec (List.map (cI .i64) r3).flatten 3 1 0),(1,.row [.isl false (List.map cGNode p2.Nodes)] 25),(0,.row [.isl false (List.map cGNode p1.Nodes)] 25)],6⟩) ?_ ?_
 rintro _ _ ⟨rfl,rfl⟩
 refine st ?_
 refine WPU.condS (t:=b16) rfl (fun h18=>?_) (fun h18=>?_)
 replace hF:=q0q h18 hF
 refine st ?_
 refine WPU.skip ?_
 refine st ?_
 refine WPU.block ?_
 refine st ?_
 obtain ⟨x19,h20,hF⟩:=q00 hF
 obtain ⟨x21,h22,hF⟩:=q00 hF
 refine WPU.drawE Try.tb_ok [] (by kernel_rfl) ?_
 repeat refine RD.mv rfl rfl rfl rfl ?_
 refine RD.q (u:=.ptr 3 0 (0*1+z14.toNat*1)) rfl (q2t rfl rfl (q7r (cI .i64) und55 (q02 inf3) (by decide) (q68 .i64) (vo rfl) h20)) ?_
 refine RD.q (u:=.int .i64 x19) rfl (q97 (cI .i64) (fun x=>.int .i64 x) und3 rfl (fun _=>rfl) rfl rfl h20) ?_
 repeat refine RD.mv rfl rfl rfl rfl ?_
 refine RD.q (u:=.ptr 5 0 (0*1+z14.toNat*1)) rfl (q2t rfl rfl (q7r (cI .i64) und55 (q02 inf3) (by decide) (q68 .i64) (vo rfl) h22)) ?_
 refine RD.q (u:=.int .i64 x21) rfl (q97 (cI .i64) (fun x=>.int .i64 x) und3 rfl (fun _=>rfl) rfl rfl h22) (RD.q rfl (q06 rfl rfl (q2s _ _ _) rfl) ?_)
 refine RD.done ⟨by kernel_rfl,trivial,?_⟩
 refine st ?_
 refine WPU.condS (t:=(decide (x19<x21))) rfl (fun h23=>?_) (fun h23=>?_)
 replace hF:=q0q h23 hF
 refine sr ?_
 refine sd ?_
 refine WPU.ret ?_
 refine st ?_
 have hr:=Option.some.inj hF
 subst hr
 exact ⟨.inr rfl,[.int .i64 (-1)],q2k rfl (q20),.int .i64 (-1),⟨[],0⟩,Nat.le_refl _,Gh.toR (.int .i64 (-1)) rfl,rfl,BU.h⟩
 replace hF:=q0p h23 hF
 refine st ?_
 refine WPU.skip ?_
 refine st ?_
 obtain ⟨x24,h25,hF⟩:=q00 hF
 obtain ⟨x26,h27,hF⟩:=q00 hF
 refine WPU.drawE Try.tb_ok [] (by kernel_rfl) ?_
 repeat refine RD.mv rfl rfl rfl rfl ?_
 refine RD.q (u:=.ptr 3 0 (0*1+z14.toNat*1)) rfl (q2t rfl rfl (q7r (cI .i64) und55 (q02 inf3) (by decide) (q68 .i64) (vo rfl) h25)) ?_
 refine RD.q (u:=.int .i64 x24) rfl (q97 (cI .i64) (fun x=>.int .i64 x) und3 rfl (fun _=>rfl) rfl rfl h25) ?_
 repeat refine RD.mv rfl rfl rfl rfl ?_
 refine RD.q (u:=.ptr 5 0 (0*1+z14.toNat*1)) rfl (q2t rfl rfl (q7r (cI .i64) und55 (q02 inf3) (by decide) (q68 .i64) (vo rfl) h27)) ?_
 refine RD.q (u:=.int .i64 x26) rfl (q97 (cI .i64) (fun x=>.int .i64 x) und3 rfl (fun _=>rfl) rfl rfl h27) (RD.q rfl (q06 rfl rfl (ix_gtr _ _ _) rfl) ?_)
 refine RD.done ⟨by kernel_rfl,trivial,?_⟩
 refine st ?_
 refine WPU.condS (t:=(decide (x24 > x26))) rfl (fun h28=>?_) (fun h28=>?_)
 replace hF:=q0q h28 hF
 refine sr ?_
 refine sd ?_
 refine WPU.ret ?_
 refine st ?_
 have hr:=Option.some.inj hF
 subst hr
 exact ⟨.inr rfl,[.int .i64 1],q2k rfl (q20),.int .i64 1,⟨[],0⟩,Nat.le_refl _,Gh.toR (.int .i64 1) rfl,rfl,BU.h⟩
 replace hF:=q0p h28 hF
 refine st ?_
 refine WPU.skip ?_
 refine sr ?_
 refine RS.q rfl (q06 rfl rfl (q3w _ _ _) rfl) ?_
 refine sd ?_
 exact ⟨m1,_,_,Nat.lt_succ_self _,⟨(IntKind.i64.wrap (z14+1)),hF,rfl,rfl⟩,(Nat.zero_le _),Gh.toC (n1:=6) ⟨rfl,rfl,rfl,trivial⟩ rfl (Nat.zero_le _) (by simp)⟩
 replace hF:=q0p h18 hF
 refine st ?_
 refine WPU.exit ?_
 refine st ?_
 exact ⟨_,_,⟨hF,rfl,rfl⟩,(Nat.zero_le _),Gh.toC (n1:=6) trivial rfl (Nat.zero_le _) (by simp)⟩
 rcases q3m (decide (z14<(r3.length:Int))) with h15 | h15
 replace h17:=q0q h15 h17
 replace h17:=Option.some.inj h17
 subst h17
 refine sr ?_
 repeat refine RS.mv rfl rfl rfl rfl ?_
 refine RS.q rfl (q1e rfl rfl rfl (q54 und55 rfl)) (RS.q rfl (q06 rfl rfl (q2s _ _ _) rfl) (RS.mv rfl rfl rfl rfl (RS.op (want1 rfl rfl rfl h15) (q4d rfl) rfl rfl (RS.op (want1 rfl rfl rfl h15) (q4d rfl) rfl rfl (RS.op (want1 rfl rfl rfl h15) (q1e rfl rfl rfl (q54 und55 rfl)) rfl rfl (RS.op (want1 rfl rfl rfl h15) (q06 rfl rfl (q2s _ _ _) rfl) rfl rfl (RS.q (u:=.bool (decide (z14<(r5.length:Int)))) rfl (q0n rfl h15 rfl) ?_)))))))
 refine sd ?_
 exact ⟨_,_,⟨rfl,rfl⟩,(Nat.zero_le _),Gh.toC (n1:=6) ⟨rfl,rfl,rfl,rfl,trivial⟩ rfl (Nat.zero_le _) (by simp)⟩
 replace h17:=q0p h15 h17
 replace h17:=Option.some.inj h17
 subst h17
 refine sr ?_
 repeat refine RS.mv rfl rfl rfl rfl ?_
 refine RS.q rfl (q1e rfl rfl rfl (q54 und55 rfl)) (RS.q rfl (q06 rfl rfl (q2s _ _ _) rfl) (RS.mv rfl rfl rfl rfl ?_))
 repeat refine RS.no (want0 rfl rfl rfl h15) rfl rfl ?_
 refine RS.q (u:=.bool false) rfl (q0m rfl h15 rfl) ?_
 refine sd ?_
 exact ⟨_,_,⟨rfl,rfl⟩,(Nat.zero_le _),Gh.toC (n1:=6) ⟨rfl,rfl,rfl,rfl,trivial⟩ rfl (Nat.zero_le _) (by simp)⟩
theorem q9q (n:Nat) (p1:GFS) (p2:GFS) (r:Int) (hF:q5i n p1 p2=some r) (σ:Sg):EvU Try.prog 25 [.agg [.isl false (List.map cGNode p1.Nodes)],.agg [.isl false (List.map cGNode p2.Nodes)]] σ (fun u σ'=>u = .int .i64 r∧σ'=σ) :=
 EvU.pure1C (qb0 n p1 p2 r hF) σ
def q6e (n:Nat) (p1:GFS) (p2:GFS):Option (Bool) :=
 bindO (q4k n p1 p2) fun r3 =>
 some (r3 == 0)
theorem graph_Equal_0 (n:Nat) (p1:GFS) (p2:GFS) (r:Bool) (hF:q6e n p1 p2=some r):EvU Try.prog 26 [.agg [.isl false (List.map cGNode p1.Nodes)],.agg [.isl false (List.map cGNode p2.Nodes)]] ⟨[],0⟩ (fun u _=>u = .bool r∧Bel 0 u):=by
 unfold q6e at hF
 refine EvU.of_body Try.tb_ok fn26 rfl ?_
 refine WPU.ghost (tm':=fr 9 [(0,.agg [.isl false (List.map cGNode p1.Nodes)]),(1,.agg [.isl false (List.map cGNode p2.Nodes)])]) (Gh.start (Nat.le_of_ble_eq_true rfl)) (Nat.zero_le _) ?_
 refine sr ?_
 refine RS.q (u:=.ptr 0 0 0) (σ':=⟨[(0,.row [.isl false (List.map cGNode p1.Nodes)] 25)],1⟩) rfl (q3u rfl rfl rfl) (RS.q (u:=.ptr 1 0 0) (σ':=⟨[(1,.row [.isl false (List.map cGNode p2.Nodes)] 25),(0,.row [.isl false (List.map cGNode p1.Nodes)] 25)],2⟩) rfl (q3u rfl rfl rfl) ?_)
 refine sd ?_
 obtain ⟨r3,h4,hF⟩:=q00 hF
 refine sr ?_
 refine RS.q (u:=.agg [.isl false (List.map cGNode p1.Nodes)]) rfl (q12 und25 rfl (q02 inf25) rfl rfl rfl) (RS.q (u:=.agg [.isl false (List.map cGNode p2.Nodes)]) rfl (q12 und25 rfl (q02 inf25) rfl rfl rfl) (RS.call (u:=.int .i64 r3) (args:=[.agg [.isl false (List.map cGNode p1.Nodes)],.agg [.isl false (List.map cGNode p2.Nodes)]]) rfl (q01 rfl rfl fn24 hb24 rfl rfl) (q6t n p1 p2 r3 h4 _) rfl rfl (RS.q rfl (q06 rfl rfl (q3l _ _ _) rfl) ?_)))
 refine sd ?_
 refine WPU.ret ?_
 refine st ?_
 have hr:=Option.some.inj hF
 subst hr
 exact ⟨.inr rfl,[.bool (r3 == 0)],q2k rfl (q20),.bool (r3 == 0),⟨[],0⟩,Nat.le_refl _,Gh.toR (.bool (r3 == 0)) rfl,rfl,BU.h⟩
theorem q7u (n:Nat) (p1:GFS) (p2:GFS) (r:Bool) (hF:q6e n p1 p2=some r) (σ:Sg):EvU Try.prog 26 [.agg [.isl false (List.map cGNode p1.Nodes)],.agg [.isl false (List.map cGNode p2.Nodes)]] σ (fun u σ'=>u = .bool r∧σ'=σ) :=
 EvU.pure1C (graph_Equal_0 n p1 p2 r hF) σ
def q66 (n:Nat) (p1:Int):Option (GFS) :=
 some (GFS.mk ([(GNode.mk p1 [])]))
theorem graph_Atom_0 (n:Nat) (p1:Int) (r:GFS) (hF:q66 n p1=some r):EvU Try.prog 12 [.int .i64 p1] ⟨[],0⟩ (fun u _=>u = .agg [.isl false (List.map cGNode r.Nodes)]∧Bel 0 u):=by
 unfold q66 at hF
 refine EvU.of_body Try.tb_ok fn12 rfl ?_
 refine WPU.ghost (tm':=fr 7 [(0,.int .i64 p1)]) (Gh.start (Nat.le_of_ble_eq_true rfl)) (Nat.zero_le _) ?_
 refine sr ?_
 refine RS.q (u:=.ptr 0 0 0) (σ':=⟨[(0,.row [.nils] 25)],1⟩) rfl (q0v inf25 rfl rfl) ?_
 refine se ?_
 refine RS.q (u:=.agg [.int .i64 p1,.nils]) rfl (q5d bd43 rfl rfl rfl) (RS.q (u:=.sl 1 0 1 1) (σ':=⟨[(1,.row [.int .i64 p1,.nils] 43),(0,.row [.nils] 25)],2⟩) rfl (q1z und23 inf43 rfl rfl rfl rfl rfl rfl rfl) (RS.q (u:=.agg [.sl 1 0 1 1]) rfl (q5d bd25 rfl rfl rfl) (RS.opn (u:=.junk) (σ':=⟨[(1,.row [.int .i64 p1,.nils] 43),(0,.row [.sl 1 0 1 1] 25)],2⟩) rfl (q0e (q02 inf25) rfl rfl rfl rfl rfl rfl rfl rfl) rfl ?_)))
 refine sd ?_
 refine WPU.ret ?_
 refine st ?_
 have hr:=Option.some.inj hF
 subst hr
 exact ⟨.inr rfl,[.agg [.sl 1 0 1 1]],q8n (q12 und25 rfl (q02 inf25) rfl rfl rfl) (q20),.agg [.isl false (List.map cGNode ([(GNode.mk p1 [])]))],⟨[],0⟩,Nat.le_refl _,Gh.trans (Gh.trans (Gh.rowW (K:=1) (q':=[.int .i64 p1,.isl false []]) rfl rfl (.cons (.refl _) (.cons (.nil false) .nil))) (Gh.fz (tm':=[.agg [.isl false (List.map cGNode ([(GNode.mk p1 [])]))]]) (h':=[(0,.row [.isl false (List.map cGNode ([(GNode.mk p1 [])]))] 25)]) 1 (.row [.int .i64 p1,.isl false []] 43) 2 rfl (by simp) (by simp only [oneU,q07,q03,q0h,q09,q0k,q0d,q0c,q0b,q0a,q08,q0i,q0j,q0g,q0l,q1i,junkT,q1u,q1x,Nat.reduceLeDiff,Nat.reduceMul,List.length_cons,List.length_nil,Nat.reduceAdd]<;>simp only [chunks,List.take,List.drop,List.map,cGNode]) (by simp only [fzH,fzB,ug,Nat.beq,cond_true,cond_false,oneU,q07,q03,q0h,q09,q0k,q0d,q0c,q0b,q0a,q08,q0i,q0j,q0g,q0l,q1i,junkT,q1u,q1x,Nat.reduceLeDiff,Nat.reduceMul,List.length_cons,List.length_nil,Nat.reduceAdd]<;>simp only [chunks,List.take,List.drop,List.map,cGNode]))) (Gh.toR (.agg [.isl false (List.map cGNode ([(GNode.mk p1 [])]))]) rfl),rfl,BU.h⟩
theorem q5g (n:Nat) (p1:Int) (r:GFS) (hF:q66 n p1=some r) (σ:Sg):EvU Try.prog 12 [.int .i64 p1] σ (fun u σ'=>u = .agg [.isl false (List.map cGNode r.Nodes)]∧σ'=σ) :=
 EvU.pure1C (graph_Atom_0 n p1 r hF) σ
def q3t  (w13:MapL Int Bool):Option (Int) :=
 some 0
def q2n (p1:GNode) (p2:Int):Nat→Int→(MapL Int Bool)→Option (Int)
 | 0,_,_=>none
 | m1+1,z11,w12 =>
  cond (decide (z11<(p1.Arcs.length:Int)))
   (bindO (idxO p1.Arcs z11) fun x15 =>
   bindO (cond (decide (x15.Feat<0))
    (some true)
    (cond (decide (x15.To<0))
     (some true)
     (some (decide (x15.To ≥ p2))))) fun b19 =>
   cond b19
    (some 2)
    (cond ((mGet (fun a b=>a == b) w12 x15.Feat).getD false)
     (some 4)
     ((q2n p1 p2 m1) (IntKind.i64.wrap (z11+1)) (mUpd (fun a b=>a == b) w12 x15.Feat true))))
   (q3t w12)
def q34 (n:Nat) (p1:GNode) (p2:Int):Option (Int) :=
 cond (decide (p1.Typex<0))
  (some 2)
  (q2n p1 p2 n 0 (mNew:MapL Int Bool))
theorem q96 (n:Nat) (p1:GNode) (p2:Int) (r:Int) (hF:q34 n p1 p2=some r):EvU Try.prog 30 [.agg (cGNode p1),.int .i64 p2] ⟨[],0⟩ (fun u _=>u = .int .i64 r∧Bel 0 u):=by
 unfold q34 at hF
 refine EvU.of_body Try.tb_ok fn30 rfl ?_
 refine WPU.ghost (tm':=fr 41 [(0,.agg (cGNode p1)),(1,.int .i64 p2)]) (Gh.start (Nat.le_of_ble_eq_true rfl)) (Nat.zero_le _) ?_
 refine sr ?_
 refine RS.q (u:=.ptr 0 0 0) (σ':=⟨[(0,.row (cGNode p1) 43)],1⟩) rfl (q3u rfl rfl rfl) ?_
 refine se ?_
 refine RS.q (u:=.ptr 0 0 0) rfl (q0z und43 rfl (q02 inf3) rfl rfl rfl) (RS.q (u:=.int .i64 p1.Typex) rfl (q05 und3 rfl rfl rfl rfl) (RS.q rfl (q06 rfl rfl (q2s _ _ _) rfl) ?_))
 refine sd ?_
 refine WPU.condS (t:=(decide (p1.Typex<0))) rfl (fun h3=>?_) (fun h3=>?_)
 replace hF:=q0q h3 hF
 refine sr ?_
 refine sd ?_
 refine WPU.ret ?_
 refine st ?_
 have hr:=Option.some.inj hF
 subst hr
 exact ⟨.inr rfl,[.int .i64 2],q2k rfl (q20),.int .i64 2,⟨[],0⟩,Nat.le_refl _,Gh.toR (.int .i64 2) rfl,rfl,BU.h⟩
 replace hF:=q0p h3 hF
 refine st ?_
 refine WPU.skip ?_
 refine sr ?_
 refine RS.q (u:=.map 1) (σ':=⟨[(1,.map (List.map (mE (fun x=>.int .i64 x) (fun x=>.bool x)) (mNew:MapL Int Bool).es) (mNew:MapL Int Bool).cl),(0,.row (cGNode p1) 43)],2⟩) rfl (op_mnew) ?_
 refine se ?_
 refine RS.q (u:=.ptr 0 0 1) rfl (q0z und43 rfl (q02 inf41) rfl rfl rfl) (RS.q (u:=.isl false (List.map cGArc p1.Arcs)) rfl (q05 und41 rfl rfl rfl rfl) (RS.q rfl (q1e rfl rfl rfl (q1n cGArc und41)) (RS.mv rfl rfl rfl rfl ?_)))
 refine sd ?_
 refine WPU.ghost (tm':=fr 41 [(1,.int .i64 p2),(5,.map 1),(13,.isl false (List.map cGArc p1.Arcs)),(14,.int .i64 (p1.Arcs.length:Int)),(15,.int .i64 0)]) (Gh.sub ⟨rfl,rfl,rfl,rfl,rfl,trivial⟩) (Nat.zero_le _) ?_
 refine WPU.loopK (fun m tm σ=>∃ z11:Int,∃ w12:MapL Int Bool,q2n p1 p2 m z11 w12=some r∧tm=fr 41 [(1,.int .i64 p2),(5,.map 1),(13,.isl false (List.map cGArc p1.Arcs)),(14,.int .i64 (p1.Arcs.length:Int)),(15,.int .i64 z11)]∧σ=⟨[(1,.map (List.map (mE (fun x=>.int .i64 x) (fun x=>.bool x)) w12.es) w12.cl),(0,.row (cGNode p1) 43)],2⟩) (fun tm σ=>∃ w13:MapL Int Bool,q3t w13=some r∧tm=fr 41 []∧σ=⟨[(1,.map (List.map (mE (fun x=>.int .i64 x) (fun x=>.bool x)) w13.es) w13.cl),(0,.row (cGNode p1) 43)],2⟩) n ⟨0,(mNew:MapL Int Bool),hF,rfl,rfl⟩ ?_ ?_
 rintro _ _ ⟨w13,hF,rfl,rfl⟩
 unfold q3t at hF
 refine sr ?_
 refine sd ?_
 refine WPU.ret ?_
 refine st ?_
 have hr:=Option.some.inj hF
 subst hr
 exact ⟨.inr rfl,[.int .i64 0],q2k rfl (q20),.int .i64 0,⟨[],0⟩,Nat.le_refl _,Gh.toR (.int .i64 0) rfl,rfl,BU.h⟩
 rintro m1 _ _ ⟨z11,w12,hF,rfl,rfl⟩
 rcases m1 with _ | m1
 cases hF
 unfold q2n at hF
 refine sr ?_
 refine RS.q rfl (q06 rfl rfl (q2s _ _ _) rfl) ?_
 refine sd ?_
 refine WPU.condS (t:=(decide (z11<(p1.Arcs.length:Int)))) rfl (fun h14=>?_) (fun h14=>?_)
 replace hF:=q0q h14 hF
 refine st ?_
 refine WPU.skip ?_
 refine st ?_
 refine WPU.block ?_
 refine st ?_
 obtain ⟨x15,h16,hF⟩:=q00 hF
 refine sr ?_
 refine RS.q (u:=.iptr (cGArc x15)) rfl (q2t rfl rfl (q45 cGArc und41 (q02 inf45) q17 h16 rfl)) (RS.q (u:=.agg (cGArc x15)) rfl (q9j und45 rfl (q02 inf45) rfl rfl) (RS.q (u:=.ptr 2 0 0) (σ':=⟨[(2,.row [.int .i64 0,.int .i64 0] 45),(1,.map (List.map (mE (fun x=>.int .i64 x) (fun x=>.bool x)) w12.es) w12.cl),(0,.row (cGNode p1) 43)],3⟩) rfl (q0v inf45 rfl rfl) (RS.opn (u:=.junk) (σ':=⟨[(2,.row (cGArc x15) 45),(1,.map (List.map (mE (fun x=>.int .i64 x) (fun x=>.bool x)) w12.es) w12.cl),(0,.row (cGNode p1) 43)],3⟩) rfl (q0e (q02 inf45) rfl rfl rfl rfl rfl rfl rfl rfl) rfl ?_)))
 refine sd ?_
 obtain ⟨b19,h20,hF⟩:=q00 hF
 refine WPU.joinK (fun tm σ=>tm=fr 41 [(1,.int .i64 p2),(5,.map 1),(7,.ptr 2 0 0),(13,.isl false (List.map cGArc p1.Arcs)),(14,.int .i64 (p1.Arcs.length:Int)),(15,.int .i64 z11),(32,.bool b19)]∧σ=⟨[(2,.row (cGArc x15) 45),(1,.map (List.map (mE (fun x=>.int .i64 x) (fun x=>.bool x)) w12.es) w12.cl),(0,.row (cGNode p1) 43)],3⟩) ?_ ?_
 rintro _ _ ⟨rfl,rfl⟩
 refine st ?_
 refine WPU.condS (t:=b19) rfl (fun h21=>?_) (fun h21=>?_)
 replace hF:=q0q h21 hF
 refine sr ?_
 refine sd ?_
 refine WPU.ret ?_
 refine st ?_
 have hr:=Option.some.inj hF
 subst hr
 exact ⟨.inr rfl,[.int .i64 2],q2k rfl (q20),.int .i64 2,⟨[],0⟩,Nat.le_refl _,Gh.toR (.int .i64 2) rfl,rfl,BU.h⟩
 replace hF:=q0p h21 hF
 refine st ?_
 refine WPU.skip ?_
 refine sr ?_
 refine RS.q (u:=.ptr 2 0 0) rfl (q0z und45 rfl (q02 inf3) rfl rfl rfl) (RS.q (u:=.int .i64 x15.Feat) rfl (q05 und3 rfl rfl rfl rfl) (RS.q (u:=.bool ((mGet (fun a b=>a == b) w12 x15.Feat).getD false)) rfl (op_look (kU:=(fun x=>.int .i64 x)) (vU:=(fun x=>.bool x)) (m:=w12) (k:=x15.Feat) (zv:=false) (q70 und3) und60 rfl rfl rfl inf4 rfl) ?_))
 refine sd ?_
 refine WPU.condS (t:=((mGet (fun a b=>a == b) w12 x15.Feat).getD false)) rfl (fun h22=>?_) (fun h22=>?_)
 replace hF:=q0q h22 hF
 refine sr ?_
 refine sd ?_
 refine WPU.ret ?_
 refine st ?_
 have hr:=Option.some.inj hF
 subst hr
 exact ⟨.inr rfl,[.int .i64 4],q2k rfl (q20),.int .i64 4,⟨[],0⟩,Nat.le_refl _,Gh.toR (.int .i64 4) rfl,rfl,BU.h⟩
 replace hF:=q0p h22 hF
 refine st ?_
 refine WPU.skip ?_
 refine sr ?_
 refine RS.q (u:=.ptr 2 0 0) rfl (q0z und45 rfl (q02 inf3) rfl rfl rfl) (RS.q (u:=.int .i64 x15.Feat) rfl (q05 und3 rfl rfl rfl rfl) (RS.opn (u:=.junk) (σ':=⟨[(2,.row (cGArc x15) 45),(1,.map (List.map (mE (fun x=>.int .i64 x) (fun x=>.bool x)) (mUpd (fun a b=>a == b) w12 x15.Feat true).es) (mUpd (fun a b=>a == b) w12 x15.Feat true).cl),(0,.row (cGNode p1) 43)],3⟩) rfl (op_mup (kU:=(fun x=>.int .i64 x)) (vU:=(fun x=>.bool x)) (m:=w12) (k:=x15.Feat) (v:=true) (q70 und3) und60 rfl rfl rfl rfl rfl) rfl ?_))
 refine se ?_
 refine RS.q rfl (q06 rfl rfl (q3w _ _ _) rfl) (RS.mv rfl rfl rfl rfl ?_)
 refine sd ?_
 exact ⟨m1,_,_,Nat.lt_succ_self _,⟨(IntKind.i64.wrap (z11+1)),(mUpd (fun a b=>a == b) w12 x15.Feat true),hF,rfl,rfl⟩,(Nat.zero_le _),Gh.toC (n1:=2) ⟨rfl,rfl,rfl,rfl,rfl,trivial⟩ rfl (Nat.zero_le _) (by simp)⟩
 rcases q3m (decide (x15.Feat<0)) with h17 | h17
 replace h20:=q0q h17 h20
 replace h20:=Option.some.inj h20
 subst h20
 refine sr ?_
 refine RS.q (u:=.ptr 2 0 0) rfl (q0z und45 rfl (q02 inf3) rfl rfl rfl) (RS.q (u:=.int .i64 x15.Feat) rfl (q05 und3 rfl rfl rfl rfl) (RS.q rfl (q06 rfl rfl (q2s _ _ _) rfl) (RS.mv rfl rfl rfl rfl ?_)))
 repeat refine RS.no (want0 rfl rfl rfl h17) rfl rfl ?_
 refine RS.q (u:=.bool true) rfl (q0n rfl h17 rfl) (RS.mv rfl rfl rfl rfl ?_)
 repeat refine RS.no (want0 rfl rfl rfl rfl) rfl rfl ?_
 refine RS.q (u:=.bool true) rfl (q0n rfl rfl rfl) ?_
 refine sd ?_
 exact ⟨_,_,⟨rfl,rfl⟩,(Nat.zero_le _),Gh.toC (n1:=3) ⟨rfl,rfl,rfl,rfl,rfl,rfl,rfl,trivial⟩ rfl (Nat.zero_le _) (by simp)⟩
 replace h20:=q0p h17 h20
 rcases q3m (decide (x15.To<0)) with h18 | h18
 replace h20:=q0q h18 h20
 replace h20:=Option.some.inj h20
 subst h20
 refine sr ?_
 refine RS.q (u:=.ptr 2 0 0) rfl (q0z und45 rfl (q02 inf3) rfl rfl rfl) (RS.q (u:=.int .i64 x15.Feat) rfl (q05 und3 rfl rfl rfl rfl) (RS.q rfl (q06 rfl rfl (q2s _ _ _) rfl) (RS.mv rfl rfl rfl rfl (RS.op (u:=.ptr 2 0 1) (want1 rfl rfl rfl h17) (q0z und45 rfl (q02 inf3) rfl rfl rfl) rfl rfl (RS.op (u:=.int .i64 x15.To) (want1 rfl rfl rfl h17) (q05 und3 rfl rfl rfl rfl) rfl rfl (RS.op (want1 rfl rfl rfl h17) (q06 rfl rfl (q2s _ _ _) rfl) rfl rfl (RS.q (u:=.bool (decide (x15.To<0))) rfl (q0m rfl h17 rfl) ?_)))))))
 refine RS.mv rfl rfl rfl rfl ?_
 repeat refine RS.no (want0 rfl rfl rfl h18) rfl rfl ?_
 refine RS.q (u:=.bool true) rfl (q0n rfl h18 rfl) ?_
 refine sd ?_
 exact ⟨_,_,⟨rfl,rfl⟩,(Nat.zero_le _),Gh.toC (n1:=3) ⟨rfl,rfl,rfl,rfl,rfl,rfl,rfl,trivial⟩ rfl (Nat.zero_le _) (by simp)⟩
 replace h20:=q0p h18 h20
 replace h20:=Option.some.inj h20
 subst h20
 refine sr ?_
 refine RS.q (u:=.ptr 2 0 0) rfl (q0z und45 rfl (q02 inf3) rfl rfl rfl) (RS.q (u:=.int .i64 x15.Feat) rfl (q05 und3 rfl rfl rfl rfl) (RS.q rfl (q06 rfl rfl (q2s _ _ _) rfl) (RS.mv rfl rfl rfl rfl (RS.op (u:=.ptr 2 0 1) (want1 rfl rfl rfl h17) (q0z und45 rfl (q02 inf3) rfl rfl rfl) rfl rfl (RS.op (u:=.int .i64 x15.To) (want1 rfl rfl rfl h17) (q05 und3 rfl rfl rfl rfl) rfl rfl (RS.op (want1 rfl rfl rfl h17) (q06 rfl rfl (q2s _ _ _) rfl) rfl rfl (RS.q (u:=.bool (decide (x15.To<0))) rfl (q0m rfl h17 rfl) ?_)))))))
 refine RS.mv rfl rfl rfl rfl (RS.op (u:=.ptr 2 0 1) (want1 rfl rfl rfl h18) (q0z und45 rfl (q02 inf3) rfl rfl rfl) rfl rfl (RS.op (u:=.int .i64 x15.To) (want1 rfl rfl rfl h18) (q05 und3 rfl rfl rfl rfl) rfl rfl (RS.op (want1 rfl rfl rfl h18) (q4d rfl) rfl rfl (RS.op (want1 rfl rfl rfl h18) (q06 rfl rfl (ix_geq _ _ _) rfl) rfl rfl (RS.q (u:=.bool (decide (x15.To ≥ p2))) rfl (q0m rfl h18 rfl) ?_)))))
 refine sd ?_
 exact ⟨_,_,⟨rfl,rfl⟩,(Nat.zero_le _),Gh.toC (n1:=3) ⟨rfl,rfl,rfl,rfl,rfl,rfl,rfl,trivial⟩ rfl (Nat.zero_le _) (by simp)⟩
 replace hF:=q0p h14 hF
 refine st ?_
 refine WPU.exit ?_
 refine st ?_
 exact ⟨_,_,⟨w12,hF,rfl,rfl⟩,(Nat.zero_le _),Gh.toC (n1:=2) trivial rfl (Nat.zero_le _) (by simp)⟩
theorem q5z (n:Nat) (p1:GNode) (p2:Int) (r:Int) (hF:q34 n p1 p2=some r) (σ:Sg):EvU Try.prog 30 [.agg (cGNode p1),.int .i64 p2] σ (fun u σ'=>u = .int .i64 r∧σ'=σ) :=
 EvU.pure1C (q96 n p1 p2 r hF) σ
def q3q (p1:GFS) (n:Nat)  : Option (GFS×Int) :=
 bindO (q24 n p1 0) fun r9 =>
 some (r9,0)
def q30 (p1:GFS) (n:Nat):Nat→Int→Option (GFS×Int)
 | 0,_=>none
 | m1+1,z8 =>
  cond (decide (z8<(p1.Nodes.length:Int)))
   (bindO (idxO p1.Nodes z8) fun x12 =>
   bindO (q34 n x12 (p1.Nodes.length:Int)) fun r14 =>
   cond (r14 != 0)
    (some ((GFS.mk []),r14))
    ((q30 p1 n m1) (IntKind.i64.wrap (z8+1))))
   (q3q p1 n)
def q1v (n:Nat) (p1:GFS):Option (GFS×Int) :=
 cond ((p1.Nodes.length:Int) == 0)
  (some ((GFS.mk []),1))
  (cond (decide ((p1.Nodes.length:Int) > 4096))
   (some ((GFS.mk []),7))
   (q30 p1 n n 0))
theorem graph_Canon_0 (n:Nat) (p1:GFS) (r:GFS×Int) (hF:q1v n p1=some r):EvU Try.prog 13 [.agg [.isl false (List.map cGNode p1.Nodes)]] ⟨[],0⟩ (fun u _=>u = .tup [.agg [.isl false (List.map cGNode r.1.Nodes)],.int .i64 r.2]∧Bel 0 u):=by
 unfold q1v at hF
 refine EvU.of_body Try.tb_ok fn13 rfl ?_
 refine WPU.ghost (tm':=fr 36 [(0,.agg [.isl false (List.map cGNode p1.Nodes)])]) (Gh.start (Nat.le_of_ble_eq_true rfl)) (Nat.zero_le _) ?_
 refine sr ?_
 refine RS.q (u:=.ptr 0 0 0) (σ':=⟨[(0,.row [.isl false (List.map cGNode p1.Nodes)] 25)],1⟩) rfl (q3u rfl rfl rfl) (RS.q (u:=.ptr 1 0 0) (σ':=⟨[(1,.row [.nils] 25),(0,.row [.isl false (List.map cGNode p1.Nodes)] 25)],2⟩) rfl (q0v inf25 rfl rfl) ?_)
 refine se ?_
 refine RS.q (u:=.ptr 0 0 0) rfl (q0z und25 rfl (q02 inf23) rfl rfl rfl) (RS.q (u:=.isl false (List.map cGNode p1.Nodes)) rfl (q05 und23 rfl rfl rfl rfl) (RS.q rfl (q1e rfl rfl rfl (q1n cGNode und23)) (RS.q rfl (q06 rfl rfl (q3l _ _ _) rfl) ?_)))
 refine sd ?_
 refine WPU.condS (t:=((p1.Nodes.length:Int) == 0)) rfl (fun h2=>?_) (fun h2=>?_)
 replace hF:=q0q h2 hF
 refine sr ?_
 refine RS.q (u:=.agg [.nils]) rfl (q5d bd25 rfl rfl rfl) (RS.opn (u:=.junk) (σ':=⟨[(1,.row [.nils] 25),(0,.row [.isl false (List.map cGNode p1.Nodes)] 25)],2⟩) rfl (q0e (q02 inf25) rfl rfl rfl rfl rfl rfl rfl rfl) rfl ?_)
 refine sd ?_
 refine WPU.ret ?_
 refine st ?_
 have hr:=Option.some.inj hF
 subst hr
 exact ⟨.inr rfl,[.agg [.nils],.int .i64 1],q8n (q12 und25 rfl (q02 inf25) rfl rfl rfl) (q2k rfl (q20)),.tup [.agg [.isl false []],.int .i64 1],⟨[],0⟩,Nat.le_refl _,Gh.trans (Gh.wk (.cons (.tup (.cons (.agg (.cons (.nil false) .nil)) (.cons (.refl _) .nil))) .nil)) (Gh.toR (.tup [.agg [.isl false []],.int .i64 1]) rfl),rfl,BU.h⟩
 replace hF:=q0p h2 hF
 refine st ?_
 refine WPU.skip ?_
 refine sr ?_
 refine RS.q (u:=.ptr 0 0 0) rfl (q0z und25 rfl (q02 inf23) rfl rfl rfl) (RS.q (u:=.isl false (List.map cGNode p1.Nodes)) rfl (q05 und23 rfl rfl rfl rfl) (RS.q rfl (q1e rfl rfl rfl (q1n cGNode und23)) (RS.q rfl (q06 rfl rfl (ix_gtr _ _ _) rfl) ?_)))
 refine sd ?_
 refine WPU.condS (t:=(decide ((p1.Nodes.length:Int) > 4096))) rfl (fun h3=>?_) (fun h3=>?_)
 replace hF:=q0q h3 hF
 refine sr ?_
 refine RS.q (u:=.agg [.nils]) rfl (q5d bd25 rfl rfl rfl) (RS.opn (u:=.junk) (σ':=⟨[(1,.row [.nils] 25),(0,.row [.isl false (List.map cGNode p1.Nodes)] 25)],2⟩) rfl (q0e (q02 inf25) rfl rfl rfl rfl rfl rfl rfl rfl) rfl ?_)
 refine sd ?_
 refine WPU.ret ?_
 refine st ?_
 have hr:=Option.some.inj hF
 subst hr
 exact ⟨.inr rfl,[.agg [.nils],.int .i64 7],q8n (q12 und25 rfl (q02 inf25) rfl rfl rfl) (q2k rfl (q20)),.tup [.agg [.isl false []],.int .i64 7],⟨[],0⟩,Nat.le_refl _,Gh.trans (Gh.wk (.cons (.tup (.cons (.agg (.cons (.nil false) .nil)) (.cons (.refl _) .nil))) .nil)) (Gh.toR (.tup [.agg [.isl false []],.int .i64 7]) rfl),rfl,BU.h⟩
 replace hF:=q0p h3 hF
 refine st ?_
 refine WPU.skip ?_
 refine sr ?_
 refine RS.q (u:=.ptr 0 0 0) rfl (q0z und25 rfl (q02 inf23) rfl rfl rfl) (RS.q (u:=.isl false (List.map cGNode p1.Nodes)) rfl (q05 und23 rfl rfl rfl rfl) (RS.q rfl (q1e rfl rfl rfl (q1n cGNode und23)) (RS.mv rfl rfl rfl rfl ?_)))
 refine sd ?_
 refine WPU.ghost (tm':=fr 36 [(1,.ptr 0 0 0),(2,.ptr 1 0 0),(18,.isl false (List.map cGNode p1.Nodes)),(19,.int .i64 (p1.Nodes.length:Int)),(20,.int .i64 0)]) (Gh.sub ⟨rfl,rfl,rfl,rfl,rfl,trivial⟩) (Nat.zero_le _) ?_
 refine WPU.loopK (fun m tm σ=>∃ z8:Int,q30 p1 n m z8=some r∧tm=fr 36 [(1,.ptr 0 0 0),(2,.ptr 1 0 0),(18,.isl false (List.map cGNode p1.Nodes)),(19,.int .i64 (p1.Nodes.length:Int)),(20,.int .i64 z8)]∧σ=⟨[(1,.row [.nils] 25),(0,.row [.isl false (List.map cGNode p1.Nodes)] 25)],2⟩) (fun tm σ=>q3q p1 n=some r∧tm=fr 36 [(1,.ptr 0 0 0),(2,.ptr 1 0 0)]∧σ=⟨[(1,.row [.nils] 25),(0,.row [.isl false (List.map cGNode p1.Nodes)] 25)],2⟩) n ⟨0,hF,rfl,rfl⟩ ?_ ?_
 rintro _ _ ⟨hF,rfl,rfl⟩
 unfold q3q at hF
 refine st ?_
 obtain ⟨r9,h10,hF⟩:=q00 hF
 refine sr ?_
 refine RS.q (u:=.agg [.isl false (List.map cGNode p1.Nodes)]) rfl (q12 und25 rfl (q02 inf25) rfl rfl rfl) (RS.call (u:=.agg [.isl false (List.map cGNode r9.Nodes)]) (args:=[.agg [.isl false (List.map cGNode p1.Nodes)],.int .i64 0]) rfl (q01 rfl rfl fn31 hb31 rfl rfl) (q5y n p1 0 r9 h10 _) rfl rfl (RS.opn (u:=.junk) (σ':=⟨[(1,.row [.isl false (List.map cGNode r9.Nodes)] 25),(0,.row [.isl false (List.map cGNode p1.Nodes)] 25)],2⟩) rfl (q0e (q02 inf25) rfl rfl rfl rfl rfl rfl rfl rfl) rfl ?_))
 refine sd ?_
 refine WPU.ret ?_
 refine st ?_
 have hr:=Option.some.inj hF
 subst hr
 exact ⟨.inr rfl,[.agg [.isl false (List.map cGNode r9.Nodes)],.int .i64 0],q8n (q12 und25 rfl (q02 inf25) rfl rfl rfl) (q2k rfl (q20)),.tup [.agg [.isl false (List.map cGNode r9.Nodes)],.int .i64 0],⟨[],0⟩,Nat.le_refl _,Gh.toR (.tup [.agg [.isl false (List.map cGNode r9.Nodes)],.int .i64 0]) rfl,rfl,BU.h⟩
 rintro m1 _ _ ⟨z8,hF,rfl,rfl⟩
 rcases m1 with _ | m1
 cases hF
 unfold q30 at hF
 refine sr ?_
 refine RS.q rfl (q06 rfl rfl (q2s _ _ _) rfl) ?_
 refine sd ?_
 refine WPU.condS (t:=(decide (z8<(p1.Nodes.length:Int)))) rfl (fun h11=>?_) (fun h11=>?_)
 replace hF:=q0q h11 hF
 refine st ?_
 refine WPU.skip ?_
 refine st ?_
 refine WPU.block ?_
 refine st ?_
 obtain ⟨x12,h13,hF⟩:=q00 hF
 refine sr ?_
 refine RS.q (u:=.iptr (cGNode x12)) rfl (q2t rfl rfl (q45 cGNode und23 (q02 inf43) q0s h13 rfl)) (RS.q (u:=.agg (cGNode x12)) rfl (q9j und43 rfl (q02 inf43) rfl rfl) (RS.q (u:=.ptr 2 0 0) (σ':=⟨[(2,.row [.int .i64 0,.nils] 43),(1,.row [.nils] 25),(0,.row [.isl false (List.map cGNode p1.Nodes)] 25)],3⟩) rfl (q0v inf43 rfl rfl) (RS.opn (u:=.junk) (σ':=⟨[(2,.row (cGNode x12) 43),(1,.row [.nils] 25),(0,.row [.isl false (List.map cGNode p1.Nodes)] 25)],3⟩) rfl (q0e (q02 inf43) rfl rfl rfl rfl rfl rfl rfl rfl) rfl ?_)))
 refine sd ?_
 obtain ⟨r14,h15,hF⟩:=q00 hF
 refine sr ?_
 refine RS.q (u:=.agg (cGNode x12)) rfl (q12 und43 rfl (q02 inf43) rfl rfl rfl) (RS.q (u:=.ptr 0 0 0) rfl (q0z und25 rfl (q02 inf23) rfl rfl rfl) (RS.q (u:=.isl false (List.map cGNode p1.Nodes)) rfl (q05 und23 rfl rfl rfl rfl) (RS.q rfl (q1e rfl rfl rfl (q1n cGNode und23)) (RS.call (u:=.int .i64 r14) (args:=[.agg (cGNode x12),.int .i64 (p1.Nodes.length:Int)]) rfl (q01 rfl rfl fn30 hb30 rfl rfl) (q5z n x12 (p1.Nodes.length:Int) r14 h15 _) rfl rfl ?_))))
 refine se ?_
 refine RS.q rfl (q06 rfl rfl (q5q _ _ _) rfl) ?_
 refine sd ?_
 refine WPU.condS (t:=(r14 != 0)) rfl (fun h16=>?_) (fun h16=>?_)
 replace hF:=q0q h16 hF
 refine sr ?_
 refine RS.q (u:=.agg [.nils]) rfl (q5d bd25 rfl rfl rfl) (RS.mv rfl rfl rfl rfl (RS.opn (u:=.junk) (σ':=⟨[(2,.row (cGNode x12) 43),(1,.row [.nils] 25),(0,.row [.isl false (List.map cGNode p1.Nodes)] 25)],3⟩) rfl (q0e (q02 inf25) rfl rfl rfl rfl rfl rfl rfl rfl) rfl ?_))
 refine sd ?_
 refine WPU.ret ?_
 refine st ?_
 have hr:=Option.some.inj hF
 subst hr
 exact ⟨.inr rfl,[.agg [.nils],.int .i64 r14],q8n (q12 und25 rfl (q02 inf25) rfl rfl rfl) (q2k rfl (q20)),.tup [.agg [.isl false []],.int .i64 r14],⟨[],0⟩,Nat.le_refl _,Gh.trans (Gh.wk (.cons (.tup (.cons (.agg (.cons (.nil false) .nil)) (.cons (.refl _) .nil))) .nil)) (Gh.toR (.tup [.agg [.isl false []],.int .i64 r14]) rfl),rfl,BU.h⟩
 replace hF:=q0p h16 hF
 refine st ?_
 refine WPU.skip ?_
 refine sr ?_
 refine RS.q rfl (q06 rfl rfl (q3w _ _ _) rfl) (RS.mv rfl rfl rfl rfl ?_)
 refine sd ?_
 exact ⟨m1,_,_,Nat.lt_succ_self _,⟨(IntKind.i64.wrap (z8+1)),hF,rfl,rfl⟩,(Nat.zero_le _),Gh.toC (n1:=2) ⟨rfl,rfl,rfl,rfl,rfl,trivial⟩ rfl (Nat.zero_le _) (by simp)⟩
 replace hF:=q0p h11 hF
 refine st ?_
 refine WPU.exit ?_
 refine st ?_
 exact ⟨_,_,⟨hF,rfl,rfl⟩,(Nat.zero_le _),Gh.toC (n1:=2) ⟨rfl,rfl,trivial⟩ rfl (Nat.zero_le _) (by simp)⟩
theorem q63 (n:Nat) (p1:GFS) (r:GFS×Int) (hF:q1v n p1=some r) (σ:Sg):EvU Try.prog 13 [.agg [.isl false (List.map cGNode p1.Nodes)]] σ (fun u σ'=>u = .tup [.agg [.isl false (List.map cGNode r.1.Nodes)],.int .i64 r.2]∧σ'=σ) :=
 EvU.pure1C (graph_Canon_0 n p1 r hF) σ
def q4e (n:Nat) (p1:GFS) (p2:GFS):Option (Bool) :=
 bindO (q5i n p1 p2) fun r3 =>
 some (r3 == 0)
theorem ref07_Equal_0 (n:Nat) (p1:GFS) (p2:GFS) (r:Bool) (hF:q4e n p1 p2=some r):EvU Try.prog 14 [.agg [.isl false (List.map cGNode p1.Nodes)],.agg [.isl false (List.map cGNode p2.Nodes)]] ⟨[],0⟩ (fun u _=>u = .bool r∧Bel 0 u):=by
 unfold q4e at hF
 refine EvU.of_body Try.tb_ok fn14 rfl ?_
 refine WPU.ghost (tm':=fr 9 [(0,.agg [.isl false (List.map cGNode p1.Nodes)]),(1,.agg [.isl false (List.map cGNode p2.Nodes)])]) (Gh.start (Nat.le_of_ble_eq_true rfl)) (Nat.zero_le _) ?_
 refine sr ?_
 refine RS.q (u:=.ptr 0 0 0) (σ':=⟨[(0,.row [.isl false (List.map cGNode p1.Nodes)] 25)],1⟩) rfl (q3u rfl rfl rfl) (RS.q (u:=.ptr 1 0 0) (σ':=⟨[(1,.row [.isl false (List.map cGNode p2.Nodes)] 25),(0,.row [.isl false (List.map cGNode p1.Nodes)] 25)],2⟩) rfl (q3u rfl rfl rfl) ?_)
 refine sd ?_
 obtain ⟨r3,h4,hF⟩:=q00 hF
 refine sr ?_
 refine RS.q (u:=.agg [.isl false (List.map cGNode p1.Nodes)]) rfl (q12 und25 rfl (q02 inf25) rfl rfl rfl) (RS.q (u:=.agg [.isl false (List.map cGNode p2.Nodes)]) rfl (q12 und25 rfl (q02 inf25) rfl rfl rfl) (RS.call (u:=.int .i64 r3) (args:=[.agg [.isl false (List.map cGNode p1.Nodes)],.agg [.isl false (List.map cGNode p2.Nodes)]]) rfl (q01 rfl rfl fn25 hb25 rfl rfl) (q9q n p1 p2 r3 h4 _) rfl rfl (RS.q rfl (q06 rfl rfl (q3l _ _ _) rfl) ?_)))
 refine sd ?_
 refine WPU.ret ?_
 refine st ?_
 have hr:=Option.some.inj hF
 subst hr
 exact ⟨.inr rfl,[.bool (r3 == 0)],q2k rfl (q20),.bool (r3 == 0),⟨[],0⟩,Nat.le_refl _,Gh.toR (.bool (r3 == 0)) rfl,rfl,BU.h⟩
theorem q1s (n:Nat) (p1:GFS) (p2:GFS) (r:Bool) (hF:q4e n p1 p2=some r) (σ:Sg):EvU Try.prog 14 [.agg [.isl false (List.map cGNode p1.Nodes)],.agg [.isl false (List.map cGNode p2.Nodes)]] σ (fun u σ'=>u = .bool r∧σ'=σ) :=
 EvU.pure1C (ref07_Equal_0 n p1 p2 r hF) σ
def q8e (n:Nat) (p1:GFS) (p2:Int):Option (GFS) :=
 bindO (q24 n p1 p2) fun r3 =>
 some r3
theorem graph_Sub_0 (n:Nat) (p1:GFS) (p2:Int) (r:GFS) (hF:q8e n p1 p2=some r):EvU Try.prog 20 [.agg [.isl false (List.map cGNode p1.Nodes)],.int .i64 p2] ⟨[],0⟩ (fun u _=>u = .agg [.isl false (List.map cGNode r.Nodes)]∧Bel 0 u):=by
 unfold q8e at hF
 refine EvU.of_body Try.tb_ok fn20 rfl ?_
 refine WPU.ghost (tm':=fr 8 [(0,.agg [.isl false (List.map cGNode p1.Nodes)]),(1,.int .i64 p2)]) (Gh.start (Nat.le_of_ble_eq_true rfl)) (Nat.zero_le _) ?_
 refine sr ?_
 refine RS.q (u:=.ptr 0 0 0) (σ':=⟨[(0,.row [.isl false (List.map cGNode p1.Nodes)] 25)],1⟩) rfl (q3u rfl rfl rfl) (RS.q (u:=.ptr 1 0 0) (σ':=⟨[(1,.row [.nils] 25),(0,.row [.isl false (List.map cGNode p1.Nodes)] 25)],2⟩) rfl (q0v inf25 rfl rfl) ?_)
 refine sd ?_
 obtain ⟨r3,h4,hF⟩:=q00 hF
 refine sr ?_
 refine RS.q (u:=.agg [.isl false (List.map cGNode p1.Nodes)]) rfl (q12 und25 rfl (q02 inf25) rfl rfl rfl) (RS.mv rfl rfl rfl rfl (RS.call (u:=.agg [.isl false (List.map cGNode r3.Nodes)]) (args:=[.agg [.isl false (List.map cGNode p1.Nodes)],.int .i64 p2]) rfl (q01 rfl rfl fn31 hb31 rfl rfl) (q5y n p1 p2 r3 h4 _) rfl rfl (RS.opn (u:=.junk) (σ':=⟨[(1,.row [.isl false (List.map cGNode r3.Nodes)] 25),(0,.row [.isl false (List.map cGNode p1.Nodes)] 25)],2⟩) rfl (q0e (q02 inf25) rfl rfl rfl rfl rfl rfl rfl rfl) rfl ?_)))
 refine sd ?_
 refine WPU.ret ?_
 refine st ?_
 have hr:=Option.some.inj hF
 subst hr
 exact ⟨.inr rfl,[.agg [.isl false (List.map cGNode r3.Nodes)]],q8n (q12 und25 rfl (q02 inf25) rfl rfl rfl) (q20),.agg [.isl false (List.map cGNode r3.Nodes)],⟨[],0⟩,Nat.le_refl _,Gh.toR (.agg [.isl false (List.map cGNode r3.Nodes)]) rfl,rfl,BU.h⟩
theorem q4f (n:Nat) (p1:GFS) (p2:Int) (r:GFS) (hF:q8e n p1 p2=some r) (σ:Sg):EvU Try.prog 20 [.agg [.isl false (List.map cGNode p1.Nodes)],.int .i64 p2] σ (fun u σ'=>u = .agg [.isl false (List.map cGNode r.Nodes)]∧σ'=σ) :=
 EvU.pure1C (graph_Sub_0 n p1 p2 r hF) σ
def q6h (p1:Int) (l12:List GArc):Option (GNode) :=
 some (GNode.mk p1 l12)
def q5h (p1:Int) (p2:List Int):Nat→Int→(List GArc)→Option (GNode)
 | 0,_,_=>none
 | m1+1,z9,l10 =>
  cond (decide ((IntKind.i64.wrap (z9+1))<(p2.length:Int)))
   (bindO (idxO p2 z9) fun x15 =>
   bindO (idxO p2 (IntKind.i64.wrap (z9+1))) fun x17 =>
   needO ((l10.length+1)*16≤140737488355328∧l10.length+1≤140737488355328) (
   (q5h p1 p2 m1) (IntKind.i64.wrap (z9+2)) (l10++[(GArc.mk x15 x17)])))
   (q6h p1 l10)
def q16 (n:Nat) (p1:Int) (p2:List Int):Option (GNode) :=
 q5h p1 p2 n 0 ([]:List GArc)
theorem law07_node_0 (n:Nat) (p1:Int) (p2:List Int) (r:GNode) (hF:q16 n p1 p2=some r):EvU Try.prog 29 [.int .i64 p1,.isl false (List.map (cI .i64) p2)] ⟨[],0⟩ (fun u _=>u = .agg (cGNode r)∧Bel 0 u):=by
 unfold q16 at hF
 refine EvU.of_body Try.tb_ok fn29 rfl ?_
 refine WPU.ghost (tm':=fr 32 [(0,.int .i64 p1),(1,.isl false (List.map (cI .i64) p2))]) (Gh.start (Nat.le_of_ble_eq_true rfl)) (Nat.zero_le _) ?_
 refine sr ?_
 refine RS.q (u:=.ptr 0 0 0) (σ':=⟨[(0,.row [.int .i64 0,.nils] 43)],1⟩) rfl (q0v inf43 rfl rfl) ?_
 refine se ?_
 refine RS.q (u:=.agg [.int .i64 p1,.nils]) rfl (q5d bd43 rfl rfl rfl) (RS.q (u:=.ptr 1 0 0) (σ':=⟨[(1,.row [.int .i64 0,.nils] 43),(0,.row [.int .i64 0,.nils] 43)],2⟩) rfl (q0v inf43 rfl rfl) (RS.opn (u:=.junk) (σ':=⟨[(1,.row [.int .i64 p1,.nils] 43),(0,.row [.int .i64 0,.nils] 43)],2⟩) rfl (q0e (q02 inf43) rfl rfl rfl rfl rfl rfl rfl rfl) rfl ?_))
 refine se ?_
 refine sd ?_
 refine WPU.ghost (tm':=fr 32 [(1,.isl false (List.map (cI .i64) p2)),(4,.ptr 0 0 0),(5,.ptr 1 0 0),(6,.int .i64 0)]) (σ':=⟨[(2,.vec (List.map cGArc ([]:List GArc)).flatten 45 2 0),(1,.row [.int .i64 p1,.vl 2 0 0 (([]:List GArc).length)] 43),(0,.row [.int .i64 0,.nils] 43)],3⟩) (Gh.trans (Gh.nilC 1 1 45 2 (by decide) (Nat.zero_le _) rfl rfl) (Gh.eqS ⟨rfl,rfl,rfl,rfl,trivial⟩ rfl)) (Nat.zero_le _) ?_
 refine WPU.ghost (tm':=fr 32 [(1,.isl false (List.map (cI .i64) p2)),(4,.ptr 0 0 0),(5,.ptr 1 0 0),(6,.int .i64 0)]) (Gh.sub ⟨rfl,rfl,rfl,rfl,trivial⟩) (Nat.zero_le _) ?_
 refine WPU.loopK (fun m tm σ=>∃ z9:Int,∃ l10:List GArc,∃ t11:Nat,q5h p1 p2 m z9 l10=some r∧tm=fr 32 [(1,.isl false (List.map (cI .i64) p2)),(4,.ptr 0 0 0),(5,.ptr 1 0 0),(6,.int .i64 z9)]∧σ=⟨[(2,.vec (List.map cGArc l10).flatten 45 2 t11),(1,.row [.int .i64 p1,.vl 2 t11 0 l10.length] 43),(0,.row [.int .i64 0,.nils] 43)],3⟩) (fun tm σ=>∃ l12:List GArc,∃ t13:Nat,q6h p1 l12=some r∧tm=fr 32 [(4,.ptr 0 0 0),(5,.ptr 1 0 0)]∧σ=⟨[(2,.vec (List.map cGArc l12).flatten 45 2 t13),(1,.row [.int .i64 p1,.vl 2 t13 0 l12.length] 43),(0,.row [.int .i64 0,.nils] 43)],3⟩) n ⟨0,([]:List GArc),0,hF,rfl,rfl⟩ ?_ ?_
 rintro _ _ ⟨l12,t13,hF,rfl,rfl⟩
 unfold q6h at hF
 refine sr ?_
 refine RS.q (u:=.agg [.int .i64 p1,.vl 2 t13 0 l12.length]) rfl (q12 und43 rfl (q02 inf43) rfl rfl rfl) (RS.opn (u:=.junk) (σ':=⟨[(2,.vec (List.map cGArc l12).flatten 45 2 t13),(1,.row [.int .i64 p1,.vl 2 t13 0 l12.length] 43),(0,.row [.int .i64 p1,.vl 2 t13 0 l12.length] 43)],3⟩) rfl (q0e (q02 inf43) rfl rfl rfl rfl rfl rfl rfl rfl) rfl ?_)
 refine sd ?_
 refine WPU.ret ?_
 refine st ?_
 have hr:=Option.some.inj hF
 subst hr
 exact ⟨.inr rfl,[.agg [.int .i64 p1,.vl 2 t13 0 l12.length]],q8n (q12 und43 rfl (q02 inf43) rfl rfl rfl) (q20),.agg [.int .i64 p1,.isl false (List.map cGArc l12)],⟨[],0⟩,Nat.le_refl _,Gh.trans (Gh.fz (tm':=[.agg [.int .i64 p1,.isl false (List.map cGArc l12)]]) (h':=[(1,.row [.int .i64 p1,.isl false (List.map cGArc l12)] 43),(0,.row [.int .i64 p1,.isl false (List.map cGArc l12)] 43)]) 2 (.vec (List.map cGArc l12).flatten 45 2 t13) 2 rfl (by simp) (by simp only [oneU,q07,q03,q0h,q09,q0k,q0d,q0c,q0b,q0a,q08,q0i,q0j,q0g,q0l,q1i,junkT,fz_vl q17]) (by simp only [fzH,fzB,ug,Nat.beq,cond_true,cond_false,oneU,q07,q03,q0h,q09,q0k,q0d,q0c,q0b,q0a,q08,q0i,q0j,q0g,q0l,q1i,junkT,fz_vl q17])) (Gh.toR (.agg [.int .i64 p1,.isl false (List.map cGArc l12)]) rfl),rfl,BU.h⟩
 rintro m1 _ _ ⟨z9,l10,t11,hF,rfl,rfl⟩
 rcases m1 with _ | m1
 cases hF
 unfold q5h at hF
 refine sr ?_
 refine RS.q rfl (q06 rfl rfl (q3w _ _ _) rfl) (RS.mv rfl rfl rfl rfl (RS.q rfl (q1e rfl rfl rfl (q1n (cI .i64) und55)) (RS.q rfl (q06 rfl rfl (q2s _ _ _) rfl) ?_)))
 refine sd ?_
 refine WPU.condS (t:=(decide ((IntKind.i64.wrap (z9+1))<(p2.length:Int)))) rfl (fun h14=>?_) (fun h14=>?_)
 replace hF:=q0q h14 hF
 refine st ?_
 refine WPU.skip ?_
 refine st ?_
 refine WPU.block ?_
 refine st ?_
 obtain ⟨x15,h16,hF⟩:=q00 hF
 obtain ⟨x17,h18,hF⟩:=q00 hF
 obtain ⟨h19,hF⟩:=q2h hF
 refine WPU.drawE Try.tb_ok [(0,12),(1,12)] (by kernel_rfl) ?_
 refine RD.q (u:=.ptr 1 0 1) rfl (q0z und43 rfl (q02 inf41) rfl rfl rfl) (RD.q (u:=.vl 2 t11 0 l10.length) rfl (q05 und41 rfl rfl rfl rfl) ?_)
 repeat refine RD.mv rfl rfl rfl rfl ?_
 refine RD.q (u:=.iptr [.int .i64 x15]) rfl (q2t rfl rfl (q45 (cI .i64) und55 (q02 inf3) (q68 .i64) h16 rfl)) (RD.q (u:=.int .i64 x15) rfl (q5r und3 rfl rfl rfl) ?_)
 repeat refine RD.mv rfl rfl rfl rfl ?_
 refine RD.q rfl (q06 rfl rfl (q3w _ _ _) rfl) (RD.q (u:=.iptr [.int .i64 x17]) rfl (q2t rfl rfl (q45 (cI .i64) und55 (q02 inf3) (q68 .i64) h18 rfl)) (RD.q (u:=.int .i64 x17) rfl (q5r und3 rfl rfl rfl) (RD.q (u:=.agg [.int .i64 x15,.int .i64 x17]) rfl (q5d bd45 rfl rfl rfl) (RD.act (u:=.sl 3 0 1 1) (σ':=⟨[(3,.row [.int .i64 x15,.int .i64 x17] 45),(2,.vec (List.map cGArc l10).flatten 45 2 t11),(1,.row [.int .i64 p1,.vl 2 t11 0 l10.length] 43),(0,.row [.int .i64 0,.nils] 43)],4⟩) rfl (q1z und41 inf45 rfl rfl rfl rfl rfl rfl rfl) rfl rfl (RD.act (u:=.vl 2 (t11+1) 0 ((l10++[(GArc.mk x15 x17)]).length)) (σ':=⟨[(3,.row [.int .i64 x15,.int .i64 x17] 45),(2,.vec (List.map cGArc (l10++[(GArc.mk x15 x17)])).flatten 45 2 (t11+1)),(1,.row [.int .i64 p1,.vl 2 t11 0 l10.length] 43),(0,.row [.int .i64 0,.nils] 43)],4⟩) rfl (q8i rfl rfl rfl rfl (q86 cGArc ([(GArc.mk x15 x17)]) und41 und41 inf45 rfl q17 rfl (q6p cGArc [(GArc.mk x15 x17)] rfl rfl rfl rfl) h19)) rfl rfl (RD.q (u:=.ptr 1 0 1) rfl (q0z und43 rfl (q02 inf41) rfl rfl rfl) (RD.actn (u:=.junk) (σ':=⟨[(3,.row [.int .i64 x15,.int .i64 x17] 45),(2,.vec (List.map cGArc (l10++[(GArc.mk x15 x17)])).flatten 45 2 (t11+1)),(1,.row [.int .i64 p1,.vl 2 (t11+1) 0 ((l10++[(GArc.mk x15 x17)]).length)] 43),(0,.row [.int .i64 0,.nils] 43)],4⟩) rfl (q0e (q02 inf41) rfl rfl rfl rfl rfl rfl rfl rfl) rfl ?_)))))))
 refine RD.done ⟨by kernel_rfl,⟨q0z und43 rfl (q02 inf41) rfl rfl rfl,⟨q05 und41 rfl rfl rfl rfl,trivial⟩⟩,?_⟩
 refine sr ?_
 refine RS.q rfl (q06 rfl rfl (q3w _ _ _) rfl) ?_
 refine sd ?_
 exact ⟨m1,_,_,Nat.lt_succ_self _,⟨(IntKind.i64.wrap (z9+2)),(l10++[(GArc.mk x15 x17)]),(t11+1),hF,rfl,rfl⟩,(Nat.zero_le _),Gh.toC (n1:=3) ⟨rfl,rfl,rfl,rfl,trivial⟩ rfl (Nat.zero_le _) (by simp)⟩
 replace hF:=q0p h14 hF
 refine st ?_
 refine WPU.exit ?_
 refine st ?_
 exact ⟨_,_,⟨l10,t11,hF,rfl,rfl⟩,(Nat.zero_le _),Gh.toC (n1:=3) ⟨rfl,rfl,trivial⟩ rfl (Nat.zero_le _) (by simp)⟩
theorem q04 (n:Nat) (p1:Int) (p2:List Int) (r:GNode) (hF:q16 n p1 p2=some r) (σ:Sg):EvU Try.prog 29 [.int .i64 p1,.isl false (List.map (cI .i64) p2)] σ (fun u σ'=>u = .agg (cGNode r)∧σ'=σ) :=
 EvU.pure1C (law07_node_0 n p1 p2 r hF) σ
def q4w (n:Nat) (p1:List GNode):Option (GFS) :=
 some (GFS.mk p1)
theorem law07_of_0 (n:Nat) (p1:List GNode) (r:GFS) (hF:q4w n p1=some r):EvU Try.prog 32 [.isl false (List.map cGNode p1)] ⟨[],0⟩ (fun u _=>u = .agg [.isl false (List.map cGNode r.Nodes)]∧Bel 0 u):=by
 unfold q4w at hF
 refine EvU.of_body Try.tb_ok fn32 rfl ?_
 refine WPU.ghost (tm':=fr 5 [(0,.isl false (List.map cGNode p1))]) (Gh.start (Nat.le_of_ble_eq_true rfl)) (Nat.zero_le _) ?_
 refine sr ?_
 refine RS.q (u:=.ptr 0 0 0) (σ':=⟨[(0,.row [.nils] 25)],1⟩) rfl (q0v inf25 rfl rfl) ?_
 refine se ?_
 refine RS.q (u:=.agg [.isl false (List.map cGNode p1)]) rfl (q5d bd25 rfl rfl rfl) (RS.opn (u:=.junk) (σ':=⟨[(0,.row [.isl false (List.map cGNode p1)] 25)],1⟩) rfl (q0e (q02 inf25) rfl rfl rfl rfl rfl rfl rfl rfl) rfl ?_)
 refine sd ?_
 refine WPU.ret ?_
 refine st ?_
 have hr:=Option.some.inj hF
 subst hr
 exact ⟨.inr rfl,[.agg [.isl false (List.map cGNode p1)]],q8n (q12 und25 rfl (q02 inf25) rfl rfl rfl) (q20),.agg [.isl false (List.map cGNode p1)],⟨[],0⟩,Nat.le_refl _,Gh.toR (.agg [.isl false (List.map cGNode p1)]) rfl,rfl,BU.h⟩
theorem q1g (n:Nat) (p1:List GNode) (r:GFS) (hF:q4w n p1=some r) (σ:Sg):EvU Try.prog 32 [.isl false (List.map cGNode p1)] σ (fun u σ'=>u = .agg [.isl false (List.map cGNode r.Nodes)]∧σ'=σ) :=
 EvU.pure1C (law07_of_0 n p1 r hF) σ
def q2o (n:Nat)  : Option (Bool) :=
 bindO (q16 n 1 ([0,2,1,1])) fun r1 =>
 bindO (q16 n 2 []) fun r3 =>
 bindO (q16 n 3 ([0,1])) fun r5 =>
 bindO (q4w n ([r1,r3,r5])) fun r7 =>
 bindO (q1v n r7) fun r9 =>
 bindO (q16 n 4 ([7,2,3,1])) fun r11 =>
 bindO (q16 n 5 []) fun r13 =>
 bindO (q16 n 6 ([2,0])) fun r15 =>
 bindO (q4w n ([r11,r13,r15])) fun r17 =>
 bindO (q1v n r17) fun r19 =>
 bindO (cond (r9.2 != 0)
  (some true)
  (cond (r19.2 != 0)
   (some true)
   (bindO (q16 n 1 ([0,1,1,2])) fun r23 =>
   bindO (q16 n 3 ([0,2])) fun r25 =>
   bindO (q16 n 2 []) fun r27 =>
   bindO (q4w n ([r23,r25,r27])) fun r29 =>
   bindO (q4e n (GFS.mk r9.1.Nodes) r29) fun r31 =>
   cond (!r31)
    (some true)
    (bindO (q16 n 4 ([3,1,7,2])) fun r34 =>
    bindO (q16 n 5 []) fun r36 =>
    bindO (q16 n 6 ([2,0])) fun r38 =>
    bindO (q4w n ([r34,r36,r38])) fun r40 =>
    bindO (q4e n (GFS.mk r19.1.Nodes) r40) fun r42 =>
    some (!r42))))) fun b44 =>
 cond b44
  (some false)
  (bindO (q1v n (GFS.mk [])) fun r47 =>
  bindO (cond (r47.2 == 1)
   (bindO (q8e n (GFS.mk r9.1.Nodes) 1) fun r50 =>
   bindO (q16 n 3 ([0,1])) fun r52 =>
   bindO (q16 n 2 []) fun r54 =>
   bindO (q4w n ([r52,r54])) fun r56 =>
   bindO (q4e n r50 r56) fun r58 =>
   cond r58
    (bindO (q16 n 1 ([5,0])) fun r61 =>
    bindO (q4w n ([r61])) fun r63 =>
    bindO (q53 n r63) fun r65 =>
    cond r65
     (bindO (q53 n (GFS.mk r9.1.Nodes)) fun r68 =>
     cond (!r68)
      (bindO (q66 n 4) fun r71 =>
      bindO (q16 n 4 []) fun r73 =>
      bindO (q4w n ([r73])) fun r75 =>
      bindO (q4e n r71 r75) fun r77 =>
      cond r77
       (bindO (q6e n (GFS.mk r9.1.Nodes) (GFS.mk r9.1.Nodes)) fun r80 =>
       cond r80
        (bindO (q66 n 9) fun r83 =>
        bindO (q4k n r83 (GFS.mk r9.1.Nodes)) fun r85 =>
        some (r85 == (-1)))
        (some false))
       (some false))
      (some false))
     (some false))
    (some false))
   (some false)) fun b87 =>
  some b87)
theorem q7s (n:Nat)  (r:Bool) (hF:q2o n  = some r):EvU Try.prog 16 [] ⟨[],0⟩ (fun u _=>u = .bool r∧Bel 0 u):=by
 unfold q2o at hF
 refine EvU.of_body Try.tb_ok fn16 rfl ?_
 refine WPU.ghost (tm':=fr 106 []) (Gh.start (Nat.le_of_ble_eq_true rfl)) (Nat.zero_le _) ?_
 refine sr ?_
 refine sd ?_
 obtain ⟨r1,h2,hF⟩:=q00 hF
 obtain ⟨r3,h4,hF⟩:=q00 hF
 obtain ⟨r5,h6,hF⟩:=q00 hF
 obtain ⟨r7,h8,hF⟩:=q00 hF
 obtain ⟨r9,h10,hF⟩:=q00 hF
 refine sr ?_
 refine RS.q (u:=.sl 0 0 4 4) (σ':=⟨[(0,.row [.int .i64 0,.int .i64 2,.int .i64 1,.int .i64 1] 3)],1⟩) rfl (q1z und55 inf3 rfl rfl rfl rfl rfl rfl rfl) ?_
 refine RS.fcall (u:=.agg (cGNode r1)) (args:=[.int .i64 1,.sl 0 0 4 4]) (σ1:=⟨[],1⟩) rfl (q01 rfl rfl fn29 hb29 rfl rfl) (Gh.fz (tm':=[.int .i64 1,.isl false (List.map (cI .i64) ([0,2,1,1]))]) (h':=[]) 0 (.row [.int .i64 0,.int .i64 2,.int .i64 1,.int .i64 1] 3) 1 rfl (by simp) (by simp only [oneU,q07,q03,q0h,q09,q0k,q0d,q0c,q0b,q0a,q08,q0i,q0j,q0g,q0l,q1i,junkT,q1u,q1x,Nat.reduceLeDiff,Nat.reduceMul,List.length_cons,List.length_nil,Nat.reduceAdd]<;>simp only [chunks,List.take,List.drop,List.map,cI,cB,cS,cL]) (by simp only [fzH,fzB,ug,Nat.beq,cond_true,cond_false,oneU,q07,q03,q0h,q09,q0k,q0d,q0c,q0b,q0a,q08,q0i,q0j,q0g,q0l,q1i,junkT,q1u,q1x,Nat.reduceLeDiff,Nat.reduceMul,List.length_cons,List.length_nil,Nat.reduceAdd]<;>simp only [chunks,List.take,List.drop,List.map,cI,cB,cS,cL])) (Nat.le_of_ble_eq_true rfl) (q04 n 1 ([0,2,1,1]) r1 h2 _) rfl rfl ?_
 refine RS.call (u:=.agg (cGNode r3)) (args:=[.int .i64 2,.nils]) rfl (q01 rfl rfl fn29 hb29 rfl rfl) (EvU.wkA (args':=[.int .i64 2,.isl false []]) (.cons (.refl _) (.cons (.nil false) .nil)) (fun s=>q04 n 2 [] r3 h4 s) _) rfl rfl (RS.q (u:=.sl 1 0 2 2) (σ':=⟨[(1,.row [.int .i64 0,.int .i64 1] 3)],2⟩) rfl (q1z und55 inf3 rfl rfl rfl rfl rfl rfl rfl) ?_)
 refine RS.fcall (u:=.agg (cGNode r5)) (args:=[.int .i64 3,.sl 1 0 2 2]) (σ1:=⟨[],2⟩) rfl (q01 rfl rfl fn29 hb29 rfl rfl) (Gh.fz (tm':=[.int .i64 3,.isl false (List.map (cI .i64) ([0,1]))]) (h':=[]) 1 (.row [.int .i64 0,.int .i64 1] 3) 1 rfl (by simp) (by simp only [oneU,q07,q03,q0h,q09,q0k,q0d,q0c,q0b,q0a,q08,q0i,q0j,q0g,q0l,q1i,junkT,q1u,q1x,Nat.reduceLeDiff,Nat.reduceMul,List.length_cons,List.length_nil,Nat.reduceAdd]<;>simp only [chunks,List.take,List.drop,List.map,cI,cB,cS,cL]) (by simp only [fzH,fzB,ug,Nat.beq,cond_true,cond_false,oneU,q07,q03,q0h,q09,q0k,q0d,q0c,q0b,q0a,q08,q0i,q0j,q0g,q0l,q1i,junkT,q1u,q1x,Nat.reduceLeDiff,Nat.reduceMul,List.length_cons,List.length_nil,Nat.reduceAdd]<;>simp only [chunks,List.take,List.drop,List.map,cI,cB,cS,cL])) (Nat.le_of_ble_eq_true rfl) (q04 n 3 ([0,1]) r5 h6 _) rfl rfl ?_
 refine RS.q (u:=.sl 2 0 3 3) (σ':=⟨[(2,.row [.int .i64 r1.Typex,.isl false (List.map cGArc r1.Arcs),.int .i64 r3.Typex,.isl false (List.map cGArc r3.Arcs),.int .i64 r5.Typex,.isl false (List.map cGArc r5.Arcs)] 43)],3⟩) rfl (q1z und23 inf43 rfl rfl rfl rfl rfl rfl rfl) ?_
 refine RS.fcall (u:=.agg [.isl false (List.map cGNode r7.Nodes)]) (args:=[.sl 2 0 3 3]) (σ1:=⟨[],3⟩) rfl (q01 rfl rfl fn32 hb32 rfl rfl) (Gh.fz (tm':=[.isl false (List.map cGNode ([r1,r3,r5]))]) (h':=[]) 2 (.row [.int .i64 r1.Typex,.isl false (List.map cGArc r1.Arcs),.int .i64 r3.Typex,.isl false (List.map cGArc r3.Arcs),.int .i64 r5.Typex,.isl false (List.map cGArc r5.Arcs)] 43) 2 rfl (by simp) (by simp only [oneU,q07,q03,q0h,q09,q0k,q0d,q0c,q0b,q0a,q08,q0i,q0j,q0g,q0l,q1i,junkT,q1u,q1x,Nat.reduceLeDiff,Nat.reduceMul,List.length_cons,List.length_nil,Nat.reduceAdd]<;>simp only [chunks,List.take,List.drop,List.map,cGNode]) (by simp only [fzH,fzB,ug,Nat.beq,cond_true,cond_false,oneU,q07,q03,q0h,q09,q0k,q0d,q0c,q0b,q0a,q08,q0i,q0j,q0g,q0l,q1i,junkT,q1u,q1x,Nat.reduceLeDiff,Nat.reduceMul,List.length_cons,List.length_nil,Nat.reduceAdd]<;>simp only [chunks,List.take,List.drop,List.map,cGNode])) (Nat.le_of_ble_eq_true rfl) (q1g n ([r1,r3,r5]) r7 h8 _) rfl rfl ?_
 refine RS.call (u:=.tup [.agg [.isl false (List.map cGNode r9.1.Nodes)],.int .i64 r9.2]) (args:=[.agg [.isl false (List.map cGNode r7.Nodes)]]) rfl (q01 rfl rfl fn13 hb13 rfl rfl) (q63 n r7 r9 h10 _) rfl rfl (RS.mv rfl rfl rfl rfl (RS.q rfl (q62 rfl rfl) (RS.q rfl (q62 rfl rfl) (RS.q (u:=.ptr 3 0 0) (σ':=⟨[(3,.row [.nils] 25)],4⟩) rfl (q0v inf25 rfl rfl) (RS.opn (u:=.junk) (σ':=⟨[(3,.row [.isl false (List.map cGNode r9.1.Nodes)] 25)],4⟩) rfl (q0e (q02 inf25) rfl rfl rfl rfl rfl rfl rfl rfl) rfl ?_)))))
 refine sd ?_
 obtain ⟨r11,h12,hF⟩:=q00 hF
 obtain ⟨r13,h14,hF⟩:=q00 hF
 obtain ⟨r15,h16,hF⟩:=q00 hF
 obtain ⟨r17,h18,hF⟩:=q00 hF
 obtain ⟨r19,h20,hF⟩:=q00 hF
 refine sr ?_
 refine RS.q (u:=.sl 4 0 4 4) (σ':=⟨[(4,.row [.int .i64 7,.int .i64 2,.int .i64 3,.int .i64 1] 3),(3,.row [.isl false (List.map cGNode r9.1.Nodes)] 25)],5⟩) rfl (q1z und55 inf3 rfl rfl rfl rfl rfl rfl rfl) ?_
 refine RS.fcall (u:=.agg (cGNode r11)) (args:=[.int .i64 4,.sl 4 0 4 4]) (σ1:=⟨[(3,.row [.isl false (List.map cGNode r9.1.Nodes)] 25)],5⟩) rfl (q01 rfl rfl fn29 hb29 rfl rfl) (Gh.fz (tm':=[.int .i64 4,.isl false (List.map (cI .i64) ([7,2,3,1]))]) (h':=[(3,.row [.isl false (List.map cGNode r9.1.Nodes)] 25)]) 4 (.row [.int .i64 7,.int .i64 2,.int .i64 3,.int .i64 1] 3) 1 rfl (by simp) (by simp only [oneU,q07,q03,q0h,q09,q0k,q0d,q0c,q0b,q0a,q08,q0i,q0j,q0g,q0l,q1i,junkT,q1u,q1x,Nat.reduceLeDiff,Nat.reduceMul,List.length_cons,List.length_nil,Nat.reduceAdd]<;>simp only [chunks,List.take,List.drop,List.map,cI,cB,cS,cL]) (by simp only [fzH,fzB,ug,Nat.beq,cond_true,cond_false,oneU,q07,q03,q0h,q09,q0k,q0d,q0c,q0b,q0a,q08,q0i,q0j,q0g,q0l,q1i,junkT,q1u,q1x,Nat.reduceLeDiff,Nat.reduceMul,List.length_cons,List.length_nil,Nat.reduceAdd]<;>simp only [chunks,List.take,List.drop,List.map,cI,cB,cS,cL])) (Nat.le_of_ble_eq_true rfl) (q04 n 4 ([7,2,3,1]) r11 h12 _) rfl rfl ?_
 refine RS.call (u:=.agg (cGNode r13)) (args:=[.int .i64 5,.nils]) rfl (q01 rfl rfl fn29 hb29 rfl rfl) (EvU.wkA (args':=[.int .i64 5,.isl false []]) (.cons (.refl _) (.cons (.nil false) .nil)) (fun s=>q04 n 5 [] r13 h14 s) _) rfl rfl (RS.q (u:=.sl 5 0 2 2) (σ':=⟨[(5,.row [.int .i64 2,.int .i64 0] 3),(3,.row [.isl false (List.map cGNode r9.1.Nodes)] 25)],6⟩) rfl (q1z und55 inf3 rfl rfl rfl rfl rfl rfl rfl) ?_)
 refine RS.fcall (u:=.agg (cGNode r15)) (args:=[.int .i64 6,.sl 5 0 2 2]) (σ1:=⟨[(3,.row [.isl false (List.map cGNode r9.1.Nodes)] 25)],6⟩) rfl (q01 rfl rfl fn29 hb29 rfl rfl) (Gh.fz (tm':=[.int .i64 6,.isl false (List.map (cI .i64) ([2,0]))]) (h':=[(3,.row [.isl false (List.map cGNode r9.1.Nodes)] 25)]) 5 (.row [.int .i64 2,.int .i64 0] 3) 1 rfl (by simp) (by simp only [oneU,q07,q03,q0h,q09,q0k,q0d,q0c,q0b,q0a,q08,q0i,q0j,q0g,q0l,q1i,junkT,q1u,q1x,Nat.reduceLeDiff,Nat.reduceMul,List.length_cons,List.length_nil,Nat.reduceAdd]<;>simp only [chunks,List.take,List.drop,List.map,cI,cB,cS,cL]) (by simp only [fzH,fzB,ug,Nat.beq,cond_true,cond_false,oneU,q07,q03,q0h,q09,q0k,q0d,q0c,q0b,q0a,q08,q0i,q0j,q0g,q0l,q1i,junkT,q1u,q1x,Nat.reduceLeDiff,Nat.reduceMul,List.length_cons,List.length_nil,Nat.reduceAdd]<;>simp only [chunks,List.take,List.drop,List.map,cI,cB,cS,cL])) (Nat.le_of_ble_eq_true rfl) (q04 n 6 ([2,0]) r15 h16 _) rfl rfl ?_
 refine RS.q (u:=.sl 6 0 3 3) (σ':=⟨[(6,.row [.int .i64 r11.Typex,.isl false (List.map cGArc r11.Arcs),.int .i64 r13.Typex,.isl false (List.map cGArc r13.Arcs),.int .i64 r15.Typex,.isl false (List.map cGArc r15.Arcs)] 43),(3,.row [.isl false (List.map cGNode r9.1.Nodes)] 25)],7⟩) rfl (q1z und23 inf43 rfl rfl rfl rfl rfl rfl rfl) ?_
 refine RS.fcall (u:=.agg [.isl false (List.map cGNode r17.Nodes)]) (args:=[.sl 6 0 3 3]) (σ1:=⟨[(3,.row [.isl false (List.map cGNode r9.1.Nodes)] 25)],7⟩) rfl (q01 rfl rfl fn32 hb32 rfl rfl) (Gh.fz (tm':=[.isl false (List.map cGNode ([r11,r13,r15]))]) (h':=[(3,.row [.isl false (List.map cGNode r9.1.Nodes)] 25)]) 6 (.row [.int .i64 r11.Typex,.isl false (List.map cGArc r11.Arcs),.int .i64 r13.Typex,.isl false (List.map cGArc r13.Arcs),.int .i64 r15.Typex,.isl false (List.map cGArc r15.Arcs)] 43) 2 rfl (by simp) (by simp only [oneU,q07,q03,q0h,q09,q0k,q0d,q0c,q0b,q0a,q08,q0i,q0j,q0g,q0l,q1i,junkT,q1u,q1x,Nat.reduceLeDiff,Nat.reduceMul,List.length_cons,List.length_nil,Nat.reduceAdd]<;>simp only [chunks,List.take,List.drop,List.map,cGNode]) (by simp only [fzH,fzB,ug,Nat.beq,cond_true,cond_false,oneU,q07,q03,q0h,q09,q0k,q0d,q0c,q0b,q0a,q08,q0i,q0j,q0g,q0l,q1i,junkT,q1u,q1x,Nat.reduceLeDiff,Nat.reduceMul,List.length_cons,List.length_nil,Nat.reduceAdd]<;>simp only [chunks,List.take,List.drop,List.map,cGNode])) (Nat.le_of_ble_eq_true rfl) (q1g n ([r11,r13,r15]) r17 h18 _) rfl rfl ?_
 refine RS.call (u:=.tup [.agg [.isl false (List.map cGNode r19.1.Nodes)],.int .i64 r19.2]) (args:=[.agg [.isl false (List.map cGNode r17.Nodes)]]) rfl (q01 rfl rfl fn13 hb13 rfl rfl) (q63 n r17 r19 h20 _) rfl rfl (RS.mv rfl rfl rfl rfl (RS.q rfl (q62 rfl rfl) (RS.q rfl (q62 rfl rfl) (RS.q (u:=.ptr 7 0 0) (σ':=⟨[(7,.row [.nils] 25),(3,.row [.isl false (List.map cGNode r9.1.Nodes)] 25)],8⟩) rfl (q0v inf25 rfl rfl) (RS.opn (u:=.junk) (σ':=⟨[(7,.row [.isl false (List.map cGNode r19.1.Nodes)] 25),(3,.row [.isl false (List.map cGNode r9.1.Nodes)] 25)],8⟩) rfl (q0e (q02 inf25) rfl rfl rfl rfl rfl rfl rfl rfl) rfl ?_)))))
 refine sd ?_
 obtain ⟨b44,h45,hF⟩:=q00 hF
 refine WPU.joinK (fun tm σ=>tm=fr 106 [(1,.ptr 3 0 0),(58,.bool b44)]∧σ=⟨[(7,.row [.isl false (List.map cGNode r19.1.Nodes)] 25),(3,.row [.isl false (List.map cGNode r9.1.Nodes)] 25)],8⟩) ?_ ?_
 rintro _ _ ⟨rfl,rfl⟩
 refine st ?_
 refine WPU.condS (t:=b44) rfl (fun h46=>?_) (fun h46=>?_)
 replace hF:=q0q h46 hF
 refine sr ?_
 refine sd ?_
 refine WPU.ret ?_
 refine st ?_
 have hr:=Option.some.inj hF
 subst hr
 exact ⟨.inr rfl,[.bool false],q2k rfl (q20),.bool false,⟨[],0⟩,Nat.le_refl _,Gh.toR (.bool false) rfl,rfl,BU.h⟩
 replace hF:=q0p h46 hF
 refine st ?_
 refine WPU.skip ?_
 refine st ?_
 obtain ⟨r47,h48,hF⟩:=q00 hF
 refine sr ?_
 refine RS.q (u:=.agg [.nils]) rfl (q5d bd25 rfl rfl rfl) (RS.call (u:=.tup [.agg [.isl false (List.map cGNode r47.1.Nodes)],.int .i64 r47.2]) (args:=[.agg [.nils]]) rfl (q01 rfl rfl fn13 hb13 rfl rfl) (EvU.wkA (args':=[.agg [.isl false []]]) (.cons (.agg (.cons (.nil false) .nil)) .nil) (fun s=>q63 n (GFS.mk []) r47 h48 s) _) rfl rfl (RS.mv rfl rfl rfl rfl (RS.q rfl (q62 rfl rfl) (RS.q rfl (q62 rfl rfl) (RS.q (u:=.ptr 8 0 0) (σ':=⟨[(8,.row [.nils] 25),(7,.row [.isl false (List.map cGNode r19.1.Nodes)] 25),(3,.row [.isl false (List.map cGNode r9.1.Nodes)] 25)],9⟩) rfl (q0v inf25 rfl rfl) (RS.opn (u:=.junk) (σ':=⟨[(8,.row [.isl false (List.map cGNode r47.1.Nodes)] 25),(7,.row [.isl false (List.map cGNode r19.1.Nodes)] 25),(3,.row [.isl false (List.map cGNode r9.1.Nodes)] 25)],9⟩) rfl (q0e (q02 inf25) rfl rfl rfl rfl rfl rfl rfl rfl) rfl ?_))))))
 refine sd ?_
 obtain ⟨b87,h88,hF⟩:=q00 hF
 refine WPU.joinK (fun tm σ=>tm=fr 106 [(0,.bool b87)]∧σ=⟨[(8,.row [.isl false (List.map cGNode r47.1.Nodes)] 25),(7,.row [.isl false (List.map cGNode r19.1.Nodes)] 25),(3,.row [.isl false (List.map cGNode r9.1.Nodes)] 25)],9⟩) ?_ ?_
 rintro _ _ ⟨rfl,rfl⟩
 refine st ?_
 refine WPU.ret ?_
 refine st ?_
 have hr:=Option.some.inj hF
 subst hr
 exact ⟨.inr rfl,[.bool b87],q2k rfl (q20),.bool b87,⟨[],0⟩,Nat.le_refl _,Gh.toR (.bool b87) rfl,rfl,BU.h⟩
 rcases q3m (r47.2 == 1) with h49 | h49
 replace h88:=q0q h49 h88
 obtain ⟨r50,h51,h88⟩:=q00 h88
 obtain ⟨r52,h53,h88⟩:=q00 h88
 obtain ⟨r54,h55,h88⟩:=q00 h88
 obtain ⟨r56,h57,h88⟩:=q00 h88
 obtain ⟨r58,h59,h88⟩:=q00 h88
 rcases q3m r58 with h60 | h60
 replace h88:=q0q h60 h88
 obtain ⟨r61,h62,h88⟩:=q00 h88
 obtain ⟨r63,h64,h88⟩:=q00 h88
 obtain ⟨r65,h66,h88⟩:=q00 h88
 rcases q3m r65 with h67 | h67
 replace h88:=q0q h67 h88
 obtain ⟨r68,h69,h88⟩:=q00 h88
 rcases q3m (!r68) with h70 | h70
 replace h88:=q0q h70 h88
 obtain ⟨r71,h72,h88⟩:=q00 h88
 obtain ⟨r73,h74,h88⟩:=q00 h88
 obtain ⟨r75,h76,h88⟩:=q00 h88
 obtain ⟨r77,h78,h88⟩:=q00 h88
 rcases q3m r77 with h79 | h79
 replace h88:=q0q h79 h88
 obtain ⟨r80,h81,h88⟩:=q00 h88
 rcases q3m r80 with h82 | h82
 replace h88:=q0q h82 h88
 obtain ⟨r83,h84,h88⟩:=q00 h88
 obtain ⟨r85,h86,h88⟩:=q00 h88
 replace h88:=Option.some.inj h88
 subst h88
 refine WPU.drawE Try.tb_ok [] (by kernel_rfl) ?_
 refine RD.mv rfl rfl rfl rfl (RD.q rfl (q06 rfl rfl (q3l _ _ _) rfl) (RD.mv rfl rfl rfl rfl (RD.look (u:=.agg [.isl false (List.map cGNode r9.1.Nodes)]) (want1 rfl rfl rfl h49) (q12 und25 rfl (q02 inf25) rfl rfl rfl) rfl rfl (RD.free (u:=.agg [.isl false (List.map cGNode r50.Nodes)]) (args:=[.agg [.isl false (List.map cGNode r9.1.Nodes)],.int .i64 1]) (want1 rfl rfl rfl h49) (q01 rfl rfl fn20 hb20 rfl rfl) (fun s=>q4f n (GFS.mk r9.1.Nodes) 1 r50 h51 s) rfl rfl (RD.freeO (u:=.isl false (List.map (cI .i64) ([0,1]))) (want1 rfl rfl rfl h49) (FreeO.bs (cs:=[.int .i64 0,.int .i64 1]) und55 inf3 rfl rfl rfl rfl rfl rfl rfl rfl rfl) rfl rfl (RD.free (u:=.agg (cGNode r52)) (args:=[.int .i64 3,.isl false (List.map (cI .i64) ([0,1]))]) (want1 rfl rfl rfl h49) (q01 rfl rfl fn29 hb29 rfl rfl) (fun s=>q04 n 3 ([0,1]) r52 h53 s) rfl rfl (RD.free (u:=.agg (cGNode r54)) (args:=[.int .i64 2,.nils]) (want1 rfl rfl rfl h49) (q01 rfl rfl fn29 hb29 rfl rfl) (fun s=>EvU.wkA (args':=[.int .i64 2,.isl false []]) (.cons (.refl _) (.cons (.nil false) .nil)) (fun s=>q04 n 2 [] r54 h55 s) s) rfl rfl ?_)))))))
 refine RD.act (u:=.sl 9 0 2 2) (σ':=⟨[(9,.row [.int .i64 r52.Typex,.isl false (List.map cGArc r52.Arcs),.int .i64 r54.Typex,.isl false (List.map cGArc r54.Arcs)] 43),(8,.row [.isl false (List.map cGNode r47.1.Nodes)] 25),(7,.row [.isl false (List.map cGNode r19.1.Nodes)] 25),(3,.row [.isl false (List.map cGNode r9.1.Nodes)] 25)],10⟩) (want1 rfl rfl rfl h49) (q1z und23 inf43 rfl rfl rfl rfl rfl rfl rfl) rfl rfl ?_
 refine RD.fcall (u:=.agg [.isl false (List.map cGNode r56.Nodes)]) (args:=[.sl 9 0 2 2]) (σ1:=⟨[(8,.row [.isl false (List.map cGNode r47.1.Nodes)] 25),(7,.row [.isl false (List.map cGNode r19.1.Nodes)] 25),(3,.row [.isl false (List.map cGNode r9.1.Nodes)] 25)],10⟩) (want1 rfl rfl rfl h49) (q01 rfl rfl fn32 hb32 rfl rfl) (Gh.fz (tm':=[.isl false (List.map cGNode ([r52,r54]))]) (h':=[(8,.row [.isl false (List.map cGNode r47.1.Nodes)] 25),(7,.row [.isl false (List.map cGNode r19.1.Nodes)] 25),(3,.row [.isl false (List.map cGNode r9.1.Nodes)] 25)]) 9 (.row [.int .i64 r52.Typex,.isl false (List.map cGArc r52.Arcs),.int .i64 r54.Typex,.isl false (List.map cGArc r54.Arcs)] 43) 2 rfl (by simp) (by simp only [oneU,q07,q03,q0h,q09,q0k,q0d,q0c,q0b,q0a,q08,q0i,q0j,q0g,q0l,q1i,junkT,q1u,q1x,Nat.reduceLeDiff,Nat.reduceMul,List.length_cons,List.length_nil,Nat.reduceAdd]<;>simp only [chunks,List.take,List.drop,List.map,cGNode]) (by simp only [fzH,fzB,ug,Nat.beq,cond_true,cond_false,oneU,q07,q03,q0h,q09,q0k,q0d,q0c,q0b,q0a,q08,q0i,q0j,q0g,q0l,q1i,junkT,q1u,q1x,Nat.reduceLeDiff,Nat.reduceMul,List.length_cons,List.length_nil,Nat.reduceAdd]<;>simp only [chunks,List.take,List.drop,List.map,cGNode])) (Nat.le_of_ble_eq_true rfl) (q1g n ([r52,r54]) r56 h57 _) rfl rfl ?_
 refine RD.free (u:=.bool r58) (args:=[.agg [.isl false (List.map cGNode r50.Nodes)],.agg [.isl false (List.map cGNode r56.Nodes)]]) (want1 rfl rfl rfl h49) (q01 rfl rfl fn14 hb14 rfl rfl) (fun s=>q1s n r50 r56 r58 h59 s) rfl rfl (RD.q (u:=.bool r58) rfl (q0n rfl h49 rfl) (RD.mv rfl rfl rfl rfl (RD.act (u:=.sl 10 0 2 2) (σ':=⟨[(10,.row [.int .i64 5,.int .i64 0] 3),(8,.row [.isl false (List.map cGNode r47.1.Nodes)] 25),(7,.row [.isl false (List.map cGNode r19.1.Nodes)] 25),(3,.row [.isl false (List.map cGNode r9.1.Nodes)] 25)],11⟩) (want1 rfl rfl rfl h60) (q1z und55 inf3 rfl rfl rfl rfl rfl rfl rfl) rfl rfl ?_)))
 refine RD.fcall (u:=.agg (cGNode r61)) (args:=[.int .i64 1,.sl 10 0 2 2]) (σ1:=⟨[(8,.row [.isl false (List.map cGNode r47.1.Nodes)] 25),(7,.row [.isl false (List.map cGNode r19.1.Nodes)] 25),(3,.row [.isl false (List.map cGNode r9.1.Nodes)] 25)],11⟩) (want1 rfl rfl rfl h60) (q01 rfl rfl fn29 hb29 rfl rfl) (Gh.fz (tm':=[.int .i64 1,.isl false (List.map (cI .i64) ([5,0]))]) (h':=[(8,.row [.isl false (List.map cGNode r47.1.Nodes)] 25),(7,.row [.isl false (List.map cGNode r19.1.Nodes)] 25),(3,.row [.isl false (List.map cGNode r9.1.Nodes)] 25)]) 10 (.row [.int .i64 5,.int .i64 0] 3) 1 rfl (by simp) (by simp only [oneU,q07,q03,q0h,q09,q0k,q0d,q0c,q0b,q0a,q08,q0i,q0j,q0g,q0l,q1i,junkT,q1u,q1x,Nat.reduceLeDiff,Nat.reduceMul,List.length_cons,List.length_nil,Nat.reduceAdd]<;>simp only [chunks,List.take,List.drop,List.map,cI,cB,cS,cL]) (by simp only [fzH,fzB,ug,Nat.beq,cond_true,cond_false,oneU,q07,q03,q0h,q09,q0k,q0d,q0c,q0b,q0a,q08,q0i,q0j,q0g,q0l,q1i,junkT,q1u,q1x,Nat.reduceLeDiff,Nat.reduceMul,List.length_cons,List.length_nil,Nat.reduceAdd]<;>simp only [chunks,List.take,List.drop,List.map,cI,cB,cS,cL])) (Nat.le_of_ble_eq_true rfl) (q04 n 1 ([5,0]) r61 h62 _) rfl rfl ?_
 refine RD.act (u:=.sl 11 0 1 1) (σ':=⟨[(11,.row (cGNode r61) 43),(8,.row [.isl false (List.map cGNode r47.1.Nodes)] 25),(7,.row [.isl false (List.map cGNode r19.1.Nodes)] 25),(3,.row [.isl false (List.map cGNode r9.1.Nodes)] 25)],12⟩) (want1 rfl rfl rfl h60) (q1z und23 inf43 rfl rfl rfl rfl rfl rfl rfl) rfl rfl ?_
 refine RD.fcall (u:=.agg [.isl false (List.map cGNode r63.Nodes)]) (args:=[.sl 11 0 1 1]) (σ1:=⟨[(8,.row [.isl false (List.map cGNode r47.1.Nodes)] 25),(7,.row [.isl false (List.map cGNode r19.1.Nodes)] 25),(3,.row [.isl false (List.map cGNode r9.1.Nodes)] 25)],12⟩) (want1 rfl rfl rfl h60) (q01 rfl rfl fn32 hb32 rfl rfl) (Gh.fz (tm':=[.isl false (List.map cGNode ([r61]))]) (h':=[(8,.row [.isl false (List.map cGNode r47.1.Nodes)] 25),(7,.row [.isl false (List.map cGNode r19.1.Nodes)] 25),(3,.row [.isl false (List.map cGNode r9.1.Nodes)] 25)]) 11 (.row [.int .i64 r61.Typex,.isl false (List.map cGArc r61.Arcs)] 43) 2 rfl (by simp) (by simp only [oneU,q07,q03,q0h,q09,q0k,q0d,q0c,q0b,q0a,q08,q0i,q0j,q0g,q0l,q1i,junkT,q1u,q1x,q2e,Nat.reduceLeDiff,Nat.reduceMul,List.length_cons,List.length_nil,Nat.reduceAdd]<;>simp only [chunks,List.take,List.drop,List.map,cGNode]) (by simp only [fzH,fzB,ug,Nat.beq,cond_true,cond_false,oneU,q07,q03,q0h,q09,q0k,q0d,q0c,q0b,q0a,q08,q0i,q0j,q0g,q0l,q1i,junkT,q1u,q1x,q2e,Nat.reduceLeDiff,Nat.reduceMul,List.length_cons,List.length_nil,Nat.reduceAdd]<;>simp only [chunks,List.take,List.drop,List.map,cGNode])) (Nat.le_of_ble_eq_true rfl) (q1g n ([r61]) r63 h64 _) rfl rfl ?_
 refine RD.free (u:=.bool r65) (args:=[.agg [.isl false (List.map cGNode r63.Nodes)]]) (want1 rfl rfl rfl h60) (q01 rfl rfl fn22 hb22 rfl rfl) (fun s=>q23 n r63 r65 h66 s) rfl rfl (RD.q (u:=.bool r65) rfl (q0n rfl h60 rfl) (RD.mv rfl rfl rfl rfl (RD.look (u:=.agg [.isl false (List.map cGNode r9.1.Nodes)]) (want1 rfl rfl rfl h67) (q12 und25 rfl (q02 inf25) rfl rfl rfl) rfl rfl (RD.free (u:=.bool r68) (args:=[.agg [.isl false (List.map cGNode r9.1.Nodes)]]) (want1 rfl rfl rfl h67) (q01 rfl rfl fn22 hb22 rfl rfl) (fun s=>q23 n (GFS.mk r9.1.Nodes) r68 h69 s) rfl rfl (RD.look (u:=.bool (!r68)) (want1 rfl rfl rfl h67) (q8j rfl rfl rfl rfl) rfl rfl (RD.q (u:=.bool (!r68)) rfl (q0n rfl h67 rfl) (RD.mv rfl rfl rfl rfl ?_)))))))
 refine RD.free (u:=.agg [.isl false (List.map cGNode r71.Nodes)]) (args:=[.int .i64 4]) (want1 rfl rfl rfl h70) (q01 rfl rfl fn12 hb12 rfl rfl) (fun s=>q5g n 4 r71 h72 s) rfl rfl (RD.free (u:=.agg (cGNode r73)) (args:=[.int .i64 4,.nils]) (want1 rfl rfl rfl h70) (q01 rfl rfl fn29 hb29 rfl rfl) (fun s=>EvU.wkA (args':=[.int .i64 4,.isl false []]) (.cons (.refl _) (.cons (.nil false) .nil)) (fun s=>q04 n 4 [] r73 h74 s) s) rfl rfl (RD.act (u:=.sl 12 0 1 1) (σ':=⟨[(12,.row (cGNode r73) 43),(8,.row [.isl false (List.map cGNode r47.1.Nodes)] 25),(7,.row [.isl false (List.map cGNode r19.1.Nodes)] 25),(3,.row [.isl false (List.map cGNode r9.1.Nodes)] 25)],13⟩) (want1 rfl rfl rfl h70) (q1z und23 inf43 rfl rfl rfl rfl rfl rfl rfl) rfl rfl ?_))
 refine RD.fcall (u:=.agg [.isl false (List.map cGNode r75.Nodes)]) (args:=[.sl 12 0 1 1]) (σ1:=⟨[(8,.row [.isl false (List.map cGNode r47.1.Nodes)] 25),(7,.row [.isl false (List.map cGNode r19.1.Nodes)] 25),(3,.row [.isl false (List.map cGNode r9.1.Nodes)] 25)],13⟩) (want1 rfl rfl rfl h70) (q01 rfl rfl fn32 hb32 rfl rfl) (Gh.fz (tm':=[.isl false (List.map cGNode ([r73]))]) (h':=[(8,.row [.isl false (List.map cGNode r47.1.Nodes)] 25),(7,.row [.isl false (List.map cGNode r19.1.Nodes)] 25),(3,.row [.isl false (List.map cGNode r9.1.Nodes)] 25)]) 12 (.row [.int .i64 r73.Typex,.isl false (List.map cGArc r73.Arcs)] 43) 2 rfl (by simp) (by simp only [oneU,q07,q03,q0h,q09,q0k,q0d,q0c,q0b,q0a,q08,q0i,q0j,q0g,q0l,q1i,junkT,q1u,q1x,q2e,Nat.reduceLeDiff,Nat.reduceMul,List.length_cons,List.length_nil,Nat.reduceAdd]<;>simp only [chunks,List.take,List.drop,List.map,cGNode]) (by simp only [fzH,fzB,ug,Nat.beq,cond_true,cond_false,oneU,q07,q03,q0h,q09,q0k,q0d,q0c,q0b,q0a,q08,q0i,q0j,q0g,q0l,q1i,junkT,q1u,q1x,q2e,Nat.reduceLeDiff,Nat.reduceMul,List.length_cons,List.length_nil,Nat.reduceAdd]<;>simp only [chunks,List.take,List.drop,List.map,cGNode])) (Nat.le_of_ble_eq_true rfl) (q1g n ([r73]) r75 h76 _) rfl rfl ?_
 refine RD.free (u:=.bool r77) (args:=[.agg [.isl false (List.map cGNode r71.Nodes)],.agg [.isl false (List.map cGNode r75.Nodes)]]) (want1 rfl rfl rfl h70) (q01 rfl rfl fn14 hb14 rfl rfl) (fun s=>q1s n r71 r75 r77 h78 s) rfl rfl (RD.q (u:=.bool r77) rfl (q0n rfl h70 rfl) (RD.mv rfl rfl rfl rfl (RD.look (u:=.agg [.isl false (List.map cGNode r9.1.Nodes)]) (want1 rfl rfl rfl h79) (q12 und25 rfl (q02 inf25) rfl rfl rfl) rfl rfl (RD.look (u:=.agg [.isl false (List.map cGNode r9.1.Nodes)]) (want1 rfl rfl rfl h79) (q12 und25 rfl (q02 inf25) rfl rfl rfl) rfl rfl (RD.free (u:=.bool r80) (args:=[.agg [.isl false (List.map cGNode r9.1.Nodes)],.agg [.isl false (List.map cGNode r9.1.Nodes)]]) (want1 rfl rfl rfl h79) (q01 rfl rfl fn26 hb26 rfl rfl) (fun s=>q7u n (GFS.mk r9.1.Nodes) (GFS.mk r9.1.Nodes) r80 h81 s) rfl rfl (RD.q (u:=.bool r80) rfl (q0n rfl h79 rfl) (RD.mv rfl rfl rfl rfl ?_)))))))
 refine RD.free (u:=.agg [.isl false (List.map cGNode r83.Nodes)]) (args:=[.int .i64 9]) (want1 rfl rfl rfl h82) (q01 rfl rfl fn12 hb12 rfl rfl) (fun s=>q5g n 9 r83 h84 s) rfl rfl (RD.look (u:=.agg [.isl false (List.map cGNode r9.1.Nodes)]) (want1 rfl rfl rfl h82) (q12 und25 rfl (q02 inf25) rfl rfl rfl) rfl rfl (RD.free (u:=.int .i64 r85) (args:=[.agg [.isl false (List.map cGNode r83.Nodes)],.agg [.isl false (List.map cGNode r9.1.Nodes)]]) (want1 rfl rfl rfl h82) (q01 rfl rfl fn24 hb24 rfl rfl) (fun s=>q6t n r83 (GFS.mk r9.1.Nodes) r85 h86 s) rfl rfl (RD.look (want1 rfl rfl rfl h82) (q06 rfl rfl (q3l _ _ _) rfl) rfl rfl (RD.q (u:=.bool (r85 == (-1))) rfl (q0n rfl h82 rfl) (RD.as rfl rfl rfl rfl ?_)))))
 refine RD.done ⟨by kernel_rfl,trivial,?_⟩
 refine st ?_
 exact ⟨_,_,⟨rfl,rfl⟩,(Nat.zero_le _),Gh.toC (n1:=9) ⟨rfl,trivial⟩ rfl (Nat.zero_le _) (by simp)⟩
 replace h88:=q0p h82 h88
 replace h88:=Option.some.inj h88
 subst h88
 refine WPU.drawE Try.tb_ok [] (by kernel_rfl) ?_
 refine RD.mv rfl rfl rfl rfl (RD.q rfl (q06 rfl rfl (q3l _ _ _) rfl) (RD.mv rfl rfl rfl rfl (RD.look (u:=.agg [.isl false (List.map cGNode r9.1.Nodes)]) (want1 rfl rfl rfl h49) (q12 und25 rfl (q02 inf25) rfl rfl rfl) rfl rfl (RD.free (u:=.agg [.isl false (List.map cGNode r50.Nodes)]) (args:=[.agg [.isl false (List.map cGNode r9.1.Nodes)],.int .i64 1]) (want1 rfl rfl rfl h49) (q01 rfl rfl fn20 hb20 rfl rfl) (fun s=>q4f n (GFS.mk r9.1.Nodes) 1 r50 h51 s) rfl rfl (RD.freeO (u:=.isl false (List.map (cI .i64) ([0,1]))) (want1 rfl rfl rfl h49) (FreeO.bs (cs:=[.int .i64 0,.int .i64 1]) und55 inf3 rfl rfl rfl rfl rfl rfl rfl rfl rfl) rfl rfl (RD.free (u:=.agg (cGNode r52)) (args:=[.int .i64 3,.isl false (List.map (cI .i64) ([0,1]))]) (want1 rfl rfl rfl h49) (q01 rfl rfl fn29 hb29 rfl rfl) (fun s=>q04 n 3 ([0,1]) r52 h53 s) rfl rfl (RD.free (u:=.agg (cGNode r54)) (args:=[.int .i64 2,.nils]) (want1 rfl rfl rfl h49) (q01 rfl rfl fn29 hb29 rfl rfl) (fun s=>EvU.wkA (args':=[.int .i64 2,.isl false []]) (.cons (.refl _) (.cons (.nil false) .nil)) (fun s=>q04 n 2 [] r54 h55 s) s) rfl rfl ?_)))))))
 refine RD.act (u:=.sl 9 0 2 2) (σ':=⟨[(9,.row [.int .i64 r52.Typex,.isl false (List.map cGArc r52.Arcs),.int .i64 r54.Typex,.isl false (List.map cGArc r54.Arcs)] 43),(8,.row [.isl false (List.map cGNode r47.1.Nodes)] 25),(7,.row [.isl false (List.map cGNode r19.1.Nodes)] 25),(3,.row [.isl false (List.map cGNode r9.1.Nodes)] 25)],10⟩) (want1 rfl rfl rfl h49) (q1z und23 inf43 rfl rfl rfl rfl rfl rfl rfl) rfl rfl ?_
 refine RD.fcall (u:=.agg [.isl false (List.map cGNode r56.Nodes)]) (args:=[.sl 9 0 2 2]) (σ1:=⟨[(8,.row [.isl false (List.map cGNode r47.1.Nodes)] 25),(7,.row [.isl false (List.map cGNode r19.1.Nodes)] 25),(3,.row [.isl false (List.map cGNode r9.1.Nodes)] 25)],10⟩) (want1 rfl rfl rfl h49) (q01 rfl rfl fn32 hb32 rfl rfl) (Gh.fz (tm':=[.isl false (List.map cGNode ([r52,r54]))]) (h':=[(8,.row [.isl false (List.map cGNode r47.1.Nodes)] 25),(7,.row [.isl false (List.map cGNode r19.1.Nodes)] 25),(3,.row [.isl false (List.map cGNode r9.1.Nodes)] 25)]) 9 (.row [.int .i64 r52.Typex,.isl false (List.map cGArc r52.Arcs),.int .i64 r54.Typex,.isl false (List.map cGArc r54.Arcs)] 43) 2 rfl (by simp) (by simp only [oneU,q07,q03,q0h,q09,q0k,q0d,q0c,q0b,q0a,q08,q0i,q0j,q0g,q0l,q1i,junkT,q1u,q1x,Nat.reduceLeDiff,Nat.reduceMul,List.length_cons,List.length_nil,Nat.reduceAdd]<;>simp only [chunks,List.take,List.drop,List.map,cGNode]) (by simp only [fzH,fzB,ug,Nat.beq,cond_true,cond_false,oneU,q07,q03,q0h,q09,q0k,q0d,q0c,q0b,q0a,q08,q0i,q0j,q0g,q0l,q1i,junkT,q1u,q1x,Nat.reduceLeDiff,Nat.reduceMul,List.length_cons,List.length_nil,Nat.reduceAdd]<;>simp only [chunks,List.take,List.drop,List.map,cGNode])) (Nat.le_of_ble_eq_true rfl) (q1g n ([r52,r54]) r56 h57 _) rfl rfl ?_
 refine RD.free (u:=.bool r58) (args:=[.agg [.isl false (List.map cGNode r50.Nodes)],.agg [.isl false (List.map cGNode r56.Nodes)]]) (want1 rfl rfl rfl h49) (q01 rfl rfl fn14 hb14 rfl rfl) (fun s=>q1s n r50 r56 r58 h59 s) rfl rfl (RD.q (u:=.bool r58) rfl (q0n rfl h49 rfl) (RD.mv rfl rfl rfl rfl (RD.act (u:=.sl 10 0 2 2) (σ':=⟨[(10,.row [.int .i64 5,.int .i64 0] 3),(8,.row [.isl false (List.map cGNode r47.1.Nodes)] 25),(7,.row [.isl false (List.map cGNode r19.1.Nodes)] 25),(3,.row [.isl false (List.map cGNode r9.1.Nodes)] 25)],11⟩) (want1 rfl rfl rfl h60) (q1z und55 inf3 rfl rfl rfl rfl rfl rfl rfl) rfl rfl ?_)))
 refine RD.fcall (u:=.agg (cGNode r61)) (args:=[.int .i64 1,.sl 10 0 2 2]) (σ1:=⟨[(8,.row [.isl false (List.map cGNode r47.1.Nodes)] 25),(7,.row [.isl false (List.map cGNode r19.1.Nodes)] 25),(3,.row [.isl false (List.map cGNode r9.1.Nodes)] 25)],11⟩) (want1 rfl rfl rfl h60) (q01 rfl rfl fn29 hb29 rfl rfl) (Gh.fz (tm':=[.int .i64 1,.isl false (List.map (cI .i64) ([5,0]))]) (h':=[(8,.row [.isl false (List.map cGNode r47.1.Nodes)] 25),(7,.row [.isl false (List.map cGNode r19.1.Nodes)] 25),(3,.row [.isl false (List.map cGNode r9.1.Nodes)] 25)]) 10 (.row [.int .i64 5,.int .i64 0] 3) 1 rfl (by simp) (by simp only [oneU,q07,q03,q0h,q09,q0k,q0d,q0c,q0b,q0a,q08,q0i,q0j,q0g,q0l,q1i,junkT,q1u,q1x,Nat.reduceLeDiff,Nat.reduceMul,List.length_cons,List.length_nil,Nat.reduceAdd]<;>simp only [chunks,List.take,List.drop,List.map,cI,cB,cS,cL]) (by simp only [fzH,fzB,ug,Nat.beq,cond_true,cond_false,oneU,q07,q03,q0h,q09,q0k,q0d,q0c,q0b,q0a,q08,q0i,q0j,q0g,q0l,q1i,junkT,q1u,q1x,Nat.reduceLeDiff,Nat.reduceMul,List.length_cons,List.length_nil,Nat.reduceAdd]<;>simp only [chunks,List.take,List.drop,List.map,cI,cB,cS,cL])) (Nat.le_of_ble_eq_true rfl) (q04 n 1 ([5,0]) r61 h62 _) rfl rfl ?_
 refine RD.act (u:=.sl 11 0 1 1) (σ':=⟨[(11,.row (cGNode r61) 43),(8,.row [.isl false (List.map cGNode r47.1.Nodes)] 25),(7,.row [.isl false (List.map cGNode r19.1.Nodes)] 25),(3,.row [.isl false (List.map cGNode r9.1.Nodes)] 25)],12⟩) (want1 rfl rfl rfl h60) (q1z und23 inf43 rfl rfl rfl rfl rfl rfl rfl) rfl rfl ?_
 refine RD.fcall (u:=.agg [.isl false (List.map cGNode r63.Nodes)]) (args:=[.sl 11 0 1 1]) (σ1:=⟨[(8,.row [.isl false (List.map cGNode r47.1.Nodes)] 25),(7,.row [.isl false (List.map cGNode r19.1.Nodes)] 25),(3,.row [.isl false (List.map cGNode r9.1.Nodes)] 25)],12⟩) (want1 rfl rfl rfl h60) (q01 rfl rfl fn32 hb32 rfl rfl) (Gh.fz (tm':=[.isl false (List.map cGNode ([r61]))]) (h':=[(8,.row [.isl false (List.map cGNode r47.1.Nodes)] 25),(7,.row [.isl false (List.map cGNode r19.1.Nodes)] 25),(3,.row [.isl false (List.map cGNode r9.1.Nodes)] 25)]) 11 (.row [.int .i64 r61.Typex,.isl false (List.map cGArc r61.Arcs)] 43) 2 rfl (by simp) (by simp only [oneU,q07,q03,q0h,q09,q0k,q0d,q0c,q0b,q0a,q08,q0i,q0j,q0g,q0l,q1i,junkT,q1u,q1x,q2e,Nat.reduceLeDiff,Nat.reduceMul,List.length_cons,List.length_nil,Nat.reduceAdd]<;>simp only [chunks,List.take,List.drop,List.map,cGNode]) (by simp only [fzH,fzB,ug,Nat.beq,cond_true,cond_false,oneU,q07,q03,q0h,q09,q0k,q0d,q0c,q0b,q0a,q08,q0i,q0j,q0g,q0l,q1i,junkT,q1u,q1x,q2e,Nat.reduceLeDiff,Nat.reduceMul,List.length_cons,List.length_nil,Nat.reduceAdd]<;>simp only [chunks,List.take,List.drop,List.map,cGNode])) (Nat.le_of_ble_eq_true rfl) (q1g n ([r61]) r63 h64 _) rfl rfl ?_
 refine RD.free (u:=.bool r65) (args:=[.agg [.isl false (List.map cGNode r63.Nodes)]]) (want1 rfl rfl rfl h60) (q01 rfl rfl fn22 hb22 rfl rfl) (fun s=>q23 n r63 r65 h66 s) rfl rfl (RD.q (u:=.bool r65) rfl (q0n rfl h60 rfl) (RD.mv rfl rfl rfl rfl (RD.look (u:=.agg [.isl false (List.map cGNode r9.1.Nodes)]) (want1 rfl rfl rfl h67) (q12 und25 rfl (q02 inf25) rfl rfl rfl) rfl rfl (RD.free (u:=.bool r68) (args:=[.agg [.isl false (List.map cGNode r9.1.Nodes)]]) (want1 rfl rfl rfl h67) (q01 rfl rfl fn22 hb22 rfl rfl) (fun s=>q23 n (GFS.mk r9.1.Nodes) r68 h69 s) rfl rfl (RD.look (u:=.bool (!r68)) (want1 rfl rfl rfl h67) (q8j rfl rfl rfl rfl) rfl rfl (RD.q (u:=.bool (!r68)) rfl (q0n rfl h67 rfl) (RD.mv rfl rfl rfl rfl ?_)))))))
 refine RD.free (u:=.agg [.isl false (List.map cGNode r71.Nodes)]) (args:=[.int .i64 4]) (want1 rfl rfl rfl h70) (q01 rfl rfl fn12 hb12 rfl rfl) (fun s=>q5g n 4 r71 h72 s) rfl rfl (RD.free (u:=.agg (cGNode r73)) (args:=[.int .i64 4,.nils]) (want1 rfl rfl rfl h70) (q01 rfl rfl fn29 hb29 rfl rfl) (fun s=>EvU.wkA (args':=[.int .i64 4,.isl false []]) (.cons (.refl _) (.cons (.nil false) .nil)) (fun s=>q04 n 4 [] r73 h74 s) s) rfl rfl (RD.act (u:=.sl 12 0 1 1) (σ':=⟨[(12,.row (cGNode r73) 43),(8,.row [.isl false (List.map cGNode r47.1.Nodes)] 25),(7,.row [.isl false (List.map cGNode r19.1.Nodes)] 25),(3,.row [.isl false (List.map cGNode r9.1.Nodes)] 25)],13⟩) (want1 rfl rfl rfl h70) (q1z und23 inf43 rfl rfl rfl rfl rfl rfl rfl) rfl rfl ?_))
 refine RD.fcall (u:=.agg [.isl false (List.map cGNode r75.Nodes)]) (args:=[.sl 12 0 1 1]) (σ1:=⟨[(8,.row [.isl false (List.map cGNode r47.1.Nodes)] 25),(7,.row [.isl false (List.map cGNode r19.1.Nodes)] 25),(3,.row [.isl false (List.map cGNode r9.1.Nodes)] 25)],13⟩) (want1 rfl rfl rfl h70) (q01 rfl rfl fn32 hb32 rfl rfl) (Gh.fz (tm':=[.isl false (List.map cGNode ([r73]))]) (h':=[(8,.row [.isl false (List.map cGNode r47.1.Nodes)] 25),(7,.row [.isl false (List.map cGNode r19.1.Nodes)] 25),(3,.row [.isl false (List.map cGNode r9.1.Nodes)] 25)]) 12 (.row [.int .i64 r73.Typex,.isl false (List.map cGArc r73.Arcs)] 43) 2 rfl (by simp) (by simp only [oneU,q07,q03,q0h,q09,q0k,q0d,q0c,q0b,q0a,q08,q0i,q0j,q0g,q0l,q1i,junkT,q1u,q1x,q2e,Nat.reduceLeDiff,Nat.reduceMul,List.length_cons,List.length_nil,Nat.reduceAdd]<;>simp only [chunks,List.take,List.drop,List.map,cGNode]) (by simp only [fzH,fzB,ug,Nat.beq,cond_true,cond_false,oneU,q07,q03,q0h,q09,q0k,q0d,q0c,q0b,q0a,q08,q0i,q0j,q0g,q0l,q1i,junkT,q1u,q1x,q2e,Nat.reduceLeDiff,Nat.reduceMul,List.length_cons,List.length_nil,Nat.reduceAdd]<;>simp only [chunks,List.take,List.drop,List.map,cGNode])) (Nat.le_of_ble_eq_true rfl) (q1g n ([r73]) r75 h76 _) rfl rfl ?_
 refine RD.free (u:=.bool r77) (args:=[.agg [.isl false (List.map cGNode r71.Nodes)],.agg [.isl false (List.map cGNode r75.Nodes)]]) (want1 rfl rfl rfl h70) (q01 rfl rfl fn14 hb14 rfl rfl) (fun s=>q1s n r71 r75 r77 h78 s) rfl rfl (RD.q (u:=.bool r77) rfl (q0n rfl h70 rfl) (RD.mv rfl rfl rfl rfl (RD.look (u:=.agg [.isl false (List.map cGNode r9.1.Nodes)]) (want1 rfl rfl rfl h79) (q12 und25 rfl (q02 inf25) rfl rfl rfl) rfl rfl (RD.look (u:=.agg [.isl false (List.map cGNode r9.1.Nodes)]) (want1 rfl rfl rfl h79) (q12 und25 rfl (q02 inf25) rfl rfl rfl) rfl rfl (RD.free (u:=.bool r80) (args:=[.agg [.isl false (List.map cGNode r9.1.Nodes)],.agg [.isl false (List.map cGNode r9.1.Nodes)]]) (want1 rfl rfl rfl h79) (q01 rfl rfl fn26 hb26 rfl rfl) (fun s=>q7u n (GFS.mk r9.1.Nodes) (GFS.mk r9.1.Nodes) r80 h81 s) rfl rfl (RD.q (u:=.bool r80) rfl (q0n rfl h79 rfl) (RD.mv rfl rfl rfl rfl ?_)))))))
 repeat refine RD.no (want0 rfl rfl rfl h82) rfl rfl ?_
 refine RD.q (u:=.bool false) rfl (q0m rfl h82 rfl) (RD.as rfl rfl rfl rfl ?_)
 refine RD.done ⟨by kernel_rfl,trivial,?_⟩
 refine st ?_
 exact ⟨_,_,⟨rfl,rfl⟩,(Nat.zero_le _),Gh.toC (n1:=9) ⟨rfl,trivial⟩ rfl (Nat.zero_le _) (by simp)⟩
 replace h88:=q0p h79 h88
 replace h88:=Option.some.inj h88
 subst h88
 refine WPU.drawE Try.tb_ok [] (by kernel_rfl) ?_
 refine RD.mv rfl rfl rfl rfl (RD.q rfl (q06 rfl rfl (q3l _ _ _) rfl) (RD.mv rfl rfl rfl rfl (RD.look (u:=.agg [.isl false (List.map cGNode r9.1.Nodes)]) (want1 rfl rfl rfl h49) (q12 und25 rfl (q02 inf25) rfl rfl rfl) rfl rfl (RD.free (u:=.agg [.isl false (List.map cGNode r50.Nodes)]) (args:=[.agg [.isl false (List.map cGNode r9.1.Nodes)],.int .i64 1]) (want1 rfl rfl rfl h49) (q01 rfl rfl fn20 hb20 rfl rfl) (fun s=>q4f n (GFS.mk r9.1.Nodes) 1 r50 h51 s) rfl rfl (RD.freeO (u:=.isl false (List.map (cI .i64) ([0,1]))) (want1 rfl rfl rfl h49) (FreeO.bs (cs:=[.int .i64 0,.int .i64 1]) und55 inf3 rfl rfl rfl rfl rfl rfl rfl rfl rfl) rfl rfl (RD.free (u:=.agg (cGNode r52)) (args:=[.int .i64 3,.isl false (List.map (cI .i64) ([0,1]))]) (want1 rfl rfl rfl h49) (q01 rfl rfl fn29 hb29 rfl rfl) (fun s=>q04 n 3 ([0,1]) r52 h53 s) rfl rfl (RD.free (u:=.agg (cGNode r54)) (args:=[.int .i64 2,.nils]) (want1 rfl rfl rfl h49) (q01 rfl rfl fn29 hb29 rfl rfl) (fun s=>EvU.wkA (args':=[.int .i64 2,.isl false []]) (.cons (.refl _) (.cons (.nil false) .nil)) (fun s=>q04 n 2 [] r54 h55 s) s) rfl rfl ?_)))))))
 refine RD.act (u:=.sl 9 0 2 2) (σ':=⟨[(9,.row [.int .i64 r52.Typex,.isl false (List.map cGArc r52.Arcs),.int .i64 r54.Typex,.isl false (List.map cGArc r54.Arcs)] 43),(8,.row [.isl false (List.map cGNode r47.1.Nodes)] 25),(7,.row [.isl false (List.map cGNode r19.1.Nodes)] 25),(3,.row [.isl false (List.map cGNode r9.1.Nodes)] 25)],10⟩) (want1 rfl rfl rfl h49) (q1z und23 inf43 rfl rfl rfl rfl rfl rfl rfl) rfl rfl ?_
 refine RD.fcall (u:=.agg [.isl false (List.map cGNode r56.Nodes)]) (args:=[.sl 9 0 2 2]) (σ1:=⟨[(8,.row [.isl false (List.map cGNode r47.1.Nodes)] 25),(7,.row [.isl false (List.map cGNode r19.1.Nodes)] 25),(3,.row [.isl false (List.map cGNode r9.1.Nodes)] 25)],10⟩) (want1 rfl rfl rfl h49) (q01 rfl rfl fn32 hb32 rfl rfl) (Gh.fz (tm':=[.isl false (List.map cGNode ([r52,r54]))]) (h':=[(8,.row [.isl false (List.map cGNode r47.1.Nodes)] 25),(7,.row [.isl false (List.map cGNode r19.1.Nodes)] 25),(3,.row [.isl false (List.map cGNode r9.1.Nodes)] 25)]) 9 (.row [.int .i64 r52.Typex,.isl false (List.map cGArc r52.Arcs),.int .i64 r54.Typex,.isl false (List.map cGArc r54.Arcs)] 43) 2 rfl (by simp) (by simp only [oneU,q07,q03,q0h,q09,q0k,q0d,q0c,q0b,q0a,q08,q0i,q0j,q0g,q0l,q1i,junkT,q1u,q1x,Nat.reduceLeDiff,Nat.reduceMul,List.length_cons,List.length_nil,Nat.reduceAdd]<;>simp only [chunks,List.take,List.drop,List.map,cGNode]) (by simp only [fzH,fzB,ug,Nat.beq,cond_true,cond_false,oneU,q07,q03,q0h,q09,q0k,q0d,q0c,q0b,q0a,q08,q0i,q0j,q0g,q0l,q1i,junkT,q1u,q1x,Nat.reduceLeDiff,Nat.reduceMul,List.length_cons,List.length_nil,Nat.reduceAdd]<;>simp only [chunks,List.take,List.drop,List.map,cGNode])) (Nat.le_of_ble_eq_true rfl) (q1g n ([r52,r54]) r56 h57 _) rfl rfl ?_
 refine RD.free (u:=.bool r58) (args:=[.agg [.isl false (List.map cGNode r50.Nodes)],.agg [.isl false (List.map cGNode r56.Nodes)]]) (want1 rfl rfl rfl h49) (q01 rfl rfl fn14 hb14 rfl rfl) (fun s=>q1s n r50 r56 r58 h59 s) rfl rfl (RD.q (u:=.bool r58) rfl (q0n rfl h49 rfl) (RD.mv rfl rfl rfl rfl (RD.act (u:=.sl 10 0 2 2) (σ':=⟨[(10,.row [.int .i64 5,.int .i64 0] 3),(8,.row [.isl false (List.map cGNode r47.1.Nodes)] 25),(7,.row [.isl false (List.map cGNode r19.1.Nodes)] 25),(3,.row [.isl false (List.map cGNode r9.1.Nodes)] 25)],11⟩) (want1 rfl rfl rfl h60) (q1z und55 inf3 rfl rfl rfl rfl rfl rfl rfl) rfl rfl ?_)))
 refine RD.fcall (u:=.agg (cGNode r61)) (args:=[.int .i64 1,.sl 10 0 2 2]) (σ1:=⟨[(8,.row [.isl false (List.map cGNode r47.1.Nodes)] 25),(7,.row [.isl false (List.map cGNode r19.1.Nodes)] 25),(3,.row [.isl false (List.map cGNode r9.1.Nodes)] 25)],11⟩) (want1 rfl rfl rfl h60) (q01 rfl rfl fn29 hb29 rfl rfl) (Gh.fz (tm':=[.int .i64 1,.isl false (List.map (cI .i64) ([5,0]))]) (h':=[(8,.row [.isl false (List.map cGNode r47.1.Nodes)] 25),(7,.row [.isl false (List.map cGNode r19.1.Nodes)] 25),(3,.row [.isl false (List.map cGNode r9.1.Nodes)] 25)]) 10 (.row [.int .i64 5,.int .i64 0] 3) 1 rfl (by simp) (by simp only [oneU,q07,q03,q0h,q09,q0k,q0d,q0c,q0b,q0a,q08,q0i,q0j,q0g,q0l,q1i,junkT,q1u,q1x,Nat.reduceLeDiff,Nat.reduceMul,List.length_cons,List.length_nil,Nat.reduceAdd]<;>simp only [chunks,List.take,List.drop,List.map,cI,cB,cS,cL]) (by simp only [fzH,fzB,ug,Nat.beq,cond_true,cond_false,oneU,q07,q03,q0h,q09,q0k,q0d,q0c,q0b,q0a,q08,q0i,q0j,q0g,q0l,q1i,junkT,q1u,q1x,Nat.reduceLeDiff,Nat.reduceMul,List.length_cons,List.length_nil,Nat.reduceAdd]<;>simp only [chunks,List.take,List.drop,List.map,cI,cB,cS,cL])) (Nat.le_of_ble_eq_true rfl) (q04 n 1 ([5,0]) r61 h62 _) rfl rfl ?_
 refine RD.act (u:=.sl 11 0 1 1) (σ':=⟨[(11,.row (cGNode r61) 43),(8,.row [.isl false (List.map cGNode r47.1.Nodes)] 25),(7,.row [.isl false (List.map cGNode r19.1.Nodes)] 25),(3,.row [.isl false (List.map cGNode r9.1.Nodes)] 25)],12⟩) (want1 rfl rfl rfl h60) (q1z und23 inf43 rfl rfl rfl rfl rfl rfl rfl) rfl rfl ?_
 refine RD.fcall (u:=.agg [.isl false (List.map cGNode r63.Nodes)]) (args:=[.sl 11 0 1 1]) (σ1:=⟨[(8,.row [.isl false (List.map cGNode r47.1.Nodes)] 25),(7,.row [.isl false (List.map cGNode r19.1.Nodes)] 25),(3,.row [.isl false (List.map cGNode r9.1.Nodes)] 25)],12⟩) (want1 rfl rfl rfl h60) (q01 rfl rfl fn32 hb32 rfl rfl) (Gh.fz (tm':=[.isl false (List.map cGNode ([r61]))]) (h':=[(8,.row [.isl false (List.map cGNode r47.1.Nodes)] 25),(7,.row [.isl false (List.map cGNode r19.1.Nodes)] 25),(3,.row [.isl false (List.map cGNode r9.1.Nodes)] 25)]) 11 (.row [.int .i64 r61.Typex,.isl false (List.map cGArc r61.Arcs)] 43) 2 rfl (by simp) (by simp only [oneU,q07,q03,q0h,q09,q0k,q0d,q0c,q0b,q0a,q08,q0i,q0j,q0g,q0l,q1i,junkT,q1u,q1x,q2e,Nat.reduceLeDiff,Nat.reduceMul,List.length_cons,List.length_nil,Nat.reduceAdd]<;>simp only [chunks,List.take,List.drop,List.map,cGNode]) (by simp only [fzH,fzB,ug,Nat.beq,cond_true,cond_false,oneU,q07,q03,q0h,q09,q0k,q0d,q0c,q0b,q0a,q08,q0i,q0j,q0g,q0l,q1i,junkT,q1u,q1x,q2e,Nat.reduceLeDiff,Nat.reduceMul,List.length_cons,List.length_nil,Nat.reduceAdd]<;>simp only [chunks,List.take,List.drop,List.map,cGNode])) (Nat.le_of_ble_eq_true rfl) (q1g n ([r61]) r63 h64 _) rfl rfl ?_
 refine RD.free (u:=.bool r65) (args:=[.agg [.isl false (List.map cGNode r63.Nodes)]]) (want1 rfl rfl rfl h60) (q01 rfl rfl fn22 hb22 rfl rfl) (fun s=>q23 n r63 r65 h66 s) rfl rfl (RD.q (u:=.bool r65) rfl (q0n rfl h60 rfl) (RD.mv rfl rfl rfl rfl (RD.look (u:=.agg [.isl false (List.map cGNode r9.1.Nodes)]) (want1 rfl rfl rfl h67) (q12 und25 rfl (q02 inf25) rfl rfl rfl) rfl rfl (RD.free (u:=.bool r68) (args:=[.agg [.isl false (List.map cGNode r9.1.Nodes)]]) (want1 rfl rfl rfl h67) (q01 rfl rfl fn22 hb22 rfl rfl) (fun s=>q23 n (GFS.mk r9.1.Nodes) r68 h69 s) rfl rfl (RD.look (u:=.bool (!r68)) (want1 rfl rfl rfl h67) (q8j rfl rfl rfl rfl) rfl rfl (RD.q (u:=.bool (!r68)) rfl (q0n rfl h67 rfl) (RD.mv rfl rfl rfl rfl ?_)))))))
 refine RD.free (u:=.agg [.isl false (List.map cGNode r71.Nodes)]) (args:=[.int .i64 4]) (want1 rfl rfl rfl h70) (q01 rfl rfl fn12 hb12 rfl rfl) (fun s=>q5g n 4 r71 h72 s) rfl rfl (RD.free (u:=.agg (cGNode r73)) (args:=[.int .i64 4,.nils]) (want1 rfl rfl rfl h70) (q01 rfl rfl fn29 hb29 rfl rfl) (fun s=>EvU.wkA (args':=[.int .i64 4,.isl false []]) (.cons (.refl _) (.cons (.nil false) .nil)) (fun s=>q04 n 4 [] r73 h74 s) s) rfl rfl (RD.act (u:=.sl 12 0 1 1) (σ':=⟨[(12,.row (cGNode r73) 43),(8,.row [.isl false (List.map cGNode r47.1.Nodes)] 25),(7,.row [.isl false (List.map cGNode r19.1.Nodes)] 25),(3,.row [.isl false (List.map cGNode r9.1.Nodes)] 25)],13⟩) (want1 rfl rfl rfl h70) (q1z und23 inf43 rfl rfl rfl rfl rfl rfl rfl) rfl rfl ?_))
 refine RD.fcall (u:=.agg [.isl false (List.map cGNode r75.Nodes)]) (args:=[.sl 12 0 1 1]) (σ1:=⟨[(8,.row [.isl false (List.map cGNode r47.1.Nodes)] 25),(7,.row [.isl false (List.map cGNode r19.1.Nodes)] 25),(3,.row [.isl false (List.map cGNode r9.1.Nodes)] 25)],13⟩) (want1 rfl rfl rfl h70) (q01 rfl rfl fn32 hb32 rfl rfl) (Gh.fz (tm':=[.isl false (List.map cGNode ([r73]))]) (h':=[(8,.row [.isl false (List.map cGNode r47.1.Nodes)] 25),(7,.row [.isl false (List.map cGNode r19.1.Nodes)] 25),(3,.row [.isl false (List.map cGNode r9.1.Nodes)] 25)]) 12 (.row [.int .i64 r73.Typex,.isl false (List.map cGArc r73.Arcs)] 43) 2 rfl (by simp) (by simp only [oneU,q07,q03,q0h,q09,q0k,q0d,q0c,q0b,q0a,q08,q0i,q0j,q0g,q0l,q1i,junkT,q1u,q1x,q2e,Nat.reduceLeDiff,Nat.reduceMul,List.length_cons,List.length_nil,Nat.reduceAdd]<;>simp only [chunks,List.take,List.drop,List.map,cGNode]) (by simp only [fzH,fzB,ug,Nat.beq,cond_true,cond_false,oneU,q07,q03,q0h,q09,q0k,q0d,q0c,q0b,q0a,q08,q0i,q0j,q0g,q0l,q1i,junkT,q1u,q1x,q2e,Nat.reduceLeDiff,Nat.reduceMul,List.length_cons,List.length_nil,Nat.reduceAdd]<;>simp only [chunks,List.take,List.drop,List.map,cGNode])) (Nat.le_of_ble_eq_true rfl) (q1g n ([r73]) r75 h76 _) rfl rfl ?_
 refine RD.free (u:=.bool r77) (args:=[.agg [.isl false (List.map cGNode r71.Nodes)],.agg [.isl false (List.map cGNode r75.Nodes)]]) (want1 rfl rfl rfl h70) (q01 rfl rfl fn14 hb14 rfl rfl) (fun s=>q1s n r71 r75 r77 h78 s) rfl rfl (RD.q (u:=.bool r77) rfl (q0n rfl h70 rfl) (RD.mv rfl rfl rfl rfl ?_))
 repeat refine RD.no (want0 rfl rfl rfl h79) rfl rfl ?_
 refine RD.q (u:=.bool false) rfl (q0m rfl h79 rfl) (RD.mv rfl rfl rfl rfl ?_)
 repeat refine RD.no (want0 rfl rfl rfl rfl) rfl rfl ?_
 refine RD.q (u:=.bool false) rfl (q0m rfl rfl rfl) (RD.as rfl rfl rfl rfl ?_)
 refine RD.done ⟨by kernel_rfl,trivial,?_⟩
 refine st ?_
 exact ⟨_,_,⟨rfl,rfl⟩,(Nat.zero_le _),Gh.toC (n1:=9) ⟨rfl,trivial⟩ rfl (Nat.zero_le _) (by simp)⟩
 replace h88:=q0p h70 h88
 replace h88:=Option.some.inj h88
 subst h88
 refine WPU.drawE Try.tb_ok [] (by kernel_rfl) ?_
 refine RD.mv rfl rfl rfl rfl (RD.q rfl (q06 rfl rfl (q3l _ _ _) rfl) (RD.mv rfl rfl rfl rfl (RD.look (u:=.agg [.isl false (List.map cGNode r9.1.Nodes)]) (want1 rfl rfl rfl h49) (q12 und25 rfl (q02 inf25) rfl rfl rfl) rfl rfl (RD.free (u:=.agg [.isl false (List.map cGNode r50.Nodes)]) (args:=[.agg [.isl false (List.map cGNode r9.1.Nodes)],.int .i64 1]) (want1 rfl rfl rfl h49) (q01 rfl rfl fn20 hb20 rfl rfl) (fun s=>q4f n (GFS.mk r9.1.Nodes) 1 r50 h51 s) rfl rfl (RD.freeO (u:=.isl false (List.map (cI .i64) ([0,1]))) (want1 rfl rfl rfl h49) (FreeO.bs (cs:=[.int .i64 0,.int .i64 1]) und55 inf3 rfl rfl rfl rfl rfl rfl rfl rfl rfl) rfl rfl (RD.free (u:=.agg (cGNode r52)) (args:=[.int .i64 3,.isl false (List.map (cI .i64) ([0,1]))]) (want1 rfl rfl rfl h49) (q01 rfl rfl fn29 hb29 rfl rfl) (fun s=>q04 n 3 ([0,1]) r52 h53 s) rfl rfl (RD.free (u:=.agg (cGNode r54)) (args:=[.int .i64 2,.nils]) (want1 rfl rfl rfl h49) (q01 rfl rfl fn29 hb29 rfl rfl) (fun s=>EvU.wkA (args':=[.int .i64 2,.isl false []]) (.cons (.refl _) (.cons (.nil false) .nil)) (fun s=>q04 n 2 [] r54 h55 s) s) rfl rfl ?_)))))))
 refine RD.act (u:=.sl 9 0 2 2) (σ':=⟨[(9,.row [.int .i64 r52.Typex,.isl false (List.map cGArc r52.Arcs),.int .i64 r54.Typex,.isl false (List.map cGArc r54.Arcs)] 43),(8,.row [.isl false (List.map cGNode r47.1.Nodes)] 25),(7,.row [.isl false (List.map cGNode r19.1.Nodes)] 25),(3,.row [.isl false (List.map cGNode r9.1.Nodes)] 25)],10⟩) (want1 rfl rfl rfl h49) (q1z und23 inf43 rfl rfl rfl rfl rfl rfl rfl) rfl rfl ?_
 refine RD.fcall (u:=.agg [.isl false (List.map cGNode r56.Nodes)]) (args:=[.sl 9 0 2 2]) (σ1:=⟨[(8,.row [.isl false (List.map cGNode r47.1.Nodes)] 25),(7,.row [.isl false (List.map cGNode r19.1.Nodes)] 25),(3,.row [.isl false (List.map cGNode r9.1.Nodes)] 25)],10⟩) (want1 rfl rfl rfl h49) (q01 rfl rfl fn32 hb32 rfl rfl) (Gh.fz (tm':=[.isl false (List.map cGNode ([r52,r54]))]) (h':=[(8,.row [.isl false (List.map cGNode r47.1.Nodes)] 25),(7,.row [.isl false (List.map cGNode r19.1.Nodes)] 25),(3,.row [.isl false (List.map cGNode r9.1.Nodes)] 25)]) 9 (.row [.int .i64 r52.Typex,.isl false (List.map cGArc r52.Arcs),.int .i64 r54.Typex,.isl false (List.map cGArc r54.Arcs)] 43) 2 rfl (by simp) (by simp only [oneU,q07,q03,q0h,q09,q0k,q0d,q0c,q0b,q0a,q08,q0i,q0j,q0g,q0l,q1i,junkT,q1u,q1x,Nat.reduceLeDiff,Nat.reduceMul,List.length_cons,List.length_nil,Nat.reduceAdd]<;>simp only [chunks,List.take,List.drop,List.map,cGNode]) (by simp only [fzH,fzB,ug,Nat.beq,cond_true,cond_false,oneU,q07,q03,q0h,q09,q0k,q0d,q0c,q0b,q0a,q08,q0i,q0j,q0g,q0l,q1i,junkT,q1u,q1x,Nat.reduceLeDiff,Nat.reduceMul,List.length_cons,List.length_nil,Nat.reduceAdd]<;>simp only [chunks,List.take,List.drop,List.map,cGNode])) (Nat.le_of_ble_eq_true rfl) (q1g n ([r52,r54]) r56 h57 _) rfl rfl ?_
 refine RD.free (u:=.bool r58) (args:=[.agg [.isl false (List.map cGNode r50.Nodes)],.agg [.isl false (List.map cGNode r56.Nodes)]]) (want1 rfl rfl rfl h49) (q01 rfl rfl fn14 hb14 rfl rfl) (fun s=>q1s n r50 r56 r58 h59 s) rfl rfl (RD.q (u:=.bool r58) rfl (q0n rfl h49 rfl) (RD.mv rfl rfl rfl rfl (RD.act (u:=.sl 10 0 2 2) (σ':=⟨[(10,.row [.int .i64 5,.int .i64 0] 3),(8,.row [.isl false (List.map cGNode r47.1.Nodes)] 25),(7,.row [.isl false (List.map cGNode r19.1.Nodes)] 25),(3,.row [.isl false (List.map cGNode r9.1.Nodes)] 25)],11⟩) (want1 rfl rfl rfl h60) (q1z und55 inf3 rfl rfl rfl rfl rfl rfl rfl) rfl rfl ?_)))
 refine RD.fcall (u:=.agg (cGNode r61)) (args:=[.int .i64 1,.sl 10 0 2 2]) (σ1:=⟨[(8,.row [.isl false (List.map cGNode r47.1.Nodes)] 25),(7,.row [.isl false (List.map cGNode r19.1.Nodes)] 25),(3,.row [.isl false (List.map cGNode r9.1.Nodes)] 25)],11⟩) (want1 rfl rfl rfl h60) (q01 rfl rfl fn29 hb29 rfl rfl) (Gh.fz (tm':=[.int .i64 1,.isl false (List.map (cI .i64) ([5,0]))]) (h':=[(8,.row [.isl false (List.map cGNode r47.1.Nodes)] 25),(7,.row [.isl false (List.map cGNode r19.1.Nodes)] 25),(3,.row [.isl false (List.map cGNode r9.1.Nodes)] 25)]) 10 (.row [.int .i64 5,.int .i64 0] 3) 1 rfl (by simp) (by simp only [oneU,q07,q03,q0h,q09,q0k,q0d,q0c,q0b,q0a,q08,q0i,q0j,q0g,q0l,q1i,junkT,q1u,q1x,Nat.reduceLeDiff,Nat.reduceMul,List.length_cons,List.length_nil,Nat.reduceAdd]<;>simp only [chunks,List.take,List.drop,List.map,cI,cB,cS,cL]) (by simp only [fzH,fzB,ug,Nat.beq,cond_true,cond_false,oneU,q07,q03,q0h,q09,q0k,q0d,q0c,q0b,q0a,q08,q0i,q0j,q0g,q0l,q1i,junkT,q1u,q1x,Nat.reduceLeDiff,Nat.reduceMul,List.length_cons,List.length_nil,Nat.reduceAdd]<;>simp only [chunks,List.take,List.drop,List.map,cI,cB,cS,cL])) (Nat.le_of_ble_eq_true rfl) (q04 n 1 ([5,0]) r61 h62 _) rfl rfl ?_
 refine RD.act (u:=.sl 11 0 1 1) (σ':=⟨[(11,.row (cGNode r61) 43),(8,.row [.isl false (List.map cGNode r47.1.Nodes)] 25),(7,.row [.isl false (List.map cGNode r19.1.Nodes)] 25),(3,.row [.isl false (List.map cGNode r9.1.Nodes)] 25)],12⟩) (want1 rfl rfl rfl h60) (q1z und23 inf43 rfl rfl rfl rfl rfl rfl rfl) rfl rfl ?_
 refine RD.fcall (u:=.agg [.isl false (List.map cGNode r63.Nodes)]) (args:=[.sl 11 0 1 1]) (σ1:=⟨[(8,.row [.isl false (List.map cGNode r47.1.Nodes)] 25),(7,.row [.isl false (List.map cGNode r19.1.Nodes)] 25),(3,.row [.isl false (List.map cGNode r9.1.Nodes)] 25)],12⟩) (want1 rfl rfl rfl h60) (q01 rfl rfl fn32 hb32 rfl rfl) (Gh.fz (tm':=[.isl false (List.map cGNode ([r61]))]) (h':=[(8,.row [.isl false (List.map cGNode r47.1.Nodes)] 25),(7,.row [.isl false (List.map cGNode r19.1.Nodes)] 25),(3,.row [.isl false (List.map cGNode r9.1.Nodes)] 25)]) 11 (.row [.int .i64 r61.Typex,.isl false (List.map cGArc r61.Arcs)] 43) 2 rfl (by simp) (by simp only [oneU,q07,q03,q0h,q09,q0k,q0d,q0c,q0b,q0a,q08,q0i,q0j,q0g,q0l,q1i,junkT,q1u,q1x,q2e,Nat.reduceLeDiff,Nat.reduceMul,List.length_cons,List.length_nil,Nat.reduceAdd]<;>simp only [chunks,List.take,List.drop,List.map,cGNode]) (by simp only [fzH,fzB,ug,Nat.beq,cond_true,cond_false,oneU,q07,q03,q0h,q09,q0k,q0d,q0c,q0b,q0a,q08,q0i,q0j,q0g,q0l,q1i,junkT,q1u,q1x,q2e,Nat.reduceLeDiff,Nat.reduceMul,List.length_cons,List.length_nil,Nat.reduceAdd]<;>simp only [chunks,List.take,List.drop,List.map,cGNode])) (Nat.le_of_ble_eq_true rfl) (q1g n ([r61]) r63 h64 _) rfl rfl ?_
 refine RD.free (u:=.bool r65) (args:=[.agg [.isl false (List.map cGNode r63.Nodes)]]) (want1 rfl rfl rfl h60) (q01 rfl rfl fn22 hb22 rfl rfl) (fun s=>q23 n r63 r65 h66 s) rfl rfl (RD.q (u:=.bool r65) rfl (q0n rfl h60 rfl) (RD.mv rfl rfl rfl rfl (RD.look (u:=.agg [.isl false (List.map cGNode r9.1.Nodes)]) (want1 rfl rfl rfl h67) (q12 und25 rfl (q02 inf25) rfl rfl rfl) rfl rfl (RD.free (u:=.bool r68) (args:=[.agg [.isl false (List.map cGNode r9.1.Nodes)]]) (want1 rfl rfl rfl h67) (q01 rfl rfl fn22 hb22 rfl rfl) (fun s=>q23 n (GFS.mk r9.1.Nodes) r68 h69 s) rfl rfl (RD.look (u:=.bool (!r68)) (want1 rfl rfl rfl h67) (q8j rfl rfl rfl rfl) rfl rfl (RD.q (u:=.bool (!r68)) rfl (q0n rfl h67 rfl) (RD.mv rfl rfl rfl rfl ?_)))))))
 repeat refine RD.no (want0 rfl rfl rfl h70) rfl rfl ?_
 refine RD.q (u:=.bool false) rfl (q0m rfl h70 rfl) (RD.mv rfl rfl rfl rfl ?_)
 repeat refine RD.no (want0 rfl rfl rfl rfl) rfl rfl ?_
 refine RD.q (u:=.bool false) rfl (q0m rfl rfl rfl) (RD.mv rfl rfl rfl rfl ?_)
 repeat refine RD.no (want0 rfl rfl rfl rfl) rfl rfl ?_
 refine RD.q (u:=.bool false) rfl (q0m rfl rfl rfl) (RD.as rfl rfl rfl rfl ?_)
 refine RD.done ⟨by kernel_rfl,trivial,?_⟩
 refine st ?_
 exact ⟨_,_,⟨rfl,rfl⟩,(Nat.zero_le _),Gh.toC (n1:=9) ⟨rfl,trivial⟩ rfl (Nat.zero_le _) (by simp)⟩
 replace h88:=q0p h67 h88
 replace h88:=Option.some.inj h88
 subst h88
 refine WPU.drawE Try.tb_ok [] (by kernel_rfl) ?_
 refine RD.mv rfl rfl rfl rfl (RD.q rfl (q06 rfl rfl (q3l _ _ _) rfl) (RD.mv rfl rfl rfl rfl (RD.look (u:=.agg [.isl false (List.map cGNode r9.1.Nodes)]) (want1 rfl rfl rfl h49) (q12 und25 rfl (q02 inf25) rfl rfl rfl) rfl rfl (RD.free (u:=.agg [.isl false (List.map cGNode r50.Nodes)]) (args:=[.agg [.isl false (List.map cGNode r9.1.Nodes)],.int .i64 1]) (want1 rfl rfl rfl h49) (q01 rfl rfl fn20 hb20 rfl rfl) (fun s=>q4f n (GFS.mk r9.1.Nodes) 1 r50 h51 s) rfl rfl (RD.freeO (u:=.isl false (List.map (cI .i64) ([0,1]))) (want1 rfl rfl rfl h49) (FreeO.bs (cs:=[.int .i64 0,.int .i64 1]) und55 inf3 rfl rfl rfl rfl rfl rfl rfl rfl rfl) rfl rfl (RD.free (u:=.agg (cGNode r52)) (args:=[.int .i64 3,.isl false (List.map (cI .i64) ([0,1]))]) (want1 rfl rfl rfl h49) (q01 rfl rfl fn29 hb29 rfl rfl) (fun s=>q04 n 3 ([0,1]) r52 h53 s) rfl rfl (RD.free (u:=.agg (cGNode r54)) (args:=[.int .i64 2,.nils]) (want1 rfl rfl rfl h49) (q01 rfl rfl fn29 hb29 rfl rfl) (fun s=>EvU.wkA (args':=[.int .i64 2,.isl false []]) (.cons (.refl _) (.cons (.nil false) .nil)) (fun s=>q04 n 2 [] r54 h55 s) s) rfl rfl ?_)))))))
 refine RD.act (u:=.sl 9 0 2 2) (σ':=⟨[(9,.row [.int .i64 r52.Typex,.isl false (List.map cGArc r52.Arcs),.int .i64 r54.Typex,.isl false (List.map cGArc r54.Arcs)] 43),(8,.row [.isl false (List.map cGNode r47.1.Nodes)] 25),(7,.row [.isl false (List.map cGNode r19.1.Nodes)] 25),(3,.row [.isl false (List.map cGNode r9.1.Nodes)] 25)],10⟩) (want1 rfl rfl rfl h49) (q1z und23 inf43 rfl rfl rfl rfl rfl rfl rfl) rfl rfl ?_
 refine RD.fcall (u:=.agg [.isl false (List.map cGNode r56.Nodes)]) (args:=[.sl 9 0 2 2]) (σ1:=⟨[(8,.row [.isl false (List.map cGNode r47.1.Nodes)] 25),(7,.row [.isl false (List.map cGNode r19.1.Nodes)] 25),(3,.row [.isl false (List.map cGNode r9.1.Nodes)] 25)],10⟩) (want1 rfl rfl rfl h49) (q01 rfl rfl fn32 hb32 rfl rfl) (Gh.fz (tm':=[.isl false (List.map cGNode ([r52,r54]))]) (h':=[(8,.row [.isl false (List.map cGNode r47.1.Nodes)] 25),(7,.row [.isl false (List.map cGNode r19.1.Nodes)] 25),(3,.row [.isl false (List.map cGNode r9.1.Nodes)] 25)]) 9 (.row [.int .i64 r52.Typex,.isl false (List.map cGArc r52.Arcs),.int .i64 r54.Typex,.isl false (List.map cGArc r54.Arcs)] 43) 2 rfl (by simp) (by simp only [oneU,q07,q03,q0h,q09,q0k,q0d,q0c,q0b,q0a,q08,q0i,q0j,q0g,q0l,q1i,junkT,q1u,q1x,Nat.reduceLeDiff,Nat.reduceMul,List.length_cons,List.length_nil,Nat.reduceAdd]<;>simp only [chunks,List.take,List.drop,List.map,cGNode]) (by simp only [fzH,fzB,ug,Nat.beq,cond_true,cond_false,oneU,q07,q03,q0h,q09,q0k,q0d,q0c,q0b,q0a,q08,q0i,q0j,q0g,q0l,q1i,junkT,q1u,q1x,Nat.reduceLeDiff,Nat.reduceMul,List.length_cons,List.length_nil,Nat.reduceAdd]<;>simp only [chunks,List.take,List.drop,List.map,cGNode])) (Nat.le_of_ble_eq_true rfl) (q1g n ([r52,r54]) r56 h57 _) rfl rfl ?_
 refine RD.free (u:=.bool r58) (args:=[.agg [.isl false (List.map cGNode r50.Nodes)],.agg [.isl false (List.map cGNode r56.Nodes)]]) (want1 rfl rfl rfl h49) (q01 rfl rfl fn14 hb14 rfl rfl) (fun s=>q1s n r50 r56 r58 h59 s) rfl rfl (RD.q (u:=.bool r58) rfl (q0n rfl h49 rfl) (RD.mv rfl rfl rfl rfl (RD.act (u:=.sl 10 0 2 2) (σ':=⟨[(10,.row [.int .i64 5,.int .i64 0] 3),(8,.row [.isl false (List.map cGNode r47.1.Nodes)] 25),(7,.row [.isl false (List.map cGNode r19.1.Nodes)] 25),(3,.row [.isl false (List.map cGNode r9.1.Nodes)] 25)],11⟩) (want1 rfl rfl rfl h60) (q1z und55 inf3 rfl rfl rfl rfl rfl rfl rfl) rfl rfl ?_)))
 refine RD.fcall (u:=.agg (cGNode r61)) (args:=[.int .i64 1,.sl 10 0 2 2]) (σ1:=⟨[(8,.row [.isl false (List.map cGNode r47.1.Nodes)] 25),(7,.row [.isl false (List.map cGNode r19.1.Nodes)] 25),(3,.row [.isl false (List.map cGNode r9.1.Nodes)] 25)],11⟩) (want1 rfl rfl rfl h60) (q01 rfl rfl fn29 hb29 rfl rfl) (Gh.fz (tm':=[.int .i64 1,.isl false (List.map (cI .i64) ([5,0]))]) (h':=[(8,.row [.isl false (List.map cGNode r47.1.Nodes)] 25),(7,.row [.isl false (List.map cGNode r19.1.Nodes)] 25),(3,.row [.isl false (List.map cGNode r9.1.Nodes)] 25)]) 10 (.row [.int .i64 5,.int .i64 0] 3) 1 rfl (by simp) (by simp only [oneU,q07,q03,q0h,q09,q0k,q0d,q0c,q0b,q0a,q08,q0i,q0j,q0g,q0l,q1i,junkT,q1u,q1x,Nat.reduceLeDiff,Nat.reduceMul,List.length_cons,List.length_nil,Nat.reduceAdd]<;>simp only [chunks,List.take,List.drop,List.map,cI,cB,cS,cL]) (by simp only [fzH,fzB,ug,Nat.beq,cond_true,cond_false,oneU,q07,q03,q0h,q09,q0k,q0d,q0c,q0b,q0a,q08,q0i,q0j,q0g,q0l,q1i,junkT,q1u,q1x,Nat.reduceLeDiff,Nat.reduceMul,List.length_cons,List.length_nil,Nat.reduceAdd]<;>simp only [chunks,List.take,List.drop,List.map,cI,cB,cS,cL])) (Nat.le_of_ble_eq_true rfl) (q04 n 1 ([5,0]) r61 h62 _) rfl rfl ?_
 refine RD.act (u:=.sl 11 0 1 1) (σ':=⟨[(11,.row (cGNode r61) 43),(8,.row [.isl false (List.map cGNode r47.1.Nodes)] 25),(7,.row [.isl false (List.map cGNode r19.1.Nodes)] 25),(3,.row [.isl false (List.map cGNode r9.1.Nodes)] 25)],12⟩) (want1 rfl rfl rfl h60) (q1z und23 inf43 rfl rfl rfl rfl rfl rfl rfl) rfl rfl ?_
 refine RD.fcall (u:=.agg [.isl false (List.map cGNode r63.Nodes)]) (args:=[.sl 11 0 1 1]) (σ1:=⟨[(8,.row [.isl false (List.map cGNode r47.1.Nodes)] 25),(7,.row [.isl false (List.map cGNode r19.1.Nodes)] 25),(3,.row [.isl false (List.map cGNode r9.1.Nodes)] 25)],12⟩) (want1 rfl rfl rfl h60) (q01 rfl rfl fn32 hb32 rfl rfl) (Gh.fz (tm':=[.isl false (List.map cGNode ([r61]))]) (h':=[(8,.row [.isl false (List.map cGNode r47.1.Nodes)] 25),(7,.row [.isl false (List.map cGNode r19.1.Nodes)] 25),(3,.row [.isl false (List.map cGNode r9.1.Nodes)] 25)]) 11 (.row [.int .i64 r61.Typex,.isl false (List.map cGArc r61.Arcs)] 43) 2 rfl (by simp) (by simp only [oneU,q07,q03,q0h,q09,q0k,q0d,q0c,q0b,q0a,q08,q0i,q0j,q0g,q0l,q1i,junkT,q1u,q1x,q2e,Nat.reduceLeDiff,Nat.reduceMul,List.length_cons,List.length_nil,Nat.reduceAdd]<;>simp only [chunks,List.take,List.drop,List.map,cGNode]) (by simp only [fzH,fzB,ug,Nat.beq,cond_true,cond_false,oneU,q07,q03,q0h,q09,q0k,q0d,q0c,q0b,q0a,q08,q0i,q0j,q0g,q0l,q1i,junkT,q1u,q1x,q2e,Nat.reduceLeDiff,Nat.reduceMul,List.length_cons,List.length_nil,Nat.reduceAdd]<;>simp only [chunks,List.take,List.drop,List.map,cGNode])) (Nat.le_of_ble_eq_true rfl) (q1g n ([r61]) r63 h64 _) rfl rfl ?_
 refine RD.free (u:=.bool r65) (args:=[.agg [.isl false (List.map cGNode r63.Nodes)]]) (want1 rfl rfl rfl h60) (q01 rfl rfl fn22 hb22 rfl rfl) (fun s=>q23 n r63 r65 h66 s) rfl rfl (RD.q (u:=.bool r65) rfl (q0n rfl h60 rfl) (RD.mv rfl rfl rfl rfl ?_))
 repeat refine RD.no (want0 rfl rfl rfl h67) rfl rfl ?_
 refine RD.q (u:=.bool false) rfl (q0m rfl h67 rfl) (RD.mv rfl rfl rfl rfl ?_)
 repeat refine RD.no (want0 rfl rfl rfl rfl) rfl rfl ?_
 refine RD.q (u:=.bool false) rfl (q0m rfl rfl rfl) (RD.mv rfl rfl rfl rfl ?_)
 repeat refine RD.no (want0 rfl rfl rfl rfl) rfl rfl ?_
 refine RD.q (u:=.bool false) rfl (q0m rfl rfl rfl) (RD.mv rfl rfl rfl rfl ?_)
 repeat refine RD.no (want0 rfl rfl rfl rfl) rfl rfl ?_
 refine RD.q (u:=.bool false) rfl (q0m rfl rfl rfl) (RD.as rfl rfl rfl rfl ?_)
 refine RD.done ⟨by kernel_rfl,trivial,?_⟩
 refine st ?_
 exact ⟨_,_,⟨rfl,rfl⟩,(Nat.zero_le _),Gh.toC (n1:=9) ⟨rfl,trivial⟩ rfl (Nat.zero_le _) (by simp)⟩
 replace h88:=q0p h60 h88
 replace h88:=Option.some.inj h88
 subst h88
 refine WPU.drawE Try.tb_ok [] (by kernel_rfl) ?_
 refine RD.mv rfl rfl rfl rfl (RD.q rfl (q06 rfl rfl (q3l _ _ _) rfl) (RD.mv rfl rfl rfl rfl (RD.look (u:=.agg [.isl false (List.map cGNode r9.1.Nodes)]) (want1 rfl rfl rfl h49) (q12 und25 rfl (q02 inf25) rfl rfl rfl) rfl rfl (RD.free (u:=.agg [.isl false (List.map cGNode r50.Nodes)]) (args:=[.agg [.isl false (List.map cGNode r9.1.Nodes)],.int .i64 1]) (want1 rfl rfl rfl h49) (q01 rfl rfl fn20 hb20 rfl rfl) (fun s=>q4f n (GFS.mk r9.1.Nodes) 1 r50 h51 s) rfl rfl (RD.freeO (u:=.isl false (List.map (cI .i64) ([0,1]))) (want1 rfl rfl rfl h49) (FreeO.bs (cs:=[.int .i64 0,.int .i64 1]) und55 inf3 rfl rfl rfl rfl rfl rfl rfl rfl rfl) rfl rfl (RD.free (u:=.agg (cGNode r52)) (args:=[.int .i64 3,.isl false (List.map (cI .i64) ([0,1]))]) (want1 rfl rfl rfl h49) (q01 rfl rfl fn29 hb29 rfl rfl) (fun s=>q04 n 3 ([0,1]) r52 h53 s) rfl rfl (RD.free (u:=.agg (cGNode r54)) (args:=[.int .i64 2,.nils]) (want1 rfl rfl rfl h49) (q01 rfl rfl fn29 hb29 rfl rfl) (fun s=>EvU.wkA (args':=[.int .i64 2,.isl false []]) (.cons (.refl _) (.cons (.nil false) .nil)) (fun s=>q04 n 2 [] r54 h55 s) s) rfl rfl ?_)))))))
 refine RD.act (u:=.sl 9 0 2 2) (σ':=⟨[(9,.row [.int .i64 r52.Typex,.isl false (List.map cGArc r52.Arcs),.int .i64 r54.Typex,.isl false (List.map cGArc r54.Arcs)] 43),(8,.row [.isl false (List.map cGNode r47.1.Nodes)] 25),(7,.row [.isl false (List.map cGNode r19.1.Nodes)] 25),(3,.row [.isl false (List.map cGNode r9.1.Nodes)] 25)],10⟩) (want1 rfl rfl rfl h49) (q1z und23 inf43 rfl rfl rfl rfl rfl rfl rfl) rfl rfl ?_
 refine RD.fcall (u:=.agg [.isl false (List.map cGNode r56.Nodes)]) (args:=[.sl 9 0 2 2]) (σ1:=⟨[(8,.row [.isl false (List.map cGNode r47.1.Nodes)] 25),(7,.row [.isl false (List.map cGNode r19.1.Nodes)] 25),(3,.row [.isl false (List.map cGNode r9.1.Nodes)] 25)],10⟩) (want1 rfl rfl rfl h49) (q01 rfl rfl fn32 hb32 rfl rfl) (Gh.fz (tm':=[.isl false (List.map cGNode ([r52,r54]))]) (h':=[(8,.row [.isl false (List.map cGNode r47.1.Nodes)] 25),(7,.row [.isl false (List.map cGNode r19.1.Nodes)] 25),(3,.row [.isl false (List.map cGNode r9.1.Nodes)] 25)]) 9 (.row [.int .i64 r52.Typex,.isl false (List.map cGArc r52.Arcs),.int .i64 r54.Typex,.isl false (List.map cGArc r54.Arcs)] 43) 2 rfl (by simp) (by simp only [oneU,q07,q03,q0h,q09,q0k,q0d,q0c,q0b,q0a,q08,q0i,q0j,q0g,q0l,q1i,junkT,q1u,q1x,Nat.reduceLeDiff,Nat.reduceMul,List.length_cons,List.length_nil,Nat.reduceAdd]<;>simp only [chunks,List.take,List.drop,List.map,cGNode]) (by simp only [fzH,fzB,ug,Nat.beq,cond_true,cond_false,oneU,q07,q03,q0h,q09,q0k,q0d,q0c,q0b,q0a,q08,q0i,q0j,q0g,q0l,q1i,junkT,q1u,q1x,Nat.reduceLeDiff,Nat.reduceMul,List.length_cons,List.length_nil,Nat.reduceAdd]<;>simp only [chunks,List.take,List.drop,List.map,cGNode])) (Nat.le_of_ble_eq_true rfl) (q1g n ([r52,r54]) r56 h57 _) rfl rfl ?_
 refine RD.free (u:=.bool r58) (args:=[.agg [.isl false (List.map cGNode r50.Nodes)],.agg [.isl false (List.map cGNode r56.Nodes)]]) (want1 rfl rfl rfl h49) (q01 rfl rfl fn14 hb14 rfl rfl) (fun s=>q1s n r50 r56 r58 h59 s) rfl rfl (RD.q (u:=.bool r58) rfl (q0n rfl h49 rfl) (RD.mv rfl rfl rfl rfl ?_))
 repeat refine RD.no (want0 rfl rfl rfl h60) rfl rfl ?_
 refine RD.q (u:=.bool false) rfl (q0m rfl h60 rfl) (RD.mv rfl rfl rfl rfl ?_)
 repeat refine RD.no (want0 rfl rfl rfl rfl) rfl rfl ?_
 refine RD.q (u:=.bool false) rfl (q0m rfl rfl rfl) (RD.mv rfl rfl rfl rfl ?_)
 repeat refine RD.no (want0 rfl rfl rfl rfl) rfl rfl ?_
 refine RD.q (u:=.bool false) rfl (q0m rfl rfl rfl) (RD.mv rfl rfl rfl rfl ?_)
 repeat refine RD.no (want0 rfl rfl rfl rfl) rfl rfl ?_
 refine RD.q (u:=.bool false) rfl (q0m rfl rfl rfl) (RD.mv rfl rfl rfl rfl ?_)
 repeat refine RD.no (want0 rfl rfl rfl rfl) rfl rfl ?_
 refine RD.q (u:=.bool false) rfl (q0m rfl rfl rfl) (RD.as rfl rfl rfl rfl ?_)
 refine RD.done ⟨by kernel_rfl,trivial,?_⟩
 refine st ?_
 exact ⟨_,_,⟨rfl,rfl⟩,(Nat.zero_le _),Gh.toC (n1:=9) ⟨rfl,trivial⟩ rfl (Nat.zero_le _) (by simp)⟩
 replace h88:=q0p h49 h88
 replace h88:=Option.some.inj h88
 subst h88
 refine WPU.drawE Try.tb_ok [] (by kernel_rfl) ?_
 refine RD.mv rfl rfl rfl rfl (RD.q rfl (q06 rfl rfl (q3l _ _ _) rfl) (RD.mv rfl rfl rfl rfl ?_))
 repeat refine RD.no (want0 rfl rfl rfl h49) rfl rfl ?_
 refine RD.q (u:=.bool false) rfl (q0m rfl h49 rfl) (RD.mv rfl rfl rfl rfl ?_)
 repeat refine RD.no (want0 rfl rfl rfl rfl) rfl rfl ?_
 refine RD.q (u:=.bool false) rfl (q0m rfl rfl rfl) (RD.mv rfl rfl rfl rfl ?_)
 repeat refine RD.no (want0 rfl rfl rfl rfl) rfl rfl ?_
 refine RD.q (u:=.bool false) rfl (q0m rfl rfl rfl) (RD.mv rfl rfl rfl rfl ?_)
 repeat refine RD.no (want0 rfl rfl rfl rfl) rfl rfl ?_
 refine RD.q (u:=.bool false) rfl (q0m rfl rfl rfl) (RD.mv rfl rfl rfl rfl ?_)
 repeat refine RD.no (want0 rfl rfl rfl rfl) rfl rfl ?_
 refine RD.q (u:=.bool false) rfl (q0m rfl rfl rfl) (RD.mv rfl rfl rfl rfl ?_)
 repeat refine RD.no (want0 rfl rfl rfl rfl) rfl rfl ?_
 refine RD.q (u:=.bool false) rfl (q0m rfl rfl rfl) (RD.as rfl rfl rfl rfl ?_)
 refine RD.done ⟨by kernel_rfl,trivial,?_⟩
 refine st ?_
 exact ⟨_,_,⟨rfl,rfl⟩,(Nat.zero_le _),Gh.toC (n1:=9) ⟨rfl,trivial⟩ rfl (Nat.zero_le _) (by simp)⟩
 rcases q3m (r9.2 != 0) with h21 | h21
 replace h45:=q0q h21 h45
 replace h45:=Option.some.inj h45
 subst h45
 refine WPU.drawE Try.tb_ok [] (by kernel_rfl) ?_
 refine RD.mv rfl rfl rfl rfl (RD.q rfl (q06 rfl rfl (q5q _ _ _) rfl) (RD.mv rfl rfl rfl rfl ?_))
 repeat refine RD.no (want0 rfl rfl rfl h21) rfl rfl ?_
 refine RD.q (u:=.bool true) rfl (q0n rfl h21 rfl) (RD.mv rfl rfl rfl rfl ?_)
 repeat refine RD.no (want0 rfl rfl rfl rfl) rfl rfl ?_
 refine RD.q (u:=.bool true) rfl (q0n rfl rfl rfl) (RD.mv rfl rfl rfl rfl ?_)
 repeat refine RD.no (want0 rfl rfl rfl rfl) rfl rfl ?_
 refine RD.q (u:=.bool true) rfl (q0n rfl rfl rfl) ?_
 refine RD.done ⟨by kernel_rfl,trivial,?_⟩
 refine st ?_
 exact ⟨_,_,⟨rfl,rfl⟩,(Nat.zero_le _),Gh.toC (n1:=8) ⟨rfl,rfl,trivial⟩ rfl (Nat.zero_le _) (by simp)⟩
 replace h45:=q0p h21 h45
 rcases q3m (r19.2 != 0) with h22 | h22
 replace h45:=q0q h22 h45
 replace h45:=Option.some.inj h45
 subst h45
 refine WPU.drawE Try.tb_ok [] (by kernel_rfl) ?_
 refine RD.mv rfl rfl rfl rfl (RD.q rfl (q06 rfl rfl (q5q _ _ _) rfl) (RD.mv rfl rfl rfl rfl (RD.look (want1 rfl rfl rfl h21) (q4d rfl) rfl rfl (RD.look (want1 rfl rfl rfl h21) (q06 rfl rfl (q5q _ _ _) rfl) rfl rfl (RD.q (u:=.bool (r19.2 != 0)) rfl (q0m rfl h21 rfl) (RD.mv rfl rfl rfl rfl ?_))))))
 repeat refine RD.no (want0 rfl rfl rfl h22) rfl rfl ?_
 refine RD.q (u:=.bool true) rfl (q0n rfl h22 rfl) (RD.mv rfl rfl rfl rfl ?_)
 repeat refine RD.no (want0 rfl rfl rfl rfl) rfl rfl ?_
 refine RD.q (u:=.bool true) rfl (q0n rfl rfl rfl) ?_
 refine RD.done ⟨by kernel_rfl,trivial,?_⟩
 refine st ?_
 exact ⟨_,_,⟨rfl,rfl⟩,(Nat.zero_le _),Gh.toC (n1:=8) ⟨rfl,rfl,trivial⟩ rfl (Nat.zero_le _) (by simp)⟩
 replace h45:=q0p h22 h45
 obtain ⟨r23,h24,h45⟩:=q00 h45
 obtain ⟨r25,h26,h45⟩:=q00 h45
 obtain ⟨r27,h28,h45⟩:=q00 h45
 obtain ⟨r29,h30,h45⟩:=q00 h45
 obtain ⟨r31,h32,h45⟩:=q00 h45
 rcases q3m (!r31) with h33 | h33
 replace h45:=q0q h33 h45
 replace h45:=Option.some.inj h45
 subst h45
 refine WPU.drawE Try.tb_ok [(7,13),(7,14)] (by kernel_rfl) ?_
 refine RD.mv rfl rfl rfl rfl (RD.q rfl (q06 rfl rfl (q5q _ _ _) rfl) (RD.mv rfl rfl rfl rfl (RD.look (want1 rfl rfl rfl h21) (q4d rfl) rfl rfl (RD.look (want1 rfl rfl rfl h21) (q06 rfl rfl (q5q _ _ _) rfl) rfl rfl (RD.q (u:=.bool (r19.2 != 0)) rfl (q0m rfl h21 rfl) (RD.mv rfl rfl rfl rfl (RD.look (u:=.agg [.isl false (List.map cGNode r9.1.Nodes)]) (want1 rfl rfl rfl h22) (q12 und25 rfl (q02 inf25) rfl rfl rfl) rfl rfl ?_)))))))
 refine RD.freeO (u:=.isl false (List.map (cI .i64) ([0,1,1,2]))) (want1 rfl rfl rfl h22) (FreeO.bs (cs:=[.int .i64 0,.int .i64 1,.int .i64 1,.int .i64 2]) und55 inf3 rfl rfl rfl rfl rfl rfl rfl rfl rfl) rfl rfl (RD.free (u:=.agg (cGNode r23)) (args:=[.int .i64 1,.isl false (List.map (cI .i64) ([0,1,1,2]))]) (want1 rfl rfl rfl h22) (q01 rfl rfl fn29 hb29 rfl rfl) (fun s=>q04 n 1 ([0,1,1,2]) r23 h24 s) rfl rfl (RD.freeO (u:=.isl false (List.map (cI .i64) ([0,2]))) (want1 rfl rfl rfl h22) (FreeO.bs (cs:=[.int .i64 0,.int .i64 2]) und55 inf3 rfl rfl rfl rfl rfl rfl rfl rfl rfl) rfl rfl (RD.free (u:=.agg (cGNode r25)) (args:=[.int .i64 3,.isl false (List.map (cI .i64) ([0,2]))]) (want1 rfl rfl rfl h22) (q01 rfl rfl fn29 hb29 rfl rfl) (fun s=>q04 n 3 ([0,2]) r25 h26 s) rfl rfl (RD.free (u:=.agg (cGNode r27)) (args:=[.int .i64 2,.nils]) (want1 rfl rfl rfl h22) (q01 rfl rfl fn29 hb29 rfl rfl) (fun s=>EvU.wkA (args':=[.int .i64 2,.isl false []]) (.cons (.refl _) (.cons (.nil false) .nil)) (fun s=>q04 n 2 [] r27 h28 s) s) rfl rfl (RD.act (u:=.sl 8 0 3 3) (σ':=⟨[(8,.row [.int .i64 r23.Typex,.isl false (List.map cGArc r23.Arcs),.int .i64 r25.Typex,.isl false (List.map cGArc r25.Arcs),.int .i64 r27.Typex,.isl false (List.map cGArc r27.Arcs)] 43),(7,.row [.isl false (List.map cGNode r19.1.Nodes)] 25),(3,.row [.isl false (List.map cGNode r9.1.Nodes)] 25)],9⟩) (want1 rfl rfl rfl h22) (q1z und23 inf43 rfl rfl rfl rfl rfl rfl rfl) rfl rfl ?_)))))
 refine RD.fcall (u:=.agg [.isl false (List.map cGNode r29.Nodes)]) (args:=[.sl 8 0 3 3]) (σ1:=⟨[(7,.row [.isl false (List.map cGNode r19.1.Nodes)] 25),(3,.row [.isl false (List.map cGNode r9.1.Nodes)] 25)],9⟩) (want1 rfl rfl rfl h22) (q01 rfl rfl fn32 hb32 rfl rfl) (Gh.fz (tm':=[.isl false (List.map cGNode ([r23,r25,r27]))]) (h':=[(7,.row [.isl false (List.map cGNode r19.1.Nodes)] 25),(3,.row [.isl false (List.map cGNode r9.1.Nodes)] 25)]) 8 (.row [.int .i64 r23.Typex,.isl false (List.map cGArc r23.Arcs),.int .i64 r25.Typex,.isl false (List.map cGArc r25.Arcs),.int .i64 r27.Typex,.isl false (List.map cGArc r27.Arcs)] 43) 2 rfl (by simp) (by simp only [oneU,q07,q03,q0h,q09,q0k,q0d,q0c,q0b,q0a,q08,q0i,q0j,q0g,q0l,q1i,junkT,q1u,q1x,Nat.reduceLeDiff,Nat.reduceMul,List.length_cons,List.length_nil,Nat.reduceAdd]<;>simp only [chunks,List.take,List.drop,List.map,cGNode]) (by simp only [fzH,fzB,ug,Nat.beq,cond_true,cond_false,oneU,q07,q03,q0h,q09,q0k,q0d,q0c,q0b,q0a,q08,q0i,q0j,q0g,q0l,q1i,junkT,q1u,q1x,Nat.reduceLeDiff,Nat.reduceMul,List.length_cons,List.length_nil,Nat.reduceAdd]<;>simp only [chunks,List.take,List.drop,List.map,cGNode])) (Nat.le_of_ble_eq_true rfl) (q1g n ([r23,r25,r27]) r29 h30 _) rfl rfl ?_
 refine RD.free (u:=.bool r31) (args:=[.agg [.isl false (List.map cGNode r9.1.Nodes)],.agg [.isl false (List.map cGNode r29.Nodes)]]) (want1 rfl rfl rfl h22) (q01 rfl rfl fn14 hb14 rfl rfl) (fun s=>q1s n (GFS.mk r9.1.Nodes) r29 r31 h32 s) rfl rfl (RD.look (u:=.bool (!r31)) (want1 rfl rfl rfl h22) (q8j rfl rfl rfl rfl) rfl rfl (RD.q (u:=.bool (!r31)) rfl (q0m rfl h22 rfl) (RD.mv rfl rfl rfl rfl ?_)))
 repeat refine RD.no (want0 rfl rfl rfl h33) rfl rfl ?_
 refine RD.q (u:=.bool true) rfl (q0n rfl h33 rfl) ?_
 refine RD.done ⟨by kernel_rfl,⟨q12 und25 rfl (q02 inf25) rfl rfl rfl,⟨q12 und25 rfl (q02 inf25) rfl rfl rfl,trivial⟩⟩,?_⟩
 refine st ?_
 exact ⟨_,_,⟨rfl,rfl⟩,(Nat.zero_le _),Gh.toC (n1:=8) ⟨rfl,rfl,trivial⟩ rfl (Nat.zero_le _) (by simp)⟩
 replace h45:=q0p h33 h45
 obtain ⟨r34,h35,h45⟩:=q00 h45
 obtain ⟨r36,h37,h45⟩:=q00 h45
 obtain ⟨r38,h39,h45⟩:=q00 h45
 obtain ⟨r40,h41,h45⟩:=q00 h45
 obtain ⟨r42,h43,h45⟩:=q00 h45
 replace h45:=Option.some.inj h45
 subst h45
 refine WPU.drawE Try.tb_ok [(7,13),(7,14),(19,25),(19,26)] (by kernel_rfl) ?_
 refine RD.mv rfl rfl rfl rfl (RD.q rfl (q06 rfl rfl (q5q _ _ _) rfl) (RD.mv rfl rfl rfl rfl (RD.look (want1 rfl rfl rfl h21) (q4d rfl) rfl rfl (RD.look (want1 rfl rfl rfl h21) (q06 rfl rfl (q5q _ _ _) rfl) rfl rfl (RD.q (u:=.bool (r19.2 != 0)) rfl (q0m rfl h21 rfl) (RD.mv rfl rfl rfl rfl (RD.look (u:=.agg [.isl false (List.map cGNode r9.1.Nodes)]) (want1 rfl rfl rfl h22) (q12 und25 rfl (q02 inf25) rfl rfl rfl) rfl rfl ?_)))))))
 refine RD.freeO (u:=.isl false (List.map (cI .i64) ([0,1,1,2]))) (want1 rfl rfl rfl h22) (FreeO.bs (cs:=[.int .i64 0,.int .i64 1,.int .i64 1,.int .i64 2]) und55 inf3 rfl rfl rfl rfl rfl rfl rfl rfl rfl) rfl rfl (RD.free (u:=.agg (cGNode r23)) (args:=[.int .i64 1,.isl false (List.map (cI .i64) ([0,1,1,2]))]) (want1 rfl rfl rfl h22) (q01 rfl rfl fn29 hb29 rfl rfl) (fun s=>q04 n 1 ([0,1,1,2]) r23 h24 s) rfl rfl (RD.freeO (u:=.isl false (List.map (cI .i64) ([0,2]))) (want1 rfl rfl rfl h22) (FreeO.bs (cs:=[.int .i64 0,.int .i64 2]) und55 inf3 rfl rfl rfl rfl rfl rfl rfl rfl rfl) rfl rfl (RD.free (u:=.agg (cGNode r25)) (args:=[.int .i64 3,.isl false (List.map (cI .i64) ([0,2]))]) (want1 rfl rfl rfl h22) (q01 rfl rfl fn29 hb29 rfl rfl) (fun s=>q04 n 3 ([0,2]) r25 h26 s) rfl rfl (RD.free (u:=.agg (cGNode r27)) (args:=[.int .i64 2,.nils]) (want1 rfl rfl rfl h22) (q01 rfl rfl fn29 hb29 rfl rfl) (fun s=>EvU.wkA (args':=[.int .i64 2,.isl false []]) (.cons (.refl _) (.cons (.nil false) .nil)) (fun s=>q04 n 2 [] r27 h28 s) s) rfl rfl (RD.act (u:=.sl 8 0 3 3) (σ':=⟨[(8,.row [.int .i64 r23.Typex,.isl false (List.map cGArc r23.Arcs),.int .i64 r25.Typex,.isl false (List.map cGArc r25.Arcs),.int .i64 r27.Typex,.isl false (List.map cGArc r27.Arcs)] 43),(7,.row [.isl false (List.map cGNode r19.1.Nodes)] 25),(3,.row [.isl false (List.map cGNode r9.1.Nodes)] 25)],9⟩) (want1 rfl rfl rfl h22) (q1z und23 inf43 rfl rfl rfl rfl rfl rfl rfl) rfl rfl ?_)))))
 refine RD.fcall (u:=.agg [.isl false (List.map cGNode r29.Nodes)]) (args:=[.sl 8 0 3 3]) (σ1:=⟨[(7,.row [.isl false (List.map cGNode r19.1.Nodes)] 25),(3,.row [.isl false (List.map cGNode r9.1.Nodes)] 25)],9⟩) (want1 rfl rfl rfl h22) (q01 rfl rfl fn32 hb32 rfl rfl) (Gh.fz (tm':=[.isl false (List.map cGNode ([r23,r25,r27]))]) (h':=[(7,.row [.isl false (List.map cGNode r19.1.Nodes)] 25),(3,.row [.isl false (List.map cGNode r9.1.Nodes)] 25)]) 8 (.row [.int .i64 r23.Typex,.isl false (List.map cGArc r23.Arcs),.int .i64 r25.Typex,.isl false (List.map cGArc r25.Arcs),.int .i64 r27.Typex,.isl false (List.map cGArc r27.Arcs)] 43) 2 rfl (by simp) (by simp only [oneU,q07,q03,q0h,q09,q0k,q0d,q0c,q0b,q0a,q08,q0i,q0j,q0g,q0l,q1i,junkT,q1u,q1x,Nat.reduceLeDiff,Nat.reduceMul,List.length_cons,List.length_nil,Nat.reduceAdd]<;>simp only [chunks,List.take,List.drop,List.map,cGNode]) (by simp only [fzH,fzB,ug,Nat.beq,cond_true,cond_false,oneU,q07,q03,q0h,q09,q0k,q0d,q0c,q0b,q0a,q08,q0i,q0j,q0g,q0l,q1i,junkT,q1u,q1x,Nat.reduceLeDiff,Nat.reduceMul,List.length_cons,List.length_nil,Nat.reduceAdd]<;>simp only [chunks,List.take,List.drop,List.map,cGNode])) (Nat.le_of_ble_eq_true rfl) (q1g n ([r23,r25,r27]) r29 h30 _) rfl rfl ?_
 refine RD.free (u:=.bool r31) (args:=[.agg [.isl false (List.map cGNode r9.1.Nodes)],.agg [.isl false (List.map cGNode r29.Nodes)]]) (want1 rfl rfl rfl h22) (q01 rfl rfl fn14 hb14 rfl rfl) (fun s=>q1s n (GFS.mk r9.1.Nodes) r29 r31 h32 s) rfl rfl (RD.look (u:=.bool (!r31)) (want1 rfl rfl rfl h22) (q8j rfl rfl rfl rfl) rfl rfl (RD.q (u:=.bool (!r31)) rfl (q0m rfl h22 rfl) (RD.mv rfl rfl rfl rfl (RD.look (u:=.agg [.isl false (List.map cGNode r19.1.Nodes)]) (want1 rfl rfl rfl h33) (q12 und25 rfl (q02 inf25) rfl rfl rfl) rfl rfl (RD.freeO (u:=.isl false (List.map (cI .i64) ([3,1,7,2]))) (want1 rfl rfl rfl h33) (FreeO.bs (cs:=[.int .i64 3,.int .i64 1,.int .i64 7,.int .i64 2]) und55 inf3 rfl rfl rfl rfl rfl rfl rfl rfl rfl) rfl rfl (RD.free (u:=.agg (cGNode r34)) (args:=[.int .i64 4,.isl false (List.map (cI .i64) ([3,1,7,2]))]) (want1 rfl rfl rfl h33) (q01 rfl rfl fn29 hb29 rfl rfl) (fun s=>q04 n 4 ([3,1,7,2]) r34 h35 s) rfl rfl (RD.free (u:=.agg (cGNode r36)) (args:=[.int .i64 5,.nils]) (want1 rfl rfl rfl h33) (q01 rfl rfl fn29 hb29 rfl rfl) (fun s=>EvU.wkA (args':=[.int .i64 5,.isl false []]) (.cons (.refl _) (.cons (.nil false) .nil)) (fun s=>q04 n 5 [] r36 h37 s) s) rfl rfl ?_)))))))
 refine RD.freeO (u:=.isl false (List.map (cI .i64) ([2,0]))) (want1 rfl rfl rfl h33) (FreeO.bs (cs:=[.int .i64 2,.int .i64 0]) und55 inf3 rfl rfl rfl rfl rfl rfl rfl rfl rfl) rfl rfl (RD.free (u:=.agg (cGNode r38)) (args:=[.int .i64 6,.isl false (List.map (cI .i64) ([2,0]))]) (want1 rfl rfl rfl h33) (q01 rfl rfl fn29 hb29 rfl rfl) (fun s=>q04 n 6 ([2,0]) r38 h39 s) rfl rfl (RD.act (u:=.sl 9 0 3 3) (σ':=⟨[(9,.row [.int .i64 r34.Typex,.isl false (List.map cGArc r34.Arcs),.int .i64 r36.Typex,.isl false (List.map cGArc r36.Arcs),.int .i64 r38.Typex,.isl false (List.map cGArc r38.Arcs)] 43),(7,.row [.isl false (List.map cGNode r19.1.Nodes)] 25),(3,.row [.isl false (List.map cGNode r9.1.Nodes)] 25)],10⟩) (want1 rfl rfl rfl h33) (q1z und23 inf43 rfl rfl rfl rfl rfl rfl rfl) rfl rfl ?_))
 refine RD.fcall (u:=.agg [.isl false (List.map cGNode r40.Nodes)]) (args:=[.sl 9 0 3 3]) (σ1:=⟨[(7,.row [.isl false (List.map cGNode r19.1.Nodes)] 25),(3,.row [.isl false (List.map cGNode r9.1.Nodes)] 25)],10⟩) (want1 rfl rfl rfl h33) (q01 rfl rfl fn32 hb32 rfl rfl) (Gh.fz (tm':=[.isl false (List.map cGNode ([r34,r36,r38]))]) (h':=[(7,.row [.isl false (List.map cGNode r19.1.Nodes)] 25),(3,.row [.isl false (List.map cGNode r9.1.Nodes)] 25)]) 9 (.row [.int .i64 r34.Typex,.isl false (List.map cGArc r34.Arcs),.int .i64 r36.Typex,.isl false (List.map cGArc r36.Arcs),.int .i64 r38.Typex,.isl false (List.map cGArc r38.Arcs)] 43) 2 rfl (by simp) (by simp only [oneU,q07,q03,q0h,q09,q0k,q0d,q0c,q0b,q0a,q08,q0i,q0j,q0g,q0l,q1i,junkT,q1u,q1x,Nat.reduceLeDiff,Nat.reduceMul,List.length_cons,List.length_nil,Nat.reduceAdd]<;>simp only [chunks,List.take,List.drop,List.map,cGNode]) (by simp only [fzH,fzB,ug,Nat.beq,cond_true,cond_false,oneU,q07,q03,q0h,q09,q0k,q0d,q0c,q0b,q0a,q08,q0i,q0j,q0g,q0l,q1i,junkT,q1u,q1x,Nat.reduceLeDiff,Nat.reduceMul,List.length_cons,List.length_nil,Nat.reduceAdd]<;>simp only [chunks,List.take,List.drop,List.map,cGNode])) (Nat.le_of_ble_eq_true rfl) (q1g n ([r34,r36,r38]) r40 h41 _) rfl rfl ?_
 refine RD.free (u:=.bool r42) (args:=[.agg [.isl false (List.map cGNode r19.1.Nodes)],.agg [.isl false (List.map cGNode r40.Nodes)]]) (want1 rfl rfl rfl h33) (q01 rfl rfl fn14 hb14 rfl rfl) (fun s=>q1s n (GFS.mk r19.1.Nodes) r40 r42 h43 s) rfl rfl (RD.look (u:=.bool (!r42)) (want1 rfl rfl rfl h33) (q8j rfl rfl rfl rfl) rfl rfl (RD.q (u:=.bool (!r42)) rfl (q0m rfl h33 rfl) ?_))
 refine RD.done ⟨by kernel_rfl,⟨q12 und25 rfl (q02 inf25) rfl rfl rfl,⟨q12 und25 rfl (q02 inf25) rfl rfl rfl,⟨q12 und25 rfl (q02 inf25) rfl rfl rfl,⟨q12 und25 rfl (q02 inf25) rfl rfl rfl,trivial⟩⟩⟩⟩,?_⟩
 refine st ?_
 exact ⟨_,_,⟨rfl,rfl⟩,(Nat.zero_le _),Gh.toC (n1:=8) ⟨rfl,rfl,trivial⟩ rfl (Nat.zero_le _) (by simp)⟩
theorem q71 (n:Nat)  (r:Bool) (hF:q2o n  = some r) (σ:Sg):EvU Try.prog 16 [] σ (fun u σ'=>u = .bool r∧σ'=σ) :=
 EvU.pure1C (q7s n  r hF) σ
end Go.Proofs
end
