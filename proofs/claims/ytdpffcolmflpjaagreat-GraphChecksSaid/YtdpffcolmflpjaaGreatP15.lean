/-
  Texts of the walk: H0z H2z H3z.
-/
import Derived.WalkKit
import Derived.Sort.Grow
import Derived.Test.YtdpffcolmflpjaaGreatP14
set_option linter.unusedSimpArgs false
set_option linter.unusedVariables false
section
namespace Go.Proofs
open Go Go.Rx Go.Vx Go.Shelf Go.RowKit Go.Sort
set_option maxRecDepth 100000
def qdo (n:Nat) (x:Int):Option Int:=cond (x == 0) (some 0) none
theorem qj8 (n:Nat) (p1:Int) (r:Int) (hF:qdo n p1=some r) (σ:Sg):EvU Tryz.prog 92 [.int .u64 p1] σ (fun u σ'=>u = .int .i64 r∧σ'=σ):=by
 unfold qdo at hF
 cases hp:(p1 == 0) with
 | false=>rw [hp] at hF; cases hF
 | true =>
  rw [hp] at hF
  simp at hF hp
  subst hF; subst hp
  refine EvU.of_same (vs:=[.int .u64 0]) (cv:=.int .i64 0) rfl (fun m=>by simp [q0r,ren]) rfl (fun m=>by simp [ren]) (fun w=>?_) σ
  have h:=Any.bits_Len (SlLaysF0.n15.bits (P:=Tryz.prog) (ρ:=Tryz.sortJ_ren) { Tryz.sortJ with }) 0 w (by omega) (by omega)
  exact h
theorem z38 (x:Int) (w:World):Calls Tryz.prog 52 #[.int .i64 x] w fun e w'=>e = .returned (.bool false)∧w'=w:=by
 go_enter Tryz.func52,Tryz.ntmps52
 go_wp2
 go_ret
 simp
def cmpV (x y:Int):Int:=if x<y then -1 else if x > y then 1 else 0
theorem cmp_W (x y:Int) (w:World):Calls Tryz.prog 29 #[.int .i64 x,.int .i64 y] w fun e w'=>e = .returned (.int .i64 (cmpV x y))∧w'=w:=by
 go_enter Tryz.func29,Tryz.ntmps29
 go_wp2_with (go_at_call 52; refine (z38 _ _).mono ?_; rintro e w' ⟨rfl,rfl⟩)
 all_goals go_ret
 all_goals (refine ⟨?_,rfl⟩; unfold cmpV; simp_all)
 all_goals (rw [if_neg (by omega),if_neg (by omega)])
theorem byF_W (a b c d:Int) (w:World):Calls Tryz.prog 50 #[.agg #[.int .i64 a,.int .i64 b],.agg #[.int .i64 c,.int .i64 d]] w fun e w'=>e = .returned (.int .i64 (cmpV a c))∧∃ q os,w'=grow (w.drewN q) os:=by
 go_enter Tryz.func50,Tryz.ntmps50
 go_wp2_with (go_at_call 29; refine (cmp_W _ _ _).mono ?_; rintro e w' ⟨rfl,rfl⟩)
 all_goals go_ret
 refine ⟨rfl,0,#[.cells #[.int .i64 a,.int .i64 b] 72,.cells #[.int .i64 c,.int .i64 d] 72],?_⟩
 cases w with
 | mk heap tape drawn os output =>
  have e:∀ A B:Obj,(heap.push A).push B=heap ++ #[A,B]:=fun A B=>by apply Array.ext'; simp
  exact congrArg (fun h=>(⟨h,tape,drawn,os,output⟩:World)) (e _ _)
theorem z2o {n:Nat} {a b:q0m} {r:Int} (h:q1q n a b=some r):r=cmpV a.Feat b.Feat:=by
 have e1:(a.Feat != a.Feat)=false:=by simp
 have e2:(b.Feat != b.Feat)=false:=by simp
 simp only [q1q,q1p,q6q,q04,e1,e2,cond_false] at h
 unfold cmpV
 by_cases h1:a.Feat<b.Feat
 ·simp [h1] at h; simp [h1,h]
 ·by_cases h2:a.Feat > b.Feat
  ·simp [h1,h2] at h; simp [h1,h2,h]
  ·simp [h1,h2] at h; simp [h1,h2,h]
theorem byF_D {n:Nat} {a b:q0m} {r:Int} (h:q1q n a b=some r):z2b Tryz.prog 50 [.agg (q08 a),.agg (q08 b)] r:=by
 rw [z2o h]
 exact z2b.ofW (vs:=[.agg #[.int .i64 a.Feat,.int .i64 a.To],.agg #[.int .i64 b.Feat,.int .i64 b.To]]) rfl (fun m=>by simp [q0r,ren,qoo]) (fun w=>byF_W _ _ _ _ w)
end Go.Proofs
end
section
namespace Go.Proofs
open Go Go.Rx Go.Vx Tryz
set_option maxRecDepth 20000
def q1b   : Option (Unit) :=
 some ()
def q1c  : Nat→Option (Unit)
 | 0=>none
 | m1+1 =>
  q1b
def q1j (f3:q0m→q0m→Option (Int)) (n:Nat)  : Option (Unit) :=
 q1c n
theorem q5k (f3:q0m→q0m→Option (Int)) (hf3:∀ (a0:q0m) (a1:q0m) (r:Int),f3 a0 a1=some r→EvU Tryz.prog 50 [.agg (q08 a0),.agg (q08 a1)] ⟨[],0⟩ (fun u _=>u = .int .i64 r∧Bel 0 u)) (n:Nat)  (r:Unit) (hF:q1j f3 n  = some r):EvU Tryz.prog 94 [.isl false (List.map q08 ([]:List q0m)),.int .i64 0,.int .i64 0,.fn (.func 50) [] []] ⟨[],0⟩ (fun u _=>u = .tup []∧Bel 0 u):=by
 unfold q1j at hF
 have hf3S:∀ (a0:q0m) (a1:q0m) (r:Int),f3 a0 a1=some r→∀ σ,EvU Tryz.prog 50 [.agg (q08 a0),.agg (q08 a1)] σ (fun u σ'=>u = .i6 r∧σ'=σ):=fun a0 a1 r h σ=>z4i (hf3 a0 a1 r h) σ
 refine bg4 53 fn94 ?_
 refine go ?_
 refine gS (l':=[(0,_),(1,_),(2,_),(3,_),(8,_)]) ?_
 refine z44 (fun m tm σ=>q1c m=some r∧tm=fr 53 [(0,.iM q08 ([]:List q0m)),(1,.i6 0),(2,.i6 0),(3,.fn (.func 50) [] []),(8,.i6 1)]∧σ=⟨[],0⟩) (fun tm σ=>q1b=some r∧tm=fr 53 []∧σ=⟨[],0⟩) n ⟨hF,rfl,rfl⟩ ?_ ?_
 rintro _ _ ⟨hF,rfl,rfl⟩
 unfold q1b at hF
 refine go ?_
 obtain rfl:=sI hF
 exact ⟨.inl rfl,[],q3x,.tup [],⟨[],0⟩,Nat.le_refl _,z4j (.tup []) rfl,rfl,BU.h⟩
 rintro (_|m1) _ _ ⟨hF,rfl,rfl⟩
 cases hF
 unfold q1c at hF
 refine go ?_
 refine z4m (t:=false) rfl (fun hc=>by cases hc) (fun _=>?_)
 refine go ?_
 exact xC ⟨hF,rfl,rfl⟩
def q1y (f4:q0m→q0m→Option (Int)) (n:Nat):Nat→Option (Unit)
 | 0=>none
 | m1+1 =>
  q05 (q1j f4 n) fun r2 =>
  some ()
def q2d (f4:q0m→q0m→Option (Int)) (n:Nat) (p1:Int):Option (Unit) :=
 q1y f4 n n
theorem q78 (f4:q0m→q0m→Option (Int)) (hf4:∀ (a0:q0m) (a1:q0m) (r:Int),f4 a0 a1=some r→EvU Tryz.prog 50 [.agg (q08 a0),.agg (q08 a1)] ⟨[],0⟩ (fun u _=>u = .int .i64 r∧Bel 0 u)) (n:Nat) (p1:Int) (r:Unit) (hF:q2d f4 n p1=some r):EvU Tryz.prog 91 [.isl false (List.map q08 ([]:List q0m)),.int .i64 0,.int .i64 0,.int .i64 p1,.fn (.func 50) [] []] ⟨[],0⟩ (fun u _=>u = .tup []∧Bel 0 u):=by
 unfold q2d at hF
 have hf4S:∀ (a0:q0m) (a1:q0m) (r:Int),f4 a0 a1=some r→∀ σ,EvU Tryz.prog 50 [.agg (q08 a0),.agg (q08 a1)] σ (fun u σ'=>u = .i6 r∧σ'=σ):=fun a0 a1 r h σ=>z4i (hf4 a0 a1 r h) σ
 refine bg5 148 fn91 ?_
 refine go ?_
 refine gS (l':=[(0,_),(1,_),(2,_),(3,_),(4,_),(10,_),(11,_)]) ?_
 refine z44 (fun m tm σ=>q1y f4 n m=some r∧tm=fr 148 [(0,.iM q08 ([]:List q0m)),(1,.i6 0),(2,.i6 0),(3,.i6 p1),(4,.fn (.func 50) [] []),(10,.bool true),(11,.bool true)]∧σ=⟨[],0⟩) (fun _ _=>False) n ⟨hF,rfl,rfl⟩ ?_ ?_
 rintro _ _ h; exact h.elim
 rintro (_|m1) _ _ ⟨hF,rfl,rfl⟩
 cases hF
 unfold q1y at hF
 refine go ?_
 refine WPU.block ?_
 refine go ?_
 refine z4m (t:=true) rfl (fun _=>?_) (fun hc=>by cases hc)
 obtain ⟨r2,h3,hF⟩:=q00 hF
 refine go ?_
 refine RS.cl rfl (pC (q5k f4 hf4 n r2 h3) _) fn94 ?_
 refine go ?_
 obtain rfl:=sI hF
 exact ⟨.inr rfl,[],q3x,.tup [],⟨[],0⟩,Nat.le_refl _,z4j (.tup []) rfl,rfl,BU.h⟩
def q5p (f1:q0m→q0m→Option (Int)) (n:Nat)  : Option (Unit) :=
 q05 (qdo n 0) fun r1 =>
 q05 (q2d f1 n r1) fun r3 =>
 some ()
theorem q9h (f1:q0m→q0m→Option (Int)) (hf1:∀ (a0:q0m) (a1:q0m) (r:Int),f1 a0 a1=some r→EvU Tryz.prog 50 [.agg (q08 a0),.agg (q08 a1)] ⟨[],0⟩ (fun u _=>u = .int .i64 r∧Bel 0 u)) (n:Nat)  (r:Unit) (hF:q5p f1 n  = some r):EvU Tryz.prog 79 [.isl false (List.map q08 ([]:List q0m)),.fn (.func 50) [] []] ⟨[],0⟩ (fun u _=>u = .tup []∧Bel 0 u):=by
 unfold q5p at hF
 have hf1S:∀ (a0:q0m) (a1:q0m) (r:Int),f1 a0 a1=some r→∀ σ,EvU Tryz.prog 50 [.agg (q08 a0),.agg (q08 a1)] σ (fun u σ'=>u = .i6 r∧σ'=σ):=fun a0 a1 r h σ=>z4i (hf1 a0 a1 r h) σ
 refine bg2 14 fn79 ?_
 obtain ⟨r1,h2,hF⟩:=q00 hF
 obtain ⟨r3,h4,hF⟩:=q00 hF
 refine go ?_
 refine RS.q (u:=.int .u64 0) rfl (qrf rfl rfl (by simp only [qp2,un3.h,un138.h]<;>rfl) rfl) ?_
 refine RS.cl rfl (qj8 n 0 r1 h2 _) fn92 ?_
 refine go ?_
 refine RS.cl rfl (pC (q78 f1 hf1 n r1 r3 h4) _) fn91 ?_
 refine go ?_
 obtain rfl:=sI hF
 exact ⟨.inl rfl,[],q3x,.tup [],⟨[],0⟩,Nat.le_refl _,z4j (.tup []) rfl,rfl,BU.h⟩
end Go.Proofs
end
section
namespace Go.Proofs
open Go Go.Rx Go.Vx Go.Shelf Go.Sort
set_option maxRecDepth 10000
theorem sortKJ:qv2 Tryz.prog 79 50 2:=fun α _ enc cf hk h1 hO cb blk off cap d w hc hH hb hs =>
 AnyQ.slices_SortFunc Tryz.sortJ 2 Tryz.isAgg72 Tryz.sizeOf72 enc hk h1 cf hO 50 cb blk off cap d w (enters_of Tryz.func50 (by kernel_rfl) rfl) hc hH hb hs
def eqA (a b:q0m):Bool:=a.Feat == b.Feat&&a.To == b.To
theorem eqA_eq (a b:q0m) (h:eqA a b=true):a=b:=by
 cases a; cases b; simpa [eqA] using h
theorem z0i:EvU Tryz.prog 79 [.isl false [],.fn (.func 50) [] []] ⟨[],0⟩ (fun u _=>u = .tup []∧Bel 0 u) :=
 q9h (fun _ _=>none) (fun a0 a1 r h=>by cases h) 1 () rfl
theorem z3u {n:Nat} (_hcmp:∀ a b r,q1q n a b=some r→EvU Tryz.prog 50 [.agg (q08 a),.agg (q08 b)] ⟨[],0⟩ (fun u _=>u = .int .i64 r∧Bel 0 u))
  (xs ys:List q0m) (h:qqi eqA (fun a b=>q1q n a b) xs=some ys) (σ:Sg) {K t:Nat} {e:TypeId} (hK:Nat.blt K σ.nx=true) (hg:gt σ.h K=some (.vec (List.map q08 xs).flatten e 2 t)) :
  EvU Tryz.prog 79 [.vl K t 0 xs.length,.fn (.func 50) [] []] σ (fun u σ'=>u = .tup []∧σ'=⟨ug σ.h K (.vec (List.map q08 ys).flatten e 2 t),σ.nx⟩) :=
 z0g (encU:=q08) (cs:=[]) q1f (by decide) (fun _=>rfl) (fun a=>qgm 0 a) trivial sortKJ eqA_eq z0i (fun a b r h=>byF_D h) xs ys h σ hK hg
end Go.Proofs
end
