/-
  Texts of the walk: U2.
-/
import Derived.Test.YtldlchbgolpkaaaGreatP12
set_option linter.unusedSimpArgs false
set_option linter.unusedVariables false
section
namespace Go.Proofs
open Go Go.Rx Go.Vx Tryz
set_option maxRecDepth 20000
def q76 (n:Nat) (p1:Int) (p2:List q0f) (p4:Int) (p5:Int):Option ((List q0f)) :=
 needO ((0:Int)≤p1∧p1≤((p2.length:Nat):Int)) (
 cond (1 == 0)
  (some p2)
  (cond (p1 == (p2.length:Int))
   (needO ((p2.length+1)*16≤140737488355328∧p2.length+1≤140737488355328) (
   some (p2++[(q0f.mk p4 p5)])))
   (none)))
theorem qha (n:Nat) (p1:Int) (p2:List q0f) (p4:Int) (p5:Int) (r:(List q0f)) (hF:q76 n p1 p2 p4 p5=some r):∀ t3:Nat,EvU Tryz.prog 77 [.vl 0 t3 0 p2.length,.int .i64 p1,.sl 1 0 1 1] ⟨[(0,.bv q06 p2 98 2 t3),(1,.row [.int .i64 p4,.int .i64 p5] 98)],2⟩ (fun u σ'=>∃ t:Nat→Nat,u = .vl 0 (t 0) 0 r.length∧σ'=⟨[(0,.bv q06 r 98 2 (t 0)),(1,.row [.int .i64 p4,.int .i64 p5] 98)],2⟩):=by
 unfold q76 at hF
 intro t3
 refine bg3 95 fn77 ?_
 obtain ⟨h6,hF⟩:=q04 hF
 refine go ?_
 refine RS.q (u:=.vl 0 t3 (0+p1.toNat) (p2.length - p1.toNat)) rfl (q2c rfl (qk2 rfl) qaj qaj (qoa q06 un76.h (q0g if98.h) q0z (vo rfl) (Nat.le_of_eq (Nat.zero_add _)) (quh h6.1 h6.2))) ?_
 refine go ?_
 refine RS.q (u:=.i6 1) rfl (qj6 rfl rfl rfl (by simp only [lenU,live,gt,Nat.beq,zC,zD,B.st,un76.h]<;>rfl)) ?_
 refine gF hF (fun h7 hF=>?_) (fun h7 hF=>?_)
 refine go ?_
 obtain rfl:=sI hF
 exact ⟨.inr rfl,[.vl 0 t3 0 p2.length],q2y rfl (q24),.vl 0 t3 0 p2.length,⟨[(0,.bv q06 p2 98 2 t3),(1,.row [.i6 p4,.i6 p5] 98)],2⟩,NL,Gh.to (n1:=2) [] rfl rfl NL NL BUL.h BH.h,stF [t3],rfl,rfl⟩
 refine gF hF (fun h8 hF=>?_) (fun h8 hF=>?_)
 obtain ⟨h9,hF⟩:=q04 hF
 refine go ?_
 refine RS.g ?_
 refine go ?_
 obtain rfl:=sI hF
 exact ⟨.inr rfl,[.vl 0 (t3+1) 0 ((p2++[(q0f.mk p4 p5)]).length)],q2y rfl (q24),.vl 0 (t3+1) 0 ((p2++[(q0f.mk p4 p5)]).length),⟨[(0,.bv q06 (p2++[(q0f.mk p4 p5)]) 98 2 (t3+1)),(1,.row [.i6 p4,.i6 p5] 98)],2⟩,NL,Gh.to (n1:=2) [] rfl rfl NL NL BUL.h BH.h,stF [(t3+1)],rfl,rfl⟩
 refine gn ?_
 cases hF
end Go.Proofs
end
