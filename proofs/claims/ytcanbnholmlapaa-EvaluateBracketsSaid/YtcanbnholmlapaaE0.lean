import Derived.Test.YtcanbnholmlapaaVxV
import Derived.Test.YtcanbnholmlapaaSrtA
namespace Go.Proofs
open Go Go.Rx Go.Vx Go.Shelf
/-- math/bits.Len, as far as it is asked -/
def math_bits_Len (n : Nat) (x : Int) : Option Int := cond (x == 0) (some 0) none
theorem math_bits_Len_ok (n : Nat) (p1 : Int) (r : Int) (hF : math_bits_Len n p1 = some r) (σ : Sg) : EvU Try.prog 45 [.int .u64 p1] σ (fun u σ' => u = .int .i64 r ∧ σ' = σ) := by
  unfold math_bits_Len at hF
  cases hp : (p1 == 0) with
  | false => rw [hp] at hF; cases hF
  | true =>
    rw [hp] at hF
    simp at hF hp
    subst hF; subst hp
    refine EvU.of_same (vs := [.int .u64 0]) (cv := .int .i64 0) rfl (fun m => by simp [renL, ren]) rfl (fun m => by simp [ren]) (fun w => ?_) σ
    have h := Any.bits_Len (SlLaysF0.n15.bits (P := Try.prog) (ρ := Try.sortB_ren) { Try.sortB with }) 0 w (by omega) (by omega)
    exact h
end Go.Proofs
