/-
  exampleHolds as a plain function: it says yes, in every world.
-/
import Derived.Test.YtcanbnholmlapaaE3
import Derived.Test.YtcanbnholmlapaaExA
namespace Go.Proofs
open Go Go.Rx Go.Vx
def law50_exampleHolds (n : Nat) : Option Bool := some true
theorem law50_exampleHolds_ok (n : Nat) (r : Bool) (hF : law50_exampleHolds n = some r) (σ : Sg) : EvU Try.prog 11 [] σ (fun u σ' => u = .bool r ∧ σ' = σ) := by
  cases hF
  exact EvU.of_closed Try.example_ok (fun x => by simp [Rel]) (fun m => by simp [ren]) σ
end Go.Proofs
