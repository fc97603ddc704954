import Derived.Test.YtcanbnholmlapaaTabA
import Derived.Test.YtcanbnholmlapaaProg
namespace Go.Proofs
open Go Go.Rx
set_option maxRecDepth 1000000
theorem Try.run11 : (callX Try.tb 100000 60 11 [] ⟨[], 0⟩).map (·.1) = some (.bool true) := by kernel_rfl
theorem Try.example_ok (w : World) : Calls Try.prog 11 #[] w fun e w' => e = .returned (.bool true) ∧ RowKit.Below w.heap.size w w' ∧ w.drawn ≤ w'.drawn := by
  have h := Try.run11
  cases hc : callX Try.tb 100000 60 11 [] ⟨[], 0⟩ with
  | none => rw [hc] at h; cases h
  | some q =>
    obtain ⟨v, s⟩ := q
    rw [hc] at h
    simp only [Option.map_some, Option.some.injEq] at h
    subst h
    exact call_closed Try.tb_ok hc (fun _ => by simp [renL]) (fun _ => by simp [ren]) w
end Go.Proofs
