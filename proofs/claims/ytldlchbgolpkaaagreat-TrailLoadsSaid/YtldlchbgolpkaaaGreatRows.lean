/-
  No cell of these rows narrows 'for every input' (looked for: loops, veiled, ifaces, maps, wideKeys, modest, calm, conditions, laid).
  DERIVED. THE GIVEN ROWS OF THIS SEAT. 6 by the template 'for every input the law returns true; each argument reads behind the call as it read before'; 0 by the template 'total and deterministic' (their statements: YtldlchbgolpkaaaGreatTotals.lean).
  GIVEN WITH THE SEED: the statements are not yours to turn. If you find one false, say at which input.
  Laid BY PROGRAM, IN A SANDBOX (cutbox-rows.mjs): the forced cells as the released guide's own fill.sh prints them over the translation 879cd749c42ad2a0… (all of the seat's roots in one cut). By AI agents, Wed Nov 11 2026. No macro, syntax, notation, axiom, sorry.
-/
import Derived.Test.YtldlchbgolpkaaaGreatChecked
import GoSem.Claim
import GoSem.ClaimJoined
import GoSem.ClaimMapViews
import Derived.JoinedTies
import Derived.KernelRfl
namespace Go.Proofs.YtldlchbgolpkaaaGreat
/- THE CELL 'sum', in the pinned program and in every row, IS THE sha256 OF THE DUMP (.gsa) THAT YtldlchbgolpkaaaGreatProg.lean LOADS. Nothing in Lean hashes anything: it is a label: what it is worth is what the hold of that sum in a sandbox is worth. -/
noncomputable def Tryz.pinned : Pinned := { name := "ytldlchbgolpkaaagreat", sum := "879cd749c42ad2a03d1c9a9dccff5580e728517e8a8c2b4469886cc0f8c41669", checked := Tryz.checked }
namespace Rows
def none {H : Type} : Left H := { results := [], args := [] }

/-- 'grammarlablaw12.TrailPlays': WHATEVER THE INPUT: true; the input reads as it did. -/
def trailPlaysSpec : ChangeSpec := { name := "trailPlays", fn := fun _ => fun
  | [d1, d2] => { results := [.lit (.bool true)], args := [d1, d2] }
  | _ => none }
def trailPlaysRow : OpenClaim := { program := "ytldlchbgolpkaaagreat", sum := "879cd749c42ad2a03d1c9a9dccff5580e728517e8a8c2b4469886cc0f8c41669", func := "grammarlab/grammarlablaw12.TrailPlays", spec := "trailPlays", inPlace := ["slices.overlaps[grammarlab/api.Arc]"], unfollowed := true, recurses := true, apart := false }
def TrailPlaysSaid : Prop := trailPlaysRow.holds Tryz.pinned (OpenSpec.ofChange trailPlaysSpec)

/-- ITS FALSE NEIGHBOUR: 'it returns false'. Refute it at one input. -/
def trailPlaysWrong : ChangeSpec := { name := "trailPlays", fn := fun _ => fun
  | [d1, d2] => { results := [.lit (.bool false)], args := [d1, d2] }
  | _ => none }
def TrailPlaysWrongFalsely : Prop := trailPlaysRow.holds Tryz.pinned (OpenSpec.ofChange trailPlaysWrong)

/-- 'grammarlablaw12.TrailUndoes': WHATEVER THE INPUT: true; the input reads as it did. -/
def trailUndoesSpec : ChangeSpec := { name := "trailUndoes", fn := fun _ => fun
  | [d1, d2, d3] => { results := [.lit (.bool true)], args := [d1, d2, d3] }
  | _ => none }
def trailUndoesRow : OpenClaim := { program := "ytldlchbgolpkaaagreat", sum := "879cd749c42ad2a03d1c9a9dccff5580e728517e8a8c2b4469886cc0f8c41669", func := "grammarlab/grammarlablaw12.TrailUndoes", spec := "trailUndoes", inPlace := ["slices.overlaps[grammarlab/api.Arc]"], unfollowed := true, recurses := true, apart := false }
def TrailUndoesSaid : Prop := trailUndoesRow.holds Tryz.pinned (OpenSpec.ofChange trailUndoesSpec)

/-- ITS FALSE NEIGHBOUR: 'it returns false'. Refute it at one input. -/
def trailUndoesWrong : ChangeSpec := { name := "trailUndoes", fn := fun _ => fun
  | [d1, d2, d3] => { results := [.lit (.bool false)], args := [d1, d2, d3] }
  | _ => none }
def TrailUndoesWrongFalsely : Prop := trailUndoesRow.holds Tryz.pinned (OpenSpec.ofChange trailUndoesWrong)

/-- 'grammarlablaw12.TrailGrows': WHATEVER THE INPUT: true; the input reads as it did. -/
def trailGrowsSpec : ChangeSpec := { name := "trailGrows", fn := fun _ => fun
  | [d1, d2, d3] => { results := [.lit (.bool true)], args := [d1, d2, d3] }
  | _ => none }
def trailGrowsRow : OpenClaim := { program := "ytldlchbgolpkaaagreat", sum := "879cd749c42ad2a03d1c9a9dccff5580e728517e8a8c2b4469886cc0f8c41669", func := "grammarlab/grammarlablaw12.TrailGrows", spec := "trailGrows", inPlace := ["slices.overlaps[grammarlab/api.Arc]"], unfollowed := true, recurses := true, apart := false }
def TrailGrowsSaid : Prop := trailGrowsRow.holds Tryz.pinned (OpenSpec.ofChange trailGrowsSpec)

/-- ITS FALSE NEIGHBOUR: 'it returns false'. Refute it at one input. -/
def trailGrowsWrong : ChangeSpec := { name := "trailGrows", fn := fun _ => fun
  | [d1, d2, d3] => { results := [.lit (.bool false)], args := [d1, d2, d3] }
  | _ => none }
def TrailGrowsWrongFalsely : Prop := trailGrowsRow.holds Tryz.pinned (OpenSpec.ofChange trailGrowsWrong)

/-- 'grammarlablaw12.TrailUnifies': WHATEVER THE INPUT: true; the input reads as it did. -/
def trailUnifiesSpec : ChangeSpec := { name := "trailUnifies", fn := fun _ => fun
  | [d1, d2, d3] => { results := [.lit (.bool true)], args := [d1, d2, d3] }
  | _ => none }
def trailUnifiesRow : OpenClaim := { program := "ytldlchbgolpkaaagreat", sum := "879cd749c42ad2a03d1c9a9dccff5580e728517e8a8c2b4469886cc0f8c41669", func := "grammarlab/grammarlablaw12.TrailUnifies", spec := "trailUnifies", inPlace := ["slices.overlaps[grammarlab/api.Arc]"], unfollowed := true, recurses := true, apart := false }
def TrailUnifiesSaid : Prop := trailUnifiesRow.holds Tryz.pinned (OpenSpec.ofChange trailUnifiesSpec)

/-- ITS FALSE NEIGHBOUR: 'it returns false'. Refute it at one input. -/
def trailUnifiesWrong : ChangeSpec := { name := "trailUnifies", fn := fun _ => fun
  | [d1, d2, d3] => { results := [.lit (.bool false)], args := [d1, d2, d3] }
  | _ => none }
def TrailUnifiesWrongFalsely : Prop := trailUnifiesRow.holds Tryz.pinned (OpenSpec.ofChange trailUnifiesWrong)

/-- 'grammarlablaw12.TrailOrders': WHATEVER THE INPUT: true; the input reads as it did. -/
def trailOrdersSpec : ChangeSpec := { name := "trailOrders", fn := fun _ => fun
  | [d1, d2] => { results := [.lit (.bool true)], args := [d1, d2] }
  | _ => none }
def trailOrdersRow : OpenClaim := { program := "ytldlchbgolpkaaagreat", sum := "879cd749c42ad2a03d1c9a9dccff5580e728517e8a8c2b4469886cc0f8c41669", func := "grammarlab/grammarlablaw12.TrailOrders", spec := "trailOrders", inPlace := ["slices.overlaps[grammarlab/api.Arc]"], unfollowed := true, recurses := true, apart := false }
def TrailOrdersSaid : Prop := trailOrdersRow.holds Tryz.pinned (OpenSpec.ofChange trailOrdersSpec)

/-- ITS FALSE NEIGHBOUR: 'it returns false'. Refute it at one input. -/
def trailOrdersWrong : ChangeSpec := { name := "trailOrders", fn := fun _ => fun
  | [d1, d2] => { results := [.lit (.bool false)], args := [d1, d2] }
  | _ => none }
def TrailOrdersWrongFalsely : Prop := trailOrdersRow.holds Tryz.pinned (OpenSpec.ofChange trailOrdersWrong)

/-- 'grammarlablaw12.TrailLoads': WHATEVER THE INPUT: true; the input reads as it did. -/
def trailLoadsSpec : ChangeSpec := { name := "trailLoads", fn := fun _ => fun
  | [d1, d2, d3] => { results := [.lit (.bool true)], args := [d1, d2, d3] }
  | _ => none }
def trailLoadsRow : OpenClaim := { program := "ytldlchbgolpkaaagreat", sum := "879cd749c42ad2a03d1c9a9dccff5580e728517e8a8c2b4469886cc0f8c41669", func := "grammarlab/grammarlablaw12.TrailLoads", spec := "trailLoads", inPlace := ["slices.overlaps[grammarlab/api.Arc]"], unfollowed := true, recurses := true, apart := false }
def TrailLoadsSaid : Prop := trailLoadsRow.holds Tryz.pinned (OpenSpec.ofChange trailLoadsSpec)

/-- ITS FALSE NEIGHBOUR: 'it returns false'. Refute it at one input. -/
def trailLoadsWrong : ChangeSpec := { name := "trailLoads", fn := fun _ => fun
  | [d1, d2, d3] => { results := [.lit (.bool false)], args := [d1, d2, d3] }
  | _ => none }
def TrailLoadsWrongFalsely : Prop := trailLoadsRow.holds Tryz.pinned (OpenSpec.ofChange trailLoadsWrong)

/- THE SECOND FORM. 'bulk': how many values and letters a reading holds, each counted each time it is reached (what is shared counts as often as it is met; a slice's spare places count too). A statement '..UptoSaid' is the law's where the arguments, and the package variables that the reading takes, are together of bulk at most 1048576: NARROWER than '..Said'. Prove '..Said' where nothing that the law and all that it calls make is longer than what came in: it says more and counts as full. Else prove '..UptoSaid'. A law counts once. -/
mutual
def uptoBulk {H : Type} : DataW H → Nat
  | .lit (.string bytes) => bytes.length + 1
  | .lit _ => 1
  | .nil => 1
  | .ptr d => uptoBulk d + 1
  | .slice elems spare => uptoBulkAll elems + uptoBulkAll spare + 1
  | .agg parts => uptoBulkAll parts + 1
  | .iface _ d => uptoBulk d + 1
  | .map entries => uptoBulkEntries entries + 1
  | .held _ => 1
def uptoBulkAll {H : Type} : List (DataW H) → Nat
  | [] => 0
  | d :: r => uptoBulk d + uptoBulkAll r
def uptoBulkEntries {H : Type} : List (Lit × DataW H) → Nat
  | [] => 0
  | x :: r => uptoBulkEntry x + uptoBulkEntries r
def uptoBulkEntry {H : Type} : Lit × DataW H → Nat
  | (.string bytes, d) => bytes.length + uptoBulk d + 1
  | (_, d) => uptoBulk d + 1
 end
def uptoSmall : (H : Type) → List (DataW H) → Bool := fun _ ds => decide (uptoBulkAll ds ≤ 1048576)
def OpenSpec.upto (s : _root_.Go.ChangeSpec) : _root_.Go.OpenSpec := { _root_.Go.OpenSpec.ofChange s with cond := some uptoSmall }

/-- 'grammarlablaw12.TrailPlays', WHERE WHAT IT READS IS OF BULK AT MOST 1048576: true; the input reads as it did. -/
def trailPlaysUptoRow : OpenClaim := { program := "ytldlchbgolpkaaagreat", sum := "879cd749c42ad2a03d1c9a9dccff5580e728517e8a8c2b4469886cc0f8c41669", func := "grammarlab/grammarlablaw12.TrailPlays", spec := "trailPlays", inPlace := ["slices.overlaps[grammarlab/api.Arc]"], unfollowed := true, recurses := true, apart := false, narrowed := true }
def TrailPlaysUptoSaid : Prop := trailPlaysUptoRow.holds Tryz.pinned (OpenSpec.upto trailPlaysSpec)

/-- 'grammarlablaw12.TrailUndoes', WHERE WHAT IT READS IS OF BULK AT MOST 1048576: true; the input reads as it did. -/
def trailUndoesUptoRow : OpenClaim := { program := "ytldlchbgolpkaaagreat", sum := "879cd749c42ad2a03d1c9a9dccff5580e728517e8a8c2b4469886cc0f8c41669", func := "grammarlab/grammarlablaw12.TrailUndoes", spec := "trailUndoes", inPlace := ["slices.overlaps[grammarlab/api.Arc]"], unfollowed := true, recurses := true, apart := false, narrowed := true }
def TrailUndoesUptoSaid : Prop := trailUndoesUptoRow.holds Tryz.pinned (OpenSpec.upto trailUndoesSpec)

/-- 'grammarlablaw12.TrailGrows', WHERE WHAT IT READS IS OF BULK AT MOST 1048576: true; the input reads as it did. -/
def trailGrowsUptoRow : OpenClaim := { program := "ytldlchbgolpkaaagreat", sum := "879cd749c42ad2a03d1c9a9dccff5580e728517e8a8c2b4469886cc0f8c41669", func := "grammarlab/grammarlablaw12.TrailGrows", spec := "trailGrows", inPlace := ["slices.overlaps[grammarlab/api.Arc]"], unfollowed := true, recurses := true, apart := false, narrowed := true }
def TrailGrowsUptoSaid : Prop := trailGrowsUptoRow.holds Tryz.pinned (OpenSpec.upto trailGrowsSpec)

/-- 'grammarlablaw12.TrailUnifies', WHERE WHAT IT READS IS OF BULK AT MOST 1048576: true; the input reads as it did. -/
def trailUnifiesUptoRow : OpenClaim := { program := "ytldlchbgolpkaaagreat", sum := "879cd749c42ad2a03d1c9a9dccff5580e728517e8a8c2b4469886cc0f8c41669", func := "grammarlab/grammarlablaw12.TrailUnifies", spec := "trailUnifies", inPlace := ["slices.overlaps[grammarlab/api.Arc]"], unfollowed := true, recurses := true, apart := false, narrowed := true }
def TrailUnifiesUptoSaid : Prop := trailUnifiesUptoRow.holds Tryz.pinned (OpenSpec.upto trailUnifiesSpec)

/-- 'grammarlablaw12.TrailOrders', WHERE WHAT IT READS IS OF BULK AT MOST 1048576: true; the input reads as it did. -/
def trailOrdersUptoRow : OpenClaim := { program := "ytldlchbgolpkaaagreat", sum := "879cd749c42ad2a03d1c9a9dccff5580e728517e8a8c2b4469886cc0f8c41669", func := "grammarlab/grammarlablaw12.TrailOrders", spec := "trailOrders", inPlace := ["slices.overlaps[grammarlab/api.Arc]"], unfollowed := true, recurses := true, apart := false, narrowed := true }
def TrailOrdersUptoSaid : Prop := trailOrdersUptoRow.holds Tryz.pinned (OpenSpec.upto trailOrdersSpec)

/-- 'grammarlablaw12.TrailLoads', WHERE WHAT IT READS IS OF BULK AT MOST 1048576: true; the input reads as it did. -/
def trailLoadsUptoRow : OpenClaim := { program := "ytldlchbgolpkaaagreat", sum := "879cd749c42ad2a03d1c9a9dccff5580e728517e8a8c2b4469886cc0f8c41669", func := "grammarlab/grammarlablaw12.TrailLoads", spec := "trailLoads", inPlace := ["slices.overlaps[grammarlab/api.Arc]"], unfollowed := true, recurses := true, apart := false, narrowed := true }
def TrailLoadsUptoSaid : Prop := trailLoadsUptoRow.holds Tryz.pinned (OpenSpec.upto trailLoadsSpec)

end Rows
end Go.Proofs.YtldlchbgolpkaaaGreat
