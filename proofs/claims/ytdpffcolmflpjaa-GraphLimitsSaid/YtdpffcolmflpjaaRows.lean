/-
  No cell of these rows narrows 'for every input' (looked for: loops, veiled, ifaces, maps, wideKeys, modest, calm, conditions, laid).
  DERIVED. THE GIVEN ROWS OF THIS SEAT. 9 by the template 'for every input the law returns true; each argument reads behind the call as it read before'; 0 by the template 'total and deterministic' (their statements: YtdpffcolmflpjaaTotals.lean).
  GIVEN WITH THE SEED: the statements are not yours to turn. If you find one false, say at which input.
  Laid BY PROGRAM, IN A SANDBOX (cutbox-rows.mjs): the forced cells as the released guide's own fill.sh prints them over the translation 42bd6785bd507569… (all of the seat's roots in one cut). By AI agents, Wed Nov 11 2026. No macro, syntax, notation, axiom, sorry.
-/
import Derived.Test.YtdpffcolmflpjaaChecked
import GoSem.Claim
import GoSem.ClaimJoined
import GoSem.ClaimMapViews
import Derived.JoinedTies
import Derived.KernelRfl
namespace Go.Proofs.Ytdpffcolmflpjaa
/- THE CELL 'sum', in the pinned program and in every row, IS THE sha256 OF THE DUMP (.gsa) THAT YtdpffcolmflpjaaProg.lean LOADS. Nothing in Lean hashes anything: it is a label: what it is worth is what the hold of that sum in a sandbox is worth. -/
noncomputable def Try.pinned : Pinned := { name := "ytdpffcolmflpjaa", sum := "42bd6785bd507569ce43f54b0c52a1281e91c4b5128c05803f06b02faea3760a", checked := Try.checked }
namespace Rows
def none {H : Type} : Left H := { results := [], args := [] }

/-- 'grammarlablaw07.GraphAtoms': WHATEVER THE INPUT: true; the input reads as it did. -/
def graphAtomsSpec : ChangeSpec := { name := "graphAtoms", fn := fun _ => fun
  | [d] => { results := [.lit (.bool true)], args := [d] }
  | _ => none }
def graphAtomsRow : OpenClaim := { program := "ytdpffcolmflpjaa", sum := "42bd6785bd507569ce43f54b0c52a1281e91c4b5128c05803f06b02faea3760a", func := "grammarlab/grammarlablaw07.GraphAtoms", spec := "graphAtoms", unfollowed := true, recurses := true, apart := false }
def GraphAtomsSaid : Prop := graphAtomsRow.holds Try.pinned (OpenSpec.ofChange graphAtomsSpec)

/-- ITS FALSE NEIGHBOUR: 'it returns false'. Refute it at one input. -/
def graphAtomsWrong : ChangeSpec := { name := "graphAtoms", fn := fun _ => fun
  | [d] => { results := [.lit (.bool false)], args := [d] }
  | _ => none }
def GraphAtomsWrongFalsely : Prop := graphAtomsRow.holds Try.pinned (OpenSpec.ofChange graphAtomsWrong)

/-- 'grammarlablaw07.GraphCanons': WHATEVER THE INPUT: true; the input reads as it did. -/
def graphCanonsSpec : ChangeSpec := { name := "graphCanons", fn := fun _ => fun
  | [d] => { results := [.lit (.bool true)], args := [d] }
  | _ => none }
def graphCanonsRow : OpenClaim := { program := "ytdpffcolmflpjaa", sum := "42bd6785bd507569ce43f54b0c52a1281e91c4b5128c05803f06b02faea3760a", func := "grammarlab/grammarlablaw07.GraphCanons", spec := "graphCanons", unfollowed := true, recurses := true, apart := false }
def GraphCanonsSaid : Prop := graphCanonsRow.holds Try.pinned (OpenSpec.ofChange graphCanonsSpec)

/-- ITS FALSE NEIGHBOUR: 'it returns false'. Refute it at one input. -/
def graphCanonsWrong : ChangeSpec := { name := "graphCanons", fn := fun _ => fun
  | [d] => { results := [.lit (.bool false)], args := [d] }
  | _ => none }
def GraphCanonsWrongFalsely : Prop := graphCanonsRow.holds Try.pinned (OpenSpec.ofChange graphCanonsWrong)

/-- 'grammarlablaw07.GraphSubs': WHATEVER THE INPUT: true; the input reads as it did. -/
def graphSubsSpec : ChangeSpec := { name := "graphSubs", fn := fun _ => fun
  | [d] => { results := [.lit (.bool true)], args := [d] }
  | _ => none }
def graphSubsRow : OpenClaim := { program := "ytdpffcolmflpjaa", sum := "42bd6785bd507569ce43f54b0c52a1281e91c4b5128c05803f06b02faea3760a", func := "grammarlab/grammarlablaw07.GraphSubs", spec := "graphSubs", unfollowed := true, recurses := true, apart := false }
def GraphSubsSaid : Prop := graphSubsRow.holds Try.pinned (OpenSpec.ofChange graphSubsSpec)

/-- ITS FALSE NEIGHBOUR: 'it returns false'. Refute it at one input. -/
def graphSubsWrong : ChangeSpec := { name := "graphSubs", fn := fun _ => fun
  | [d] => { results := [.lit (.bool false)], args := [d] }
  | _ => none }
def GraphSubsWrongFalsely : Prop := graphSubsRow.holds Try.pinned (OpenSpec.ofChange graphSubsWrong)

/-- 'grammarlablaw07.GraphCompares': WHATEVER THE INPUT: true; the input reads as it did. -/
def graphComparesSpec : ChangeSpec := { name := "graphCompares", fn := fun _ => fun
  | [d1, d2] => { results := [.lit (.bool true)], args := [d1, d2] }
  | _ => none }
def graphComparesRow : OpenClaim := { program := "ytdpffcolmflpjaa", sum := "42bd6785bd507569ce43f54b0c52a1281e91c4b5128c05803f06b02faea3760a", func := "grammarlab/grammarlablaw07.GraphCompares", spec := "graphCompares", unfollowed := true, recurses := true, apart := false }
def GraphComparesSaid : Prop := graphComparesRow.holds Try.pinned (OpenSpec.ofChange graphComparesSpec)

/-- ITS FALSE NEIGHBOUR: 'it returns false'. Refute it at one input. -/
def graphComparesWrong : ChangeSpec := { name := "graphCompares", fn := fun _ => fun
  | [d1, d2] => { results := [.lit (.bool false)], args := [d1, d2] }
  | _ => none }
def GraphComparesWrongFalsely : Prop := graphComparesRow.holds Try.pinned (OpenSpec.ofChange graphComparesWrong)

/-- 'grammarlablaw07.GraphOrders': WHATEVER THE INPUT: true; the input reads as it did. -/
def graphOrdersSpec : ChangeSpec := { name := "graphOrders", fn := fun _ => fun
  | [d1, d2, d3] => { results := [.lit (.bool true)], args := [d1, d2, d3] }
  | _ => none }
def graphOrdersRow : OpenClaim := { program := "ytdpffcolmflpjaa", sum := "42bd6785bd507569ce43f54b0c52a1281e91c4b5128c05803f06b02faea3760a", func := "grammarlab/grammarlablaw07.GraphOrders", spec := "graphOrders", unfollowed := true, recurses := true, apart := false }
def GraphOrdersSaid : Prop := graphOrdersRow.holds Try.pinned (OpenSpec.ofChange graphOrdersSpec)

/-- ITS FALSE NEIGHBOUR: 'it returns false'. Refute it at one input. -/
def graphOrdersWrong : ChangeSpec := { name := "graphOrders", fn := fun _ => fun
  | [d1, d2, d3] => { results := [.lit (.bool false)], args := [d1, d2, d3] }
  | _ => none }
def GraphOrdersWrongFalsely : Prop := graphOrdersRow.holds Try.pinned (OpenSpec.ofChange graphOrdersWrong)

/-- 'grammarlablaw07.GraphTurns': WHATEVER THE INPUT: true; the input reads as it did. -/
def graphTurnsSpec : ChangeSpec := { name := "graphTurns", fn := fun _ => fun
  | [d1, d2] => { results := [.lit (.bool true)], args := [d1, d2] }
  | _ => none }
def graphTurnsRow : OpenClaim := { program := "ytdpffcolmflpjaa", sum := "42bd6785bd507569ce43f54b0c52a1281e91c4b5128c05803f06b02faea3760a", func := "grammarlab/grammarlablaw07.GraphTurns", spec := "graphTurns", unfollowed := true, recurses := true, apart := false }
def GraphTurnsSaid : Prop := graphTurnsRow.holds Try.pinned (OpenSpec.ofChange graphTurnsSpec)

/-- ITS FALSE NEIGHBOUR: 'it returns false'. Refute it at one input. -/
def graphTurnsWrong : ChangeSpec := { name := "graphTurns", fn := fun _ => fun
  | [d1, d2] => { results := [.lit (.bool false)], args := [d1, d2] }
  | _ => none }
def GraphTurnsWrongFalsely : Prop := graphTurnsRow.holds Try.pinned (OpenSpec.ofChange graphTurnsWrong)

/-- 'grammarlablaw07.GraphCanon': WHATEVER THE INPUT: true; the input reads as it did. -/
def graphCanonSpec : ChangeSpec := { name := "graphCanon", fn := fun _ => fun
  | [d1, d2] => { results := [.lit (.bool true)], args := [d1, d2] }
  | _ => none }
def graphCanonRow : OpenClaim := { program := "ytdpffcolmflpjaa", sum := "42bd6785bd507569ce43f54b0c52a1281e91c4b5128c05803f06b02faea3760a", func := "grammarlab/grammarlablaw07.GraphCanon", spec := "graphCanon", unfollowed := true, recurses := true, apart := false }
def GraphCanonSaid : Prop := graphCanonRow.holds Try.pinned (OpenSpec.ofChange graphCanonSpec)

/-- ITS FALSE NEIGHBOUR: 'it returns false'. Refute it at one input. -/
def graphCanonWrong : ChangeSpec := { name := "graphCanon", fn := fun _ => fun
  | [d1, d2] => { results := [.lit (.bool false)], args := [d1, d2] }
  | _ => none }
def GraphCanonWrongFalsely : Prop := graphCanonRow.holds Try.pinned (OpenSpec.ofChange graphCanonWrong)

/-- 'grammarlablaw07.GraphParents': WHATEVER THE INPUT: true; the input reads as it did. -/
def graphParentsSpec : ChangeSpec := { name := "graphParents", fn := fun _ => fun
  | [d] => { results := [.lit (.bool true)], args := [d] }
  | _ => none }
def graphParentsRow : OpenClaim := { program := "ytdpffcolmflpjaa", sum := "42bd6785bd507569ce43f54b0c52a1281e91c4b5128c05803f06b02faea3760a", func := "grammarlab/grammarlablaw07.GraphParents", spec := "graphParents", unfollowed := true, recurses := true, apart := false }
def GraphParentsSaid : Prop := graphParentsRow.holds Try.pinned (OpenSpec.ofChange graphParentsSpec)

/-- ITS FALSE NEIGHBOUR: 'it returns false'. Refute it at one input. -/
def graphParentsWrong : ChangeSpec := { name := "graphParents", fn := fun _ => fun
  | [d] => { results := [.lit (.bool false)], args := [d] }
  | _ => none }
def GraphParentsWrongFalsely : Prop := graphParentsRow.holds Try.pinned (OpenSpec.ofChange graphParentsWrong)

/-- 'grammarlablaw07.GraphLimits': WHATEVER THE INPUT: true; the input reads as it did. -/
def graphLimitsSpec : ChangeSpec := { name := "graphLimits", fn := fun _ => fun
  | [d] => { results := [.lit (.bool true)], args := [d] }
  | _ => none }
def graphLimitsRow : OpenClaim := { program := "ytdpffcolmflpjaa", sum := "42bd6785bd507569ce43f54b0c52a1281e91c4b5128c05803f06b02faea3760a", func := "grammarlab/grammarlablaw07.GraphLimits", spec := "graphLimits", unfollowed := true, recurses := true, apart := false }
def GraphLimitsSaid : Prop := graphLimitsRow.holds Try.pinned (OpenSpec.ofChange graphLimitsSpec)

/-- ITS FALSE NEIGHBOUR: 'it returns false'. Refute it at one input. -/
def graphLimitsWrong : ChangeSpec := { name := "graphLimits", fn := fun _ => fun
  | [d] => { results := [.lit (.bool false)], args := [d] }
  | _ => none }
def GraphLimitsWrongFalsely : Prop := graphLimitsRow.holds Try.pinned (OpenSpec.ofChange graphLimitsWrong)

/- THE SECOND FORM. 'bulk': how many values and letters a reading holds, each counted each time it is reached (what is shared counts as often as it is met; a slice's spare places count too). A statement '..UptoSaid' is the law's where the arguments, and the package variables that the reading takes, are together of bulk at most 1048576: NARROWER than '..Said'. Prove '..Said' where nothing that the law and all that it calls make is longer than what came in: it says more and counts as full. Else prove '..UptoSaid'. A law counts once. -/
mutual
def uptoBulk {H : Type} : DataW H → Nat
  | .lit (.string bytes) => bytes.length + 1
  | .lit _ => 1
  | .nil => 1
  | .ptr d => uptoBulk d + 1
  | .slice elems spare => uptoBulkAll elems + uptoBulkAll spare + 1
  | .agg parts => uptoBulkAll parts + 1
  | .iface _ d => uptoBulk d + 1
  | .map entries => uptoBulkEntries entries + 1
  | .held _ => 1
def uptoBulkAll {H : Type} : List (DataW H) → Nat
  | [] => 0
  | d :: r => uptoBulk d + uptoBulkAll r
def uptoBulkEntries {H : Type} : List (Lit × DataW H) → Nat
  | [] => 0
  | x :: r => uptoBulkEntry x + uptoBulkEntries r
def uptoBulkEntry {H : Type} : Lit × DataW H → Nat
  | (.string bytes, d) => bytes.length + uptoBulk d + 1
  | (_, d) => uptoBulk d + 1
 end
def uptoSmall : (H : Type) → List (DataW H) → Bool := fun _ ds => decide (uptoBulkAll ds ≤ 1048576)
def OpenSpec.upto (s : _root_.Go.ChangeSpec) : _root_.Go.OpenSpec := { _root_.Go.OpenSpec.ofChange s with cond := some uptoSmall }

/-- 'grammarlablaw07.GraphAtoms', WHERE WHAT IT READS IS OF BULK AT MOST 1048576: true; the input reads as it did. -/
def graphAtomsUptoRow : OpenClaim := { program := "ytdpffcolmflpjaa", sum := "42bd6785bd507569ce43f54b0c52a1281e91c4b5128c05803f06b02faea3760a", func := "grammarlab/grammarlablaw07.GraphAtoms", spec := "graphAtoms", unfollowed := true, recurses := true, apart := false, narrowed := true }
def GraphAtomsUptoSaid : Prop := graphAtomsUptoRow.holds Try.pinned (OpenSpec.upto graphAtomsSpec)

/-- 'grammarlablaw07.GraphCanons', WHERE WHAT IT READS IS OF BULK AT MOST 1048576: true; the input reads as it did. -/
def graphCanonsUptoRow : OpenClaim := { program := "ytdpffcolmflpjaa", sum := "42bd6785bd507569ce43f54b0c52a1281e91c4b5128c05803f06b02faea3760a", func := "grammarlab/grammarlablaw07.GraphCanons", spec := "graphCanons", unfollowed := true, recurses := true, apart := false, narrowed := true }
def GraphCanonsUptoSaid : Prop := graphCanonsUptoRow.holds Try.pinned (OpenSpec.upto graphCanonsSpec)

/-- 'grammarlablaw07.GraphSubs', WHERE WHAT IT READS IS OF BULK AT MOST 1048576: true; the input reads as it did. -/
def graphSubsUptoRow : OpenClaim := { program := "ytdpffcolmflpjaa", sum := "42bd6785bd507569ce43f54b0c52a1281e91c4b5128c05803f06b02faea3760a", func := "grammarlab/grammarlablaw07.GraphSubs", spec := "graphSubs", unfollowed := true, recurses := true, apart := false, narrowed := true }
def GraphSubsUptoSaid : Prop := graphSubsUptoRow.holds Try.pinned (OpenSpec.upto graphSubsSpec)

/-- 'grammarlablaw07.GraphCompares', WHERE WHAT IT READS IS OF BULK AT MOST 1048576: true; the input reads as it did. -/
def graphComparesUptoRow : OpenClaim := { program := "ytdpffcolmflpjaa", sum := "42bd6785bd507569ce43f54b0c52a1281e91c4b5128c05803f06b02faea3760a", func := "grammarlab/grammarlablaw07.GraphCompares", spec := "graphCompares", unfollowed := true, recurses := true, apart := false, narrowed := true }
def GraphComparesUptoSaid : Prop := graphComparesUptoRow.holds Try.pinned (OpenSpec.upto graphComparesSpec)

/-- 'grammarlablaw07.GraphOrders', WHERE WHAT IT READS IS OF BULK AT MOST 1048576: true; the input reads as it did. -/
def graphOrdersUptoRow : OpenClaim := { program := "ytdpffcolmflpjaa", sum := "42bd6785bd507569ce43f54b0c52a1281e91c4b5128c05803f06b02faea3760a", func := "grammarlab/grammarlablaw07.GraphOrders", spec := "graphOrders", unfollowed := true, recurses := true, apart := false, narrowed := true }
def GraphOrdersUptoSaid : Prop := graphOrdersUptoRow.holds Try.pinned (OpenSpec.upto graphOrdersSpec)

/-- 'grammarlablaw07.GraphTurns', WHERE WHAT IT READS IS OF BULK AT MOST 1048576: true; the input reads as it did. -/
def graphTurnsUptoRow : OpenClaim := { program := "ytdpffcolmflpjaa", sum := "42bd6785bd507569ce43f54b0c52a1281e91c4b5128c05803f06b02faea3760a", func := "grammarlab/grammarlablaw07.GraphTurns", spec := "graphTurns", unfollowed := true, recurses := true, apart := false, narrowed := true }
def GraphTurnsUptoSaid : Prop := graphTurnsUptoRow.holds Try.pinned (OpenSpec.upto graphTurnsSpec)

/-- 'grammarlablaw07.GraphCanon', WHERE WHAT IT READS IS OF BULK AT MOST 1048576: true; the input reads as it did. -/
def graphCanonUptoRow : OpenClaim := { program := "ytdpffcolmflpjaa", sum := "42bd6785bd507569ce43f54b0c52a1281e91c4b5128c05803f06b02faea3760a", func := "grammarlab/grammarlablaw07.GraphCanon", spec := "graphCanon", unfollowed := true, recurses := true, apart := false, narrowed := true }
def GraphCanonUptoSaid : Prop := graphCanonUptoRow.holds Try.pinned (OpenSpec.upto graphCanonSpec)

/-- 'grammarlablaw07.GraphParents', WHERE WHAT IT READS IS OF BULK AT MOST 1048576: true; the input reads as it did. -/
def graphParentsUptoRow : OpenClaim := { program := "ytdpffcolmflpjaa", sum := "42bd6785bd507569ce43f54b0c52a1281e91c4b5128c05803f06b02faea3760a", func := "grammarlab/grammarlablaw07.GraphParents", spec := "graphParents", unfollowed := true, recurses := true, apart := false, narrowed := true }
def GraphParentsUptoSaid : Prop := graphParentsUptoRow.holds Try.pinned (OpenSpec.upto graphParentsSpec)

/-- 'grammarlablaw07.GraphLimits', WHERE WHAT IT READS IS OF BULK AT MOST 1048576: true; the input reads as it did. -/
def graphLimitsUptoRow : OpenClaim := { program := "ytdpffcolmflpjaa", sum := "42bd6785bd507569ce43f54b0c52a1281e91c4b5128c05803f06b02faea3760a", func := "grammarlab/grammarlablaw07.GraphLimits", spec := "graphLimits", unfollowed := true, recurses := true, apart := false, narrowed := true }
def GraphLimitsUptoSaid : Prop := graphLimitsUptoRow.holds Try.pinned (OpenSpec.upto graphLimitsSpec)

end Rows
end Go.Proofs.Ytdpffcolmflpjaa
