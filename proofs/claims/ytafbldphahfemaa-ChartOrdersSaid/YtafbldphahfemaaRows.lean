/-
  NARROWER THAN 'FOR EVERY INPUT', by the rows' own cells (each row's printed sentence says how): ChartAdds: loops · ChartCanons: loops · ChartOnce: loops · ChartOrders: loops · ChartKids: loops.
  DERIVED. THE GIVEN ROWS OF THIS SEAT. 6 by the template 'for every input the law returns true; each argument reads behind the call as it read before'; 0 by the template 'total and deterministic' (their statements: YtafbldphahfemaaTotals.lean).
  GIVEN WITH THE SEED: the statements are not yours to turn. If you find one false, say at which input.
  Laid BY PROGRAM, IN A SANDBOX (cutbox-rows.mjs): the forced cells as the released guide's own fill.sh prints them over the translation 9f9809dd6f4a16bb… (all of the seat's roots in one cut). By AI agents, Wed Nov 11 2026. No macro, syntax, notation, axiom, sorry.
-/
import Derived.Test.YtafbldphahfemaaChecked
import GoSem.Claim
import GoSem.ClaimJoined
import GoSem.ClaimMapViews
import Derived.JoinedTies
import Derived.KernelRfl
namespace Go.Proofs.Ytafbldphahfemaa
/- THE CELL 'sum', in the pinned program and in every row, IS THE sha256 OF THE DUMP (.gsa) THAT YtafbldphahfemaaProg.lean LOADS. Nothing in Lean hashes anything: it is a label: what it is worth is what the hold of that sum in a sandbox is worth. -/
noncomputable def Try.pinned : Pinned := { name := "ytafbldphahfemaa", sum := "9f9809dd6f4a16bb65e98275d6e2b36d7f7d0317f443ba65f78dfca9fbb62fc6", checked := Try.checked }
namespace Rows
def none {H : Type} : Left H := { results := [], args := [] }

/-- 'grammarlablaw32.ChartNew': WHATEVER THE INPUT: true; the input reads as it did. -/
def chartNewSpec : ChangeSpec := { name := "chartNew", fn := fun _ => fun
  | [d] => { results := [.lit (.bool true)], args := [d] }
  | _ => none }
def chartNewRow : OpenClaim := { program := "ytafbldphahfemaa", sum := "9f9809dd6f4a16bb65e98275d6e2b36d7f7d0317f443ba65f78dfca9fbb62fc6", func := "grammarlab/grammarlablaw32.ChartNew", spec := "chartNew", unfollowed := true, recurses := true, apart := false }
def ChartNewSaid : Prop := chartNewRow.holds Try.pinned (OpenSpec.ofChange chartNewSpec)

/-- ITS FALSE NEIGHBOUR: 'it returns false'. Refute it at one input. -/
def chartNewWrong : ChangeSpec := { name := "chartNew", fn := fun _ => fun
  | [d] => { results := [.lit (.bool false)], args := [d] }
  | _ => none }
def ChartNewWrongFalsely : Prop := chartNewRow.holds Try.pinned (OpenSpec.ofChange chartNewWrong)

/-- 'grammarlablaw32.ChartAdds': WHATEVER THE INPUT: true; the input reads as it did. -/
def chartAddsSpec : ChangeSpec := { name := "chartAdds", fn := fun _ => fun
  | [d1, d2, d3] => { results := [.lit (.bool true)], args := [d1, d2, d3] }
  | _ => none }
def chartAddsRow : OpenClaim := { program := "ytafbldphahfemaa", sum := "9f9809dd6f4a16bb65e98275d6e2b36d7f7d0317f443ba65f78dfca9fbb62fc6", func := "grammarlab/grammarlablaw32.ChartAdds", spec := "chartAdds", unfollowed := true, recurses := true, loops := true, apart := false }
def ChartAddsSaid : Prop := chartAddsRow.holds Try.pinned (OpenSpec.ofChange chartAddsSpec)

/-- ITS FALSE NEIGHBOUR: 'it returns false'. Refute it at one input. -/
def chartAddsWrong : ChangeSpec := { name := "chartAdds", fn := fun _ => fun
  | [d1, d2, d3] => { results := [.lit (.bool false)], args := [d1, d2, d3] }
  | _ => none }
def ChartAddsWrongFalsely : Prop := chartAddsRow.holds Try.pinned (OpenSpec.ofChange chartAddsWrong)

/-- 'grammarlablaw32.ChartCanons': WHATEVER THE INPUT: true; the input reads as it did. -/
def chartCanonsSpec : ChangeSpec := { name := "chartCanons", fn := fun _ => fun
  | [d1, d2] => { results := [.lit (.bool true)], args := [d1, d2] }
  | _ => none }
def chartCanonsRow : OpenClaim := { program := "ytafbldphahfemaa", sum := "9f9809dd6f4a16bb65e98275d6e2b36d7f7d0317f443ba65f78dfca9fbb62fc6", func := "grammarlab/grammarlablaw32.ChartCanons", spec := "chartCanons", unfollowed := true, recurses := true, loops := true, apart := false }
def ChartCanonsSaid : Prop := chartCanonsRow.holds Try.pinned (OpenSpec.ofChange chartCanonsSpec)

/-- ITS FALSE NEIGHBOUR: 'it returns false'. Refute it at one input. -/
def chartCanonsWrong : ChangeSpec := { name := "chartCanons", fn := fun _ => fun
  | [d1, d2] => { results := [.lit (.bool false)], args := [d1, d2] }
  | _ => none }
def ChartCanonsWrongFalsely : Prop := chartCanonsRow.holds Try.pinned (OpenSpec.ofChange chartCanonsWrong)

/-- 'grammarlablaw32.ChartOnce': WHATEVER THE INPUT: true; the input reads as it did. -/
def chartOnceSpec : ChangeSpec := { name := "chartOnce", fn := fun _ => fun
  | [d1, d2] => { results := [.lit (.bool true)], args := [d1, d2] }
  | _ => none }
def chartOnceRow : OpenClaim := { program := "ytafbldphahfemaa", sum := "9f9809dd6f4a16bb65e98275d6e2b36d7f7d0317f443ba65f78dfca9fbb62fc6", func := "grammarlab/grammarlablaw32.ChartOnce", spec := "chartOnce", unfollowed := true, recurses := true, loops := true, apart := false }
def ChartOnceSaid : Prop := chartOnceRow.holds Try.pinned (OpenSpec.ofChange chartOnceSpec)

/-- ITS FALSE NEIGHBOUR: 'it returns false'. Refute it at one input. -/
def chartOnceWrong : ChangeSpec := { name := "chartOnce", fn := fun _ => fun
  | [d1, d2] => { results := [.lit (.bool false)], args := [d1, d2] }
  | _ => none }
def ChartOnceWrongFalsely : Prop := chartOnceRow.holds Try.pinned (OpenSpec.ofChange chartOnceWrong)

/-- 'grammarlablaw32.ChartOrders': WHATEVER THE INPUT: true; the input reads as it did. -/
def chartOrdersSpec : ChangeSpec := { name := "chartOrders", fn := fun _ => fun
  | [d1, d2] => { results := [.lit (.bool true)], args := [d1, d2] }
  | _ => none }
def chartOrdersRow : OpenClaim := { program := "ytafbldphahfemaa", sum := "9f9809dd6f4a16bb65e98275d6e2b36d7f7d0317f443ba65f78dfca9fbb62fc6", func := "grammarlab/grammarlablaw32.ChartOrders", spec := "chartOrders", unfollowed := true, recurses := true, loops := true, apart := false }
def ChartOrdersSaid : Prop := chartOrdersRow.holds Try.pinned (OpenSpec.ofChange chartOrdersSpec)

/-- ITS FALSE NEIGHBOUR: 'it returns false'. Refute it at one input. -/
def chartOrdersWrong : ChangeSpec := { name := "chartOrders", fn := fun _ => fun
  | [d1, d2] => { results := [.lit (.bool false)], args := [d1, d2] }
  | _ => none }
def ChartOrdersWrongFalsely : Prop := chartOrdersRow.holds Try.pinned (OpenSpec.ofChange chartOrdersWrong)

/-- 'grammarlablaw32.ChartKids': WHATEVER THE INPUT: true; the input reads as it did. -/
def chartKidsSpec : ChangeSpec := { name := "chartKids", fn := fun _ => fun
  | [d1, d2] => { results := [.lit (.bool true)], args := [d1, d2] }
  | _ => none }
def chartKidsRow : OpenClaim := { program := "ytafbldphahfemaa", sum := "9f9809dd6f4a16bb65e98275d6e2b36d7f7d0317f443ba65f78dfca9fbb62fc6", func := "grammarlab/grammarlablaw32.ChartKids", spec := "chartKids", unfollowed := true, recurses := true, loops := true, apart := false }
def ChartKidsSaid : Prop := chartKidsRow.holds Try.pinned (OpenSpec.ofChange chartKidsSpec)

/-- ITS FALSE NEIGHBOUR: 'it returns false'. Refute it at one input. -/
def chartKidsWrong : ChangeSpec := { name := "chartKids", fn := fun _ => fun
  | [d1, d2] => { results := [.lit (.bool false)], args := [d1, d2] }
  | _ => none }
def ChartKidsWrongFalsely : Prop := chartKidsRow.holds Try.pinned (OpenSpec.ofChange chartKidsWrong)

/- THE SECOND FORM. 'bulk': how many values and letters a reading holds, each counted each time it is reached (what is shared counts as often as it is met; a slice's spare places count too). A statement '..UptoSaid' is the law's where the arguments, and the package variables that the reading takes, are together of bulk at most 1048576: NARROWER than '..Said'. Prove '..Said' where nothing that the law and all that it calls make is longer than what came in: it says more and counts as full. Else prove '..UptoSaid'. A law counts once. -/
mutual
def uptoBulk {H : Type} : DataW H → Nat
  | .lit (.string bytes) => bytes.length + 1
  | .lit _ => 1
  | .nil => 1
  | .ptr d => uptoBulk d + 1
  | .slice elems spare => uptoBulkAll elems + uptoBulkAll spare + 1
  | .agg parts => uptoBulkAll parts + 1
  | .iface _ d => uptoBulk d + 1
  | .map entries => uptoBulkEntries entries + 1
  | .held _ => 1
def uptoBulkAll {H : Type} : List (DataW H) → Nat
  | [] => 0
  | d :: r => uptoBulk d + uptoBulkAll r
def uptoBulkEntries {H : Type} : List (Lit × DataW H) → Nat
  | [] => 0
  | x :: r => uptoBulkEntry x + uptoBulkEntries r
def uptoBulkEntry {H : Type} : Lit × DataW H → Nat
  | (.string bytes, d) => bytes.length + uptoBulk d + 1
  | (_, d) => uptoBulk d + 1
 end
def uptoSmall : (H : Type) → List (DataW H) → Bool := fun _ ds => decide (uptoBulkAll ds ≤ 1048576)
def OpenSpec.upto (s : _root_.Go.ChangeSpec) : _root_.Go.OpenSpec := { _root_.Go.OpenSpec.ofChange s with cond := some uptoSmall }

/-- 'grammarlablaw32.ChartNew', WHERE WHAT IT READS IS OF BULK AT MOST 1048576: true; the input reads as it did. -/
def chartNewUptoRow : OpenClaim := { program := "ytafbldphahfemaa", sum := "9f9809dd6f4a16bb65e98275d6e2b36d7f7d0317f443ba65f78dfca9fbb62fc6", func := "grammarlab/grammarlablaw32.ChartNew", spec := "chartNew", unfollowed := true, recurses := true, apart := false, narrowed := true }
def ChartNewUptoSaid : Prop := chartNewUptoRow.holds Try.pinned (OpenSpec.upto chartNewSpec)

/-- 'grammarlablaw32.ChartAdds', WHERE WHAT IT READS IS OF BULK AT MOST 1048576: true; the input reads as it did. -/
def chartAddsUptoRow : OpenClaim := { program := "ytafbldphahfemaa", sum := "9f9809dd6f4a16bb65e98275d6e2b36d7f7d0317f443ba65f78dfca9fbb62fc6", func := "grammarlab/grammarlablaw32.ChartAdds", spec := "chartAdds", unfollowed := true, recurses := true, loops := true, apart := false, narrowed := true }
def ChartAddsUptoSaid : Prop := chartAddsUptoRow.holds Try.pinned (OpenSpec.upto chartAddsSpec)

/-- 'grammarlablaw32.ChartCanons', WHERE WHAT IT READS IS OF BULK AT MOST 1048576: true; the input reads as it did. -/
def chartCanonsUptoRow : OpenClaim := { program := "ytafbldphahfemaa", sum := "9f9809dd6f4a16bb65e98275d6e2b36d7f7d0317f443ba65f78dfca9fbb62fc6", func := "grammarlab/grammarlablaw32.ChartCanons", spec := "chartCanons", unfollowed := true, recurses := true, loops := true, apart := false, narrowed := true }
def ChartCanonsUptoSaid : Prop := chartCanonsUptoRow.holds Try.pinned (OpenSpec.upto chartCanonsSpec)

/-- 'grammarlablaw32.ChartOnce', WHERE WHAT IT READS IS OF BULK AT MOST 1048576: true; the input reads as it did. -/
def chartOnceUptoRow : OpenClaim := { program := "ytafbldphahfemaa", sum := "9f9809dd6f4a16bb65e98275d6e2b36d7f7d0317f443ba65f78dfca9fbb62fc6", func := "grammarlab/grammarlablaw32.ChartOnce", spec := "chartOnce", unfollowed := true, recurses := true, loops := true, apart := false, narrowed := true }
def ChartOnceUptoSaid : Prop := chartOnceUptoRow.holds Try.pinned (OpenSpec.upto chartOnceSpec)

/-- 'grammarlablaw32.ChartOrders', WHERE WHAT IT READS IS OF BULK AT MOST 1048576: true; the input reads as it did. -/
def chartOrdersUptoRow : OpenClaim := { program := "ytafbldphahfemaa", sum := "9f9809dd6f4a16bb65e98275d6e2b36d7f7d0317f443ba65f78dfca9fbb62fc6", func := "grammarlab/grammarlablaw32.ChartOrders", spec := "chartOrders", unfollowed := true, recurses := true, loops := true, apart := false, narrowed := true }
def ChartOrdersUptoSaid : Prop := chartOrdersUptoRow.holds Try.pinned (OpenSpec.upto chartOrdersSpec)

/-- 'grammarlablaw32.ChartKids', WHERE WHAT IT READS IS OF BULK AT MOST 1048576: true; the input reads as it did. -/
def chartKidsUptoRow : OpenClaim := { program := "ytafbldphahfemaa", sum := "9f9809dd6f4a16bb65e98275d6e2b36d7f7d0317f443ba65f78dfca9fbb62fc6", func := "grammarlab/grammarlablaw32.ChartKids", spec := "chartKids", unfollowed := true, recurses := true, loops := true, apart := false, narrowed := true }
def ChartKidsUptoSaid : Prop := chartKidsUptoRow.holds Try.pinned (OpenSpec.upto chartKidsSpec)

end Rows
end Go.Proofs.Ytafbldphahfemaa
