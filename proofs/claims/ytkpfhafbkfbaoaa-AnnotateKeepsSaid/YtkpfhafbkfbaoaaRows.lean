/-
  NARROWER THAN 'FOR EVERY INPUT', by the rows' own cells (each row's printed sentence says how): AnnotateNew: loops · AnnotateChooses: loops · AnnotateUndoes: loops · AnnotateProgresses: loops · AnnotateKeeps: loops.
  DERIVED. THE GIVEN ROWS OF THIS SEAT. 5 by the template 'for every input the law returns true; each argument reads behind the call as it read before'; 0 by the template 'total and deterministic' (their statements: YtkpfhafbkfbaoaaTotals.lean).
  GIVEN WITH THE SEED: the statements are not yours to turn. If you find one false, say at which input.
  Laid BY PROGRAM, IN A SANDBOX (cutbox-rows.mjs): the forced cells as the released guide's own fill.sh prints them over the translation 57895c5aea661a1a… (all of the seat's roots in one cut). By AI agents, Wed Nov 11 2026. No macro, syntax, notation, axiom, sorry.
-/
import Derived.Test.YtkpfhafbkfbaoaaChecked
import GoSem.Claim
import GoSem.ClaimJoined
import GoSem.ClaimMapViews
import Derived.JoinedTies
import Derived.KernelRfl
namespace Go.Proofs.Ytkpfhafbkfbaoaa
/- THE CELL 'sum', in the pinned program and in every row, IS THE sha256 OF THE DUMP (.gsa) THAT YtkpfhafbkfbaoaaProg.lean LOADS. Nothing in Lean hashes anything: it is a label: what it is worth is what the hold of that sum in a sandbox is worth. -/
noncomputable def Try.pinned : Pinned := { name := "ytkpfhafbkfbaoaa", sum := "57895c5aea661a1ac1ab191670f20c69133876b5a739f78c015c4a6ee88ab7bd", checked := Try.checked }
namespace Rows
def none {H : Type} : Left H := { results := [], args := [] }

/-- 'grammarlablaw46.AnnotateNew': WHATEVER THE INPUT: true; the input reads as it did. -/
def annotateNewSpec : ChangeSpec := { name := "annotateNew", fn := fun _ => fun
  | [d] => { results := [.lit (.bool true)], args := [d] }
  | _ => none }
def annotateNewRow : OpenClaim := { program := "ytkpfhafbkfbaoaa", sum := "57895c5aea661a1ac1ab191670f20c69133876b5a739f78c015c4a6ee88ab7bd", func := "grammarlab/grammarlablaw46.AnnotateNew", spec := "annotateNew", unfollowed := true, recurses := true, loops := true, apart := false }
def AnnotateNewSaid : Prop := annotateNewRow.holds Try.pinned (OpenSpec.ofChange annotateNewSpec)

/-- ITS FALSE NEIGHBOUR: 'it returns false'. Refute it at one input. -/
def annotateNewWrong : ChangeSpec := { name := "annotateNew", fn := fun _ => fun
  | [d] => { results := [.lit (.bool false)], args := [d] }
  | _ => none }
def AnnotateNewWrongFalsely : Prop := annotateNewRow.holds Try.pinned (OpenSpec.ofChange annotateNewWrong)

/-- 'grammarlablaw46.AnnotateChooses': WHATEVER THE INPUT: true; the input reads as it did. -/
def annotateChoosesSpec : ChangeSpec := { name := "annotateChooses", fn := fun _ => fun
  | [d1, d2] => { results := [.lit (.bool true)], args := [d1, d2] }
  | _ => none }
def annotateChoosesRow : OpenClaim := { program := "ytkpfhafbkfbaoaa", sum := "57895c5aea661a1ac1ab191670f20c69133876b5a739f78c015c4a6ee88ab7bd", func := "grammarlab/grammarlablaw46.AnnotateChooses", spec := "annotateChooses", unfollowed := true, recurses := true, loops := true, apart := false }
def AnnotateChoosesSaid : Prop := annotateChoosesRow.holds Try.pinned (OpenSpec.ofChange annotateChoosesSpec)

/-- ITS FALSE NEIGHBOUR: 'it returns false'. Refute it at one input. -/
def annotateChoosesWrong : ChangeSpec := { name := "annotateChooses", fn := fun _ => fun
  | [d1, d2] => { results := [.lit (.bool false)], args := [d1, d2] }
  | _ => none }
def AnnotateChoosesWrongFalsely : Prop := annotateChoosesRow.holds Try.pinned (OpenSpec.ofChange annotateChoosesWrong)

/-- 'grammarlablaw46.AnnotateUndoes': WHATEVER THE INPUT: true; the input reads as it did. -/
def annotateUndoesSpec : ChangeSpec := { name := "annotateUndoes", fn := fun _ => fun
  | [d1, d2, d3] => { results := [.lit (.bool true)], args := [d1, d2, d3] }
  | _ => none }
def annotateUndoesRow : OpenClaim := { program := "ytkpfhafbkfbaoaa", sum := "57895c5aea661a1ac1ab191670f20c69133876b5a739f78c015c4a6ee88ab7bd", func := "grammarlab/grammarlablaw46.AnnotateUndoes", spec := "annotateUndoes", unfollowed := true, recurses := true, loops := true, apart := false }
def AnnotateUndoesSaid : Prop := annotateUndoesRow.holds Try.pinned (OpenSpec.ofChange annotateUndoesSpec)

/-- ITS FALSE NEIGHBOUR: 'it returns false'. Refute it at one input. -/
def annotateUndoesWrong : ChangeSpec := { name := "annotateUndoes", fn := fun _ => fun
  | [d1, d2, d3] => { results := [.lit (.bool false)], args := [d1, d2, d3] }
  | _ => none }
def AnnotateUndoesWrongFalsely : Prop := annotateUndoesRow.holds Try.pinned (OpenSpec.ofChange annotateUndoesWrong)

/-- 'grammarlablaw46.AnnotateProgresses': WHATEVER THE INPUT: true; the input reads as it did. -/
def annotateProgressesSpec : ChangeSpec := { name := "annotateProgresses", fn := fun _ => fun
  | [d1, d2] => { results := [.lit (.bool true)], args := [d1, d2] }
  | _ => none }
def annotateProgressesRow : OpenClaim := { program := "ytkpfhafbkfbaoaa", sum := "57895c5aea661a1ac1ab191670f20c69133876b5a739f78c015c4a6ee88ab7bd", func := "grammarlab/grammarlablaw46.AnnotateProgresses", spec := "annotateProgresses", unfollowed := true, recurses := true, loops := true, apart := false }
def AnnotateProgressesSaid : Prop := annotateProgressesRow.holds Try.pinned (OpenSpec.ofChange annotateProgressesSpec)

/-- ITS FALSE NEIGHBOUR: 'it returns false'. Refute it at one input. -/
def annotateProgressesWrong : ChangeSpec := { name := "annotateProgresses", fn := fun _ => fun
  | [d1, d2] => { results := [.lit (.bool false)], args := [d1, d2] }
  | _ => none }
def AnnotateProgressesWrongFalsely : Prop := annotateProgressesRow.holds Try.pinned (OpenSpec.ofChange annotateProgressesWrong)

/-- 'grammarlablaw46.AnnotateKeeps': WHATEVER THE INPUT: true; the input reads as it did. -/
def annotateKeepsSpec : ChangeSpec := { name := "annotateKeeps", fn := fun _ => fun
  | [d1, d2] => { results := [.lit (.bool true)], args := [d1, d2] }
  | _ => none }
def annotateKeepsRow : OpenClaim := { program := "ytkpfhafbkfbaoaa", sum := "57895c5aea661a1ac1ab191670f20c69133876b5a739f78c015c4a6ee88ab7bd", func := "grammarlab/grammarlablaw46.AnnotateKeeps", spec := "annotateKeeps", unfollowed := true, recurses := true, loops := true, apart := false }
def AnnotateKeepsSaid : Prop := annotateKeepsRow.holds Try.pinned (OpenSpec.ofChange annotateKeepsSpec)

/-- ITS FALSE NEIGHBOUR: 'it returns false'. Refute it at one input. -/
def annotateKeepsWrong : ChangeSpec := { name := "annotateKeeps", fn := fun _ => fun
  | [d1, d2] => { results := [.lit (.bool false)], args := [d1, d2] }
  | _ => none }
def AnnotateKeepsWrongFalsely : Prop := annotateKeepsRow.holds Try.pinned (OpenSpec.ofChange annotateKeepsWrong)

/- THE SECOND FORM. 'bulk': how many values and letters a reading holds, each counted each time it is reached (what is shared counts as often as it is met; a slice's spare places count too). A statement '..UptoSaid' is the law's where the arguments, and the package variables that the reading takes, are together of bulk at most 1048576: NARROWER than '..Said'. Prove '..Said' where nothing that the law and all that it calls make is longer than what came in: it says more and counts as full. Else prove '..UptoSaid'. A law counts once. -/
mutual
def uptoBulk {H : Type} : DataW H → Nat
  | .lit (.string bytes) => bytes.length + 1
  | .lit _ => 1
  | .nil => 1
  | .ptr d => uptoBulk d + 1
  | .slice elems spare => uptoBulkAll elems + uptoBulkAll spare + 1
  | .agg parts => uptoBulkAll parts + 1
  | .iface _ d => uptoBulk d + 1
  | .map entries => uptoBulkEntries entries + 1
  | .held _ => 1
def uptoBulkAll {H : Type} : List (DataW H) → Nat
  | [] => 0
  | d :: r => uptoBulk d + uptoBulkAll r
def uptoBulkEntries {H : Type} : List (Lit × DataW H) → Nat
  | [] => 0
  | x :: r => uptoBulkEntry x + uptoBulkEntries r
def uptoBulkEntry {H : Type} : Lit × DataW H → Nat
  | (.string bytes, d) => bytes.length + uptoBulk d + 1
  | (_, d) => uptoBulk d + 1
 end
def uptoSmall : (H : Type) → List (DataW H) → Bool := fun _ ds => decide (uptoBulkAll ds ≤ 1048576)
def OpenSpec.upto (s : _root_.Go.ChangeSpec) : _root_.Go.OpenSpec := { _root_.Go.OpenSpec.ofChange s with cond := some uptoSmall }

/-- 'grammarlablaw46.AnnotateNew', WHERE WHAT IT READS IS OF BULK AT MOST 1048576: true; the input reads as it did. -/
def annotateNewUptoRow : OpenClaim := { program := "ytkpfhafbkfbaoaa", sum := "57895c5aea661a1ac1ab191670f20c69133876b5a739f78c015c4a6ee88ab7bd", func := "grammarlab/grammarlablaw46.AnnotateNew", spec := "annotateNew", unfollowed := true, recurses := true, loops := true, apart := false, narrowed := true }
def AnnotateNewUptoSaid : Prop := annotateNewUptoRow.holds Try.pinned (OpenSpec.upto annotateNewSpec)

/-- 'grammarlablaw46.AnnotateChooses', WHERE WHAT IT READS IS OF BULK AT MOST 1048576: true; the input reads as it did. -/
def annotateChoosesUptoRow : OpenClaim := { program := "ytkpfhafbkfbaoaa", sum := "57895c5aea661a1ac1ab191670f20c69133876b5a739f78c015c4a6ee88ab7bd", func := "grammarlab/grammarlablaw46.AnnotateChooses", spec := "annotateChooses", unfollowed := true, recurses := true, loops := true, apart := false, narrowed := true }
def AnnotateChoosesUptoSaid : Prop := annotateChoosesUptoRow.holds Try.pinned (OpenSpec.upto annotateChoosesSpec)

/-- 'grammarlablaw46.AnnotateUndoes', WHERE WHAT IT READS IS OF BULK AT MOST 1048576: true; the input reads as it did. -/
def annotateUndoesUptoRow : OpenClaim := { program := "ytkpfhafbkfbaoaa", sum := "57895c5aea661a1ac1ab191670f20c69133876b5a739f78c015c4a6ee88ab7bd", func := "grammarlab/grammarlablaw46.AnnotateUndoes", spec := "annotateUndoes", unfollowed := true, recurses := true, loops := true, apart := false, narrowed := true }
def AnnotateUndoesUptoSaid : Prop := annotateUndoesUptoRow.holds Try.pinned (OpenSpec.upto annotateUndoesSpec)

/-- 'grammarlablaw46.AnnotateProgresses', WHERE WHAT IT READS IS OF BULK AT MOST 1048576: true; the input reads as it did. -/
def annotateProgressesUptoRow : OpenClaim := { program := "ytkpfhafbkfbaoaa", sum := "57895c5aea661a1ac1ab191670f20c69133876b5a739f78c015c4a6ee88ab7bd", func := "grammarlab/grammarlablaw46.AnnotateProgresses", spec := "annotateProgresses", unfollowed := true, recurses := true, loops := true, apart := false, narrowed := true }
def AnnotateProgressesUptoSaid : Prop := annotateProgressesUptoRow.holds Try.pinned (OpenSpec.upto annotateProgressesSpec)

/-- 'grammarlablaw46.AnnotateKeeps', WHERE WHAT IT READS IS OF BULK AT MOST 1048576: true; the input reads as it did. -/
def annotateKeepsUptoRow : OpenClaim := { program := "ytkpfhafbkfbaoaa", sum := "57895c5aea661a1ac1ab191670f20c69133876b5a739f78c015c4a6ee88ab7bd", func := "grammarlab/grammarlablaw46.AnnotateKeeps", spec := "annotateKeeps", unfollowed := true, recurses := true, loops := true, apart := false, narrowed := true }
def AnnotateKeepsUptoSaid : Prop := annotateKeepsUptoRow.holds Try.pinned (OpenSpec.upto annotateKeepsSpec)

end Rows
end Go.Proofs.Ytkpfhafbkfbaoaa
