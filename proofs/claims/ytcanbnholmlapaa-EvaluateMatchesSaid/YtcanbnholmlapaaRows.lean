/-
  NARROWER THAN 'FOR EVERY INPUT', by the rows' own cells (each row's printed sentence says how): EvaluateBrackets: loops · EvaluateMatches: loops · EvaluateSelf: loops · EvaluateBounds: loops.
  DERIVED. THE GIVEN ROWS OF THIS SEAT. 7 by the template 'for every input the law returns true; each argument reads behind the call as it read before'; 0 by the template 'total and deterministic' (their statements: YtcanbnholmlapaaTotals.lean).
  GIVEN WITH THE SEED: the statements are not yours to turn. If you find one false, say at which input.
  Laid BY PROGRAM, IN A SANDBOX (cutbox-rows.mjs): the forced cells as the released guide's own fill.sh prints them over the translation 9ff3d547dad3893f… (all of the seat's roots in one cut). By AI agents, Wed Nov 11 2026. No macro, syntax, notation, axiom, sorry.
-/
import Derived.Test.YtcanbnholmlapaaChecked
import GoSem.Claim
import GoSem.ClaimJoined
import GoSem.ClaimMapViews
import Derived.JoinedTies
import Derived.KernelRfl
namespace Go.Proofs.Ytcanbnholmlapaa
/- THE CELL 'sum', in the pinned program and in every row, IS THE sha256 OF THE DUMP (.gsa) THAT YtcanbnholmlapaaProg.lean LOADS. Nothing in Lean hashes anything: it is a label: what it is worth is what the hold of that sum in a sandbox is worth. -/
noncomputable def Try.pinned : Pinned := { name := "ytcanbnholmlapaa", sum := "9ff3d547dad3893f34496a0f98c7aa2f0e1bf3fcd75761f87343ba00967af6a1", checked := Try.checked }
namespace Rows
def none {H : Type} : Left H := { results := [], args := [] }

/-- 'grammarlablaw50.EvaluateBrackets': WHATEVER THE INPUT: true; the input reads as it did. -/
def evaluateBracketsSpec : ChangeSpec := { name := "evaluateBrackets", fn := fun _ => fun
  | [d] => { results := [.lit (.bool true)], args := [d] }
  | _ => none }
def evaluateBracketsRow : OpenClaim := { program := "ytcanbnholmlapaa", sum := "9ff3d547dad3893f34496a0f98c7aa2f0e1bf3fcd75761f87343ba00967af6a1", func := "grammarlab/grammarlablaw50.EvaluateBrackets", spec := "evaluateBrackets", unfollowed := true, recurses := true, loops := true, plainKeys := false, apart := false }
def EvaluateBracketsSaid : Prop := evaluateBracketsRow.holds Try.pinned (OpenSpec.ofChange evaluateBracketsSpec)

/-- ITS FALSE NEIGHBOUR: 'it returns false'. Refute it at one input. -/
def evaluateBracketsWrong : ChangeSpec := { name := "evaluateBrackets", fn := fun _ => fun
  | [d] => { results := [.lit (.bool false)], args := [d] }
  | _ => none }
def EvaluateBracketsWrongFalsely : Prop := evaluateBracketsRow.holds Try.pinned (OpenSpec.ofChange evaluateBracketsWrong)

/-- 'grammarlablaw50.EvaluateMatches': WHATEVER THE INPUT: true; the input reads as it did. -/
def evaluateMatchesSpec : ChangeSpec := { name := "evaluateMatches", fn := fun _ => fun
  | [d1, d2] => { results := [.lit (.bool true)], args := [d1, d2] }
  | _ => none }
def evaluateMatchesRow : OpenClaim := { program := "ytcanbnholmlapaa", sum := "9ff3d547dad3893f34496a0f98c7aa2f0e1bf3fcd75761f87343ba00967af6a1", func := "grammarlab/grammarlablaw50.EvaluateMatches", spec := "evaluateMatches", unfollowed := true, recurses := true, loops := true, plainKeys := false, apart := false }
def EvaluateMatchesSaid : Prop := evaluateMatchesRow.holds Try.pinned (OpenSpec.ofChange evaluateMatchesSpec)

/-- ITS FALSE NEIGHBOUR: 'it returns false'. Refute it at one input. -/
def evaluateMatchesWrong : ChangeSpec := { name := "evaluateMatches", fn := fun _ => fun
  | [d1, d2] => { results := [.lit (.bool false)], args := [d1, d2] }
  | _ => none }
def EvaluateMatchesWrongFalsely : Prop := evaluateMatchesRow.holds Try.pinned (OpenSpec.ofChange evaluateMatchesWrong)

/-- 'grammarlablaw50.EvaluateSums': WHATEVER THE INPUT: true; the input reads as it did. -/
def evaluateSumsSpec : ChangeSpec := { name := "evaluateSums", fn := fun _ => fun
  | [d1, d2] => { results := [.lit (.bool true)], args := [d1, d2] }
  | _ => none }
def evaluateSumsRow : OpenClaim := { program := "ytcanbnholmlapaa", sum := "9ff3d547dad3893f34496a0f98c7aa2f0e1bf3fcd75761f87343ba00967af6a1", func := "grammarlab/grammarlablaw50.EvaluateSums", spec := "evaluateSums", unfollowed := true, recurses := true, plainKeys := false, apart := false }
def EvaluateSumsSaid : Prop := evaluateSumsRow.holds Try.pinned (OpenSpec.ofChange evaluateSumsSpec)

/-- ITS FALSE NEIGHBOUR: 'it returns false'. Refute it at one input. -/
def evaluateSumsWrong : ChangeSpec := { name := "evaluateSums", fn := fun _ => fun
  | [d1, d2] => { results := [.lit (.bool false)], args := [d1, d2] }
  | _ => none }
def EvaluateSumsWrongFalsely : Prop := evaluateSumsRow.holds Try.pinned (OpenSpec.ofChange evaluateSumsWrong)

/-- 'grammarlablaw50.EvaluateReduces': WHATEVER THE INPUT: true; the input reads as it did. -/
def evaluateReducesSpec : ChangeSpec := { name := "evaluateReduces", fn := fun _ => fun
  | [d1, d2] => { results := [.lit (.bool true)], args := [d1, d2] }
  | _ => none }
def evaluateReducesRow : OpenClaim := { program := "ytcanbnholmlapaa", sum := "9ff3d547dad3893f34496a0f98c7aa2f0e1bf3fcd75761f87343ba00967af6a1", func := "grammarlab/grammarlablaw50.EvaluateReduces", spec := "evaluateReduces", unfollowed := true, recurses := true, plainKeys := false, apart := false }
def EvaluateReducesSaid : Prop := evaluateReducesRow.holds Try.pinned (OpenSpec.ofChange evaluateReducesSpec)

/-- ITS FALSE NEIGHBOUR: 'it returns false'. Refute it at one input. -/
def evaluateReducesWrong : ChangeSpec := { name := "evaluateReduces", fn := fun _ => fun
  | [d1, d2] => { results := [.lit (.bool false)], args := [d1, d2] }
  | _ => none }
def EvaluateReducesWrongFalsely : Prop := evaluateReducesRow.holds Try.pinned (OpenSpec.ofChange evaluateReducesWrong)

/-- 'grammarlablaw50.EvaluateLowest': WHATEVER THE INPUT: true; the input reads as it did. -/
def evaluateLowestSpec : ChangeSpec := { name := "evaluateLowest", fn := fun _ => fun
  | [d1, d2, d3] => { results := [.lit (.bool true)], args := [d1, d2, d3] }
  | _ => none }
def evaluateLowestRow : OpenClaim := { program := "ytcanbnholmlapaa", sum := "9ff3d547dad3893f34496a0f98c7aa2f0e1bf3fcd75761f87343ba00967af6a1", func := "grammarlab/grammarlablaw50.EvaluateLowest", spec := "evaluateLowest", unfollowed := true, recurses := true, plainKeys := false, apart := false }
def EvaluateLowestSaid : Prop := evaluateLowestRow.holds Try.pinned (OpenSpec.ofChange evaluateLowestSpec)

/-- ITS FALSE NEIGHBOUR: 'it returns false'. Refute it at one input. -/
def evaluateLowestWrong : ChangeSpec := { name := "evaluateLowest", fn := fun _ => fun
  | [d1, d2, d3] => { results := [.lit (.bool false)], args := [d1, d2, d3] }
  | _ => none }
def EvaluateLowestWrongFalsely : Prop := evaluateLowestRow.holds Try.pinned (OpenSpec.ofChange evaluateLowestWrong)

/-- 'grammarlablaw50.EvaluateSelf': WHATEVER THE INPUT: true; the input reads as it did. -/
def evaluateSelfSpec : ChangeSpec := { name := "evaluateSelf", fn := fun _ => fun
  | [d] => { results := [.lit (.bool true)], args := [d] }
  | _ => none }
def evaluateSelfRow : OpenClaim := { program := "ytcanbnholmlapaa", sum := "9ff3d547dad3893f34496a0f98c7aa2f0e1bf3fcd75761f87343ba00967af6a1", func := "grammarlab/grammarlablaw50.EvaluateSelf", spec := "evaluateSelf", unfollowed := true, recurses := true, loops := true, plainKeys := false, apart := false }
def EvaluateSelfSaid : Prop := evaluateSelfRow.holds Try.pinned (OpenSpec.ofChange evaluateSelfSpec)

/-- ITS FALSE NEIGHBOUR: 'it returns false'. Refute it at one input. -/
def evaluateSelfWrong : ChangeSpec := { name := "evaluateSelf", fn := fun _ => fun
  | [d] => { results := [.lit (.bool false)], args := [d] }
  | _ => none }
def EvaluateSelfWrongFalsely : Prop := evaluateSelfRow.holds Try.pinned (OpenSpec.ofChange evaluateSelfWrong)

/-- 'grammarlablaw50.EvaluateBounds': WHATEVER THE INPUT: true; the input reads as it did. -/
def evaluateBoundsSpec : ChangeSpec := { name := "evaluateBounds", fn := fun _ => fun
  | [d1, d2] => { results := [.lit (.bool true)], args := [d1, d2] }
  | _ => none }
def evaluateBoundsRow : OpenClaim := { program := "ytcanbnholmlapaa", sum := "9ff3d547dad3893f34496a0f98c7aa2f0e1bf3fcd75761f87343ba00967af6a1", func := "grammarlab/grammarlablaw50.EvaluateBounds", spec := "evaluateBounds", unfollowed := true, recurses := true, loops := true, plainKeys := false, apart := false }
def EvaluateBoundsSaid : Prop := evaluateBoundsRow.holds Try.pinned (OpenSpec.ofChange evaluateBoundsSpec)

/-- ITS FALSE NEIGHBOUR: 'it returns false'. Refute it at one input. -/
def evaluateBoundsWrong : ChangeSpec := { name := "evaluateBounds", fn := fun _ => fun
  | [d1, d2] => { results := [.lit (.bool false)], args := [d1, d2] }
  | _ => none }
def EvaluateBoundsWrongFalsely : Prop := evaluateBoundsRow.holds Try.pinned (OpenSpec.ofChange evaluateBoundsWrong)

/- THE SECOND FORM. 'bulk': how many values and letters a reading holds, each counted each time it is reached (what is shared counts as often as it is met; a slice's spare places count too). A statement '..UptoSaid' is the law's where the arguments, and the package variables that the reading takes, are together of bulk at most 1048576: NARROWER than '..Said'. Prove '..Said' where nothing that the law and all that it calls make is longer than what came in: it says more and counts as full. Else prove '..UptoSaid'. A law counts once. -/
mutual
def uptoBulk {H : Type} : DataW H → Nat
  | .lit (.string bytes) => bytes.length + 1
  | .lit _ => 1
  | .nil => 1
  | .ptr d => uptoBulk d + 1
  | .slice elems spare => uptoBulkAll elems + uptoBulkAll spare + 1
  | .agg parts => uptoBulkAll parts + 1
  | .iface _ d => uptoBulk d + 1
  | .map entries => uptoBulkEntries entries + 1
  | .held _ => 1
def uptoBulkAll {H : Type} : List (DataW H) → Nat
  | [] => 0
  | d :: r => uptoBulk d + uptoBulkAll r
def uptoBulkEntries {H : Type} : List (Lit × DataW H) → Nat
  | [] => 0
  | x :: r => uptoBulkEntry x + uptoBulkEntries r
def uptoBulkEntry {H : Type} : Lit × DataW H → Nat
  | (.string bytes, d) => bytes.length + uptoBulk d + 1
  | (_, d) => uptoBulk d + 1
 end
def uptoSmall : (H : Type) → List (DataW H) → Bool := fun _ ds => decide (uptoBulkAll ds ≤ 1048576)
def OpenSpec.upto (s : _root_.Go.ChangeSpec) : _root_.Go.OpenSpec := { _root_.Go.OpenSpec.ofChange s with cond := some uptoSmall }

/-- 'grammarlablaw50.EvaluateBrackets', WHERE WHAT IT READS IS OF BULK AT MOST 1048576: true; the input reads as it did. -/
def evaluateBracketsUptoRow : OpenClaim := { program := "ytcanbnholmlapaa", sum := "9ff3d547dad3893f34496a0f98c7aa2f0e1bf3fcd75761f87343ba00967af6a1", func := "grammarlab/grammarlablaw50.EvaluateBrackets", spec := "evaluateBrackets", unfollowed := true, recurses := true, loops := true, plainKeys := false, apart := false, narrowed := true }
def EvaluateBracketsUptoSaid : Prop := evaluateBracketsUptoRow.holds Try.pinned (OpenSpec.upto evaluateBracketsSpec)

/-- 'grammarlablaw50.EvaluateMatches', WHERE WHAT IT READS IS OF BULK AT MOST 1048576: true; the input reads as it did. -/
def evaluateMatchesUptoRow : OpenClaim := { program := "ytcanbnholmlapaa", sum := "9ff3d547dad3893f34496a0f98c7aa2f0e1bf3fcd75761f87343ba00967af6a1", func := "grammarlab/grammarlablaw50.EvaluateMatches", spec := "evaluateMatches", unfollowed := true, recurses := true, loops := true, plainKeys := false, apart := false, narrowed := true }
def EvaluateMatchesUptoSaid : Prop := evaluateMatchesUptoRow.holds Try.pinned (OpenSpec.upto evaluateMatchesSpec)

/-- 'grammarlablaw50.EvaluateSums', WHERE WHAT IT READS IS OF BULK AT MOST 1048576: true; the input reads as it did. -/
def evaluateSumsUptoRow : OpenClaim := { program := "ytcanbnholmlapaa", sum := "9ff3d547dad3893f34496a0f98c7aa2f0e1bf3fcd75761f87343ba00967af6a1", func := "grammarlab/grammarlablaw50.EvaluateSums", spec := "evaluateSums", unfollowed := true, recurses := true, plainKeys := false, apart := false, narrowed := true }
def EvaluateSumsUptoSaid : Prop := evaluateSumsUptoRow.holds Try.pinned (OpenSpec.upto evaluateSumsSpec)

/-- 'grammarlablaw50.EvaluateReduces', WHERE WHAT IT READS IS OF BULK AT MOST 1048576: true; the input reads as it did. -/
def evaluateReducesUptoRow : OpenClaim := { program := "ytcanbnholmlapaa", sum := "9ff3d547dad3893f34496a0f98c7aa2f0e1bf3fcd75761f87343ba00967af6a1", func := "grammarlab/grammarlablaw50.EvaluateReduces", spec := "evaluateReduces", unfollowed := true, recurses := true, plainKeys := false, apart := false, narrowed := true }
def EvaluateReducesUptoSaid : Prop := evaluateReducesUptoRow.holds Try.pinned (OpenSpec.upto evaluateReducesSpec)

/-- 'grammarlablaw50.EvaluateLowest', WHERE WHAT IT READS IS OF BULK AT MOST 1048576: true; the input reads as it did. -/
def evaluateLowestUptoRow : OpenClaim := { program := "ytcanbnholmlapaa", sum := "9ff3d547dad3893f34496a0f98c7aa2f0e1bf3fcd75761f87343ba00967af6a1", func := "grammarlab/grammarlablaw50.EvaluateLowest", spec := "evaluateLowest", unfollowed := true, recurses := true, plainKeys := false, apart := false, narrowed := true }
def EvaluateLowestUptoSaid : Prop := evaluateLowestUptoRow.holds Try.pinned (OpenSpec.upto evaluateLowestSpec)

/-- 'grammarlablaw50.EvaluateSelf', WHERE WHAT IT READS IS OF BULK AT MOST 1048576: true; the input reads as it did. -/
def evaluateSelfUptoRow : OpenClaim := { program := "ytcanbnholmlapaa", sum := "9ff3d547dad3893f34496a0f98c7aa2f0e1bf3fcd75761f87343ba00967af6a1", func := "grammarlab/grammarlablaw50.EvaluateSelf", spec := "evaluateSelf", unfollowed := true, recurses := true, loops := true, plainKeys := false, apart := false, narrowed := true }
def EvaluateSelfUptoSaid : Prop := evaluateSelfUptoRow.holds Try.pinned (OpenSpec.upto evaluateSelfSpec)

/-- 'grammarlablaw50.EvaluateBounds', WHERE WHAT IT READS IS OF BULK AT MOST 1048576: true; the input reads as it did. -/
def evaluateBoundsUptoRow : OpenClaim := { program := "ytcanbnholmlapaa", sum := "9ff3d547dad3893f34496a0f98c7aa2f0e1bf3fcd75761f87343ba00967af6a1", func := "grammarlab/grammarlablaw50.EvaluateBounds", spec := "evaluateBounds", unfollowed := true, recurses := true, loops := true, plainKeys := false, apart := false, narrowed := true }
def EvaluateBoundsUptoSaid : Prop := evaluateBoundsUptoRow.holds Try.pinned (OpenSpec.upto evaluateBoundsSpec)

end Rows
end Go.Proofs.Ytcanbnholmlapaa
