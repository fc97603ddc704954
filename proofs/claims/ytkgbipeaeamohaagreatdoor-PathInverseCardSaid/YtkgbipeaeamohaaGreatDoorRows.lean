/-
  NARROWER THAN 'FOR EVERY INPUT', by the rows' own cells (each row's printed sentence says how): PathFirsts: laid · PathUnders: laid · PathPrints: laid · PathParses: laid · PathEquations: laid · PathLimits: laid · PathFollows: laid · PathReaches: laid · PathInverse: laid.
  DERIVED. THE GIVEN ROWS OF THIS SEAT. 9 by the template 'for every input the law returns true; each argument reads behind the call as it read before'; 0 by the template 'total and deterministic' (their statements: YtkgbipeaeamohaaGreatDoorTotals.lean).
  GIVEN WITH THE SEED: the statements are not yours to turn. If you find one false, say at which input.
  Laid BY PROGRAM, IN A SANDBOX (cutbox-rows.mjs): the forced cells as the released guide's own fill.sh prints them over the translation 809b317488f6a283… (all of the seat's roots in one cut). By AI agents, Wed Nov 11 2026. No macro, syntax, notation, axiom, sorry.
-/
import Derived.Test.YtkgbipeaeamohaaGreatDoorChecked
import GoSem.PinnedTables
import GoSem.Claim
import GoSem.ClaimJoined
import GoSem.ClaimMapViews
import Derived.JoinedTies
import Derived.KernelRfl
namespace Go.Proofs.YtkgbipeaeamohaaGreatDoor
/- THE CELL 'sum', in the pinned program and in every row, IS THE sha256 OF THE DUMP (.gsa) THAT YtkgbipeaeamohaaGreatDoorProg.lean LOADS. Nothing in Lean hashes anything: it is a label: what it is worth is what the hold of that sum in a sandbox is worth. -/
noncomputable def Tryz.pinned : Pinned := { name := "ytkgbipeaeamohaagreatdoor", sum := "809b317488f6a2838807a9ad1ac88c3af5d609dde6199f807422f3b594422de4", checked := Tryz.checked }
namespace Rows
def none {H : Type} : Left H := { results := [], args := [] }

/- WHAT THE LISTED PACKAGE-LEVEL VARIABLES READ AS WHEN THE CALL BEGINS. Each datum BY PROGRAM (the guide's laid-datum.mjs) off the statement by which the dump's own 'gosem.cut.vars' lays the variable. In a bare row this is a premise. The card (YtkgbipeaeamohaaGreatDoorCards.lean) ties it to the program's text. -/
def laid_unicode_utf8_acceptRanges {H : Type} : DataW H := .agg [.agg [.lit (.int .u8 128), .lit (.int .u8 191)], .agg [.lit (.int .u8 160), .lit (.int .u8 191)], .agg [.lit (.int .u8 128), .lit (.int .u8 159)], .agg [.lit (.int .u8 144), .lit (.int .u8 191)], .agg [.lit (.int .u8 128), .lit (.int .u8 143)], .agg [.lit (.int .u8 0), .lit (.int .u8 0)], .agg [.lit (.int .u8 0), .lit (.int .u8 0)], .agg [.lit (.int .u8 0), .lit (.int .u8 0)], .agg [.lit (.int .u8 0), .lit (.int .u8 0)], .agg [.lit (.int .u8 0), .lit (.int .u8 0)], .agg [.lit (.int .u8 0), .lit (.int .u8 0)], .agg [.lit (.int .u8 0), .lit (.int .u8 0)], .agg [.lit (.int .u8 0), .lit (.int .u8 0)], .agg [.lit (.int .u8 0), .lit (.int .u8 0)], .agg [.lit (.int .u8 0), .lit (.int .u8 0)], .agg [.lit (.int .u8 0), .lit (.int .u8 0)]]
/-- One of Go's own tables, pinned by name: the form's constant. -/
def laid_unicode_utf8_first : DataW Unit := Go.Pinned.utf8First

/-- 'grammarlablaw08.PathFirsts': WHATEVER THE INPUT: true; the input reads as it did. -/
def pathFirstsSpec : ChangeSpec := { name := "pathFirsts", fn := fun _ => fun
  | [d] => { results := [.lit (.bool true)], args := [d] }
  | _ => none }
def pathFirstsRow : OpenClaim := { program := "ytkgbipeaeamohaagreatdoor", sum := "809b317488f6a2838807a9ad1ac88c3af5d609dde6199f807422f3b594422de4", func := "grammarlab/grammarlablaw08.PathFirsts", spec := "pathFirsts", inPlace := ["internal/bytealg.CountString", "internal/bytealg.IndexByteString", "internal/bytealg.IndexString", "internal/abi.NoEscape", "internal/bytealg.MakeNoZero"], unfollowed := true, recurses := true, named := ["unicode/utf8.first", "unicode/utf8.acceptRanges", "internal/bytealg.MaxLen"], apart := false, laid := [("unicode/utf8.acceptRanges", laid_unicode_utf8_acceptRanges), ("unicode/utf8.first", laid_unicode_utf8_first)] }
def PathFirstsSaid : Prop := pathFirstsRow.holds Tryz.pinned (OpenSpec.ofChange pathFirstsSpec)

/-- ITS FALSE NEIGHBOUR: 'it returns false'. Refute it at one input. -/
def pathFirstsWrong : ChangeSpec := { name := "pathFirsts", fn := fun _ => fun
  | [d] => { results := [.lit (.bool false)], args := [d] }
  | _ => none }
def PathFirstsWrongFalsely : Prop := pathFirstsRow.holds Tryz.pinned (OpenSpec.ofChange pathFirstsWrong)

/-- 'grammarlablaw08.PathUnders': WHATEVER THE INPUT: true; the input reads as it did. -/
def pathUndersSpec : ChangeSpec := { name := "pathUnders", fn := fun _ => fun
  | [d1, d2] => { results := [.lit (.bool true)], args := [d1, d2] }
  | _ => none }
def pathUndersRow : OpenClaim := { program := "ytkgbipeaeamohaagreatdoor", sum := "809b317488f6a2838807a9ad1ac88c3af5d609dde6199f807422f3b594422de4", func := "grammarlab/grammarlablaw08.PathUnders", spec := "pathUnders", inPlace := ["internal/bytealg.CountString", "internal/bytealg.IndexByteString", "internal/bytealg.IndexString", "internal/abi.NoEscape", "internal/bytealg.MakeNoZero"], unfollowed := true, recurses := true, named := ["unicode/utf8.first", "unicode/utf8.acceptRanges", "internal/bytealg.MaxLen"], apart := false, laid := [("unicode/utf8.acceptRanges", laid_unicode_utf8_acceptRanges), ("unicode/utf8.first", laid_unicode_utf8_first)] }
def PathUndersSaid : Prop := pathUndersRow.holds Tryz.pinned (OpenSpec.ofChange pathUndersSpec)

/-- ITS FALSE NEIGHBOUR: 'it returns false'. Refute it at one input. -/
def pathUndersWrong : ChangeSpec := { name := "pathUnders", fn := fun _ => fun
  | [d1, d2] => { results := [.lit (.bool false)], args := [d1, d2] }
  | _ => none }
def PathUndersWrongFalsely : Prop := pathUndersRow.holds Tryz.pinned (OpenSpec.ofChange pathUndersWrong)

/-- 'grammarlablaw08.PathPrints': WHATEVER THE INPUT: true; the input reads as it did. -/
def pathPrintsSpec : ChangeSpec := { name := "pathPrints", fn := fun _ => fun
  | [d1, d2] => { results := [.lit (.bool true)], args := [d1, d2] }
  | _ => none }
def pathPrintsRow : OpenClaim := { program := "ytkgbipeaeamohaagreatdoor", sum := "809b317488f6a2838807a9ad1ac88c3af5d609dde6199f807422f3b594422de4", func := "grammarlab/grammarlablaw08.PathPrints", spec := "pathPrints", inPlace := ["internal/bytealg.CountString", "internal/bytealg.IndexByteString", "internal/bytealg.IndexString", "internal/abi.NoEscape", "internal/bytealg.MakeNoZero"], unfollowed := true, recurses := true, named := ["unicode/utf8.first", "unicode/utf8.acceptRanges", "internal/bytealg.MaxLen"], apart := false, laid := [("unicode/utf8.acceptRanges", laid_unicode_utf8_acceptRanges), ("unicode/utf8.first", laid_unicode_utf8_first)] }
def PathPrintsSaid : Prop := pathPrintsRow.holds Tryz.pinned (OpenSpec.ofChange pathPrintsSpec)

/-- ITS FALSE NEIGHBOUR: 'it returns false'. Refute it at one input. -/
def pathPrintsWrong : ChangeSpec := { name := "pathPrints", fn := fun _ => fun
  | [d1, d2] => { results := [.lit (.bool false)], args := [d1, d2] }
  | _ => none }
def PathPrintsWrongFalsely : Prop := pathPrintsRow.holds Tryz.pinned (OpenSpec.ofChange pathPrintsWrong)

/-- 'grammarlablaw08.PathParses': WHATEVER THE INPUT: true; the input reads as it did. -/
def pathParsesSpec : ChangeSpec := { name := "pathParses", fn := fun _ => fun
  | [d1, d2] => { results := [.lit (.bool true)], args := [d1, d2] }
  | _ => none }
def pathParsesRow : OpenClaim := { program := "ytkgbipeaeamohaagreatdoor", sum := "809b317488f6a2838807a9ad1ac88c3af5d609dde6199f807422f3b594422de4", func := "grammarlab/grammarlablaw08.PathParses", spec := "pathParses", inPlace := ["internal/bytealg.CountString", "internal/bytealg.IndexByteString", "internal/bytealg.IndexString", "internal/abi.NoEscape", "internal/bytealg.MakeNoZero"], unfollowed := true, recurses := true, named := ["unicode/utf8.first", "unicode/utf8.acceptRanges", "internal/bytealg.MaxLen"], apart := false, laid := [("unicode/utf8.acceptRanges", laid_unicode_utf8_acceptRanges), ("unicode/utf8.first", laid_unicode_utf8_first)] }
def PathParsesSaid : Prop := pathParsesRow.holds Tryz.pinned (OpenSpec.ofChange pathParsesSpec)

/-- ITS FALSE NEIGHBOUR: 'it returns false'. Refute it at one input. -/
def pathParsesWrong : ChangeSpec := { name := "pathParses", fn := fun _ => fun
  | [d1, d2] => { results := [.lit (.bool false)], args := [d1, d2] }
  | _ => none }
def PathParsesWrongFalsely : Prop := pathParsesRow.holds Tryz.pinned (OpenSpec.ofChange pathParsesWrong)

/-- 'grammarlablaw08.PathEquations': WHATEVER THE INPUT: true; the input reads as it did. -/
def pathEquationsSpec : ChangeSpec := { name := "pathEquations", fn := fun _ => fun
  | [d] => { results := [.lit (.bool true)], args := [d] }
  | _ => none }
def pathEquationsRow : OpenClaim := { program := "ytkgbipeaeamohaagreatdoor", sum := "809b317488f6a2838807a9ad1ac88c3af5d609dde6199f807422f3b594422de4", func := "grammarlab/grammarlablaw08.PathEquations", spec := "pathEquations", inPlace := ["internal/bytealg.CountString", "internal/bytealg.IndexByteString", "internal/bytealg.IndexString", "internal/abi.NoEscape", "internal/bytealg.MakeNoZero"], unfollowed := true, recurses := true, named := ["unicode/utf8.first", "unicode/utf8.acceptRanges", "internal/bytealg.MaxLen"], apart := false, laid := [("unicode/utf8.acceptRanges", laid_unicode_utf8_acceptRanges), ("unicode/utf8.first", laid_unicode_utf8_first)] }
def PathEquationsSaid : Prop := pathEquationsRow.holds Tryz.pinned (OpenSpec.ofChange pathEquationsSpec)

/-- ITS FALSE NEIGHBOUR: 'it returns false'. Refute it at one input. -/
def pathEquationsWrong : ChangeSpec := { name := "pathEquations", fn := fun _ => fun
  | [d] => { results := [.lit (.bool false)], args := [d] }
  | _ => none }
def PathEquationsWrongFalsely : Prop := pathEquationsRow.holds Tryz.pinned (OpenSpec.ofChange pathEquationsWrong)

/-- 'grammarlablaw08.PathLimits': WHATEVER THE INPUT: true; the input reads as it did. -/
def pathLimitsSpec : ChangeSpec := { name := "pathLimits", fn := fun _ => fun
  | [d] => { results := [.lit (.bool true)], args := [d] }
  | _ => none }
def pathLimitsRow : OpenClaim := { program := "ytkgbipeaeamohaagreatdoor", sum := "809b317488f6a2838807a9ad1ac88c3af5d609dde6199f807422f3b594422de4", func := "grammarlab/grammarlablaw08.PathLimits", spec := "pathLimits", inPlace := ["internal/bytealg.CountString", "internal/bytealg.IndexByteString", "internal/bytealg.IndexString", "internal/abi.NoEscape", "internal/bytealg.MakeNoZero"], unfollowed := true, recurses := true, named := ["unicode/utf8.first", "unicode/utf8.acceptRanges", "internal/bytealg.MaxLen"], apart := false, laid := [("unicode/utf8.acceptRanges", laid_unicode_utf8_acceptRanges), ("unicode/utf8.first", laid_unicode_utf8_first)] }
def PathLimitsSaid : Prop := pathLimitsRow.holds Tryz.pinned (OpenSpec.ofChange pathLimitsSpec)

/-- ITS FALSE NEIGHBOUR: 'it returns false'. Refute it at one input. -/
def pathLimitsWrong : ChangeSpec := { name := "pathLimits", fn := fun _ => fun
  | [d] => { results := [.lit (.bool false)], args := [d] }
  | _ => none }
def PathLimitsWrongFalsely : Prop := pathLimitsRow.holds Tryz.pinned (OpenSpec.ofChange pathLimitsWrong)

/-- 'grammarlablaw08.PathFollows': WHATEVER THE INPUT: true; the input reads as it did. -/
def pathFollowsSpec : ChangeSpec := { name := "pathFollows", fn := fun _ => fun
  | [d1, d2] => { results := [.lit (.bool true)], args := [d1, d2] }
  | _ => none }
def pathFollowsRow : OpenClaim := { program := "ytkgbipeaeamohaagreatdoor", sum := "809b317488f6a2838807a9ad1ac88c3af5d609dde6199f807422f3b594422de4", func := "grammarlab/grammarlablaw08.PathFollows", spec := "pathFollows", inPlace := ["internal/bytealg.CountString", "internal/bytealg.IndexByteString", "internal/bytealg.IndexString", "internal/abi.NoEscape", "internal/bytealg.MakeNoZero"], unfollowed := true, recurses := true, named := ["unicode/utf8.first", "unicode/utf8.acceptRanges", "internal/bytealg.MaxLen"], apart := false, laid := [("unicode/utf8.acceptRanges", laid_unicode_utf8_acceptRanges), ("unicode/utf8.first", laid_unicode_utf8_first)] }
def PathFollowsSaid : Prop := pathFollowsRow.holds Tryz.pinned (OpenSpec.ofChange pathFollowsSpec)

/-- ITS FALSE NEIGHBOUR: 'it returns false'. Refute it at one input. -/
def pathFollowsWrong : ChangeSpec := { name := "pathFollows", fn := fun _ => fun
  | [d1, d2] => { results := [.lit (.bool false)], args := [d1, d2] }
  | _ => none }
def PathFollowsWrongFalsely : Prop := pathFollowsRow.holds Tryz.pinned (OpenSpec.ofChange pathFollowsWrong)

/-- 'grammarlablaw08.PathReaches': WHATEVER THE INPUT: true; the input reads as it did. -/
def pathReachesSpec : ChangeSpec := { name := "pathReaches", fn := fun _ => fun
  | [d] => { results := [.lit (.bool true)], args := [d] }
  | _ => none }
def pathReachesRow : OpenClaim := { program := "ytkgbipeaeamohaagreatdoor", sum := "809b317488f6a2838807a9ad1ac88c3af5d609dde6199f807422f3b594422de4", func := "grammarlab/grammarlablaw08.PathReaches", spec := "pathReaches", inPlace := ["internal/bytealg.CountString", "internal/bytealg.IndexByteString", "internal/bytealg.IndexString", "internal/abi.NoEscape", "internal/bytealg.MakeNoZero"], unfollowed := true, recurses := true, named := ["unicode/utf8.first", "unicode/utf8.acceptRanges", "internal/bytealg.MaxLen"], apart := false, laid := [("unicode/utf8.acceptRanges", laid_unicode_utf8_acceptRanges), ("unicode/utf8.first", laid_unicode_utf8_first)] }
def PathReachesSaid : Prop := pathReachesRow.holds Tryz.pinned (OpenSpec.ofChange pathReachesSpec)

/-- ITS FALSE NEIGHBOUR: 'it returns false'. Refute it at one input. -/
def pathReachesWrong : ChangeSpec := { name := "pathReaches", fn := fun _ => fun
  | [d] => { results := [.lit (.bool false)], args := [d] }
  | _ => none }
def PathReachesWrongFalsely : Prop := pathReachesRow.holds Tryz.pinned (OpenSpec.ofChange pathReachesWrong)

/-- 'grammarlablaw08.PathInverse': WHATEVER THE INPUT: true; the input reads as it did. -/
def pathInverseSpec : ChangeSpec := { name := "pathInverse", fn := fun _ => fun
  | [d1, d2] => { results := [.lit (.bool true)], args := [d1, d2] }
  | _ => none }
def pathInverseRow : OpenClaim := { program := "ytkgbipeaeamohaagreatdoor", sum := "809b317488f6a2838807a9ad1ac88c3af5d609dde6199f807422f3b594422de4", func := "grammarlab/grammarlablaw08.PathInverse", spec := "pathInverse", inPlace := ["internal/bytealg.CountString", "internal/bytealg.IndexByteString", "internal/bytealg.IndexString", "internal/abi.NoEscape", "internal/bytealg.MakeNoZero"], unfollowed := true, recurses := true, named := ["unicode/utf8.first", "unicode/utf8.acceptRanges", "internal/bytealg.MaxLen"], apart := false, laid := [("unicode/utf8.acceptRanges", laid_unicode_utf8_acceptRanges), ("unicode/utf8.first", laid_unicode_utf8_first)] }
def PathInverseSaid : Prop := pathInverseRow.holds Tryz.pinned (OpenSpec.ofChange pathInverseSpec)

/-- ITS FALSE NEIGHBOUR: 'it returns false'. Refute it at one input. -/
def pathInverseWrong : ChangeSpec := { name := "pathInverse", fn := fun _ => fun
  | [d1, d2] => { results := [.lit (.bool false)], args := [d1, d2] }
  | _ => none }
def PathInverseWrongFalsely : Prop := pathInverseRow.holds Tryz.pinned (OpenSpec.ofChange pathInverseWrong)

/- THE SECOND FORM. 'bulk': how many values and letters a reading holds, each counted each time it is reached (what is shared counts as often as it is met; a slice's spare places count too). A statement '..UptoSaid' is the law's where the arguments, and the package variables that the reading takes, are together of bulk at most 1048576: NARROWER than '..Said'. Prove '..Said' where nothing that the law and all that it calls make is longer than what came in: it says more and counts as full. Else prove '..UptoSaid'. A law counts once. -/
mutual
def uptoBulk {H : Type} : DataW H → Nat
  | .lit (.string bytes) => bytes.length + 1
  | .lit _ => 1
  | .nil => 1
  | .ptr d => uptoBulk d + 1
  | .slice elems spare => uptoBulkAll elems + uptoBulkAll spare + 1
  | .agg parts => uptoBulkAll parts + 1
  | .iface _ d => uptoBulk d + 1
  | .map entries => uptoBulkEntries entries + 1
  | .held _ => 1
def uptoBulkAll {H : Type} : List (DataW H) → Nat
  | [] => 0
  | d :: r => uptoBulk d + uptoBulkAll r
def uptoBulkEntries {H : Type} : List (Lit × DataW H) → Nat
  | [] => 0
  | x :: r => uptoBulkEntry x + uptoBulkEntries r
def uptoBulkEntry {H : Type} : Lit × DataW H → Nat
  | (.string bytes, d) => bytes.length + uptoBulk d + 1
  | (_, d) => uptoBulk d + 1
 end
def uptoSmall : (H : Type) → List (DataW H) → Bool := fun _ ds => decide (uptoBulkAll ds ≤ 1048576)
def OpenSpec.upto (s : _root_.Go.ChangeSpec) : _root_.Go.OpenSpec := { _root_.Go.OpenSpec.ofChange s with cond := some uptoSmall }

/-- 'grammarlablaw08.PathFirsts', WHERE WHAT IT READS IS OF BULK AT MOST 1048576: true; the input reads as it did. -/
def pathFirstsUptoRow : OpenClaim := { program := "ytkgbipeaeamohaagreatdoor", sum := "809b317488f6a2838807a9ad1ac88c3af5d609dde6199f807422f3b594422de4", func := "grammarlab/grammarlablaw08.PathFirsts", spec := "pathFirsts", inPlace := ["internal/bytealg.CountString", "internal/bytealg.IndexByteString", "internal/bytealg.IndexString", "internal/abi.NoEscape", "internal/bytealg.MakeNoZero"], unfollowed := true, recurses := true, named := ["unicode/utf8.first", "unicode/utf8.acceptRanges", "internal/bytealg.MaxLen"], apart := false, laid := [("unicode/utf8.acceptRanges", laid_unicode_utf8_acceptRanges), ("unicode/utf8.first", laid_unicode_utf8_first)], narrowed := true }
def PathFirstsUptoSaid : Prop := pathFirstsUptoRow.holds Tryz.pinned (OpenSpec.upto pathFirstsSpec)

/-- 'grammarlablaw08.PathUnders', WHERE WHAT IT READS IS OF BULK AT MOST 1048576: true; the input reads as it did. -/
def pathUndersUptoRow : OpenClaim := { program := "ytkgbipeaeamohaagreatdoor", sum := "809b317488f6a2838807a9ad1ac88c3af5d609dde6199f807422f3b594422de4", func := "grammarlab/grammarlablaw08.PathUnders", spec := "pathUnders", inPlace := ["internal/bytealg.CountString", "internal/bytealg.IndexByteString", "internal/bytealg.IndexString", "internal/abi.NoEscape", "internal/bytealg.MakeNoZero"], unfollowed := true, recurses := true, named := ["unicode/utf8.first", "unicode/utf8.acceptRanges", "internal/bytealg.MaxLen"], apart := false, laid := [("unicode/utf8.acceptRanges", laid_unicode_utf8_acceptRanges), ("unicode/utf8.first", laid_unicode_utf8_first)], narrowed := true }
def PathUndersUptoSaid : Prop := pathUndersUptoRow.holds Tryz.pinned (OpenSpec.upto pathUndersSpec)

/-- 'grammarlablaw08.PathPrints', WHERE WHAT IT READS IS OF BULK AT MOST 1048576: true; the input reads as it did. -/
def pathPrintsUptoRow : OpenClaim := { program := "ytkgbipeaeamohaagreatdoor", sum := "809b317488f6a2838807a9ad1ac88c3af5d609dde6199f807422f3b594422de4", func := "grammarlab/grammarlablaw08.PathPrints", spec := "pathPrints", inPlace := ["internal/bytealg.CountString", "internal/bytealg.IndexByteString", "internal/bytealg.IndexString", "internal/abi.NoEscape", "internal/bytealg.MakeNoZero"], unfollowed := true, recurses := true, named := ["unicode/utf8.first", "unicode/utf8.acceptRanges", "internal/bytealg.MaxLen"], apart := false, laid := [("unicode/utf8.acceptRanges", laid_unicode_utf8_acceptRanges), ("unicode/utf8.first", laid_unicode_utf8_first)], narrowed := true }
def PathPrintsUptoSaid : Prop := pathPrintsUptoRow.holds Tryz.pinned (OpenSpec.upto pathPrintsSpec)

/-- 'grammarlablaw08.PathParses', WHERE WHAT IT READS IS OF BULK AT MOST 1048576: true; the input reads as it did. -/
def pathParsesUptoRow : OpenClaim := { program := "ytkgbipeaeamohaagreatdoor", sum := "809b317488f6a2838807a9ad1ac88c3af5d609dde6199f807422f3b594422de4", func := "grammarlab/grammarlablaw08.PathParses", spec := "pathParses", inPlace := ["internal/bytealg.CountString", "internal/bytealg.IndexByteString", "internal/bytealg.IndexString", "internal/abi.NoEscape", "internal/bytealg.MakeNoZero"], unfollowed := true, recurses := true, named := ["unicode/utf8.first", "unicode/utf8.acceptRanges", "internal/bytealg.MaxLen"], apart := false, laid := [("unicode/utf8.acceptRanges", laid_unicode_utf8_acceptRanges), ("unicode/utf8.first", laid_unicode_utf8_first)], narrowed := true }
def PathParsesUptoSaid : Prop := pathParsesUptoRow.holds Tryz.pinned (OpenSpec.upto pathParsesSpec)

/-- 'grammarlablaw08.PathEquations', WHERE WHAT IT READS IS OF BULK AT MOST 1048576: true; the input reads as it did. -/
def pathEquationsUptoRow : OpenClaim := { program := "ytkgbipeaeamohaagreatdoor", sum := "809b317488f6a2838807a9ad1ac88c3af5d609dde6199f807422f3b594422de4", func := "grammarlab/grammarlablaw08.PathEquations", spec := "pathEquations", inPlace := ["internal/bytealg.CountString", "internal/bytealg.IndexByteString", "internal/bytealg.IndexString", "internal/abi.NoEscape", "internal/bytealg.MakeNoZero"], unfollowed := true, recurses := true, named := ["unicode/utf8.first", "unicode/utf8.acceptRanges", "internal/bytealg.MaxLen"], apart := false, laid := [("unicode/utf8.acceptRanges", laid_unicode_utf8_acceptRanges), ("unicode/utf8.first", laid_unicode_utf8_first)], narrowed := true }
def PathEquationsUptoSaid : Prop := pathEquationsUptoRow.holds Tryz.pinned (OpenSpec.upto pathEquationsSpec)

/-- 'grammarlablaw08.PathLimits', WHERE WHAT IT READS IS OF BULK AT MOST 1048576: true; the input reads as it did. -/
def pathLimitsUptoRow : OpenClaim := { program := "ytkgbipeaeamohaagreatdoor", sum := "809b317488f6a2838807a9ad1ac88c3af5d609dde6199f807422f3b594422de4", func := "grammarlab/grammarlablaw08.PathLimits", spec := "pathLimits", inPlace := ["internal/bytealg.CountString", "internal/bytealg.IndexByteString", "internal/bytealg.IndexString", "internal/abi.NoEscape", "internal/bytealg.MakeNoZero"], unfollowed := true, recurses := true, named := ["unicode/utf8.first", "unicode/utf8.acceptRanges", "internal/bytealg.MaxLen"], apart := false, laid := [("unicode/utf8.acceptRanges", laid_unicode_utf8_acceptRanges), ("unicode/utf8.first", laid_unicode_utf8_first)], narrowed := true }
def PathLimitsUptoSaid : Prop := pathLimitsUptoRow.holds Tryz.pinned (OpenSpec.upto pathLimitsSpec)

/-- 'grammarlablaw08.PathFollows', WHERE WHAT IT READS IS OF BULK AT MOST 1048576: true; the input reads as it did. -/
def pathFollowsUptoRow : OpenClaim := { program := "ytkgbipeaeamohaagreatdoor", sum := "809b317488f6a2838807a9ad1ac88c3af5d609dde6199f807422f3b594422de4", func := "grammarlab/grammarlablaw08.PathFollows", spec := "pathFollows", inPlace := ["internal/bytealg.CountString", "internal/bytealg.IndexByteString", "internal/bytealg.IndexString", "internal/abi.NoEscape", "internal/bytealg.MakeNoZero"], unfollowed := true, recurses := true, named := ["unicode/utf8.first", "unicode/utf8.acceptRanges", "internal/bytealg.MaxLen"], apart := false, laid := [("unicode/utf8.acceptRanges", laid_unicode_utf8_acceptRanges), ("unicode/utf8.first", laid_unicode_utf8_first)], narrowed := true }
def PathFollowsUptoSaid : Prop := pathFollowsUptoRow.holds Tryz.pinned (OpenSpec.upto pathFollowsSpec)

/-- 'grammarlablaw08.PathReaches', WHERE WHAT IT READS IS OF BULK AT MOST 1048576: true; the input reads as it did. -/
def pathReachesUptoRow : OpenClaim := { program := "ytkgbipeaeamohaagreatdoor", sum := "809b317488f6a2838807a9ad1ac88c3af5d609dde6199f807422f3b594422de4", func := "grammarlab/grammarlablaw08.PathReaches", spec := "pathReaches", inPlace := ["internal/bytealg.CountString", "internal/bytealg.IndexByteString", "internal/bytealg.IndexString", "internal/abi.NoEscape", "internal/bytealg.MakeNoZero"], unfollowed := true, recurses := true, named := ["unicode/utf8.first", "unicode/utf8.acceptRanges", "internal/bytealg.MaxLen"], apart := false, laid := [("unicode/utf8.acceptRanges", laid_unicode_utf8_acceptRanges), ("unicode/utf8.first", laid_unicode_utf8_first)], narrowed := true }
def PathReachesUptoSaid : Prop := pathReachesUptoRow.holds Tryz.pinned (OpenSpec.upto pathReachesSpec)

/-- 'grammarlablaw08.PathInverse', WHERE WHAT IT READS IS OF BULK AT MOST 1048576: true; the input reads as it did. -/
def pathInverseUptoRow : OpenClaim := { program := "ytkgbipeaeamohaagreatdoor", sum := "809b317488f6a2838807a9ad1ac88c3af5d609dde6199f807422f3b594422de4", func := "grammarlab/grammarlablaw08.PathInverse", spec := "pathInverse", inPlace := ["internal/bytealg.CountString", "internal/bytealg.IndexByteString", "internal/bytealg.IndexString", "internal/abi.NoEscape", "internal/bytealg.MakeNoZero"], unfollowed := true, recurses := true, named := ["unicode/utf8.first", "unicode/utf8.acceptRanges", "internal/bytealg.MaxLen"], apart := false, laid := [("unicode/utf8.acceptRanges", laid_unicode_utf8_acceptRanges), ("unicode/utf8.first", laid_unicode_utf8_first)], narrowed := true }
def PathInverseUptoSaid : Prop := pathInverseUptoRow.holds Tryz.pinned (OpenSpec.upto pathInverseSpec)

end Rows
end Go.Proofs.YtkgbipeaeamohaaGreatDoor
