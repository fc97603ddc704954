/-
  No cell of these rows narrows 'for every input' (looked for: loops, veiled, ifaces, maps, wideKeys, modest, calm, conditions, laid).
  DERIVED. THE GIVEN ROWS OF THIS SEAT. 6 by the template 'for every input the law returns true; each argument reads behind the call as it read before'; 0 by the template 'total and deterministic' (their statements: YtmflfedkfdkipaaGreatTotals.lean).
  GIVEN WITH THE SEED: the statements are not yours to turn. If you find one false, say at which input.
  Laid BY PROGRAM, IN A SANDBOX (cutbox-rows.mjs): the forced cells as the released guide's own fill.sh prints them over the translation 4dcb35758b5e8542… (all of the seat's roots in one cut). By AI agents, Wed Nov 11 2026. No macro, syntax, notation, axiom, sorry.
-/
import Derived.Test.YtmflfedkfdkipaaGreatChecked
import GoSem.Claim
import GoSem.ClaimJoined
import GoSem.ClaimMapViews
import Derived.JoinedTies
import Derived.KernelRfl
namespace Go.Proofs.YtmflfedkfdkipaaGreat
/- THE CELL 'sum', in the pinned program and in every row, IS THE sha256 OF THE DUMP (.gsa) THAT YtmflfedkfdkipaaGreatProg.lean LOADS. Nothing in Lean hashes anything: it is a label: what it is worth is what the hold of that sum in a sandbox is worth. -/
noncomputable def Tryz.pinned : Pinned := { name := "ytmflfedkfdkipaagreat", sum := "4dcb35758b5e854243269f2e21b114ccf712056186d15a37d9f263eb398a41db", checked := Tryz.checked }
namespace Rows
def none {H : Type} : Left H := { results := [], args := [] }

/-- 'grammarlablaw13.QuasiPlays': WHATEVER THE INPUT: true; the input reads as it did. -/
def quasiPlaysSpec : ChangeSpec := { name := "quasiPlays", fn := fun _ => fun
  | [d1, d2] => { results := [.lit (.bool true)], args := [d1, d2] }
  | _ => none }
def quasiPlaysRow : OpenClaim := { program := "ytmflfedkfdkipaagreat", sum := "4dcb35758b5e854243269f2e21b114ccf712056186d15a37d9f263eb398a41db", func := "grammarlab/grammarlablaw13.QuasiPlays", spec := "quasiPlays", unfollowed := true, recurses := true, apart := false }
def QuasiPlaysSaid : Prop := quasiPlaysRow.holds Tryz.pinned (OpenSpec.ofChange quasiPlaysSpec)

/-- ITS FALSE NEIGHBOUR: 'it returns false'. Refute it at one input. -/
def quasiPlaysWrong : ChangeSpec := { name := "quasiPlays", fn := fun _ => fun
  | [d1, d2] => { results := [.lit (.bool false)], args := [d1, d2] }
  | _ => none }
def QuasiPlaysWrongFalsely : Prop := quasiPlaysRow.holds Tryz.pinned (OpenSpec.ofChange quasiPlaysWrong)

/-- 'grammarlablaw13.QuasiBounds': WHATEVER THE INPUT: true; the input reads as it did. -/
def quasiBoundsSpec : ChangeSpec := { name := "quasiBounds", fn := fun _ => fun
  | [d1, d2] => { results := [.lit (.bool true)], args := [d1, d2] }
  | _ => none }
def quasiBoundsRow : OpenClaim := { program := "ytmflfedkfdkipaagreat", sum := "4dcb35758b5e854243269f2e21b114ccf712056186d15a37d9f263eb398a41db", func := "grammarlab/grammarlablaw13.QuasiBounds", spec := "quasiBounds", unfollowed := true, recurses := true, apart := false }
def QuasiBoundsSaid : Prop := quasiBoundsRow.holds Tryz.pinned (OpenSpec.ofChange quasiBoundsSpec)

/-- ITS FALSE NEIGHBOUR: 'it returns false'. Refute it at one input. -/
def quasiBoundsWrong : ChangeSpec := { name := "quasiBounds", fn := fun _ => fun
  | [d1, d2] => { results := [.lit (.bool false)], args := [d1, d2] }
  | _ => none }
def QuasiBoundsWrongFalsely : Prop := quasiBoundsRow.holds Tryz.pinned (OpenSpec.ofChange quasiBoundsWrong)

/-- 'grammarlablaw13.QuasiNumbers': WHATEVER THE INPUT: true; the input reads as it did. -/
def quasiNumbersSpec : ChangeSpec := { name := "quasiNumbers", fn := fun _ => fun
  | [d1, d2, d3] => { results := [.lit (.bool true)], args := [d1, d2, d3] }
  | _ => none }
def quasiNumbersRow : OpenClaim := { program := "ytmflfedkfdkipaagreat", sum := "4dcb35758b5e854243269f2e21b114ccf712056186d15a37d9f263eb398a41db", func := "grammarlab/grammarlablaw13.QuasiNumbers", spec := "quasiNumbers", unfollowed := true, recurses := true, apart := false }
def QuasiNumbersSaid : Prop := quasiNumbersRow.holds Tryz.pinned (OpenSpec.ofChange quasiNumbersSpec)

/-- ITS FALSE NEIGHBOUR: 'it returns false'. Refute it at one input. -/
def quasiNumbersWrong : ChangeSpec := { name := "quasiNumbers", fn := fun _ => fun
  | [d1, d2, d3] => { results := [.lit (.bool false)], args := [d1, d2, d3] }
  | _ => none }
def QuasiNumbersWrongFalsely : Prop := quasiNumbersRow.holds Tryz.pinned (OpenSpec.ofChange quasiNumbersWrong)

/-- 'grammarlablaw13.QuasiLaws': WHATEVER THE INPUT: true; the input reads as it did. -/
def quasiLawsSpec : ChangeSpec := { name := "quasiLaws", fn := fun _ => fun
  | [d1, d2] => { results := [.lit (.bool true)], args := [d1, d2] }
  | _ => none }
def quasiLawsRow : OpenClaim := { program := "ytmflfedkfdkipaagreat", sum := "4dcb35758b5e854243269f2e21b114ccf712056186d15a37d9f263eb398a41db", func := "grammarlab/grammarlablaw13.QuasiLaws", spec := "quasiLaws", unfollowed := true, recurses := true, apart := false }
def QuasiLawsSaid : Prop := quasiLawsRow.holds Tryz.pinned (OpenSpec.ofChange quasiLawsSpec)

/-- ITS FALSE NEIGHBOUR: 'it returns false'. Refute it at one input. -/
def quasiLawsWrong : ChangeSpec := { name := "quasiLaws", fn := fun _ => fun
  | [d1, d2] => { results := [.lit (.bool false)], args := [d1, d2] }
  | _ => none }
def QuasiLawsWrongFalsely : Prop := quasiLawsRow.holds Tryz.pinned (OpenSpec.ofChange quasiLawsWrong)

/-- 'grammarlablaw13.QuasiUnifies': WHATEVER THE INPUT: true; the input reads as it did. -/
def quasiUnifiesSpec : ChangeSpec := { name := "quasiUnifies", fn := fun _ => fun
  | [d1, d2, d3] => { results := [.lit (.bool true)], args := [d1, d2, d3] }
  | _ => none }
def quasiUnifiesRow : OpenClaim := { program := "ytmflfedkfdkipaagreat", sum := "4dcb35758b5e854243269f2e21b114ccf712056186d15a37d9f263eb398a41db", func := "grammarlab/grammarlablaw13.QuasiUnifies", spec := "quasiUnifies", unfollowed := true, recurses := true, apart := false }
def QuasiUnifiesSaid : Prop := quasiUnifiesRow.holds Tryz.pinned (OpenSpec.ofChange quasiUnifiesSpec)

/-- ITS FALSE NEIGHBOUR: 'it returns false'. Refute it at one input. -/
def quasiUnifiesWrong : ChangeSpec := { name := "quasiUnifies", fn := fun _ => fun
  | [d1, d2, d3] => { results := [.lit (.bool false)], args := [d1, d2, d3] }
  | _ => none }
def QuasiUnifiesWrongFalsely : Prop := quasiUnifiesRow.holds Tryz.pinned (OpenSpec.ofChange quasiUnifiesWrong)

/-- 'grammarlablaw13.QuasiHeaps': WHATEVER THE INPUT: true; the input reads as it did. -/
def quasiHeapsSpec : ChangeSpec := { name := "quasiHeaps", fn := fun _ => fun
  | [d1, d2] => { results := [.lit (.bool true)], args := [d1, d2] }
  | _ => none }
def quasiHeapsRow : OpenClaim := { program := "ytmflfedkfdkipaagreat", sum := "4dcb35758b5e854243269f2e21b114ccf712056186d15a37d9f263eb398a41db", func := "grammarlab/grammarlablaw13.QuasiHeaps", spec := "quasiHeaps", inPlace := ["slices.overlaps[grammarlab/api.Arc]"], unfollowed := true, recurses := true, apart := false }
def QuasiHeapsSaid : Prop := quasiHeapsRow.holds Tryz.pinned (OpenSpec.ofChange quasiHeapsSpec)

/-- ITS FALSE NEIGHBOUR: 'it returns false'. Refute it at one input. -/
def quasiHeapsWrong : ChangeSpec := { name := "quasiHeaps", fn := fun _ => fun
  | [d1, d2] => { results := [.lit (.bool false)], args := [d1, d2] }
  | _ => none }
def QuasiHeapsWrongFalsely : Prop := quasiHeapsRow.holds Tryz.pinned (OpenSpec.ofChange quasiHeapsWrong)

/- THE SECOND FORM. 'bulk': how many values and letters a reading holds, each counted each time it is reached (what is shared counts as often as it is met; a slice's spare places count too). A statement '..UptoSaid' is the law's where the arguments, and the package variables that the reading takes, are together of bulk at most 1048576: NARROWER than '..Said'. Prove '..Said' where nothing that the law and all that it calls make is longer than what came in: it says more and counts as full. Else prove '..UptoSaid'. A law counts once. -/
mutual
def uptoBulk {H : Type} : DataW H → Nat
  | .lit (.string bytes) => bytes.length + 1
  | .lit _ => 1
  | .nil => 1
  | .ptr d => uptoBulk d + 1
  | .slice elems spare => uptoBulkAll elems + uptoBulkAll spare + 1
  | .agg parts => uptoBulkAll parts + 1
  | .iface _ d => uptoBulk d + 1
  | .map entries => uptoBulkEntries entries + 1
  | .held _ => 1
def uptoBulkAll {H : Type} : List (DataW H) → Nat
  | [] => 0
  | d :: r => uptoBulk d + uptoBulkAll r
def uptoBulkEntries {H : Type} : List (Lit × DataW H) → Nat
  | [] => 0
  | x :: r => uptoBulkEntry x + uptoBulkEntries r
def uptoBulkEntry {H : Type} : Lit × DataW H → Nat
  | (.string bytes, d) => bytes.length + uptoBulk d + 1
  | (_, d) => uptoBulk d + 1
 end
def uptoSmall : (H : Type) → List (DataW H) → Bool := fun _ ds => decide (uptoBulkAll ds ≤ 1048576)
def OpenSpec.upto (s : _root_.Go.ChangeSpec) : _root_.Go.OpenSpec := { _root_.Go.OpenSpec.ofChange s with cond := some uptoSmall }

/-- 'grammarlablaw13.QuasiPlays', WHERE WHAT IT READS IS OF BULK AT MOST 1048576: true; the input reads as it did. -/
def quasiPlaysUptoRow : OpenClaim := { program := "ytmflfedkfdkipaagreat", sum := "4dcb35758b5e854243269f2e21b114ccf712056186d15a37d9f263eb398a41db", func := "grammarlab/grammarlablaw13.QuasiPlays", spec := "quasiPlays", unfollowed := true, recurses := true, apart := false, narrowed := true }
def QuasiPlaysUptoSaid : Prop := quasiPlaysUptoRow.holds Tryz.pinned (OpenSpec.upto quasiPlaysSpec)

/-- 'grammarlablaw13.QuasiBounds', WHERE WHAT IT READS IS OF BULK AT MOST 1048576: true; the input reads as it did. -/
def quasiBoundsUptoRow : OpenClaim := { program := "ytmflfedkfdkipaagreat", sum := "4dcb35758b5e854243269f2e21b114ccf712056186d15a37d9f263eb398a41db", func := "grammarlab/grammarlablaw13.QuasiBounds", spec := "quasiBounds", unfollowed := true, recurses := true, apart := false, narrowed := true }
def QuasiBoundsUptoSaid : Prop := quasiBoundsUptoRow.holds Tryz.pinned (OpenSpec.upto quasiBoundsSpec)

/-- 'grammarlablaw13.QuasiNumbers', WHERE WHAT IT READS IS OF BULK AT MOST 1048576: true; the input reads as it did. -/
def quasiNumbersUptoRow : OpenClaim := { program := "ytmflfedkfdkipaagreat", sum := "4dcb35758b5e854243269f2e21b114ccf712056186d15a37d9f263eb398a41db", func := "grammarlab/grammarlablaw13.QuasiNumbers", spec := "quasiNumbers", unfollowed := true, recurses := true, apart := false, narrowed := true }
def QuasiNumbersUptoSaid : Prop := quasiNumbersUptoRow.holds Tryz.pinned (OpenSpec.upto quasiNumbersSpec)

/-- 'grammarlablaw13.QuasiLaws', WHERE WHAT IT READS IS OF BULK AT MOST 1048576: true; the input reads as it did. -/
def quasiLawsUptoRow : OpenClaim := { program := "ytmflfedkfdkipaagreat", sum := "4dcb35758b5e854243269f2e21b114ccf712056186d15a37d9f263eb398a41db", func := "grammarlab/grammarlablaw13.QuasiLaws", spec := "quasiLaws", unfollowed := true, recurses := true, apart := false, narrowed := true }
def QuasiLawsUptoSaid : Prop := quasiLawsUptoRow.holds Tryz.pinned (OpenSpec.upto quasiLawsSpec)

/-- 'grammarlablaw13.QuasiUnifies', WHERE WHAT IT READS IS OF BULK AT MOST 1048576: true; the input reads as it did. -/
def quasiUnifiesUptoRow : OpenClaim := { program := "ytmflfedkfdkipaagreat", sum := "4dcb35758b5e854243269f2e21b114ccf712056186d15a37d9f263eb398a41db", func := "grammarlab/grammarlablaw13.QuasiUnifies", spec := "quasiUnifies", unfollowed := true, recurses := true, apart := false, narrowed := true }
def QuasiUnifiesUptoSaid : Prop := quasiUnifiesUptoRow.holds Tryz.pinned (OpenSpec.upto quasiUnifiesSpec)

/-- 'grammarlablaw13.QuasiHeaps', WHERE WHAT IT READS IS OF BULK AT MOST 1048576: true; the input reads as it did. -/
def quasiHeapsUptoRow : OpenClaim := { program := "ytmflfedkfdkipaagreat", sum := "4dcb35758b5e854243269f2e21b114ccf712056186d15a37d9f263eb398a41db", func := "grammarlab/grammarlablaw13.QuasiHeaps", spec := "quasiHeaps", inPlace := ["slices.overlaps[grammarlab/api.Arc]"], unfollowed := true, recurses := true, apart := false, narrowed := true }
def QuasiHeapsUptoSaid : Prop := quasiHeapsUptoRow.holds Tryz.pinned (OpenSpec.upto quasiHeapsSpec)

end Rows
end Go.Proofs.YtmflfedkfdkipaaGreat
