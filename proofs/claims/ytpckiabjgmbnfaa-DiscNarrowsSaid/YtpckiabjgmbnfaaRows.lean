/-
  NARROWER THAN 'FOR EVERY INPUT', by the rows' own cells (each row's printed sentence says how): DiscProps: loops · DiscDiscriminants: loops · DiscDecisions: loops · DiscDifferent: loops · DiscNarrows: loops · DiscOpen: loops · DiscOrders: loops.
  DERIVED. THE GIVEN ROWS OF THIS SEAT. 7 by the template 'for every input the law returns true; each argument reads behind the call as it read before'; 0 by the template 'total and deterministic' (their statements: YtpckiabjgmbnfaaTotals.lean).
  GIVEN WITH THE SEED: the statements are not yours to turn. If you find one false, say at which input.
  Laid BY PROGRAM, IN A SANDBOX (cutbox-rows.mjs): the forced cells as the released guide's own fill.sh prints them over the translation 8b9d5dff3376974a… (all of the seat's roots in one cut). By AI agents, Wed Nov 11 2026. No macro, syntax, notation, axiom, sorry.
-/
import Derived.Test.YtpckiabjgmbnfaaChecked
import GoSem.Claim
import GoSem.ClaimJoined
import GoSem.ClaimMapViews
import Derived.JoinedTies
import Derived.KernelRfl
namespace Go.Proofs.Ytpckiabjgmbnfaa
/- THE CELL 'sum', in the pinned program and in every row, IS THE sha256 OF THE DUMP (.gsa) THAT YtpckiabjgmbnfaaProg.lean LOADS. Nothing in Lean hashes anything: it is a label: what it is worth is what the hold of that sum in a sandbox is worth. -/
noncomputable def Try.pinned : Pinned := { name := "ytpckiabjgmbnfaa", sum := "8b9d5dff3376974a994879e1d07ca98f81c933d7722213d1a671464727bc01a0", checked := Try.checked }
namespace Rows
def none {H : Type} : Left H := { results := [], args := [] }

/-- 'grammarlablaw45.DiscProps': WHATEVER THE INPUT: true; the input reads as it did. -/
def discPropsSpec : ChangeSpec := { name := "discProps", fn := fun _ => fun
  | [d1, d2] => { results := [.lit (.bool true)], args := [d1, d2] }
  | _ => none }
def discPropsRow : OpenClaim := { program := "ytpckiabjgmbnfaa", sum := "8b9d5dff3376974a994879e1d07ca98f81c933d7722213d1a671464727bc01a0", func := "grammarlab/grammarlablaw45.DiscProps", spec := "discProps", unfollowed := true, recurses := true, loops := true, apart := false }
def DiscPropsSaid : Prop := discPropsRow.holds Try.pinned (OpenSpec.ofChange discPropsSpec)

/-- ITS FALSE NEIGHBOUR: 'it returns false'. Refute it at one input. -/
def discPropsWrong : ChangeSpec := { name := "discProps", fn := fun _ => fun
  | [d1, d2] => { results := [.lit (.bool false)], args := [d1, d2] }
  | _ => none }
def DiscPropsWrongFalsely : Prop := discPropsRow.holds Try.pinned (OpenSpec.ofChange discPropsWrong)

/-- 'grammarlablaw45.DiscDiscriminants': WHATEVER THE INPUT: true; the input reads as it did. -/
def discDiscriminantsSpec : ChangeSpec := { name := "discDiscriminants", fn := fun _ => fun
  | [d] => { results := [.lit (.bool true)], args := [d] }
  | _ => none }
def discDiscriminantsRow : OpenClaim := { program := "ytpckiabjgmbnfaa", sum := "8b9d5dff3376974a994879e1d07ca98f81c933d7722213d1a671464727bc01a0", func := "grammarlab/grammarlablaw45.DiscDiscriminants", spec := "discDiscriminants", unfollowed := true, recurses := true, loops := true, apart := false }
def DiscDiscriminantsSaid : Prop := discDiscriminantsRow.holds Try.pinned (OpenSpec.ofChange discDiscriminantsSpec)

/-- ITS FALSE NEIGHBOUR: 'it returns false'. Refute it at one input. -/
def discDiscriminantsWrong : ChangeSpec := { name := "discDiscriminants", fn := fun _ => fun
  | [d] => { results := [.lit (.bool false)], args := [d] }
  | _ => none }
def DiscDiscriminantsWrongFalsely : Prop := discDiscriminantsRow.holds Try.pinned (OpenSpec.ofChange discDiscriminantsWrong)

/-- 'grammarlablaw45.DiscDecisions': WHATEVER THE INPUT: true; the input reads as it did. -/
def discDecisionsSpec : ChangeSpec := { name := "discDecisions", fn := fun _ => fun
  | [d1, d2] => { results := [.lit (.bool true)], args := [d1, d2] }
  | _ => none }
def discDecisionsRow : OpenClaim := { program := "ytpckiabjgmbnfaa", sum := "8b9d5dff3376974a994879e1d07ca98f81c933d7722213d1a671464727bc01a0", func := "grammarlab/grammarlablaw45.DiscDecisions", spec := "discDecisions", unfollowed := true, recurses := true, loops := true, apart := false }
def DiscDecisionsSaid : Prop := discDecisionsRow.holds Try.pinned (OpenSpec.ofChange discDecisionsSpec)

/-- ITS FALSE NEIGHBOUR: 'it returns false'. Refute it at one input. -/
def discDecisionsWrong : ChangeSpec := { name := "discDecisions", fn := fun _ => fun
  | [d1, d2] => { results := [.lit (.bool false)], args := [d1, d2] }
  | _ => none }
def DiscDecisionsWrongFalsely : Prop := discDecisionsRow.holds Try.pinned (OpenSpec.ofChange discDecisionsWrong)

/-- 'grammarlablaw45.DiscDifferent': WHATEVER THE INPUT: true; the input reads as it did. -/
def discDifferentSpec : ChangeSpec := { name := "discDifferent", fn := fun _ => fun
  | [d1, d2] => { results := [.lit (.bool true)], args := [d1, d2] }
  | _ => none }
def discDifferentRow : OpenClaim := { program := "ytpckiabjgmbnfaa", sum := "8b9d5dff3376974a994879e1d07ca98f81c933d7722213d1a671464727bc01a0", func := "grammarlab/grammarlablaw45.DiscDifferent", spec := "discDifferent", unfollowed := true, recurses := true, loops := true, apart := false }
def DiscDifferentSaid : Prop := discDifferentRow.holds Try.pinned (OpenSpec.ofChange discDifferentSpec)

/-- ITS FALSE NEIGHBOUR: 'it returns false'. Refute it at one input. -/
def discDifferentWrong : ChangeSpec := { name := "discDifferent", fn := fun _ => fun
  | [d1, d2] => { results := [.lit (.bool false)], args := [d1, d2] }
  | _ => none }
def DiscDifferentWrongFalsely : Prop := discDifferentRow.holds Try.pinned (OpenSpec.ofChange discDifferentWrong)

/-- 'grammarlablaw45.DiscNarrows': WHATEVER THE INPUT: true; the input reads as it did. -/
def discNarrowsSpec : ChangeSpec := { name := "discNarrows", fn := fun _ => fun
  | [d1, d2, d3] => { results := [.lit (.bool true)], args := [d1, d2, d3] }
  | _ => none }
def discNarrowsRow : OpenClaim := { program := "ytpckiabjgmbnfaa", sum := "8b9d5dff3376974a994879e1d07ca98f81c933d7722213d1a671464727bc01a0", func := "grammarlab/grammarlablaw45.DiscNarrows", spec := "discNarrows", unfollowed := true, recurses := true, loops := true, apart := false }
def DiscNarrowsSaid : Prop := discNarrowsRow.holds Try.pinned (OpenSpec.ofChange discNarrowsSpec)

/-- ITS FALSE NEIGHBOUR: 'it returns false'. Refute it at one input. -/
def discNarrowsWrong : ChangeSpec := { name := "discNarrows", fn := fun _ => fun
  | [d1, d2, d3] => { results := [.lit (.bool false)], args := [d1, d2, d3] }
  | _ => none }
def DiscNarrowsWrongFalsely : Prop := discNarrowsRow.holds Try.pinned (OpenSpec.ofChange discNarrowsWrong)

/-- 'grammarlablaw45.DiscOpen': WHATEVER THE INPUT: true; the input reads as it did. -/
def discOpenSpec : ChangeSpec := { name := "discOpen", fn := fun _ => fun
  | [d1, d2] => { results := [.lit (.bool true)], args := [d1, d2] }
  | _ => none }
def discOpenRow : OpenClaim := { program := "ytpckiabjgmbnfaa", sum := "8b9d5dff3376974a994879e1d07ca98f81c933d7722213d1a671464727bc01a0", func := "grammarlab/grammarlablaw45.DiscOpen", spec := "discOpen", unfollowed := true, recurses := true, loops := true, apart := false }
def DiscOpenSaid : Prop := discOpenRow.holds Try.pinned (OpenSpec.ofChange discOpenSpec)

/-- ITS FALSE NEIGHBOUR: 'it returns false'. Refute it at one input. -/
def discOpenWrong : ChangeSpec := { name := "discOpen", fn := fun _ => fun
  | [d1, d2] => { results := [.lit (.bool false)], args := [d1, d2] }
  | _ => none }
def DiscOpenWrongFalsely : Prop := discOpenRow.holds Try.pinned (OpenSpec.ofChange discOpenWrong)

/-- 'grammarlablaw45.DiscOrders': WHATEVER THE INPUT: true; the input reads as it did. -/
def discOrdersSpec : ChangeSpec := { name := "discOrders", fn := fun _ => fun
  | [d1, d2] => { results := [.lit (.bool true)], args := [d1, d2] }
  | _ => none }
def discOrdersRow : OpenClaim := { program := "ytpckiabjgmbnfaa", sum := "8b9d5dff3376974a994879e1d07ca98f81c933d7722213d1a671464727bc01a0", func := "grammarlab/grammarlablaw45.DiscOrders", spec := "discOrders", unfollowed := true, recurses := true, loops := true, apart := false }
def DiscOrdersSaid : Prop := discOrdersRow.holds Try.pinned (OpenSpec.ofChange discOrdersSpec)

/-- ITS FALSE NEIGHBOUR: 'it returns false'. Refute it at one input. -/
def discOrdersWrong : ChangeSpec := { name := "discOrders", fn := fun _ => fun
  | [d1, d2] => { results := [.lit (.bool false)], args := [d1, d2] }
  | _ => none }
def DiscOrdersWrongFalsely : Prop := discOrdersRow.holds Try.pinned (OpenSpec.ofChange discOrdersWrong)

/- THE SECOND FORM. 'bulk': how many values and letters a reading holds, each counted each time it is reached (what is shared counts as often as it is met; a slice's spare places count too). A statement '..UptoSaid' is the law's where the arguments, and the package variables that the reading takes, are together of bulk at most 1048576: NARROWER than '..Said'. Prove '..Said' where nothing that the law and all that it calls make is longer than what came in: it says more and counts as full. Else prove '..UptoSaid'. A law counts once. -/
mutual
def uptoBulk {H : Type} : DataW H → Nat
  | .lit (.string bytes) => bytes.length + 1
  | .lit _ => 1
  | .nil => 1
  | .ptr d => uptoBulk d + 1
  | .slice elems spare => uptoBulkAll elems + uptoBulkAll spare + 1
  | .agg parts => uptoBulkAll parts + 1
  | .iface _ d => uptoBulk d + 1
  | .map entries => uptoBulkEntries entries + 1
  | .held _ => 1
def uptoBulkAll {H : Type} : List (DataW H) → Nat
  | [] => 0
  | d :: r => uptoBulk d + uptoBulkAll r
def uptoBulkEntries {H : Type} : List (Lit × DataW H) → Nat
  | [] => 0
  | x :: r => uptoBulkEntry x + uptoBulkEntries r
def uptoBulkEntry {H : Type} : Lit × DataW H → Nat
  | (.string bytes, d) => bytes.length + uptoBulk d + 1
  | (_, d) => uptoBulk d + 1
 end
def uptoSmall : (H : Type) → List (DataW H) → Bool := fun _ ds => decide (uptoBulkAll ds ≤ 1048576)
def OpenSpec.upto (s : _root_.Go.ChangeSpec) : _root_.Go.OpenSpec := { _root_.Go.OpenSpec.ofChange s with cond := some uptoSmall }

/-- 'grammarlablaw45.DiscProps', WHERE WHAT IT READS IS OF BULK AT MOST 1048576: true; the input reads as it did. -/
def discPropsUptoRow : OpenClaim := { program := "ytpckiabjgmbnfaa", sum := "8b9d5dff3376974a994879e1d07ca98f81c933d7722213d1a671464727bc01a0", func := "grammarlab/grammarlablaw45.DiscProps", spec := "discProps", unfollowed := true, recurses := true, loops := true, apart := false, narrowed := true }
def DiscPropsUptoSaid : Prop := discPropsUptoRow.holds Try.pinned (OpenSpec.upto discPropsSpec)

/-- 'grammarlablaw45.DiscDiscriminants', WHERE WHAT IT READS IS OF BULK AT MOST 1048576: true; the input reads as it did. -/
def discDiscriminantsUptoRow : OpenClaim := { program := "ytpckiabjgmbnfaa", sum := "8b9d5dff3376974a994879e1d07ca98f81c933d7722213d1a671464727bc01a0", func := "grammarlab/grammarlablaw45.DiscDiscriminants", spec := "discDiscriminants", unfollowed := true, recurses := true, loops := true, apart := false, narrowed := true }
def DiscDiscriminantsUptoSaid : Prop := discDiscriminantsUptoRow.holds Try.pinned (OpenSpec.upto discDiscriminantsSpec)

/-- 'grammarlablaw45.DiscDecisions', WHERE WHAT IT READS IS OF BULK AT MOST 1048576: true; the input reads as it did. -/
def discDecisionsUptoRow : OpenClaim := { program := "ytpckiabjgmbnfaa", sum := "8b9d5dff3376974a994879e1d07ca98f81c933d7722213d1a671464727bc01a0", func := "grammarlab/grammarlablaw45.DiscDecisions", spec := "discDecisions", unfollowed := true, recurses := true, loops := true, apart := false, narrowed := true }
def DiscDecisionsUptoSaid : Prop := discDecisionsUptoRow.holds Try.pinned (OpenSpec.upto discDecisionsSpec)

/-- 'grammarlablaw45.DiscDifferent', WHERE WHAT IT READS IS OF BULK AT MOST 1048576: true; the input reads as it did. -/
def discDifferentUptoRow : OpenClaim := { program := "ytpckiabjgmbnfaa", sum := "8b9d5dff3376974a994879e1d07ca98f81c933d7722213d1a671464727bc01a0", func := "grammarlab/grammarlablaw45.DiscDifferent", spec := "discDifferent", unfollowed := true, recurses := true, loops := true, apart := false, narrowed := true }
def DiscDifferentUptoSaid : Prop := discDifferentUptoRow.holds Try.pinned (OpenSpec.upto discDifferentSpec)

/-- 'grammarlablaw45.DiscNarrows', WHERE WHAT IT READS IS OF BULK AT MOST 1048576: true; the input reads as it did. -/
def discNarrowsUptoRow : OpenClaim := { program := "ytpckiabjgmbnfaa", sum := "8b9d5dff3376974a994879e1d07ca98f81c933d7722213d1a671464727bc01a0", func := "grammarlab/grammarlablaw45.DiscNarrows", spec := "discNarrows", unfollowed := true, recurses := true, loops := true, apart := false, narrowed := true }
def DiscNarrowsUptoSaid : Prop := discNarrowsUptoRow.holds Try.pinned (OpenSpec.upto discNarrowsSpec)

/-- 'grammarlablaw45.DiscOpen', WHERE WHAT IT READS IS OF BULK AT MOST 1048576: true; the input reads as it did. -/
def discOpenUptoRow : OpenClaim := { program := "ytpckiabjgmbnfaa", sum := "8b9d5dff3376974a994879e1d07ca98f81c933d7722213d1a671464727bc01a0", func := "grammarlab/grammarlablaw45.DiscOpen", spec := "discOpen", unfollowed := true, recurses := true, loops := true, apart := false, narrowed := true }
def DiscOpenUptoSaid : Prop := discOpenUptoRow.holds Try.pinned (OpenSpec.upto discOpenSpec)

/-- 'grammarlablaw45.DiscOrders', WHERE WHAT IT READS IS OF BULK AT MOST 1048576: true; the input reads as it did. -/
def discOrdersUptoRow : OpenClaim := { program := "ytpckiabjgmbnfaa", sum := "8b9d5dff3376974a994879e1d07ca98f81c933d7722213d1a671464727bc01a0", func := "grammarlab/grammarlablaw45.DiscOrders", spec := "discOrders", unfollowed := true, recurses := true, loops := true, apart := false, narrowed := true }
def DiscOrdersUptoSaid : Prop := discOrdersUptoRow.holds Try.pinned (OpenSpec.upto discOrdersSpec)

end Rows
end Go.Proofs.Ytpckiabjgmbnfaa
