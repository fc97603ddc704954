/-
  DERIVED. GIVEN WITH THE SEED: THE CARDS: each row of YtkgbipeaeamohaaGreatDoorRows.lean that lists a variable, with what it lists TIED to the program's text (the seventh form; the later family's looks); each row that meets fmt, with fmt's text TOLD by the authors' own Lean function (tested against real Go, not proved from fmt's source: count such statements apart). THE CARD IS WHAT COUNTS. Prove the row's statement (the work); the ties are given (YtkgbipeaeamohaaGreatDoorTie.lean); close each card by the builder's one call (the guide's Derived/Test/ToyasCard.lean, 'card_holds'). Laid BY PROGRAM, IN A SANDBOX (cutbox-door.mjs). By AI agents, Wed Nov 11 2026. No macro, syntax, notation, axiom, sorry.
-/
import Derived.Test.YtkgbipeaeamohaaGreatDoorRows
import GoSem.ClaimSeven
namespace Go.Proofs.YtkgbipeaeamohaaGreatDoor
namespace Rows

/-- THE TIED CARD OF 'grammarlablaw08.PathFirsts'. -/
def pathFirstsCard : Claim7 := { stood := { row := pathFirstsRow, standIns := [], harness := (true, "a737fb265f06fd8acadb6fa19d7157277742c8540cf10787b37e240b5c23abd0"), looks := false }, kinds := [], alts := [], laidByText := true, laidKinds := [.data, .pinned], laidTests := true, laidLooks := .later }
def PathFirstsCardSaid : Prop := Claim7.holds Tryz.pinned (.plain (OpenSpec.ofChange pathFirstsSpec)) pathFirstsCard

/-- THE TIED CARD OF 'grammarlablaw08.PathUnders'. -/
def pathUndersCard : Claim7 := { stood := { row := pathUndersRow, standIns := [], harness := (true, "a737fb265f06fd8acadb6fa19d7157277742c8540cf10787b37e240b5c23abd0"), looks := false }, kinds := [], alts := [], laidByText := true, laidKinds := [.data, .pinned], laidTests := true, laidLooks := .later }
def PathUndersCardSaid : Prop := Claim7.holds Tryz.pinned (.plain (OpenSpec.ofChange pathUndersSpec)) pathUndersCard

/-- THE TIED CARD OF 'grammarlablaw08.PathPrints'. -/
def pathPrintsCard : Claim7 := { stood := { row := pathPrintsRow, standIns := [], harness := (true, "a737fb265f06fd8acadb6fa19d7157277742c8540cf10787b37e240b5c23abd0"), looks := false }, kinds := [], alts := [], laidByText := true, laidKinds := [.data, .pinned], laidTests := true, laidLooks := .later }
def PathPrintsCardSaid : Prop := Claim7.holds Tryz.pinned (.plain (OpenSpec.ofChange pathPrintsSpec)) pathPrintsCard

/-- THE TIED CARD OF 'grammarlablaw08.PathParses'. -/
def pathParsesCard : Claim7 := { stood := { row := pathParsesRow, standIns := [], harness := (true, "a737fb265f06fd8acadb6fa19d7157277742c8540cf10787b37e240b5c23abd0"), looks := false }, kinds := [], alts := [], laidByText := true, laidKinds := [.data, .pinned], laidTests := true, laidLooks := .later }
def PathParsesCardSaid : Prop := Claim7.holds Tryz.pinned (.plain (OpenSpec.ofChange pathParsesSpec)) pathParsesCard

/-- THE TIED CARD OF 'grammarlablaw08.PathEquations'. -/
def pathEquationsCard : Claim7 := { stood := { row := pathEquationsRow, standIns := [], harness := (true, "a737fb265f06fd8acadb6fa19d7157277742c8540cf10787b37e240b5c23abd0"), looks := false }, kinds := [], alts := [], laidByText := true, laidKinds := [.data, .pinned], laidTests := true, laidLooks := .later }
def PathEquationsCardSaid : Prop := Claim7.holds Tryz.pinned (.plain (OpenSpec.ofChange pathEquationsSpec)) pathEquationsCard

/-- THE TIED CARD OF 'grammarlablaw08.PathLimits'. -/
def pathLimitsCard : Claim7 := { stood := { row := pathLimitsRow, standIns := [], harness := (true, "a737fb265f06fd8acadb6fa19d7157277742c8540cf10787b37e240b5c23abd0"), looks := false }, kinds := [], alts := [], laidByText := true, laidKinds := [.data, .pinned], laidTests := true, laidLooks := .later }
def PathLimitsCardSaid : Prop := Claim7.holds Tryz.pinned (.plain (OpenSpec.ofChange pathLimitsSpec)) pathLimitsCard

/-- THE TIED CARD OF 'grammarlablaw08.PathFollows'. -/
def pathFollowsCard : Claim7 := { stood := { row := pathFollowsRow, standIns := [], harness := (true, "a737fb265f06fd8acadb6fa19d7157277742c8540cf10787b37e240b5c23abd0"), looks := false }, kinds := [], alts := [], laidByText := true, laidKinds := [.data, .pinned], laidTests := true, laidLooks := .later }
def PathFollowsCardSaid : Prop := Claim7.holds Tryz.pinned (.plain (OpenSpec.ofChange pathFollowsSpec)) pathFollowsCard

/-- THE TIED CARD OF 'grammarlablaw08.PathReaches'. -/
def pathReachesCard : Claim7 := { stood := { row := pathReachesRow, standIns := [], harness := (true, "a737fb265f06fd8acadb6fa19d7157277742c8540cf10787b37e240b5c23abd0"), looks := false }, kinds := [], alts := [], laidByText := true, laidKinds := [.data, .pinned], laidTests := true, laidLooks := .later }
def PathReachesCardSaid : Prop := Claim7.holds Tryz.pinned (.plain (OpenSpec.ofChange pathReachesSpec)) pathReachesCard

/-- THE TIED CARD OF 'grammarlablaw08.PathInverse'. -/
def pathInverseCard : Claim7 := { stood := { row := pathInverseRow, standIns := [], harness := (true, "a737fb265f06fd8acadb6fa19d7157277742c8540cf10787b37e240b5c23abd0"), looks := false }, kinds := [], alts := [], laidByText := true, laidKinds := [.data, .pinned], laidTests := true, laidLooks := .later }
def PathInverseCardSaid : Prop := Claim7.holds Tryz.pinned (.plain (OpenSpec.ofChange pathInverseSpec)) pathInverseCard

/-- THE SECOND FORM's CARD OF 'grammarlablaw08.PathFirsts'. -/
def pathFirstsUptoCard : Claim7 := { stood := { row := pathFirstsUptoRow, standIns := [], harness := (true, "a737fb265f06fd8acadb6fa19d7157277742c8540cf10787b37e240b5c23abd0"), looks := false }, kinds := [], alts := [], laidByText := true, laidKinds := [.data, .pinned], laidTests := true, laidLooks := .later }
def PathFirstsUptoCardSaid : Prop := Claim7.holds Tryz.pinned (.plain (OpenSpec.upto pathFirstsSpec)) pathFirstsUptoCard

/-- THE SECOND FORM's CARD OF 'grammarlablaw08.PathUnders'. -/
def pathUndersUptoCard : Claim7 := { stood := { row := pathUndersUptoRow, standIns := [], harness := (true, "a737fb265f06fd8acadb6fa19d7157277742c8540cf10787b37e240b5c23abd0"), looks := false }, kinds := [], alts := [], laidByText := true, laidKinds := [.data, .pinned], laidTests := true, laidLooks := .later }
def PathUndersUptoCardSaid : Prop := Claim7.holds Tryz.pinned (.plain (OpenSpec.upto pathUndersSpec)) pathUndersUptoCard

/-- THE SECOND FORM's CARD OF 'grammarlablaw08.PathPrints'. -/
def pathPrintsUptoCard : Claim7 := { stood := { row := pathPrintsUptoRow, standIns := [], harness := (true, "a737fb265f06fd8acadb6fa19d7157277742c8540cf10787b37e240b5c23abd0"), looks := false }, kinds := [], alts := [], laidByText := true, laidKinds := [.data, .pinned], laidTests := true, laidLooks := .later }
def PathPrintsUptoCardSaid : Prop := Claim7.holds Tryz.pinned (.plain (OpenSpec.upto pathPrintsSpec)) pathPrintsUptoCard

/-- THE SECOND FORM's CARD OF 'grammarlablaw08.PathParses'. -/
def pathParsesUptoCard : Claim7 := { stood := { row := pathParsesUptoRow, standIns := [], harness := (true, "a737fb265f06fd8acadb6fa19d7157277742c8540cf10787b37e240b5c23abd0"), looks := false }, kinds := [], alts := [], laidByText := true, laidKinds := [.data, .pinned], laidTests := true, laidLooks := .later }
def PathParsesUptoCardSaid : Prop := Claim7.holds Tryz.pinned (.plain (OpenSpec.upto pathParsesSpec)) pathParsesUptoCard

/-- THE SECOND FORM's CARD OF 'grammarlablaw08.PathEquations'. -/
def pathEquationsUptoCard : Claim7 := { stood := { row := pathEquationsUptoRow, standIns := [], harness := (true, "a737fb265f06fd8acadb6fa19d7157277742c8540cf10787b37e240b5c23abd0"), looks := false }, kinds := [], alts := [], laidByText := true, laidKinds := [.data, .pinned], laidTests := true, laidLooks := .later }
def PathEquationsUptoCardSaid : Prop := Claim7.holds Tryz.pinned (.plain (OpenSpec.upto pathEquationsSpec)) pathEquationsUptoCard

/-- THE SECOND FORM's CARD OF 'grammarlablaw08.PathLimits'. -/
def pathLimitsUptoCard : Claim7 := { stood := { row := pathLimitsUptoRow, standIns := [], harness := (true, "a737fb265f06fd8acadb6fa19d7157277742c8540cf10787b37e240b5c23abd0"), looks := false }, kinds := [], alts := [], laidByText := true, laidKinds := [.data, .pinned], laidTests := true, laidLooks := .later }
def PathLimitsUptoCardSaid : Prop := Claim7.holds Tryz.pinned (.plain (OpenSpec.upto pathLimitsSpec)) pathLimitsUptoCard

/-- THE SECOND FORM's CARD OF 'grammarlablaw08.PathFollows'. -/
def pathFollowsUptoCard : Claim7 := { stood := { row := pathFollowsUptoRow, standIns := [], harness := (true, "a737fb265f06fd8acadb6fa19d7157277742c8540cf10787b37e240b5c23abd0"), looks := false }, kinds := [], alts := [], laidByText := true, laidKinds := [.data, .pinned], laidTests := true, laidLooks := .later }
def PathFollowsUptoCardSaid : Prop := Claim7.holds Tryz.pinned (.plain (OpenSpec.upto pathFollowsSpec)) pathFollowsUptoCard

/-- THE SECOND FORM's CARD OF 'grammarlablaw08.PathReaches'. -/
def pathReachesUptoCard : Claim7 := { stood := { row := pathReachesUptoRow, standIns := [], harness := (true, "a737fb265f06fd8acadb6fa19d7157277742c8540cf10787b37e240b5c23abd0"), looks := false }, kinds := [], alts := [], laidByText := true, laidKinds := [.data, .pinned], laidTests := true, laidLooks := .later }
def PathReachesUptoCardSaid : Prop := Claim7.holds Tryz.pinned (.plain (OpenSpec.upto pathReachesSpec)) pathReachesUptoCard

/-- THE SECOND FORM's CARD OF 'grammarlablaw08.PathInverse'. -/
def pathInverseUptoCard : Claim7 := { stood := { row := pathInverseUptoRow, standIns := [], harness := (true, "a737fb265f06fd8acadb6fa19d7157277742c8540cf10787b37e240b5c23abd0"), looks := false }, kinds := [], alts := [], laidByText := true, laidKinds := [.data, .pinned], laidTests := true, laidLooks := .later }
def PathInverseUptoCardSaid : Prop := Claim7.holds Tryz.pinned (.plain (OpenSpec.upto pathInverseSpec)) pathInverseUptoCard
end Rows
end Go.Proofs.YtkgbipeaeamohaaGreatDoor
