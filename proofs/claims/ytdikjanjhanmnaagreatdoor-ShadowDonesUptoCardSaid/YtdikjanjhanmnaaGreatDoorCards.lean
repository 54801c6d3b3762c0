/-
  DERIVED. GIVEN WITH THE SEED: THE CARDS: each row of YtdikjanjhanmnaaGreatDoorRows.lean that lists a variable, with what it lists TIED to the program's text (the seventh form; the later family's looks); each row that meets fmt, with fmt's text TOLD by the authors' own Lean function (tested against real Go, not proved from fmt's source: count such statements apart). THE CARD IS WHAT COUNTS. Prove the row's statement (the work); the ties are given (YtdikjanjhanmnaaGreatDoorTie.lean); close each card by the builder's one call (the guide's Derived/Test/ToyasCard.lean, 'card_holds'). Laid BY PROGRAM, IN A SANDBOX (cutbox-door.mjs). By AI agents, Wed Nov 11 2026. No macro, syntax, notation, axiom, sorry.
-/
import Derived.Test.YtdikjanjhanmnaaGreatDoorRows
import GoSem.ClaimSeven
namespace Go.Proofs.YtdikjanjhanmnaaGreatDoor
namespace Rows

/-- THE TIED CARD OF 'homehublaw25.ShadowReports'. -/
def shadowReportsCard : Claim7 := { stood := { row := shadowReportsRow, standIns := [], harness := (true, "ec3ee2cae03a03aa514ece30def0b0ac503f83bfaf9ba1416b9100e51709da68"), looks := false }, kinds := [], alts := [], laidByText := true, laidKinds := [.data], laidTests := true, laidLooks := .later }
def ShadowReportsCardSaid : Prop := Claim7.holds Tryz.pinned (.plain (OpenSpec.ofChange shadowReportsSpec)) shadowReportsCard

/-- THE TIED CARD OF 'homehublaw25.ShadowDesires'. -/
def shadowDesiresCard : Claim7 := { stood := { row := shadowDesiresRow, standIns := [], harness := (true, "ec3ee2cae03a03aa514ece30def0b0ac503f83bfaf9ba1416b9100e51709da68"), looks := false }, kinds := [], alts := [], laidByText := true, laidKinds := [.data], laidTests := true, laidLooks := .later }
def ShadowDesiresCardSaid : Prop := Claim7.holds Tryz.pinned (.plain (OpenSpec.ofChange shadowDesiresSpec)) shadowDesiresCard

/-- THE TIED CARD OF 'homehublaw25.ShadowDones'. -/
def shadowDonesCard : Claim7 := { stood := { row := shadowDonesRow, standIns := [], harness := (true, "ec3ee2cae03a03aa514ece30def0b0ac503f83bfaf9ba1416b9100e51709da68"), looks := false }, kinds := [], alts := [], laidByText := true, laidKinds := [.data], laidTests := true, laidLooks := .later }
def ShadowDonesCardSaid : Prop := Claim7.holds Tryz.pinned (.plain (OpenSpec.ofChange shadowDonesSpec)) shadowDonesCard

/-- THE SECOND FORM's CARD OF 'homehublaw25.ShadowReports'. -/
def shadowReportsUptoCard : Claim7 := { stood := { row := shadowReportsUptoRow, standIns := [], harness := (true, "ec3ee2cae03a03aa514ece30def0b0ac503f83bfaf9ba1416b9100e51709da68"), looks := false }, kinds := [], alts := [], laidByText := true, laidKinds := [.data], laidTests := true, laidLooks := .later }
def ShadowReportsUptoCardSaid : Prop := Claim7.holds Tryz.pinned (.plain (OpenSpec.upto shadowReportsSpec)) shadowReportsUptoCard

/-- THE SECOND FORM's CARD OF 'homehublaw25.ShadowDesires'. -/
def shadowDesiresUptoCard : Claim7 := { stood := { row := shadowDesiresUptoRow, standIns := [], harness := (true, "ec3ee2cae03a03aa514ece30def0b0ac503f83bfaf9ba1416b9100e51709da68"), looks := false }, kinds := [], alts := [], laidByText := true, laidKinds := [.data], laidTests := true, laidLooks := .later }
def ShadowDesiresUptoCardSaid : Prop := Claim7.holds Tryz.pinned (.plain (OpenSpec.upto shadowDesiresSpec)) shadowDesiresUptoCard

/-- THE SECOND FORM's CARD OF 'homehublaw25.ShadowDones'. -/
def shadowDonesUptoCard : Claim7 := { stood := { row := shadowDonesUptoRow, standIns := [], harness := (true, "ec3ee2cae03a03aa514ece30def0b0ac503f83bfaf9ba1416b9100e51709da68"), looks := false }, kinds := [], alts := [], laidByText := true, laidKinds := [.data], laidTests := true, laidLooks := .later }
def ShadowDonesUptoCardSaid : Prop := Claim7.holds Tryz.pinned (.plain (OpenSpec.upto shadowDonesSpec)) shadowDonesUptoCard
end Rows
end Go.Proofs.YtdikjanjhanmnaaGreatDoor
