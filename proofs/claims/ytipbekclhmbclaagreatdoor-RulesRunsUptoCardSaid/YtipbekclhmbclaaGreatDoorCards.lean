/-
  DERIVED. GIVEN WITH THE SEED: THE CARDS: each row of YtipbekclhmbclaaGreatDoorRows.lean that lists a variable, with what it lists TIED to the program's text (the seventh form; the later family's looks); each row that meets fmt, with fmt's text TOLD by the authors' own Lean function (tested against real Go, not proved from fmt's source: count such statements apart). THE CARD IS WHAT COUNTS. Prove the row's statement (the work); the ties are given (YtipbekclhmbclaaGreatDoorTie.lean); close each card by the builder's one call (the guide's Derived/Test/ToyasCard.lean, 'card_holds'). Laid BY PROGRAM, IN A SANDBOX (cutbox-door.mjs). By AI agents, Wed Nov 11 2026. No macro, syntax, notation, axiom, sorry.
-/
import Derived.Test.YtipbekclhmbclaaGreatDoorRows
import GoSem.ClaimSeven
namespace Go.Proofs.YtipbekclhmbclaaGreatDoor
namespace Rows

/-- THE TIED CARD OF 'homehublaw37.RulesRuns'. -/
def rulesRunsCard : Claim7 := { stood := { row := rulesRunsRow, standIns := [], harness := (true, "bd47dcfa35432638c0c5d8c43610170680607fd3ec0ca48a3eb9d10f00ebdac7"), looks := false }, kinds := [], alts := [], laidByText := true, laidKinds := [.data], laidTests := true, laidLooks := .later }
def RulesRunsCardSaid : Prop := Claim7.holds Tryz.pinned (.plain (OpenSpec.ofChange rulesRunsSpec)) rulesRunsCard

/-- THE TIED CARD OF 'homehublaw37.RulesModes'. -/
def rulesModesCard : Claim7 := { stood := { row := rulesModesRow, standIns := [], harness := (true, "bd47dcfa35432638c0c5d8c43610170680607fd3ec0ca48a3eb9d10f00ebdac7"), looks := false }, kinds := [], alts := [], laidByText := true, laidKinds := [.data], laidTests := true, laidLooks := .later }
def RulesModesCardSaid : Prop := Claim7.holds Tryz.pinned (.plain (OpenSpec.ofChange rulesModesSpec)) rulesModesCard

/-- THE TIED CARD OF 'homehublaw37.RulesOrder'. -/
def rulesOrderCard : Claim7 := { stood := { row := rulesOrderRow, standIns := [], harness := (true, "bd47dcfa35432638c0c5d8c43610170680607fd3ec0ca48a3eb9d10f00ebdac7"), looks := false }, kinds := [], alts := [], laidByText := true, laidKinds := [.data], laidTests := true, laidLooks := .later }
def RulesOrderCardSaid : Prop := Claim7.holds Tryz.pinned (.plain (OpenSpec.ofChange rulesOrderSpec)) rulesOrderCard

/-- THE TIED CARD OF 'homehublaw37.RulesOthers'. -/
def rulesOthersCard : Claim7 := { stood := { row := rulesOthersRow, standIns := [], harness := (true, "bd47dcfa35432638c0c5d8c43610170680607fd3ec0ca48a3eb9d10f00ebdac7"), looks := false }, kinds := [], alts := [], laidByText := true, laidKinds := [.data], laidTests := true, laidLooks := .later }
def RulesOthersCardSaid : Prop := Claim7.holds Tryz.pinned (.plain (OpenSpec.ofChange rulesOthersSpec)) rulesOthersCard

/-- THE TIED CARD OF 'homehublaw37.RulesWrites'. -/
def rulesWritesCard : Claim7 := { stood := { row := rulesWritesRow, standIns := [], harness := (true, "bd47dcfa35432638c0c5d8c43610170680607fd3ec0ca48a3eb9d10f00ebdac7"), looks := false }, kinds := [], alts := [], laidByText := true, laidKinds := [.data], laidTests := true, laidLooks := .later }
def RulesWritesCardSaid : Prop := Claim7.holds Tryz.pinned (.plain (OpenSpec.ofChange rulesWritesSpec)) rulesWritesCard

/-- THE TIED CARD OF 'homehublaw37.RulesQuiet'. -/
def rulesQuietCard : Claim7 := { stood := { row := rulesQuietRow, standIns := [], harness := (true, "bd47dcfa35432638c0c5d8c43610170680607fd3ec0ca48a3eb9d10f00ebdac7"), looks := false }, kinds := [], alts := [], laidByText := true, laidKinds := [.data], laidTests := true, laidLooks := .later }
def RulesQuietCardSaid : Prop := Claim7.holds Tryz.pinned (.plain (OpenSpec.ofChange rulesQuietSpec)) rulesQuietCard

/-- THE SECOND FORM's CARD OF 'homehublaw37.RulesRuns'. -/
def rulesRunsUptoCard : Claim7 := { stood := { row := rulesRunsUptoRow, standIns := [], harness := (true, "bd47dcfa35432638c0c5d8c43610170680607fd3ec0ca48a3eb9d10f00ebdac7"), looks := false }, kinds := [], alts := [], laidByText := true, laidKinds := [.data], laidTests := true, laidLooks := .later }
def RulesRunsUptoCardSaid : Prop := Claim7.holds Tryz.pinned (.plain (OpenSpec.upto rulesRunsSpec)) rulesRunsUptoCard

/-- THE SECOND FORM's CARD OF 'homehublaw37.RulesModes'. -/
def rulesModesUptoCard : Claim7 := { stood := { row := rulesModesUptoRow, standIns := [], harness := (true, "bd47dcfa35432638c0c5d8c43610170680607fd3ec0ca48a3eb9d10f00ebdac7"), looks := false }, kinds := [], alts := [], laidByText := true, laidKinds := [.data], laidTests := true, laidLooks := .later }
def RulesModesUptoCardSaid : Prop := Claim7.holds Tryz.pinned (.plain (OpenSpec.upto rulesModesSpec)) rulesModesUptoCard

/-- THE SECOND FORM's CARD OF 'homehublaw37.RulesOrder'. -/
def rulesOrderUptoCard : Claim7 := { stood := { row := rulesOrderUptoRow, standIns := [], harness := (true, "bd47dcfa35432638c0c5d8c43610170680607fd3ec0ca48a3eb9d10f00ebdac7"), looks := false }, kinds := [], alts := [], laidByText := true, laidKinds := [.data], laidTests := true, laidLooks := .later }
def RulesOrderUptoCardSaid : Prop := Claim7.holds Tryz.pinned (.plain (OpenSpec.upto rulesOrderSpec)) rulesOrderUptoCard

/-- THE SECOND FORM's CARD OF 'homehublaw37.RulesOthers'. -/
def rulesOthersUptoCard : Claim7 := { stood := { row := rulesOthersUptoRow, standIns := [], harness := (true, "bd47dcfa35432638c0c5d8c43610170680607fd3ec0ca48a3eb9d10f00ebdac7"), looks := false }, kinds := [], alts := [], laidByText := true, laidKinds := [.data], laidTests := true, laidLooks := .later }
def RulesOthersUptoCardSaid : Prop := Claim7.holds Tryz.pinned (.plain (OpenSpec.upto rulesOthersSpec)) rulesOthersUptoCard

/-- THE SECOND FORM's CARD OF 'homehublaw37.RulesWrites'. -/
def rulesWritesUptoCard : Claim7 := { stood := { row := rulesWritesUptoRow, standIns := [], harness := (true, "bd47dcfa35432638c0c5d8c43610170680607fd3ec0ca48a3eb9d10f00ebdac7"), looks := false }, kinds := [], alts := [], laidByText := true, laidKinds := [.data], laidTests := true, laidLooks := .later }
def RulesWritesUptoCardSaid : Prop := Claim7.holds Tryz.pinned (.plain (OpenSpec.upto rulesWritesSpec)) rulesWritesUptoCard

/-- THE SECOND FORM's CARD OF 'homehublaw37.RulesQuiet'. -/
def rulesQuietUptoCard : Claim7 := { stood := { row := rulesQuietUptoRow, standIns := [], harness := (true, "bd47dcfa35432638c0c5d8c43610170680607fd3ec0ca48a3eb9d10f00ebdac7"), looks := false }, kinds := [], alts := [], laidByText := true, laidKinds := [.data], laidTests := true, laidLooks := .later }
def RulesQuietUptoCardSaid : Prop := Claim7.holds Tryz.pinned (.plain (OpenSpec.upto rulesQuietSpec)) rulesQuietUptoCard
end Rows
end Go.Proofs.YtipbekclhmbclaaGreatDoor
