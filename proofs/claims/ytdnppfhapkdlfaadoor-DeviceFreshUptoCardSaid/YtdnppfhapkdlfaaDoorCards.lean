/-
  DERIVED. GIVEN WITH THE SEED: THE CARDS: each row of YtdnppfhapkdlfaaDoorRows.lean that lists a variable, with what it lists TIED to the program's text (the seventh form; the later family's looks); each row that meets fmt, with fmt's text TOLD by the authors' own Lean function (tested against real Go, not proved from fmt's source: count such statements apart). THE CARD IS WHAT COUNTS. Prove the row's statement (the work); the ties are given (YtdnppfhapkdlfaaDoorTie.lean); close each card by the builder's one call (the guide's Derived/Test/ToyasCard.lean, 'card_holds'). Laid BY PROGRAM, IN A SANDBOX (cutbox-door.mjs). By AI agents, Wed Nov 11 2026. No macro, syntax, notation, axiom, sorry.
-/
import Derived.Test.YtdnppfhapkdlfaaDoorRows
import GoSem.ClaimSeven
namespace Go.Proofs.YtdnppfhapkdlfaaDoor
namespace Rows

/-- THE TIED CARD OF 'homehublaw22.DeviceChecks'. -/
def deviceChecksCard : Claim7 := { stood := { row := deviceChecksRow, standIns := [], harness := (true, "25e732adf393ebc0e077b43b88d7d34679f6ff9de696a59370d4b152cb91a756"), looks := false }, kinds := [], alts := [], laidByText := true, laidKinds := [.data], laidTests := true, laidLooks := .later }
def DeviceChecksCardSaid : Prop := Claim7.holds Tryd.pinned (.plain (OpenSpec.ofChange deviceChecksSpec)) deviceChecksCard

/-- THE TIED CARD OF 'homehublaw22.DeviceInits'. -/
def deviceInitsCard : Claim7 := { stood := { row := deviceInitsRow, standIns := [], harness := (true, "25e732adf393ebc0e077b43b88d7d34679f6ff9de696a59370d4b152cb91a756"), looks := false }, kinds := [], alts := [], laidByText := true, laidKinds := [.data], laidTests := true, laidLooks := .later }
def DeviceInitsCardSaid : Prop := Claim7.holds Tryd.pinned (.plain (OpenSpec.ofChange deviceInitsSpec)) deviceInitsCard

/-- THE TIED CARD OF 'homehublaw22.DeviceSets'. -/
def deviceSetsCard : Claim7 := { stood := { row := deviceSetsRow, standIns := [], harness := (true, "25e732adf393ebc0e077b43b88d7d34679f6ff9de696a59370d4b152cb91a756"), looks := false }, kinds := [], alts := [], laidByText := true, laidKinds := [.data], laidTests := true, laidLooks := .later }
def DeviceSetsCardSaid : Prop := Claim7.holds Tryd.pinned (.plain (OpenSpec.ofChange deviceSetsSpec)) deviceSetsCard

/-- THE TIED CARD OF 'homehublaw22.DeviceFinds'. -/
def deviceFindsCard : Claim7 := { stood := { row := deviceFindsRow, standIns := [], harness := (true, "25e732adf393ebc0e077b43b88d7d34679f6ff9de696a59370d4b152cb91a756"), looks := false }, kinds := [], alts := [], laidByText := true, laidKinds := [.data], laidTests := true, laidLooks := .later }
def DeviceFindsCardSaid : Prop := Claim7.holds Tryd.pinned (.plain (OpenSpec.ofChange deviceFindsSpec)) deviceFindsCard

/-- THE TIED CARD OF 'homehublaw22.DeviceOrders'. -/
def deviceOrdersCard : Claim7 := { stood := { row := deviceOrdersRow, standIns := [], harness := (true, "25e732adf393ebc0e077b43b88d7d34679f6ff9de696a59370d4b152cb91a756"), looks := false }, kinds := [], alts := [], laidByText := true, laidKinds := [.data], laidTests := true, laidLooks := .later }
def DeviceOrdersCardSaid : Prop := Claim7.holds Tryd.pinned (.plain (OpenSpec.ofChange deviceOrdersSpec)) deviceOrdersCard

/-- THE TIED CARD OF 'homehublaw22.DeviceCommands'. -/
def deviceCommandsCard : Claim7 := { stood := { row := deviceCommandsRow, standIns := [], harness := (true, "25e732adf393ebc0e077b43b88d7d34679f6ff9de696a59370d4b152cb91a756"), looks := false }, kinds := [], alts := [], laidByText := true, laidKinds := [.data], laidTests := true, laidLooks := .later }
def DeviceCommandsCardSaid : Prop := Claim7.holds Tryd.pinned (.plain (OpenSpec.ofChange deviceCommandsSpec)) deviceCommandsCard

/-- THE TIED CARD OF 'homehublaw22.DeviceFresh'. -/
def deviceFreshCard : Claim7 := { stood := { row := deviceFreshRow, standIns := [], harness := (true, "25e732adf393ebc0e077b43b88d7d34679f6ff9de696a59370d4b152cb91a756"), looks := false }, kinds := [], alts := [], laidByText := true, laidKinds := [.data], laidTests := true, laidLooks := .later }
def DeviceFreshCardSaid : Prop := Claim7.holds Tryd.pinned (.plain (OpenSpec.ofChange deviceFreshSpec)) deviceFreshCard

/-- THE TIED CARD OF 'homehublaw22.DeviceChanges'. -/
def deviceChangesCard : Claim7 := { stood := { row := deviceChangesRow, standIns := [], harness := (true, "25e732adf393ebc0e077b43b88d7d34679f6ff9de696a59370d4b152cb91a756"), looks := false }, kinds := [], alts := [], laidByText := true, laidKinds := [.data], laidTests := true, laidLooks := .later }
def DeviceChangesCardSaid : Prop := Claim7.holds Tryd.pinned (.plain (OpenSpec.ofChange deviceChangesSpec)) deviceChangesCard

/-- THE TIED CARD OF 'homehublaw22.DeviceReads'. -/
def deviceReadsCard : Claim7 := { stood := { row := deviceReadsRow, standIns := [], harness := (true, "25e732adf393ebc0e077b43b88d7d34679f6ff9de696a59370d4b152cb91a756"), looks := false }, kinds := [], alts := [], laidByText := true, laidKinds := [.data], laidTests := true, laidLooks := .later }
def DeviceReadsCardSaid : Prop := Claim7.holds Tryd.pinned (.plain (OpenSpec.ofChange deviceReadsSpec)) deviceReadsCard

/-- THE SECOND FORM's CARD OF 'homehublaw22.DeviceChecks'. -/
def deviceChecksUptoCard : Claim7 := { stood := { row := deviceChecksUptoRow, standIns := [], harness := (true, "25e732adf393ebc0e077b43b88d7d34679f6ff9de696a59370d4b152cb91a756"), looks := false }, kinds := [], alts := [], laidByText := true, laidKinds := [.data], laidTests := true, laidLooks := .later }
def DeviceChecksUptoCardSaid : Prop := Claim7.holds Tryd.pinned (.plain (OpenSpec.upto deviceChecksSpec)) deviceChecksUptoCard

/-- THE SECOND FORM's CARD OF 'homehublaw22.DeviceInits'. -/
def deviceInitsUptoCard : Claim7 := { stood := { row := deviceInitsUptoRow, standIns := [], harness := (true, "25e732adf393ebc0e077b43b88d7d34679f6ff9de696a59370d4b152cb91a756"), looks := false }, kinds := [], alts := [], laidByText := true, laidKinds := [.data], laidTests := true, laidLooks := .later }
def DeviceInitsUptoCardSaid : Prop := Claim7.holds Tryd.pinned (.plain (OpenSpec.upto deviceInitsSpec)) deviceInitsUptoCard

/-- THE SECOND FORM's CARD OF 'homehublaw22.DeviceSets'. -/
def deviceSetsUptoCard : Claim7 := { stood := { row := deviceSetsUptoRow, standIns := [], harness := (true, "25e732adf393ebc0e077b43b88d7d34679f6ff9de696a59370d4b152cb91a756"), looks := false }, kinds := [], alts := [], laidByText := true, laidKinds := [.data], laidTests := true, laidLooks := .later }
def DeviceSetsUptoCardSaid : Prop := Claim7.holds Tryd.pinned (.plain (OpenSpec.upto deviceSetsSpec)) deviceSetsUptoCard

/-- THE SECOND FORM's CARD OF 'homehublaw22.DeviceFinds'. -/
def deviceFindsUptoCard : Claim7 := { stood := { row := deviceFindsUptoRow, standIns := [], harness := (true, "25e732adf393ebc0e077b43b88d7d34679f6ff9de696a59370d4b152cb91a756"), looks := false }, kinds := [], alts := [], laidByText := true, laidKinds := [.data], laidTests := true, laidLooks := .later }
def DeviceFindsUptoCardSaid : Prop := Claim7.holds Tryd.pinned (.plain (OpenSpec.upto deviceFindsSpec)) deviceFindsUptoCard

/-- THE SECOND FORM's CARD OF 'homehublaw22.DeviceOrders'. -/
def deviceOrdersUptoCard : Claim7 := { stood := { row := deviceOrdersUptoRow, standIns := [], harness := (true, "25e732adf393ebc0e077b43b88d7d34679f6ff9de696a59370d4b152cb91a756"), looks := false }, kinds := [], alts := [], laidByText := true, laidKinds := [.data], laidTests := true, laidLooks := .later }
def DeviceOrdersUptoCardSaid : Prop := Claim7.holds Tryd.pinned (.plain (OpenSpec.upto deviceOrdersSpec)) deviceOrdersUptoCard

/-- THE SECOND FORM's CARD OF 'homehublaw22.DeviceCommands'. -/
def deviceCommandsUptoCard : Claim7 := { stood := { row := deviceCommandsUptoRow, standIns := [], harness := (true, "25e732adf393ebc0e077b43b88d7d34679f6ff9de696a59370d4b152cb91a756"), looks := false }, kinds := [], alts := [], laidByText := true, laidKinds := [.data], laidTests := true, laidLooks := .later }
def DeviceCommandsUptoCardSaid : Prop := Claim7.holds Tryd.pinned (.plain (OpenSpec.upto deviceCommandsSpec)) deviceCommandsUptoCard

/-- THE SECOND FORM's CARD OF 'homehublaw22.DeviceFresh'. -/
def deviceFreshUptoCard : Claim7 := { stood := { row := deviceFreshUptoRow, standIns := [], harness := (true, "25e732adf393ebc0e077b43b88d7d34679f6ff9de696a59370d4b152cb91a756"), looks := false }, kinds := [], alts := [], laidByText := true, laidKinds := [.data], laidTests := true, laidLooks := .later }
def DeviceFreshUptoCardSaid : Prop := Claim7.holds Tryd.pinned (.plain (OpenSpec.upto deviceFreshSpec)) deviceFreshUptoCard

/-- THE SECOND FORM's CARD OF 'homehublaw22.DeviceChanges'. -/
def deviceChangesUptoCard : Claim7 := { stood := { row := deviceChangesUptoRow, standIns := [], harness := (true, "25e732adf393ebc0e077b43b88d7d34679f6ff9de696a59370d4b152cb91a756"), looks := false }, kinds := [], alts := [], laidByText := true, laidKinds := [.data], laidTests := true, laidLooks := .later }
def DeviceChangesUptoCardSaid : Prop := Claim7.holds Tryd.pinned (.plain (OpenSpec.upto deviceChangesSpec)) deviceChangesUptoCard

/-- THE SECOND FORM's CARD OF 'homehublaw22.DeviceReads'. -/
def deviceReadsUptoCard : Claim7 := { stood := { row := deviceReadsUptoRow, standIns := [], harness := (true, "25e732adf393ebc0e077b43b88d7d34679f6ff9de696a59370d4b152cb91a756"), looks := false }, kinds := [], alts := [], laidByText := true, laidKinds := [.data], laidTests := true, laidLooks := .later }
def DeviceReadsUptoCardSaid : Prop := Claim7.holds Tryd.pinned (.plain (OpenSpec.upto deviceReadsSpec)) deviceReadsUptoCard
end Rows
end Go.Proofs.YtdnppfhapkdlfaaDoor
