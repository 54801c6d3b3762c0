/-
  DERIVED. GIVEN WITH THE SEED: THE CARDS: each row of YthelcfpfbnhcjaaDoorRows.lean that lists a variable, with what it lists TIED to the program's text (the seventh form; the later family's looks); each row that meets fmt, with fmt's text TOLD by the authors' own Lean function (tested against real Go, not proved from fmt's source: count such statements apart). THE CARD IS WHAT COUNTS. Prove the row's statement (the work); the ties are given (YthelcfpfbnhcjaaDoorTie.lean); close each card by the builder's one call (the guide's Derived/Test/ToyasCard.lean, 'card_holds'). Laid BY PROGRAM, IN A SANDBOX (cutbox-door.mjs). By AI agents, Wed Nov 11 2026. No macro, syntax, notation, axiom, sorry.
-/
import Derived.Test.YthelcfpfbnhcjaaDoorRows
import GoSem.ClaimSeven
namespace Go.Proofs.YthelcfpfbnhcjaaDoor
namespace Rows

/-- THE TIED CARD OF 'homehublaw22.DeviceChanges'. -/
def deviceChangesCard : Claim7 := { stood := { row := deviceChangesRow, standIns := [], harness := (true, "e4524fe7bf4a647248a6243d48217ef05fa9e13b2b8ced9fbb9768a3e33e2987"), looks := false }, kinds := [], alts := [], laidByText := true, laidKinds := [.data], laidTests := true, laidLooks := .later }
def DeviceChangesCardSaid : Prop := Claim7.holds Tryd.pinned (.plain (OpenSpec.ofChange deviceChangesSpec)) deviceChangesCard

/-- THE TIED CARD OF 'homehublaw22.DeviceReads'. -/
def deviceReadsCard : Claim7 := { stood := { row := deviceReadsRow, standIns := [], harness := (true, "e4524fe7bf4a647248a6243d48217ef05fa9e13b2b8ced9fbb9768a3e33e2987"), looks := false }, kinds := [], alts := [], laidByText := true, laidKinds := [.data], laidTests := true, laidLooks := .later }
def DeviceReadsCardSaid : Prop := Claim7.holds Tryd.pinned (.plain (OpenSpec.ofChange deviceReadsSpec)) deviceReadsCard

/-- THE SECOND FORM's CARD OF 'homehublaw22.DeviceChanges'. -/
def deviceChangesUptoCard : Claim7 := { stood := { row := deviceChangesUptoRow, standIns := [], harness := (true, "e4524fe7bf4a647248a6243d48217ef05fa9e13b2b8ced9fbb9768a3e33e2987"), looks := false }, kinds := [], alts := [], laidByText := true, laidKinds := [.data], laidTests := true, laidLooks := .later }
def DeviceChangesUptoCardSaid : Prop := Claim7.holds Tryd.pinned (.plain (OpenSpec.upto deviceChangesSpec)) deviceChangesUptoCard

/-- THE SECOND FORM's CARD OF 'homehublaw22.DeviceReads'. -/
def deviceReadsUptoCard : Claim7 := { stood := { row := deviceReadsUptoRow, standIns := [], harness := (true, "e4524fe7bf4a647248a6243d48217ef05fa9e13b2b8ced9fbb9768a3e33e2987"), looks := false }, kinds := [], alts := [], laidByText := true, laidKinds := [.data], laidTests := true, laidLooks := .later }
def DeviceReadsUptoCardSaid : Prop := Claim7.holds Tryd.pinned (.plain (OpenSpec.upto deviceReadsSpec)) deviceReadsUptoCard
end Rows
end Go.Proofs.YthelcfpfbnhcjaaDoor
