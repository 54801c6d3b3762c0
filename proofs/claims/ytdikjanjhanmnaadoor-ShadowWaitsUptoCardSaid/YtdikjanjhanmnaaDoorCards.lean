/-
  DERIVED. GIVEN WITH THE SEED: THE CARDS: each row of YtdikjanjhanmnaaDoorRows.lean that lists a variable, with what it lists TIED to the program's text (the seventh form; the later family's looks); each row that meets fmt, with fmt's text TOLD by the authors' own Lean function (tested against real Go, not proved from fmt's source: count such statements apart). THE CARD IS WHAT COUNTS. Prove the row's statement (the work); the ties are given (YtdikjanjhanmnaaDoorTie.lean); close each card by the builder's one call (the guide's Derived/Test/ToyasCard.lean, 'card_holds'). Laid BY PROGRAM, IN A SANDBOX (cutbox-door.mjs). By AI agents, Wed Nov 11 2026. No macro, syntax, notation, axiom, sorry.
-/
import Derived.Test.YtdikjanjhanmnaaDoorRows
import GoSem.ClaimSeven
namespace Go.Proofs.YtdikjanjhanmnaaDoor
namespace Rows

/-- THE TIED CARD OF 'homehublaw25.ShadowRises'. -/
def shadowRisesCard : Claim7 := { stood := { row := shadowRisesRow, standIns := [], harness := (true, "bf2b9c585fec92f0f85e35479d0e69514d774d4f4802ac42be9a9b494b10eb3b"), looks := false }, kinds := [], alts := [], laidByText := true, laidKinds := [.data], laidTests := true, laidLooks := .later }
def ShadowRisesCardSaid : Prop := Claim7.holds Tryd.pinned (.plain (OpenSpec.ofChange shadowRisesSpec)) shadowRisesCard

/-- THE TIED CARD OF 'homehublaw25.ShadowOrder'. -/
def shadowOrderCard : Claim7 := { stood := { row := shadowOrderRow, standIns := [], harness := (true, "bf2b9c585fec92f0f85e35479d0e69514d774d4f4802ac42be9a9b494b10eb3b"), looks := false }, kinds := [], alts := [], laidByText := true, laidKinds := [.data], laidTests := true, laidLooks := .later }
def ShadowOrderCardSaid : Prop := Claim7.holds Tryd.pinned (.plain (OpenSpec.ofChange shadowOrderSpec)) shadowOrderCard

/-- THE TIED CARD OF 'homehublaw25.ShadowWaits'. -/
def shadowWaitsCard : Claim7 := { stood := { row := shadowWaitsRow, standIns := [], harness := (true, "bf2b9c585fec92f0f85e35479d0e69514d774d4f4802ac42be9a9b494b10eb3b"), looks := false }, kinds := [], alts := [], laidByText := true, laidKinds := [.data], laidTests := true, laidLooks := .later }
def ShadowWaitsCardSaid : Prop := Claim7.holds Tryd.pinned (.plain (OpenSpec.ofChange shadowWaitsSpec)) shadowWaitsCard

/-- THE SECOND FORM's CARD OF 'homehublaw25.ShadowRises'. -/
def shadowRisesUptoCard : Claim7 := { stood := { row := shadowRisesUptoRow, standIns := [], harness := (true, "bf2b9c585fec92f0f85e35479d0e69514d774d4f4802ac42be9a9b494b10eb3b"), looks := false }, kinds := [], alts := [], laidByText := true, laidKinds := [.data], laidTests := true, laidLooks := .later }
def ShadowRisesUptoCardSaid : Prop := Claim7.holds Tryd.pinned (.plain (OpenSpec.upto shadowRisesSpec)) shadowRisesUptoCard

/-- THE SECOND FORM's CARD OF 'homehublaw25.ShadowOrder'. -/
def shadowOrderUptoCard : Claim7 := { stood := { row := shadowOrderUptoRow, standIns := [], harness := (true, "bf2b9c585fec92f0f85e35479d0e69514d774d4f4802ac42be9a9b494b10eb3b"), looks := false }, kinds := [], alts := [], laidByText := true, laidKinds := [.data], laidTests := true, laidLooks := .later }
def ShadowOrderUptoCardSaid : Prop := Claim7.holds Tryd.pinned (.plain (OpenSpec.upto shadowOrderSpec)) shadowOrderUptoCard

/-- THE SECOND FORM's CARD OF 'homehublaw25.ShadowWaits'. -/
def shadowWaitsUptoCard : Claim7 := { stood := { row := shadowWaitsUptoRow, standIns := [], harness := (true, "bf2b9c585fec92f0f85e35479d0e69514d774d4f4802ac42be9a9b494b10eb3b"), looks := false }, kinds := [], alts := [], laidByText := true, laidKinds := [.data], laidTests := true, laidLooks := .later }
def ShadowWaitsUptoCardSaid : Prop := Claim7.holds Tryd.pinned (.plain (OpenSpec.upto shadowWaitsSpec)) shadowWaitsUptoCard
end Rows
end Go.Proofs.YtdikjanjhanmnaaDoor
