/-
  DERIVED. GIVEN WITH THE SEED: THE CARDS: each row of YtbhnjopjhaebpaaGreatDoorRows.lean that lists a variable, with what it lists TIED to the program's text (the seventh form; the later family's looks); each row that meets fmt, with fmt's text TOLD by the authors' own Lean function (tested against real Go, not proved from fmt's source: count such statements apart). THE CARD IS WHAT COUNTS. Prove the row's statement (the work); the ties are given (YtbhnjopjhaebpaaGreatDoorTie.lean); close each card by the builder's one call (the guide's Derived/Test/ToyasCard.lean, 'card_holds'). Laid BY PROGRAM, IN A SANDBOX (cutbox-door.mjs). By AI agents, Wed Nov 11 2026. No macro, syntax, notation, axiom, sorry.
-/
import Derived.Test.YtbhnjopjhaebpaaGreatDoorRows
import GoSem.ClaimSeven
namespace Go.Proofs.YtbhnjopjhaebpaaGreatDoor
namespace Rows

/-- THE TIED CARD OF 'homehublaw31.TypingChecks'. -/
def typingChecksCard : Claim7 := { stood := { row := typingChecksRow, standIns := [], harness := (true, "d6196cb5d42c4107fbac0b81f98070c1011c1d4a4ab4249e9e3527659c722117"), looks := false }, kinds := [], alts := [], laidByText := true, laidKinds := [.data], laidTests := true, laidLooks := .later }
def TypingChecksCardSaid : Prop := Claim7.holds Tryz.pinned (.plain (OpenSpec.ofChange typingChecksSpec)) typingChecksCard

/-- THE TIED CARD OF 'homehublaw31.TypingKinds'. -/
def typingKindsCard : Claim7 := { stood := { row := typingKindsRow, standIns := [], harness := (true, "d6196cb5d42c4107fbac0b81f98070c1011c1d4a4ab4249e9e3527659c722117"), looks := false }, kinds := [], alts := [], laidByText := true, laidKinds := [.data], laidTests := true, laidLooks := .later }
def TypingKindsCardSaid : Prop := Claim7.holds Tryz.pinned (.plain (OpenSpec.ofChange typingKindsSpec)) typingKindsCard

/-- THE TIED CARD OF 'homehublaw31.TypingRule'. -/
def typingRuleCard : Claim7 := { stood := { row := typingRuleRow, standIns := [], harness := (true, "d6196cb5d42c4107fbac0b81f98070c1011c1d4a4ab4249e9e3527659c722117"), looks := false }, kinds := [], alts := [], laidByText := true, laidKinds := [.data], laidTests := true, laidLooks := .later }
def TypingRuleCardSaid : Prop := Claim7.holds Tryz.pinned (.plain (OpenSpec.ofChange typingRuleSpec)) typingRuleCard

/-- THE TIED CARD OF 'homehublaw31.TypingRules'. -/
def typingRulesCard : Claim7 := { stood := { row := typingRulesRow, standIns := [], harness := (true, "d6196cb5d42c4107fbac0b81f98070c1011c1d4a4ab4249e9e3527659c722117"), looks := false }, kinds := [], alts := [], laidByText := true, laidKinds := [.data], laidTests := true, laidLooks := .later }
def TypingRulesCardSaid : Prop := Claim7.holds Tryz.pinned (.plain (OpenSpec.ofChange typingRulesSpec)) typingRulesCard

/-- THE TIED CARD OF 'homehublaw31.TypingFolds'. -/
def typingFoldsCard : Claim7 := { stood := { row := typingFoldsRow, standIns := [], harness := (true, "d6196cb5d42c4107fbac0b81f98070c1011c1d4a4ab4249e9e3527659c722117"), looks := false }, kinds := [], alts := [], laidByText := true, laidKinds := [.data], laidTests := true, laidLooks := .later }
def TypingFoldsCardSaid : Prop := Claim7.holds Tryz.pinned (.plain (OpenSpec.ofChange typingFoldsSpec)) typingFoldsCard

/-- THE TIED CARD OF 'homehublaw31.TypingKeys'. -/
def typingKeysCard : Claim7 := { stood := { row := typingKeysRow, standIns := [], harness := (true, "d6196cb5d42c4107fbac0b81f98070c1011c1d4a4ab4249e9e3527659c722117"), looks := false }, kinds := [], alts := [], laidByText := true, laidKinds := [.data], laidTests := true, laidLooks := .later }
def TypingKeysCardSaid : Prop := Claim7.holds Tryz.pinned (.plain (OpenSpec.ofChange typingKeysSpec)) typingKeysCard

/-- THE TIED CARD OF 'homehublaw31.TypingExists'. -/
def typingExistsCard : Claim7 := { stood := { row := typingExistsRow, standIns := [], harness := (true, "d6196cb5d42c4107fbac0b81f98070c1011c1d4a4ab4249e9e3527659c722117"), looks := false }, kinds := [], alts := [], laidByText := true, laidKinds := [.data], laidTests := true, laidLooks := .later }
def TypingExistsCardSaid : Prop := Claim7.holds Tryz.pinned (.plain (OpenSpec.ofChange typingExistsSpec)) typingExistsCard

/-- THE TIED CARD OF 'homehublaw31.TypingOrder'. -/
def typingOrderCard : Claim7 := { stood := { row := typingOrderRow, standIns := [], harness := (true, "d6196cb5d42c4107fbac0b81f98070c1011c1d4a4ab4249e9e3527659c722117"), looks := false }, kinds := [], alts := [], laidByText := true, laidKinds := [.data], laidTests := true, laidLooks := .later }
def TypingOrderCardSaid : Prop := Claim7.holds Tryz.pinned (.plain (OpenSpec.ofChange typingOrderSpec)) typingOrderCard

/-- THE SECOND FORM's CARD OF 'homehublaw31.TypingChecks'. -/
def typingChecksUptoCard : Claim7 := { stood := { row := typingChecksUptoRow, standIns := [], harness := (true, "d6196cb5d42c4107fbac0b81f98070c1011c1d4a4ab4249e9e3527659c722117"), looks := false }, kinds := [], alts := [], laidByText := true, laidKinds := [.data], laidTests := true, laidLooks := .later }
def TypingChecksUptoCardSaid : Prop := Claim7.holds Tryz.pinned (.plain (OpenSpec.upto typingChecksSpec)) typingChecksUptoCard

/-- THE SECOND FORM's CARD OF 'homehublaw31.TypingKinds'. -/
def typingKindsUptoCard : Claim7 := { stood := { row := typingKindsUptoRow, standIns := [], harness := (true, "d6196cb5d42c4107fbac0b81f98070c1011c1d4a4ab4249e9e3527659c722117"), looks := false }, kinds := [], alts := [], laidByText := true, laidKinds := [.data], laidTests := true, laidLooks := .later }
def TypingKindsUptoCardSaid : Prop := Claim7.holds Tryz.pinned (.plain (OpenSpec.upto typingKindsSpec)) typingKindsUptoCard

/-- THE SECOND FORM's CARD OF 'homehublaw31.TypingRule'. -/
def typingRuleUptoCard : Claim7 := { stood := { row := typingRuleUptoRow, standIns := [], harness := (true, "d6196cb5d42c4107fbac0b81f98070c1011c1d4a4ab4249e9e3527659c722117"), looks := false }, kinds := [], alts := [], laidByText := true, laidKinds := [.data], laidTests := true, laidLooks := .later }
def TypingRuleUptoCardSaid : Prop := Claim7.holds Tryz.pinned (.plain (OpenSpec.upto typingRuleSpec)) typingRuleUptoCard

/-- THE SECOND FORM's CARD OF 'homehublaw31.TypingRules'. -/
def typingRulesUptoCard : Claim7 := { stood := { row := typingRulesUptoRow, standIns := [], harness := (true, "d6196cb5d42c4107fbac0b81f98070c1011c1d4a4ab4249e9e3527659c722117"), looks := false }, kinds := [], alts := [], laidByText := true, laidKinds := [.data], laidTests := true, laidLooks := .later }
def TypingRulesUptoCardSaid : Prop := Claim7.holds Tryz.pinned (.plain (OpenSpec.upto typingRulesSpec)) typingRulesUptoCard

/-- THE SECOND FORM's CARD OF 'homehublaw31.TypingFolds'. -/
def typingFoldsUptoCard : Claim7 := { stood := { row := typingFoldsUptoRow, standIns := [], harness := (true, "d6196cb5d42c4107fbac0b81f98070c1011c1d4a4ab4249e9e3527659c722117"), looks := false }, kinds := [], alts := [], laidByText := true, laidKinds := [.data], laidTests := true, laidLooks := .later }
def TypingFoldsUptoCardSaid : Prop := Claim7.holds Tryz.pinned (.plain (OpenSpec.upto typingFoldsSpec)) typingFoldsUptoCard

/-- THE SECOND FORM's CARD OF 'homehublaw31.TypingKeys'. -/
def typingKeysUptoCard : Claim7 := { stood := { row := typingKeysUptoRow, standIns := [], harness := (true, "d6196cb5d42c4107fbac0b81f98070c1011c1d4a4ab4249e9e3527659c722117"), looks := false }, kinds := [], alts := [], laidByText := true, laidKinds := [.data], laidTests := true, laidLooks := .later }
def TypingKeysUptoCardSaid : Prop := Claim7.holds Tryz.pinned (.plain (OpenSpec.upto typingKeysSpec)) typingKeysUptoCard

/-- THE SECOND FORM's CARD OF 'homehublaw31.TypingExists'. -/
def typingExistsUptoCard : Claim7 := { stood := { row := typingExistsUptoRow, standIns := [], harness := (true, "d6196cb5d42c4107fbac0b81f98070c1011c1d4a4ab4249e9e3527659c722117"), looks := false }, kinds := [], alts := [], laidByText := true, laidKinds := [.data], laidTests := true, laidLooks := .later }
def TypingExistsUptoCardSaid : Prop := Claim7.holds Tryz.pinned (.plain (OpenSpec.upto typingExistsSpec)) typingExistsUptoCard

/-- THE SECOND FORM's CARD OF 'homehublaw31.TypingOrder'. -/
def typingOrderUptoCard : Claim7 := { stood := { row := typingOrderUptoRow, standIns := [], harness := (true, "d6196cb5d42c4107fbac0b81f98070c1011c1d4a4ab4249e9e3527659c722117"), looks := false }, kinds := [], alts := [], laidByText := true, laidKinds := [.data], laidTests := true, laidLooks := .later }
def TypingOrderUptoCardSaid : Prop := Claim7.holds Tryz.pinned (.plain (OpenSpec.upto typingOrderSpec)) typingOrderUptoCard
end Rows
end Go.Proofs.YtbhnjopjhaebpaaGreatDoor
