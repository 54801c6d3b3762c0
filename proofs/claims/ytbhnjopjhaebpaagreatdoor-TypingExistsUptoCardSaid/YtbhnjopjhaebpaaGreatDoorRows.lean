/-
  NARROWER THAN 'FOR EVERY INPUT', by the rows' own cells (each row's printed sentence says how): TypingChecks: laid · TypingKinds: loops, laid · TypingRule: loops, laid · TypingRules: loops, laid · TypingFolds: loops, laid · TypingKeys: loops, laid · TypingExists: loops, laid · TypingOrder: loops, laid.
  DERIVED. THE GIVEN ROWS OF THIS SEAT. 8 by the template 'for every input the law returns true; each argument reads behind the call as it read before'; 0 by the template 'total and deterministic' (their statements: YtbhnjopjhaebpaaGreatDoorTotals.lean).
  GIVEN WITH THE SEED: the statements are not yours to turn. If you find one false, say at which input.
  Laid BY PROGRAM, IN A SANDBOX (cutbox-rows.mjs): the forced cells as the released guide's own fill.sh prints them over the translation e61d2a11f2d7f16c… (all of the seat's roots in one cut). By AI agents, Wed Nov 11 2026. No macro, syntax, notation, axiom, sorry.
-/
import Derived.Test.YtbhnjopjhaebpaaGreatDoorChecked
import GoSem.Claim
import GoSem.ClaimJoined
import GoSem.ClaimMapViews
import Derived.JoinedTies
import Derived.KernelRfl
namespace Go.Proofs.YtbhnjopjhaebpaaGreatDoor
/- THE CELL 'sum', in the pinned program and in every row, IS THE sha256 OF THE DUMP (.gsa) THAT YtbhnjopjhaebpaaGreatDoorProg.lean LOADS. Nothing in Lean hashes anything: it is a label: what it is worth is what the hold of that sum in a sandbox is worth. -/
noncomputable def Tryz.pinned : Pinned := { name := "ytbhnjopjhaebpaagreatdoor", sum := "e61d2a11f2d7f16ceee1e8fd1c51ad0330d7f73dafc195bbf6d75682ca8d18a6", checked := Tryz.checked }
namespace Rows
def none {H : Type} : Left H := { results := [], args := [] }

/- WHAT THE LISTED PACKAGE-LEVEL VARIABLES READ AS WHEN THE CALL BEGINS. Each datum BY PROGRAM (the guide's laid-datum.mjs) off the statement by which the dump's own 'gosem.cut.vars' lays the variable. In a bare row this is a premise. The card (YtbhnjopjhaebpaaGreatDoorCards.lean) ties it to the program's text. -/
def laid_homehub_cluster_standard {H : Type} : DataW H := .agg [.lit (.string [111, 110, 111, 102, 102]), .lit (.string [108, 101, 118, 101, 108]), .lit (.string [108, 111, 99, 107]), .lit (.string [116, 104, 101, 114, 109, 111, 115, 116, 97, 116]), .lit (.string [115, 109, 111, 107, 101]), .lit (.string [108, 101, 97, 107]), .lit (.string [118, 97, 108, 118, 101]), .lit (.string [109, 101, 116, 101, 114])]

/-- 'homehublaw31.TypingChecks': WHATEVER THE INPUT: true; the input reads as it did. -/
def typingChecksSpec : ChangeSpec := { name := "typingChecks", fn := fun _ => fun
  | [d] => { results := [.lit (.bool true)], args := [d] }
  | _ => none }
def typingChecksRow : OpenClaim := { program := "ytbhnjopjhaebpaagreatdoor", sum := "e61d2a11f2d7f16ceee1e8fd1c51ad0330d7f73dafc195bbf6d75682ca8d18a6", func := "homehub/homehublaw31.TypingChecks", spec := "typingChecks", unfollowed := true, recurses := true, named := ["homehub/cluster.standard"], plainKeys := false, apart := false, laid := [("homehub/cluster.standard", laid_homehub_cluster_standard)] }
def TypingChecksSaid : Prop := typingChecksRow.holds Tryz.pinned (OpenSpec.ofChange typingChecksSpec)

/-- ITS FALSE NEIGHBOUR: 'it returns false'. Refute it at one input. -/
def typingChecksWrong : ChangeSpec := { name := "typingChecks", fn := fun _ => fun
  | [d] => { results := [.lit (.bool false)], args := [d] }
  | _ => none }
def TypingChecksWrongFalsely : Prop := typingChecksRow.holds Tryz.pinned (OpenSpec.ofChange typingChecksWrong)

/-- 'homehublaw31.TypingKinds': WHATEVER THE INPUT: true; the input reads as it did. -/
def typingKindsSpec : ChangeSpec := { name := "typingKinds", fn := fun _ => fun
  | [d1, d2] => { results := [.lit (.bool true)], args := [d1, d2] }
  | _ => none }
def typingKindsRow : OpenClaim := { program := "ytbhnjopjhaebpaagreatdoor", sum := "e61d2a11f2d7f16ceee1e8fd1c51ad0330d7f73dafc195bbf6d75682ca8d18a6", func := "homehub/homehublaw31.TypingKinds", spec := "typingKinds", unfollowed := true, recurses := true, named := ["homehub/cluster.standard"], loops := true, plainKeys := false, apart := false, laid := [("homehub/cluster.standard", laid_homehub_cluster_standard)] }
def TypingKindsSaid : Prop := typingKindsRow.holds Tryz.pinned (OpenSpec.ofChange typingKindsSpec)

/-- ITS FALSE NEIGHBOUR: 'it returns false'. Refute it at one input. -/
def typingKindsWrong : ChangeSpec := { name := "typingKinds", fn := fun _ => fun
  | [d1, d2] => { results := [.lit (.bool false)], args := [d1, d2] }
  | _ => none }
def TypingKindsWrongFalsely : Prop := typingKindsRow.holds Tryz.pinned (OpenSpec.ofChange typingKindsWrong)

/-- 'homehublaw31.TypingRule': WHATEVER THE INPUT: true; the input reads as it did. -/
def typingRuleSpec : ChangeSpec := { name := "typingRule", fn := fun _ => fun
  | [d1, d2] => { results := [.lit (.bool true)], args := [d1, d2] }
  | _ => none }
def typingRuleRow : OpenClaim := { program := "ytbhnjopjhaebpaagreatdoor", sum := "e61d2a11f2d7f16ceee1e8fd1c51ad0330d7f73dafc195bbf6d75682ca8d18a6", func := "homehub/homehublaw31.TypingRule", spec := "typingRule", unfollowed := true, recurses := true, named := ["homehub/cluster.standard"], loops := true, plainKeys := false, apart := false, laid := [("homehub/cluster.standard", laid_homehub_cluster_standard)] }
def TypingRuleSaid : Prop := typingRuleRow.holds Tryz.pinned (OpenSpec.ofChange typingRuleSpec)

/-- ITS FALSE NEIGHBOUR: 'it returns false'. Refute it at one input. -/
def typingRuleWrong : ChangeSpec := { name := "typingRule", fn := fun _ => fun
  | [d1, d2] => { results := [.lit (.bool false)], args := [d1, d2] }
  | _ => none }
def TypingRuleWrongFalsely : Prop := typingRuleRow.holds Tryz.pinned (OpenSpec.ofChange typingRuleWrong)

/-- 'homehublaw31.TypingRules': WHATEVER THE INPUT: true; the input reads as it did. -/
def typingRulesSpec : ChangeSpec := { name := "typingRules", fn := fun _ => fun
  | [d1, d2] => { results := [.lit (.bool true)], args := [d1, d2] }
  | _ => none }
def typingRulesRow : OpenClaim := { program := "ytbhnjopjhaebpaagreatdoor", sum := "e61d2a11f2d7f16ceee1e8fd1c51ad0330d7f73dafc195bbf6d75682ca8d18a6", func := "homehub/homehublaw31.TypingRules", spec := "typingRules", unfollowed := true, recurses := true, named := ["homehub/cluster.standard"], loops := true, plainKeys := false, apart := false, laid := [("homehub/cluster.standard", laid_homehub_cluster_standard)] }
def TypingRulesSaid : Prop := typingRulesRow.holds Tryz.pinned (OpenSpec.ofChange typingRulesSpec)

/-- ITS FALSE NEIGHBOUR: 'it returns false'. Refute it at one input. -/
def typingRulesWrong : ChangeSpec := { name := "typingRules", fn := fun _ => fun
  | [d1, d2] => { results := [.lit (.bool false)], args := [d1, d2] }
  | _ => none }
def TypingRulesWrongFalsely : Prop := typingRulesRow.holds Tryz.pinned (OpenSpec.ofChange typingRulesWrong)

/-- 'homehublaw31.TypingFolds': WHATEVER THE INPUT: true; the input reads as it did. -/
def typingFoldsSpec : ChangeSpec := { name := "typingFolds", fn := fun _ => fun
  | [d1, d2] => { results := [.lit (.bool true)], args := [d1, d2] }
  | _ => none }
def typingFoldsRow : OpenClaim := { program := "ytbhnjopjhaebpaagreatdoor", sum := "e61d2a11f2d7f16ceee1e8fd1c51ad0330d7f73dafc195bbf6d75682ca8d18a6", func := "homehub/homehublaw31.TypingFolds", spec := "typingFolds", unfollowed := true, recurses := true, named := ["homehub/cluster.standard"], loops := true, plainKeys := false, apart := false, laid := [("homehub/cluster.standard", laid_homehub_cluster_standard)] }
def TypingFoldsSaid : Prop := typingFoldsRow.holds Tryz.pinned (OpenSpec.ofChange typingFoldsSpec)

/-- ITS FALSE NEIGHBOUR: 'it returns false'. Refute it at one input. -/
def typingFoldsWrong : ChangeSpec := { name := "typingFolds", fn := fun _ => fun
  | [d1, d2] => { results := [.lit (.bool false)], args := [d1, d2] }
  | _ => none }
def TypingFoldsWrongFalsely : Prop := typingFoldsRow.holds Tryz.pinned (OpenSpec.ofChange typingFoldsWrong)

/-- 'homehublaw31.TypingKeys': WHATEVER THE INPUT: true; the input reads as it did. -/
def typingKeysSpec : ChangeSpec := { name := "typingKeys", fn := fun _ => fun
  | [d1, d2] => { results := [.lit (.bool true)], args := [d1, d2] }
  | _ => none }
def typingKeysRow : OpenClaim := { program := "ytbhnjopjhaebpaagreatdoor", sum := "e61d2a11f2d7f16ceee1e8fd1c51ad0330d7f73dafc195bbf6d75682ca8d18a6", func := "homehub/homehublaw31.TypingKeys", spec := "typingKeys", inPlace := ["slices.overlaps[homehub/api.Key]"], unfollowed := true, recurses := true, named := ["homehub/cluster.standard"], loops := true, plainKeys := false, apart := false, laid := [("homehub/cluster.standard", laid_homehub_cluster_standard)] }
def TypingKeysSaid : Prop := typingKeysRow.holds Tryz.pinned (OpenSpec.ofChange typingKeysSpec)

/-- ITS FALSE NEIGHBOUR: 'it returns false'. Refute it at one input. -/
def typingKeysWrong : ChangeSpec := { name := "typingKeys", fn := fun _ => fun
  | [d1, d2] => { results := [.lit (.bool false)], args := [d1, d2] }
  | _ => none }
def TypingKeysWrongFalsely : Prop := typingKeysRow.holds Tryz.pinned (OpenSpec.ofChange typingKeysWrong)

/-- 'homehublaw31.TypingExists': WHATEVER THE INPUT: true; the input reads as it did. -/
def typingExistsSpec : ChangeSpec := { name := "typingExists", fn := fun _ => fun
  | [d1, d2] => { results := [.lit (.bool true)], args := [d1, d2] }
  | _ => none }
def typingExistsRow : OpenClaim := { program := "ytbhnjopjhaebpaagreatdoor", sum := "e61d2a11f2d7f16ceee1e8fd1c51ad0330d7f73dafc195bbf6d75682ca8d18a6", func := "homehub/homehublaw31.TypingExists", spec := "typingExists", inPlace := ["slices.overlaps[homehub/api.Key]"], unfollowed := true, recurses := true, named := ["homehub/cluster.standard"], loops := true, plainKeys := false, apart := false, laid := [("homehub/cluster.standard", laid_homehub_cluster_standard)] }
def TypingExistsSaid : Prop := typingExistsRow.holds Tryz.pinned (OpenSpec.ofChange typingExistsSpec)

/-- ITS FALSE NEIGHBOUR: 'it returns false'. Refute it at one input. -/
def typingExistsWrong : ChangeSpec := { name := "typingExists", fn := fun _ => fun
  | [d1, d2] => { results := [.lit (.bool false)], args := [d1, d2] }
  | _ => none }
def TypingExistsWrongFalsely : Prop := typingExistsRow.holds Tryz.pinned (OpenSpec.ofChange typingExistsWrong)

/-- 'homehublaw31.TypingOrder': WHATEVER THE INPUT: true; the input reads as it did. -/
def typingOrderSpec : ChangeSpec := { name := "typingOrder", fn := fun _ => fun
  | [d1, d2] => { results := [.lit (.bool true)], args := [d1, d2] }
  | _ => none }
def typingOrderRow : OpenClaim := { program := "ytbhnjopjhaebpaagreatdoor", sum := "e61d2a11f2d7f16ceee1e8fd1c51ad0330d7f73dafc195bbf6d75682ca8d18a6", func := "homehub/homehublaw31.TypingOrder", spec := "typingOrder", inPlace := ["slices.overlaps[homehub/api.Key]"], unfollowed := true, recurses := true, named := ["homehub/cluster.standard"], loops := true, plainKeys := false, apart := false, laid := [("homehub/cluster.standard", laid_homehub_cluster_standard)] }
def TypingOrderSaid : Prop := typingOrderRow.holds Tryz.pinned (OpenSpec.ofChange typingOrderSpec)

/-- ITS FALSE NEIGHBOUR: 'it returns false'. Refute it at one input. -/
def typingOrderWrong : ChangeSpec := { name := "typingOrder", fn := fun _ => fun
  | [d1, d2] => { results := [.lit (.bool false)], args := [d1, d2] }
  | _ => none }
def TypingOrderWrongFalsely : Prop := typingOrderRow.holds Tryz.pinned (OpenSpec.ofChange typingOrderWrong)

/- THE SECOND FORM. 'bulk': how many values and letters a reading holds, each counted each time it is reached (what is shared counts as often as it is met; a slice's spare places count too). A statement '..UptoSaid' is the law's where the arguments, and the package variables that the reading takes, are together of bulk at most 1048576: NARROWER than '..Said'. Prove '..Said' where nothing that the law and all that it calls make is longer than what came in: it says more and counts as full. Else prove '..UptoSaid'. A law counts once. -/
mutual
def uptoBulk {H : Type} : DataW H → Nat
  | .lit (.string bytes) => bytes.length + 1
  | .lit _ => 1
  | .nil => 1
  | .ptr d => uptoBulk d + 1
  | .slice elems spare => uptoBulkAll elems + uptoBulkAll spare + 1
  | .agg parts => uptoBulkAll parts + 1
  | .iface _ d => uptoBulk d + 1
  | .map entries => uptoBulkEntries entries + 1
  | .held _ => 1
def uptoBulkAll {H : Type} : List (DataW H) → Nat
  | [] => 0
  | d :: r => uptoBulk d + uptoBulkAll r
def uptoBulkEntries {H : Type} : List (Lit × DataW H) → Nat
  | [] => 0
  | x :: r => uptoBulkEntry x + uptoBulkEntries r
def uptoBulkEntry {H : Type} : Lit × DataW H → Nat
  | (.string bytes, d) => bytes.length + uptoBulk d + 1
  | (_, d) => uptoBulk d + 1
 end
def uptoSmall : (H : Type) → List (DataW H) → Bool := fun _ ds => decide (uptoBulkAll ds ≤ 1048576)
def OpenSpec.upto (s : _root_.Go.ChangeSpec) : _root_.Go.OpenSpec := { _root_.Go.OpenSpec.ofChange s with cond := some uptoSmall }

/-- 'homehublaw31.TypingChecks', WHERE WHAT IT READS IS OF BULK AT MOST 1048576: true; the input reads as it did. -/
def typingChecksUptoRow : OpenClaim := { program := "ytbhnjopjhaebpaagreatdoor", sum := "e61d2a11f2d7f16ceee1e8fd1c51ad0330d7f73dafc195bbf6d75682ca8d18a6", func := "homehub/homehublaw31.TypingChecks", spec := "typingChecks", unfollowed := true, recurses := true, named := ["homehub/cluster.standard"], plainKeys := false, apart := false, laid := [("homehub/cluster.standard", laid_homehub_cluster_standard)], narrowed := true }
def TypingChecksUptoSaid : Prop := typingChecksUptoRow.holds Tryz.pinned (OpenSpec.upto typingChecksSpec)

/-- 'homehublaw31.TypingKinds', WHERE WHAT IT READS IS OF BULK AT MOST 1048576: true; the input reads as it did. -/
def typingKindsUptoRow : OpenClaim := { program := "ytbhnjopjhaebpaagreatdoor", sum := "e61d2a11f2d7f16ceee1e8fd1c51ad0330d7f73dafc195bbf6d75682ca8d18a6", func := "homehub/homehublaw31.TypingKinds", spec := "typingKinds", unfollowed := true, recurses := true, named := ["homehub/cluster.standard"], loops := true, plainKeys := false, apart := false, laid := [("homehub/cluster.standard", laid_homehub_cluster_standard)], narrowed := true }
def TypingKindsUptoSaid : Prop := typingKindsUptoRow.holds Tryz.pinned (OpenSpec.upto typingKindsSpec)

/-- 'homehublaw31.TypingRule', WHERE WHAT IT READS IS OF BULK AT MOST 1048576: true; the input reads as it did. -/
def typingRuleUptoRow : OpenClaim := { program := "ytbhnjopjhaebpaagreatdoor", sum := "e61d2a11f2d7f16ceee1e8fd1c51ad0330d7f73dafc195bbf6d75682ca8d18a6", func := "homehub/homehublaw31.TypingRule", spec := "typingRule", unfollowed := true, recurses := true, named := ["homehub/cluster.standard"], loops := true, plainKeys := false, apart := false, laid := [("homehub/cluster.standard", laid_homehub_cluster_standard)], narrowed := true }
def TypingRuleUptoSaid : Prop := typingRuleUptoRow.holds Tryz.pinned (OpenSpec.upto typingRuleSpec)

/-- 'homehublaw31.TypingRules', WHERE WHAT IT READS IS OF BULK AT MOST 1048576: true; the input reads as it did. -/
def typingRulesUptoRow : OpenClaim := { program := "ytbhnjopjhaebpaagreatdoor", sum := "e61d2a11f2d7f16ceee1e8fd1c51ad0330d7f73dafc195bbf6d75682ca8d18a6", func := "homehub/homehublaw31.TypingRules", spec := "typingRules", unfollowed := true, recurses := true, named := ["homehub/cluster.standard"], loops := true, plainKeys := false, apart := false, laid := [("homehub/cluster.standard", laid_homehub_cluster_standard)], narrowed := true }
def TypingRulesUptoSaid : Prop := typingRulesUptoRow.holds Tryz.pinned (OpenSpec.upto typingRulesSpec)

/-- 'homehublaw31.TypingFolds', WHERE WHAT IT READS IS OF BULK AT MOST 1048576: true; the input reads as it did. -/
def typingFoldsUptoRow : OpenClaim := { program := "ytbhnjopjhaebpaagreatdoor", sum := "e61d2a11f2d7f16ceee1e8fd1c51ad0330d7f73dafc195bbf6d75682ca8d18a6", func := "homehub/homehublaw31.TypingFolds", spec := "typingFolds", unfollowed := true, recurses := true, named := ["homehub/cluster.standard"], loops := true, plainKeys := false, apart := false, laid := [("homehub/cluster.standard", laid_homehub_cluster_standard)], narrowed := true }
def TypingFoldsUptoSaid : Prop := typingFoldsUptoRow.holds Tryz.pinned (OpenSpec.upto typingFoldsSpec)

/-- 'homehublaw31.TypingKeys', WHERE WHAT IT READS IS OF BULK AT MOST 1048576: true; the input reads as it did. -/
def typingKeysUptoRow : OpenClaim := { program := "ytbhnjopjhaebpaagreatdoor", sum := "e61d2a11f2d7f16ceee1e8fd1c51ad0330d7f73dafc195bbf6d75682ca8d18a6", func := "homehub/homehublaw31.TypingKeys", spec := "typingKeys", inPlace := ["slices.overlaps[homehub/api.Key]"], unfollowed := true, recurses := true, named := ["homehub/cluster.standard"], loops := true, plainKeys := false, apart := false, laid := [("homehub/cluster.standard", laid_homehub_cluster_standard)], narrowed := true }
def TypingKeysUptoSaid : Prop := typingKeysUptoRow.holds Tryz.pinned (OpenSpec.upto typingKeysSpec)

/-- 'homehublaw31.TypingExists', WHERE WHAT IT READS IS OF BULK AT MOST 1048576: true; the input reads as it did. -/
def typingExistsUptoRow : OpenClaim := { program := "ytbhnjopjhaebpaagreatdoor", sum := "e61d2a11f2d7f16ceee1e8fd1c51ad0330d7f73dafc195bbf6d75682ca8d18a6", func := "homehub/homehublaw31.TypingExists", spec := "typingExists", inPlace := ["slices.overlaps[homehub/api.Key]"], unfollowed := true, recurses := true, named := ["homehub/cluster.standard"], loops := true, plainKeys := false, apart := false, laid := [("homehub/cluster.standard", laid_homehub_cluster_standard)], narrowed := true }
def TypingExistsUptoSaid : Prop := typingExistsUptoRow.holds Tryz.pinned (OpenSpec.upto typingExistsSpec)

/-- 'homehublaw31.TypingOrder', WHERE WHAT IT READS IS OF BULK AT MOST 1048576: true; the input reads as it did. -/
def typingOrderUptoRow : OpenClaim := { program := "ytbhnjopjhaebpaagreatdoor", sum := "e61d2a11f2d7f16ceee1e8fd1c51ad0330d7f73dafc195bbf6d75682ca8d18a6", func := "homehub/homehublaw31.TypingOrder", spec := "typingOrder", inPlace := ["slices.overlaps[homehub/api.Key]"], unfollowed := true, recurses := true, named := ["homehub/cluster.standard"], loops := true, plainKeys := false, apart := false, laid := [("homehub/cluster.standard", laid_homehub_cluster_standard)], narrowed := true }
def TypingOrderUptoSaid : Prop := typingOrderUptoRow.holds Tryz.pinned (OpenSpec.upto typingOrderSpec)

end Rows
end Go.Proofs.YtbhnjopjhaebpaaGreatDoor
