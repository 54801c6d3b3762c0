/-
  NARROWER THAN 'FOR EVERY INPUT', by the rows' own cells (each row's printed sentence says how): RulesRuns: loops, laid · RulesModes: laid · RulesOrder: loops, laid · RulesOthers: loops, laid · RulesWrites: loops, laid · RulesQuiet: loops, laid.
  DERIVED. THE GIVEN ROWS OF THIS SEAT. 6 by the template 'for every input the law returns true; each argument reads behind the call as it read before'; 0 by the template 'total and deterministic' (their statements: YtipbekclhmbclaaGreatDoorTotals.lean).
  GIVEN WITH THE SEED: the statements are not yours to turn. If you find one false, say at which input.
  Laid BY PROGRAM, IN A SANDBOX (cutbox-rows.mjs): the forced cells as the released guide's own fill.sh prints them over the translation 188ed8b3261a89ff… (all of the seat's roots in one cut). By AI agents, Wed Nov 11 2026. No macro, syntax, notation, axiom, sorry.
-/
import Derived.Test.YtipbekclhmbclaaGreatDoorChecked
import GoSem.Claim
import GoSem.ClaimJoined
import GoSem.ClaimMapViews
import Derived.JoinedTies
import Derived.KernelRfl
namespace Go.Proofs.YtipbekclhmbclaaGreatDoor
/- THE CELL 'sum', in the pinned program and in every row, IS THE sha256 OF THE DUMP (.gsa) THAT YtipbekclhmbclaaGreatDoorProg.lean LOADS. Nothing in Lean hashes anything: it is a label: what it is worth is what the hold of that sum in a sandbox is worth. -/
noncomputable def Tryz.pinned : Pinned := { name := "ytipbekclhmbclaagreatdoor", sum := "188ed8b3261a89ff0c7066efb0705ed2d3034863a8bc3ac9dc68f4d36542ab4d", checked := Tryz.checked }
namespace Rows
def none {H : Type} : Left H := { results := [], args := [] }

/- WHAT THE LISTED PACKAGE-LEVEL VARIABLES READ AS WHEN THE CALL BEGINS. Each datum BY PROGRAM (the guide's laid-datum.mjs) off the statement by which the dump's own 'gosem.cut.vars' lays the variable. In a bare row this is a premise. The card (YtipbekclhmbclaaGreatDoorCards.lean) ties it to the program's text. -/
def laid_homehub_cluster_standard {H : Type} : DataW H := .agg [.lit (.string [111, 110, 111, 102, 102]), .lit (.string [108, 101, 118, 101, 108]), .lit (.string [108, 111, 99, 107]), .lit (.string [116, 104, 101, 114, 109, 111, 115, 116, 97, 116]), .lit (.string [115, 109, 111, 107, 101]), .lit (.string [108, 101, 97, 107]), .lit (.string [118, 97, 108, 118, 101]), .lit (.string [109, 101, 116, 101, 114])]

/-- 'homehublaw37.RulesRuns': WHATEVER THE INPUT: true; the input reads as it did. -/
def rulesRunsSpec : ChangeSpec := { name := "rulesRuns", fn := fun _ => fun
  | [d] => { results := [.lit (.bool true)], args := [d] }
  | _ => none }
def rulesRunsRow : OpenClaim := { program := "ytipbekclhmbclaagreatdoor", sum := "188ed8b3261a89ff0c7066efb0705ed2d3034863a8bc3ac9dc68f4d36542ab4d", func := "homehub/homehublaw37.RulesRuns", spec := "rulesRuns", inPlace := ["slices.overlaps[homehub/api.Key]", "slices.overlaps[homehub/api.Event]", "slices.overlaps[string]"], unfollowed := true, recurses := true, named := ["homehub/cluster.standard"], loops := true, apart := false, laid := [("homehub/cluster.standard", laid_homehub_cluster_standard)] }
def RulesRunsSaid : Prop := rulesRunsRow.holds Tryz.pinned (OpenSpec.ofChange rulesRunsSpec)

/-- ITS FALSE NEIGHBOUR: 'it returns false'. Refute it at one input. -/
def rulesRunsWrong : ChangeSpec := { name := "rulesRuns", fn := fun _ => fun
  | [d] => { results := [.lit (.bool false)], args := [d] }
  | _ => none }
def RulesRunsWrongFalsely : Prop := rulesRunsRow.holds Tryz.pinned (OpenSpec.ofChange rulesRunsWrong)

/-- 'homehublaw37.RulesModes': WHATEVER THE INPUT: true; the input reads as it did. -/
def rulesModesSpec : ChangeSpec := { name := "rulesModes", fn := fun _ => fun
  | [d1, d2] => { results := [.lit (.bool true)], args := [d1, d2] }
  | _ => none }
def rulesModesRow : OpenClaim := { program := "ytipbekclhmbclaagreatdoor", sum := "188ed8b3261a89ff0c7066efb0705ed2d3034863a8bc3ac9dc68f4d36542ab4d", func := "homehub/homehublaw37.RulesModes", spec := "rulesModes", inPlace := ["slices.overlaps[homehub/api.Key]", "slices.overlaps[homehub/api.Event]", "slices.overlaps[string]"], unfollowed := true, recurses := true, named := ["homehub/cluster.standard"], apart := false, laid := [("homehub/cluster.standard", laid_homehub_cluster_standard)] }
def RulesModesSaid : Prop := rulesModesRow.holds Tryz.pinned (OpenSpec.ofChange rulesModesSpec)

/-- ITS FALSE NEIGHBOUR: 'it returns false'. Refute it at one input. -/
def rulesModesWrong : ChangeSpec := { name := "rulesModes", fn := fun _ => fun
  | [d1, d2] => { results := [.lit (.bool false)], args := [d1, d2] }
  | _ => none }
def RulesModesWrongFalsely : Prop := rulesModesRow.holds Tryz.pinned (OpenSpec.ofChange rulesModesWrong)

/-- 'homehublaw37.RulesOrder': WHATEVER THE INPUT: true; the input reads as it did. -/
def rulesOrderSpec : ChangeSpec := { name := "rulesOrder", fn := fun _ => fun
  | [d] => { results := [.lit (.bool true)], args := [d] }
  | _ => none }
def rulesOrderRow : OpenClaim := { program := "ytipbekclhmbclaagreatdoor", sum := "188ed8b3261a89ff0c7066efb0705ed2d3034863a8bc3ac9dc68f4d36542ab4d", func := "homehub/homehublaw37.RulesOrder", spec := "rulesOrder", inPlace := ["slices.overlaps[homehub/api.Key]", "slices.overlaps[homehub/api.Event]", "slices.overlaps[string]"], unfollowed := true, recurses := true, named := ["homehub/cluster.standard"], loops := true, apart := false, laid := [("homehub/cluster.standard", laid_homehub_cluster_standard)] }
def RulesOrderSaid : Prop := rulesOrderRow.holds Tryz.pinned (OpenSpec.ofChange rulesOrderSpec)

/-- ITS FALSE NEIGHBOUR: 'it returns false'. Refute it at one input. -/
def rulesOrderWrong : ChangeSpec := { name := "rulesOrder", fn := fun _ => fun
  | [d] => { results := [.lit (.bool false)], args := [d] }
  | _ => none }
def RulesOrderWrongFalsely : Prop := rulesOrderRow.holds Tryz.pinned (OpenSpec.ofChange rulesOrderWrong)

/-- 'homehublaw37.RulesOthers': WHATEVER THE INPUT: true; the input reads as it did. -/
def rulesOthersSpec : ChangeSpec := { name := "rulesOthers", fn := fun _ => fun
  | [d] => { results := [.lit (.bool true)], args := [d] }
  | _ => none }
def rulesOthersRow : OpenClaim := { program := "ytipbekclhmbclaagreatdoor", sum := "188ed8b3261a89ff0c7066efb0705ed2d3034863a8bc3ac9dc68f4d36542ab4d", func := "homehub/homehublaw37.RulesOthers", spec := "rulesOthers", inPlace := ["slices.overlaps[homehub/api.Key]", "slices.overlaps[homehub/api.Event]", "slices.overlaps[string]"], unfollowed := true, recurses := true, named := ["homehub/cluster.standard"], loops := true, apart := false, laid := [("homehub/cluster.standard", laid_homehub_cluster_standard)] }
def RulesOthersSaid : Prop := rulesOthersRow.holds Tryz.pinned (OpenSpec.ofChange rulesOthersSpec)

/-- ITS FALSE NEIGHBOUR: 'it returns false'. Refute it at one input. -/
def rulesOthersWrong : ChangeSpec := { name := "rulesOthers", fn := fun _ => fun
  | [d] => { results := [.lit (.bool false)], args := [d] }
  | _ => none }
def RulesOthersWrongFalsely : Prop := rulesOthersRow.holds Tryz.pinned (OpenSpec.ofChange rulesOthersWrong)

/-- 'homehublaw37.RulesWrites': WHATEVER THE INPUT: true; the input reads as it did. -/
def rulesWritesSpec : ChangeSpec := { name := "rulesWrites", fn := fun _ => fun
  | [d] => { results := [.lit (.bool true)], args := [d] }
  | _ => none }
def rulesWritesRow : OpenClaim := { program := "ytipbekclhmbclaagreatdoor", sum := "188ed8b3261a89ff0c7066efb0705ed2d3034863a8bc3ac9dc68f4d36542ab4d", func := "homehub/homehublaw37.RulesWrites", spec := "rulesWrites", inPlace := ["slices.overlaps[homehub/api.Key]", "slices.overlaps[homehub/api.Event]", "slices.overlaps[string]"], unfollowed := true, recurses := true, named := ["homehub/cluster.standard"], loops := true, apart := false, laid := [("homehub/cluster.standard", laid_homehub_cluster_standard)] }
def RulesWritesSaid : Prop := rulesWritesRow.holds Tryz.pinned (OpenSpec.ofChange rulesWritesSpec)

/-- ITS FALSE NEIGHBOUR: 'it returns false'. Refute it at one input. -/
def rulesWritesWrong : ChangeSpec := { name := "rulesWrites", fn := fun _ => fun
  | [d] => { results := [.lit (.bool false)], args := [d] }
  | _ => none }
def RulesWritesWrongFalsely : Prop := rulesWritesRow.holds Tryz.pinned (OpenSpec.ofChange rulesWritesWrong)

/-- 'homehublaw37.RulesQuiet': WHATEVER THE INPUT: true; the input reads as it did. -/
def rulesQuietSpec : ChangeSpec := { name := "rulesQuiet", fn := fun _ => fun
  | [d] => { results := [.lit (.bool true)], args := [d] }
  | _ => none }
def rulesQuietRow : OpenClaim := { program := "ytipbekclhmbclaagreatdoor", sum := "188ed8b3261a89ff0c7066efb0705ed2d3034863a8bc3ac9dc68f4d36542ab4d", func := "homehub/homehublaw37.RulesQuiet", spec := "rulesQuiet", inPlace := ["slices.overlaps[homehub/api.Key]", "slices.overlaps[homehub/api.Event]", "slices.overlaps[string]"], unfollowed := true, recurses := true, named := ["homehub/cluster.standard"], loops := true, apart := false, laid := [("homehub/cluster.standard", laid_homehub_cluster_standard)] }
def RulesQuietSaid : Prop := rulesQuietRow.holds Tryz.pinned (OpenSpec.ofChange rulesQuietSpec)

/-- ITS FALSE NEIGHBOUR: 'it returns false'. Refute it at one input. -/
def rulesQuietWrong : ChangeSpec := { name := "rulesQuiet", fn := fun _ => fun
  | [d] => { results := [.lit (.bool false)], args := [d] }
  | _ => none }
def RulesQuietWrongFalsely : Prop := rulesQuietRow.holds Tryz.pinned (OpenSpec.ofChange rulesQuietWrong)

/- THE SECOND FORM. 'bulk': how many values and letters a reading holds, each counted each time it is reached (what is shared counts as often as it is met; a slice's spare places count too). A statement '..UptoSaid' is the law's where the arguments, and the package variables that the reading takes, are together of bulk at most 1048576: NARROWER than '..Said'. Prove '..Said' where nothing that the law and all that it calls make is longer than what came in: it says more and counts as full. Else prove '..UptoSaid'. A law counts once. -/
mutual
def uptoBulk {H : Type} : DataW H → Nat
  | .lit (.string bytes) => bytes.length + 1
  | .lit _ => 1
  | .nil => 1
  | .ptr d => uptoBulk d + 1
  | .slice elems spare => uptoBulkAll elems + uptoBulkAll spare + 1
  | .agg parts => uptoBulkAll parts + 1
  | .iface _ d => uptoBulk d + 1
  | .map entries => uptoBulkEntries entries + 1
  | .held _ => 1
def uptoBulkAll {H : Type} : List (DataW H) → Nat
  | [] => 0
  | d :: r => uptoBulk d + uptoBulkAll r
def uptoBulkEntries {H : Type} : List (Lit × DataW H) → Nat
  | [] => 0
  | x :: r => uptoBulkEntry x + uptoBulkEntries r
def uptoBulkEntry {H : Type} : Lit × DataW H → Nat
  | (.string bytes, d) => bytes.length + uptoBulk d + 1
  | (_, d) => uptoBulk d + 1
 end
def uptoSmall : (H : Type) → List (DataW H) → Bool := fun _ ds => decide (uptoBulkAll ds ≤ 1048576)
def OpenSpec.upto (s : _root_.Go.ChangeSpec) : _root_.Go.OpenSpec := { _root_.Go.OpenSpec.ofChange s with cond := some uptoSmall }

/-- 'homehublaw37.RulesRuns', WHERE WHAT IT READS IS OF BULK AT MOST 1048576: true; the input reads as it did. -/
def rulesRunsUptoRow : OpenClaim := { program := "ytipbekclhmbclaagreatdoor", sum := "188ed8b3261a89ff0c7066efb0705ed2d3034863a8bc3ac9dc68f4d36542ab4d", func := "homehub/homehublaw37.RulesRuns", spec := "rulesRuns", inPlace := ["slices.overlaps[homehub/api.Key]", "slices.overlaps[homehub/api.Event]", "slices.overlaps[string]"], unfollowed := true, recurses := true, named := ["homehub/cluster.standard"], loops := true, apart := false, laid := [("homehub/cluster.standard", laid_homehub_cluster_standard)], narrowed := true }
def RulesRunsUptoSaid : Prop := rulesRunsUptoRow.holds Tryz.pinned (OpenSpec.upto rulesRunsSpec)

/-- 'homehublaw37.RulesModes', WHERE WHAT IT READS IS OF BULK AT MOST 1048576: true; the input reads as it did. -/
def rulesModesUptoRow : OpenClaim := { program := "ytipbekclhmbclaagreatdoor", sum := "188ed8b3261a89ff0c7066efb0705ed2d3034863a8bc3ac9dc68f4d36542ab4d", func := "homehub/homehublaw37.RulesModes", spec := "rulesModes", inPlace := ["slices.overlaps[homehub/api.Key]", "slices.overlaps[homehub/api.Event]", "slices.overlaps[string]"], unfollowed := true, recurses := true, named := ["homehub/cluster.standard"], apart := false, laid := [("homehub/cluster.standard", laid_homehub_cluster_standard)], narrowed := true }
def RulesModesUptoSaid : Prop := rulesModesUptoRow.holds Tryz.pinned (OpenSpec.upto rulesModesSpec)

/-- 'homehublaw37.RulesOrder', WHERE WHAT IT READS IS OF BULK AT MOST 1048576: true; the input reads as it did. -/
def rulesOrderUptoRow : OpenClaim := { program := "ytipbekclhmbclaagreatdoor", sum := "188ed8b3261a89ff0c7066efb0705ed2d3034863a8bc3ac9dc68f4d36542ab4d", func := "homehub/homehublaw37.RulesOrder", spec := "rulesOrder", inPlace := ["slices.overlaps[homehub/api.Key]", "slices.overlaps[homehub/api.Event]", "slices.overlaps[string]"], unfollowed := true, recurses := true, named := ["homehub/cluster.standard"], loops := true, apart := false, laid := [("homehub/cluster.standard", laid_homehub_cluster_standard)], narrowed := true }
def RulesOrderUptoSaid : Prop := rulesOrderUptoRow.holds Tryz.pinned (OpenSpec.upto rulesOrderSpec)

/-- 'homehublaw37.RulesOthers', WHERE WHAT IT READS IS OF BULK AT MOST 1048576: true; the input reads as it did. -/
def rulesOthersUptoRow : OpenClaim := { program := "ytipbekclhmbclaagreatdoor", sum := "188ed8b3261a89ff0c7066efb0705ed2d3034863a8bc3ac9dc68f4d36542ab4d", func := "homehub/homehublaw37.RulesOthers", spec := "rulesOthers", inPlace := ["slices.overlaps[homehub/api.Key]", "slices.overlaps[homehub/api.Event]", "slices.overlaps[string]"], unfollowed := true, recurses := true, named := ["homehub/cluster.standard"], loops := true, apart := false, laid := [("homehub/cluster.standard", laid_homehub_cluster_standard)], narrowed := true }
def RulesOthersUptoSaid : Prop := rulesOthersUptoRow.holds Tryz.pinned (OpenSpec.upto rulesOthersSpec)

/-- 'homehublaw37.RulesWrites', WHERE WHAT IT READS IS OF BULK AT MOST 1048576: true; the input reads as it did. -/
def rulesWritesUptoRow : OpenClaim := { program := "ytipbekclhmbclaagreatdoor", sum := "188ed8b3261a89ff0c7066efb0705ed2d3034863a8bc3ac9dc68f4d36542ab4d", func := "homehub/homehublaw37.RulesWrites", spec := "rulesWrites", inPlace := ["slices.overlaps[homehub/api.Key]", "slices.overlaps[homehub/api.Event]", "slices.overlaps[string]"], unfollowed := true, recurses := true, named := ["homehub/cluster.standard"], loops := true, apart := false, laid := [("homehub/cluster.standard", laid_homehub_cluster_standard)], narrowed := true }
def RulesWritesUptoSaid : Prop := rulesWritesUptoRow.holds Tryz.pinned (OpenSpec.upto rulesWritesSpec)

/-- 'homehublaw37.RulesQuiet', WHERE WHAT IT READS IS OF BULK AT MOST 1048576: true; the input reads as it did. -/
def rulesQuietUptoRow : OpenClaim := { program := "ytipbekclhmbclaagreatdoor", sum := "188ed8b3261a89ff0c7066efb0705ed2d3034863a8bc3ac9dc68f4d36542ab4d", func := "homehub/homehublaw37.RulesQuiet", spec := "rulesQuiet", inPlace := ["slices.overlaps[homehub/api.Key]", "slices.overlaps[homehub/api.Event]", "slices.overlaps[string]"], unfollowed := true, recurses := true, named := ["homehub/cluster.standard"], loops := true, apart := false, laid := [("homehub/cluster.standard", laid_homehub_cluster_standard)], narrowed := true }
def RulesQuietUptoSaid : Prop := rulesQuietUptoRow.holds Tryz.pinned (OpenSpec.upto rulesQuietSpec)

end Rows
end Go.Proofs.YtipbekclhmbclaaGreatDoor
