/-
  No cell of these rows narrows 'for every input' (looked for: loops, veiled, ifaces, maps, wideKeys, modest, calm, conditions, laid).
  DERIVED. THE GIVEN ROWS OF THIS SEAT. 7 by the template 'for every input the law returns true; each argument reads behind the call as it read before'; 0 by the template 'total and deterministic' (their statements: YthelcfpfbnhcjaaTotals.lean).
  GIVEN WITH THE SEED: the statements are not yours to turn. If you find one false, say at which input.
  Laid BY PROGRAM, IN A SANDBOX (cutbox-rows.mjs): the forced cells as the released guide's own fill.sh prints them over the translation 40705ce95616d376… (all of the seat's roots in one cut). By AI agents, Wed Nov 11 2026. No macro, syntax, notation, axiom, sorry.
-/
import Derived.Test.YthelcfpfbnhcjaaChecked
import GoSem.Claim
import GoSem.ClaimJoined
import GoSem.ClaimMapViews
import Derived.JoinedTies
import Derived.KernelRfl
namespace Go.Proofs.Ythelcfpfbnhcjaa
/- THE CELL 'sum', in the pinned program and in every row, IS THE sha256 OF THE DUMP (.gsa) THAT YthelcfpfbnhcjaaProg.lean LOADS. Nothing in Lean hashes anything: it is a label: what it is worth is what the hold of that sum in a sandbox is worth. -/
noncomputable def Try.pinned : Pinned := { name := "ythelcfpfbnhcjaa", sum := "40705ce95616d3761f1f7e4500af6245bb0c5cd5518200710787718ad3decf18", checked := Try.checked }
namespace Rows
def none {H : Type} : Left H := { results := [], args := [] }

/-- 'homehublaw36.SceneChecks': WHATEVER THE INPUT: true; the input reads as it did. -/
def sceneChecksSpec : ChangeSpec := { name := "sceneChecks", fn := fun _ => fun
  | [d1, d2] => { results := [.lit (.bool true)], args := [d1, d2] }
  | _ => none }
def sceneChecksRow : OpenClaim := { program := "ythelcfpfbnhcjaa", sum := "40705ce95616d3761f1f7e4500af6245bb0c5cd5518200710787718ad3decf18", func := "homehub/homehublaw36.SceneChecks", spec := "sceneChecks", unfollowed := true, recurses := true, plainKeys := false, apart := false }
def SceneChecksSaid : Prop := sceneChecksRow.holds Try.pinned (OpenSpec.ofChange sceneChecksSpec)

/-- ITS FALSE NEIGHBOUR: 'it returns false'. Refute it at one input. -/
def sceneChecksWrong : ChangeSpec := { name := "sceneChecks", fn := fun _ => fun
  | [d1, d2] => { results := [.lit (.bool false)], args := [d1, d2] }
  | _ => none }
def SceneChecksWrongFalsely : Prop := sceneChecksRow.holds Try.pinned (OpenSpec.ofChange sceneChecksWrong)

/-- 'homehublaw36.SceneCaptures': WHATEVER THE INPUT: true; the input reads as it did. -/
def sceneCapturesSpec : ChangeSpec := { name := "sceneCaptures", fn := fun _ => fun
  | [d1, d2, d3, d4, d5] => { results := [.lit (.bool true)], args := [d1, d2, d3, d4, d5] }
  | _ => none }
def sceneCapturesRow : OpenClaim := { program := "ythelcfpfbnhcjaa", sum := "40705ce95616d3761f1f7e4500af6245bb0c5cd5518200710787718ad3decf18", func := "homehub/homehublaw36.SceneCaptures", spec := "sceneCaptures", unfollowed := true, recurses := true, plainKeys := false, apart := false }
def SceneCapturesSaid : Prop := sceneCapturesRow.holds Try.pinned (OpenSpec.ofChange sceneCapturesSpec)

/-- ITS FALSE NEIGHBOUR: 'it returns false'. Refute it at one input. -/
def sceneCapturesWrong : ChangeSpec := { name := "sceneCaptures", fn := fun _ => fun
  | [d1, d2, d3, d4, d5] => { results := [.lit (.bool false)], args := [d1, d2, d3, d4, d5] }
  | _ => none }
def SceneCapturesWrongFalsely : Prop := sceneCapturesRow.holds Try.pinned (OpenSpec.ofChange sceneCapturesWrong)

/-- 'homehublaw36.SceneCompares': WHATEVER THE INPUT: true; the input reads as it did. -/
def sceneComparesSpec : ChangeSpec := { name := "sceneCompares", fn := fun _ => fun
  | [d1, d2] => { results := [.lit (.bool true)], args := [d1, d2] }
  | _ => none }
def sceneComparesRow : OpenClaim := { program := "ythelcfpfbnhcjaa", sum := "40705ce95616d3761f1f7e4500af6245bb0c5cd5518200710787718ad3decf18", func := "homehub/homehublaw36.SceneCompares", spec := "sceneCompares", unfollowed := true, recurses := true, plainKeys := false, apart := false }
def SceneComparesSaid : Prop := sceneComparesRow.holds Try.pinned (OpenSpec.ofChange sceneComparesSpec)

/-- ITS FALSE NEIGHBOUR: 'it returns false'. Refute it at one input. -/
def sceneComparesWrong : ChangeSpec := { name := "sceneCompares", fn := fun _ => fun
  | [d1, d2] => { results := [.lit (.bool false)], args := [d1, d2] }
  | _ => none }
def SceneComparesWrongFalsely : Prop := sceneComparesRow.holds Try.pinned (OpenSpec.ofChange sceneComparesWrong)

/-- 'homehublaw36.SceneCaught': WHATEVER THE INPUT: true; the input reads as it did. -/
def sceneCaughtSpec : ChangeSpec := { name := "sceneCaught", fn := fun _ => fun
  | [d1, d2, d3, d4] => { results := [.lit (.bool true)], args := [d1, d2, d3, d4] }
  | _ => none }
def sceneCaughtRow : OpenClaim := { program := "ythelcfpfbnhcjaa", sum := "40705ce95616d3761f1f7e4500af6245bb0c5cd5518200710787718ad3decf18", func := "homehub/homehublaw36.SceneCaught", spec := "sceneCaught", unfollowed := true, recurses := true, plainKeys := false, apart := false }
def SceneCaughtSaid : Prop := sceneCaughtRow.holds Try.pinned (OpenSpec.ofChange sceneCaughtSpec)

/-- ITS FALSE NEIGHBOUR: 'it returns false'. Refute it at one input. -/
def sceneCaughtWrong : ChangeSpec := { name := "sceneCaught", fn := fun _ => fun
  | [d1, d2, d3, d4] => { results := [.lit (.bool false)], args := [d1, d2, d3, d4] }
  | _ => none }
def SceneCaughtWrongFalsely : Prop := sceneCaughtRow.holds Try.pinned (OpenSpec.ofChange sceneCaughtWrong)

/-- 'homehublaw36.SceneJoins': WHATEVER THE INPUT: true; the input reads as it did. -/
def sceneJoinsSpec : ChangeSpec := { name := "sceneJoins", fn := fun _ => fun
  | [d1, d2, d3] => { results := [.lit (.bool true)], args := [d1, d2, d3] }
  | _ => none }
def sceneJoinsRow : OpenClaim := { program := "ythelcfpfbnhcjaa", sum := "40705ce95616d3761f1f7e4500af6245bb0c5cd5518200710787718ad3decf18", func := "homehub/homehublaw36.SceneJoins", spec := "sceneJoins", unfollowed := true, recurses := true, plainKeys := false, apart := false }
def SceneJoinsSaid : Prop := sceneJoinsRow.holds Try.pinned (OpenSpec.ofChange sceneJoinsSpec)

/-- ITS FALSE NEIGHBOUR: 'it returns false'. Refute it at one input. -/
def sceneJoinsWrong : ChangeSpec := { name := "sceneJoins", fn := fun _ => fun
  | [d1, d2, d3] => { results := [.lit (.bool false)], args := [d1, d2, d3] }
  | _ => none }
def SceneJoinsWrongFalsely : Prop := sceneJoinsRow.holds Try.pinned (OpenSpec.ofChange sceneJoinsWrong)

/-- 'homehublaw36.SceneUnites': WHATEVER THE INPUT: true; the input reads as it did. -/
def sceneUnitesSpec : ChangeSpec := { name := "sceneUnites", fn := fun _ => fun
  | [d1, d2, d3] => { results := [.lit (.bool true)], args := [d1, d2, d3] }
  | _ => none }
def sceneUnitesRow : OpenClaim := { program := "ythelcfpfbnhcjaa", sum := "40705ce95616d3761f1f7e4500af6245bb0c5cd5518200710787718ad3decf18", func := "homehub/homehublaw36.SceneUnites", spec := "sceneUnites", unfollowed := true, recurses := true, plainKeys := false, apart := false }
def SceneUnitesSaid : Prop := sceneUnitesRow.holds Try.pinned (OpenSpec.ofChange sceneUnitesSpec)

/-- ITS FALSE NEIGHBOUR: 'it returns false'. Refute it at one input. -/
def sceneUnitesWrong : ChangeSpec := { name := "sceneUnites", fn := fun _ => fun
  | [d1, d2, d3] => { results := [.lit (.bool false)], args := [d1, d2, d3] }
  | _ => none }
def SceneUnitesWrongFalsely : Prop := sceneUnitesRow.holds Try.pinned (OpenSpec.ofChange sceneUnitesWrong)

/-- 'homehublaw36.SceneRestores': WHATEVER THE INPUT: true; the input reads as it did. -/
def sceneRestoresSpec : ChangeSpec := { name := "sceneRestores", fn := fun _ => fun
  | [d1, d2, d3, d4] => { results := [.lit (.bool true)], args := [d1, d2, d3, d4] }
  | _ => none }
def sceneRestoresRow : OpenClaim := { program := "ythelcfpfbnhcjaa", sum := "40705ce95616d3761f1f7e4500af6245bb0c5cd5518200710787718ad3decf18", func := "homehub/homehublaw36.SceneRestores", spec := "sceneRestores", unfollowed := true, recurses := true, plainKeys := false, apart := false }
def SceneRestoresSaid : Prop := sceneRestoresRow.holds Try.pinned (OpenSpec.ofChange sceneRestoresSpec)

/-- ITS FALSE NEIGHBOUR: 'it returns false'. Refute it at one input. -/
def sceneRestoresWrong : ChangeSpec := { name := "sceneRestores", fn := fun _ => fun
  | [d1, d2, d3, d4] => { results := [.lit (.bool false)], args := [d1, d2, d3, d4] }
  | _ => none }
def SceneRestoresWrongFalsely : Prop := sceneRestoresRow.holds Try.pinned (OpenSpec.ofChange sceneRestoresWrong)

/- THE SECOND FORM. 'bulk': how many values and letters a reading holds, each counted each time it is reached (what is shared counts as often as it is met; a slice's spare places count too). A statement '..UptoSaid' is the law's where the arguments, and the package variables that the reading takes, are together of bulk at most 1048576: NARROWER than '..Said'. Prove '..Said' where nothing that the law and all that it calls make is longer than what came in: it says more and counts as full. Else prove '..UptoSaid'. A law counts once. -/
mutual
def uptoBulk {H : Type} : DataW H → Nat
  | .lit (.string bytes) => bytes.length + 1
  | .lit _ => 1
  | .nil => 1
  | .ptr d => uptoBulk d + 1
  | .slice elems spare => uptoBulkAll elems + uptoBulkAll spare + 1
  | .agg parts => uptoBulkAll parts + 1
  | .iface _ d => uptoBulk d + 1
  | .map entries => uptoBulkEntries entries + 1
  | .held _ => 1
def uptoBulkAll {H : Type} : List (DataW H) → Nat
  | [] => 0
  | d :: r => uptoBulk d + uptoBulkAll r
def uptoBulkEntries {H : Type} : List (Lit × DataW H) → Nat
  | [] => 0
  | x :: r => uptoBulkEntry x + uptoBulkEntries r
def uptoBulkEntry {H : Type} : Lit × DataW H → Nat
  | (.string bytes, d) => bytes.length + uptoBulk d + 1
  | (_, d) => uptoBulk d + 1
 end
def uptoSmall : (H : Type) → List (DataW H) → Bool := fun _ ds => decide (uptoBulkAll ds ≤ 1048576)
def OpenSpec.upto (s : _root_.Go.ChangeSpec) : _root_.Go.OpenSpec := { _root_.Go.OpenSpec.ofChange s with cond := some uptoSmall }

/-- 'homehublaw36.SceneChecks', WHERE WHAT IT READS IS OF BULK AT MOST 1048576: true; the input reads as it did. -/
def sceneChecksUptoRow : OpenClaim := { program := "ythelcfpfbnhcjaa", sum := "40705ce95616d3761f1f7e4500af6245bb0c5cd5518200710787718ad3decf18", func := "homehub/homehublaw36.SceneChecks", spec := "sceneChecks", unfollowed := true, recurses := true, plainKeys := false, apart := false, narrowed := true }
def SceneChecksUptoSaid : Prop := sceneChecksUptoRow.holds Try.pinned (OpenSpec.upto sceneChecksSpec)

/-- 'homehublaw36.SceneCaptures', WHERE WHAT IT READS IS OF BULK AT MOST 1048576: true; the input reads as it did. -/
def sceneCapturesUptoRow : OpenClaim := { program := "ythelcfpfbnhcjaa", sum := "40705ce95616d3761f1f7e4500af6245bb0c5cd5518200710787718ad3decf18", func := "homehub/homehublaw36.SceneCaptures", spec := "sceneCaptures", unfollowed := true, recurses := true, plainKeys := false, apart := false, narrowed := true }
def SceneCapturesUptoSaid : Prop := sceneCapturesUptoRow.holds Try.pinned (OpenSpec.upto sceneCapturesSpec)

/-- 'homehublaw36.SceneCompares', WHERE WHAT IT READS IS OF BULK AT MOST 1048576: true; the input reads as it did. -/
def sceneComparesUptoRow : OpenClaim := { program := "ythelcfpfbnhcjaa", sum := "40705ce95616d3761f1f7e4500af6245bb0c5cd5518200710787718ad3decf18", func := "homehub/homehublaw36.SceneCompares", spec := "sceneCompares", unfollowed := true, recurses := true, plainKeys := false, apart := false, narrowed := true }
def SceneComparesUptoSaid : Prop := sceneComparesUptoRow.holds Try.pinned (OpenSpec.upto sceneComparesSpec)

/-- 'homehublaw36.SceneCaught', WHERE WHAT IT READS IS OF BULK AT MOST 1048576: true; the input reads as it did. -/
def sceneCaughtUptoRow : OpenClaim := { program := "ythelcfpfbnhcjaa", sum := "40705ce95616d3761f1f7e4500af6245bb0c5cd5518200710787718ad3decf18", func := "homehub/homehublaw36.SceneCaught", spec := "sceneCaught", unfollowed := true, recurses := true, plainKeys := false, apart := false, narrowed := true }
def SceneCaughtUptoSaid : Prop := sceneCaughtUptoRow.holds Try.pinned (OpenSpec.upto sceneCaughtSpec)

/-- 'homehublaw36.SceneJoins', WHERE WHAT IT READS IS OF BULK AT MOST 1048576: true; the input reads as it did. -/
def sceneJoinsUptoRow : OpenClaim := { program := "ythelcfpfbnhcjaa", sum := "40705ce95616d3761f1f7e4500af6245bb0c5cd5518200710787718ad3decf18", func := "homehub/homehublaw36.SceneJoins", spec := "sceneJoins", unfollowed := true, recurses := true, plainKeys := false, apart := false, narrowed := true }
def SceneJoinsUptoSaid : Prop := sceneJoinsUptoRow.holds Try.pinned (OpenSpec.upto sceneJoinsSpec)

/-- 'homehublaw36.SceneUnites', WHERE WHAT IT READS IS OF BULK AT MOST 1048576: true; the input reads as it did. -/
def sceneUnitesUptoRow : OpenClaim := { program := "ythelcfpfbnhcjaa", sum := "40705ce95616d3761f1f7e4500af6245bb0c5cd5518200710787718ad3decf18", func := "homehub/homehublaw36.SceneUnites", spec := "sceneUnites", unfollowed := true, recurses := true, plainKeys := false, apart := false, narrowed := true }
def SceneUnitesUptoSaid : Prop := sceneUnitesUptoRow.holds Try.pinned (OpenSpec.upto sceneUnitesSpec)

/-- 'homehublaw36.SceneRestores', WHERE WHAT IT READS IS OF BULK AT MOST 1048576: true; the input reads as it did. -/
def sceneRestoresUptoRow : OpenClaim := { program := "ythelcfpfbnhcjaa", sum := "40705ce95616d3761f1f7e4500af6245bb0c5cd5518200710787718ad3decf18", func := "homehub/homehublaw36.SceneRestores", spec := "sceneRestores", unfollowed := true, recurses := true, plainKeys := false, apart := false, narrowed := true }
def SceneRestoresUptoSaid : Prop := sceneRestoresUptoRow.holds Try.pinned (OpenSpec.upto sceneRestoresSpec)

end Rows
end Go.Proofs.Ythelcfpfbnhcjaa
