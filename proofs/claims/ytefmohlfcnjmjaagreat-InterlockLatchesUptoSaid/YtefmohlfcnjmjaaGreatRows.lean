/-
  NARROWER THAN 'FOR EVERY INPUT', by the rows' own cells (each row's printed sentence says how): InterlockChecks: loops · InterlockAgrees: loops · InterlockHolds: loops · InterlockLatches: loops · InterlockResets: loops · InterlockRuns: loops · InterlockOrder: loops.
  DERIVED. THE GIVEN ROWS OF THIS SEAT. 8 by the template 'for every input the law returns true; each argument reads behind the call as it read before'; 0 by the template 'total and deterministic' (their statements: YtefmohlfcnjmjaaGreatTotals.lean).
  GIVEN WITH THE SEED: the statements are not yours to turn. If you find one false, say at which input.
  Laid BY PROGRAM, IN A SANDBOX (cutbox-rows.mjs): the forced cells as the released guide's own fill.sh prints them over the translation 4473e4fc4eb24a00… (all of the seat's roots in one cut). By AI agents, Wed Nov 11 2026. No macro, syntax, notation, axiom, sorry.
-/
import Derived.Test.YtefmohlfcnjmjaaGreatChecked
import GoSem.Claim
import GoSem.ClaimJoined
import GoSem.ClaimMapViews
import Derived.JoinedTies
import Derived.KernelRfl
namespace Go.Proofs.YtefmohlfcnjmjaaGreat
/- THE CELL 'sum', in the pinned program and in every row, IS THE sha256 OF THE DUMP (.gsa) THAT YtefmohlfcnjmjaaGreatProg.lean LOADS. Nothing in Lean hashes anything: it is a label: what it is worth is what the hold of that sum in a sandbox is worth. -/
noncomputable def Tryz.pinned : Pinned := { name := "ytefmohlfcnjmjaagreat", sum := "4473e4fc4eb24a00286221d2b62b74edcc8ddc490ba9837f0106f62d762795e0", checked := Tryz.checked }
namespace Rows
def none {H : Type} : Left H := { results := [], args := [] }

/-- 'homehublaw45.InterlockChecks': WHATEVER THE INPUT: true; the input reads as it did. -/
def interlockChecksSpec : ChangeSpec := { name := "interlockChecks", fn := fun _ => fun
  | [d1, d2] => { results := [.lit (.bool true)], args := [d1, d2] }
  | _ => none }
def interlockChecksRow : OpenClaim := { program := "ytefmohlfcnjmjaagreat", sum := "4473e4fc4eb24a00286221d2b62b74edcc8ddc490ba9837f0106f62d762795e0", func := "homehub/homehublaw45.InterlockChecks", spec := "interlockChecks", unfollowed := true, recurses := true, loops := true, apart := false }
def InterlockChecksSaid : Prop := interlockChecksRow.holds Tryz.pinned (OpenSpec.ofChange interlockChecksSpec)

/-- ITS FALSE NEIGHBOUR: 'it returns false'. Refute it at one input. -/
def interlockChecksWrong : ChangeSpec := { name := "interlockChecks", fn := fun _ => fun
  | [d1, d2] => { results := [.lit (.bool false)], args := [d1, d2] }
  | _ => none }
def InterlockChecksWrongFalsely : Prop := interlockChecksRow.holds Tryz.pinned (OpenSpec.ofChange interlockChecksWrong)

/-- 'homehublaw45.InterlockAgrees': WHATEVER THE INPUT: true; the input reads as it did. -/
def interlockAgreesSpec : ChangeSpec := { name := "interlockAgrees", fn := fun _ => fun
  | [d1, d2] => { results := [.lit (.bool true)], args := [d1, d2] }
  | _ => none }
def interlockAgreesRow : OpenClaim := { program := "ytefmohlfcnjmjaagreat", sum := "4473e4fc4eb24a00286221d2b62b74edcc8ddc490ba9837f0106f62d762795e0", func := "homehub/homehublaw45.InterlockAgrees", spec := "interlockAgrees", unfollowed := true, recurses := true, loops := true, apart := false }
def InterlockAgreesSaid : Prop := interlockAgreesRow.holds Tryz.pinned (OpenSpec.ofChange interlockAgreesSpec)

/-- ITS FALSE NEIGHBOUR: 'it returns false'. Refute it at one input. -/
def interlockAgreesWrong : ChangeSpec := { name := "interlockAgrees", fn := fun _ => fun
  | [d1, d2] => { results := [.lit (.bool false)], args := [d1, d2] }
  | _ => none }
def InterlockAgreesWrongFalsely : Prop := interlockAgreesRow.holds Tryz.pinned (OpenSpec.ofChange interlockAgreesWrong)

/-- 'homehublaw45.InterlockHolds': WHATEVER THE INPUT: true; the input reads as it did. -/
def interlockHoldsSpec : ChangeSpec := { name := "interlockHolds", fn := fun _ => fun
  | [d1, d2, d3] => { results := [.lit (.bool true)], args := [d1, d2, d3] }
  | _ => none }
def interlockHoldsRow : OpenClaim := { program := "ytefmohlfcnjmjaagreat", sum := "4473e4fc4eb24a00286221d2b62b74edcc8ddc490ba9837f0106f62d762795e0", func := "homehub/homehublaw45.InterlockHolds", spec := "interlockHolds", unfollowed := true, recurses := true, loops := true, apart := false }
def InterlockHoldsSaid : Prop := interlockHoldsRow.holds Tryz.pinned (OpenSpec.ofChange interlockHoldsSpec)

/-- ITS FALSE NEIGHBOUR: 'it returns false'. Refute it at one input. -/
def interlockHoldsWrong : ChangeSpec := { name := "interlockHolds", fn := fun _ => fun
  | [d1, d2, d3] => { results := [.lit (.bool false)], args := [d1, d2, d3] }
  | _ => none }
def InterlockHoldsWrongFalsely : Prop := interlockHoldsRow.holds Tryz.pinned (OpenSpec.ofChange interlockHoldsWrong)

/-- 'homehublaw45.InterlockLatches': WHATEVER THE INPUT: true; the input reads as it did. -/
def interlockLatchesSpec : ChangeSpec := { name := "interlockLatches", fn := fun _ => fun
  | [d1, d2, d3, d4] => { results := [.lit (.bool true)], args := [d1, d2, d3, d4] }
  | _ => none }
def interlockLatchesRow : OpenClaim := { program := "ytefmohlfcnjmjaagreat", sum := "4473e4fc4eb24a00286221d2b62b74edcc8ddc490ba9837f0106f62d762795e0", func := "homehub/homehublaw45.InterlockLatches", spec := "interlockLatches", unfollowed := true, recurses := true, loops := true, apart := false }
def InterlockLatchesSaid : Prop := interlockLatchesRow.holds Tryz.pinned (OpenSpec.ofChange interlockLatchesSpec)

/-- ITS FALSE NEIGHBOUR: 'it returns false'. Refute it at one input. -/
def interlockLatchesWrong : ChangeSpec := { name := "interlockLatches", fn := fun _ => fun
  | [d1, d2, d3, d4] => { results := [.lit (.bool false)], args := [d1, d2, d3, d4] }
  | _ => none }
def InterlockLatchesWrongFalsely : Prop := interlockLatchesRow.holds Tryz.pinned (OpenSpec.ofChange interlockLatchesWrong)

/-- 'homehublaw45.InterlockResets': WHATEVER THE INPUT: true; the input reads as it did. -/
def interlockResetsSpec : ChangeSpec := { name := "interlockResets", fn := fun _ => fun
  | [d1, d2, d3, d4, d5] => { results := [.lit (.bool true)], args := [d1, d2, d3, d4, d5] }
  | _ => none }
def interlockResetsRow : OpenClaim := { program := "ytefmohlfcnjmjaagreat", sum := "4473e4fc4eb24a00286221d2b62b74edcc8ddc490ba9837f0106f62d762795e0", func := "homehub/homehublaw45.InterlockResets", spec := "interlockResets", unfollowed := true, recurses := true, loops := true, apart := false }
def InterlockResetsSaid : Prop := interlockResetsRow.holds Tryz.pinned (OpenSpec.ofChange interlockResetsSpec)

/-- ITS FALSE NEIGHBOUR: 'it returns false'. Refute it at one input. -/
def interlockResetsWrong : ChangeSpec := { name := "interlockResets", fn := fun _ => fun
  | [d1, d2, d3, d4, d5] => { results := [.lit (.bool false)], args := [d1, d2, d3, d4, d5] }
  | _ => none }
def InterlockResetsWrongFalsely : Prop := interlockResetsRow.holds Tryz.pinned (OpenSpec.ofChange interlockResetsWrong)

/-- 'homehublaw45.InterlockChanges': WHATEVER THE INPUT: true; the input reads as it did. -/
def interlockChangesSpec : ChangeSpec := { name := "interlockChanges", fn := fun _ => fun
  | [d1, d2] => { results := [.lit (.bool true)], args := [d1, d2] }
  | _ => none }
def interlockChangesRow : OpenClaim := { program := "ytefmohlfcnjmjaagreat", sum := "4473e4fc4eb24a00286221d2b62b74edcc8ddc490ba9837f0106f62d762795e0", func := "homehub/homehublaw45.InterlockChanges", spec := "interlockChanges", unfollowed := true, recurses := true, apart := false }
def InterlockChangesSaid : Prop := interlockChangesRow.holds Tryz.pinned (OpenSpec.ofChange interlockChangesSpec)

/-- ITS FALSE NEIGHBOUR: 'it returns false'. Refute it at one input. -/
def interlockChangesWrong : ChangeSpec := { name := "interlockChanges", fn := fun _ => fun
  | [d1, d2] => { results := [.lit (.bool false)], args := [d1, d2] }
  | _ => none }
def InterlockChangesWrongFalsely : Prop := interlockChangesRow.holds Tryz.pinned (OpenSpec.ofChange interlockChangesWrong)

/-- 'homehublaw45.InterlockRuns': WHATEVER THE INPUT: true; the input reads as it did. -/
def interlockRunsSpec : ChangeSpec := { name := "interlockRuns", fn := fun _ => fun
  | [d1, d2, d3] => { results := [.lit (.bool true)], args := [d1, d2, d3] }
  | _ => none }
def interlockRunsRow : OpenClaim := { program := "ytefmohlfcnjmjaagreat", sum := "4473e4fc4eb24a00286221d2b62b74edcc8ddc490ba9837f0106f62d762795e0", func := "homehub/homehublaw45.InterlockRuns", spec := "interlockRuns", unfollowed := true, recurses := true, loops := true, apart := false }
def InterlockRunsSaid : Prop := interlockRunsRow.holds Tryz.pinned (OpenSpec.ofChange interlockRunsSpec)

/-- ITS FALSE NEIGHBOUR: 'it returns false'. Refute it at one input. -/
def interlockRunsWrong : ChangeSpec := { name := "interlockRuns", fn := fun _ => fun
  | [d1, d2, d3] => { results := [.lit (.bool false)], args := [d1, d2, d3] }
  | _ => none }
def InterlockRunsWrongFalsely : Prop := interlockRunsRow.holds Tryz.pinned (OpenSpec.ofChange interlockRunsWrong)

/-- 'homehublaw45.InterlockOrder': WHATEVER THE INPUT: true; the input reads as it did. -/
def interlockOrderSpec : ChangeSpec := { name := "interlockOrder", fn := fun _ => fun
  | [d1, d2, d3] => { results := [.lit (.bool true)], args := [d1, d2, d3] }
  | _ => none }
def interlockOrderRow : OpenClaim := { program := "ytefmohlfcnjmjaagreat", sum := "4473e4fc4eb24a00286221d2b62b74edcc8ddc490ba9837f0106f62d762795e0", func := "homehub/homehublaw45.InterlockOrder", spec := "interlockOrder", unfollowed := true, recurses := true, loops := true, apart := false }
def InterlockOrderSaid : Prop := interlockOrderRow.holds Tryz.pinned (OpenSpec.ofChange interlockOrderSpec)

/-- ITS FALSE NEIGHBOUR: 'it returns false'. Refute it at one input. -/
def interlockOrderWrong : ChangeSpec := { name := "interlockOrder", fn := fun _ => fun
  | [d1, d2, d3] => { results := [.lit (.bool false)], args := [d1, d2, d3] }
  | _ => none }
def InterlockOrderWrongFalsely : Prop := interlockOrderRow.holds Tryz.pinned (OpenSpec.ofChange interlockOrderWrong)

/- THE SECOND FORM. 'bulk': how many values and letters a reading holds, each counted each time it is reached (what is shared counts as often as it is met; a slice's spare places count too). A statement '..UptoSaid' is the law's where the arguments, and the package variables that the reading takes, are together of bulk at most 1048576: NARROWER than '..Said'. Prove '..Said' where nothing that the law and all that it calls make is longer than what came in: it says more and counts as full. Else prove '..UptoSaid'. A law counts once. -/
mutual
def uptoBulk {H : Type} : DataW H → Nat
  | .lit (.string bytes) => bytes.length + 1
  | .lit _ => 1
  | .nil => 1
  | .ptr d => uptoBulk d + 1
  | .slice elems spare => uptoBulkAll elems + uptoBulkAll spare + 1
  | .agg parts => uptoBulkAll parts + 1
  | .iface _ d => uptoBulk d + 1
  | .map entries => uptoBulkEntries entries + 1
  | .held _ => 1
def uptoBulkAll {H : Type} : List (DataW H) → Nat
  | [] => 0
  | d :: r => uptoBulk d + uptoBulkAll r
def uptoBulkEntries {H : Type} : List (Lit × DataW H) → Nat
  | [] => 0
  | x :: r => uptoBulkEntry x + uptoBulkEntries r
def uptoBulkEntry {H : Type} : Lit × DataW H → Nat
  | (.string bytes, d) => bytes.length + uptoBulk d + 1
  | (_, d) => uptoBulk d + 1
 end
def uptoSmall : (H : Type) → List (DataW H) → Bool := fun _ ds => decide (uptoBulkAll ds ≤ 1048576)
def OpenSpec.upto (s : _root_.Go.ChangeSpec) : _root_.Go.OpenSpec := { _root_.Go.OpenSpec.ofChange s with cond := some uptoSmall }

/-- 'homehublaw45.InterlockChecks', WHERE WHAT IT READS IS OF BULK AT MOST 1048576: true; the input reads as it did. -/
def interlockChecksUptoRow : OpenClaim := { program := "ytefmohlfcnjmjaagreat", sum := "4473e4fc4eb24a00286221d2b62b74edcc8ddc490ba9837f0106f62d762795e0", func := "homehub/homehublaw45.InterlockChecks", spec := "interlockChecks", unfollowed := true, recurses := true, loops := true, apart := false, narrowed := true }
def InterlockChecksUptoSaid : Prop := interlockChecksUptoRow.holds Tryz.pinned (OpenSpec.upto interlockChecksSpec)

/-- 'homehublaw45.InterlockAgrees', WHERE WHAT IT READS IS OF BULK AT MOST 1048576: true; the input reads as it did. -/
def interlockAgreesUptoRow : OpenClaim := { program := "ytefmohlfcnjmjaagreat", sum := "4473e4fc4eb24a00286221d2b62b74edcc8ddc490ba9837f0106f62d762795e0", func := "homehub/homehublaw45.InterlockAgrees", spec := "interlockAgrees", unfollowed := true, recurses := true, loops := true, apart := false, narrowed := true }
def InterlockAgreesUptoSaid : Prop := interlockAgreesUptoRow.holds Tryz.pinned (OpenSpec.upto interlockAgreesSpec)

/-- 'homehublaw45.InterlockHolds', WHERE WHAT IT READS IS OF BULK AT MOST 1048576: true; the input reads as it did. -/
def interlockHoldsUptoRow : OpenClaim := { program := "ytefmohlfcnjmjaagreat", sum := "4473e4fc4eb24a00286221d2b62b74edcc8ddc490ba9837f0106f62d762795e0", func := "homehub/homehublaw45.InterlockHolds", spec := "interlockHolds", unfollowed := true, recurses := true, loops := true, apart := false, narrowed := true }
def InterlockHoldsUptoSaid : Prop := interlockHoldsUptoRow.holds Tryz.pinned (OpenSpec.upto interlockHoldsSpec)

/-- 'homehublaw45.InterlockLatches', WHERE WHAT IT READS IS OF BULK AT MOST 1048576: true; the input reads as it did. -/
def interlockLatchesUptoRow : OpenClaim := { program := "ytefmohlfcnjmjaagreat", sum := "4473e4fc4eb24a00286221d2b62b74edcc8ddc490ba9837f0106f62d762795e0", func := "homehub/homehublaw45.InterlockLatches", spec := "interlockLatches", unfollowed := true, recurses := true, loops := true, apart := false, narrowed := true }
def InterlockLatchesUptoSaid : Prop := interlockLatchesUptoRow.holds Tryz.pinned (OpenSpec.upto interlockLatchesSpec)

/-- 'homehublaw45.InterlockResets', WHERE WHAT IT READS IS OF BULK AT MOST 1048576: true; the input reads as it did. -/
def interlockResetsUptoRow : OpenClaim := { program := "ytefmohlfcnjmjaagreat", sum := "4473e4fc4eb24a00286221d2b62b74edcc8ddc490ba9837f0106f62d762795e0", func := "homehub/homehublaw45.InterlockResets", spec := "interlockResets", unfollowed := true, recurses := true, loops := true, apart := false, narrowed := true }
def InterlockResetsUptoSaid : Prop := interlockResetsUptoRow.holds Tryz.pinned (OpenSpec.upto interlockResetsSpec)

/-- 'homehublaw45.InterlockChanges', WHERE WHAT IT READS IS OF BULK AT MOST 1048576: true; the input reads as it did. -/
def interlockChangesUptoRow : OpenClaim := { program := "ytefmohlfcnjmjaagreat", sum := "4473e4fc4eb24a00286221d2b62b74edcc8ddc490ba9837f0106f62d762795e0", func := "homehub/homehublaw45.InterlockChanges", spec := "interlockChanges", unfollowed := true, recurses := true, apart := false, narrowed := true }
def InterlockChangesUptoSaid : Prop := interlockChangesUptoRow.holds Tryz.pinned (OpenSpec.upto interlockChangesSpec)

/-- 'homehublaw45.InterlockRuns', WHERE WHAT IT READS IS OF BULK AT MOST 1048576: true; the input reads as it did. -/
def interlockRunsUptoRow : OpenClaim := { program := "ytefmohlfcnjmjaagreat", sum := "4473e4fc4eb24a00286221d2b62b74edcc8ddc490ba9837f0106f62d762795e0", func := "homehub/homehublaw45.InterlockRuns", spec := "interlockRuns", unfollowed := true, recurses := true, loops := true, apart := false, narrowed := true }
def InterlockRunsUptoSaid : Prop := interlockRunsUptoRow.holds Tryz.pinned (OpenSpec.upto interlockRunsSpec)

/-- 'homehublaw45.InterlockOrder', WHERE WHAT IT READS IS OF BULK AT MOST 1048576: true; the input reads as it did. -/
def interlockOrderUptoRow : OpenClaim := { program := "ytefmohlfcnjmjaagreat", sum := "4473e4fc4eb24a00286221d2b62b74edcc8ddc490ba9837f0106f62d762795e0", func := "homehub/homehublaw45.InterlockOrder", spec := "interlockOrder", unfollowed := true, recurses := true, loops := true, apart := false, narrowed := true }
def InterlockOrderUptoSaid : Prop := interlockOrderUptoRow.holds Tryz.pinned (OpenSpec.upto interlockOrderSpec)

end Rows
end Go.Proofs.YtefmohlfcnjmjaaGreat
