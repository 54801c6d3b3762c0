/-
  No cell of these rows narrows 'for every input' (looked for: loops, veiled, ifaces, maps, wideKeys, modest, calm, conditions, laid).
  DERIVED. THE GIVEN ROWS OF THIS SEAT. 7 by the template 'for every input the law returns true; each argument reads behind the call as it read before'; 0 by the template 'total and deterministic' (their statements: YtgbhffppbdppaaaGreatTotals.lean).
  GIVEN WITH THE SEED: the statements are not yours to turn. If you find one false, say at which input.
  Laid BY PROGRAM, IN A SANDBOX (cutbox-rows.mjs): the forced cells as the released guide's own fill.sh prints them over the translation c5a70fa68cb26895… (all of the seat's roots in one cut). By AI agents, Wed Nov 11 2026. No macro, syntax, notation, axiom, sorry.
-/
import Derived.Test.YtgbhffppbdppaaaGreatChecked
import GoSem.Claim
import GoSem.ClaimJoined
import GoSem.ClaimMapViews
import Derived.JoinedTies
import Derived.KernelRfl
namespace Go.Proofs.YtgbhffppbdppaaaGreat
/- THE CELL 'sum', in the pinned program and in every row, IS THE sha256 OF THE DUMP (.gsa) THAT YtgbhffppbdppaaaGreatProg.lean LOADS. Nothing in Lean hashes anything: it is a label: what it is worth is what the hold of that sum in a sandbox is worth. -/
noncomputable def Tryz.pinned : Pinned := { name := "ytgbhffppbdppaaagreat", sum := "c5a70fa68cb26895dbc19abd69311546f85ab1b7dc07c6636fa93e59b2560681", checked := Tryz.checked }
namespace Rows
def none {H : Type} : Left H := { results := [], args := [] }

/-- 'homehublaw47.MemberChecks': WHATEVER THE INPUT: true; the input reads as it did. -/
def memberChecksSpec : ChangeSpec := { name := "memberChecks", fn := fun _ => fun
  | [d1, d2] => { results := [.lit (.bool true)], args := [d1, d2] }
  | _ => none }
def memberChecksRow : OpenClaim := { program := "ytgbhffppbdppaaagreat", sum := "c5a70fa68cb26895dbc19abd69311546f85ab1b7dc07c6636fa93e59b2560681", func := "homehub/homehublaw47.MemberChecks", spec := "memberChecks", unfollowed := true, recurses := true, apart := false }
def MemberChecksSaid : Prop := memberChecksRow.holds Tryz.pinned (OpenSpec.ofChange memberChecksSpec)

/-- ITS FALSE NEIGHBOUR: 'it returns false'. Refute it at one input. -/
def memberChecksWrong : ChangeSpec := { name := "memberChecks", fn := fun _ => fun
  | [d1, d2] => { results := [.lit (.bool false)], args := [d1, d2] }
  | _ => none }
def MemberChecksWrongFalsely : Prop := memberChecksRow.holds Tryz.pinned (OpenSpec.ofChange memberChecksWrong)

/-- 'homehublaw47.MemberCans': WHATEVER THE INPUT: true; the input reads as it did. -/
def memberCansSpec : ChangeSpec := { name := "memberCans", fn := fun _ => fun
  | [d1, d2, d3] => { results := [.lit (.bool true)], args := [d1, d2, d3] }
  | _ => none }
def memberCansRow : OpenClaim := { program := "ytgbhffppbdppaaagreat", sum := "c5a70fa68cb26895dbc19abd69311546f85ab1b7dc07c6636fa93e59b2560681", func := "homehub/homehublaw47.MemberCans", spec := "memberCans", unfollowed := true, recurses := true, apart := false }
def MemberCansSaid : Prop := memberCansRow.holds Tryz.pinned (OpenSpec.ofChange memberCansSpec)

/-- ITS FALSE NEIGHBOUR: 'it returns false'. Refute it at one input. -/
def memberCansWrong : ChangeSpec := { name := "memberCans", fn := fun _ => fun
  | [d1, d2, d3] => { results := [.lit (.bool false)], args := [d1, d2, d3] }
  | _ => none }
def MemberCansWrongFalsely : Prop := memberCansRow.holds Tryz.pinned (OpenSpec.ofChange memberCansWrong)

/-- 'homehublaw47.MemberRights': WHATEVER THE INPUT: true; the input reads as it did. -/
def memberRightsSpec : ChangeSpec := { name := "memberRights", fn := fun _ => fun
  | [d1, d2, d3] => { results := [.lit (.bool true)], args := [d1, d2, d3] }
  | _ => none }
def memberRightsRow : OpenClaim := { program := "ytgbhffppbdppaaagreat", sum := "c5a70fa68cb26895dbc19abd69311546f85ab1b7dc07c6636fa93e59b2560681", func := "homehub/homehublaw47.MemberRights", spec := "memberRights", unfollowed := true, recurses := true, apart := false }
def MemberRightsSaid : Prop := memberRightsRow.holds Tryz.pinned (OpenSpec.ofChange memberRightsSpec)

/-- ITS FALSE NEIGHBOUR: 'it returns false'. Refute it at one input. -/
def memberRightsWrong : ChangeSpec := { name := "memberRights", fn := fun _ => fun
  | [d1, d2, d3] => { results := [.lit (.bool false)], args := [d1, d2, d3] }
  | _ => none }
def MemberRightsWrongFalsely : Prop := memberRightsRow.holds Tryz.pinned (OpenSpec.ofChange memberRightsWrong)

/-- 'homehublaw47.MemberRoles': WHATEVER THE INPUT: true; the input reads as it did. -/
def memberRolesSpec : ChangeSpec := { name := "memberRoles", fn := fun _ => fun
  | [d1, d2, d3] => { results := [.lit (.bool true)], args := [d1, d2, d3] }
  | _ => none }
def memberRolesRow : OpenClaim := { program := "ytgbhffppbdppaaagreat", sum := "c5a70fa68cb26895dbc19abd69311546f85ab1b7dc07c6636fa93e59b2560681", func := "homehub/homehublaw47.MemberRoles", spec := "memberRoles", unfollowed := true, recurses := true, apart := false }
def MemberRolesSaid : Prop := memberRolesRow.holds Tryz.pinned (OpenSpec.ofChange memberRolesSpec)

/-- ITS FALSE NEIGHBOUR: 'it returns false'. Refute it at one input. -/
def memberRolesWrong : ChangeSpec := { name := "memberRoles", fn := fun _ => fun
  | [d1, d2, d3] => { results := [.lit (.bool false)], args := [d1, d2, d3] }
  | _ => none }
def MemberRolesWrongFalsely : Prop := memberRolesRow.holds Tryz.pinned (OpenSpec.ofChange memberRolesWrong)

/-- 'homehublaw47.MemberRooms': WHATEVER THE INPUT: true; the input reads as it did. -/
def memberRoomsSpec : ChangeSpec := { name := "memberRooms", fn := fun _ => fun
  | [d1, d2, d3] => { results := [.lit (.bool true)], args := [d1, d2, d3] }
  | _ => none }
def memberRoomsRow : OpenClaim := { program := "ytgbhffppbdppaaagreat", sum := "c5a70fa68cb26895dbc19abd69311546f85ab1b7dc07c6636fa93e59b2560681", func := "homehub/homehublaw47.MemberRooms", spec := "memberRooms", unfollowed := true, recurses := true, apart := false }
def MemberRoomsSaid : Prop := memberRoomsRow.holds Tryz.pinned (OpenSpec.ofChange memberRoomsSpec)

/-- ITS FALSE NEIGHBOUR: 'it returns false'. Refute it at one input. -/
def memberRoomsWrong : ChangeSpec := { name := "memberRooms", fn := fun _ => fun
  | [d1, d2, d3] => { results := [.lit (.bool false)], args := [d1, d2, d3] }
  | _ => none }
def MemberRoomsWrongFalsely : Prop := memberRoomsRow.holds Tryz.pinned (OpenSpec.ofChange memberRoomsWrong)

/-- 'homehublaw47.MemberFinds': WHATEVER THE INPUT: true; the input reads as it did. -/
def memberFindsSpec : ChangeSpec := { name := "memberFinds", fn := fun _ => fun
  | [d1, d2, d3] => { results := [.lit (.bool true)], args := [d1, d2, d3] }
  | _ => none }
def memberFindsRow : OpenClaim := { program := "ytgbhffppbdppaaagreat", sum := "c5a70fa68cb26895dbc19abd69311546f85ab1b7dc07c6636fa93e59b2560681", func := "homehub/homehublaw47.MemberFinds", spec := "memberFinds", unfollowed := true, recurses := true, apart := false }
def MemberFindsSaid : Prop := memberFindsRow.holds Tryz.pinned (OpenSpec.ofChange memberFindsSpec)

/-- ITS FALSE NEIGHBOUR: 'it returns false'. Refute it at one input. -/
def memberFindsWrong : ChangeSpec := { name := "memberFinds", fn := fun _ => fun
  | [d1, d2, d3] => { results := [.lit (.bool false)], args := [d1, d2, d3] }
  | _ => none }
def MemberFindsWrongFalsely : Prop := memberFindsRow.holds Tryz.pinned (OpenSpec.ofChange memberFindsWrong)

/-- 'homehublaw47.MemberArrives': WHATEVER THE INPUT: true; the input reads as it did. -/
def memberArrivesSpec : ChangeSpec := { name := "memberArrives", fn := fun _ => fun
  | [d1, d2, d3] => { results := [.lit (.bool true)], args := [d1, d2, d3] }
  | _ => none }
def memberArrivesRow : OpenClaim := { program := "ytgbhffppbdppaaagreat", sum := "c5a70fa68cb26895dbc19abd69311546f85ab1b7dc07c6636fa93e59b2560681", func := "homehub/homehublaw47.MemberArrives", spec := "memberArrives", unfollowed := true, recurses := true, apart := false }
def MemberArrivesSaid : Prop := memberArrivesRow.holds Tryz.pinned (OpenSpec.ofChange memberArrivesSpec)

/-- ITS FALSE NEIGHBOUR: 'it returns false'. Refute it at one input. -/
def memberArrivesWrong : ChangeSpec := { name := "memberArrives", fn := fun _ => fun
  | [d1, d2, d3] => { results := [.lit (.bool false)], args := [d1, d2, d3] }
  | _ => none }
def MemberArrivesWrongFalsely : Prop := memberArrivesRow.holds Tryz.pinned (OpenSpec.ofChange memberArrivesWrong)

/- THE SECOND FORM. 'bulk': how many values and letters a reading holds, each counted each time it is reached (what is shared counts as often as it is met; a slice's spare places count too). A statement '..UptoSaid' is the law's where the arguments, and the package variables that the reading takes, are together of bulk at most 1048576: NARROWER than '..Said'. Prove '..Said' where nothing that the law and all that it calls make is longer than what came in: it says more and counts as full. Else prove '..UptoSaid'. A law counts once. -/
mutual
def uptoBulk {H : Type} : DataW H → Nat
  | .lit (.string bytes) => bytes.length + 1
  | .lit _ => 1
  | .nil => 1
  | .ptr d => uptoBulk d + 1
  | .slice elems spare => uptoBulkAll elems + uptoBulkAll spare + 1
  | .agg parts => uptoBulkAll parts + 1
  | .iface _ d => uptoBulk d + 1
  | .map entries => uptoBulkEntries entries + 1
  | .held _ => 1
def uptoBulkAll {H : Type} : List (DataW H) → Nat
  | [] => 0
  | d :: r => uptoBulk d + uptoBulkAll r
def uptoBulkEntries {H : Type} : List (Lit × DataW H) → Nat
  | [] => 0
  | x :: r => uptoBulkEntry x + uptoBulkEntries r
def uptoBulkEntry {H : Type} : Lit × DataW H → Nat
  | (.string bytes, d) => bytes.length + uptoBulk d + 1
  | (_, d) => uptoBulk d + 1
 end
def uptoSmall : (H : Type) → List (DataW H) → Bool := fun _ ds => decide (uptoBulkAll ds ≤ 1048576)
def OpenSpec.upto (s : _root_.Go.ChangeSpec) : _root_.Go.OpenSpec := { _root_.Go.OpenSpec.ofChange s with cond := some uptoSmall }

/-- 'homehublaw47.MemberChecks', WHERE WHAT IT READS IS OF BULK AT MOST 1048576: true; the input reads as it did. -/
def memberChecksUptoRow : OpenClaim := { program := "ytgbhffppbdppaaagreat", sum := "c5a70fa68cb26895dbc19abd69311546f85ab1b7dc07c6636fa93e59b2560681", func := "homehub/homehublaw47.MemberChecks", spec := "memberChecks", unfollowed := true, recurses := true, apart := false, narrowed := true }
def MemberChecksUptoSaid : Prop := memberChecksUptoRow.holds Tryz.pinned (OpenSpec.upto memberChecksSpec)

/-- 'homehublaw47.MemberCans', WHERE WHAT IT READS IS OF BULK AT MOST 1048576: true; the input reads as it did. -/
def memberCansUptoRow : OpenClaim := { program := "ytgbhffppbdppaaagreat", sum := "c5a70fa68cb26895dbc19abd69311546f85ab1b7dc07c6636fa93e59b2560681", func := "homehub/homehublaw47.MemberCans", spec := "memberCans", unfollowed := true, recurses := true, apart := false, narrowed := true }
def MemberCansUptoSaid : Prop := memberCansUptoRow.holds Tryz.pinned (OpenSpec.upto memberCansSpec)

/-- 'homehublaw47.MemberRights', WHERE WHAT IT READS IS OF BULK AT MOST 1048576: true; the input reads as it did. -/
def memberRightsUptoRow : OpenClaim := { program := "ytgbhffppbdppaaagreat", sum := "c5a70fa68cb26895dbc19abd69311546f85ab1b7dc07c6636fa93e59b2560681", func := "homehub/homehublaw47.MemberRights", spec := "memberRights", unfollowed := true, recurses := true, apart := false, narrowed := true }
def MemberRightsUptoSaid : Prop := memberRightsUptoRow.holds Tryz.pinned (OpenSpec.upto memberRightsSpec)

/-- 'homehublaw47.MemberRoles', WHERE WHAT IT READS IS OF BULK AT MOST 1048576: true; the input reads as it did. -/
def memberRolesUptoRow : OpenClaim := { program := "ytgbhffppbdppaaagreat", sum := "c5a70fa68cb26895dbc19abd69311546f85ab1b7dc07c6636fa93e59b2560681", func := "homehub/homehublaw47.MemberRoles", spec := "memberRoles", unfollowed := true, recurses := true, apart := false, narrowed := true }
def MemberRolesUptoSaid : Prop := memberRolesUptoRow.holds Tryz.pinned (OpenSpec.upto memberRolesSpec)

/-- 'homehublaw47.MemberRooms', WHERE WHAT IT READS IS OF BULK AT MOST 1048576: true; the input reads as it did. -/
def memberRoomsUptoRow : OpenClaim := { program := "ytgbhffppbdppaaagreat", sum := "c5a70fa68cb26895dbc19abd69311546f85ab1b7dc07c6636fa93e59b2560681", func := "homehub/homehublaw47.MemberRooms", spec := "memberRooms", unfollowed := true, recurses := true, apart := false, narrowed := true }
def MemberRoomsUptoSaid : Prop := memberRoomsUptoRow.holds Tryz.pinned (OpenSpec.upto memberRoomsSpec)

/-- 'homehublaw47.MemberFinds', WHERE WHAT IT READS IS OF BULK AT MOST 1048576: true; the input reads as it did. -/
def memberFindsUptoRow : OpenClaim := { program := "ytgbhffppbdppaaagreat", sum := "c5a70fa68cb26895dbc19abd69311546f85ab1b7dc07c6636fa93e59b2560681", func := "homehub/homehublaw47.MemberFinds", spec := "memberFinds", unfollowed := true, recurses := true, apart := false, narrowed := true }
def MemberFindsUptoSaid : Prop := memberFindsUptoRow.holds Tryz.pinned (OpenSpec.upto memberFindsSpec)

/-- 'homehublaw47.MemberArrives', WHERE WHAT IT READS IS OF BULK AT MOST 1048576: true; the input reads as it did. -/
def memberArrivesUptoRow : OpenClaim := { program := "ytgbhffppbdppaaagreat", sum := "c5a70fa68cb26895dbc19abd69311546f85ab1b7dc07c6636fa93e59b2560681", func := "homehub/homehublaw47.MemberArrives", spec := "memberArrives", unfollowed := true, recurses := true, apart := false, narrowed := true }
def MemberArrivesUptoSaid : Prop := memberArrivesUptoRow.holds Tryz.pinned (OpenSpec.upto memberArrivesSpec)

end Rows
end Go.Proofs.YtgbhffppbdppaaaGreat
