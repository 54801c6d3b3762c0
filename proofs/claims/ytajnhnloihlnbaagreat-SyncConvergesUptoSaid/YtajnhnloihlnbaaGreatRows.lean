/-
  No cell of these rows narrows 'for every input' (looked for: loops, veiled, ifaces, maps, wideKeys, modest, calm, conditions, laid).
  DERIVED. THE GIVEN ROWS OF THIS SEAT. 7 by the template 'for every input the law returns true; each argument reads behind the call as it read before'; 0 by the template 'total and deterministic' (their statements: YtajnhnloihlnbaaGreatTotals.lean).
  GIVEN WITH THE SEED: the statements are not yours to turn. If you find one false, say at which input.
  Laid BY PROGRAM, IN A SANDBOX (cutbox-rows.mjs): the forced cells as the released guide's own fill.sh prints them over the translation 89f2bdfaf3b1f5c8… (all of the seat's roots in one cut). By AI agents, Wed Nov 11 2026. No macro, syntax, notation, axiom, sorry.
-/
import Derived.Test.YtajnhnloihlnbaaGreatChecked
import GoSem.Claim
import GoSem.ClaimJoined
import GoSem.ClaimMapViews
import Derived.JoinedTies
import Derived.KernelRfl
namespace Go.Proofs.YtajnhnloihlnbaaGreat
/- THE CELL 'sum', in the pinned program and in every row, IS THE sha256 OF THE DUMP (.gsa) THAT YtajnhnloihlnbaaGreatProg.lean LOADS. Nothing in Lean hashes anything: it is a label: what it is worth is what the hold of that sum in a sandbox is worth. -/
noncomputable def Tryz.pinned : Pinned := { name := "ytajnhnloihlnbaagreat", sum := "89f2bdfaf3b1f5c8c6654ca8e0a796e3066402ce3567791601d08bf80ae99b0c", checked := Tryz.checked }
namespace Rows
def none {H : Type} : Left H := { results := [], args := [] }

/-- 'homehublaw26.SyncTakes': WHATEVER THE INPUT: true; the input reads as it did. -/
def syncTakesSpec : ChangeSpec := { name := "syncTakes", fn := fun _ => fun
  | [d] => { results := [.lit (.bool true)], args := [d] }
  | _ => none }
def syncTakesRow : OpenClaim := { program := "ytajnhnloihlnbaagreat", sum := "89f2bdfaf3b1f5c8c6654ca8e0a796e3066402ce3567791601d08bf80ae99b0c", func := "homehub/homehublaw26.SyncTakes", spec := "syncTakes", unfollowed := true, recurses := true, plainKeys := false, apart := false }
def SyncTakesSaid : Prop := syncTakesRow.holds Tryz.pinned (OpenSpec.ofChange syncTakesSpec)

/-- ITS FALSE NEIGHBOUR: 'it returns false'. Refute it at one input. -/
def syncTakesWrong : ChangeSpec := { name := "syncTakes", fn := fun _ => fun
  | [d] => { results := [.lit (.bool false)], args := [d] }
  | _ => none }
def SyncTakesWrongFalsely : Prop := syncTakesRow.holds Tryz.pinned (OpenSpec.ofChange syncTakesWrong)

/-- 'homehublaw26.SyncTwice': WHATEVER THE INPUT: true; the input reads as it did. -/
def syncTwiceSpec : ChangeSpec := { name := "syncTwice", fn := fun _ => fun
  | [d] => { results := [.lit (.bool true)], args := [d] }
  | _ => none }
def syncTwiceRow : OpenClaim := { program := "ytajnhnloihlnbaagreat", sum := "89f2bdfaf3b1f5c8c6654ca8e0a796e3066402ce3567791601d08bf80ae99b0c", func := "homehub/homehublaw26.SyncTwice", spec := "syncTwice", unfollowed := true, recurses := true, plainKeys := false, apart := false }
def SyncTwiceSaid : Prop := syncTwiceRow.holds Tryz.pinned (OpenSpec.ofChange syncTwiceSpec)

/-- ITS FALSE NEIGHBOUR: 'it returns false'. Refute it at one input. -/
def syncTwiceWrong : ChangeSpec := { name := "syncTwice", fn := fun _ => fun
  | [d] => { results := [.lit (.bool false)], args := [d] }
  | _ => none }
def SyncTwiceWrongFalsely : Prop := syncTwiceRow.holds Tryz.pinned (OpenSpec.ofChange syncTwiceWrong)

/-- 'homehublaw26.SyncGrows': WHATEVER THE INPUT: true; the input reads as it did. -/
def syncGrowsSpec : ChangeSpec := { name := "syncGrows", fn := fun _ => fun
  | [d] => { results := [.lit (.bool true)], args := [d] }
  | _ => none }
def syncGrowsRow : OpenClaim := { program := "ytajnhnloihlnbaagreat", sum := "89f2bdfaf3b1f5c8c6654ca8e0a796e3066402ce3567791601d08bf80ae99b0c", func := "homehub/homehublaw26.SyncGrows", spec := "syncGrows", unfollowed := true, recurses := true, plainKeys := false, apart := false }
def SyncGrowsSaid : Prop := syncGrowsRow.holds Tryz.pinned (OpenSpec.ofChange syncGrowsSpec)

/-- ITS FALSE NEIGHBOUR: 'it returns false'. Refute it at one input. -/
def syncGrowsWrong : ChangeSpec := { name := "syncGrows", fn := fun _ => fun
  | [d] => { results := [.lit (.bool false)], args := [d] }
  | _ => none }
def SyncGrowsWrongFalsely : Prop := syncGrowsRow.holds Tryz.pinned (OpenSpec.ofChange syncGrowsWrong)

/-- 'homehublaw26.SyncHubs': WHATEVER THE INPUT: true; the input reads as it did. -/
def syncHubsSpec : ChangeSpec := { name := "syncHubs", fn := fun _ => fun
  | [d] => { results := [.lit (.bool true)], args := [d] }
  | _ => none }
def syncHubsRow : OpenClaim := { program := "ytajnhnloihlnbaagreat", sum := "89f2bdfaf3b1f5c8c6654ca8e0a796e3066402ce3567791601d08bf80ae99b0c", func := "homehub/homehublaw26.SyncHubs", spec := "syncHubs", unfollowed := true, recurses := true, plainKeys := false, apart := false }
def SyncHubsSaid : Prop := syncHubsRow.holds Tryz.pinned (OpenSpec.ofChange syncHubsSpec)

/-- ITS FALSE NEIGHBOUR: 'it returns false'. Refute it at one input. -/
def syncHubsWrong : ChangeSpec := { name := "syncHubs", fn := fun _ => fun
  | [d] => { results := [.lit (.bool false)], args := [d] }
  | _ => none }
def SyncHubsWrongFalsely : Prop := syncHubsRow.holds Tryz.pinned (OpenSpec.ofChange syncHubsWrong)

/-- 'homehublaw26.SyncBatches': WHATEVER THE INPUT: true; the input reads as it did. -/
def syncBatchesSpec : ChangeSpec := { name := "syncBatches", fn := fun _ => fun
  | [d] => { results := [.lit (.bool true)], args := [d] }
  | _ => none }
def syncBatchesRow : OpenClaim := { program := "ytajnhnloihlnbaagreat", sum := "89f2bdfaf3b1f5c8c6654ca8e0a796e3066402ce3567791601d08bf80ae99b0c", func := "homehub/homehublaw26.SyncBatches", spec := "syncBatches", unfollowed := true, recurses := true, plainKeys := false, apart := false }
def SyncBatchesSaid : Prop := syncBatchesRow.holds Tryz.pinned (OpenSpec.ofChange syncBatchesSpec)

/-- ITS FALSE NEIGHBOUR: 'it returns false'. Refute it at one input. -/
def syncBatchesWrong : ChangeSpec := { name := "syncBatches", fn := fun _ => fun
  | [d] => { results := [.lit (.bool false)], args := [d] }
  | _ => none }
def SyncBatchesWrongFalsely : Prop := syncBatchesRow.holds Tryz.pinned (OpenSpec.ofChange syncBatchesWrong)

/-- 'homehublaw26.SyncDevices': WHATEVER THE INPUT: true; the input reads as it did. -/
def syncDevicesSpec : ChangeSpec := { name := "syncDevices", fn := fun _ => fun
  | [d] => { results := [.lit (.bool true)], args := [d] }
  | _ => none }
def syncDevicesRow : OpenClaim := { program := "ytajnhnloihlnbaagreat", sum := "89f2bdfaf3b1f5c8c6654ca8e0a796e3066402ce3567791601d08bf80ae99b0c", func := "homehub/homehublaw26.SyncDevices", spec := "syncDevices", unfollowed := true, recurses := true, plainKeys := false, apart := false }
def SyncDevicesSaid : Prop := syncDevicesRow.holds Tryz.pinned (OpenSpec.ofChange syncDevicesSpec)

/-- ITS FALSE NEIGHBOUR: 'it returns false'. Refute it at one input. -/
def syncDevicesWrong : ChangeSpec := { name := "syncDevices", fn := fun _ => fun
  | [d] => { results := [.lit (.bool false)], args := [d] }
  | _ => none }
def SyncDevicesWrongFalsely : Prop := syncDevicesRow.holds Tryz.pinned (OpenSpec.ofChange syncDevicesWrong)

/-- 'homehublaw26.SyncConverges': WHATEVER THE INPUT: true; the input reads as it did. -/
def syncConvergesSpec : ChangeSpec := { name := "syncConverges", fn := fun _ => fun
  | [d1, d2, d3] => { results := [.lit (.bool true)], args := [d1, d2, d3] }
  | _ => none }
def syncConvergesRow : OpenClaim := { program := "ytajnhnloihlnbaagreat", sum := "89f2bdfaf3b1f5c8c6654ca8e0a796e3066402ce3567791601d08bf80ae99b0c", func := "homehub/homehublaw26.SyncConverges", spec := "syncConverges", inPlace := ["slices.overlaps[homehub/api.Item]"], unfollowed := true, recurses := true, plainKeys := false, apart := false }
def SyncConvergesSaid : Prop := syncConvergesRow.holds Tryz.pinned (OpenSpec.ofChange syncConvergesSpec)

/-- ITS FALSE NEIGHBOUR: 'it returns false'. Refute it at one input. -/
def syncConvergesWrong : ChangeSpec := { name := "syncConverges", fn := fun _ => fun
  | [d1, d2, d3] => { results := [.lit (.bool false)], args := [d1, d2, d3] }
  | _ => none }
def SyncConvergesWrongFalsely : Prop := syncConvergesRow.holds Tryz.pinned (OpenSpec.ofChange syncConvergesWrong)

/- THE SECOND FORM. 'bulk': how many values and letters a reading holds, each counted each time it is reached (what is shared counts as often as it is met; a slice's spare places count too). A statement '..UptoSaid' is the law's where the arguments, and the package variables that the reading takes, are together of bulk at most 1048576: NARROWER than '..Said'. Prove '..Said' where nothing that the law and all that it calls make is longer than what came in: it says more and counts as full. Else prove '..UptoSaid'. A law counts once. -/
mutual
def uptoBulk {H : Type} : DataW H → Nat
  | .lit (.string bytes) => bytes.length + 1
  | .lit _ => 1
  | .nil => 1
  | .ptr d => uptoBulk d + 1
  | .slice elems spare => uptoBulkAll elems + uptoBulkAll spare + 1
  | .agg parts => uptoBulkAll parts + 1
  | .iface _ d => uptoBulk d + 1
  | .map entries => uptoBulkEntries entries + 1
  | .held _ => 1
def uptoBulkAll {H : Type} : List (DataW H) → Nat
  | [] => 0
  | d :: r => uptoBulk d + uptoBulkAll r
def uptoBulkEntries {H : Type} : List (Lit × DataW H) → Nat
  | [] => 0
  | x :: r => uptoBulkEntry x + uptoBulkEntries r
def uptoBulkEntry {H : Type} : Lit × DataW H → Nat
  | (.string bytes, d) => bytes.length + uptoBulk d + 1
  | (_, d) => uptoBulk d + 1
 end
def uptoSmall : (H : Type) → List (DataW H) → Bool := fun _ ds => decide (uptoBulkAll ds ≤ 1048576)
def OpenSpec.upto (s : _root_.Go.ChangeSpec) : _root_.Go.OpenSpec := { _root_.Go.OpenSpec.ofChange s with cond := some uptoSmall }

/-- 'homehublaw26.SyncTakes', WHERE WHAT IT READS IS OF BULK AT MOST 1048576: true; the input reads as it did. -/
def syncTakesUptoRow : OpenClaim := { program := "ytajnhnloihlnbaagreat", sum := "89f2bdfaf3b1f5c8c6654ca8e0a796e3066402ce3567791601d08bf80ae99b0c", func := "homehub/homehublaw26.SyncTakes", spec := "syncTakes", unfollowed := true, recurses := true, plainKeys := false, apart := false, narrowed := true }
def SyncTakesUptoSaid : Prop := syncTakesUptoRow.holds Tryz.pinned (OpenSpec.upto syncTakesSpec)

/-- 'homehublaw26.SyncTwice', WHERE WHAT IT READS IS OF BULK AT MOST 1048576: true; the input reads as it did. -/
def syncTwiceUptoRow : OpenClaim := { program := "ytajnhnloihlnbaagreat", sum := "89f2bdfaf3b1f5c8c6654ca8e0a796e3066402ce3567791601d08bf80ae99b0c", func := "homehub/homehublaw26.SyncTwice", spec := "syncTwice", unfollowed := true, recurses := true, plainKeys := false, apart := false, narrowed := true }
def SyncTwiceUptoSaid : Prop := syncTwiceUptoRow.holds Tryz.pinned (OpenSpec.upto syncTwiceSpec)

/-- 'homehublaw26.SyncGrows', WHERE WHAT IT READS IS OF BULK AT MOST 1048576: true; the input reads as it did. -/
def syncGrowsUptoRow : OpenClaim := { program := "ytajnhnloihlnbaagreat", sum := "89f2bdfaf3b1f5c8c6654ca8e0a796e3066402ce3567791601d08bf80ae99b0c", func := "homehub/homehublaw26.SyncGrows", spec := "syncGrows", unfollowed := true, recurses := true, plainKeys := false, apart := false, narrowed := true }
def SyncGrowsUptoSaid : Prop := syncGrowsUptoRow.holds Tryz.pinned (OpenSpec.upto syncGrowsSpec)

/-- 'homehublaw26.SyncHubs', WHERE WHAT IT READS IS OF BULK AT MOST 1048576: true; the input reads as it did. -/
def syncHubsUptoRow : OpenClaim := { program := "ytajnhnloihlnbaagreat", sum := "89f2bdfaf3b1f5c8c6654ca8e0a796e3066402ce3567791601d08bf80ae99b0c", func := "homehub/homehublaw26.SyncHubs", spec := "syncHubs", unfollowed := true, recurses := true, plainKeys := false, apart := false, narrowed := true }
def SyncHubsUptoSaid : Prop := syncHubsUptoRow.holds Tryz.pinned (OpenSpec.upto syncHubsSpec)

/-- 'homehublaw26.SyncBatches', WHERE WHAT IT READS IS OF BULK AT MOST 1048576: true; the input reads as it did. -/
def syncBatchesUptoRow : OpenClaim := { program := "ytajnhnloihlnbaagreat", sum := "89f2bdfaf3b1f5c8c6654ca8e0a796e3066402ce3567791601d08bf80ae99b0c", func := "homehub/homehublaw26.SyncBatches", spec := "syncBatches", unfollowed := true, recurses := true, plainKeys := false, apart := false, narrowed := true }
def SyncBatchesUptoSaid : Prop := syncBatchesUptoRow.holds Tryz.pinned (OpenSpec.upto syncBatchesSpec)

/-- 'homehublaw26.SyncDevices', WHERE WHAT IT READS IS OF BULK AT MOST 1048576: true; the input reads as it did. -/
def syncDevicesUptoRow : OpenClaim := { program := "ytajnhnloihlnbaagreat", sum := "89f2bdfaf3b1f5c8c6654ca8e0a796e3066402ce3567791601d08bf80ae99b0c", func := "homehub/homehublaw26.SyncDevices", spec := "syncDevices", unfollowed := true, recurses := true, plainKeys := false, apart := false, narrowed := true }
def SyncDevicesUptoSaid : Prop := syncDevicesUptoRow.holds Tryz.pinned (OpenSpec.upto syncDevicesSpec)

/-- 'homehublaw26.SyncConverges', WHERE WHAT IT READS IS OF BULK AT MOST 1048576: true; the input reads as it did. -/
def syncConvergesUptoRow : OpenClaim := { program := "ytajnhnloihlnbaagreat", sum := "89f2bdfaf3b1f5c8c6654ca8e0a796e3066402ce3567791601d08bf80ae99b0c", func := "homehub/homehublaw26.SyncConverges", spec := "syncConverges", inPlace := ["slices.overlaps[homehub/api.Item]"], unfollowed := true, recurses := true, plainKeys := false, apart := false, narrowed := true }
def SyncConvergesUptoSaid : Prop := syncConvergesUptoRow.holds Tryz.pinned (OpenSpec.upto syncConvergesSpec)

end Rows
end Go.Proofs.YtajnhnloihlnbaaGreat
