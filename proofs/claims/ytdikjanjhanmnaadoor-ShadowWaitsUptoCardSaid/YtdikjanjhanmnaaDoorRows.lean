/-
  NARROWER THAN 'FOR EVERY INPUT', by the rows' own cells (each row's printed sentence says how): ShadowRises: laid · ShadowOrder: laid · ShadowWaits: laid.
  DERIVED. THE GIVEN ROWS OF THIS SEAT. 3 by the template 'for every input the law returns true; each argument reads behind the call as it read before'; 0 by the template 'total and deterministic' (their statements: YtdikjanjhanmnaaDoorTotals.lean).
  GIVEN WITH THE SEED: the statements are not yours to turn. If you find one false, say at which input.
  Laid BY PROGRAM, IN A SANDBOX (cutbox-rows.mjs): the forced cells as the released guide's own fill.sh prints them over the translation 76c8d8188e5eafc2… (all of the seat's roots in one cut). By AI agents, Wed Nov 11 2026. No macro, syntax, notation, axiom, sorry.
-/
import Derived.Test.YtdikjanjhanmnaaDoorChecked
import GoSem.Claim
import GoSem.ClaimJoined
import GoSem.ClaimMapViews
import Derived.JoinedTies
import Derived.KernelRfl
namespace Go.Proofs.YtdikjanjhanmnaaDoor
/- THE CELL 'sum', in the pinned program and in every row, IS THE sha256 OF THE DUMP (.gsa) THAT YtdikjanjhanmnaaDoorProg.lean LOADS. Nothing in Lean hashes anything: it is a label: what it is worth is what the hold of that sum in a sandbox is worth. -/
noncomputable def Tryd.pinned : Pinned := { name := "ytdikjanjhanmnaadoor", sum := "76c8d8188e5eafc218c0162c20f8d29248ccde49289ccff83b4d200e0830f0a3", checked := Tryd.checked }
namespace Rows
def none {H : Type} : Left H := { results := [], args := [] }

/- WHAT THE LISTED PACKAGE-LEVEL VARIABLES READ AS WHEN THE CALL BEGINS. Each datum BY PROGRAM (the guide's laid-datum.mjs) off the statement by which the dump's own 'gosem.cut.vars' lays the variable. In a bare row this is a premise. The card (YtdikjanjhanmnaaDoorCards.lean) ties it to the program's text. -/
def laid_homehub_cluster_standard {H : Type} : DataW H := .agg [.lit (.string [111, 110, 111, 102, 102]), .lit (.string [108, 101, 118, 101, 108]), .lit (.string [108, 111, 99, 107]), .lit (.string [116, 104, 101, 114, 109, 111, 115, 116, 97, 116]), .lit (.string [115, 109, 111, 107, 101]), .lit (.string [108, 101, 97, 107]), .lit (.string [118, 97, 108, 118, 101]), .lit (.string [109, 101, 116, 101, 114])]

/-- 'homehublaw25.ShadowRises': WHATEVER THE INPUT: true; the input reads as it did. -/
def shadowRisesSpec : ChangeSpec := { name := "shadowRises", fn := fun _ => fun
  | [d1, d2, d3, d4] => { results := [.lit (.bool true)], args := [d1, d2, d3, d4] }
  | _ => none }
def shadowRisesRow : OpenClaim := { program := "ytdikjanjhanmnaadoor", sum := "76c8d8188e5eafc218c0162c20f8d29248ccde49289ccff83b4d200e0830f0a3", func := "homehub/homehublaw25.ShadowRises", spec := "shadowRises", inPlace := ["slices.overlaps[homehub/api.Item]"], unfollowed := true, recurses := true, named := ["homehub/cluster.standard"], plainKeys := false, apart := false, laid := [("homehub/cluster.standard", laid_homehub_cluster_standard)] }
def ShadowRisesSaid : Prop := shadowRisesRow.holds Tryd.pinned (OpenSpec.ofChange shadowRisesSpec)

/-- ITS FALSE NEIGHBOUR: 'it returns false'. Refute it at one input. -/
def shadowRisesWrong : ChangeSpec := { name := "shadowRises", fn := fun _ => fun
  | [d1, d2, d3, d4] => { results := [.lit (.bool false)], args := [d1, d2, d3, d4] }
  | _ => none }
def ShadowRisesWrongFalsely : Prop := shadowRisesRow.holds Tryd.pinned (OpenSpec.ofChange shadowRisesWrong)

/-- 'homehublaw25.ShadowOrder': WHATEVER THE INPUT: true; the input reads as it did. -/
def shadowOrderSpec : ChangeSpec := { name := "shadowOrder", fn := fun _ => fun
  | [d1, d2, d3, d4] => { results := [.lit (.bool true)], args := [d1, d2, d3, d4] }
  | _ => none }
def shadowOrderRow : OpenClaim := { program := "ytdikjanjhanmnaadoor", sum := "76c8d8188e5eafc218c0162c20f8d29248ccde49289ccff83b4d200e0830f0a3", func := "homehub/homehublaw25.ShadowOrder", spec := "shadowOrder", inPlace := ["slices.overlaps[homehub/api.Item]"], unfollowed := true, recurses := true, named := ["homehub/cluster.standard"], plainKeys := false, apart := false, laid := [("homehub/cluster.standard", laid_homehub_cluster_standard)] }
def ShadowOrderSaid : Prop := shadowOrderRow.holds Tryd.pinned (OpenSpec.ofChange shadowOrderSpec)

/-- ITS FALSE NEIGHBOUR: 'it returns false'. Refute it at one input. -/
def shadowOrderWrong : ChangeSpec := { name := "shadowOrder", fn := fun _ => fun
  | [d1, d2, d3, d4] => { results := [.lit (.bool false)], args := [d1, d2, d3, d4] }
  | _ => none }
def ShadowOrderWrongFalsely : Prop := shadowOrderRow.holds Tryd.pinned (OpenSpec.ofChange shadowOrderWrong)

/-- 'homehublaw25.ShadowWaits': WHATEVER THE INPUT: true; the input reads as it did. -/
def shadowWaitsSpec : ChangeSpec := { name := "shadowWaits", fn := fun _ => fun
  | [d1, d2] => { results := [.lit (.bool true)], args := [d1, d2] }
  | _ => none }
def shadowWaitsRow : OpenClaim := { program := "ytdikjanjhanmnaadoor", sum := "76c8d8188e5eafc218c0162c20f8d29248ccde49289ccff83b4d200e0830f0a3", func := "homehub/homehublaw25.ShadowWaits", spec := "shadowWaits", inPlace := ["slices.overlaps[homehub/api.Item]"], unfollowed := true, recurses := true, named := ["homehub/cluster.standard"], plainKeys := false, apart := false, laid := [("homehub/cluster.standard", laid_homehub_cluster_standard)] }
def ShadowWaitsSaid : Prop := shadowWaitsRow.holds Tryd.pinned (OpenSpec.ofChange shadowWaitsSpec)

/-- ITS FALSE NEIGHBOUR: 'it returns false'. Refute it at one input. -/
def shadowWaitsWrong : ChangeSpec := { name := "shadowWaits", fn := fun _ => fun
  | [d1, d2] => { results := [.lit (.bool false)], args := [d1, d2] }
  | _ => none }
def ShadowWaitsWrongFalsely : Prop := shadowWaitsRow.holds Tryd.pinned (OpenSpec.ofChange shadowWaitsWrong)

/- THE SECOND FORM. 'bulk': how many values and letters a reading holds, each counted each time it is reached (what is shared counts as often as it is met; a slice's spare places count too). A statement '..UptoSaid' is the law's where the arguments, and the package variables that the reading takes, are together of bulk at most 1048576: NARROWER than '..Said'. Prove '..Said' where nothing that the law and all that it calls make is longer than what came in: it says more and counts as full. Else prove '..UptoSaid'. A law counts once. -/
mutual
def uptoBulk {H : Type} : DataW H → Nat
  | .lit (.string bytes) => bytes.length + 1
  | .lit _ => 1
  | .nil => 1
  | .ptr d => uptoBulk d + 1
  | .slice elems spare => uptoBulkAll elems + uptoBulkAll spare + 1
  | .agg parts => uptoBulkAll parts + 1
  | .iface _ d => uptoBulk d + 1
  | .map entries => uptoBulkEntries entries + 1
  | .held _ => 1
def uptoBulkAll {H : Type} : List (DataW H) → Nat
  | [] => 0
  | d :: r => uptoBulk d + uptoBulkAll r
def uptoBulkEntries {H : Type} : List (Lit × DataW H) → Nat
  | [] => 0
  | x :: r => uptoBulkEntry x + uptoBulkEntries r
def uptoBulkEntry {H : Type} : Lit × DataW H → Nat
  | (.string bytes, d) => bytes.length + uptoBulk d + 1
  | (_, d) => uptoBulk d + 1
 end
def uptoSmall : (H : Type) → List (DataW H) → Bool := fun _ ds => decide (uptoBulkAll ds ≤ 1048576)
def OpenSpec.upto (s : _root_.Go.ChangeSpec) : _root_.Go.OpenSpec := { _root_.Go.OpenSpec.ofChange s with cond := some uptoSmall }

/-- 'homehublaw25.ShadowRises', WHERE WHAT IT READS IS OF BULK AT MOST 1048576: true; the input reads as it did. -/
def shadowRisesUptoRow : OpenClaim := { program := "ytdikjanjhanmnaadoor", sum := "76c8d8188e5eafc218c0162c20f8d29248ccde49289ccff83b4d200e0830f0a3", func := "homehub/homehublaw25.ShadowRises", spec := "shadowRises", inPlace := ["slices.overlaps[homehub/api.Item]"], unfollowed := true, recurses := true, named := ["homehub/cluster.standard"], plainKeys := false, apart := false, laid := [("homehub/cluster.standard", laid_homehub_cluster_standard)], narrowed := true }
def ShadowRisesUptoSaid : Prop := shadowRisesUptoRow.holds Tryd.pinned (OpenSpec.upto shadowRisesSpec)

/-- 'homehublaw25.ShadowOrder', WHERE WHAT IT READS IS OF BULK AT MOST 1048576: true; the input reads as it did. -/
def shadowOrderUptoRow : OpenClaim := { program := "ytdikjanjhanmnaadoor", sum := "76c8d8188e5eafc218c0162c20f8d29248ccde49289ccff83b4d200e0830f0a3", func := "homehub/homehublaw25.ShadowOrder", spec := "shadowOrder", inPlace := ["slices.overlaps[homehub/api.Item]"], unfollowed := true, recurses := true, named := ["homehub/cluster.standard"], plainKeys := false, apart := false, laid := [("homehub/cluster.standard", laid_homehub_cluster_standard)], narrowed := true }
def ShadowOrderUptoSaid : Prop := shadowOrderUptoRow.holds Tryd.pinned (OpenSpec.upto shadowOrderSpec)

/-- 'homehublaw25.ShadowWaits', WHERE WHAT IT READS IS OF BULK AT MOST 1048576: true; the input reads as it did. -/
def shadowWaitsUptoRow : OpenClaim := { program := "ytdikjanjhanmnaadoor", sum := "76c8d8188e5eafc218c0162c20f8d29248ccde49289ccff83b4d200e0830f0a3", func := "homehub/homehublaw25.ShadowWaits", spec := "shadowWaits", inPlace := ["slices.overlaps[homehub/api.Item]"], unfollowed := true, recurses := true, named := ["homehub/cluster.standard"], plainKeys := false, apart := false, laid := [("homehub/cluster.standard", laid_homehub_cluster_standard)], narrowed := true }
def ShadowWaitsUptoSaid : Prop := shadowWaitsUptoRow.holds Tryd.pinned (OpenSpec.upto shadowWaitsSpec)

end Rows
end Go.Proofs.YtdikjanjhanmnaaDoor
