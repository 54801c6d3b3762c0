/- Contracts: items put. -/
import Derived.Test.YthelcfpfbnhcjaaX04
import Derived.Test.YthelcfpfbnhcjaaX03
import Derived.Test.YthelcfpfbnhcjaaRows
import Derived.WalkKit
import Derived.ProofKit
import Derived.OpenShut
import Derived.JoinedCond
import Derived.Shelf.SlSortCmp.NoneTotal
import Derived.Test.YthelcfpfbnhcjaaProg

set_option linter.unusedVariables false
set_option linter.unusedSimpArgs false
set_option linter.unusedSectionVars false

namespace Go.Abs
open Go.Proofs
set_option maxRecDepth 10000

/-- device.put -/
def putL (l : List Item) (i : Nat) (v : Val) : List Item := if (l.getD i default).value ≠ v then l.set i ⟨(l.getD i default).key, v, nextV l (l.getD i default).key.dev⟩ else l

theorem putL_length {l : List Item} {i : Nat} {v : Val} : (putL l i v).length = l.length := by unfold putL; split <;> simp

theorem val_eq (a b : Val) : (decide (a.kind = b.kind) && (decide (a.n = b.n) && (decide (a.s = b.s) && true))) = decide (a = b) := by
  obtain ⟨a1, a2, a3⟩ := a
  obtain ⟨b1, b2, b3⟩ := b
  rw [Bool.eq_iff_iff]; simp

theorem rows_set {α : Type} [Inhabited α] {enc : α → List PV} {l : List α} {i : Nat} {x : α} {F : Nat → List PV} (h1 : ∀ j, j < l.length → j ≠ i → PSubs (F j) (enc (l.getD j default))) (h2 : i < l.length → PSubs (F i) (enc x)) :
    ∀ j, j < (l.set i x).length → PSubs (F j) (enc ((l.set i x).getD j default)) := by
  intro j hj
  rw [List.length_set] at hj
  by_cases e : j = i
  · subst e
    have : (l.set j x).getD j default = x := by simp [List.getD, hj]
    rw [this]; exact h2 hj
  · have : (l.set i x).getD j default = l.getD j default := by simp [List.getD, List.getElem?_set_ne (Ne.symm e)]
    rw [this]; exact h1 j hj e

theorem ac_device_put (l : List Item) (i : Nat) (v : Val) (hl : smallL l) (hi : i < l.length) : AC Try.prog 102 [.pv (roL 7 cItem l), .pv (vint i), .pv (.agg (cVal v))] [] (.pv (roL 7 cItem (putL l i v))) [] := by
  have hl2 : l.length ≤ 1048576 := hl
  refine AC.of_awp (T := T) T_ok hm Try.call102 Try.func102 rfl rfl rfl ?_
  conv => whnf
  repeat (any_goals (first
    | (refine ⟨fun (h : (_ : Bool) = true) => ?_, fun (h : (_ : Bool) = false) => ?_⟩ <;> (try simp only [decide_eq_true_eq, decide_eq_false_iff_not, Bool.not_eq_true', Bool.not_eq_false', Int.toNat_natCast, beq_iff_eq, decide_eq_decide, beq_eq_false_iff_ne, ne_eq, reduceCtorEq] at h) <;> (conv => whnf))
    | (refine .inr (.inl ⟨_, _, _, ac_slices_Clone_Item _ _ hl2, ?_⟩); conv => whnf)
    | (refine .inl ⟨_, ac_device_next l (l.getD i default).key.dev hl, ?_⟩; conv => whnf)
    | (refine And.intro (by (try simp only [Int.toNat_natCast]); omega) ?_; conv => whnf)
    | (refine And.intro (show (_ : Bool) = true from by kernel_rfl) ?_; conv => whnf)
    | (refine .inl ⟨wrap64 (by omega), ?_⟩; conv => whnf)))
  all_goals rw [val_eq] at h
  all_goals simp only [decide_eq_true_eq, decide_eq_false_iff_not] at h
  · rw [putL, if_pos h]
    refine PSub.ro (by simp) (fun j hj => ?_)
    refine rows_set (i := i) (F := updAt _ _ _ _) (fun j hj e => ?_) (fun hi => ?_) j (by simpa using hj)
    · simp only [Int.toNat_natCast]; rw [updAt_ne e, updAt_ne e]; exact PSubs.rfl
    · simp only [Int.toNat_natCast]; rw [updAt_same, updAt_same]; exact PSubs.rfl
  · rw [putL, if_neg (by simpa using h)]
    exact .rfl

/-- R22.with -/
def withL (l : List Item) (k : Key) (v : Val) : List Item := if itemAt l k < l.length then putL l (itemAt l k) v else l

theorem itemAt_key {l : List Item} {k : Key} (h : itemAt l k < l.length) : (l.getD (itemAt l k) default).key = k := by
  unfold itemAt firstI at *
  split at h
  · rename_i i e
    rw [List.find?_range_eq_some] at e
    simpa using e.1
  · omega

/-- device.Init -/
def initL (H : Hom) (id : Int) : List Item := (List.range (keysL H id).length).map fun i => ⟨(keysL H id).getD i default, zeroV ((findA H ((keysL H id).getD i default)).getD noAttr), (i : Int) + 1⟩

def initTo (H : Hom) (id : Int) (k : Nat) : List Item := (List.range k).map fun i => ⟨(keysL H id).getD i default, zeroV ((findA H ((keysL H id).getD i default)).getD noAttr), (i : Int) + 1⟩
theorem initTo_succ {H : Hom} {id : Int} {k : Nat} : initTo H id (k + 1) = initTo H id k ++ [⟨(keysL H id).getD k default, zeroV ((findA H ((keysL H id).getD k default)).getD noAttr), (k : Int) + 1⟩] := by
  simp [initTo, List.range_succ, -List.getD_eq_getElem?_getD]
theorem initTo_length {H : Hom} {id : Int} {k : Nat} : (initTo H id k).length = k := by simp [initTo]

theorem keysL_length {H : Hom} (hH : smallH H) {id : Int} : (keysL H id).length ≤ 4194304 := by
  have h4 := @findD_length H id
  have := keysTo_len (f := firstC H.clusters) (fun _ _ => firstC_small hH.1) (id := id) (l := (findD H id).clusters) (k := (findD H id).clusters.length) (Nat.le_refl _)
  rw [keysTo, List.take_length] at this
  have e : keysL H id = (findD H id).clusters.flatMap (keysOf1 (firstC H.clusters) id) := rfl
  rw [← e] at this
  omega

theorem small_findA {H : Hom} (hH : smallH H) {k : Key} : smallA ((findA H k).getD noAttr) := by
  unfold findA
  cases h : partO H k.dev k.cluster with
  | none => exact Nat.zero_le _
  | some c =>
    unfold attrO
    simp only
    have hc : smallK c := by
      unfold partO at h
      split at h
      · exact firstC_small hH.1 h
      · cases h
    split
    · exact hc.2.1 _
    · exact Nat.zero_le _

theorem ac_device_Init (H : Hom) (id : Int) (hH : smallH H) : AC Try.prog 35 [.pv (.agg (cHom H)), .pv (vint id)] [] (.pv (roL 7 cItem (initL H id))) [] := by
  have hkl := keysL_length hH (id := id)
  refine AC.of_awp (T := T) T_ok hm Try.call35 Try.func35 rfl rfl rfl ?_
  conv => whnf
  refine .inl ⟨_, ac_device_Keys H id hH, ?_⟩
  conv => whnf
  refine loop_k (ι := Nat) [2, 12, 13] [2] (fun k => k ≤ (keysL H id).length ∧ True) (fun k => (keysL H id).length - k) 0 (fun k => [(5, .own 500), (14, .pv (vint k))]) (fun k => [(500, rowL 7 cItem (initTo H id k))]) [] ⟨Nat.zero_le _, trivial⟩ ?_ (fun k hk => ?_)
  · (repeat' (first | exact PSub.rfl | exact rfl | exact PSubs.rfl | exact trivial | refine And.intro ?_ ?_))
  obtain ⟨hkn, hinv⟩ := hk
  conv => whnf
  have hlen := @initTo_length H id k
  repeat (any_goals (first
    | (refine ⟨fun (h : (_ : Bool) = true) => ?_, fun (h : (_ : Bool) = false) => ?_⟩ <;> (try simp only [decide_eq_true_eq, decide_eq_false_iff_not, Bool.not_eq_true', Bool.not_eq_false', Int.toNat_natCast, beq_iff_eq, decide_eq_decide, beq_eq_false_iff_ne, ne_eq, reduceCtorEq] at h) <;> (conv => whnf))
    | (refine .inl ⟨_, ac_device_Find H ((keysL H id).getD k default) hH, ?_⟩; conv => whnf)
    | (refine .inl ⟨_, ac_value_Zero ((findA H ((keysL H id).getD k default)).getD noAttr) (small_findA hH), ?_⟩; conv => whnf)
    | (refine And.intro (by (try simp only [Int.toNat_natCast]); omega) ?_; conv => whnf)
    | (refine And.intro (show (_ : Bool) = true from by kernel_rfl) ?_; conv => whnf)
    | (refine .inl ⟨wrap64 (by omega), ?_⟩; conv => whnf)))
  · refine ⟨k + 1, [(500, 33)], ⟨by omega, trivial⟩, by omega, ?_⟩
    rw [initTo_succ]
    (repeat' (first | exact PSub.rfl | exact rfl | exact PSubs.rfl | exact trivial | refine And.intro ?_ ?_))
    · simp
    · refine rows_snocF (fun i hi => by simp only [if_pos hi]; exact PSubs.rfl) (by simp only [if_neg (Nat.lt_irrefl _), Nat.sub_self]; exact PSubs.rfl)
  · have e : k = (keysL H id).length := by omega
    subst e
    exact .rfl

/-- device.set: its error -/
def setE (H : Hom) (l : List Item) (k : Key) (v : Val) (w : Bool) : Int :=
  if homE H ≠ 0 then homE H else if (findA H k).isSome = false then 8 else if ixI l.length (itemAt l k) < 0 then 8 else if w = true ∧ ((findA H k).getD noAttr).writable = false then 24 else fitsE ((findA H k).getD noAttr) v
/-- .. and what it returns -/
def setL (H : Hom) (l : List Item) (k : Key) (v : Val) (w : Bool) : List Item := if setE H l k v w = 0 then putL l (itemAt l k) v else []

theorem ixI_nonneg {n k : Nat} (h : ¬ ixI n k < 0) : k < n ∧ ixI n k = (k : Int) := by
  unfold ixI at *
  split <;> rename_i h2
  · exact ⟨h2, rfl⟩
  · rw [if_neg h2] at h; omega

theorem ac_device_set (H : Hom) (l : List Item) (k : Key) (v : Val) (w : Bool) (hH : smallH H) (hl : smallL l) : AC Try.prog 86 [.pv (.agg (cHom H)), .pv (roL 7 cItem l), .pv (.agg (cKey k)), .pv (.agg (cVal v)), .pv (vbool w)] [] (.pv (.tup [roL 7 cItem (setL H l k v w), vint (setE H l k v w)])) [] := by
  refine AC.of_awp (T := T) T_ok hm Try.call86 Try.func86 rfl rfl rfl ?_
  conv => whnf
  repeat (any_goals (first
    | (refine ⟨fun (h : (_ : Bool) = true) => ?_, fun (h : (_ : Bool) = false) => ?_⟩ <;> (try simp only [decide_eq_true_eq, decide_eq_false_iff_not, Bool.not_eq_true', Bool.not_eq_false', Int.toNat_natCast, beq_iff_eq, decide_eq_decide, beq_eq_false_iff_ne, ne_eq, reduceCtorEq] at h) <;> (conv => whnf))
    | (refine .inl ⟨_, ac_device_Check H hH, ?_⟩; conv => whnf)
    | (refine .inl ⟨_, ac_device_Find H k hH, ?_⟩; conv => whnf)
    | (refine .inl ⟨_, ac_device_index l k hl, ?_⟩; conv => whnf)
    | (refine .inl ⟨_, ac_value_Fits ((findA H k).getD noAttr) v (small_findA hH), ?_⟩; conv => whnf)
    | (refine And.intro (by (try simp only [Int.toNat_natCast]); omega) ?_; conv => whnf)
    | (refine And.intro (show (_ : Bool) = true from by kernel_rfl) ?_; conv => whnf)
    | (refine .inl ⟨wrap64 (by omega), ?_⟩; conv => whnf)))
  all_goals first
    | (have e : setE H l k v w = 8 := by simp [setE, *]
       rw [setL, e]
       refine ⟨?_, ?_⟩ <;> (conv => whnf)
       · exact PSub.nilL (by simp)
       · exact .rfl)
    | (have e : setE H l k v w = 24 := by simp [setE, *]
       rw [setL, e]
       refine ⟨?_, ?_⟩ <;> (conv => whnf)
       · exact PSub.nilL (by simp)
       · exact .rfl)
    | (have e : setE H l k v w = homE H := by simp [setE, *]
       rw [setL, e]
       refine ⟨?_, ?_⟩ <;> (conv => whnf)
       · exact PSub.nilL (by simp [*])
       · exact .rfl)
    | (have e : setE H l k v w = fitsE ((findA H k).getD noAttr) v := by simp [setE, *]
       rw [setL, e]
       refine ⟨?_, ?_⟩ <;> (conv => whnf)
       · exact PSub.nilL (by simp [*])
       · exact .rfl)
    | (have e : setE H l k v w = 0 := by simp [setE, *]
       obtain ⟨hlt, hix⟩ := ixI_nonneg (by assumption : ¬ ixI l.length (itemAt l k) < 0)
       rw [hix]
       refine .inl ⟨_, ac_device_put l (itemAt l k) v hl hlt, ?_⟩
       conv => whnf
       rw [setL, e, if_pos rfl]
       refine ⟨?_, ?_⟩ <;> (conv => whnf)
       · exact .rfl
       · exact .rfl)
    | skip

theorem ac_device_set_c (H : Hom) (l : List Item) (k : Key) (v : Val) (w : Bool) (hH : smallH H) (hl : smallL l) : AC Try.prog 86 [.pv (.agg (cHom H)), .pv (roL 7 cItem l), .pv (.agg (cKey k)), .pv (.agg (cVal v)), .pv (.val (.bool w))] [] (.pv (.tup [roL 7 cItem (setL H l k v w), vint (setE H l k v w)])) [] :=
  AC.sub (qs := [.agg (cHom H), roL 7 cItem l, .agg (cKey k), .agg (cVal v), vbool w]) (ps := [.agg (cHom H), roL 7 cItem l, .agg (cKey k), .agg (cVal v), .val (.bool w)]) (ac_device_set H l k v w hH hl) ⟨.rfl, .rfl, .rfl, .rfl, PSub.lit_sb rfl, trivial⟩

theorem ac_device_Write (H : Hom) (l : List Item) (k : Key) (v : Val) (hH : smallH H) (hl : smallL l) : AC Try.prog 56 [.pv (.agg (cHom H)), .pv (roL 7 cItem l), .pv (.agg (cKey k)), .pv (.agg (cVal v))] [] (.pv (.tup [roL 7 cItem (setL H l k v true), vint (setE H l k v true)])) [] := by
  refine AC.of_awp (T := T) T_ok hm Try.call56 Try.func56 rfl rfl rfl ?_
  conv => whnf
  refine .inl ⟨_, ac_device_set_c H l k v true hH hl, ?_⟩
  conv => whnf
  refine ⟨?_, ?_⟩ <;> (conv => whnf)
  · exact .rfl
  · exact .rfl

theorem withL_eq {l : List Item} {k : Key} {v : Val} (h : itemAt l k < l.length) : withL l k v = putL l (itemAt l k) v := by rw [withL, if_pos h]

end Go.Abs

namespace Go.Abs
open Go.Proofs
set_option maxRecDepth 10000

theorem all_lt_zero {p : Nat → Prop} : ∀ i, i < 0 → p i := fun i h => absurd h (by omega)
theorem all_lt_succ {p : Nat → Prop} {n : Nat} (h1 : ∀ i, i < n → p i) (h2 : p n) : ∀ i, i < n + 1 → p i := fun i h => by
  rcases Nat.lt_or_ge i n with h3 | h3
  · exact h1 i h3
  · have : i = n := by omega
    subst this; exact h2

def flagA (s : ByteArray) (w sf : Bool) : Attr := ⟨s, 1, 0, 0, [], w, sf⟩
def numA (s : ByteArray) (lo hi : Int) (w : Bool) : Attr := ⟨s, 2, lo, hi, [], w, false⟩
def setsC (s a : ByteArray) (n : Int) : Cmd := ⟨s, noAttr, [⟨1, a, n⟩]⟩
/-- cluster.Standard -/
def stdC : List Clu := [
  ⟨(⟨#[111, 110, 111, 102, 102]⟩ : ByteArray), [flagA (⟨#[111, 110]⟩ : ByteArray) true false], [setsC (⟨#[111, 110]⟩ : ByteArray) (⟨#[111, 110]⟩ : ByteArray) 1, setsC (⟨#[111, 102, 102]⟩ : ByteArray) (⟨#[111, 110]⟩ : ByteArray) 0, ⟨(⟨#[116, 111, 103, 103, 108, 101]⟩ : ByteArray), noAttr, [⟨4, (⟨#[111, 110]⟩ : ByteArray), 0⟩]⟩], []⟩,
  ⟨(⟨#[108, 101, 118, 101, 108]⟩ : ByteArray), [numA (⟨#[108, 101, 118, 101, 108]⟩ : ByteArray) 0 100 true], [⟨(⟨#[109, 111, 118, 101]⟩ : ByteArray), numA (⟨#[116, 111]⟩ : ByteArray) 0 100 false, [⟨2, (⟨#[108, 101, 118, 101, 108]⟩ : ByteArray), 0⟩]⟩, ⟨(⟨#[115, 116, 101, 112]⟩ : ByteArray), noAttr, [⟨3, (⟨#[108, 101, 118, 101, 108]⟩ : ByteArray), 10⟩]⟩], []⟩,
  ⟨(⟨#[108, 111, 99, 107]⟩ : ByteArray), [flagA (⟨#[108, 111, 99, 107, 101, 100]⟩ : ByteArray) true true], [setsC (⟨#[108, 111, 99, 107]⟩ : ByteArray) (⟨#[108, 111, 99, 107, 101, 100]⟩ : ByteArray) 1, setsC (⟨#[117, 110, 108, 111, 99, 107]⟩ : ByteArray) (⟨#[108, 111, 99, 107, 101, 100]⟩ : ByteArray) 0], [(⟨#[106, 97, 109]⟩ : ByteArray)]⟩,
  ⟨(⟨#[116, 104, 101, 114, 109, 111, 115, 116, 97, 116]⟩ : ByteArray), [numA (⟨#[116, 97, 114, 103, 101, 116]⟩ : ByteArray) 50 300 true, numA (⟨#[116, 101, 109, 112]⟩ : ByteArray) (-500) 1000 false], [], []⟩,
  ⟨(⟨#[115, 109, 111, 107, 101]⟩ : ByteArray), [flagA (⟨#[97, 108, 97, 114, 109]⟩ : ByteArray) false true], [], [(⟨#[116, 101, 115, 116]⟩ : ByteArray)]⟩,
  ⟨(⟨#[108, 101, 97, 107]⟩ : ByteArray), [flagA (⟨#[119, 101, 116]⟩ : ByteArray) false true], [], []⟩,
  ⟨(⟨#[118, 97, 108, 118, 101]⟩ : ByteArray), [flagA (⟨#[111, 112, 101, 110]⟩ : ByteArray) true true], [setsC (⟨#[111, 112, 101, 110]⟩ : ByteArray) (⟨#[111, 112, 101, 110]⟩ : ByteArray) 1, setsC (⟨#[99, 108, 111, 115, 101]⟩ : ByteArray) (⟨#[111, 112, 101, 110]⟩ : ByteArray) 0], []⟩,
  ⟨(⟨#[109, 101, 116, 101, 114]⟩ : ByteArray), [numA (⟨#[112, 111, 119, 101, 114]⟩ : ByteArray) 0 100000 false], [], []⟩]

def homeX : Hom := ⟨stdC, [⟨1, 0, 0, false, 0, (⟨#[104, 97, 108, 108]⟩ : ByteArray), [(⟨#[111, 110, 111, 102, 102]⟩ : ByteArray), (⟨#[108, 101, 118, 101, 108]⟩ : ByteArray)]⟩]⟩

end Go.Abs

namespace Go.Abs
open Go.Proofs
set_option maxRecDepth 10000

def kLev : Key := ⟨1, (⟨#[108, 101, 118, 101, 108]⟩ : ByteArray), (⟨#[108, 101, 118, 101, 108]⟩ : ByteArray)⟩
theorem ex1 : homE homeX = 0 := by kernel_rfl
theorem ex2 : initL homeX 1 = [⟨⟨1, (⟨#[111, 110, 111, 102, 102]⟩ : ByteArray), (⟨#[111, 110]⟩ : ByteArray)⟩, ⟨1, 0, ⟨#[]⟩⟩, 1⟩, ⟨kLev, ⟨2, 0, ⟨#[]⟩⟩, 2⟩] := by kernel_rfl
def L1 : List Item := [⟨⟨1, (⟨#[111, 110, 111, 102, 102]⟩ : ByteArray), (⟨#[111, 110]⟩ : ByteArray)⟩, ⟨1, 0, ⟨#[]⟩⟩, 1⟩, ⟨kLev, ⟨2, 0, ⟨#[]⟩⟩, 2⟩]
theorem ex3 : setE homeX L1 kLev ⟨2, 7, ⟨#[]⟩⟩ false = 0 := by kernel_rfl
def L2 : List Item := [⟨⟨1, (⟨#[111, 110, 111, 102, 102]⟩ : ByteArray), (⟨#[111, 110]⟩ : ByteArray)⟩, ⟨1, 0, ⟨#[]⟩⟩, 1⟩, ⟨kLev, ⟨2, 7, ⟨#[]⟩⟩, 3⟩]
theorem ex4 : setL homeX L1 kLev ⟨2, 7, ⟨#[]⟩⟩ false = L2 := by kernel_rfl
theorem ex5 : setE homeX L1 kLev ⟨2, 101, ⟨#[]⟩⟩ false = 2 := by kernel_rfl
theorem ex6 : getI L2 kLev = ⟨kLev, ⟨2, 7, ⟨#[]⟩⟩, 3⟩ := by kernel_rfl
theorem ex7 : (findD homeX 1).room = (⟨#[104, 97, 108, 108]⟩ : ByteArray) := by kernel_rfl
theorem ex8 : decide (itemAt L2 kLev < L2.length) = true := by kernel_rfl

theorem sl {α : Type} {l : List α} (h : Nat.ble l.length 1048576 = true) : smallL l := Nat.le_of_ble_eq_true h

theorem smallK_std : ∀ i, smallK (stdC.getD i default) := by
  intro i
  have key : ∀ c ∈ stdC, smallK c := by
    intro c hc
    simp only [stdC, List.mem_cons, List.not_mem_nil, or_false] at hc
    have dA : ∀ i, smallA (List.getD [] i (default : Attr)) := fun i => Nat.zero_le _
    have dC : ∀ i, smallC (List.getD [] i (default : Cmd)) := fun i => ⟨Nat.zero_le _, Nat.zero_le _⟩
    have A1 : ∀ (a : Attr), smallA a → ∀ i, smallA (List.getD [a] i default) := fun a h i => by cases i with | zero => exact h | succ i => exact Nat.zero_le _
    have A2 : ∀ (a b : Attr), smallA a → smallA b → ∀ i, smallA (List.getD [a, b] i default) := fun a b h h2 i => by cases i with | zero => exact h | succ i => exact A1 b h2 i
    have C2 : ∀ (a b : Cmd), smallC a → smallC b → ∀ i, smallC (List.getD [a, b] i default) := fun a b h h2 i => by
      cases i with
      | zero => exact h
      | succ i => cases i with
        | zero => exact h2
        | succ i => exact ⟨Nat.zero_le _, Nat.zero_le _⟩
    have C3 : ∀ (a b c : Cmd), smallC a → smallC b → smallC c → ∀ i, smallC (List.getD [a, b, c] i default) := fun a b c h h2 h3 i => by cases i with | zero => exact h | succ i => exact C2 b c h2 h3 i
    have f : ∀ s w sf, smallA (flagA s w sf) := fun _ _ _ => Nat.zero_le _
    have n : ∀ s lo hi w, smallA (numA s lo hi w) := fun _ _ _ _ => Nat.zero_le _
    have c1 : ∀ s a k, smallC (setsC s a k) := fun _ _ _ => ⟨Nat.zero_le _, sl rfl⟩
    have c2 : ∀ s a e, smallA a → smallC ⟨s, a, [e]⟩ := fun _ _ _ h => ⟨h, sl rfl⟩
    rcases hc with rfl | rfl | rfl | rfl | rfl | rfl | rfl | rfl
    all_goals refine ⟨sl rfl, ?_, sl rfl, ?_, sl rfl⟩
    all_goals first
      | exact dA | exact dC | exact A1 _ (f _ _ _) | exact A1 _ (n _ _ _ _) | exact A2 _ _ (n _ _ _ _) (n _ _ _ _)
      | exact C2 _ _ (c1 _ _ _) (c1 _ _ _) | exact C2 _ _ (c2 _ _ _ (n _ _ _ _)) (c2 _ _ _ (Nat.zero_le _)) | exact C3 _ _ _ (c1 _ _ _) (c1 _ _ _) (c2 _ _ _ (Nat.zero_le _))
  by_cases h : i < stdC.length
  · have : stdC.getD i default = stdC[i] := by simp [List.getD, h]
    rw [this]; exact key _ (List.getElem_mem h)
  · have : stdC.getD i default = default := by simp [List.getD, Nat.le_of_not_lt h]
    rw [this]; exact ⟨Nat.zero_le _, fun _ => Nat.zero_le _, Nat.zero_le _, fun _ => ⟨Nat.zero_le _, Nat.zero_le _⟩, Nat.zero_le _⟩

theorem smallH_X : smallH homeX := by
  refine ⟨⟨sl rfl, smallK_std⟩, sl rfl, fun i => ?_⟩
  cases i with
  | zero => exact ⟨sl rfl, by decide, by decide⟩
  | succ i =>
    have : homeX.devices.getD (i + 1) default = default := rfl
    rw [this]; exact ⟨Nat.zero_le _, by decide, by decide⟩

end Go.Abs

namespace Go.Abs
open Go.Proofs Go.RowKit
set_option maxRecDepth 10000

section
variable {H : Type} {enc : TypeId × Value → H} {w : World} {bulk : DataW H → Nat}
abbrev BB : Nat := 1048576

def inI64 (n : Int) : Prop := -9223372036854775808 ≤ n ∧ n ≤ 9223372036854775807
theorem wf64 {n : Int} (h : (Lit.int .i64 n).wf = true) : inI64 n := by
  simp only [Lit.wf, Bool.and_eq_true, decide_eq_true_eq] at h
  exact h

theorem op_int : Opens enc Try.prog w bulk BB 3 cint inI64 := (Opens.int Try.underlying3).imp id (fun _ => rfl) (fun _ h => wf64 h)
theorem op_uint64 : Opens enc Try.prog w bulk BB 73 (fun n : Int => [.val (.int .u64 n)]) (fun _ => True) := (Opens.int Try.underlying73).imp id (fun _ => rfl) (fun _ _ => trivial)
theorem op_bool : Opens enc Try.prog w bulk BB 4 (fun b : Bool => [vbool b]) (fun _ => True) := Opens.bool Try.underlying4
theorem op_string (hB : BulkOk bulk) : Opens enc Try.prog w bulk BB 9 cstr (fun s => s.size ≤ 1048576) := Opens.str hB Try.underlying9

theorem op_l_string (hB : BulkOk bulk) : Opens enc Try.prog w bulk BB 70 (fun l : List ByteArray => [roL 1 cstr l]) smallL :=
  (Opens.slice hB Try.underlying70 (by kernel_rfl) (by decide) (op_string hB)).imp id (fun _ => rfl) (fun _ h => h.1)

def goodKey (k : Key) : Prop := inI64 k.dev
theorem op_Key (hB : BulkOk bulk) : Opens enc Try.prog w bulk BB 56 cKey goodKey :=
  (Opens.struct hB Try.underlying56 (by kernel_rfl) (.cons (size := 1) rfl (by kernel_rfl) op_int (.cons (size := 1) rfl (by kernel_rfl) (op_string hB) (.cons (size := 1) rfl (by kernel_rfl) (op_string hB) .nil)))).imp (fun x => ⟨x.1, x.2.1, x.2.2.1⟩) (fun _ => rfl) (fun _ h => h.1)

def goodVal (v : Val) : Prop := inI64 v.kind ∧ inI64 v.n
theorem op_Value (hB : BulkOk bulk) : Opens enc Try.prog w bulk BB 58 cVal goodVal :=
  (Opens.struct hB Try.underlying58 (by kernel_rfl) (.cons (size := 1) rfl (by kernel_rfl) op_int (.cons (size := 1) rfl (by kernel_rfl) op_int (.cons (size := 1) rfl (by kernel_rfl) (op_string hB) .nil)))).imp (fun x => ⟨x.1, x.2.1, x.2.2.1⟩) (fun _ => rfl) (fun _ h => ⟨h.1, h.2.1⟩)

def goodItem (x : Item) : Prop := goodKey x.key ∧ goodVal x.value ∧ inI64 x.version
theorem op_Item (hB : BulkOk bulk) : Opens enc Try.prog w bulk BB 60 cItem goodItem :=
  (Opens.struct hB Try.underlying60 (by kernel_rfl) (.cons (size := 3) rfl (by kernel_rfl) (op_Key hB) (.cons (size := 3) rfl (by kernel_rfl) (op_Value hB) (.cons (size := 1) rfl (by kernel_rfl) op_int .nil)))).imp (fun x => ⟨x.1, x.2.1, x.2.2.1⟩) (fun _ => rfl) (fun _ h => ⟨h.1, h.2.1, h.2.2.1⟩)
def goodItems (l : List Item) : Prop := smallL l ∧ ∀ i, i < l.length → goodItem (l.getD i default)
theorem op_l_Item (hB : BulkOk bulk) : Opens enc Try.prog w bulk BB 26 (fun l : List Item => [roL 7 cItem l]) goodItems :=
  (Opens.slice hB Try.underlying26 (by kernel_rfl) (by decide) (op_Item hB)).imp id (fun _ => rfl) (fun _ h => h)

theorem op_Attr (hB : BulkOk bulk) : Opens enc Try.prog w bulk BB 84 cAttr smallA :=
  (Opens.struct hB Try.underlying84 (by kernel_rfl) (.cons (size := 1) rfl (by kernel_rfl) (op_string hB) (.cons (size := 1) rfl (by kernel_rfl) op_int (.cons (size := 1) rfl (by kernel_rfl) op_int (.cons (size := 1) rfl (by kernel_rfl) op_int (.cons (size := 1) rfl (by kernel_rfl) (op_l_string hB) (.cons (size := 1) rfl (by kernel_rfl) op_bool (.cons (size := 1) rfl (by kernel_rfl) op_bool .nil)))))))).imp
    (fun x => ⟨x.1, x.2.1, x.2.2.1, x.2.2.2.1, x.2.2.2.2.1, x.2.2.2.2.2.1, x.2.2.2.2.2.2.1⟩) (fun _ => rfl) (fun _ h => h.2.2.2.2.1)

theorem getD_all {α : Type} [Inhabited α] {l : List α} {p : α → Prop} (h : ∀ i, i < l.length → p (l.getD i default)) (hd : p default) (i : Nat) : p (l.getD i default) := by
  by_cases hi : i < l.length
  · exact h i hi
  · have : l.getD i default = default := by simp [List.getD, Nat.le_of_not_lt hi]
    rw [this]; exact hd

theorem op_l_Attr (hB : BulkOk bulk) : Opens enc Try.prog w bulk BB 68 (fun l : List Attr => [roL 7 cAttr l]) (fun l => smallL l ∧ ∀ i, smallA (l.getD i default)) :=
  (Opens.slice hB Try.underlying68 (by kernel_rfl) (by decide) (op_Attr hB)).imp id (fun _ => rfl) (fun _ h => ⟨h.1, getD_all h.2 (Nat.zero_le _)⟩)

theorem op_Effect (hB : BulkOk bulk) : Opens enc Try.prog w bulk BB 101 cEff (fun _ => True) :=
  (Opens.struct hB Try.underlying101 (by kernel_rfl) (.cons (size := 1) rfl (by kernel_rfl) op_int (.cons (size := 1) rfl (by kernel_rfl) (op_string hB) (.cons (size := 1) rfl (by kernel_rfl) op_int .nil)))).imp (fun x => ⟨x.1, x.2.1, x.2.2.1⟩) (fun _ => rfl) (fun _ _ => trivial)
theorem op_l_Effect (hB : BulkOk bulk) : Opens enc Try.prog w bulk BB 102 (fun l : List Eff => [roL 3 cEff l]) smallL :=
  (Opens.slice hB Try.underlying102 (by kernel_rfl) (by decide) (op_Effect hB)).imp id (fun _ => rfl) (fun _ h => h.1)

theorem op_Command (hB : BulkOk bulk) : Opens enc Try.prog w bulk BB 104 cCmd smallC :=
  (Opens.struct hB Try.underlying104 (by kernel_rfl) (.cons (size := 1) rfl (by kernel_rfl) (op_string hB) (.cons (size := 7) rfl (by kernel_rfl) (op_Attr hB) (.cons (size := 1) rfl (by kernel_rfl) (op_l_Effect hB) .nil)))).imp (fun x => ⟨x.1, x.2.1, x.2.2.1⟩) (fun _ => rfl) (fun _ h => ⟨h.2.1, h.2.2.1⟩)
theorem op_l_Command (hB : BulkOk bulk) : Opens enc Try.prog w bulk BB 69 (fun l : List Cmd => [roL 9 cCmd l]) (fun l => smallL l ∧ ∀ i, smallC (l.getD i default)) :=
  (Opens.slice hB Try.underlying69 (by kernel_rfl) (by decide) (op_Command hB)).imp id (fun _ => rfl) (fun _ h => ⟨h.1, getD_all h.2 ⟨Nat.zero_le _, Nat.zero_le _⟩⟩)

theorem op_Cluster (hB : BulkOk bulk) : Opens enc Try.prog w bulk BB 72 cClu smallK :=
  (Opens.struct hB Try.underlying72 (by kernel_rfl) (.cons (size := 1) rfl (by kernel_rfl) (op_string hB) (.cons (size := 1) rfl (by kernel_rfl) (op_l_Attr hB) (.cons (size := 1) rfl (by kernel_rfl) (op_l_Command hB) (.cons (size := 1) rfl (by kernel_rfl) (op_l_string hB) .nil))))).imp (fun x => ⟨x.1, x.2.1, x.2.2.1, x.2.2.2.1⟩) (fun _ => rfl) (fun _ h => ⟨h.2.1.1, h.2.1.2, h.2.2.1.1, h.2.2.1.2, h.2.2.2.1⟩)
theorem small_default : smallK default := ⟨Nat.zero_le _, fun _ => Nat.zero_le _, Nat.zero_le _, fun _ => ⟨Nat.zero_le _, Nat.zero_le _⟩, Nat.zero_le _⟩
theorem op_l_Cluster (hB : BulkOk bulk) : Opens enc Try.prog w bulk BB 22 (fun l : List Clu => [roL 4 cClu l]) smallKs :=
  (Opens.slice hB Try.underlying22 (by kernel_rfl) (by decide) (op_Cluster hB)).imp id (fun _ => rfl) (fun _ h => ⟨h.1, getD_all h.2 small_default⟩)

theorem op_Device (hB : BulkOk bulk) : Opens enc Try.prog w bulk BB 75 cDev smallD :=
  (Opens.struct hB Try.underlying75 (by kernel_rfl) (.cons (size := 1) rfl (by kernel_rfl) op_int (.cons (size := 1) rfl (by kernel_rfl) op_uint64 (.cons (size := 1) rfl (by kernel_rfl) op_int (.cons (size := 1) rfl (by kernel_rfl) op_bool (.cons (size := 1) rfl (by kernel_rfl) op_int (.cons (size := 1) rfl (by kernel_rfl) (op_string hB) (.cons (size := 1) rfl (by kernel_rfl) (op_l_string hB) .nil)))))))).imp
    (fun x => ⟨x.1, x.2.1, x.2.2.1, x.2.2.2.1, x.2.2.2.2.1, x.2.2.2.2.2.1, x.2.2.2.2.2.2.1⟩) (fun _ => rfl) (fun _ h => ⟨h.2.2.2.2.2.2.1, h.1.1, h.1.2⟩)
theorem op_l_Device (hB : BulkOk bulk) : Opens enc Try.prog w bulk BB 23 (fun l : List Dev => [roL 7 cDev l]) (fun l => smallL l ∧ ∀ i, smallD (l.getD i default)) :=
  (Opens.slice hB Try.underlying23 (by kernel_rfl) (by decide) (op_Device hB)).imp id (fun _ => rfl) (fun _ h => ⟨h.1, getD_all h.2 ⟨Nat.zero_le _, by decide, by decide⟩⟩)
theorem op_Home (hB : BulkOk bulk) : Opens enc Try.prog w bulk BB 25 cHom smallH :=
  (Opens.struct hB Try.underlying25 (by kernel_rfl) (.cons (size := 1) rfl (by kernel_rfl) (op_l_Cluster hB) (.cons (size := 1) rfl (by kernel_rfl) (op_l_Device hB) .nil))).imp (fun x => ⟨x.1, x.2.1⟩) (fun _ => rfl) (fun _ h => ⟨h.1, h.2.1.1, h.2.1.2⟩)
end

end Go.Abs

namespace Go.Proofs.Ythelcfpfbnhcjaa
open Go.ChangeShapes Go.WideShapes Go.ChangeAt Go.RowKit Go.Abs

theorem own : ownKnob Try.prog.godebug = none := by kernel_rfl
theorem laidOut : laidOutB Try.prog = true := by kernel_rfl

theorem glob {W : World} : Glob W (fun _ => False) := fun g cs e => by cases e

theorem bulkOk {H : Type} : BulkOk (Rows.uptoBulk (H := H)) := by
  have one_le : ∀ d : DataW H, 1 ≤ Rows.uptoBulk d := fun d => by
    cases d with
    | lit l => cases l <;> simp [Rows.uptoBulk]
    | nil => simp [Rows.uptoBulk]
    | ptr d => simp [Rows.uptoBulk]
    | slice elems spare => simp [Rows.uptoBulk]
    | agg parts => simp [Rows.uptoBulk]
    | iface t d => simp [Rows.uptoBulk]
    | map entries => simp [Rows.uptoBulk]
    | held h => simp [Rows.uptoBulk]
  have part_le : ∀ (l : List (DataW H)) (d : DataW H), d ∈ l → Rows.uptoBulk d ≤ Rows.uptoBulkAll l := by
    intro l
    induction l with
    | nil => intro d h; cases h
    | cons x r ih =>
      intro d h
      simp only [Rows.uptoBulkAll]
      cases List.mem_cons.1 h with
      | inl e => subst e; omega
      | inr e => have := ih d e; omega
  have length_le : ∀ (l : List (DataW H)), l.length ≤ Rows.uptoBulkAll l := by
    intro l
    induction l with
    | nil => simp [Rows.uptoBulkAll]
    | cons x r ih => have := one_le x; simp only [Rows.uptoBulkAll, List.length_cons]; omega
  refine ⟨fun bytes => by simp [Rows.uptoBulk], fun e s => ?_, fun e s d h => ?_, fun l d h => ?_⟩
  · have := length_le e; simp only [Rows.uptoBulk]; omega
  · have := part_le e d h; simp only [Rows.uptoBulk]; omega
  · have := part_le l d h; simp only [Rows.uptoBulk]; omega

theorem bulk_le {H : Type} {l : List (DataW H)} (hk : Rows.uptoSmall H l = true) : Rows.uptoBulkAll l ≤ 1048576 := of_decide_eq_true hk

/-- From what a function does with pure data to its call at read arguments. -/
theorem law_calls {f : FuncId} {fn : Func} {H : Type} {enc : TypeId × Value → H} {W : World} {args : Array Value} {ds gs : List (DataW H)} {before : List MemPlace} {s : ChangeSpec} {tb : TypeId} {xs : List PV}
    (hac : AC Try.prog f (xs.map .pv) [] (.pv (vbool true)) []) (hlen : args.size = xs.length) (hx : ∀ (i : Nat) (p : PV), xs[i]? = some p → PR W (fun _ => False) p (args.getD i undef))
    (hr : ∀ t ∈ fn.params.toList, Try.prog.readableRec t = true ∧ t < Try.prog.types.size)
    (hres : fn.resultTypes = #[tb]) (htb : Try.prog.underlying tb = some .bool) (hv : s.vars = []) (hfn : s.fn H ds = { results := [.lit (.bool true)], args := ds })
    (hW : DataW.Whole enc Try.prog fn.params.toList s.vars false W args.toList ds gs before) (hg : Glob W (fun _ => False)) :
    Calls Try.prog f args W fun e W' => ∃ v, e = .returned v ∧ s.post enc Try.prog fn false true false false W args v W' := by
  refine (hac.calls hg (by simpa using hlen) (fun i x e => ?_)).mono ?_
  · rw [List.getElem?_map] at e
    cases hp : xs[i]? with
    | none => rw [hp] at e; cases e
    | some p =>
      rw [hp] at e
      cases e
      exact .pv _ _ (hx i p hp)
  · rintro e W' ⟨v, rfl, hv2, hb⟩
    cases hv2
    exact ⟨_, rfl, law_post laidOut hr hres htb hv hfn hb hW⟩

end Go.Proofs.Ythelcfpfbnhcjaa

namespace Go.Abs

theorem bytesLess_iff : ∀ (x y : List UInt8), Op.bytesLess x y = true ↔ x < y
  | [], [] => by simp [Op.bytesLess]
  | [], _ :: _ => by simp [Op.bytesLess]
  | _ :: _, [] => by simp [Op.bytesLess]
  | a :: x, b :: y => by
    have ih := bytesLess_iff x y
    simp only [Op.bytesLess, List.cons_lt_cons_iff]
    by_cases h1 : a < b
    · simp [h1]
    · by_cases h2 : a = b
      · subst h2; simp [ih]
      · simp [h1, h2, ih]
        try (intro h3; exact h2 (UInt8.le_antisymm (UInt8.not_lt.1 h3) (UInt8.not_lt.1 h1)))

/-- < of strings -/
def sLt (a b : ByteArray) : Bool := Op.bytesLess a.toList b.toList

theorem sLt_iff {a b : ByteArray} : sLt a b = true ↔ a.data.toList < b.data.toList := by
  unfold sLt
  rw [bytesLess_iff, ByteArray.toList_eq, ByteArray.toList_eq]

theorem sLt_irrefl (a : ByteArray) : sLt a a = false := by
  rw [← Bool.not_eq_true, sLt_iff]
  exact List.lt_irrefl _

theorem sLt_trans {a b c : ByteArray} (h : sLt a b = true) (k : sLt b c = true) : sLt a c = true := by
  rw [sLt_iff] at *
  exact List.lt_trans h k

theorem sLt_asymm {a b : ByteArray} (h : sLt a b = true) : sLt b a = false := by
  rw [← Bool.not_eq_true]
  intro k
  have := sLt_trans h k
  rw [sLt_irrefl] at this; cases this

theorem sLt_total {a b : ByteArray} (h : a ≠ b) : sLt a b = true ∨ sLt b a = true := by
  rw [sLt_iff, sLt_iff]
  rcases Classical.em (a.data.toList < b.data.toList) with h1 | h1
  · exact .inl h1
  · rcases Classical.em (b.data.toList < a.data.toList) with h2 | h2
    · exact .inr h2
    · exfalso
      apply h
      have := List.le_antisymm (List.not_lt.1 h1) (List.not_lt.1 h2)
      cases a; cases b
      congr 1
      exact (Array.toList_inj.1 this).symm

end Go.Abs

namespace Go.Abs
open Go.Proofs
set_option maxRecDepth 10000

theorem keyLess_def (a b : Key) : keyLess a b = if a.dev ≠ b.dev then decide (a.dev < b.dev) else if a.cluster ≠ b.cluster then sLt a.cluster b.cluster else sLt a.attr b.attr := rfl

theorem keyLess_irrefl (a : Key) : keyLess a a = false := by
  rw [keyLess_def]; simp [sLt_irrefl]

theorem keyLess_total {a b : Key} (h : a ≠ b) : keyLess a b = true ∨ keyLess b a = true := by
  rw [keyLess_def, keyLess_def]
  by_cases h1 : a.dev = b.dev
  · by_cases h2 : a.cluster = b.cluster
    · by_cases h3 : a.attr = b.attr
      · exfalso; apply h; cases a; cases b; simp_all
      · simp [h1, h2]; exact sLt_total h3
    · simp [h1, h2, Ne.symm h2]; exact sLt_total h2
  · simp [h1, Ne.symm h1]; omega

theorem keyLess_trans {a b c : Key} (h : keyLess a b = true) (k : keyLess b c = true) : keyLess a c = true := by
  rw [keyLess_def] at *
  by_cases h1 : a.dev = b.dev <;> by_cases k1 : b.dev = c.dev
  · by_cases h2 : a.cluster = b.cluster <;> by_cases k2 : b.cluster = c.cluster
    · simp_all; exact sLt_trans h k
    · simp_all
    · have : a.cluster ≠ c.cluster := fun e => h2 (e.trans k2.symm)
      simp_all
    · have h3 : sLt a.cluster b.cluster = true := by simp_all
      have k3 : sLt b.cluster c.cluster = true := by simp_all
      have t := sLt_trans h3 k3
      have : a.cluster ≠ c.cluster := fun e => by rw [e, sLt_irrefl] at t; cases t
      simp [h1, k1, this]; exact t
  · simp [h1, k1] at h k ⊢; exact k
  · have : a.dev ≠ c.dev := fun e => h1 (e.trans k1.symm)
    simp [h1] at h
    simp [this]; omega
  · simp [h1] at h
    simp [k1] at k
    have : a.dev ≠ c.dev := by omega
    simp [this]; omega

theorem keyLess_asymm {a b : Key} (h : keyLess a b = true) : keyLess b a = false := by
  rw [← Bool.not_eq_true]
  intro k
  have := keyLess_trans h k
  rw [keyLess_irrefl] at this; cases this

theorem key_eq (a b : Key) : (decide (a.dev = b.dev) && (decide (a.cluster = b.cluster) && (decide (a.attr = b.attr) && true))) = decide (a = b) := by
  obtain ⟨a1, a2, a3⟩ := a
  obtain ⟨b1, b2, b3⟩ := b
  rw [Bool.eq_iff_iff]; simp

end Go.Abs

namespace Go.Abs
open Go.RowKit Go.Shelf Go.Sort
variable [Globals]

theorem grown_of_ext {w w' : World} (ho : w'.os = w.os) (ht : w'.tape = w.tape) (hp : w'.output = w.output) (hs : w.heap.size ≤ w'.heap.size) (hb : ∀ b, b < w.heap.size → w'.heap[b]? = w.heap[b]?) (hd : w.drawn ≤ w'.drawn) :
    ∃ q os', w' = grow (w.drewN q) os' := by
  refine ⟨w'.drawn - w.drawn, w'.heap.extract w.heap.size w'.heap.size, ?_⟩
  obtain ⟨heap, tape, drawn, os, output⟩ := w
  obtain ⟨heap', tape', drawn', os', output'⟩ := w'
  simp only at *
  subst ho; subst ht; subst hp
  simp only [grow, World.drewN, World.mk.injEq, true_and, and_true]
  refine ⟨?_, by omega⟩
  apply Array.ext_getElem?
  intro i
  rw [Array.getElem?_append]
  split
  · rename_i h; exact hb i h
  · rename_i h
    by_cases h2 : i < heap'.size
    · rw [Array.getElem?_extract]
      rw [if_pos (by omega)]
      congr 1; omega
    · rw [Array.getElem?_eq_none (by omega), Array.getElem?_eq_none (by simp; omega)]

section
variable {P : Program} {ρ : Ren} {α : Type} [Inhabited α]

theorem sortWorld_same {encV : α → List Value} {k : Nat} {M : Nat → Prop} {w : World} {b m : Nat} {dk : Array α} {os : Array Obj} (hb : M b) : Same M w (Proofs.sortWorldK encV k w b 0 m dk os) := by
  unfold Proofs.sortWorldK grow
  refine ⟨by simp [putRowK, Sort.ahead], fun c hc hm => ?_⟩
  have hne : b ≠ c := fun e => hm (e ▸ hb)
  show ((putRowK encV k (Sort.ahead w m) b 0 dk).heap ++ os)[c]? = _
  rw [Array.getElem?_append_left (by simp [putRowK, Sort.ahead]; exact hc)]
  simp only [putRowK, putRow, mapBlock, Sort.ahead]
  rw [Array.getElem?_modify]
  simp [hne]

theorem agg_vals {W : World} {M : Nat → Prop} {l : List Value} (h1 : ∀ v ∈ l, v.oneCell' = true) : PR W M (.agg (l.map .val)) (.agg l.toArray) := by
  refine .agg _ _ (by simp) (fun i p e => ?_) (fun i hi' => ?_)
  · rw [List.getElem?_map] at e
    cases hq : l[i]? with
    | none => rw [hq] at e; cases e
    | some q =>
      rw [hq] at e; cases e
      have : l.toArray.getD i undef = q := by simp [Array.getD_eq_getD_getElem?, hq]
      rw [this]; exact .val q
  · have hlt : i < l.length := by simpa using hi'
    have := h1 l[i] (List.getElem_mem hlt)
    simpa [Array.getD, hlt] using this

theorem two_args {W : World} {St M : Nat → Prop} {σ : Sig} {p q : PV} {u v : Value} (hu : PR W M p u) (hv : PR W M q v) : ∀ (i : Nat) (z : AV), [AV.pv p, AV.pv q][i]? = some z → AR P W St M σ z (#[u, v].getD i undef) := by
  intro i z e
  match i, e with
  | 0, e => cases e; exact .pv _ _ hu
  | 1, e => cases e; exact .pv _ _ hv
  | i + 2, e => simp at e

theorem ac_grown {g : FuncId} {p q : PV} {n : Int} (h : AC P g [.pv p, .pv q] [] (.pv (.val (.int .i64 n))) []) {M : Nat → Prop} {W : World} {u v : Value} (hM : ∀ b, M b → b < W.heap.size) (hG : Glob W M) (hu : PR W M p u) (hv : PR W M q v) :
    Calls P g #[u, v] W fun e w' => e = .returned (.int .i64 n) ∧ ∃ r os', w' = grow (W.drewN r) os' := by
  have hMo : ∀ b, Mof M (fun _ => none) b ↔ M b := fun b => ⟨fun h => h.elim id (fun ⟨l, loc, e, _⟩ => (by cases e)), fun h => .inl h⟩
  have hMe : Mof M (fun _ => none) = M := funext fun b => propext (hMo b)
  have hinv : Inv (fun _ => False) M (fun _ => none) W := by
    refine ⟨fun l l' loc loc' c e => (by cases e), fun c ⟨l, loc, e, _⟩ => (by cases e), fun c h => ⟨hM c h, fun ⟨l, loc, e, _⟩ => by cases e⟩, fun c h => h.elim, ?_⟩
    rw [hMe]; exact hG
  refine (h.2 (fun _ => False) M (fun _ => none) W #[u, v] hinv (fun _ _ => rfl) (fun l o e => by simp [getO] at e) rfl (two_args (by rw [hMe]; exact hu) (by rw [hMe]; exact hv))).mono (fun e w' he => ?_)
  obtain ⟨v, σ', rfl, hp⟩ := he
  have hv := pr_val (arg_pv hp.val)
  subst hv
  refine ⟨rfl, grown_of_ext hp.ext.os hp.ext.tape hp.ext.output hp.ext.size (fun c hc => hp.ext.block c hc ?_) hp.ext.drawn⟩
  rintro ⟨l, loc, h, _⟩
  exact h rfl

theorem cmpLays_of_ac {g : FuncId} {encV : α → List Value} {k : Nat} {cf : α → α → Int} (h1 : ∀ x, ∀ v ∈ encV x, v.oneCell' = true)
    (hg : ∀ x y, AC P g [.pv (.agg ((encV x).map .val)), .pv (.agg ((encV y).map .val))] [] (.pv (.val (.int .i64 (cf x y)))) [])
    {St M0 : Nat → Prop} {σ : Sig} {w : World} (hi : Inv St M0 σ w) {b size : Nat} (hb : owned σ b) : Proofs.CmpLays P g #[] encV k cf b 0 size w := by
  intro m os dk hdk x y
  have hsame : Same (Mof M0 σ) w (Proofs.sortWorldK encV k w b 0 m dk os) := sortWorld_same (.inr hb)
  rw [Array.append_empty]
  exact ac_grown (hg x y) (M := Mof M0 σ) (fun c h => Nat.lt_of_lt_of_le (h.elim (fun h => (hi.m0 c h).1) (hi.lt c)) hsame.1) (hi.gl.mono hsame (fun c _ h => h)) (agg_vals (h1 x)) (agg_vals (h1 y))

theorem sortWorld_ext {encV : α → List Value} {k : Nat} {w : World} {b n : Nat} {d : Array α} {os : Array Obj} : FExt (fun c => c = b) w (Proofs.sortWorldK encV k w b 0 n d os) := by
  refine ⟨rfl, rfl, rfl, by simp [Proofs.sortWorldK, grow, putRowK, Sort.ahead], fun c hc hne => ?_, by simp [Proofs.sortWorldK, grow, putRowK, putRow, mapBlock, Sort.ahead]⟩
  show ((putRowK encV k (Sort.ahead w n) b 0 d).heap ++ os)[c]? = _
  rw [Array.getElem?_append_left (by simp [putRowK, Sort.ahead]; exact hc)]
  simp only [putRowK, putRow, mapBlock, Sort.ahead]
  rw [Array.getElem?_modify]
  simp [Ne.symm hne]

theorem sortWorld_row {encV : α → List Value} {k : Nat} {w : World} {b n : Nat} {d : Array α} {os : Array Obj} {vs : Array Value} {t : TypeId} (hb : w.heap[b]? = some (.cells vs t (0, 0))) :
    (Proofs.sortWorldK encV k w b 0 n d os).heap[b]? = some (.cells (Sort.putCells id 0 (flatK encV k d) vs) t (0, 0)) := by
  have hlt := lt_of_block hb
  show ((putRowK encV k (Sort.ahead w n) b 0 d).heap ++ os)[b]? = _
  rw [Array.getElem?_append_left (by simp [putRowK, Sort.ahead]; exact hlt)]
  simp only [putRowK, putRow, mapBlock, Sort.ahead]
  rw [Array.getElem?_modify]
  simp [hb, onCells]

theorem AC.sortFunc (L : Proofs.SlLaysF0.n6 P ρ) (k : Nat) (aE : ∀ w, (isAgg (ρ.t 24)).run P w = .ok true w) (zE : ∀ w, (Go.sizeOf (ρ.t 24)).run P w = .ok k w) (encV : α → List Value) (hk : ∀ x, (encV x).length = k) (h1 : ∀ x, ∀ v ∈ encV x, v.oneCell' = true) (cf : α → α → Int) (hO : SWO (Proofs.ltOf cf)) (g : FuncId)
    (hg : ∀ x y, AC P g [.pv (.agg ((encV x).map .val)), .pv (.agg ((encV y).map .val))] [] (.pv (.val (.int .i64 (cf x y)))) []) (hT : ∀ x y, Proofs.ltOf cf x y = false → Proofs.ltOf cf y x = false → x = y)
    (hcall : ∀ (vals : Array Value) (w : World), (callFunc (ρ.f 6) vals).run P w = .ok (.enter (ρ.f 6) vals) w) (l : List α) (hl : l.length < 4611686018427387904) :
    AC P (ρ.f 6) [.own 0, .fn g []] [(0, .row k l.length fun i => (encV (l.getD i default)).map .val)] (.pv (.tup [])) [(0, .row k l.length fun i => (encV ((l.mergeSort fun x y => !(Proofs.ltOf cf) y x).getD i default)).map .val)] := by
  refine ⟨hcall, fun St M0 σ w vals hi hσ hos hsz hA => ?_⟩
  obtain ⟨loc, hloc, hor⟩ := hos 0 _ (by simp [getO]; rfl)
  have hv0 := arg_own (hA 0 (.own 0) rfl) hloc
  have hv1 := hA 1 (.fn g []) rfl
  have hvals : vals = #[vals.getD 0 undef, vals.getD 1 undef] := by
    have hs2 : vals.size = 2 := hsz
    apply Array.ext
    · simpa using hs2
    · intro i h2 h3
      have : i = 0 ∨ i = 1 := by omega
      rcases this with rfl | rfl <;> simp [Array.getD, hs2]
  have hfv : vals.getD 1 undef = .func (.func g) #[] #[] := by
    generalize vals.getD 1 undef = v at hv1
    cases hv1 with
    | fn f caps vs hlc _ =>
      have : vs = #[] := by simpa using hlc
      rw [this]
  rw [hvals, hv0, hfv]
  have done : ∀ w' : World, w' = w → l.length = 0 → ∃ v σ', Ending.returned (.tuple #[]) = .returned v ∧ Post P St M0 σ w [(0, .row k l.length fun i => (encV ((l.mergeSort fun x y => !(Proofs.ltOf cf) y x).getD i default)).map .val)] (.pv (.tup [])) σ' v w' := by
    rintro w' rfl hl0
    refine ⟨_, σ, rfl, Post.redo hi ⟨loc, hloc, ?_⟩ (.pv _ _ (.tup _ _ rfl fun i p e => by simp at e))⟩
    have h0 : l = [] := List.length_eq_zero_iff.1 hl0
    subst h0
    simpa using hor
  generalize hn0 : l.length = n0 at hor
  cases hor with
  | row0 _ _ a =>
    refine (Proofs.AnyF.slices_SortFunc_none L a 0 _ w).mono (fun e w' h => ?_)
    obtain ⟨rfl, hw⟩ := h
    have h5 := done w' hw hn0
    rw [hn0] at h5
    exact h5
  | row _ _ _ b cap vs t hb hn hmax hsz' hs hh hone =>
    subst hn0
    by_cases h0 : l.length = 0
    · have none' : ∀ n, n = 0 → Calls P (ρ.f 6) #[.slice (some ⟨b, 0, none⟩) n cap, .func (.func g) #[] #[]] w fun e w' => e = .returned (.tuple #[]) ∧ w' = w := by
        intro n hn
        rw [hn]
        exact Proofs.AnyF.slices_SortFunc_none L (some ⟨b, 0, none⟩) cap (.func (.func g) #[] #[]) w
      have := none' l.length h0
      refine this.mono (fun e w' h => ?_)
      obtain ⟨rfl, hw⟩ := h
      exact done w' hw h0
    · have hblk := lt_of_block hb
      have hget : ∀ j, j < l.length * k → vs.getD j undef = (flatK encV k l.toArray)[j]! := by
        intro j hj
        have k0 : 0 < k := by rcases Nat.eq_zero_or_pos k with h | h; · subst h; simp at hj
                              · exact h
        have hd : j / k < l.length := (Nat.div_lt_iff_lt_mul k0).2 hj
        have hm : j % k < (encV (l.getD (j / k) default)).length := by rw [hk]; exact Nat.mod_lt _ k0
        have hp := hh (j / k) hd (j % k) (.val ((encV (l.getD (j / k) default))[j % k]'hm)) (by simp [hm])
        have hp := pr_val hp
        rw [show j / k * k + j % k = j from by rw [Nat.mul_comm]; exact Nat.div_add_mod j k] at hp
        rw [hp, get_flatK _ _ _ _ (by simpa using hj)]
        have e1 : l.toArray[j / k]! = l.getD (j / k) default := by simp [List.getD, hd]
        rw [e1, getElem!_pos (encV (l.getD (j / k) default)) (j % k) hm]
      have hH : HoldsK encV k w b 0 l.toArray := by
        intro j hj
        have hj' : j < l.length * k := by simpa using hj
        have hlt : j < vs.size := by rw [hsz']; exact Nat.lt_of_lt_of_le hj' (Nat.mul_le_mul_right _ hn)
        refine ⟨?_, ?_⟩
        · rw [Nat.zero_add, id, ← hget j hj']
          simp [World.cell?, hb, Array.getD, hlt]
        · simp [World.frozen?, hb]
      have hown : owned σ b := ⟨0, _, hloc, rfl⟩
      have := Proofs.AnyQ.slices_SortFunc_total L k aE zE encV hk h1 cf hO g #[] b 0 cap l.toArray w (hg default default).1 (cmpLays_of_ac h1 hg hi hown) hH hblk (by simpa using hl) hT
      have e0 : (l.toArray).size = l.length := by simp
      rw [e0] at this
      refine this.mono ?_
      rintro e w' ⟨rfl, n, os, rfl⟩
      have hx := sortWorld_ext (encV := encV) (k := k) (w := w) (b := b) (n := n) (d := (l.toArray.toList.mergeSort fun x y => !(Proofs.ltOf cf) y x).toArray) (os := os)
      have hrow := sortWorld_row (encV := encV) (k := k) (w := w) (b := b) (n := n) (d := (l.toArray.toList.mergeSort fun x y => !(Proofs.ltOf cf) y x).toArray) (os := os) hb
      have hlm : (l.mergeSort fun x y => !(Proofs.ltOf cf) y x).length = l.length := List.length_mergeSort _
      refine ⟨_, σ, rfl, Post.upd hi hloc rfl hx (by simp) (.row _ _ _ b cap _ t hrow hn hmax (by simp [Sort.putCells, hsz']) (fun i hi' => by simp [hk]) (fun i hi' j p e => ?_) (fun i hi' => ?_)) (.pv _ _ (.tup _ _ rfl fun i p e => by simp at e))⟩
      · rw [List.getElem?_map] at e
        cases hq : (encV ((l.mergeSort fun x y => !(Proofs.ltOf cf) y x).getD i default))[j]? with
        | none => rw [hq] at e; cases e
        | some q =>
          rw [hq] at e; cases e
          have hj : j < k := by have := (List.getElem?_eq_some_iff.1 hq).1; rwa [hk] at this
          have hlt : i * k + j < l.length * k := idx_lt hi' hj
          have hltv : i * k + j < vs.size := by rw [hsz']; exact Nat.lt_of_lt_of_le hlt (Nat.mul_le_mul_right _ hn)
          have : (Sort.putCells id 0 (flatK encV k (l.toArray.toList.mergeSort fun x y => !(Proofs.ltOf cf) y x).toArray) vs).getD (i * k + j) undef = q := by
            simp only [Sort.putCells, Array.getD, Array.size_mapIdx, hltv, dif_pos, Array.getInternal_eq_getElem, Array.getElem_mapIdx]
            rw [if_pos (by simp [hlm]; exact hlt)]
            rw [Nat.sub_zero, id, get_flatK _ _ _ _ (by simp [hlm]; exact hlt)]
            have e1 : (i * k + j) / k = i := by rw [Nat.add_comm, Nat.add_mul_div_right _ _ (by omega), Nat.div_eq_of_lt hj, Nat.zero_add]
            have e2 : (i * k + j) % k = j := by rw [Nat.add_comm, Nat.add_mul_mod_self_right, Nat.mod_eq_of_lt hj]
            rw [e1, e2]
            have e3 : (l.toArray.toList.mergeSort fun x y => !(Proofs.ltOf cf) y x).toArray[i]! = (l.mergeSort fun x y => !(Proofs.ltOf cf) y x).getD i default := by
              have : i < (l.mergeSort fun x y => !(Proofs.ltOf cf) y x).length := by omega
              simp [List.getD, this]
            rw [e3]
            have hj2 := (List.getElem?_eq_some_iff.1 hq)
            obtain ⟨h3, h4⟩ := hj2
            rw [getElem!_pos (encV ((l.mergeSort fun x y => !(Proofs.ltOf cf) y x).getD i default)) j h3, h4]
          rw [this]; exact .val q
      · have hltv : i < vs.size := by simpa [Sort.putCells] using hi'
        simp only [Sort.putCells, Array.getD, Array.size_mapIdx, hltv, dif_pos, Array.getInternal_eq_getElem, Array.getElem_mapIdx]
        split
        · rename_i hc
          have hf : i - 0 < (flatK encV k (l.toArray.toList.mergeSort fun x y => !(Proofs.ltOf cf) y x).toArray).size := by
            have := hc.2
            simp only [Nat.zero_add, Nat.sub_zero] at this ⊢
            exact this
          have k0 : 0 < k := by rcases Nat.eq_zero_or_pos k with h | h; · subst h; simp at hf
                                · exact h
          rw [id, get_flatK _ _ _ _ (by simpa using hf)]
          have hm : (i - 0) % k < (encV (l.toArray.toList.mergeSort fun x y => !(Proofs.ltOf cf) y x).toArray[(i - 0) / k]!).length := by rw [hk]; exact Nat.mod_lt _ k0
          rw [getElem!_pos (encV (l.toArray.toList.mergeSort fun x y => !(Proofs.ltOf cf) y x).toArray[(i - 0) / k]!) ((i - 0) % k) hm]
          exact h1 _ _ (List.getElem_mem hm)
        · have := hone i hltv
          simpa [Array.getD, hltv] using this
end

end Go.Abs

namespace Go.Abs

theorem getD_getElem {α : Type} (l : List α) {i : Nat} (d : α) (h : i < l.length) : l.getD i d = l[i] := by simp [List.getD, h]

def Asc (l : List Key) : Prop := l.Pairwise fun a b => keyLess a b = true

theorem asc_ext : ∀ {l k : List Key}, Asc l → Asc k → (∀ x, x ∈ l ↔ x ∈ k) → l = k
  | [], [], _, _, _ => rfl
  | [], b :: k, _, _, h => by have := (h b).2 (by simp); simp at this
  | a :: l, [], _, _, h => by have := (h a).1 (by simp); simp at this
  | a :: l, b :: k, hl, hk, h => by
    obtain ⟨hl1, hl2⟩ := List.pairwise_cons.1 hl
    obtain ⟨hk1, hk2⟩ := List.pairwise_cons.1 hk
    have e : a = b := by
      have h1 := (h a).1 (by simp)
      have h2 := (h b).2 (by simp)
      rcases List.mem_cons.1 h1 with e | h1
      · exact e
      · rcases List.mem_cons.1 h2 with e | h2
        · exact e.symm
        · have := keyLess_asymm (hl1 b h2)
          rw [hk1 a h1] at this; cases this
    subst e
    congr 1
    refine asc_ext hl2 hk2 fun x => ⟨fun hx => ?_, fun hx => ?_⟩
    · rcases List.mem_cons.1 ((h x).1 (by simp [hx])) with e | h1
      · subst e; have := hl1 x hx; rw [keyLess_irrefl] at this; cases this
      · exact h1
    · rcases List.mem_cons.1 ((h x).2 (by simp [hx])) with e | h1
      · subst e; have := hk1 x hx; rw [keyLess_irrefl] at this; cases this
      · exact h1

/-- homehubref22.Put -/
def putK : List Key → Key → List Key
  | [], k => [k]
  | x :: r, k => if keyLess x k = true then x :: putK r k else k :: (x :: r).filter fun y => decide (y ≠ k)

theorem mem_putK {l : List Key} {k x : Key} : x ∈ putK l k ↔ x = k ∨ x ∈ l := by
  induction l with
  | nil => simp [putK]
  | cons y r ih =>
    unfold putK
    split
    · simp only [List.mem_cons, ih]
      constructor
      · rintro (h | h | h)
        · exact .inr (.inl h)
        · exact .inl h
        · exact .inr (.inr h)
      · rintro (h | h | h)
        · exact .inr (.inl h)
        · exact .inl h
        · exact .inr (.inr h)
    · simp only [List.mem_cons, List.mem_filter, decide_eq_true_eq]
      constructor
      · rintro (h | ⟨h, _⟩)
        · exact .inl h
        · exact .inr h
      · rintro (h | h)
        · exact .inl h
        · by_cases e : x = k
          · exact .inl e
          · exact .inr ⟨h, e⟩

theorem asc_putK {l : List Key} {k : Key} (h : Asc l) : Asc (putK l k) := by
  induction l with
  | nil => simp [putK, Asc]
  | cons y r ih =>
    obtain ⟨h1, h2⟩ := List.pairwise_cons.1 h
    unfold putK
    split
    · rename_i hy
      refine List.pairwise_cons.2 ⟨fun x hx => ?_, ih h2⟩
      rcases mem_putK.1 hx with rfl | hx
      · exact hy
      · exact h1 x hx
    · rename_i hy
      refine List.pairwise_cons.2 ⟨fun x hx => ?_, h.sublist (List.filter_sublist)⟩
      rw [List.mem_filter, decide_eq_true_eq] at hx
      obtain ⟨hx, hne⟩ := hx
      rcases List.mem_cons.1 hx with rfl | hx
      · exact (keyLess_total hne).resolve_left hy
      · have h3 := h1 x hx
        rcases keyLess_total hne with h4 | h4
        · exact absurd (keyLess_trans h3 h4) hy
        · exact h4

/-- keys in ascending order, each once -/
def sortK (l : List Key) : List Key := l.foldl putK []

theorem foldl_putK_mem {l acc : List Key} {x : Key} : x ∈ l.foldl putK acc ↔ x ∈ acc ∨ x ∈ l := by
  induction l generalizing acc with
  | nil => simp
  | cons y r ih =>
    simp only [List.foldl_cons, ih, mem_putK, List.mem_cons]
    constructor
    · rintro ((h | h) | h)
      · exact .inr (.inl h)
      · exact .inl h
      · exact .inr (.inr h)
    · rintro (h | h | h)
      · exact .inl (.inr h)
      · exact .inl (.inl h)
      · exact .inr h

theorem foldl_putK_asc {l acc : List Key} (h : Asc acc) : Asc (l.foldl putK acc) := by
  induction l generalizing acc with
  | nil => exact h
  | cons y r ih => exact ih (asc_putK h)

theorem mem_sortK {l : List Key} {x : Key} : x ∈ sortK l ↔ x ∈ l := by unfold sortK; rw [foldl_putK_mem]; simp
theorem asc_sortK (l : List Key) : Asc (sortK l) := foldl_putK_asc List.Pairwise.nil
theorem sortK_congr {l k : List Key} (h : ∀ x, x ∈ l ↔ x ∈ k) : sortK l = sortK k := asc_ext (asc_sortK l) (asc_sortK k) fun x => by rw [mem_sortK, mem_sortK, h]
theorem sortK_asc {l : List Key} (h : Asc l) : sortK l = l := asc_ext (asc_sortK l) h fun x => mem_sortK
theorem Asc.nodup {l : List Key} (h : Asc l) : l.Nodup := by
  refine List.Pairwise.imp (fun {a b} hab => ?_) h
  intro e; subst e; rw [keyLess_irrefl] at hab; cases hab
theorem putK_length (l : List Key) (k : Key) : (putK l k).length ≤ l.length + 1 := by
  induction l with
  | nil => simp [putK]
  | cons y r ih =>
    unfold putK
    split
    · simp only [List.length_cons]; omega
    · simp only [List.length_cons]
      have := List.length_filter_le (fun z => decide (z ≠ k)) (y :: r)
      simp only [List.length_cons] at this
      omega
theorem foldl_putK_length {l acc : List Key} : (l.foldl putK acc).length ≤ acc.length + l.length := by
  induction l generalizing acc with
  | nil => simp
  | cons y r ih =>
    have h1 := ih (acc := putK acc y)
    have h2 := putK_length acc y
    simp only [List.foldl_cons, List.length_cons]; omega
theorem sortK_length (l : List Key) : (sortK l).length ≤ l.length := by
  have := foldl_putK_length (l := l) (acc := [])
  simpa [sortK] using this

/-- one of each run of equal ones, of the first m -/
def compTo (l : List Key) : Nat → List Key
  | 0 => []
  | m + 1 => if m = 0 ∨ l.getD m default ≠ l.getD (m - 1) default then compTo l m ++ [l.getD m default] else compTo l m

theorem compTo_length (l : List Key) : ∀ m, (compTo l m).length ≤ m
  | 0 => Nat.le_refl _
  | m + 1 => by
    have := compTo_length l m
    unfold compTo
    split
    · simp; omega
    · omega

theorem compTo_take {l : List Key} : ∀ {m : Nat}, m ≤ l.length → (∀ j, 1 ≤ j → j < m → l.getD j default ≠ l.getD (j - 1) default) → compTo l m = l.take m
  | 0, _, _ => by simp [compTo]
  | m + 1, hm, h => by
    have ih := compTo_take (l := l) (m := m) (by omega) (fun j h1 h2 => h j h1 (by omega))
    unfold compTo
    rw [if_pos, ih, take_succ_getD (by omega)]
    by_cases e : m = 0
    · exact .inl e
    · exact .inr (h m (by omega) (by omega))

/-- in order, equal ones allowed -/
def Ord (l : List Key) : Prop := ∀ i j, i < j → j < l.length → keyLess (l.getD j default) (l.getD i default) = false

theorem compTo_spec {s : List Key} (hs : Ord s) : ∀ m, m ≤ s.length → Asc (compTo s m) ∧ ∀ x, x ∈ compTo s m ↔ ∃ i, i < m ∧ s.getD i default = x
  | 0, _ => ⟨List.Pairwise.nil, fun x => by simp [compTo]⟩
  | m + 1, hm => by
    obtain ⟨h1, h2⟩ := compTo_spec hs m (by omega)
    unfold compTo
    split
    · rename_i hne
      refine ⟨List.pairwise_append.2 ⟨h1, by simp, fun a ha b hb => ?_⟩, fun x => ?_⟩
      · simp only [List.mem_singleton] at hb
        subst hb
        obtain ⟨i, hi, rfl⟩ := (h2 a).1 ha
        have hle := hs i m hi (by omega)
        by_cases e : s.getD i default = s.getD m default
        · exfalso
          have hne := hne.resolve_left (by omega)
          have h3 := hs (m - 1) m (by omega) (by omega)
          have h4 : keyLess (s.getD (m - 1) default) (s.getD m default) = false := by
            by_cases ei : i = m - 1
            · subst ei; rw [e]; exact keyLess_irrefl _
            · rw [← e]; exact hs i (m - 1) (by omega) (by omega)
          rcases keyLess_total hne with h5 | h5
          · rw [h5] at h3; cases h3
          · rw [h5] at h4; cases h4
        · rcases keyLess_total e with h5 | h5
          · exact h5
          · rw [h5] at hle; cases hle
      · rw [List.mem_append, h2, List.mem_singleton]
        constructor
        · rintro (⟨i, hi, e⟩ | e)
          · exact ⟨i, by omega, e⟩
          · exact ⟨m, by omega, e.symm⟩
        · rintro ⟨i, hi, e⟩
          by_cases ei : i = m
          · subst ei; exact .inr e.symm
          · exact .inl ⟨i, by omega, e⟩
    · rename_i hne
      have hne := not_or.1 hne
      have heq := Classical.not_not.1 hne.2
      refine ⟨h1, fun x => ?_⟩
      rw [h2]
      constructor
      · rintro ⟨i, hi, e⟩; exact ⟨i, by omega, e⟩
      · rintro ⟨i, hi, e⟩
        by_cases ei : i = m
        · subst ei; exact ⟨i - 1, by omega, by rw [← heq]; exact e⟩
        · exact ⟨i, by omega, e⟩

def sortedK (l : List Key) : List Key := l.mergeSort fun x y => !keyLess y x

theorem sortedK_ord (l : List Key) : Ord (sortedK l) := by
  have hp := List.pairwise_mergeSort (le := fun x y : Key => !keyLess y x) (fun a b c h1 h2 => by
    simp only [Bool.not_eq_true'] at *
    cases h3 : keyLess c a with
    | false => rfl
    | true =>
      exfalso
      by_cases e : a = b
      · subst e; rw [h3] at h2; cases h2
      · rcases keyLess_total e with h4 | h4
        · have := keyLess_trans h3 h4; rw [this] at h2; cases h2
        · rw [h4] at h1; cases h1) (fun a b => by
    simp only [Bool.or_eq_true, Bool.not_eq_true']
    cases h : keyLess b a with
    | false => exact .inl rfl
    | true => exact .inr (keyLess_asymm h)) l
  intro i j hij hj
  have hj' : j < (l.mergeSort fun x y => !keyLess y x).length := hj
  have := List.pairwise_iff_getElem.1 hp i j (by omega) hj' hij
  simp only [Bool.not_eq_true'] at this
  unfold sortedK
  rw [getD_getElem _ _ hj', getD_getElem _ _ (show i < (l.mergeSort fun x y => !keyLess y x).length from by omega)]
  exact this

theorem sortedK_length (l : List Key) : (sortedK l).length = l.length := List.length_mergeSort _

theorem comp_sorted (l : List Key) : compTo (sortedK l) l.length = sortK l := by
  obtain ⟨h1, h2⟩ := compTo_spec (sortedK_ord l) l.length (by rw [sortedK_length]; exact Nat.le_refl _)
  refine asc_ext h1 (asc_sortK l) fun x => ?_
  rw [h2, mem_sortK, ← List.mem_mergeSort (le := fun x y => !keyLess y x)]
  show _ ↔ x ∈ sortedK l
  rw [List.mem_iff_getElem]
  constructor
  · rintro ⟨i, hi, e⟩
    exact ⟨i, by rw [sortedK_length]; exact hi, by simpa [List.getD, show i < (sortedK l).length from by rw [sortedK_length]; exact hi] using e⟩
  · rintro ⟨i, hi, e⟩
    exact ⟨i, by rwa [sortedK_length] at hi, by simp [List.getD, hi, e]⟩

theorem sortedK_asc {l : List Key} (h : l.Nodup) : sortedK l = sortK l := by
  have hn : (sortedK l).Nodup := (List.mergeSort_perm l _).nodup_iff.2 h
  rw [← comp_sorted l, compTo_take (by rw [sortedK_length]; exact Nat.le_refl _), ← sortedK_length l, List.take_length]
  intro j h1 h2
  have h3 : j < (sortedK l).length := by rw [sortedK_length]; exact h2
  intro e
  have h5 : j - 1 < (sortedK l).length := by omega
  rw [getD_getElem _ _ h3, getD_getElem _ _ h5] at e
  have := List.pairwise_iff_getElem.1 hn (j - 1) j h5 h3 (by omega)
  exact this e.symm

/-! How slices.SortFunc compares. -/
def cmpK (a b : Key) : Int := if keyLess a b = true then -1 else if keyLess b a = true then 1 else 0

theorem ltOf_cmpK (a b : Key) : Proofs.ltOf cmpK a b = keyLess a b := by
  unfold Proofs.ltOf cmpK
  by_cases h : keyLess a b = true
  · simp [h]
  · by_cases h2 : keyLess b a = true <;> simp [h, h2]

theorem swo_cmpK : Sort.SWO (Proofs.ltOf cmpK) := by
  refine ⟨fun x => by rw [ltOf_cmpK]; exact keyLess_irrefl x, fun x y z h1 h2 => ?_, fun x y z h1 h2 => ?_⟩
  · rw [ltOf_cmpK] at *; exact keyLess_trans h1 h2
  · rw [ltOf_cmpK] at *
    cases h3 : keyLess x z with
    | false => rfl
    | true =>
      exfalso
      by_cases e : y = x
      · subst e; rw [h3] at h2; cases h2
      · rcases keyLess_total e with h4 | h4
        · have := keyLess_trans h4 h3; rw [this] at h2; cases h2
        · rw [h4] at h1; cases h1

theorem parts_cmpK (a b : Key) (h1 : Proofs.ltOf cmpK a b = false) (h2 : Proofs.ltOf cmpK b a = false) : a = b := by
  rw [ltOf_cmpK] at *
  rcases Classical.em (a = b) with e | e
  · exact e
  · rcases keyLess_total e with h | h
    · rw [h] at h1; cases h1
    · rw [h] at h2; cases h2

def vKey (k : Key) : List Value := [.int .i64 k.dev, .string k.cluster, .string k.attr]
theorem vKey_cells (k : Key) : (vKey k).map .val = cKey k := rfl
theorem sortedK_eq (l : List Key) : (l.mergeSort fun x y => !(Proofs.ltOf cmpK) y x) = sortedK l := by
  have : (fun x y : Key => !(Proofs.ltOf cmpK) y x) = fun x y => !keyLess y x := funext fun x => funext fun y => by rw [ltOf_cmpK]
  rw [sortedK, this]

end Go.Abs

namespace Go.Abs
variable [Globals]

structure Scene where
  name : ByteArray
  items : List Item
  deriving Inhabited, DecidableEq
structure Cause where
  kind : Int
  name : ByteArray
  prio : Int
  deriving Inhabited, DecidableEq
structure Write where
  key : Key
  value : Val
  cause : Cause
  order : Int
  deriving Inhabited, DecidableEq

def cSce (s : Scene) : List PV := [vstr s.name, roL 7 cItem s.items]
def cCause (c : Cause) : List PV := [vint c.kind, vstr c.name, vint c.prio]
def cWrite (w : Write) : List PV := cKey w.key ++ (cVal w.value ++ (cCause w.cause ++ [vint w.order]))
def noScene : Scene := ⟨⟨#[]⟩, []⟩

theorem firstI_cases {n : Nat} {p : Nat → Bool} : (firstI n p < n ∧ p (firstI n p) = true ∧ ∀ j, j < firstI n p → p j = false) ∨ (firstI n p = n ∧ ∀ j, j < n → p j = false) := by
  unfold firstI
  split
  · rename_i i e
    rw [List.find?_range_eq_some] at e
    exact .inl ⟨by simpa using e.2.1, e.1, fun j hj => by simpa using e.2.2 j hj⟩
  · rename_i e
    rw [List.find?_eq_none] at e
    exact .inr ⟨rfl, fun j hj => by simpa using e j (by simpa using hj)⟩

/-- the first item with a key -/
def findI (l : List Item) (q : Key) : Option Item := l.find? fun x => decide (x.key = q)

theorem findI_eq (l : List Item) (q : Key) : findI l q = if itemAt l q < l.length then some (l.getD (itemAt l q) default) else none := by
  unfold findI itemAt
  rcases firstI_cases (n := l.length) (p := fun i => decide ((l.getD i default).key = q)) with ⟨h1, h2, h3⟩ | ⟨h1, h2⟩
  · rw [if_pos h1, getD_getElem _ _ h1, List.find?_eq_some_iff_getElem]
    rw [getD_getElem _ _ h1] at h2
    refine ⟨h2, _, h1, rfl, fun j hj => ?_⟩
    have := h3 j hj
    rw [getD_getElem _ _ (by omega)] at this
    simpa using this
  · rw [if_neg (by omega), List.find?_eq_none]
    intro x hx
    obtain ⟨i, hi, rfl⟩ := List.getElem_of_mem hx
    have := h2 i hi
    rw [getD_getElem _ _ hi] at this
    simpa using this

theorem itemAt_isSome (l : List Item) (q : Key) : decide (itemAt l q < l.length) = (findI l q).isSome := by
  rw [findI_eq]; split <;> simp_all
theorem getI_find (l : List Item) (q : Key) : getI l q = (findI l q).getD noItem := by
  rw [getI, findI_eq]; split <;> rfl

theorem findI_take {l : List Item} {k : Nat} {q : Key} (hk : k < l.length) : findI (l.take (k + 1)) q = match findI (l.take k) q with | some x => some x | none => if (l.getD k default).key = q then some (l.getD k default) else none := by
  unfold findI
  rw [take_succ_getD hk, List.find?_append]
  cases (l.take k).find? fun x => decide (x.key = q) with
  | some x => rfl
  | none =>
    simp only [List.find?_cons, List.find?_nil, Option.none_or]
    by_cases e : (l.getD k default).key = q
    · simp [e, -List.getD_eq_getElem?_getD]
    · simp [e, -List.getD_eq_getElem?_getD]

theorem findI_key {l : List Item} {q : Key} {x : Item} (h : findI l q = some x) : x.key = q := by
  unfold findI at h
  have := List.find?_some h
  simpa using this
theorem findI_mem {l : List Item} {q : Key} {x : Item} (h : findI l q = some x) : x ∈ l := List.mem_of_find?_eq_some h
theorem findI_some {l : List Item} {q : Key} : (findI l q).isSome = true ↔ ∃ x ∈ l, x.key = q := by
  unfold findI
  rw [List.find?_isSome]
  simp
theorem findI_none {l : List Item} {q : Key} : findI l q = none ↔ ∀ x ∈ l, x.key ≠ q := by
  unfold findI
  rw [List.find?_eq_none]
  simp

/-! Maps from keys to items. -/
abbrev KKey : KK := .agg [.int .i64, .str, .str]

theorem has_key {v : Value} (h : KKey.has v) : ∃ k : Key, v = .agg ⟨vKey k⟩ := by
  obtain ⟨vs, rfl, hs, hl⟩ := h
  obtain ⟨d, h0⟩ := hl 0 (.int .i64) rfl
  obtain ⟨c, h1⟩ := hl 1 .str rfl
  obtain ⟨a, h2⟩ := hl 2 .str rfl
  refine ⟨⟨d, c, a⟩, ?_⟩
  congr 1
  apply Array.ext
  · simpa [vKey] using hs
  · intro i hi1 hi2
    have h3 : i = 0 ∨ i = 1 ∨ i = 2 := by simp at hs; omega
    rcases h3 with rfl | rfl | rfl
    · simpa [Array.getD, hi1, vKey] using h0
    · simpa [Array.getD, hi1, vKey] using h1
    · simpa [Array.getD, hi1, vKey] using h2

def kOf : Value → Key
  | .agg ⟨[.int _ d, .string c, .string a]⟩ => ⟨d, c, a⟩
  | _ => default
theorem kOf_key (k : Key) : kOf (.agg ⟨vKey k⟩) = k := rfl
theorem vKey_inj {a b : Key} : (Value.agg ⟨vKey a⟩ = Value.agg ⟨vKey b⟩) ↔ a = b := by
  constructor
  · intro h
    have := congrArg kOf h
    simpa [kOf_key] using this
  · rintro rfl; rfl

def itemLook (f : Key → Option Item) : Value → Option PV := fun v => (f (kOf v)).map fun x => .agg (cItem x)
theorem itemLook_key (f : Key → Option Item) (k : Key) : itemLook f (.agg ⟨vKey k⟩) = (f k).map fun x => .agg (cItem x) := rfl

theorem lookPut_yes {look : Value → Option PV} {k k' : Value} {p : PV} (h : k' = k) : lookPut look k p k' = some p := by unfold lookPut; rw [if_pos h]
theorem lookPut_no {look : Value → Option PV} {k k' : Value} {p : PV} (h : k' ≠ k) : lookPut look k p k' = look k' := by unfold lookPut; rw [if_neg h]

/-! scene.Check -/
def sceE (H : Hom) (l : List Item) (i : Nat) : Int :=
  if (findA H (l.getD i default).key).isSome = false then 8 else if ((findA H (l.getD i default).key).getD noAttr).writable = false then 24
  else if fitsE ((findA H (l.getD i default).key).getD noAttr) (l.getD i default).value ≠ 0 then fitsE ((findA H (l.getD i default).key).getD noAttr) (l.getD i default).value
  else if (l.getD i default).version ≠ 0 then 2 else if 0 < i ∧ keyLess (l.getD (i - 1) default).key (l.getD i default).key = false then 14 else 0
def checkS (H : Hom) (s : Scene) : Int :=
  if homE H ≠ 0 then homE H else if validName s.name = false then 10 else if 256 < s.items.length then 3 else firstE s.items.length (sceE H s.items)

/-! scene.Capture -/
def capI (H : Hom) (l : List Item) (k : Key) : Option Item := match findA H k, findI l k with
  | some a, some x => if a.writable = true ∧ fitsE a x.value = 0 then some ⟨k, x.value, 0⟩ else none
  | _, _ => none
def capTo (H : Hom) (l : List Item) (ks : List Key) : List Item := ks.filterMap (capI H l)
def capSE (H : Hom) (name : ByteArray) : Int := if homE H ≠ 0 then homE H else if validName name = false then 10 else 0
def capS (H : Hom) (l : List Item) (name : ByteArray) (keys : List Key) : Scene := if capSE H name ≠ 0 then noScene else ⟨name, capTo H l (sortK keys)⟩

/-! scene.Apply -/
def applyS (s : Scene) (c : Cause) (n : Nat) : List Write := (List.range n).map fun i => ⟨(s.items.getD i default).key, (s.items.getD i default).value, c, i⟩

/-! scene.Differs, Undo, Join, Find -/
def difB (a b : Option Item) : Bool := match b with
  | none => true
  | some y => decide (y.value ≠ (a.getD noItem).value)
def difS (s l : List Item) : List Key := (sortK (s.map Item.key)).filter fun k => difB (findI s k) (findI l k)
def undoI (l : List Item) (x : Item) : Option Item := (findI l x.key).map fun y => ⟨y.key, y.value, 0⟩
def undoS (s : Scene) (l : List Item) : Scene := ⟨s.name, s.items.filterMap (undoI l)⟩
def joinI (a b : List Item) (k : Key) : Item := ((findI b k).getD ((findI a k).getD noItem))
def joinS (a b : Scene) : Scene := ⟨a.name, (sortK (a.items.map Item.key ++ b.items.map Item.key)).map (joinI a.items b.items)⟩
def sceAt (l : List Scene) (s : ByteArray) : Nat := firstI l.length fun i => decide ((l.getD i default).name = s)
def findS (l : List Scene) (s : ByteArray) : Scene := if sceAt l s < l.length then l.getD (sceAt l s) default else noScene

end Go.Abs

namespace Go.Abs
open Go.Proofs Go.RowKit

section
variable {H : Type} {enc : TypeId × Value → H} {w : World} {bulk : DataW H → Nat}

theorem op_l_Key (hB : BulkOk bulk) : Opens enc Try.prog w bulk BB 35 (fun l : List Key => [roL 3 cKey l]) smallL :=
  (Opens.slice hB Try.underlying35 (by kernel_rfl) (by decide) (op_Key hB)).imp id (fun _ => rfl) (fun _ h => h.1)
theorem op_Scene (hB : BulkOk bulk) : Opens enc Try.prog w bulk BB 28 cSce (fun s => goodItems s.items) :=
  (Opens.struct hB Try.underlying28 (by kernel_rfl) (.cons (size := 1) rfl (by kernel_rfl) (op_string hB) (.cons (size := 1) rfl (by kernel_rfl) (op_l_Item hB) .nil))).imp (fun x => ⟨x.1, x.2.1⟩) (fun _ => rfl) (fun _ h => h.2.1)
theorem op_Cause (hB : BulkOk bulk) : Opens enc Try.prog w bulk BB 37 cCause (fun c => inI64 c.kind ∧ inI64 c.prio) :=
  (Opens.struct hB Try.underlying37 (by kernel_rfl) (.cons (size := 1) rfl (by kernel_rfl) op_int (.cons (size := 1) rfl (by kernel_rfl) (op_string hB) (.cons (size := 1) rfl (by kernel_rfl) op_int .nil)))).imp (fun x => ⟨x.1, x.2.1, x.2.2.1⟩) (fun _ => rfl) (fun _ h => ⟨h.1, h.2.2.1⟩)
end

end Go.Abs

namespace Go.Proofs
open Go.Shelf
def Try.sortKey_ren : Go.Shelf.Ren := ⟨fun | 6 => 79 | 15 => 101 | 14 => 100 | 28 => 116 | 29 => 117 | 20 => 108 | 21 => 109 | 22 => 110 | 23 => 111 | 24 => 112 | 25 => 113 | 26 => 114 | 27 => 115 | 46 => 123 | 47 => 124 | 48 => 125 | 49 => 126 | 50 => 127 | 57 => 132 | n => n, fun | 22 => 35 | 24 => 56 | 25 => 125 | 3 => 3 | 39 => 142 | 0 => 0 | 53 => 155 | 55 => 73 | 4 => 4 | 46 => 148 | 45 => 147 | 50 => 152 | 5 => 5 | 9 => 9 | 66 => 161 | 70 => 165 | 76 => 170 | 77 => 171 | n => n, fun | n => n⟩
theorem Try.sortKey : Go.Proofs.SlLaysF0.n6 Try.prog Try.sortKey_ren := {
  mixed := by kernel_rfl
  f6 := ⟨Try.f79.name, by decide, Try.func79.trans (congrArg some (by kernel_rfl))⟩
  f14 := ⟨Try.f100.name, by decide, Try.func100.trans (congrArg some (by kernel_rfl))⟩
  f15 := Try.func101.trans (congrArg some (by kernel_rfl))
  f20 := ⟨Try.f108.name, by decide, Try.func108.trans (congrArg some (by kernel_rfl))⟩
  f21 := ⟨Try.f109.name, by decide, Try.func109.trans (congrArg some (by kernel_rfl))⟩
  f22 := ⟨Try.f110.name, by decide, Try.func110.trans (congrArg some (by kernel_rfl))⟩
  f23 := ⟨Try.f111.name, by decide, Try.func111.trans (congrArg some (by kernel_rfl))⟩
  f24 := ⟨Try.f112.name, by decide, Try.func112.trans (congrArg some (by kernel_rfl))⟩
  f25 := ⟨Try.f113.name, by decide, Try.func113.trans (congrArg some (by kernel_rfl))⟩
  f26 := ⟨Try.f114.name, by decide, Try.func114.trans (congrArg some (by kernel_rfl))⟩
  f27 := ⟨Try.f115.name, by decide, Try.func115.trans (congrArg some (by kernel_rfl))⟩
  f28 := Try.func116.trans (congrArg some (by kernel_rfl))
  f29 := Try.func117.trans (congrArg some (by kernel_rfl))
  f46 := ⟨Try.f123.name, by decide, Try.func123.trans (congrArg some (by kernel_rfl))⟩
  f47 := Try.func124.trans (congrArg some (by kernel_rfl))
  f48 := Try.func125.trans (congrArg some (by kernel_rfl))
  f49 := ⟨Try.f126.name, by decide, Try.func126.trans (congrArg some (by kernel_rfl))⟩
  f50 := ⟨Try.f127.name, by decide, Try.func127.trans (congrArg some (by kernel_rfl))⟩
  f57 := ⟨Try.f132.name, by decide, Try.func132.trans (congrArg some (by kernel_rfl))⟩
  t0 := Try.underlying0
  a0 := Try.isAgg0
  z0 := Try.sizeOf0
  v0 := Try.zeroValue0
  t3 := Try.underlying3
  a3 := Try.isAgg3
  z3 := Try.sizeOf3
  v3 := Try.zeroValue3
  t4 := Try.underlying4
  a4 := Try.isAgg4
  z4 := Try.sizeOf4
  v4 := Try.zeroValue4
  t5 := Try.underlying5
  a5 := Try.isAgg5
  z5 := Try.sizeOf5
  v5 := Try.zeroValue5
  t9 := Try.underlying9
  a9 := Try.isAgg9
  z9 := Try.sizeOf9
  v9 := Try.zeroValue9
  t22 := Try.underlying35
  a22 := Try.isAgg35
  z22 := Try.sizeOf35
  v22 := Try.zeroValue35
  t25 := Try.underlying125
  a25 := Try.isAgg125
  z25 := Try.sizeOf125
  v25 := Try.zeroValue125
  t39 := Try.underlying142
  a39 := Try.isAgg142
  z39 := Try.sizeOf142
  v39 := Try.zeroValue142
  t45 := Try.underlying147
  a45 := Try.isAgg147
  z45 := Try.sizeOf147
  v45 := Try.zeroValue147
  t46 := Try.underlying148
  a46 := Try.isAgg148
  z46 := Try.sizeOf148
  v46 := Try.zeroValue148
  t50 := Try.underlying152
  a50 := Try.isAgg152
  z50 := Try.sizeOf152
  v50 := Try.zeroValue152
  t53 := Try.underlying155
  a53 := Try.isAgg155
  z53 := Try.sizeOf155
  v53 := Try.zeroValue155
  t55 := Try.underlying73
  a55 := Try.isAgg73
  z55 := Try.sizeOf73
  v55 := Try.zeroValue73
  t66 := Try.underlying161
  a66 := Try.isAgg161
  z66 := Try.sizeOf161
  v66 := Try.zeroValue161
  t70 := Try.underlying165
  a70 := Try.isAgg165
  z70 := Try.sizeOf165
  v70 := Try.zeroValue165
  t76 := Try.underlying170
  a76 := Try.isAgg170
  z76 := Try.sizeOf170
  v76 := Try.zeroValue170
  t77 := Try.underlying171
  a77 := Try.isAgg171
  z77 := Try.sizeOf171
  v77 := Try.zeroValue171 }
end Go.Proofs

namespace Go.Abs
open Go.Proofs
set_option maxRecDepth 10000

theorem ac_scene_compare (a b : Key) : AC Try.prog 80 [.pv (.agg (cKey a)), .pv (.agg (cKey b))] [] (.pv (vint (cmpK a b))) [] := by
  refine AC.of_awp (T := T) T_ok hm Try.call80 Try.func80 rfl rfl rfl ?_
  conv => whnf
  repeat (any_goals (first
    | (refine ⟨fun (h : (_ : Bool) = true) => ?_, fun (h : (_ : Bool) = false) => ?_⟩ <;> (try simp only [decide_eq_true_eq, decide_eq_false_iff_not, Bool.not_eq_true', Bool.not_eq_false', Int.toNat_natCast, beq_iff_eq, decide_eq_decide, beq_eq_false_iff_ne, ne_eq, reduceCtorEq] at h) <;> (conv => whnf))
    | (refine .inl ⟨_, ac_device_Less a b, ?_⟩; conv => whnf)
    | (refine .inl ⟨_, ac_device_Less b a, ?_⟩; conv => whnf)
    | (refine And.intro (by (try simp only [Int.toNat_natCast]); omega) ?_; conv => whnf)
    | (refine And.intro (show (_ : Bool) = true from by kernel_rfl) ?_; conv => whnf)
    | (refine .inl ⟨wrap64 (by omega), ?_⟩; conv => whnf)))
  all_goals (try simp only [decide_eq_true_eq, decide_eq_false_iff_not, Bool.not_eq_true', Bool.not_eq_false', Int.toNat_natCast, beq_iff_eq, decide_eq_decide, beq_eq_false_iff_ne, ne_eq, reduceCtorEq] at *)
  all_goals first
    | contradiction
    | (exfalso; omega)
    | exact PSub.rfl
    | (refine PSub.int ?_; simp only [cmpK]; (repeat' split) <;> first | rfl | omega | (simp_all [-List.getD_eq_getElem?_getD]; done) | (simp_all [-List.getD_eq_getElem?_getD]; omega))
    | (refine PSub.sb ?_; simp_all [cmpK, -List.getD_eq_getElem?_getD]; done)
    | (refine PSub.lit_sb ?_; simp_all [cmpK, -List.getD_eq_getElem?_getD]; done)
    | (refine PSub.sb_lit ?_; simp_all [cmpK, -List.getD_eq_getElem?_getD]; done)
    | (refine PSub.sb ?_; rw [Bool.eq_iff_iff]; simp_all [cmpK, -List.getD_eq_getElem?_getD]; done)
    | (refine PSub.lit_sb ?_; rw [Bool.eq_iff_iff]; simp_all [cmpK, -List.getD_eq_getElem?_getD]; done)
    | (refine PSub.sb_lit ?_; rw [Bool.eq_iff_iff]; simp_all [cmpK, -List.getD_eq_getElem?_getD]; done)
    | skip

theorem ac_slices_SortFunc_Key (g : FuncId) (hg : ∀ a b, AC Try.prog g [.pv (.agg (cKey a)), .pv (.agg (cKey b))] [] (.pv (vint (cmpK a b))) []) (l : List Key) (hl : l.length ≤ 8388608) :
    AC Try.prog 79 [.own 0, .fn g []] [(0, rowL 3 cKey l)] (.pv (.tup [])) [(0, rowL 3 cKey (sortedK l))] := by
  have := AC.sortFunc (α := Key) Try.sortKey 3 Try.isAgg56 Try.sizeOf56 vKey (fun _ => rfl) (fun x v hv => by simp [vKey] at hv; rcases hv with rfl | rfl | rfl <;> rfl) cmpK swo_cmpK g hg parts_cmpK Try.call79 l (by omega)
  rw [sortedK_eq] at this
  unfold rowL
  rw [sortedK_length]
  exact this

theorem ac_slices_Clone_Key (n : Nat) (g : Nat → List PV) (hn : n ≤ 8388608) : AC Try.prog 78 [.pv (.ro 3 n g)] [] (.own 0) [(0, .row 3 n g)] := by
  refine AC.nil_split (pre := []) (post := []) ?_ (fun h => ?_)
  · refine AC.of_awp_own (T := T) T_ok hm Try.call78 Try.func78 rfl rfl rfl ?_
    conv => whnf
    refine ⟨by omega, ?_⟩
    conv => whnf
    exact ⟨by omega, fun i hi => by simpa using PSubs.rfl⟩
  · refine AC.of_awp_own (T := T) T_ok hm Try.call78 Try.func78 rfl rfl rfl ?_
    conv => whnf
    exact h

theorem row_upd {G : Nat → Key} {i : Nat} {x : Key} {n : Nat} : ∀ j, j < n → PSubs (updAt (fun j => cKey (G j)) i 0 (cKey x) j) (cKey (if j = i then x else G j)) := by
  intro j _
  by_cases e : j = i
  · subst e; rw [updAt_same, if_pos rfl]; exact PSubs.rfl
  · rw [updAt_ne e, if_neg e]; exact PSubs.rfl

theorem ac_slices_Compact_Key (l : List Key) (hl : l.length ≤ 8388608) : AC Try.prog 81 [.own 0] [(0, rowL 3 cKey l)] (.own 1) [(1, rowL 3 cKey (compTo l l.length)), (0, .gone)] := by
  refine AC.of_awp_move (T := T) T_ok hm Try.call81 Try.func81 rfl rfl rfl rfl ?_
  conv => whnf
  refine ⟨fun h => ?_, fun h => ?_⟩ <;> (try simp only [decide_eq_true_eq, decide_eq_false_iff_not, Bool.not_eq_true', Bool.not_eq_false', Int.toNat_natCast, beq_iff_eq, decide_eq_decide, beq_eq_false_iff_ne, ne_eq, reduceCtorEq] at h) <;> (conv => whnf)
  · have e : compTo l l.length = l := by
      rw [compTo_take (Nat.le_refl _) (fun j h1 h2 => by omega), List.take_length]
    rw [e]
    exact ⟨rfl, fun i hi => PSubs.rfl⟩
  refine loop_k (ι := Nat) [0] [] (fun k => 1 ≤ k ∧ k ≤ l.length ∧ ∀ j, 1 ≤ j → j < k → l.getD j default ≠ l.getD (j - 1) default) (fun k => l.length - k) 1 (fun k => [(3, .pv (vint k))]) (fun _ => [(0, rowL 3 cKey l)]) [] ⟨Nat.le_refl _, by omega, fun j h1 h2 => by omega⟩ ?_ (fun k hk => ?_)
  · (repeat' (first | exact PSub.rfl | exact rfl | exact PSubs.rfl | exact trivial | refine And.intro ?_ ?_))
    intro i hi; exact PSubs.rfl
  obtain ⟨h1, h2, hinv⟩ := hk
  conv => whnf
  have hk0 : compTo l k = l.take k := compTo_take h2 hinv
  repeat (any_goals (first
    | (refine ⟨fun (h : (_ : Bool) = true) => ?_, fun (h : (_ : Bool) = false) => ?_⟩ <;> (try simp only [decide_eq_true_eq, decide_eq_false_iff_not, Bool.not_eq_true', Bool.not_eq_false', Int.toNat_natCast, beq_iff_eq, decide_eq_decide, beq_eq_false_iff_ne, ne_eq, reduceCtorEq] at h) <;> (conv => whnf))
    | (refine And.intro (by (try simp only [Int.toNat_natCast]); omega) ?_; conv => whnf)
    | (refine And.intro (show (_ : Bool) = true from by kernel_rfl) ?_; conv => whnf)
    | (refine .inl ⟨wrap64 (by omega), ?_⟩; conv => whnf)))
  · rename_i hlt
    rw [key_eq] at h
    simp only [decide_eq_true_eq, Int.toNat_natCast] at h
    have hkm : ((k : Int) - 1).toNat = k - 1 := by omega
    rw [hkm] at h
    have hk1 : compTo l (k + 1) = l.take k := by
      rw [compTo, if_neg (not_or.2 ⟨by omega, fun hn => hn h⟩), hk0]
    refine loop_k (ι := Nat × (Nat → Key)) [0, 4] [] (fun x => 1 ≤ x.1 ∧ x.1 ≤ l.length - k ∧ (compTo l (k + x.1)).length ≤ k + x.1 - 1 ∧ (∀ j, j < (compTo l (k + x.1)).length → x.2 j = (compTo l (k + x.1)).getD j default) ∧ ∀ j, k + x.1 - 1 ≤ j → j < l.length → x.2 j = l.getD j default)
      (fun x => l.length - k - x.1) (1, fun j => l.getD j default) (fun x => [(3, .pv (vint (compTo l (k + x.1)).length)), (5, .pv (vint x.1))]) (fun x => [(0, .row 3 l.length fun i => cKey (x.2 i))]) [] ⟨Nat.le_refl _, by simp only; omega, ?_, ?_, fun j _ _ => rfl⟩ ?_ (fun x hx => ?_)
    · simp only [hk1, List.length_take]; omega
    · intro j hj
      simp only [hk1, List.length_take] at hj ⊢
      simp [List.getD, List.getElem?_take, show j < k from by omega]
    · (repeat' (first | exact PSub.rfl | exact rfl | exact PSubs.rfl | exact trivial | refine And.intro ?_ ?_))
      · intro i hi; exact PSubs.rfl
      · refine PSub.int ?_
        simp only [hk1, List.length_take]; omega
    obtain ⟨k2, G⟩ := x
    obtain ⟨j1, j2, hC, hG, hL⟩ := hx
    simp only at j1 j2 hC hG hL
    have hCs : compTo l (k + (k2 + 1)) = if l.getD (k + k2) default ≠ l.getD (k + k2 - 1) default then compTo l (k + k2) ++ [l.getD (k + k2) default] else compTo l (k + k2) := by
      rw [show k + (k2 + 1) = k + k2 + 1 from rfl, compTo]
      by_cases e : l.getD (k + k2) default ≠ l.getD (k + k2 - 1) default
      · rw [if_pos (.inr e), if_pos e]
      · rw [if_neg (not_or.2 ⟨by omega, e⟩), if_neg e]
    have e2 : (((k2 : Nat) : Int) - 1).toNat = k2 - 1 := by omega
    dsimp only
    conv => whnf
    repeat (any_goals (first
      | (refine ⟨fun (h : (_ : Bool) = true) => ?_, fun (h : (_ : Bool) = false) => ?_⟩ <;> (try simp only [decide_eq_true_eq, decide_eq_false_iff_not, Bool.not_eq_true', Bool.not_eq_false', Int.toNat_natCast, beq_iff_eq, decide_eq_decide, beq_eq_false_iff_ne, ne_eq, reduceCtorEq] at h) <;> (conv => whnf))
      | (refine And.intro (by (try simp only [Int.toNat_natCast]); omega) ?_; conv => whnf)
      | (refine And.intro (show (_ : Bool) = true from by kernel_rfl) ?_; conv => whnf)
      | (refine .inl ⟨wrap64 (by omega), ?_⟩; conv => whnf)))
    · rw [key_eq, e2] at h
      simp only [decide_eq_false_iff_not] at h
      rw [hL _ (by omega) (by omega), hL _ (by omega) (by omega), show k + (k2 - 1) = k + k2 - 1 from by omega] at h
      rw [if_pos h] at hCs
      refine ⟨(k2 + 1, fun j => if j = (compTo l (k + k2)).length then l.getD (k + k2) default else G j), [], ⟨?_, ?_, ?_, ?_, ?_⟩, by dsimp only; omega, ?_⟩
      · dsimp only; omega
      · dsimp only; omega
      · simp only [hCs, List.length_append, List.length_singleton]; omega
      · intro j hj
        simp only [hCs, List.length_append, List.length_singleton] at hj ⊢
        by_cases e : j = (compTo l (k + k2)).length
        · subst e; simp [List.getD]
        · rw [if_neg e, hG j (by omega)]; simp [List.getD, List.getElem?_append_left (show j < (compTo l (k + k2)).length from by omega)]
      · intro j h3 h4
        dsimp only at h3 ⊢
        rw [if_neg (by omega)]
        exact hL j (by omega) h4
      dsimp only
      rw [hCs]
      (repeat' (first | exact PSub.rfl | exact rfl | exact PSubs.rfl | exact trivial | refine And.intro ?_ ?_))
      · intro j hj
        have := row_upd (G := G) (i := (compTo l (k + k2)).length) (x := l.getD (k + k2) default) j hj
        rw [← hL (k + k2) (by omega) (by omega)] at this ⊢
        exact this
      · refine PSub.int ?_; simp
    · rw [key_eq, e2] at h
      simp only [decide_eq_true_eq] at h
      rw [hL _ (by omega) (by omega), hL _ (by omega) (by omega), show k + (k2 - 1) = k + k2 - 1 from by omega] at h
      rw [if_neg (fun hn => hn h)] at hCs
      refine ⟨(k2 + 1, G), [], ⟨?_, ?_, ?_, ?_, ?_⟩, by dsimp only; omega, ?_⟩
      · dsimp only; omega
      · dsimp only; omega
      · simp only [hCs]; omega
      · intro j hj
        simp only [hCs] at hj ⊢
        exact hG j hj
      · intro j h3 h4
        dsimp only at h3 ⊢
        exact hL j (by omega) h4
      dsimp only
      rw [hCs]
      (repeat' (first | exact PSub.rfl | exact rfl | exact PSubs.rfl | exact trivial | refine And.intro ?_ ?_))
      intro i hi; exact PSubs.rfl
    · have e3 : k + k2 = l.length := by omega
      rw [e3] at hG hC ⊢
      refine ⟨by simp, fun j hj => ?_⟩
      rw [fillF_eq, if_neg (by simp; omega)]
      simp only [hG j hj]
      exact PSubs.rfl
  · refine ⟨k + 1, [], ⟨by omega, by omega, fun j h3 h4 => ?_⟩, by omega, ?_⟩
    · by_cases e : j = k
      · subst e
        rw [key_eq] at h
        simp only [decide_eq_false_iff_not, Int.toNat_natCast] at h
        rw [show ((j : Int) - 1).toNat = j - 1 from by omega] at h
        exact h
      · exact hinv j h3 (by omega)
    · (repeat' (first | exact PSub.rfl | exact rfl | exact PSubs.rfl | exact trivial | refine And.intro ?_ ?_))
      intro i hi; exact PSubs.rfl
  · have e : k = l.length := by omega
    subst e
    rw [hk0, List.take_length]
    exact ⟨rfl, fun i hi => PSubs.rfl⟩

theorem ac_scene_ascending (l : List Key) (hl : l.length ≤ 8388608) : AC Try.prog 48 [.pv (roL 3 cKey l)] [] (.pv (roL 3 cKey (sortK l))) [] := by
  refine AC.of_awp (T := T) T_ok hm Try.call48 Try.func48 rfl rfl rfl ?_
  conv => whnf
  refine .inr (.inl ⟨_, _, _, ac_slices_Clone_Key l.length (fun i => cKey (l.getD i default)) hl, ?_⟩)
  conv => whnf
  refine .inr (.inr (.inl ⟨_, _, ac_slices_SortFunc_Key 80 ac_scene_compare l hl, ?_⟩))
  conv => whnf
  refine .inr (.inr (.inr ⟨_, _, _, ac_slices_Compact_Key (sortedK l) (by rw [sortedK_length]; exact hl), ?_⟩))
  conv => whnf
  rw [sortedK_length, comp_sorted]
  exact .rfl

end Go.Abs

namespace Go.Abs
open Go.Proofs
set_option maxRecDepth 10000

theorem ac_scene_index (l : List Item) (hl : smallL l) : AC Try.prog 47 [.pv (roL 7 cItem l)] [] (.pv (.map KKey (itemLook (findI l)))) [] := by
  have hl : l.length ≤ 1048576 := hl
  refine AC.of_awp (T := T) T_ok hm Try.call47 Try.func47 rfl rfl rfl ?_
  conv => whnf
  refine loop_k (ι := Nat) [3, 9, 10] [] (fun k => k ≤ l.length ∧ True) (fun k => l.length - k) 0 (fun k => [(11, .pv (vint k))]) (fun k => [(8, .map KKey (itemLook (findI (l.take k))))]) [] ⟨Nat.zero_le _, trivial⟩ ?_ (fun k hk => ?_)
  · (repeat' (first | exact PSub.rfl | exact rfl | exact PSubs.rfl | exact trivial | refine And.intro ?_ ?_)); all_goals (intro v hv; obtain ⟨q, rfl⟩ := has_key hv; rfl)
  obtain ⟨hkn, hinv⟩ := hk
  conv => whnf
  repeat (any_goals (first
    | (refine ⟨fun (h : (_ : Bool) = true) => ?_, fun (h : (_ : Bool) = false) => ?_⟩ <;> (try simp only [decide_eq_true_eq, decide_eq_false_iff_not, Bool.not_eq_true', Bool.not_eq_false', Int.toNat_natCast, beq_iff_eq, decide_eq_decide, beq_eq_false_iff_ne, ne_eq, reduceCtorEq] at h) <;> (conv => whnf))
    | (refine And.intro (by (try simp only [Int.toNat_natCast]); omega) ?_; conv => whnf)
    | (refine And.intro (show (_ : Bool) = true from by kernel_rfl) ?_; conv => whnf)
    | (refine .inl ⟨wrap64 (by omega), ?_⟩; conv => whnf)))
  · refine ⟨fun p hp => ?_, fun hp => ?_⟩
    · change (findI (l.take k) (l.getD k default).key).map _ = some p at hp
      cases hx : findI (l.take k) (l.getD k default).key with
      | none => rw [hx] at hp; cases hp
      | some x =>
        rw [hx] at hp; cases hp
        conv => whnf
        repeat (any_goals (first
          | (refine ⟨fun (h : (_ : Bool) = true) => ?_, fun (h : (_ : Bool) = false) => ?_⟩ <;> (try simp only [decide_eq_true_eq, decide_eq_false_iff_not, Bool.not_eq_true', Bool.not_eq_false', Int.toNat_natCast, beq_iff_eq, decide_eq_decide, beq_eq_false_iff_ne, ne_eq, reduceCtorEq] at h) <;> (conv => whnf))
          | (refine And.intro (by (try simp only [Int.toNat_natCast]); omega) ?_; conv => whnf)
          | (refine And.intro (show (_ : Bool) = true from by kernel_rfl) ?_; conv => whnf)
          | (refine .inl ⟨wrap64 (by omega), ?_⟩; conv => whnf)))
        refine ⟨k + 1, [], ⟨by omega, trivial⟩, by omega, ?_⟩
        (repeat' (first | exact PSub.rfl | exact rfl | exact PSubs.rfl | exact trivial | refine And.intro ?_ ?_))
        intro v hv
        obtain ⟨q, rfl⟩ := has_key hv
        rw [itemLook_key, itemLook_key, findI_take (by omega)]
        cases hq : findI (l.take k) q with
        | some y => rfl
        | none =>
          by_cases e : (l.getD k default).key = q
          · rw [e, hq] at hx; cases hx
          · rw [if_neg e]
    · change (findI (l.take k) (l.getD k default).key).map _ = none at hp
      have hx : findI (l.take k) (l.getD k default).key = none := by simpa using hp
      conv => whnf
      repeat (any_goals (first
        | (refine ⟨fun (h : (_ : Bool) = true) => ?_, fun (h : (_ : Bool) = false) => ?_⟩ <;> (try simp only [decide_eq_true_eq, decide_eq_false_iff_not, Bool.not_eq_true', Bool.not_eq_false', Int.toNat_natCast, beq_iff_eq, decide_eq_decide, beq_eq_false_iff_ne, ne_eq, reduceCtorEq] at h) <;> (conv => whnf))
        | (refine And.intro (by (try simp only [Int.toNat_natCast]); omega) ?_; conv => whnf)
        | (refine And.intro (show (_ : Bool) = true from by kernel_rfl) ?_; conv => whnf)
        | (refine .inl ⟨wrap64 (by omega), ?_⟩; conv => whnf)))
      refine ⟨k + 1, [], ⟨by omega, trivial⟩, by omega, ?_⟩
      (repeat' (first | exact PSub.rfl | exact rfl | exact PSubs.rfl | exact trivial | refine And.intro ?_ ?_))
      intro v hv
      obtain ⟨q, rfl⟩ := has_key hv
      rw [itemLook_key, findI_take (by omega)]
      by_cases e : q = (l.getD k default).key
      · rw [e, hx, if_pos rfl]
        exact lookPut_yes rfl
      · rw [if_neg (fun h => e h.symm)]
        refine (lookPut_no (fun h => e (vKey_inj.1 h))).trans ?_
        rw [itemLook_key]
        cases findI (l.take k) q <;> rfl
  · have e : k = l.length := by omega
    subst e
    rw [List.take_length]
    exact .rfl

theorem ac_scene_Check (H : Hom) (s : Scene) (hH : smallH H) (hs : smallL s.items) : AC Try.prog 13 [.pv (.agg (cHom H)), .pv (.agg (cSce s))] [] (.pv (vint (checkS H s))) [] := by
  have hl : s.items.length ≤ 1048576 := hs
  refine AC.of_awp (T := T) T_ok hm Try.call13 Try.func13 rfl rfl rfl ?_
  conv => whnf
  repeat (any_goals (first
    | (refine ⟨fun (h : (_ : Bool) = true) => ?_, fun (h : (_ : Bool) = false) => ?_⟩ <;> (try simp only [decide_eq_true_eq, decide_eq_false_iff_not, Bool.not_eq_true', Bool.not_eq_false', Int.toNat_natCast, beq_iff_eq, decide_eq_decide, beq_eq_false_iff_ne, ne_eq, reduceCtorEq] at h) <;> (conv => whnf))
    | (refine .inl ⟨_, ac_device_Check H hH, ?_⟩; conv => whnf)
    | (refine .inl ⟨_, ac_names_Valid s.name, ?_⟩; conv => whnf)
    | (refine And.intro (by (try simp only [Int.toNat_natCast]); omega) ?_; conv => whnf)
    | (refine And.intro (show (_ : Bool) = true from by kernel_rfl) ?_; conv => whnf)
    | (refine .inl ⟨wrap64 (by omega), ?_⟩; conv => whnf)))
  · exact PSub.int (by rw [checkS, if_pos h])
  · rename_i h0
    exact PSub.int (by rw [checkS, if_neg (by simpa using h0), if_pos h])
  · rename_i h0 h1
    exact PSub.int (by rw [checkS, if_neg (by simpa using h0), if_neg (by simp [h1]), if_pos (by omega)])
  rename_i h0 h1
  have e0 : checkS H s = firstE s.items.length (sceE H s.items) := by rw [checkS, if_neg (by simpa using h0), if_neg (by simp [h1]), if_neg (by omega)]
  rw [e0]
  clear e0
  refine loop_k (ι := Nat) [2, 3, 25, 26] [2, 3] (fun k => k ≤ s.items.length ∧ (∀ j, j < k → sceE H s.items j = 0)) (fun k => s.items.length - k) 0 (fun k => [(27, .pv (vint k))]) (fun _ => []) [] ⟨Nat.zero_le _, fun j h => absurd h (by omega)⟩ ?_ (fun k hk => ?_)
  · (repeat' (first | exact PSub.rfl | exact rfl | exact PSubs.rfl | exact trivial | refine And.intro ?_ ?_))
  obtain ⟨hkn, hinv⟩ := hk
  conv => whnf
  have hk1 : ((k : Int) - 1).toNat = k - 1 := by omega
  repeat (any_goals (first
    | (refine ⟨fun (h : (_ : Bool) = true) => ?_, fun (h : (_ : Bool) = false) => ?_⟩ <;> (try simp only [decide_eq_true_eq, decide_eq_false_iff_not, Bool.not_eq_true', Bool.not_eq_false', Int.toNat_natCast, beq_iff_eq, decide_eq_decide, beq_eq_false_iff_ne, ne_eq, reduceCtorEq] at h) <;> (conv => whnf))
    | (refine .inl ⟨_, ac_device_Find H (s.items.getD k default).key hH, ?_⟩; conv => whnf)
    | (refine .inl ⟨_, ac_value_Fits ((findA H (s.items.getD k default).key).getD noAttr) (s.items.getD k default).value (small_findA hH), ?_⟩; conv => whnf)
    | (refine .inl ⟨_, ac_device_Less (s.items.getD ((k : Int) - 1).toNat default).key (s.items.getD k default).key, ?_⟩; conv => whnf)
    | (refine And.intro (by (try simp only [Int.toNat_natCast]); omega) ?_; conv => whnf)
    | (refine And.intro (show (_ : Bool) = true from by kernel_rfl) ?_; conv => whnf)
    | (refine .inl ⟨wrap64 (by omega), ?_⟩; conv => whnf)))
  · have e : sceE H s.items k = 8 := by simp only [sceE, if_pos h]
    exact PSub.int (by rw [firstE_at (k := k) (by omega) (by rw [e]; decide) hinv, e])
  · have e : sceE H s.items k = 24 := by simp [sceE, *, -List.getD_eq_getElem?_getD]
    exact PSub.int (by rw [firstE_at (k := k) (by omega) (by rw [e]; decide) hinv, e])
  · have e : sceE H s.items k = fitsE ((findA H (s.items.getD k default).key).getD noAttr) (s.items.getD k default).value := by
      simp only [sceE, *, Bool.true_eq_false, if_false]; exact if_pos h
    exact PSub.int (by rw [firstE_at (k := k) (by omega) (by rw [e]; exact h) hinv, e])
  · have e : sceE H s.items k = 2 := by simp [sceE, *, -List.getD_eq_getElem?_getD]
    exact PSub.int (by rw [firstE_at (k := k) (by omega) (by rw [e]; decide) hinv, e])
  · rename_i hk
    rw [hk1] at h
    have e : sceE H s.items k = 14 := by simp [sceE, *, -List.getD_eq_getElem?_getD]; omega
    exact PSub.int (by rw [firstE_at (k := k) (by omega) (by rw [e]; decide) hinv, e])
  · rename_i hk
    rw [hk1] at h
    have e : sceE H s.items k = 0 := by simp [sceE, *, -List.getD_eq_getElem?_getD]
    refine ⟨k + 1, [], ⟨by omega, ?_⟩, by first | omega | (dsimp only; omega), ?_⟩
    rotate_left
    · (repeat' (first | exact PSub.rfl | exact rfl | exact PSubs.rfl | exact trivial | refine And.intro ?_ ?_))
    intro j hj
    by_cases ej : j = k
    · subst ej; exact e
    · exact hinv j (by omega)
  · have e : sceE H s.items k = 0 := by simp [sceE, *, -List.getD_eq_getElem?_getD]; omega
    refine ⟨k + 1, [], ⟨by omega, ?_⟩, by first | omega | (dsimp only; omega), ?_⟩
    rotate_left
    · (repeat' (first | exact PSub.rfl | exact rfl | exact PSubs.rfl | exact trivial | refine And.intro ?_ ?_))
    intro j hj
    by_cases ej : j = k
    · subst ej; exact e
    · exact hinv j (by omega)
  · exact PSub.int (by rw [firstE_none fun j hj => hinv j (by omega)])

theorem ac_r36_Check (H : Hom) (s : Scene) (hH : smallH H) (hs : smallL s.items) : AC Try.prog 14 [.pv (.agg (cHom H)), .pv (.agg (cSce s))] [] (.pv (vint (checkS H s))) [] := by
  have hl : s.items.length ≤ 1048576 := hs
  refine AC.of_awp (T := T) T_ok hm Try.call14 Try.func14 rfl rfl rfl ?_
  conv => whnf
  repeat (any_goals (first
    | (refine ⟨fun (h : (_ : Bool) = true) => ?_, fun (h : (_ : Bool) = false) => ?_⟩ <;> (try simp only [decide_eq_true_eq, decide_eq_false_iff_not, Bool.not_eq_true', Bool.not_eq_false', Int.toNat_natCast, beq_iff_eq, decide_eq_decide, beq_eq_false_iff_ne, ne_eq, reduceCtorEq] at h) <;> (conv => whnf))
    | (refine .inl ⟨_, ac_r22_Check H hH, ?_⟩; conv => whnf)
    | (refine .inl ⟨_, ac_r04_Valid s.name, ?_⟩; conv => whnf)
    | (refine And.intro (by (try simp only [Int.toNat_natCast]); omega) ?_; conv => whnf)
    | (refine And.intro (show (_ : Bool) = true from by kernel_rfl) ?_; conv => whnf)
    | (refine .inl ⟨wrap64 (by omega), ?_⟩; conv => whnf)))
  · exact PSub.int (by rw [checkS, if_pos h])
  · rename_i h0
    exact PSub.int (by rw [checkS, if_neg (by simpa using h0), if_pos h])
  · rename_i h0 h1
    exact PSub.int (by rw [checkS, if_neg (by simpa using h0), if_neg (by simp [h1]), if_pos (by omega)])
  rename_i h0 h1
  have e0 : checkS H s = firstE s.items.length (sceE H s.items) := by rw [checkS, if_neg (by simpa using h0), if_neg (by simp [h1]), if_neg (by omega)]
  rw [e0]
  clear e0
  refine loop_k (ι := Nat) [2, 3, 25] [2, 3] (fun k => k ≤ s.items.length ∧ (∀ j, j < k → sceE H s.items j = 0)) (fun k => s.items.length - k) 0 (fun k => [(26, .pv (vint k))]) (fun _ => []) [] ⟨Nat.zero_le _, fun j h => absurd h (by omega)⟩ ?_ (fun k hk => ?_)
  · (repeat' (first | exact PSub.rfl | exact rfl | exact PSubs.rfl | exact trivial | refine And.intro ?_ ?_))
  obtain ⟨hkn, hinv⟩ := hk
  conv => whnf
  have hk1 : ((k : Int) - 1).toNat = k - 1 := by omega
  repeat (any_goals (first
    | (refine ⟨fun (h : (_ : Bool) = true) => ?_, fun (h : (_ : Bool) = false) => ?_⟩ <;> (try simp only [decide_eq_true_eq, decide_eq_false_iff_not, Bool.not_eq_true', Bool.not_eq_false', Int.toNat_natCast, beq_iff_eq, decide_eq_decide, beq_eq_false_iff_ne, ne_eq, reduceCtorEq] at h) <;> (conv => whnf))
    | (refine .inl ⟨_, ac_r22_Find H (s.items.getD k default).key hH, ?_⟩; conv => whnf)
    | (refine .inl ⟨_, ac_r20_Fits ((findA H (s.items.getD k default).key).getD noAttr) (s.items.getD k default).value (small_findA hH), ?_⟩; conv => whnf)
    | (refine .inl ⟨_, ac_r22_Less (s.items.getD ((k : Int) - 1).toNat default).key (s.items.getD k default).key, ?_⟩; conv => whnf)
    | (refine And.intro (by (try simp only [Int.toNat_natCast]); omega) ?_; conv => whnf)
    | (refine And.intro (show (_ : Bool) = true from by kernel_rfl) ?_; conv => whnf)
    | (refine .inl ⟨wrap64 (by omega), ?_⟩; conv => whnf)))
  · have e : sceE H s.items k = 8 := by simp only [sceE, if_pos h]
    exact PSub.int (by rw [firstE_at (k := k) (by omega) (by rw [e]; decide) hinv, e])
  · have e : sceE H s.items k = 24 := by simp [sceE, *, -List.getD_eq_getElem?_getD]
    exact PSub.int (by rw [firstE_at (k := k) (by omega) (by rw [e]; decide) hinv, e])
  · have e : sceE H s.items k = fitsE ((findA H (s.items.getD k default).key).getD noAttr) (s.items.getD k default).value := by
      simp only [sceE, *, Bool.true_eq_false, if_false]; exact if_pos h
    exact PSub.int (by rw [firstE_at (k := k) (by omega) (by rw [e]; exact h) hinv, e])
  · have e : sceE H s.items k = 2 := by simp [sceE, *, -List.getD_eq_getElem?_getD]
    exact PSub.int (by rw [firstE_at (k := k) (by omega) (by rw [e]; decide) hinv, e])
  · rename_i hk
    rw [hk1] at h
    have e : sceE H s.items k = 14 := by simp [sceE, *, -List.getD_eq_getElem?_getD]; omega
    exact PSub.int (by rw [firstE_at (k := k) (by omega) (by rw [e]; decide) hinv, e])
  · rename_i hk
    rw [hk1] at h
    have e : sceE H s.items k = 0 := by simp [sceE, *, -List.getD_eq_getElem?_getD]
    refine ⟨k + 1, [], ⟨by omega, ?_⟩, by first | omega | (dsimp only; omega), ?_⟩
    rotate_left
    · (repeat' (first | exact PSub.rfl | exact rfl | exact PSubs.rfl | exact trivial | refine And.intro ?_ ?_))
    intro j hj
    by_cases ej : j = k
    · subst ej; exact e
    · exact hinv j (by omega)
  · have e : sceE H s.items k = 0 := by simp [sceE, *, -List.getD_eq_getElem?_getD]; omega
    refine ⟨k + 1, [], ⟨by omega, ?_⟩, by first | omega | (dsimp only; omega), ?_⟩
    rotate_left
    · (repeat' (first | exact PSub.rfl | exact rfl | exact PSubs.rfl | exact trivial | refine And.intro ?_ ?_))
    intro j hj
    by_cases ej : j = k
    · subst ej; exact e
    · exact hinv j (by omega)
  · exact PSub.int (by rw [firstE_none fun j hj => hinv j (by omega)])

end Go.Abs

namespace Go.Abs
open Go.Proofs
set_option maxRecDepth 10000

theorem item_eq (a b : Item) : (decide (a.key.dev = b.key.dev) && (decide (a.key.cluster = b.key.cluster) && (decide (a.key.attr = b.key.attr) && (decide (a.value.kind = b.value.kind) && (decide (a.value.n = b.value.n) && (decide (a.value.s = b.value.s) && (decide (a.version = b.version) && true))))))) = decide (a = b) := by
  obtain ⟨⟨a1, a2, a3⟩, ⟨a4, a5, a6⟩, a7⟩ := a
  obtain ⟨⟨b1, b2, b3⟩, ⟨b4, b5, b6⟩, b7⟩ := b
  rw [Bool.eq_iff_iff]; simp [and_assoc]

theorem ac_r22_Same (a b : List Item) (ha : a.length ≤ 4194304) : AC Try.prog 51 [.pv (roL 7 cItem a), .pv (roL 7 cItem b)] [] (.pv (vbool (decide (a = b)))) [] := by
  refine AC.of_awp (T := T) T_ok hm Try.call51 Try.func51 rfl rfl rfl ?_
  conv => whnf
  refine ⟨fun h => ?_, fun h => ?_⟩ <;> (try simp only [decide_eq_true_eq, decide_eq_false_iff_not, Bool.not_eq_true', Bool.not_eq_false', Int.toNat_natCast, beq_iff_eq, decide_eq_decide, beq_eq_false_iff_ne, ne_eq, reduceCtorEq] at h) <;> (conv => whnf)
  · exact PSub.lit_sb (by symm; simp only [decide_eq_false_iff_not]; intro e; exact h (by rw [e]))
  have hl := h
  refine loop_k (ι := Nat) [0, 1] [] (fun k => k ≤ a.length ∧ (∀ j, j < k → a.getD j default = b.getD j default)) (fun k => a.length - k) 0 (fun k => [(5, .pv (vint k))]) (fun _ => []) [] ⟨Nat.zero_le _, fun j h => absurd h (by omega)⟩ ?_ (fun k hk => ?_)
  · (repeat' (first | exact PSub.rfl | exact rfl | exact PSubs.rfl | exact trivial | refine And.intro ?_ ?_))
  obtain ⟨hkn, hinv⟩ := hk
  conv => whnf
  repeat (any_goals (first
    | (refine ⟨fun (h : (_ : Bool) = true) => ?_, fun (h : (_ : Bool) = false) => ?_⟩ <;> (try simp only [decide_eq_true_eq, decide_eq_false_iff_not, Bool.not_eq_true', Bool.not_eq_false', Int.toNat_natCast, beq_iff_eq, decide_eq_decide, beq_eq_false_iff_ne, ne_eq, reduceCtorEq] at h) <;> (conv => whnf))
    | (refine And.intro (by (try simp only [Int.toNat_natCast]); omega) ?_; conv => whnf)
    | (refine And.intro (show (_ : Bool) = true from by kernel_rfl) ?_; conv => whnf)
    | (refine .inl ⟨wrap64 (by omega), ?_⟩; conv => whnf)))
  all_goals try rw [item_eq] at h
  all_goals try simp only [decide_eq_true_eq, decide_eq_false_iff_not] at h
  · exact PSub.lit_sb (by symm; simp only [decide_eq_false_iff_not]; intro e; exact h (by rw [e]))
  · refine ⟨k + 1, [], ⟨by omega, ?_⟩, by first | omega | (dsimp only; omega), ?_⟩
    rotate_left
    · (repeat' (first | exact PSub.rfl | exact rfl | exact PSubs.rfl | exact trivial | refine And.intro ?_ ?_))
    intro j hj
    by_cases e : j = k
    · subst e; first | exact h | simpa [-List.getD_eq_getElem?_getD] using h | simp_all [-List.getD_eq_getElem?_getD]
    · exact hinv j (by omega)
  · exact PSub.lit_sb (by symm; simp only [decide_eq_true_eq]; exact list_eq (by omega) fun i hi => hinv i (by omega))

theorem ac_r22_SameKeys (a b : List Key) (ha : a.length ≤ 4194304) : AC Try.prog 21 [.pv (roL 3 cKey a), .pv (roL 3 cKey b)] [] (.pv (vbool (decide (a = b)))) [] := by
  refine AC.of_awp (T := T) T_ok hm Try.call21 Try.func21 rfl rfl rfl ?_
  conv => whnf
  refine ⟨fun h => ?_, fun h => ?_⟩ <;> (try simp only [decide_eq_true_eq, decide_eq_false_iff_not, Bool.not_eq_true', Bool.not_eq_false', Int.toNat_natCast, beq_iff_eq, decide_eq_decide, beq_eq_false_iff_ne, ne_eq, reduceCtorEq] at h) <;> (conv => whnf)
  · exact PSub.lit_sb (by symm; simp only [decide_eq_false_iff_not]; intro e; exact h (by rw [e]))
  have hl := h
  refine loop_k (ι := Nat) [0, 1] [] (fun k => k ≤ a.length ∧ (∀ j, j < k → a.getD j default = b.getD j default)) (fun k => a.length - k) 0 (fun k => [(5, .pv (vint k))]) (fun _ => []) [] ⟨Nat.zero_le _, fun j h => absurd h (by omega)⟩ ?_ (fun k hk => ?_)
  · (repeat' (first | exact PSub.rfl | exact rfl | exact PSubs.rfl | exact trivial | refine And.intro ?_ ?_))
  obtain ⟨hkn, hinv⟩ := hk
  conv => whnf
  repeat (any_goals (first
    | (refine ⟨fun (h : (_ : Bool) = true) => ?_, fun (h : (_ : Bool) = false) => ?_⟩ <;> (try simp only [decide_eq_true_eq, decide_eq_false_iff_not, Bool.not_eq_true', Bool.not_eq_false', Int.toNat_natCast, beq_iff_eq, decide_eq_decide, beq_eq_false_iff_ne, ne_eq, reduceCtorEq] at h) <;> (conv => whnf))
    | (refine And.intro (by (try simp only [Int.toNat_natCast]); omega) ?_; conv => whnf)
    | (refine And.intro (show (_ : Bool) = true from by kernel_rfl) ?_; conv => whnf)
    | (refine .inl ⟨wrap64 (by omega), ?_⟩; conv => whnf)))
  all_goals try rw [key_eq] at h
  all_goals try simp only [decide_eq_true_eq, decide_eq_false_iff_not] at h
  · exact PSub.lit_sb (by symm; simp only [decide_eq_false_iff_not]; intro e; exact h (by rw [e]))
  · refine ⟨k + 1, [], ⟨by omega, ?_⟩, by first | omega | (dsimp only; omega), ?_⟩
    rotate_left
    · (repeat' (first | exact PSub.rfl | exact rfl | exact PSubs.rfl | exact trivial | refine And.intro ?_ ?_))
    intro j hj
    by_cases e : j = k
    · subst e; first | exact h | simpa [-List.getD_eq_getElem?_getD] using h | simp_all [-List.getD_eq_getElem?_getD]
    · exact hinv j (by omega)
  · exact PSub.lit_sb (by symm; simp only [decide_eq_true_eq]; exact list_eq (by omega) fun i hi => hinv i (by omega))

structure Op where
  H : Hom
  L : List Item
  K : Key
  V : Val
  deriving Inhabited
def cOp (x : Op) : List PV := cHom x.H ++ (roL 7 cItem x.L :: (cKey x.K ++ cVal x.V))

theorem getI_eq (a b : Item) : a = b → decide (a = b) = true := fun h => by simp [h]

theorem initL_length {H : Hom} {id : Int} : (initL H id).length = (keysL H id).length := by simp [initL]

section
variable {H : Type} {enc : TypeId × Value → H} {w : World} {bulk : DataW H → Nat}
end

end Go.Abs

namespace Go.Abs
open Go.Proofs
set_option maxRecDepth 10000

/-- what is still to come of Put -/
def putRest (l : List Key) (k : Key) (done : Bool) : List Key := if done = true then l.filter (fun y => decide (y ≠ k)) else putK l k

theorem putRest_cons {l : List Key} {x k : Key} {done : Bool} : putRest (x :: l) k done =
    (if done = false ∧ keyLess x k = false then [k] else []) ++ (if x ≠ k then [x] else []) ++ putRest l k (done || !keyLess x k) := by
  cases done with
  | true =>
    simp only [putRest, Bool.true_or, if_true, List.filter_cons]
    by_cases e : x = k
    · simp [e]
    · simp [e]
  | false =>
    simp only [putRest, Bool.false_or, Bool.false_eq_true, if_false]
    rw [show putK (x :: l) k = if keyLess x k = true then x :: putK l k else k :: (x :: l).filter fun y => decide (y ≠ k) from rfl]
    cases h : keyLess x k with
    | true =>
      have hne : x ≠ k := fun e => by rw [e, keyLess_irrefl] at h; cases h
      simp [hne]
    | false =>
      by_cases e : x = k
      · simp [e]
      · simp [e]

theorem ac_r22_Put (l : List Key) (q : Key) (hl : l.length ≤ 8388608) : AC Try.prog 82 [.pv (roL 3 cKey l), .pv (.agg (cKey q))] [] (.pv (roL 3 cKey (putK l q))) [] := by
  refine AC.of_awp (T := T) T_ok hm Try.call82 Try.func82 rfl rfl rfl ?_
  conv => whnf
  refine loop_k (ι := Nat × List Key × Bool) [0, 3] [3] (fun x => x.1 ≤ l.length ∧ x.2.1.length ≤ x.1 + x.2.2.toNat ∧ putK l q = x.2.1 ++ putRest (l.drop x.1) q x.2.2) (fun x => l.length - x.1) (0, [], false) (fun x => [(5, .own 500), (6, .pv (.sb x.2.2)), (7, .pv (vint x.1))]) (fun x => [(500, rowL 3 cKey x.2.1)]) [] ⟨Nat.zero_le _, by simp, by simp [putRest]⟩ ?_ (fun x hx => ?_)
  · (repeat' (first | exact PSub.rfl | exact rfl | exact PSubs.rfl | exact trivial | refine And.intro ?_ ?_))
    exact PSub.lit_sb rfl
  obtain ⟨k, acc, done⟩ := x
  obtain ⟨hkn, hacc, hinv⟩ := hx
  simp only at hkn hacc hinv
  dsimp only
  have hb : done.toNat ≤ 1 := by cases done <;> decide
  have hd : k < l.length → l.drop k = l.getD k default :: l.drop (k + 1) := fun h => by rw [getD_getElem _ _ h]; exact List.drop_eq_getElem_cons h
  have row2 : ∀ (F G : Nat → List PV) (x : Key), (∀ i, i < (acc ++ [q]).length → PSubs (F i) (cKey ((acc ++ [q]).getD i default))) → (∀ i, i < acc.length + 1 → G i = F i) → PSubs (G (acc.length + 1)) (cKey x) → ∀ i, i < (acc ++ [q] ++ [x]).length → PSubs (G i) (cKey ((acc ++ [q] ++ [x]).getD i default)) := by
    intro F G x h1 h2 h3
    refine rows_snocF (fun i hi => ?_) (by simpa using h3)
    rw [h2 i (by simpa using hi)]
    exact h1 i hi
  conv => whnf
  repeat (any_goals (first
    | (refine ⟨fun (h : (_ : Bool) = true) => ?_, fun (h : (_ : Bool) = false) => ?_⟩ <;> (try simp only [decide_eq_true_eq, decide_eq_false_iff_not, Bool.not_eq_true', Bool.not_eq_false', Int.toNat_natCast, beq_iff_eq, decide_eq_decide, beq_eq_false_iff_ne, ne_eq, reduceCtorEq] at h) <;> (conv => whnf))
    | (refine .inl ⟨_, ac_r22_Less (l.getD k default) q, ?_⟩; conv => whnf)
    | (refine And.intro (by (try simp only [Int.toNat_natCast]); omega) ?_; conv => whnf)
    | (refine And.intro (show (_ : Bool) = true from by kernel_rfl) ?_; conv => whnf)
    | (refine .inl ⟨wrap64 (by omega), ?_⟩; conv => whnf)))
  · rename_i hlt hdn hless
    rw [key_eq] at h
    simp only [decide_eq_false_iff_not] at h
    rw [hdn] at hacc
    rw [hd (by omega), putRest_cons, hdn, hless, if_pos ⟨rfl, rfl⟩, if_pos h] at hinv
    refine ⟨(k + 1, acc ++ [q] ++ [l.getD k default], true), [(500, 41)], ⟨by dsimp only; omega, by simp at *; omega, by rw [hinv]; simp⟩, by dsimp only; omega, ?_⟩
    dsimp only
    (repeat' (first | exact PSub.rfl | exact rfl | exact PSubs.rfl | exact trivial | refine And.intro ?_ ?_))
    · simp
    · refine row2 (fun i => if i < acc.length then cKey (acc.getD i default) else cKey q) _ _ ?_ (fun i hi => ?_) ?_
      · refine rows_snocF (fun i hi => by simp only [if_pos hi]; exact PSubs.rfl) (by simp only [if_neg (Nat.lt_irrefl _), Nat.sub_self]; exact PSubs.rfl)
      · simp only [if_pos hi]
        by_cases e : i < acc.length
        · simp only [if_pos e]
        · simp only [if_neg e, show i - acc.length = 0 from by omega]; rfl
      · simp only [if_neg (Nat.lt_irrefl _), Nat.sub_self]; exact PSubs.rfl
    · exact PSub.lit_sb rfl
  · rename_i hlt hdn hless
    rw [key_eq] at h
    simp only [decide_eq_true_eq] at h
    rw [hdn] at hacc
    rw [hd (by omega), putRest_cons, hdn, hless, if_pos ⟨rfl, rfl⟩, if_neg (fun hn => hn h)] at hinv
    refine ⟨(k + 1, acc ++ [q], true), [(500, 28)], ⟨by dsimp only; omega, by simp at *; omega, by rw [hinv]; simp⟩, by dsimp only; omega, ?_⟩
    dsimp only
    (repeat' (first | exact PSub.rfl | exact rfl | exact PSubs.rfl | exact trivial | refine And.intro ?_ ?_))
    · simp
    · refine rows_snocF (fun i hi => by simp only [if_pos hi]; exact PSubs.rfl) (by simp only [if_neg (Nat.lt_irrefl _), Nat.sub_self]; exact PSubs.rfl)
    · exact PSub.lit_sb rfl
  · rename_i hlt hdn hless
    rw [key_eq] at h
    simp only [decide_eq_false_iff_not] at h
    rw [hd (by omega), putRest_cons, hless, if_neg (fun hn => by cases hn.2), if_pos h] at hinv
    refine ⟨(k + 1, acc ++ [l.getD k default], done), [(500, 41)], ⟨by dsimp only; omega, by simp at *; omega, by rw [hinv]; simp⟩, by dsimp only; omega, ?_⟩
    dsimp only
    (repeat' (first | exact PSub.rfl | exact rfl | exact PSubs.rfl | exact trivial | refine And.intro ?_ ?_))
    · simp
    · refine rows_snocF (fun i hi => by simp only [if_pos hi]; exact PSubs.rfl) (by simp only [if_neg (Nat.lt_irrefl _), Nat.sub_self]; exact PSubs.rfl)
  · rename_i hlt hdn hless
    rw [key_eq] at h
    simp only [decide_eq_true_eq] at h
    rw [h, keyLess_irrefl] at hless; cases hless
  · rename_i hlt hdn
    rw [key_eq] at h
    simp only [decide_eq_false_iff_not] at h
    rw [hd (by omega), putRest_cons, hdn, if_neg (fun hn => by cases hn.1), if_pos h] at hinv
    refine ⟨(k + 1, acc ++ [l.getD k default], done), [(500, 41)], ⟨by dsimp only; omega, by simp at *; omega, by rw [hinv, hdn]; simp⟩, by dsimp only; omega, ?_⟩
    dsimp only
    (repeat' (first | exact PSub.rfl | exact rfl | exact PSubs.rfl | exact trivial | refine And.intro ?_ ?_))
    · simp
    · refine rows_snocF (fun i hi => by simp only [if_pos hi]; exact PSubs.rfl) (by simp only [if_neg (Nat.lt_irrefl _), Nat.sub_self]; exact PSubs.rfl)
  · rename_i hlt hdn
    rw [key_eq] at h
    simp only [decide_eq_true_eq] at h
    rw [hd (by omega), putRest_cons, hdn, if_neg (fun hn => by cases hn.1), if_neg (fun hn => hn h)] at hinv
    refine ⟨(k + 1, acc, done), [], ⟨by dsimp only; omega, by simp at *; omega, by rw [hinv, hdn]; simp⟩, by dsimp only; omega, ?_⟩
    dsimp only
    (repeat' (first | exact PSub.rfl | exact rfl | exact PSubs.rfl | exact trivial | refine And.intro ?_ ?_))
    intro i hi; exact PSubs.rfl
  · rw [List.drop_eq_nil_of_le (by omega), h] at hinv
    have hinv : putK l q = acc ++ [q] := hinv
    rw [hinv]
    refine PSub.ro (by simp) (fun i hi => ?_)
    revert i
    rw [show acc.length + 1 = (acc ++ [q]).length from by simp]
    refine rows_snocF (fun i hi => by simp only [if_pos hi]; exact PSubs.rfl) (by simp only [if_neg (Nat.lt_irrefl _), Nat.sub_self]; exact PSubs.rfl)
  · rw [List.drop_eq_nil_of_le (by omega), h] at hinv
    have hinv : putK l q = acc ++ [] := hinv
    rw [hinv, List.append_nil]
    exact .rfl

theorem ac_r36_Sorted (l : List Key) (hl : l.length ≤ 8388600) : AC Try.prog 49 [.pv (roL 3 cKey l)] [] (.pv (roL 3 cKey (sortK l))) [] := by
  refine AC.of_awp (T := T) T_ok hm Try.call49 Try.func49 rfl rfl rfl ?_
  conv => whnf
  refine loop_k (ι := Nat) [0, 6] [] (fun k => k ≤ l.length ∧ True) (fun k => l.length - k) 0 (fun k => [(3, .pv (roL 3 cKey ((l.take k).foldl putK []))), (7, .pv (vint k))]) (fun k => []) [] ⟨Nat.zero_le _, trivial⟩ ?_ (fun k hk => ?_)
  · (repeat' (first | exact PSub.rfl | exact rfl | exact PSubs.rfl | exact trivial | refine And.intro ?_ ?_)); all_goals (exact PSub.nil_ro _ _)
  obtain ⟨hkn, hinv⟩ := hk
  conv => whnf
  have hlen : ((l.take k).foldl putK []).length ≤ k := by
    have := foldl_putK_length (l := l.take k) (acc := [])
    simp only [List.length_nil, List.length_take] at this; omega
  repeat (any_goals (first
    | (refine ⟨fun (h : (_ : Bool) = true) => ?_, fun (h : (_ : Bool) = false) => ?_⟩ <;> (try simp only [decide_eq_true_eq, decide_eq_false_iff_not, Bool.not_eq_true', Bool.not_eq_false', Int.toNat_natCast, beq_iff_eq, decide_eq_decide, beq_eq_false_iff_ne, ne_eq, reduceCtorEq] at h) <;> (conv => whnf))
    | (refine .inl ⟨_, ac_r22_Put ((l.take k).foldl putK []) (l.getD k default) (by omega), ?_⟩; conv => whnf)
    | (refine And.intro (by (try simp only [Int.toNat_natCast]); omega) ?_; conv => whnf)
    | (refine And.intro (show (_ : Bool) = true from by kernel_rfl) ?_; conv => whnf)
    | (refine .inl ⟨wrap64 (by omega), ?_⟩; conv => whnf)))
  · refine ⟨k + 1, [], ⟨by omega, trivial⟩, by omega, ?_⟩
    rw [take_succ_getD (by omega), List.foldl_append]
    (repeat' (first | exact PSub.rfl | exact rfl | exact PSubs.rfl | exact trivial | refine And.intro ?_ ?_))
  · have e : k = l.length := by omega
    subst e
    rw [List.take_length]
    exact .rfl

theorem sce_split (a b : Scene) : decide (a = b) = (decide (a.name = b.name) && decide (a.items = b.items)) := by
  obtain ⟨a1, a2⟩ := a
  obtain ⟨b1, b2⟩ := b
  rw [Bool.eq_iff_iff]; simp

theorem ac_r36_Same (a b : Scene) (ha : a.items.length ≤ 4194304) : AC Try.prog 17 [.pv (.agg (cSce a)), .pv (.agg (cSce b))] [] (.pv (vbool (decide (a = b)))) [] := by
  refine AC.of_awp (T := T) T_ok hm Try.call17 Try.func17 rfl rfl rfl ?_
  conv => whnf
  repeat (any_goals (first
    | (refine ⟨fun (h : (_ : Bool) = true) => ?_, fun (h : (_ : Bool) = false) => ?_⟩ <;> (try simp only [decide_eq_true_eq, decide_eq_false_iff_not, Bool.not_eq_true', Bool.not_eq_false', Int.toNat_natCast, beq_iff_eq, decide_eq_decide, beq_eq_false_iff_ne, ne_eq, reduceCtorEq] at h) <;> (conv => whnf))
    | (refine .inl ⟨_, ac_r22_Same a.items b.items ha, ?_⟩; conv => whnf)
    | (refine And.intro (by (try simp only [Int.toNat_natCast]); omega) ?_; conv => whnf)
    | (refine And.intro (show (_ : Bool) = true from by kernel_rfl) ?_; conv => whnf)
    | (refine .inl ⟨wrap64 (by omega), ?_⟩; conv => whnf)))
  all_goals (rw [sce_split]; first | (refine PSub.sb ?_; simp [*]; done) | (refine PSub.lit_sb ?_; simp [*]; done))

theorem write_eq (a b : Write) : (decide (a.key.dev = b.key.dev) && (decide (a.key.cluster = b.key.cluster) && (decide (a.key.attr = b.key.attr) && (decide (a.value.kind = b.value.kind) && (decide (a.value.n = b.value.n) && (decide (a.value.s = b.value.s) &&
    (decide (a.cause.kind = b.cause.kind) && (decide (a.cause.name = b.cause.name) && (decide (a.cause.prio = b.cause.prio) && (decide (a.order = b.order) && true)))))))))) = decide (a = b) := by
  obtain ⟨⟨a1, a2, a3⟩, ⟨a4, a5, a6⟩, ⟨a7, a8, a9⟩, a0⟩ := a
  obtain ⟨⟨b1, b2, b3⟩, ⟨b4, b5, b6⟩, ⟨b7, b8, b9⟩, b0⟩ := b
  rw [Bool.eq_iff_iff]; simp [and_assoc]

theorem ac_r36_SameWrites (a b : List Write) (ha : a.length ≤ 4194304) : AC Try.prog 18 [.pv (roL 10 cWrite a), .pv (roL 10 cWrite b)] [] (.pv (vbool (decide (a = b)))) [] := by
  refine AC.of_awp (T := T) T_ok hm Try.call18 Try.func18 rfl rfl rfl ?_
  conv => whnf
  refine ⟨fun h => ?_, fun h => ?_⟩ <;> (try simp only [decide_eq_true_eq, decide_eq_false_iff_not, Bool.not_eq_true', Bool.not_eq_false', Int.toNat_natCast, beq_iff_eq, decide_eq_decide, beq_eq_false_iff_ne, ne_eq, reduceCtorEq] at h) <;> (conv => whnf)
  · exact PSub.lit_sb (by symm; simp only [decide_eq_false_iff_not]; intro e; exact h (by rw [e]))
  have hl := h
  refine loop_k (ι := Nat) [0, 1, 12] [] (fun k => k ≤ a.length ∧ (∀ j, j < k → a.getD j default = b.getD j default)) (fun k => a.length - k) 0 (fun k => [(13, .pv (vint k))]) (fun _ => []) [] ⟨Nat.zero_le _, fun j h => absurd h (by omega)⟩ ?_ (fun k hk => ?_)
  · (repeat' (first | exact PSub.rfl | exact rfl | exact PSubs.rfl | exact trivial | refine And.intro ?_ ?_))
  obtain ⟨hkn, hinv⟩ := hk
  conv => whnf
  repeat (any_goals (first
    | (refine ⟨fun (h : (_ : Bool) = true) => ?_, fun (h : (_ : Bool) = false) => ?_⟩ <;> (try simp only [decide_eq_true_eq, decide_eq_false_iff_not, Bool.not_eq_true', Bool.not_eq_false', Int.toNat_natCast, beq_iff_eq, decide_eq_decide, beq_eq_false_iff_ne, ne_eq, reduceCtorEq] at h) <;> (conv => whnf))
    | (refine And.intro (by (try simp only [Int.toNat_natCast]); omega) ?_; conv => whnf)
    | (refine And.intro (show (_ : Bool) = true from by kernel_rfl) ?_; conv => whnf)
    | (refine .inl ⟨wrap64 (by omega), ?_⟩; conv => whnf)))
  all_goals try rw [write_eq] at h
  all_goals try simp only [decide_eq_true_eq, decide_eq_false_iff_not] at h
  · exact PSub.lit_sb (by symm; simp only [decide_eq_false_iff_not]; intro e; exact h (by rw [e]))
  · refine ⟨k + 1, [], ⟨by omega, ?_⟩, by first | omega | (dsimp only; omega), ?_⟩
    rotate_left
    · (repeat' (first | exact PSub.rfl | exact rfl | exact PSubs.rfl | exact trivial | refine And.intro ?_ ?_))
    intro j hj
    by_cases e : j = k
    · subst e; first | exact h | simpa [-List.getD_eq_getElem?_getD] using h | simp_all [-List.getD_eq_getElem?_getD]
    · exact hinv j (by omega)
  · exact PSub.lit_sb (by symm; simp only [decide_eq_true_eq]; exact list_eq (by omega) fun i hi => hinv i (by omega))

theorem applyS_succ {s : Scene} {c : Cause} {k : Nat} : applyS s c (k + 1) = applyS s c k ++ [⟨(s.items.getD k default).key, (s.items.getD k default).value, c, k⟩] := by
  unfold applyS; rw [List.range_succ]; simp

theorem ac_scene_Apply (s : Scene) (c : Cause) (hs : s.items.length ≤ 8388600) : AC Try.prog 19 [.pv (.agg (cSce s)), .pv (.agg (cCause c))] [] (.pv (roL 10 cWrite (applyS s c s.items.length))) [] := by
  refine AC.of_awp (T := T) T_ok hm Try.call19 Try.func19 rfl rfl rfl ?_
  conv => whnf
  refine loop_k (ι := Nat) [3, 9, 10] [3] (fun k => k ≤ s.items.length ∧ True) (fun k => s.items.length - k) 0 (fun k => [(5, .own 500), (11, .pv (vint k))]) (fun k => [(500, rowL 10 cWrite (applyS s c k))]) [] ⟨Nat.zero_le _, trivial⟩ ?_ (fun k hk => ?_)
  · (repeat' (first | exact PSub.rfl | exact rfl | exact PSubs.rfl | exact trivial | refine And.intro ?_ ?_)); all_goals (first | (simp; done) | exact PSubs.rfl | skip)
  obtain ⟨hkn, hinv⟩ := hk
  conv => whnf
  have hlen : (applyS s c k).length = k := by simp [applyS]
  repeat (any_goals (first
    | (refine ⟨fun (h : (_ : Bool) = true) => ?_, fun (h : (_ : Bool) = false) => ?_⟩ <;> (try simp only [decide_eq_true_eq, decide_eq_false_iff_not, Bool.not_eq_true', Bool.not_eq_false', Int.toNat_natCast, beq_iff_eq, decide_eq_decide, beq_eq_false_iff_ne, ne_eq, reduceCtorEq] at h) <;> (conv => whnf))
    | (refine And.intro (by (try simp only [Int.toNat_natCast]); omega) ?_; conv => whnf)
    | (refine And.intro (show (_ : Bool) = true from by kernel_rfl) ?_; conv => whnf)
    | (refine .inl ⟨wrap64 (by omega), ?_⟩; conv => whnf)))
  · refine ⟨k + 1, [(500, 25)], ⟨by omega, trivial⟩, by omega, ?_⟩
    rw [applyS_succ]
    (repeat' (first | exact PSub.rfl | exact rfl | exact PSubs.rfl | exact trivial | refine And.intro ?_ ?_))
    · simp
    · refine rows_snocF (fun i hi => by simp only [if_pos hi]; exact PSubs.rfl) (by simp only [if_neg (Nat.lt_irrefl _), Nat.sub_self]; exact PSubs.rfl)
  · have e : k = s.items.length := by omega
    subst e
    exact .rfl

theorem ac_r36_Apply (s : Scene) (c : Cause) (hs : s.items.length ≤ 8388600) : AC Try.prog 20 [.pv (.agg (cSce s)), .pv (.agg (cCause c))] [] (.pv (roL 10 cWrite (applyS s c s.items.length))) [] := by
  refine AC.of_awp (T := T) T_ok hm Try.call20 Try.func20 rfl rfl rfl ?_
  conv => whnf
  refine loop_k (ι := Nat) [2, 3, 9] [2, 3] (fun k => k ≤ s.items.length ∧ True) (fun k => s.items.length - k) 0 (fun k => [(5, .own 500), (10, .pv (vint k))]) (fun k => [(500, rowL 10 cWrite (applyS s c k))]) [] ⟨Nat.zero_le _, trivial⟩ ?_ (fun k hk => ?_)
  · (repeat' (first | exact PSub.rfl | exact rfl | exact PSubs.rfl | exact trivial | refine And.intro ?_ ?_)); all_goals (first | (simp; done) | exact PSubs.rfl | skip)
  obtain ⟨hkn, hinv⟩ := hk
  conv => whnf
  have hlen : (applyS s c k).length = k := by simp [applyS]
  repeat (any_goals (first
    | (refine ⟨fun (h : (_ : Bool) = true) => ?_, fun (h : (_ : Bool) = false) => ?_⟩ <;> (try simp only [decide_eq_true_eq, decide_eq_false_iff_not, Bool.not_eq_true', Bool.not_eq_false', Int.toNat_natCast, beq_iff_eq, decide_eq_decide, beq_eq_false_iff_ne, ne_eq, reduceCtorEq] at h) <;> (conv => whnf))
    | (refine And.intro (by (try simp only [Int.toNat_natCast]); omega) ?_; conv => whnf)
    | (refine And.intro (show (_ : Bool) = true from by kernel_rfl) ?_; conv => whnf)
    | (refine .inl ⟨wrap64 (by omega), ?_⟩; conv => whnf)))
  · refine ⟨k + 1, [(500, 30)], ⟨by omega, trivial⟩, by omega, ?_⟩
    rw [applyS_succ]
    (repeat' (first | exact PSub.rfl | exact rfl | exact PSubs.rfl | exact trivial | refine And.intro ?_ ?_))
    · simp
    · refine rows_snocF (fun i hi => by simp only [if_pos hi]; exact PSubs.rfl) (by simp only [if_neg (Nat.lt_irrefl _), Nat.sub_self]; exact PSubs.rfl)
  · have e : k = s.items.length := by omega
    subst e
    exact .rfl

end Go.Abs

namespace Go.Abs
open Go.Proofs
set_option maxRecDepth 10000

theorem nodup_sub_length {l : List Key} : ∀ {m : List Key}, l.Nodup → (∀ x ∈ l, x ∈ m) → l.length ≤ m.length := by
  induction l with
  | nil => intro m _ _; simp
  | cons a l ih =>
    intro m hn hs
    obtain ⟨h1, h2⟩ := List.nodup_cons.1 hn
    have ha : a ∈ m := hs a (by simp)
    have := ih (m := m.erase a) h2 (fun x hx => (List.mem_erase_of_ne (fun e => h1 (by rw [← e]; exact hx))).2 (hs x (by simp [hx])))
    rw [List.length_erase_of_mem ha] at this
    have : 0 < m.length := List.length_pos_of_mem ha
    simp only [List.length_cons]; omega

theorem difB_eq (s l : List Item) (k : Key) : difB (findI s k) (findI l k) = (!decide (itemAt l k < l.length) || decide ((getI l k).value ≠ (getI s k).value)) := by
  rw [itemAt_isSome, getI_find, getI_find]
  cases findI l k <;> simp [difB]

theorem asc_filter {l : List Key} {p : Key → Bool} (h : Asc l) : Asc (l.filter p) := h.sublist List.filter_sublist

theorem sortK_filter (l m : List Key) (p : Key → Bool) (h : ∀ x, x ∈ m ↔ x ∈ l) : sortK (m.filter p) = (sortK l).filter p := by
  refine asc_ext (asc_sortK _) (asc_filter (asc_sortK _)) fun x => ?_
  rw [mem_sortK, List.mem_filter, List.mem_filter, mem_sortK, h]

theorem filt_succ {ks : List Key} {k : Nat} {p : Key → Bool} (hk : k < ks.length) : (ks.take (k + 1)).filter p = (ks.take k).filter p ++ (if p (ks.getD k default) = true then [ks.getD k default] else []) := by
  rw [take_succ_getD hk, List.filter_append]
  congr 1
  by_cases e : p (ks.getD k default) = true
  · rw [if_pos e]; simp only [List.filter_cons, List.filter_nil, e, if_true]
  · rw [if_neg e]; simp only [List.filter_cons, List.filter_nil, e, Bool.false_eq_true, if_false]

theorem ac_r36_Differs (s : Scene) (l : List Item) (hs : smallL s.items) (hl : smallL l) : AC Try.prog 23 [.pv (.agg (cSce s)), .pv (roL 7 cItem l)] [] (.pv (roL 3 cKey (difS s.items l))) [] := by
  have hs' : s.items.length ≤ 1048576 := hs
  refine AC.of_awp (T := T) T_ok hm Try.call23 Try.func23 rfl rfl rfl ?_
  conv => whnf
  refine loop_k (ι := Nat) [1, 2, 15] [2] (fun k => k ≤ s.items.length ∧ True) (fun k => s.items.length - k) 0 (fun k => [(5, .own 500), (16, .pv (vint k))]) (fun k => [(500, rowL 3 cKey ((s.items.take k).map Item.key))]) [] ⟨Nat.zero_le _, trivial⟩ ?_ (fun k hk => ?_)
  · (repeat' (first | exact PSub.rfl | exact rfl | exact PSubs.rfl | exact trivial | refine And.intro ?_ ?_)); all_goals (first | (simp; done) | exact PSubs.rfl | skip)
  obtain ⟨hkn, hinv⟩ := hk
  conv => whnf
  have hlen : ((s.items.take k).map Item.key).length = k := by simp; omega
  repeat (any_goals (first
    | (refine ⟨fun (h : (_ : Bool) = true) => ?_, fun (h : (_ : Bool) = false) => ?_⟩ <;> (try simp only [decide_eq_true_eq, decide_eq_false_iff_not, Bool.not_eq_true', Bool.not_eq_false', Int.toNat_natCast, beq_iff_eq, decide_eq_decide, beq_eq_false_iff_ne, ne_eq, reduceCtorEq] at h) <;> (conv => whnf))
    | (refine .inl ⟨_, ac_r36_Sorted ((s.items.take k).map Item.key) (by omega), ?_⟩; conv => whnf)
    | (refine And.intro (by (try simp only [Int.toNat_natCast]); omega) ?_; conv => whnf)
    | (refine And.intro (show (_ : Bool) = true from by kernel_rfl) ?_; conv => whnf)
    | (refine .inl ⟨wrap64 (by omega), ?_⟩; conv => whnf)))
  · refine ⟨k + 1, [(500, 27)], ⟨by omega, trivial⟩, by omega, ?_⟩
    rw [take_succ_getD (by omega), List.map_append]
    (repeat' (first | exact PSub.rfl | exact rfl | exact PSubs.rfl | exact trivial | refine And.intro ?_ ?_))
    · simp
    · refine rows_snocF (fun i hi => by simp only [if_pos hi]; exact PSubs.rfl) (by simp only [if_neg (Nat.lt_irrefl _), Nat.sub_self]; exact PSubs.rfl)
  have ek : k = s.items.length := by omega
  subst ek
  rw [List.take_length]
  unfold difS
  have hkl := sortK_length (s.items.map Item.key)
  simp only [List.length_map] at hkl
  generalize sortK (s.items.map Item.key) = ks at *
  refine loop_k (ι := Nat) [1, 2, 5, 32] [2] (fun k => k ≤ ks.length ∧ True) (fun k => ks.length - k) 0 (fun k => [(7, .own 501), (33, .pv (vint k))]) (fun k => [(501, rowL 3 cKey ((ks.take k).filter fun q => difB (findI s.items q) (findI l q)))]) [] ⟨Nat.zero_le _, trivial⟩ ?_ (fun k hk => ?_)
  · (repeat' (first | exact PSub.rfl | exact rfl | exact PSubs.rfl | exact trivial | refine And.intro ?_ ?_)); all_goals (first | (simp; done) | exact PSubs.rfl | skip)
  obtain ⟨hkn, hinv⟩ := hk
  conv => whnf
  have hlen2 : ((ks.take k).filter fun q => difB (findI s.items q) (findI l q)).length ≤ k := by
    have := List.length_filter_le (fun q => difB (findI s.items q) (findI l q)) (ks.take k)
    simp only [List.length_take] at this; omega
  repeat (any_goals (first
    | (refine ⟨fun (h : (_ : Bool) = true) => ?_, fun (h : (_ : Bool) = false) => ?_⟩ <;> (try simp only [decide_eq_true_eq, decide_eq_false_iff_not, Bool.not_eq_true', Bool.not_eq_false', Int.toNat_natCast, beq_iff_eq, decide_eq_decide, beq_eq_false_iff_ne, ne_eq, reduceCtorEq] at h) <;> (conv => whnf))
    | (refine .inl ⟨_, ac_r22_Get s.items (ks.getD k default) hs, ?_⟩; conv => whnf)
    | (refine .inl ⟨_, ac_r22_Get l (ks.getD k default) hl, ?_⟩; conv => whnf)
    | (refine And.intro (by (try simp only [Int.toNat_natCast]); omega) ?_; conv => whnf)
    | (refine And.intro (show (_ : Bool) = true from by kernel_rfl) ?_; conv => whnf)
    | (refine .inl ⟨wrap64 (by omega), ?_⟩; conv => whnf)))
  · have e : difB (findI s.items (ks.getD k default)) (findI l (ks.getD k default)) = true := by rw [difB_eq]; simp [h, -List.getD_eq_getElem?_getD]
    refine ⟨k + 1, [(501, 70)], ⟨by omega, trivial⟩, by omega, ?_⟩
    rw [filt_succ (by omega), if_pos e]
    (repeat' (first | exact PSub.rfl | exact rfl | exact PSubs.rfl | exact trivial | refine And.intro ?_ ?_))
    · simp
    · refine rows_snocF (fun i hi => by simp only [if_pos hi]; exact PSubs.rfl) (by simp only [if_neg (Nat.lt_irrefl _), Nat.sub_self]; exact PSubs.rfl)
  · rw [show (_ && (_ && (_ && true))) = decide (_ = _) from val_eq _ _] at h
    simp only [decide_eq_false_iff_not] at h
    have e : difB (findI s.items (ks.getD k default)) (findI l (ks.getD k default)) = true := by rw [difB_eq]; simp [h, -List.getD_eq_getElem?_getD]
    refine ⟨k + 1, [(501, 70)], ⟨by omega, trivial⟩, by omega, ?_⟩
    rw [filt_succ (by omega), if_pos e]
    (repeat' (first | exact PSub.rfl | exact rfl | exact PSubs.rfl | exact trivial | refine And.intro ?_ ?_))
    · simp
    · refine rows_snocF (fun i hi => by simp only [if_pos hi]; exact PSubs.rfl) (by simp only [if_neg (Nat.lt_irrefl _), Nat.sub_self]; exact PSubs.rfl)
  · rename_i h2
    rw [show (_ && (_ && (_ && true))) = decide (_ = _) from val_eq _ _] at h
    simp only [decide_eq_true_eq] at h
    have e : difB (findI s.items (ks.getD k default)) (findI l (ks.getD k default)) = false := by rw [difB_eq]; simp [h, h2, -List.getD_eq_getElem?_getD]
    refine ⟨k + 1, [], ⟨by omega, trivial⟩, by omega, ?_⟩
    rw [filt_succ (by omega), if_neg (by rw [e]; simp), List.append_nil]
    (repeat' (first | exact PSub.rfl | exact rfl | exact PSubs.rfl | exact trivial | refine And.intro ?_ ?_))
    intro i hi; exact PSubs.rfl
  · rw [List.take_of_length_le (by omega)]
    exact .rfl

theorem ac_scene_Differs (s : Scene) (l : List Item) (hs : smallL s.items) (hl : smallL l) : AC Try.prog 22 [.pv (.agg (cSce s)), .pv (roL 7 cItem l)] [] (.pv (roL 3 cKey (difS s.items l))) [] := by
  have hs' : s.items.length ≤ 1048576 := hs
  refine AC.of_awp (T := T) T_ok hm Try.call22 Try.func22 rfl rfl rfl ?_
  conv => whnf
  refine .inl ⟨_, ac_scene_index l hl, ?_⟩
  conv => whnf
  refine .inl ⟨_, ac_scene_index s.items hs, ?_⟩
  conv => whnf
  refine loop_k (ι := List Key) [5, 16] [] (fun x => x.Nodup ∧ ∀ q ∈ x, (findI s.items q).isSome = true) (fun x => s.items.length + 1 - x.length) [] (fun x => [(6, .own 500)])
    (fun x => [(500, rowL 3 cKey (x.reverse.filter fun q => difB (findI s.items q) (findI l q))), (16, .miter KKey (itemLook (findI s.items)) (x.map fun q => .agg ⟨vKey q⟩))]) [] ⟨List.nodup_nil, fun q hq => by simp at hq⟩ ?_ (fun x hx => ?_)
  · (repeat' (first | exact PSub.rfl | exact rfl | exact PSubs.rfl | exact trivial | refine And.intro ?_ ?_))
  obtain ⟨hn, hx⟩ := hx
  have hin : ∀ q ∈ x, q ∈ s.items.map Item.key := fun q hq => by
    obtain ⟨y, hy, e⟩ := findI_some.1 (hx q hq)
    exact List.mem_map.2 ⟨y, hy, e⟩
  have hlen := nodup_sub_length hn hin
  rw [List.length_map] at hlen
  have hlen2 : (x.reverse.filter fun q => difB (findI s.items q) (findI l q)).length ≤ x.length := by
    have := List.length_filter_le (fun q => difB (findI s.items q) (findI l q)) x.reverse
    rwa [List.length_reverse] at this
  conv => whnf
  refine ⟨fun v p hv hp hns => ?_, fun hall => ?_⟩
  · obtain ⟨q, rfl⟩ := has_key hv
    rw [itemLook_key] at hp
    cases hfq : findI s.items q with
    | none => rw [hfq] at hp; cases hp
    | some y =>
      rw [hfq] at hp
      cases hp
      have hnx : q ∉ x := fun h => hns (List.mem_map.2 ⟨q, h, rfl⟩)
      conv => whnf
      refine ⟨_, by rw [itemLook_key, hfq]; rfl, ?_⟩
      conv => whnf
      have hlq : x.length + 1 ≤ s.items.length := by
        have := nodup_sub_length (l := q :: x) (m := s.items.map Item.key) (List.nodup_cons.2 ⟨hnx, hn⟩) (fun r hr => by
          rcases List.mem_cons.1 hr with rfl | hr
          · obtain ⟨z, hz, e⟩ := findI_some.1 (show (findI s.items r).isSome = true by rw [hfq]; rfl)
            exact List.mem_map.2 ⟨z, hz, e⟩
          · exact hin r hr)
        simpa using this
      have hJ : (q :: x).Nodup ∧ ∀ r ∈ q :: x, (findI s.items r).isSome = true := ⟨List.nodup_cons.2 ⟨hnx, hn⟩, fun r hr => by
        rcases List.mem_cons.1 hr with rfl | hr
        · rw [hfq]; rfl
        · exact hx r hr⟩
      have hrow : ((q :: x).reverse.filter fun q => difB (findI s.items q) (findI l q)) = (x.reverse.filter fun q => difB (findI s.items q) (findI l q)) ++ (if difB (findI s.items q) (findI l q) = true then [q] else []) := by
        rw [List.reverse_cons, List.filter_append]
        congr 1
        by_cases e : difB (findI s.items q) (findI l q) = true
        · rw [if_pos e]; simp only [List.filter_cons, List.filter_nil, e, if_true]
        · rw [if_neg e]; simp only [List.filter_cons, List.filter_nil, e, Bool.false_eq_true, if_false]
      refine ⟨fun p hp => ?_, fun hp => ?_⟩
      · change (findI l q).map _ = some p at hp
        cases hz : findI l q with
        | none => rw [hz] at hp; cases hp
        | some z =>
          rw [hz] at hp; cases hp
          conv => whnf
          repeat (any_goals (first
            | (refine ⟨fun (h : (_ : Bool) = true) => ?_, fun (h : (_ : Bool) = false) => ?_⟩ <;> (try simp only [decide_eq_true_eq, decide_eq_false_iff_not, Bool.not_eq_true', Bool.not_eq_false', Int.toNat_natCast, beq_iff_eq, decide_eq_decide, beq_eq_false_iff_ne, ne_eq, reduceCtorEq] at h) <;> (conv => whnf))
            | (refine And.intro (by (try simp only [Int.toNat_natCast]); omega) ?_; conv => whnf)
            | (refine And.intro (show (_ : Bool) = true from by kernel_rfl) ?_; conv => whnf)
            | (refine .inl ⟨wrap64 (by omega), ?_⟩; conv => whnf)))
          · rw [show (_ && (_ && (_ && true))) = decide (_ = _) from val_eq z.value y.value] at h
            simp only [decide_eq_false_iff_not] at h
            rw [if_pos (show difB (findI s.items q) (findI l q) = true by rw [hfq, hz]; simpa [difB] using h)] at hrow
            refine ⟨q :: x, [(500, 40)], hJ, by simp only [List.length_cons]; omega, ?_⟩
            rw [hrow]
            (repeat' (first | exact PSub.rfl | exact rfl | exact PSubs.rfl | exact trivial | refine And.intro ?_ ?_))
            · simp
            · refine rows_snocF (fun i hi => by simp only [if_pos hi]; exact PSubs.rfl) (by simp only [if_neg (Nat.lt_irrefl _), Nat.sub_self]; exact PSubs.rfl)
          · rw [show (_ && (_ && (_ && true))) = decide (_ = _) from val_eq z.value y.value] at h
            simp only [decide_eq_true_eq] at h
            rw [if_neg (show ¬ difB (findI s.items q) (findI l q) = true by rw [hfq, hz]; simpa [difB] using h), List.append_nil] at hrow
            refine ⟨q :: x, [], hJ, by simp only [List.length_cons]; omega, ?_⟩
            rw [hrow]
            (repeat' (first | exact PSub.rfl | exact rfl | exact PSubs.rfl | exact trivial | refine And.intro ?_ ?_))
            intro i hi; exact PSubs.rfl
      · change (findI l q).map _ = none at hp
        have hz : findI l q = none := by simpa using hp
        conv => whnf
        repeat (any_goals (first
          | (refine ⟨fun (h : (_ : Bool) = true) => ?_, fun (h : (_ : Bool) = false) => ?_⟩ <;> (try simp only [decide_eq_true_eq, decide_eq_false_iff_not, Bool.not_eq_true', Bool.not_eq_false', Int.toNat_natCast, beq_iff_eq, decide_eq_decide, beq_eq_false_iff_ne, ne_eq, reduceCtorEq] at h) <;> (conv => whnf))
          | (refine And.intro (by (try simp only [Int.toNat_natCast]); omega) ?_; conv => whnf)
          | (refine And.intro (show (_ : Bool) = true from by kernel_rfl) ?_; conv => whnf)
          | (refine .inl ⟨wrap64 (by omega), ?_⟩; conv => whnf)))
        rw [if_pos (show difB (findI s.items q) (findI l q) = true by rw [hz]; rfl)] at hrow
        refine ⟨q :: x, [(500, 40)], hJ, by simp only [List.length_cons]; omega, ?_⟩
        rw [hrow]
        (repeat' (first | exact PSub.rfl | exact rfl | exact PSubs.rfl | exact trivial | refine And.intro ?_ ?_))
        · simp
        · refine rows_snocF (fun i hi => by simp only [if_pos hi]; exact PSubs.rfl) (by simp only [if_neg (Nat.lt_irrefl _), Nat.sub_self]; exact PSubs.rfl)
  · conv => whnf
    refine .inl ⟨_, ac_scene_ascending (x.reverse.filter fun q => difB (findI s.items q) (findI l q)) (by omega), ?_⟩
    conv => whnf
    refine PSub.lst ?_
    unfold difS
    refine sortK_filter _ _ _ fun q => ?_
    rw [List.mem_reverse]
    constructor
    · exact hin q
    · intro hq
      obtain ⟨y, hy, e⟩ := List.mem_map.1 hq
      have h1 : (findI s.items q).isSome = true := findI_some.2 ⟨y, hy, e⟩
      obtain ⟨z, hz⟩ := Option.isSome_iff_exists.1 h1
      have h2 := hall (.agg ⟨vKey q⟩) (.agg (cItem z)) ⟨_, rfl, rfl, fun i lf hi => by
        match i, hi with
        | 0, hi => cases hi; exact ⟨_, rfl⟩
        | 1, hi => cases hi; exact ⟨_, rfl⟩
        | 2, hi => cases hi; exact ⟨_, rfl⟩
        | i + 3, hi => simp at hi⟩ (by rw [itemLook_key, hz]; rfl)
      obtain ⟨r, hr, e2⟩ := List.mem_map.1 h2
      rw [← vKey_inj.1 e2]; exact hr

theorem ac_scene_Active (s : Scene) (l : List Item) (hs : smallL s.items) (hl : smallL l) : AC Try.prog 24 [.pv (.agg (cSce s)), .pv (roL 7 cItem l)] [] (.pv (vbool (decide (difS s.items l = [])))) [] := by
  refine AC.of_awp (T := T) T_ok hm Try.call24 Try.func24 rfl rfl rfl ?_
  conv => whnf
  refine .inl ⟨_, ac_scene_Differs s l hs hl, ?_⟩
  conv => whnf
  exact PSub.sb (by simp [List.length_eq_zero_iff])

theorem ac_r36_Active (s : Scene) (l : List Item) (hs : smallL s.items) (hl : smallL l) : AC Try.prog 25 [.pv (.agg (cSce s)), .pv (roL 7 cItem l)] [] (.pv (vbool (decide (difS s.items l = [])))) [] := by
  refine AC.of_awp (T := T) T_ok hm Try.call25 Try.func25 rfl rfl rfl ?_
  conv => whnf
  refine .inl ⟨_, ac_r36_Differs s l hs hl, ?_⟩
  conv => whnf
  exact PSub.sb (by simp [List.length_eq_zero_iff])

end Go.Abs

namespace Go.Abs
open Go.Proofs
set_option maxRecDepth 10000

theorem fm_succ {α β : Type} [Inhabited α] {l : List α} {k : Nat} {f : α → Option β} (hk : k < l.length) : (l.take (k + 1)).filterMap f = (l.take k).filterMap f ++ (match f (l.getD k default) with | some y => [y] | none => []) := by
  rw [take_succ_getD hk, List.filterMap_append]
  congr 1
  cases h : f (l.getD k default) with
  | none => simp only [List.filterMap_cons, List.filterMap_nil, h]
  | some y => simp only [List.filterMap_cons, List.filterMap_nil, h]

theorem fm_length {α β : Type} {l : List α} {k : Nat} {f : α → Option β} : ((l.take k).filterMap f).length ≤ k := by
  have := List.length_filterMap_le f (l.take k)
  simp only [List.length_take] at this; omega

theorem ac_scene_Undo (s : Scene) (l : List Item) (hs : smallL s.items) (hl : smallL l) : AC Try.prog 26 [.pv (.agg (cSce s)), .pv (roL 7 cItem l)] [] (.pv (.agg (cSce (undoS s l)))) [] := by
  have hs' : s.items.length ≤ 1048576 := hs
  refine AC.of_awp (T := T) T_ok hm Try.call26 Try.func26 rfl rfl rfl ?_
  conv => whnf
  refine .inl ⟨_, ac_scene_index l hl, ?_⟩
  conv => whnf
  refine loop_k (ι := Nat) [4, 5, 6, 17, 18] [4] (fun k => k ≤ s.items.length ∧ True) (fun k => s.items.length - k) 0 (fun k => [(19, .pv (vint k))]) (fun k => [(6, .box [.pv (vstr s.name), .own 500]), (500, rowL 7 cItem ((s.items.take k).filterMap (undoI l)))]) [] ⟨Nat.zero_le _, trivial⟩ ?_ (fun k hk => ?_)
  · (repeat' (first | exact PSub.rfl | exact rfl | exact PSubs.rfl | exact trivial | refine And.intro ?_ ?_)); all_goals (skip)
  obtain ⟨hkn, hinv⟩ := hk
  conv => whnf
  have hlen := fm_length (l := s.items) (k := k) (f := undoI l)
  repeat (any_goals (first
    | (refine ⟨fun (h : (_ : Bool) = true) => ?_, fun (h : (_ : Bool) = false) => ?_⟩ <;> (try simp only [decide_eq_true_eq, decide_eq_false_iff_not, Bool.not_eq_true', Bool.not_eq_false', Int.toNat_natCast, beq_iff_eq, decide_eq_decide, beq_eq_false_iff_ne, ne_eq, reduceCtorEq] at h) <;> (conv => whnf))
    | (refine And.intro (by (try simp only [Int.toNat_natCast]); omega) ?_; conv => whnf)
    | (refine And.intro (show (_ : Bool) = true from by kernel_rfl) ?_; conv => whnf)
    | (refine .inl ⟨wrap64 (by omega), ?_⟩; conv => whnf)))
  · have hfm := fm_succ (l := s.items) (k := k) (f := undoI l) (by omega)
    refine ⟨fun p hp => ?_, fun hp => ?_⟩
    · change (findI l (s.items.getD k default).key).map _ = some p at hp
      cases hz : findI l (s.items.getD k default).key with
      | none => rw [hz] at hp; cases hp
      | some z =>
        rw [hz] at hp; cases hp
        rw [show undoI l (s.items.getD k default) = some ⟨(s.items.getD k default).key, z.value, 0⟩ by rw [undoI, hz, ← findI_key hz]; rfl] at hfm
        conv => whnf
        repeat (any_goals (first
          | (refine ⟨fun (h : (_ : Bool) = true) => ?_, fun (h : (_ : Bool) = false) => ?_⟩ <;> (try simp only [decide_eq_true_eq, decide_eq_false_iff_not, Bool.not_eq_true', Bool.not_eq_false', Int.toNat_natCast, beq_iff_eq, decide_eq_decide, beq_eq_false_iff_ne, ne_eq, reduceCtorEq] at h) <;> (conv => whnf))
          | (refine And.intro (by (try simp only [Int.toNat_natCast]); omega) ?_; conv => whnf)
          | (refine And.intro (show (_ : Bool) = true from by kernel_rfl) ?_; conv => whnf)
          | (refine .inl ⟨wrap64 (by omega), ?_⟩; conv => whnf)))
        refine ⟨k + 1, [(500, 39)], ⟨by omega, trivial⟩, by omega, ?_⟩
        rw [hfm]
        (repeat' (first | exact PSub.rfl | exact rfl | exact PSubs.rfl | exact trivial | refine And.intro ?_ ?_))
        · simp
        · refine rows_snocF (fun i hi => by simp only [if_pos hi]; exact PSubs.rfl) (by simp only [if_neg (Nat.lt_irrefl _), Nat.sub_self]; exact PSubs.rfl)
    · change (findI l (s.items.getD k default).key).map _ = none at hp
      have hz : findI l (s.items.getD k default).key = none := by simpa using hp
      rw [show undoI l (s.items.getD k default) = none by rw [undoI, hz]; rfl] at hfm
      conv => whnf
      repeat (any_goals (first
        | (refine ⟨fun (h : (_ : Bool) = true) => ?_, fun (h : (_ : Bool) = false) => ?_⟩ <;> (try simp only [decide_eq_true_eq, decide_eq_false_iff_not, Bool.not_eq_true', Bool.not_eq_false', Int.toNat_natCast, beq_iff_eq, decide_eq_decide, beq_eq_false_iff_ne, ne_eq, reduceCtorEq] at h) <;> (conv => whnf))
        | (refine And.intro (by (try simp only [Int.toNat_natCast]); omega) ?_; conv => whnf)
        | (refine And.intro (show (_ : Bool) = true from by kernel_rfl) ?_; conv => whnf)
        | (refine .inl ⟨wrap64 (by omega), ?_⟩; conv => whnf)))
      refine ⟨k + 1, [], ⟨by omega, trivial⟩, by omega, ?_⟩
      rw [hfm.trans (List.append_nil _)]
      (repeat' (first | exact PSub.rfl | exact rfl | exact PSubs.rfl | exact trivial | refine And.intro ?_ ?_))
      intro i hi; exact PSubs.rfl
  · rw [List.take_of_length_le (by omega)]
    exact .rfl

theorem ac_r36_Undo (s : Scene) (l : List Item) (hs : smallL s.items) (hl : smallL l) : AC Try.prog 27 [.pv (.agg (cSce s)), .pv (roL 7 cItem l)] [] (.pv (.agg (cSce (undoS s l)))) [] := by
  have hs' : s.items.length ≤ 1048576 := hs
  refine AC.of_awp (T := T) T_ok hm Try.call27 Try.func27 rfl rfl rfl ?_
  conv => whnf
  refine loop_k (ι := Nat) [1, 2, 4, 5, 14] [2, 4] (fun k => k ≤ s.items.length ∧ True) (fun k => s.items.length - k) 0 (fun k => [(15, .pv (vint k))]) (fun k => [(5, .box [.pv (vstr s.name), .own 500]), (500, rowL 7 cItem ((s.items.take k).filterMap (undoI l)))]) [] ⟨Nat.zero_le _, trivial⟩ ?_ (fun k hk => ?_)
  · (repeat' (first | exact PSub.rfl | exact rfl | exact PSubs.rfl | exact trivial | refine And.intro ?_ ?_)); all_goals (skip)
  obtain ⟨hkn, hinv⟩ := hk
  conv => whnf
  have hlen := fm_length (l := s.items) (k := k) (f := undoI l)
  repeat (any_goals (first
    | (refine ⟨fun (h : (_ : Bool) = true) => ?_, fun (h : (_ : Bool) = false) => ?_⟩ <;> (try simp only [decide_eq_true_eq, decide_eq_false_iff_not, Bool.not_eq_true', Bool.not_eq_false', Int.toNat_natCast, beq_iff_eq, decide_eq_decide, beq_eq_false_iff_ne, ne_eq, reduceCtorEq] at h) <;> (conv => whnf))
    | (refine .inl ⟨_, ac_r22_Get l (s.items.getD k default).key hl, ?_⟩; conv => whnf)
    | (refine And.intro (by (try simp only [Int.toNat_natCast]); omega) ?_; conv => whnf)
    | (refine And.intro (show (_ : Bool) = true from by kernel_rfl) ?_; conv => whnf)
    | (refine .inl ⟨wrap64 (by omega), ?_⟩; conv => whnf)))
  · have hfm := fm_succ (l := s.items) (k := k) (f := undoI l) (by omega)
    have hz : findI l (s.items.getD k default).key = some (l.getD (itemAt l (s.items.getD k default).key) default) := by rw [findI_eq, if_pos h]
    rw [show undoI l (s.items.getD k default) = some ⟨(getI l (s.items.getD k default).key).key, (getI l (s.items.getD k default).key).value, 0⟩ by rw [undoI, getI_find, hz]; rfl] at hfm
    refine ⟨k + 1, [(500, 38)], ⟨by omega, trivial⟩, by omega, ?_⟩
    rw [hfm]
    (repeat' (first | exact PSub.rfl | exact rfl | exact PSubs.rfl | exact trivial | refine And.intro ?_ ?_))
    · simp
    · refine rows_snocF (fun i hi => by simp only [if_pos hi]; exact PSubs.rfl) (by simp only [if_neg (Nat.lt_irrefl _), Nat.sub_self]; exact PSubs.rfl)
  · have hfm := fm_succ (l := s.items) (k := k) (f := undoI l) (by omega)
    rw [show undoI l (s.items.getD k default) = none by rw [undoI, findI_eq, if_neg h]; rfl] at hfm
    refine ⟨k + 1, [], ⟨by omega, trivial⟩, by omega, ?_⟩
    rw [hfm.trans (List.append_nil _)]
    (repeat' (first | exact PSub.rfl | exact rfl | exact PSubs.rfl | exact trivial | refine And.intro ?_ ?_))
    intro i hi; exact PSubs.rfl
  · rw [List.take_of_length_le (by omega)]
    exact .rfl

/-! scene.Find -/

theorem ac_scene_Find_1 (x : Scene) (s : ByteArray) : AC Try.prog 53 [.pv (.agg (cSce x)), .pv (.cell [vstr s])] [] (.pv (vbool (decide (x.name = s)))) [] := by
  refine AC.of_awp (T := T) T_ok hm Try.call53 Try.func53 rfl rfl rfl ?_
  conv => whnf
  exact .rfl

def sceB (s : ByteArray) : List PV → Bool
  | [.agg (.val (.string n) :: _)] => decide (n = s)
  | _ => false

theorem ac_slices_IndexFunc_Scene (l : List Scene) (gb : List PV → Bool) (gi : List PV → Int) (hl : smallL l) : AC Try.prog 52 [.pv (roL 2 cSce l), .clo (fun xs => ∃ x : Scene, xs = [.agg (cSce x)]) true gb gi] [] (.pv (vint (ixI l.length (firstI l.length fun i => gb [.agg (cSce (l.getD i default))])))) [] := by
  have hl : l.length ≤ 1048576 := hl
  refine AC.of_awp (T := T) T_ok hm Try.call52 Try.func52 rfl rfl rfl ?_
  conv => whnf
  refine loop_k (ι := Nat) [0, 1, 7] [] (fun k => k ≤ l.length ∧ (∀ j, j < k → gb [.agg (cSce (l.getD j default))] = false)) (fun k => l.length - k) 0 (fun k => [(8, .pv (vint k))]) (fun _ => []) [] ⟨Nat.zero_le _, fun j h => absurd h (by omega)⟩ ?_ (fun k hk => ?_)
  · (repeat' (first | exact PSub.rfl | exact rfl | exact PSubs.rfl | exact trivial | refine And.intro ?_ ?_))
  obtain ⟨hkn, hinv⟩ := hk
  conv => whnf
  repeat (any_goals (first
    | (refine ⟨fun (h : (_ : Bool) = true) => ?_, fun (h : (_ : Bool) = false) => ?_⟩ <;> (try simp only [decide_eq_true_eq, decide_eq_false_iff_not, Bool.not_eq_true', Bool.not_eq_false', Int.toNat_natCast, beq_iff_eq, decide_eq_decide, beq_eq_false_iff_ne, ne_eq, reduceCtorEq] at h) <;> (conv => whnf))
    | (refine And.intro (by (try simp only [Int.toNat_natCast]); omega) ?_; conv => whnf)
    | (refine And.intro (show (_ : Bool) = true from by kernel_rfl) ?_; conv => whnf)
    | (refine .inl ⟨wrap64 (by omega), ?_⟩; conv => whnf)))
  · refine And.intro ⟨l.getD k default, rfl⟩ ?_
    conv => whnf
    repeat (any_goals (first
      | (refine ⟨fun (h : (_ : Bool) = true) => ?_, fun (h : (_ : Bool) = false) => ?_⟩ <;> (try simp only [decide_eq_true_eq, decide_eq_false_iff_not, Bool.not_eq_true', Bool.not_eq_false', Int.toNat_natCast, beq_iff_eq, decide_eq_decide, beq_eq_false_iff_ne, ne_eq, reduceCtorEq] at h) <;> (conv => whnf))
      | (refine And.intro (by (try simp only [Int.toNat_natCast]); omega) ?_; conv => whnf)
      | (refine And.intro (show (_ : Bool) = true from by kernel_rfl) ?_; conv => whnf)
      | (refine .inl ⟨wrap64 (by omega), ?_⟩; conv => whnf)))
    · have e : firstI l.length (fun i => gb [.agg (cSce (l.getD i default))]) = k := firstI_at (by omega) h hinv
      exact PSub.int (by rw [e, ixI, if_pos (by omega)])
    · refine ⟨k + 1, [], ⟨by omega, ?_⟩, by first | omega | (dsimp only; omega), ?_⟩
      rotate_left
      · (repeat' (first | exact PSub.rfl | exact rfl | exact PSubs.rfl | exact trivial | refine And.intro ?_ ?_))
      intro j hj
      by_cases e : j = k
      · subst e; first | exact h | simpa [-List.getD_eq_getElem?_getD] using h | simp_all [-List.getD_eq_getElem?_getD]
      · exact hinv j (by omega)
  · have e : firstI l.length (fun i => gb [.agg (cSce (l.getD i default))]) = l.length := firstI_none fun j hj => hinv j (by omega)
    exact PSub.int (by rw [e, ixI, if_neg (by omega)])

theorem ac_slices_IndexFunc_Scene_f (l : List Scene) (s : ByteArray) (hl : smallL l) : AC Try.prog 52 [.pv (roL 2 cSce l), .fn 53 [.pv (.cell [vstr s])]] [] (.pv (vint (ixI l.length (sceAt l s)))) [] := by
  refine AC.with_fn (pre := [.pv (roL 2 cSce l)]) (post := []) (ac_slices_IndexFunc_Scene l (sceB s) (fun _ => 0) hl) Try.call53 rfl rfl rfl ?_
  rintro xs ⟨x, rfl⟩
  exact ac_scene_Find_1 x s

theorem ac_scene_Find (l : List Scene) (s : ByteArray) (hl : smallL l) (hi : ∀ i, smallL (l.getD i default).items) : AC Try.prog 28 [.pv (roL 2 cSce l), .pv (vstr s)] [] (.pv (.tup [.agg (cSce (findS l s)), vbool (decide (sceAt l s < l.length))])) [] := by
  have hl' : l.length ≤ 1048576 := hl
  refine AC.of_awp (T := T) T_ok hm Try.call28 Try.func28 rfl rfl rfl ?_
  conv => whnf
  refine .inl ⟨_, ac_slices_IndexFunc_Scene_f l s hl, ?_⟩
  conv => whnf
  repeat (any_goals (first
    | (refine ⟨fun (h : (_ : Bool) = true) => ?_, fun (h : (_ : Bool) = false) => ?_⟩ <;> (try simp only [decide_eq_true_eq, decide_eq_false_iff_not, Bool.not_eq_true', Bool.not_eq_false', Int.toNat_natCast, beq_iff_eq, decide_eq_decide, beq_eq_false_iff_ne, ne_eq, reduceCtorEq] at h) <;> (conv => whnf))
    | (refine And.intro (by (try simp only [Int.toNat_natCast]); omega) ?_; conv => whnf)
    | (refine And.intro (show (_ : Bool) = true from by kernel_rfl) ?_; conv => whnf)
    | (refine .inl ⟨wrap64 (by omega), ?_⟩; conv => whnf)))
  · have h1 : ¬ sceAt l s < l.length := fun hh => by rw [ixI, if_pos hh] at h; omega
    rw [findS, if_neg h1]
    refine ⟨?_, ?_⟩ <;> (conv => whnf)
    · exact PSub.agg ⟨.rfl, PSub.nil_ro _ _, trivial⟩
    · exact PSub.lit_sb (by simp [h1])
  · have h1 : sceAt l s < l.length := (ixI_nonneg h).1
    have h2 : ixI l.length (sceAt l s) = (sceAt l s : Int) := (ixI_nonneg h).2
    rw [findS, if_pos h1, h2]
    refine And.intro (by omega) ?_
    conv => whnf
    refine .inr (.inl ⟨_, _, _, ac_slices_Clone_Item (l.getD (sceAt l s) default).items.length (fun i => cItem ((l.getD (sceAt l s) default).items.getD i default)) (hi _), ?_⟩)
    conv => whnf
    refine ⟨?_, ?_⟩ <;> (conv => whnf)
    · exact .rfl
    · exact PSub.lit_sb (by simp [h1])

theorem ac_r36_Find (l : List Scene) (s : ByteArray) (hl : smallL l) : AC Try.prog 29 [.pv (roL 2 cSce l), .pv (vstr s)] [] (.pv (.tup [.agg (cSce (findS l s)), vbool (decide (sceAt l s < l.length))])) [] := by
  have hl' : l.length ≤ 1048576 := hl
  refine AC.of_awp (T := T) T_ok hm Try.call29 Try.func29 rfl rfl rfl ?_
  conv => whnf
  refine loop_k (ι := Nat) [0, 1, 4, 8] [4] (fun k => k ≤ l.length ∧ (∀ j, j < k → decide ((l.getD j default).name = s) = false)) (fun k => l.length - k) 0 (fun k => [(9, .pv (vint k))]) (fun _ => []) [] ⟨Nat.zero_le _, fun j h => absurd h (by omega)⟩ ?_ (fun k hk => ?_)
  · (repeat' (first | exact PSub.rfl | exact rfl | exact PSubs.rfl | exact trivial | refine And.intro ?_ ?_))
  obtain ⟨hkn, hinv⟩ := hk
  conv => whnf
  repeat (any_goals (first
    | (refine ⟨fun (h : (_ : Bool) = true) => ?_, fun (h : (_ : Bool) = false) => ?_⟩ <;> (try simp only [decide_eq_true_eq, decide_eq_false_iff_not, Bool.not_eq_true', Bool.not_eq_false', Int.toNat_natCast, beq_iff_eq, decide_eq_decide, beq_eq_false_iff_ne, ne_eq, reduceCtorEq] at h) <;> (conv => whnf))
    | (refine And.intro (by (try simp only [Int.toNat_natCast]); omega) ?_; conv => whnf)
    | (refine And.intro (show (_ : Bool) = true from by kernel_rfl) ?_; conv => whnf)
    | (refine .inl ⟨wrap64 (by omega), ?_⟩; conv => whnf)))
  · have e : sceAt l s = k := firstI_at (by omega) (by simpa [-List.getD_eq_getElem?_getD] using h) hinv
    rw [findS, e, if_pos (by omega)]
    refine ⟨?_, ?_⟩ <;> (conv => whnf)
    · exact .rfl
    · exact PSub.lit_sb (by simp; omega)
  · refine ⟨k + 1, [], ⟨by omega, ?_⟩, by first | omega | (dsimp only; omega), ?_⟩
    rotate_left
    · (repeat' (first | exact PSub.rfl | exact rfl | exact PSubs.rfl | exact trivial | refine And.intro ?_ ?_))
    intro j hj
    by_cases ej : j = k
    · subst ej; simpa [-List.getD_eq_getElem?_getD] using h
    · exact hinv j (by omega)
  · have e : sceAt l s = l.length := firstI_none fun j hj => hinv j (by omega)
    rw [findS, e, if_neg (by omega)]
    refine ⟨?_, ?_⟩ <;> (conv => whnf)
    · exact PSub.agg ⟨.rfl, PSub.nil_ro _ _, trivial⟩
    · exact PSub.lit_sb (by simp)

end Go.Abs
