/- YtajnhnloihlnbaaGreatX05: walks and contracts. -/
import Derived.Test.YtajnhnloihlnbaaGreatX04
import Derived.Test.YtajnhnloihlnbaaGreatRows
import Derived.WalkKit
import Derived.ProofKit
import Derived.OpenShut
import Derived.JoinedCond
import Derived.Shelf.SlSortCmp.Insertion
import Derived.Shelf.SlSortCmp.NoneTotal
import Derived.Test.YtajnhnloihlnbaaGreatProg
import Derived.Shelf.Spec.SlicesGrow

set_option linter.unusedVariables false
set_option linter.unusedSimpArgs false
set_option linter.unusedSectionVars false

namespace Go.Abs
open Go.Proofs
set_option maxRecDepth 10000
def ixI (n k : Nat) : Int := if k < n then (k : Int) else -1
theorem ac_slices_IndexFunc_Item (l : List Item) (gb : List PV → Bool) (gi : List PV → Int) (hl : smallL l) : AC Tryz.prog 130 [.pv (roL 7 cItem l), .clo (fun xs => ∃ x : Item, xs = [.agg (cItem x)]) true gb gi] [] (.pv (vint (ixI l.length (firstI l.length fun i => gb [.agg (cItem (l.getD i default))])))) [] := by
  have hl : l.length ≤ 1048576 := hl
  refine AC.of_awp (T := T) T_ok hm Tryz.call130 Tryz.func130 rfl rfl rfl ?_
  conv => whnf
  refine loop_k (ι := Nat) [0, 1, 7] [] (fun k => k ≤ l.length ∧ (∀ j, j < k → gb [.agg (cItem (l.getD j default))] = false)) (fun k => l.length - k) 0 (fun k => [(8, .pv (vint k))]) (fun _ => []) [] ⟨Nat.zero_le _, fun j h => absurd h (by omega)⟩ ?_ (fun k hk => ?_)
  · (repeat' (first | exact PSub.rfl | exact rfl | exact PSubs.rfl | exact trivial | exact PSub.lit_sb rfl | refine And.intro ?_ ?_))
  obtain ⟨hkn, hinv⟩ := hk
  conv => whnf
  repeat (any_goals (first
    | (refine ⟨fun (h : (_ : Bool) = true) => ?_, fun (h : (_ : Bool) = false) => ?_⟩ <;> (try simp only [decide_eq_true_eq, decide_eq_false_iff_not, Bool.not_eq_true', Bool.not_eq_false', Int.toNat_natCast, beq_iff_eq, decide_eq_decide, beq_eq_false_iff_ne, ne_eq, reduceCtorEq] at h) <;> (conv => whnf))
    | (refine And.intro (by (try simp only [Int.toNat_natCast]); omega) ?_; conv => whnf)
    | (refine And.intro (show (_ : Bool) = true from by kernel_rfl) ?_; conv => whnf)
    | (refine .inl ⟨wrap64 (by omega), ?_⟩; conv => whnf)))
  refine And.intro ⟨l.getD k default, rfl⟩ ?_
  conv => whnf
  repeat (any_goals (first
    | (refine ⟨fun (h : (_ : Bool) = true) => ?_, fun (h : (_ : Bool) = false) => ?_⟩ <;> (try simp only [decide_eq_true_eq, decide_eq_false_iff_not, Bool.not_eq_true', Bool.not_eq_false', Int.toNat_natCast, beq_iff_eq, decide_eq_decide, beq_eq_false_iff_ne, ne_eq, reduceCtorEq] at h) <;> (conv => whnf))
    | (refine And.intro (by (try simp only [Int.toNat_natCast]); omega) ?_; conv => whnf)
    | (refine And.intro (show (_ : Bool) = true from by kernel_rfl) ?_; conv => whnf)
    | (refine .inl ⟨wrap64 (by omega), ?_⟩; conv => whnf)))
  · have e : firstI l.length (fun i => gb [.agg (cItem (l.getD i default))]) = k := firstI_at (by omega) h hinv
    exact PSub.int (by rw [e, ixI, if_pos (by omega)])
  · refine ⟨k + 1, [], ⟨by omega, ?_⟩, by first | omega | (dsimp only; omega), ?_⟩
    rotate_left
    · (repeat' (first | exact PSub.rfl | exact rfl | exact PSubs.rfl | exact trivial | exact PSub.lit_sb rfl | refine And.intro ?_ ?_))
    intro j hj
    by_cases e : j = k
    · subst e; first | exact h | simpa [-List.getD_eq_getElem?_getD] using h | simp_all [-List.getD_eq_getElem?_getD]
    · exact hinv j (by omega)
  · have e : firstI l.length (fun i => gb [.agg (cItem (l.getD i default))]) = l.length := firstI_none fun j hj => hinv j (by omega)
    exact PSub.int (by rw [e, ixI, if_neg (by omega)])
def keyB (k : Key) : List PV → Bool
  | [.agg (.val (.int .i64 d) :: .val (.string c) :: .val (.string a) :: _)] => decide ((⟨d, c, a⟩ : Key) = k)
  | _ => false
theorem ac_device_index_1 (x : Item) (k : Key) : AC Tryz.prog 160 [.pv (.agg (cItem x)), .pv (.cell (cKey k))] [] (.pv (vbool (decide (x.key = k)))) [] := by
  refine AC.of_awp (T := T) T_ok hm Tryz.call160 Tryz.func160 rfl rfl rfl ?_
  conv => whnf
  repeat (any_goals (first
    | (refine ⟨fun (h : (_ : Bool) = true) => ?_, fun (h : (_ : Bool) = false) => ?_⟩ <;> (try simp only [decide_eq_true_eq, decide_eq_false_iff_not, Bool.not_eq_true', Bool.not_eq_false', Int.toNat_natCast, beq_iff_eq, decide_eq_decide, beq_eq_false_iff_ne, ne_eq, reduceCtorEq] at h) <;> (conv => whnf))
    | (refine And.intro (by (try simp only [Int.toNat_natCast]); omega) ?_; conv => whnf)
    | (refine And.intro (show (_ : Bool) = true from by kernel_rfl) ?_; conv => whnf)
    | (refine .inl ⟨wrap64 (by omega), ?_⟩; conv => whnf)))
  refine PSub.sb ?_
  obtain ⟨⟨a, b, c⟩, v, n⟩ := x
  obtain ⟨d, e, f⟩ := k
  rw [Bool.eq_iff_iff]; simp
def itemAt (l : List Item) (k : Key) : Nat := firstI l.length fun i => decide ((l.getD i default).key = k)
theorem ac_slices_IndexFunc_Item_f (l : List Item) (k : Key) (hl : smallL l) : AC Tryz.prog 130 [.pv (roL 7 cItem l), .fn 160 [.pv (.cell (cKey k))]] [] (.pv (vint (ixI l.length (itemAt l k)))) [] := by
  refine AC.with_fn (pre := [.pv (roL 7 cItem l)]) (post := []) (ac_slices_IndexFunc_Item l (keyB k) (fun _ => 0) hl) Tryz.call160 rfl rfl rfl ?_
  rintro xs ⟨x, rfl⟩
  exact ac_device_index_1 x k
theorem ac_device_index (l : List Item) (k : Key) (hl : smallL l) : AC Tryz.prog 124 [.pv (roL 7 cItem l), .pv (.agg (cKey k))] [] (.pv (vint (ixI l.length (itemAt l k)))) [] := by
  refine AC.of_awp (T := T) T_ok hm Tryz.call124 Tryz.func124 rfl rfl rfl ?_
  conv => whnf
  refine .inl ⟨_, ac_slices_IndexFunc_Item_f l k hl, ?_⟩
  conv => whnf
  exact .rfl
def noItem : Item := ⟨⟨0, ⟨#[]⟩, ⟨#[]⟩⟩, noVal, 0⟩
def getI (l : List Item) (k : Key) : Item := if itemAt l k < l.length then l.getD (itemAt l k) default else noItem
theorem ac_device_Get (l : List Item) (k : Key) (hl : smallL l) : AC Tryz.prog 136 [.pv (roL 7 cItem l), .pv (.agg (cKey k))] [] (.pv (.tup [.agg (cItem (getI l k)), vbool (decide (itemAt l k < l.length))])) [] := by
  refine AC.of_awp (T := T) T_ok hm Tryz.call136 Tryz.func136 rfl rfl rfl ?_
  conv => whnf
  refine .inl ⟨_, ac_device_index l k hl, ?_⟩
  conv => whnf
  unfold ixI
  by_cases hlt : itemAt l k < l.length
  · rw [if_pos hlt]
    repeat (any_goals (first
      | (refine ⟨fun (h : (_ : Bool) = true) => ?_, fun (h : (_ : Bool) = false) => ?_⟩ <;> (try simp only [decide_eq_true_eq, decide_eq_false_iff_not, Bool.not_eq_true', Bool.not_eq_false', Int.toNat_natCast, beq_iff_eq, decide_eq_decide, beq_eq_false_iff_ne, ne_eq, reduceCtorEq] at h) <;> (conv => whnf))
      | (refine And.intro (by (try simp only [Int.toNat_natCast]); omega) ?_; conv => whnf)
      | (refine And.intro (show (_ : Bool) = true from by kernel_rfl) ?_; conv => whnf)
      | (refine .inl ⟨wrap64 (by omega), ?_⟩; conv => whnf)))
    · refine ⟨?_, ?_⟩ <;> (conv => whnf)
      · exact PSub.of_eq (by rw [getI, if_pos hlt]; rfl)
      · exact PSub.lit_sb (by simp [hlt])
    · exfalso; omega
  · rw [if_neg hlt]
    repeat (any_goals (first
      | (refine ⟨fun (h : (_ : Bool) = true) => ?_, fun (h : (_ : Bool) = false) => ?_⟩ <;> (try simp only [decide_eq_true_eq, decide_eq_false_iff_not, Bool.not_eq_true', Bool.not_eq_false', Int.toNat_natCast, beq_iff_eq, decide_eq_decide, beq_eq_false_iff_ne, ne_eq, reduceCtorEq] at h) <;> (conv => whnf))
      | (refine And.intro (by (try simp only [Int.toNat_natCast]); omega) ?_; conv => whnf)
      | (refine And.intro (show (_ : Bool) = true from by kernel_rfl) ?_; conv => whnf)
      | (refine .inl ⟨wrap64 (by omega), ?_⟩; conv => whnf)))
    · exfalso; omega
    · refine ⟨?_, ?_⟩ <;> (conv => whnf)
      · exact PSub.of_eq (by rw [getI, if_neg hlt]; rfl)
      · exact PSub.lit_sb (by simp [hlt])
def maxV (l : List Item) (dev : Int) : Nat → Int
  | 0 => 0
  | k + 1 => if (l.getD k default).key.dev = dev then max (maxV l dev k) (l.getD k default).version else maxV l dev k
def nextV (l : List Item) (dev : Int) : Int := min (maxV l dev l.length) 1099511627775 + 1
theorem maxV_nonneg {l : List Item} {dev : Int} : ∀ {k : Nat}, 0 ≤ maxV l dev k
  | 0 => Int.le_refl _
  | k + 1 => by
    have := @maxV_nonneg l dev k
    rw [maxV]; split <;> omega
theorem ac_device_next (l : List Item) (dev : Int) (hl : smallL l) : AC Tryz.prog 161 [.pv (roL 7 cItem l), .pv (vint dev)] [] (.pv (vint (nextV l dev))) [] := by
  have hl : l.length ≤ 1048576 := hl
  refine AC.of_awp (T := T) T_ok hm Tryz.call161 Tryz.func161 rfl rfl rfl ?_
  conv => whnf
  refine loop_k (ι := Nat) [1, 8, 9] [] (fun k => k ≤ l.length ∧ True) (fun k => l.length - k) 0 (fun k => [(5, .pv (vint (min (maxV l dev k) 1099511627775))), (10, .pv (vint k))]) (fun k => []) [] ⟨Nat.zero_le _, trivial⟩ ?_ (fun k hk => ?_)
  · (repeat' (first | exact PSub.rfl | exact rfl | exact PSubs.rfl | exact trivial | exact PSub.lit_sb rfl | refine And.intro ?_ ?_))
  obtain ⟨hkn, hinv⟩ := hk
  conv => whnf
  repeat (any_goals (first
    | (refine ⟨fun (h : (_ : Bool) = true) => ?_, fun (h : (_ : Bool) = false) => ?_⟩ <;> (try simp only [decide_eq_true_eq, decide_eq_false_iff_not, Bool.not_eq_true', Bool.not_eq_false', Int.toNat_natCast, beq_iff_eq, decide_eq_decide, beq_eq_false_iff_ne, ne_eq, reduceCtorEq] at h) <;> (conv => whnf))
    | (refine And.intro (by (try simp only [Int.toNat_natCast]); omega) ?_; conv => whnf)
    | (refine And.intro (show (_ : Bool) = true from by kernel_rfl) ?_; conv => whnf)
    | (refine .inl ⟨wrap64 (by omega), ?_⟩; conv => whnf)))
  · have h0 := @maxV_nonneg l dev k
    refine ⟨k + 1, [], ⟨by omega, trivial⟩, by omega, ?_⟩
    (repeat' (first | exact PSub.rfl | exact rfl | exact PSubs.rfl | exact trivial | exact PSub.lit_sb rfl | refine And.intro ?_ ?_))
    exact PSub.int (by simp only [Int.toNat_natCast]; rw [maxV, if_pos h]; (repeat' split) <;> omega)
  · refine ⟨k + 1, [], ⟨by omega, trivial⟩, by omega, ?_⟩
    (repeat' (first | exact PSub.rfl | exact rfl | exact PSubs.rfl | exact trivial | exact PSub.lit_sb rfl | refine And.intro ?_ ?_))
    exact PSub.int (by rw [maxV, if_neg h])
  · have h0 := @maxV_nonneg l dev l.length
    have e : k = l.length := by omega
    subst e
    refine .inl ⟨wrap64 (by omega), ?_⟩
    conv => whnf
    exact .rfl
end Go.Abs

namespace Go.Abs
open Go.Proofs
set_option maxRecDepth 10000
def putL (l : List Item) (i : Nat) (v : Val) : List Item := if (l.getD i default).value ≠ v then l.set i ⟨(l.getD i default).key, v, nextV l (l.getD i default).key.dev⟩ else l
theorem val_eq (a b : Val) : (decide (a.kind = b.kind) && (decide (a.n = b.n) && (decide (a.s = b.s) && true))) = decide (a = b) := by
  obtain ⟨a1, a2, a3⟩ := a
  obtain ⟨b1, b2, b3⟩ := b
  rw [Bool.eq_iff_iff]; simp
theorem rows_set {α : Type} [Inhabited α] {enc : α → List PV} {l : List α} {i : Nat} {x : α} {F : Nat → List PV} (h1 : ∀ j, j < l.length → j ≠ i → PSubs (F j) (enc (l.getD j default))) (h2 : i < l.length → PSubs (F i) (enc x)) :
    ∀ j, j < (l.set i x).length → PSubs (F j) (enc ((l.set i x).getD j default)) := by
  intro j hj
  rw [List.length_set] at hj
  by_cases e : j = i
  · subst e
    have : (l.set j x).getD j default = x := by simp [List.getD, hj]
    rw [this]; exact h2 hj
  · have : (l.set i x).getD j default = l.getD j default := by simp [List.getD, List.getElem?_set_ne (Ne.symm e)]
    rw [this]; exact h1 j hj e
theorem ac_device_put (l : List Item) (i : Nat) (v : Val) (hl : smallL l) (hi : i < l.length) : AC Tryz.prog 125 [.pv (roL 7 cItem l), .pv (vint i), .pv (.agg (cVal v))] [] (.pv (roL 7 cItem (putL l i v))) [] := by
  have hl2 : l.length ≤ 1048576 := hl
  refine AC.of_awp (T := T) T_ok hm Tryz.call125 Tryz.func125 rfl rfl rfl ?_
  conv => whnf
  repeat (any_goals (first
    | (refine ⟨fun (h : (_ : Bool) = true) => ?_, fun (h : (_ : Bool) = false) => ?_⟩ <;> (try simp only [decide_eq_true_eq, decide_eq_false_iff_not, Bool.not_eq_true', Bool.not_eq_false', Int.toNat_natCast, beq_iff_eq, decide_eq_decide, beq_eq_false_iff_ne, ne_eq, reduceCtorEq] at h) <;> (conv => whnf))
    | (refine .inr (.inl ⟨_, _, _, ac_slices_Clone_Item _ _ hl2, ?_⟩); conv => whnf)
    | (refine .inl ⟨_, ac_device_next l (l.getD i default).key.dev hl, ?_⟩; conv => whnf)
    | (refine And.intro (by (try simp only [Int.toNat_natCast]); omega) ?_; conv => whnf)
    | (refine And.intro (show (_ : Bool) = true from by kernel_rfl) ?_; conv => whnf)
    | (refine .inl ⟨wrap64 (by omega), ?_⟩; conv => whnf)))
  all_goals rw [val_eq] at h
  all_goals simp only [decide_eq_true_eq, decide_eq_false_iff_not] at h
  · rw [putL, if_pos h]
    refine PSub.ro (by simp) (fun j hj => ?_)
    refine rows_set (i := i) (F := updAt _ _ _ _) (fun j hj e => ?_) (fun hi => ?_) j (by simpa using hj)
    · simp only [Int.toNat_natCast]; rw [updAt_ne e, updAt_ne e]; exact PSubs.rfl
    · simp only [Int.toNat_natCast]; rw [updAt_same, updAt_same]; exact PSubs.rfl
  · rw [putL, if_neg (by simpa using h)]
    exact .rfl
def initL (H : Hom) (id : Int) : List Item := (List.range (keysL H id).length).map fun i => ⟨(keysL H id).getD i default, zeroV ((findA H ((keysL H id).getD i default)).getD noAttr), (i : Int) + 1⟩
def initTo (H : Hom) (id : Int) (k : Nat) : List Item := (List.range k).map fun i => ⟨(keysL H id).getD i default, zeroV ((findA H ((keysL H id).getD i default)).getD noAttr), (i : Int) + 1⟩
theorem initTo_succ {H : Hom} {id : Int} {k : Nat} : initTo H id (k + 1) = initTo H id k ++ [⟨(keysL H id).getD k default, zeroV ((findA H ((keysL H id).getD k default)).getD noAttr), (k : Int) + 1⟩] := by
  simp [initTo, List.range_succ, -List.getD_eq_getElem?_getD]
theorem initTo_length {H : Hom} {id : Int} {k : Nat} : (initTo H id k).length = k := by simp [initTo]
theorem keysL_length {H : Hom} (hH : smallH H) {id : Int} : (keysL H id).length ≤ 4194304 := by
  have h4 := @findD_length H id
  have := keysTo_len (f := firstC H.clusters) (fun _ _ => firstC_small hH.1) (id := id) (l := (findD H id).clusters) (k := (findD H id).clusters.length) (Nat.le_refl _)
  rw [keysTo, List.take_length] at this
  have e : keysL H id = (findD H id).clusters.flatMap (keysOf1 (firstC H.clusters) id) := rfl
  rw [← e] at this
  omega
theorem small_findA {H : Hom} (hH : smallH H) {k : Key} : smallA ((findA H k).getD noAttr) := by
  unfold findA
  cases h : partO H k.dev k.cluster with
  | none => exact Nat.zero_le _
  | some c =>
    unfold attrO
    simp only
    have hc : smallK c := by
      unfold partO at h
      split at h
      · exact firstC_small hH.1 h
      · cases h
    split
    · exact hc.2.1 _
    · exact Nat.zero_le _
theorem ac_device_Init (H : Hom) (id : Int) (hH : smallH H) : AC Tryz.prog 72 [.pv (.agg (cHom H)), .pv (vint id)] [] (.pv (roL 7 cItem (initL H id))) [] := by
  have hkl := keysL_length hH (id := id)
  refine AC.of_awp (T := T) T_ok hm Tryz.call72 Tryz.func72 rfl rfl rfl ?_
  conv => whnf
  refine .inl ⟨_, ac_device_Keys H id hH, ?_⟩
  conv => whnf
  refine loop_k (ι := Nat) [2, 12, 13] [2] (fun k => k ≤ (keysL H id).length ∧ True) (fun k => (keysL H id).length - k) 0 (fun k => [(5, .own 500), (14, .pv (vint k))]) (fun k => [(500, rowL 7 cItem (initTo H id k))]) [] ⟨Nat.zero_le _, trivial⟩ ?_ (fun k hk => ?_)
  · (repeat' (first | exact PSub.rfl | exact rfl | exact PSubs.rfl | exact trivial | exact PSub.lit_sb rfl | refine And.intro ?_ ?_))
  obtain ⟨hkn, hinv⟩ := hk
  conv => whnf
  have hlen := @initTo_length H id k
  repeat (any_goals (first
    | (refine ⟨fun (h : (_ : Bool) = true) => ?_, fun (h : (_ : Bool) = false) => ?_⟩ <;> (try simp only [decide_eq_true_eq, decide_eq_false_iff_not, Bool.not_eq_true', Bool.not_eq_false', Int.toNat_natCast, beq_iff_eq, decide_eq_decide, beq_eq_false_iff_ne, ne_eq, reduceCtorEq] at h) <;> (conv => whnf))
    | (refine .inl ⟨_, ac_device_Find H ((keysL H id).getD k default) hH, ?_⟩; conv => whnf)
    | (refine .inl ⟨_, ac_value_Zero ((findA H ((keysL H id).getD k default)).getD noAttr) (small_findA hH), ?_⟩; conv => whnf)
    | (refine And.intro (by (try simp only [Int.toNat_natCast]); omega) ?_; conv => whnf)
    | (refine And.intro (show (_ : Bool) = true from by kernel_rfl) ?_; conv => whnf)
    | (refine .inl ⟨wrap64 (by omega), ?_⟩; conv => whnf)))
  · refine ⟨k + 1, [(500, 33)], ⟨by omega, trivial⟩, by omega, ?_⟩
    rw [initTo_succ]
    (repeat' (first | exact PSub.rfl | exact rfl | exact PSubs.rfl | exact trivial | exact PSub.lit_sb rfl | refine And.intro ?_ ?_))
    · simp
    · refine rows_snocF (fun i hi => by simp only [if_pos hi]; exact PSubs.rfl) (by simp only [if_neg (Nat.lt_irrefl _), Nat.sub_self]; exact PSubs.rfl)
  · have e : k = (keysL H id).length := by omega
    subst e
    exact .rfl
def setE (H : Hom) (l : List Item) (k : Key) (v : Val) (w : Bool) : Int :=
  if homE H ≠ 0 then homE H else if (findA H k).isSome = false then 8 else if ixI l.length (itemAt l k) < 0 then 8 else if w = true ∧ ((findA H k).getD noAttr).writable = false then 24 else fitsE ((findA H k).getD noAttr) v
def setL (H : Hom) (l : List Item) (k : Key) (v : Val) (w : Bool) : List Item := if setE H l k v w = 0 then putL l (itemAt l k) v else []
theorem ixI_nonneg {n k : Nat} (h : ¬ ixI n k < 0) : k < n ∧ ixI n k = (k : Int) := by
  unfold ixI at *
  split <;> rename_i h2
  · exact ⟨h2, rfl⟩
  · rw [if_neg h2] at h; omega
theorem ac_device_set (H : Hom) (l : List Item) (k : Key) (v : Val) (w : Bool) (hH : smallH H) (hl : smallL l) : AC Tryz.prog 93 [.pv (.agg (cHom H)), .pv (roL 7 cItem l), .pv (.agg (cKey k)), .pv (.agg (cVal v)), .pv (vbool w)] [] (.pv (.tup [roL 7 cItem (setL H l k v w), vint (setE H l k v w)])) [] := by
  refine AC.of_awp (T := T) T_ok hm Tryz.call93 Tryz.func93 rfl rfl rfl ?_
  conv => whnf
  repeat (any_goals (first
    | (refine ⟨fun (h : (_ : Bool) = true) => ?_, fun (h : (_ : Bool) = false) => ?_⟩ <;> (try simp only [decide_eq_true_eq, decide_eq_false_iff_not, Bool.not_eq_true', Bool.not_eq_false', Int.toNat_natCast, beq_iff_eq, decide_eq_decide, beq_eq_false_iff_ne, ne_eq, reduceCtorEq] at h) <;> (conv => whnf))
    | (refine .inl ⟨_, ac_device_Check H hH, ?_⟩; conv => whnf)
    | (refine .inl ⟨_, ac_device_Find H k hH, ?_⟩; conv => whnf)
    | (refine .inl ⟨_, ac_device_index l k hl, ?_⟩; conv => whnf)
    | (refine .inl ⟨_, ac_value_Fits ((findA H k).getD noAttr) v (small_findA hH), ?_⟩; conv => whnf)
    | (refine And.intro (by (try simp only [Int.toNat_natCast]); omega) ?_; conv => whnf)
    | (refine And.intro (show (_ : Bool) = true from by kernel_rfl) ?_; conv => whnf)
    | (refine .inl ⟨wrap64 (by omega), ?_⟩; conv => whnf)))
  all_goals first
    | (have e : setE H l k v w = 8 := by simp [setE, *]
       rw [setL, e]
       refine ⟨?_, ?_⟩ <;> (conv => whnf)
       · exact PSub.nilL (by simp)
       · exact .rfl)
    | (have e : setE H l k v w = 24 := by simp [setE, *]
       rw [setL, e]
       refine ⟨?_, ?_⟩ <;> (conv => whnf)
       · exact PSub.nilL (by simp)
       · exact .rfl)
    | (have e : setE H l k v w = homE H := by simp [setE, *]
       rw [setL, e]
       refine ⟨?_, ?_⟩ <;> (conv => whnf)
       · exact PSub.nilL (by simp [*])
       · exact .rfl)
    | (have e : setE H l k v w = fitsE ((findA H k).getD noAttr) v := by simp [setE, *]
       rw [setL, e]
       refine ⟨?_, ?_⟩ <;> (conv => whnf)
       · exact PSub.nilL (by simp [*])
       · exact .rfl)
    | (have e : setE H l k v w = 0 := by simp [setE, *]
       obtain ⟨hlt, hix⟩ := ixI_nonneg (by assumption : ¬ ixI l.length (itemAt l k) < 0)
       rw [hix]
       refine .inl ⟨_, ac_device_put l (itemAt l k) v hl hlt, ?_⟩
       conv => whnf
       rw [setL, e, if_pos rfl]
       refine ⟨?_, ?_⟩ <;> (conv => whnf)
       · exact .rfl
       · exact .rfl)
    | skip
theorem ac_device_set_c (H : Hom) (l : List Item) (k : Key) (v : Val) (w : Bool) (hH : smallH H) (hl : smallL l) : AC Tryz.prog 93 [.pv (.agg (cHom H)), .pv (roL 7 cItem l), .pv (.agg (cKey k)), .pv (.agg (cVal v)), .pv (.val (.bool w))] [] (.pv (.tup [roL 7 cItem (setL H l k v w), vint (setE H l k v w)])) [] :=
  AC.sub (qs := [.agg (cHom H), roL 7 cItem l, .agg (cKey k), .agg (cVal v), vbool w]) (ps := [.agg (cHom H), roL 7 cItem l, .agg (cKey k), .agg (cVal v), .val (.bool w)]) (ac_device_set H l k v w hH hl) ⟨.rfl, .rfl, .rfl, .rfl, PSub.lit_sb rfl, trivial⟩
theorem ac_device_Write (H : Hom) (l : List Item) (k : Key) (v : Val) (hH : smallH H) (hl : smallL l) : AC Tryz.prog 47 [.pv (.agg (cHom H)), .pv (roL 7 cItem l), .pv (.agg (cKey k)), .pv (.agg (cVal v))] [] (.pv (.tup [roL 7 cItem (setL H l k v true), vint (setE H l k v true)])) [] := by
  refine AC.of_awp (T := T) T_ok hm Tryz.call47 Tryz.func47 rfl rfl rfl ?_
  conv => whnf
  refine .inl ⟨_, ac_device_set_c H l k v true hH hl, ?_⟩
  conv => whnf
  refine ⟨?_, ?_⟩ <;> (conv => whnf)
  · exact .rfl
  · exact .rfl
end Go.Abs

namespace Go.Abs
open Go.Proofs
set_option maxRecDepth 10000
theorem all_lt_zero {p : Nat → Prop} : ∀ i, i < 0 → p i := fun i h => absurd h (by omega)
theorem all_lt_succ {p : Nat → Prop} {n : Nat} (h1 : ∀ i, i < n → p i) (h2 : p n) : ∀ i, i < n + 1 → p i := fun i h => by
  rcases Nat.lt_or_ge i n with h3 | h3
  · exact h1 i h3
  · have : i = n := by omega
    subst this; exact h2
end Go.Abs

namespace Go.Abs
open Go.Proofs
set_option maxRecDepth 10000
def kLev : Key := ⟨1, (⟨#[108, 101, 118, 101, 108]⟩ : ByteArray), (⟨#[108, 101, 118, 101, 108]⟩ : ByteArray)⟩
def L1 : List Item := [⟨⟨1, (⟨#[111, 110, 111, 102, 102]⟩ : ByteArray), (⟨#[111, 110]⟩ : ByteArray)⟩, ⟨1, 0, ⟨#[]⟩⟩, 1⟩, ⟨kLev, ⟨2, 0, ⟨#[]⟩⟩, 2⟩]
def L2 : List Item := [⟨⟨1, (⟨#[111, 110, 111, 102, 102]⟩ : ByteArray), (⟨#[111, 110]⟩ : ByteArray)⟩, ⟨1, 0, ⟨#[]⟩⟩, 1⟩, ⟨kLev, ⟨2, 7, ⟨#[]⟩⟩, 3⟩]
theorem sl {α : Type} {l : List α} (h : Nat.ble l.length 1048576 = true) : smallL l := Nat.le_of_ble_eq_true h
end Go.Abs

namespace Go.Abs
open Go.Proofs Go.RowKit
set_option maxRecDepth 10000
section
variable {H : Type} {enc : TypeId × Value → H} {w : World} {bulk : DataW H → Nat}
abbrev BB : Nat := 1048576
def inI64 (n : Int) : Prop := -9223372036854775808 ≤ n ∧ n ≤ 9223372036854775807
theorem wf64 {n : Int} (h : (Lit.int .i64 n).wf = true) : inI64 n := by
  simp only [Lit.wf, Bool.and_eq_true, decide_eq_true_eq] at h
  exact h
theorem op_int : Opens enc Tryz.prog w bulk BB 3 cint inI64 := (Opens.int Tryz.underlying3).imp id (fun _ => rfl) (fun _ h => wf64 h)
theorem op_uint64 : Opens enc Tryz.prog w bulk BB 95 (fun n : Int => [.val (.int .u64 n)]) (fun _ => True) := (Opens.int Tryz.underlying95).imp id (fun _ => rfl) (fun _ _ => trivial)
theorem op_bool : Opens enc Tryz.prog w bulk BB 4 (fun b : Bool => [vbool b]) (fun _ => True) := Opens.bool Tryz.underlying4
theorem op_string (hB : BulkOk bulk) : Opens enc Tryz.prog w bulk BB 9 cstr (fun s => s.size ≤ 1048576) := Opens.str hB Tryz.underlying9
theorem op_l_string (hB : BulkOk bulk) : Opens enc Tryz.prog w bulk BB 96 (fun l : List ByteArray => [roL 1 cstr l]) smallL :=
  (Opens.slice hB Tryz.underlying96 (by kernel_rfl) (by decide) (op_string hB)).imp id (fun _ => rfl) (fun _ h => h.1)
def goodKey (k : Key) : Prop := inI64 k.dev
theorem op_Key (hB : BulkOk bulk) : Opens enc Tryz.prog w bulk BB 34 cKey goodKey :=
  (Opens.struct hB Tryz.underlying34 (by kernel_rfl) (.cons (size := 1) rfl (by kernel_rfl) op_int (.cons (size := 1) rfl (by kernel_rfl) (op_string hB) (.cons (size := 1) rfl (by kernel_rfl) (op_string hB) .nil)))).imp (fun x => ⟨x.1, x.2.1, x.2.2.1⟩) (fun _ => rfl) (fun _ h => h.1)
def goodVal (v : Val) : Prop := inI64 v.kind ∧ inI64 v.n
theorem op_Value (hB : BulkOk bulk) : Opens enc Tryz.prog w bulk BB 36 cVal goodVal :=
  (Opens.struct hB Tryz.underlying36 (by kernel_rfl) (.cons (size := 1) rfl (by kernel_rfl) op_int (.cons (size := 1) rfl (by kernel_rfl) op_int (.cons (size := 1) rfl (by kernel_rfl) (op_string hB) .nil)))).imp (fun x => ⟨x.1, x.2.1, x.2.2.1⟩) (fun _ => rfl) (fun _ h => ⟨h.1, h.2.1⟩)
def goodItem (x : Item) : Prop := goodKey x.key ∧ goodVal x.value ∧ inI64 x.version
theorem op_Item (hB : BulkOk bulk) : Opens enc Tryz.prog w bulk BB 51 cItem goodItem :=
  (Opens.struct hB Tryz.underlying51 (by kernel_rfl) (.cons (size := 3) rfl (by kernel_rfl) (op_Key hB) (.cons (size := 3) rfl (by kernel_rfl) (op_Value hB) (.cons (size := 1) rfl (by kernel_rfl) op_int .nil)))).imp (fun x => ⟨x.1, x.2.1, x.2.2.1⟩) (fun _ => rfl) (fun _ h => ⟨h.1, h.2.1, h.2.2.1⟩)
def goodItems (l : List Item) : Prop := smallL l ∧ ∀ i, i < l.length → goodItem (l.getD i default)
theorem op_l_Item (hB : BulkOk bulk) : Opens enc Tryz.prog w bulk BB 26 (fun l : List Item => [roL 7 cItem l]) goodItems :=
  (Opens.slice hB Tryz.underlying26 (by kernel_rfl) (by decide) (op_Item hB)).imp id (fun _ => rfl) (fun _ h => h)
theorem op_Attr (hB : BulkOk bulk) : Opens enc Tryz.prog w bulk BB 116 cAttr smallA :=
  (Opens.struct hB Tryz.underlying116 (by kernel_rfl) (.cons (size := 1) rfl (by kernel_rfl) (op_string hB) (.cons (size := 1) rfl (by kernel_rfl) op_int (.cons (size := 1) rfl (by kernel_rfl) op_int (.cons (size := 1) rfl (by kernel_rfl) op_int (.cons (size := 1) rfl (by kernel_rfl) (op_l_string hB) (.cons (size := 1) rfl (by kernel_rfl) op_bool (.cons (size := 1) rfl (by kernel_rfl) op_bool .nil)))))))).imp
    (fun x => ⟨x.1, x.2.1, x.2.2.1, x.2.2.2.1, x.2.2.2.2.1, x.2.2.2.2.2.1, x.2.2.2.2.2.2.1⟩) (fun _ => rfl) (fun _ h => h.2.2.2.2.1)
theorem getD_all {α : Type} [Inhabited α] {l : List α} {p : α → Prop} (h : ∀ i, i < l.length → p (l.getD i default)) (hd : p default) (i : Nat) : p (l.getD i default) := by
  by_cases hi : i < l.length
  · exact h i hi
  · have : l.getD i default = default := by simp [List.getD, Nat.le_of_not_lt hi]
    rw [this]; exact hd
theorem op_l_Attr (hB : BulkOk bulk) : Opens enc Tryz.prog w bulk BB 102 (fun l : List Attr => [roL 7 cAttr l]) (fun l => smallL l ∧ ∀ i, smallA (l.getD i default)) :=
  (Opens.slice hB Tryz.underlying102 (by kernel_rfl) (by decide) (op_Attr hB)).imp id (fun _ => rfl) (fun _ h => ⟨h.1, getD_all h.2 (Nat.zero_le _)⟩)
theorem op_Effect (hB : BulkOk bulk) : Opens enc Tryz.prog w bulk BB 180 cEff (fun _ => True) :=
  (Opens.struct hB Tryz.underlying180 (by kernel_rfl) (.cons (size := 1) rfl (by kernel_rfl) op_int (.cons (size := 1) rfl (by kernel_rfl) (op_string hB) (.cons (size := 1) rfl (by kernel_rfl) op_int .nil)))).imp (fun x => ⟨x.1, x.2.1, x.2.2.1⟩) (fun _ => rfl) (fun _ _ => trivial)
theorem op_l_Effect (hB : BulkOk bulk) : Opens enc Tryz.prog w bulk BB 175 (fun l : List Eff => [roL 3 cEff l]) smallL :=
  (Opens.slice hB Tryz.underlying175 (by kernel_rfl) (by decide) (op_Effect hB)).imp id (fun _ => rfl) (fun _ h => h.1)
theorem op_Command (hB : BulkOk bulk) : Opens enc Tryz.prog w bulk BB 177 cCmd smallC :=
  (Opens.struct hB Tryz.underlying177 (by kernel_rfl) (.cons (size := 1) rfl (by kernel_rfl) (op_string hB) (.cons (size := 7) rfl (by kernel_rfl) (op_Attr hB) (.cons (size := 1) rfl (by kernel_rfl) (op_l_Effect hB) .nil)))).imp (fun x => ⟨x.1, x.2.1, x.2.2.1⟩) (fun _ => rfl) (fun _ h => ⟨h.2.1, h.2.2.1⟩)
theorem op_l_Command (hB : BulkOk bulk) : Opens enc Tryz.prog w bulk BB 103 (fun l : List Cmd => [roL 9 cCmd l]) (fun l => smallL l ∧ ∀ i, smallC (l.getD i default)) :=
  (Opens.slice hB Tryz.underlying103 (by kernel_rfl) (by decide) (op_Command hB)).imp id (fun _ => rfl) (fun _ h => ⟨h.1, getD_all h.2 ⟨Nat.zero_le _, Nat.zero_le _⟩⟩)
theorem op_Cluster (hB : BulkOk bulk) : Opens enc Tryz.prog w bulk BB 105 cClu smallK :=
  (Opens.struct hB Tryz.underlying105 (by kernel_rfl) (.cons (size := 1) rfl (by kernel_rfl) (op_string hB) (.cons (size := 1) rfl (by kernel_rfl) (op_l_Attr hB) (.cons (size := 1) rfl (by kernel_rfl) (op_l_Command hB) (.cons (size := 1) rfl (by kernel_rfl) (op_l_string hB) .nil))))).imp (fun x => ⟨x.1, x.2.1, x.2.2.1, x.2.2.2.1⟩) (fun _ => rfl) (fun _ h => ⟨h.2.1.1, h.2.1.2, h.2.2.1.1, h.2.2.1.2, h.2.2.2.1⟩)
theorem small_default : smallK default := ⟨Nat.zero_le _, fun _ => Nat.zero_le _, Nat.zero_le _, fun _ => ⟨Nat.zero_le _, Nat.zero_le _⟩, Nat.zero_le _⟩
theorem op_l_Cluster (hB : BulkOk bulk) : Opens enc Tryz.prog w bulk BB 22 (fun l : List Clu => [roL 4 cClu l]) smallKs :=
  (Opens.slice hB Tryz.underlying22 (by kernel_rfl) (by decide) (op_Cluster hB)).imp id (fun _ => rfl) (fun _ h => ⟨h.1, getD_all h.2 small_default⟩)
theorem op_Device (hB : BulkOk bulk) : Opens enc Tryz.prog w bulk BB 98 cDev smallD :=
  (Opens.struct hB Tryz.underlying98 (by kernel_rfl) (.cons (size := 1) rfl (by kernel_rfl) op_int (.cons (size := 1) rfl (by kernel_rfl) op_uint64 (.cons (size := 1) rfl (by kernel_rfl) op_int (.cons (size := 1) rfl (by kernel_rfl) op_bool (.cons (size := 1) rfl (by kernel_rfl) op_int (.cons (size := 1) rfl (by kernel_rfl) (op_string hB) (.cons (size := 1) rfl (by kernel_rfl) (op_l_string hB) .nil)))))))).imp
    (fun x => ⟨x.1, x.2.1, x.2.2.1, x.2.2.2.1, x.2.2.2.2.1, x.2.2.2.2.2.1, x.2.2.2.2.2.2.1⟩) (fun _ => rfl) (fun _ h => ⟨h.2.2.2.2.2.2.1, h.1.1, h.1.2⟩)
theorem op_l_Device (hB : BulkOk bulk) : Opens enc Tryz.prog w bulk BB 23 (fun l : List Dev => [roL 7 cDev l]) (fun l => smallL l ∧ ∀ i, smallD (l.getD i default)) :=
  (Opens.slice hB Tryz.underlying23 (by kernel_rfl) (by decide) (op_Device hB)).imp id (fun _ => rfl) (fun _ h => ⟨h.1, getD_all h.2 ⟨Nat.zero_le _, by decide, by decide⟩⟩)
theorem op_Home (hB : BulkOk bulk) : Opens enc Tryz.prog w bulk BB 25 cHom smallH :=
  (Opens.struct hB Tryz.underlying25 (by kernel_rfl) (.cons (size := 1) rfl (by kernel_rfl) (op_l_Cluster hB) (.cons (size := 1) rfl (by kernel_rfl) (op_l_Device hB) .nil))).imp (fun x => ⟨x.1, x.2.1⟩) (fun _ => rfl) (fun _ h => ⟨h.1, h.2.1.1, h.2.1.2⟩)
end
end Go.Abs

namespace Go.Proofs.YtajnhnloihlnbaaGreat
open Go.ChangeShapes Go.WideShapes Go.ChangeAt Go.RowKit Go.Abs
theorem own : ownKnob Tryz.prog.godebug = none := by kernel_rfl
theorem laidOut : laidOutB Tryz.prog = true := by kernel_rfl
theorem glob {W : World} : Glob W (fun _ => False) := fun g cs e => by cases e
theorem bulkOk {H : Type} : BulkOk (Rows.uptoBulk (H := H)) := by
  have one_le : ∀ d : DataW H, 1 ≤ Rows.uptoBulk d := fun d => by
    cases d with
    | lit l => cases l <;> simp [Rows.uptoBulk]
    | nil => simp [Rows.uptoBulk]
    | ptr d => simp [Rows.uptoBulk]
    | slice elems spare => simp [Rows.uptoBulk]
    | agg parts => simp [Rows.uptoBulk]
    | iface t d => simp [Rows.uptoBulk]
    | map entries => simp [Rows.uptoBulk]
    | held h => simp [Rows.uptoBulk]
  have part_le : ∀ (l : List (DataW H)) (d : DataW H), d ∈ l → Rows.uptoBulk d ≤ Rows.uptoBulkAll l := by
    intro l
    induction l with
    | nil => intro d h; cases h
    | cons x r ih =>
      intro d h
      simp only [Rows.uptoBulkAll]
      cases List.mem_cons.1 h with
      | inl e => subst e; omega
      | inr e => have := ih d e; omega
  have length_le : ∀ (l : List (DataW H)), l.length ≤ Rows.uptoBulkAll l := by
    intro l
    induction l with
    | nil => simp [Rows.uptoBulkAll]
    | cons x r ih => have := one_le x; simp only [Rows.uptoBulkAll, List.length_cons]; omega
  refine ⟨fun bytes => by simp [Rows.uptoBulk], fun e s => ?_, fun e s d h => ?_, fun l d h => ?_⟩
  · have := length_le e; simp only [Rows.uptoBulk]; omega
  · have := part_le e d h; simp only [Rows.uptoBulk]; omega
  · have := part_le l d h; simp only [Rows.uptoBulk]; omega
theorem bulk_le {H : Type} {l : List (DataW H)} (hk : Rows.uptoSmall H l = true) : Rows.uptoBulkAll l ≤ 1048576 := of_decide_eq_true hk
theorem law_calls {f : FuncId} {fn : Func} {H : Type} {enc : TypeId × Value → H} {W : World} {args : Array Value} {ds gs : List (DataW H)} {before : List MemPlace} {s : ChangeSpec} {tb : TypeId} {xs : List PV}
    (hac : AC Tryz.prog f (xs.map .pv) [] (.pv (vbool true)) []) (hlen : args.size = xs.length) (hx : ∀ (i : Nat) (p : PV), xs[i]? = some p → PR W (fun _ => False) p (args.getD i undef))
    (hr : ∀ t ∈ fn.params.toList, Tryz.prog.readableRec t = true ∧ t < Tryz.prog.types.size)
    (hres : fn.resultTypes = #[tb]) (htb : Tryz.prog.underlying tb = some .bool) (hv : s.vars = []) (hfn : s.fn H ds = { results := [.lit (.bool true)], args := ds })
    (hW : DataW.Whole enc Tryz.prog fn.params.toList s.vars false W args.toList ds gs before) (hg : Glob W (fun _ => False)) :
    Calls Tryz.prog f args W fun e W' => ∃ v, e = .returned v ∧ s.post enc Tryz.prog fn false true false false W args v W' := by
  refine (hac.calls hg (by simpa using hlen) (fun i x e => ?_)).mono ?_
  · rw [List.getElem?_map] at e
    cases hp : xs[i]? with
    | none => rw [hp] at e; cases e
    | some p =>
      rw [hp] at e
      cases e
      exact .pv _ _ (hx i p hp)
  · rintro e W' ⟨v, rfl, hv2, hb⟩
    cases hv2
    exact ⟨_, rfl, law_post laidOut hr hres htb hv hfn hb hW⟩
end Go.Proofs.YtajnhnloihlnbaaGreat

namespace Go.Abs
theorem bytesLess_iff : ∀ (x y : List UInt8), Op.bytesLess x y = true ↔ x < y
  | [], [] => by simp [Op.bytesLess]
  | [], _ :: _ => by simp [Op.bytesLess]
  | _ :: _, [] => by simp [Op.bytesLess]
  | a :: x, b :: y => by
    have ih := bytesLess_iff x y
    simp only [Op.bytesLess, List.cons_lt_cons_iff]
    by_cases h1 : a < b
    · simp [h1]
    · by_cases h2 : a = b
      · subst h2; simp [ih]
      · simp [h1, h2, ih]
        try (intro h3; exact h2 (UInt8.le_antisymm (UInt8.not_lt.1 h3) (UInt8.not_lt.1 h1)))
def sLt (a b : ByteArray) : Bool := Op.bytesLess a.toList b.toList
theorem sLt_iff {a b : ByteArray} : sLt a b = true ↔ a.data.toList < b.data.toList := by
  unfold sLt
  rw [bytesLess_iff, ByteArray.toList_eq, ByteArray.toList_eq]
theorem sLt_irrefl (a : ByteArray) : sLt a a = false := by
  rw [← Bool.not_eq_true, sLt_iff]
  exact List.lt_irrefl _
theorem sLt_trans {a b c : ByteArray} (h : sLt a b = true) (k : sLt b c = true) : sLt a c = true := by
  rw [sLt_iff] at *
  exact List.lt_trans h k
theorem sLt_total {a b : ByteArray} (h : a ≠ b) : sLt a b = true ∨ sLt b a = true := by
  rw [sLt_iff, sLt_iff]
  rcases Classical.em (a.data.toList < b.data.toList) with h1 | h1
  · exact .inl h1
  · rcases Classical.em (b.data.toList < a.data.toList) with h2 | h2
    · exact .inr h2
    · exfalso
      apply h
      have := List.le_antisymm (List.not_lt.1 h1) (List.not_lt.1 h2)
      cases a; cases b
      congr 1
      exact (Array.toList_inj.1 this).symm
end Go.Abs

namespace Go.Abs
open Go.Proofs
set_option maxRecDepth 10000
theorem keyLess_def (a b : Key) : keyLess a b = if a.dev ≠ b.dev then decide (a.dev < b.dev) else if a.cluster ≠ b.cluster then sLt a.cluster b.cluster else sLt a.attr b.attr := rfl
theorem keyLess_irrefl (a : Key) : keyLess a a = false := by
  rw [keyLess_def]; simp [sLt_irrefl]
theorem keyLess_total {a b : Key} (h : a ≠ b) : keyLess a b = true ∨ keyLess b a = true := by
  rw [keyLess_def, keyLess_def]
  by_cases h1 : a.dev = b.dev
  · by_cases h2 : a.cluster = b.cluster
    · by_cases h3 : a.attr = b.attr
      · exfalso; apply h; cases a; cases b; simp_all
      · simp [h1, h2]; exact sLt_total h3
    · simp [h1, h2, Ne.symm h2]; exact sLt_total h2
  · simp [h1, Ne.symm h1]; omega
theorem keyLess_trans {a b c : Key} (h : keyLess a b = true) (k : keyLess b c = true) : keyLess a c = true := by
  rw [keyLess_def] at *
  by_cases h1 : a.dev = b.dev <;> by_cases k1 : b.dev = c.dev
  · by_cases h2 : a.cluster = b.cluster <;> by_cases k2 : b.cluster = c.cluster
    · simp_all; exact sLt_trans h k
    · simp_all
    · have : a.cluster ≠ c.cluster := fun e => h2 (e.trans k2.symm)
      simp_all
    · have h3 : sLt a.cluster b.cluster = true := by simp_all
      have k3 : sLt b.cluster c.cluster = true := by simp_all
      have t := sLt_trans h3 k3
      have : a.cluster ≠ c.cluster := fun e => by rw [e, sLt_irrefl] at t; cases t
      simp [h1, k1, this]; exact t
  · simp [h1, k1] at h k ⊢; exact k
  · have : a.dev ≠ c.dev := fun e => h1 (e.trans k1.symm)
    simp [h1] at h
    simp [this]; omega
  · simp [h1] at h
    simp [k1] at k
    have : a.dev ≠ c.dev := by omega
    simp [this]; omega
theorem keyLess_asymm {a b : Key} (h : keyLess a b = true) : keyLess b a = false := by
  rw [← Bool.not_eq_true]
  intro k
  have := keyLess_trans h k
  rw [keyLess_irrefl] at this; cases this
theorem key_eq (a b : Key) : (decide (a.dev = b.dev) && (decide (a.cluster = b.cluster) && (decide (a.attr = b.attr) && true))) = decide (a = b) := by
  obtain ⟨a1, a2, a3⟩ := a
  obtain ⟨b1, b2, b3⟩ := b
  rw [Bool.eq_iff_iff]; simp
end Go.Abs

namespace Go.Abs
theorem getD_getElem {α : Type} (l : List α) {i : Nat} (d : α) (h : i < l.length) : l.getD i d = l[i] := by simp [List.getD, h]
def Asc (l : List Key) : Prop := l.Pairwise fun a b => keyLess a b = true
theorem asc_ext : ∀ {l k : List Key}, Asc l → Asc k → (∀ x, x ∈ l ↔ x ∈ k) → l = k
  | [], [], _, _, _ => rfl
  | [], b :: k, _, _, h => by have := (h b).2 (by simp); simp at this
  | a :: l, [], _, _, h => by have := (h a).1 (by simp); simp at this
  | a :: l, b :: k, hl, hk, h => by
    obtain ⟨hl1, hl2⟩ := List.pairwise_cons.1 hl
    obtain ⟨hk1, hk2⟩ := List.pairwise_cons.1 hk
    have e : a = b := by
      have h1 := (h a).1 (by simp)
      have h2 := (h b).2 (by simp)
      rcases List.mem_cons.1 h1 with e | h1
      · exact e
      · rcases List.mem_cons.1 h2 with e | h2
        · exact e.symm
        · have := keyLess_asymm (hl1 b h2)
          rw [hk1 a h1] at this; cases this
    subst e
    congr 1
    refine asc_ext hl2 hk2 fun x => ⟨fun hx => ?_, fun hx => ?_⟩
    · rcases List.mem_cons.1 ((h x).1 (by simp [hx])) with e | h1
      · subst e; have := hl1 x hx; rw [keyLess_irrefl] at this; cases this
      · exact h1
    · rcases List.mem_cons.1 ((h x).2 (by simp [hx])) with e | h1
      · subst e; have := hk1 x hx; rw [keyLess_irrefl] at this; cases this
      · exact h1
def putK : List Key → Key → List Key
  | [], k => [k]
  | x :: r, k => if keyLess x k = true then x :: putK r k else k :: (x :: r).filter fun y => decide (y ≠ k)
theorem mem_putK {l : List Key} {k x : Key} : x ∈ putK l k ↔ x = k ∨ x ∈ l := by
  induction l with
  | nil => simp [putK]
  | cons y r ih =>
    unfold putK
    split
    · simp only [List.mem_cons, ih]
      constructor
      · rintro (h | h | h)
        · exact .inr (.inl h)
        · exact .inl h
        · exact .inr (.inr h)
      · rintro (h | h | h)
        · exact .inr (.inl h)
        · exact .inl h
        · exact .inr (.inr h)
    · simp only [List.mem_cons, List.mem_filter, decide_eq_true_eq]
      constructor
      · rintro (h | ⟨h, _⟩)
        · exact .inl h
        · exact .inr h
      · rintro (h | h)
        · exact .inl h
        · by_cases e : x = k
          · exact .inl e
          · exact .inr ⟨h, e⟩
theorem asc_putK {l : List Key} {k : Key} (h : Asc l) : Asc (putK l k) := by
  induction l with
  | nil => simp [putK, Asc]
  | cons y r ih =>
    obtain ⟨h1, h2⟩ := List.pairwise_cons.1 h
    unfold putK
    split
    · rename_i hy
      refine List.pairwise_cons.2 ⟨fun x hx => ?_, ih h2⟩
      rcases mem_putK.1 hx with rfl | hx
      · exact hy
      · exact h1 x hx
    · rename_i hy
      refine List.pairwise_cons.2 ⟨fun x hx => ?_, h.sublist (List.filter_sublist)⟩
      rw [List.mem_filter, decide_eq_true_eq] at hx
      obtain ⟨hx, hne⟩ := hx
      rcases List.mem_cons.1 hx with rfl | hx
      · exact (keyLess_total hne).resolve_left hy
      · have h3 := h1 x hx
        rcases keyLess_total hne with h4 | h4
        · exact absurd (keyLess_trans h3 h4) hy
        · exact h4
def sortK (l : List Key) : List Key := l.foldl putK []
theorem foldl_putK_mem {l acc : List Key} {x : Key} : x ∈ l.foldl putK acc ↔ x ∈ acc ∨ x ∈ l := by
  induction l generalizing acc with
  | nil => simp
  | cons y r ih =>
    simp only [List.foldl_cons, ih, mem_putK, List.mem_cons]
    constructor
    · rintro ((h | h) | h)
      · exact .inr (.inl h)
      · exact .inl h
      · exact .inr (.inr h)
    · rintro (h | h | h)
      · exact .inl (.inr h)
      · exact .inl (.inl h)
      · exact .inr h
theorem foldl_putK_asc {l acc : List Key} (h : Asc acc) : Asc (l.foldl putK acc) := by
  induction l generalizing acc with
  | nil => exact h
  | cons y r ih => exact ih (asc_putK h)
theorem mem_sortK {l : List Key} {x : Key} : x ∈ sortK l ↔ x ∈ l := by unfold sortK; rw [foldl_putK_mem]; simp
theorem asc_sortK (l : List Key) : Asc (sortK l) := foldl_putK_asc List.Pairwise.nil
theorem sortK_congr {l k : List Key} (h : ∀ x, x ∈ l ↔ x ∈ k) : sortK l = sortK k := asc_ext (asc_sortK l) (asc_sortK k) fun x => by rw [mem_sortK, mem_sortK, h]
theorem Asc.nodup {l : List Key} (h : Asc l) : l.Nodup := by
  refine List.Pairwise.imp (fun {a b} hab => ?_) h
  intro e; subst e; rw [keyLess_irrefl] at hab; cases hab
def compTo (l : List Key) : Nat → List Key
  | 0 => []
  | m + 1 => if m = 0 ∨ l.getD m default ≠ l.getD (m - 1) default then compTo l m ++ [l.getD m default] else compTo l m
theorem compTo_take {l : List Key} : ∀ {m : Nat}, m ≤ l.length → (∀ j, 1 ≤ j → j < m → l.getD j default ≠ l.getD (j - 1) default) → compTo l m = l.take m
  | 0, _, _ => by simp [compTo]
  | m + 1, hm, h => by
    have ih := compTo_take (l := l) (m := m) (by omega) (fun j h1 h2 => h j h1 (by omega))
    unfold compTo
    rw [if_pos, ih, take_succ_getD (by omega)]
    by_cases e : m = 0
    · exact .inl e
    · exact .inr (h m (by omega) (by omega))
def Ord (l : List Key) : Prop := ∀ i j, i < j → j < l.length → keyLess (l.getD j default) (l.getD i default) = false
theorem compTo_spec {s : List Key} (hs : Ord s) : ∀ m, m ≤ s.length → Asc (compTo s m) ∧ ∀ x, x ∈ compTo s m ↔ ∃ i, i < m ∧ s.getD i default = x
  | 0, _ => ⟨List.Pairwise.nil, fun x => by simp [compTo]⟩
  | m + 1, hm => by
    obtain ⟨h1, h2⟩ := compTo_spec hs m (by omega)
    unfold compTo
    split
    · rename_i hne
      refine ⟨List.pairwise_append.2 ⟨h1, by simp, fun a ha b hb => ?_⟩, fun x => ?_⟩
      · simp only [List.mem_singleton] at hb
        subst hb
        obtain ⟨i, hi, rfl⟩ := (h2 a).1 ha
        have hle := hs i m hi (by omega)
        by_cases e : s.getD i default = s.getD m default
        · exfalso
          have hne := hne.resolve_left (by omega)
          have h3 := hs (m - 1) m (by omega) (by omega)
          have h4 : keyLess (s.getD (m - 1) default) (s.getD m default) = false := by
            by_cases ei : i = m - 1
            · subst ei; rw [e]; exact keyLess_irrefl _
            · rw [← e]; exact hs i (m - 1) (by omega) (by omega)
          rcases keyLess_total hne with h5 | h5
          · rw [h5] at h3; cases h3
          · rw [h5] at h4; cases h4
        · rcases keyLess_total e with h5 | h5
          · exact h5
          · rw [h5] at hle; cases hle
      · rw [List.mem_append, h2, List.mem_singleton]
        constructor
        · rintro (⟨i, hi, e⟩ | e)
          · exact ⟨i, by omega, e⟩
          · exact ⟨m, by omega, e.symm⟩
        · rintro ⟨i, hi, e⟩
          by_cases ei : i = m
          · subst ei; exact .inr e.symm
          · exact .inl ⟨i, by omega, e⟩
    · rename_i hne
      have hne := not_or.1 hne
      have heq := Classical.not_not.1 hne.2
      refine ⟨h1, fun x => ?_⟩
      rw [h2]
      constructor
      · rintro ⟨i, hi, e⟩; exact ⟨i, by omega, e⟩
      · rintro ⟨i, hi, e⟩
        by_cases ei : i = m
        · subst ei; exact ⟨i - 1, by omega, by rw [← heq]; exact e⟩
        · exact ⟨i, by omega, e⟩
def sortedK (l : List Key) : List Key := l.mergeSort fun x y => !keyLess y x
theorem sortedK_ord (l : List Key) : Ord (sortedK l) := by
  have hp := List.pairwise_mergeSort (le := fun x y : Key => !keyLess y x) (fun a b c h1 h2 => by
    simp only [Bool.not_eq_true'] at *
    cases h3 : keyLess c a with
    | false => rfl
    | true =>
      exfalso
      by_cases e : a = b
      · subst e; rw [h3] at h2; cases h2
      · rcases keyLess_total e with h4 | h4
        · have := keyLess_trans h3 h4; rw [this] at h2; cases h2
        · rw [h4] at h1; cases h1) (fun a b => by
    simp only [Bool.or_eq_true, Bool.not_eq_true']
    cases h : keyLess b a with
    | false => exact .inl rfl
    | true => exact .inr (keyLess_asymm h)) l
  intro i j hij hj
  have hj' : j < (l.mergeSort fun x y => !keyLess y x).length := hj
  have := List.pairwise_iff_getElem.1 hp i j (by omega) hj' hij
  simp only [Bool.not_eq_true'] at this
  unfold sortedK
  rw [getD_getElem _ _ hj', getD_getElem _ _ (show i < (l.mergeSort fun x y => !keyLess y x).length from by omega)]
  exact this
theorem sortedK_length (l : List Key) : (sortedK l).length = l.length := List.length_mergeSort _
theorem comp_sorted (l : List Key) : compTo (sortedK l) l.length = sortK l := by
  obtain ⟨h1, h2⟩ := compTo_spec (sortedK_ord l) l.length (by rw [sortedK_length]; exact Nat.le_refl _)
  refine asc_ext h1 (asc_sortK l) fun x => ?_
  rw [h2, mem_sortK, ← List.mem_mergeSort (le := fun x y => !keyLess y x)]
  show _ ↔ x ∈ sortedK l
  rw [List.mem_iff_getElem]
  constructor
  · rintro ⟨i, hi, e⟩
    exact ⟨i, by rw [sortedK_length]; exact hi, by simpa [List.getD, show i < (sortedK l).length from by rw [sortedK_length]; exact hi] using e⟩
  · rintro ⟨i, hi, e⟩
    exact ⟨i, by rwa [sortedK_length] at hi, by simp [List.getD, hi, e]⟩
theorem sortedK_asc {l : List Key} (h : l.Nodup) : sortedK l = sortK l := by
  have hn : (sortedK l).Nodup := (List.mergeSort_perm l _).nodup_iff.2 h
  rw [← comp_sorted l, compTo_take (by rw [sortedK_length]; exact Nat.le_refl _), ← sortedK_length l, List.take_length]
  intro j h1 h2
  have h3 : j < (sortedK l).length := by rw [sortedK_length]; exact h2
  intro e
  have h5 : j - 1 < (sortedK l).length := by omega
  rw [getD_getElem _ _ h3, getD_getElem _ _ h5] at e
  have := List.pairwise_iff_getElem.1 hn (j - 1) j h5 h3 (by omega)
  exact this e.symm
def cmpK (a b : Key) : Int := if keyLess a b = true then -1 else if keyLess b a = true then 1 else 0
theorem ltOf_cmpK (a b : Key) : Proofs.ltOf cmpK a b = keyLess a b := by
  unfold Proofs.ltOf cmpK
  by_cases h : keyLess a b = true
  · simp [h]
  · by_cases h2 : keyLess b a = true <;> simp [h, h2]
theorem swo_cmpK : Sort.SWO (Proofs.ltOf cmpK) := by
  refine ⟨fun x => by rw [ltOf_cmpK]; exact keyLess_irrefl x, fun x y z h1 h2 => ?_, fun x y z h1 h2 => ?_⟩
  · rw [ltOf_cmpK] at *; exact keyLess_trans h1 h2
  · rw [ltOf_cmpK] at *
    cases h3 : keyLess x z with
    | false => rfl
    | true =>
      exfalso
      by_cases e : y = x
      · subst e; rw [h3] at h2; cases h2
      · rcases keyLess_total e with h4 | h4
        · have := keyLess_trans h4 h3; rw [this] at h2; cases h2
        · rw [h4] at h1; cases h1
theorem parts_cmpK (a b : Key) (h1 : Proofs.ltOf cmpK a b = false) (h2 : Proofs.ltOf cmpK b a = false) : a = b := by
  rw [ltOf_cmpK] at *
  rcases Classical.em (a = b) with e | e
  · exact e
  · rcases keyLess_total e with h | h
    · rw [h] at h1; cases h1
    · rw [h] at h2; cases h2
def vKey (k : Key) : List Value := [.int .i64 k.dev, .string k.cluster, .string k.attr]
theorem sortedK_eq (l : List Key) : (l.mergeSort fun x y => !(Proofs.ltOf cmpK) y x) = sortedK l := by
  have : (fun x y : Key => !(Proofs.ltOf cmpK) y x) = fun x y => !keyLess y x := funext fun x => funext fun y => by rw [ltOf_cmpK]
  rw [sortedK, this]
end Go.Abs

namespace Go.Abs
variable [Globals]
structure Scene where
  name : ByteArray
  items : List Item
  deriving Inhabited, DecidableEq
structure Cause where
  kind : Int
  name : ByteArray
  prio : Int
  deriving Inhabited, DecidableEq
structure Write where
  key : Key
  value : Val
  cause : Cause
  order : Int
  deriving Inhabited, DecidableEq
theorem firstI_cases {n : Nat} {p : Nat → Bool} : (firstI n p < n ∧ p (firstI n p) = true ∧ ∀ j, j < firstI n p → p j = false) ∨ (firstI n p = n ∧ ∀ j, j < n → p j = false) := by
  unfold firstI
  split
  · rename_i i e
    rw [List.find?_range_eq_some] at e
    exact .inl ⟨by simpa using e.2.1, e.1, fun j hj => by simpa using e.2.2 j hj⟩
  · rename_i e
    rw [List.find?_eq_none] at e
    exact .inr ⟨rfl, fun j hj => by simpa using e j (by simpa using hj)⟩
abbrev KKey : KK := .agg [.int .i64, .str, .str]
theorem has_key {v : Value} (h : KKey.has v) : ∃ k : Key, v = .agg ⟨vKey k⟩ := by
  obtain ⟨vs, rfl, hs, hl⟩ := h
  obtain ⟨d, h0⟩ := hl 0 (.int .i64) rfl
  obtain ⟨c, h1⟩ := hl 1 .str rfl
  obtain ⟨a, h2⟩ := hl 2 .str rfl
  refine ⟨⟨d, c, a⟩, ?_⟩
  congr 1
  apply Array.ext
  · simpa [vKey] using hs
  · intro i hi1 hi2
    have h3 : i = 0 ∨ i = 1 ∨ i = 2 := by simp at hs; omega
    rcases h3 with rfl | rfl | rfl
    · simpa [Array.getD, hi1, vKey] using h0
    · simpa [Array.getD, hi1, vKey] using h1
    · simpa [Array.getD, hi1, vKey] using h2
def kOf : Value → Key
  | .agg ⟨[.int _ d, .string c, .string a]⟩ => ⟨d, c, a⟩
  | _ => default
theorem kOf_key (k : Key) : kOf (.agg ⟨vKey k⟩) = k := rfl
theorem vKey_inj {a b : Key} : (Value.agg ⟨vKey a⟩ = Value.agg ⟨vKey b⟩) ↔ a = b := by
  constructor
  · intro h
    have := congrArg kOf h
    simpa [kOf_key] using this
  · rintro rfl; rfl
theorem lookPut_yes {look : Value → Option PV} {k k' : Value} {p : PV} (h : k' = k) : lookPut look k p k' = some p := by unfold lookPut; rw [if_pos h]
theorem lookPut_no {look : Value → Option PV} {k k' : Value} {p : PV} (h : k' ≠ k) : lookPut look k p k' = look k' := by unfold lookPut; rw [if_neg h]
end Go.Abs

namespace Go.Proofs
open Go.Shelf
def Tryz.sortKey_ren : Go.Shelf.Ren := ⟨fun | 6 => 137 | 15 => 168 | 14 => 167 | 28 => 184 | 29 => 185 | 20 => 176 | 21 => 177 | 22 => 178 | 23 => 179 | 24 => 180 | 25 => 181 | 26 => 182 | 27 => 183 | 46 => 192 | 47 => 193 | 48 => 194 | 49 => 195 | 50 => 196 | 57 => 198 | n => n, fun | 22 => 46 | 24 => 34 | 25 => 157 | 3 => 3 | 39 => 174 | 0 => 0 | 53 => 192 | 55 => 95 | 4 => 4 | 46 => 185 | 45 => 184 | 50 => 189 | 5 => 5 | 9 => 9 | 66 => 197 | 70 => 201 | 76 => 203 | 77 => 204 | n => n, fun | n => n⟩
theorem Tryz.sortKey : Go.Proofs.SlLaysF0.n6 Tryz.prog Tryz.sortKey_ren := {
  mixed := by kernel_rfl
  f6 := ⟨Tryz.f137.name, by decide, Tryz.func137.trans (congrArg some (by kernel_rfl))⟩
  f14 := ⟨Tryz.f167.name, by decide, Tryz.func167.trans (congrArg some (by kernel_rfl))⟩
  f15 := Tryz.func168.trans (congrArg some (by kernel_rfl))
  f20 := ⟨Tryz.f176.name, by decide, Tryz.func176.trans (congrArg some (by kernel_rfl))⟩
  f21 := ⟨Tryz.f177.name, by decide, Tryz.func177.trans (congrArg some (by kernel_rfl))⟩
  f22 := ⟨Tryz.f178.name, by decide, Tryz.func178.trans (congrArg some (by kernel_rfl))⟩
  f23 := ⟨Tryz.f179.name, by decide, Tryz.func179.trans (congrArg some (by kernel_rfl))⟩
  f24 := ⟨Tryz.f180.name, by decide, Tryz.func180.trans (congrArg some (by kernel_rfl))⟩
  f25 := ⟨Tryz.f181.name, by decide, Tryz.func181.trans (congrArg some (by kernel_rfl))⟩
  f26 := ⟨Tryz.f182.name, by decide, Tryz.func182.trans (congrArg some (by kernel_rfl))⟩
  f27 := ⟨Tryz.f183.name, by decide, Tryz.func183.trans (congrArg some (by kernel_rfl))⟩
  f28 := Tryz.func184.trans (congrArg some (by kernel_rfl))
  f29 := Tryz.func185.trans (congrArg some (by kernel_rfl))
  f46 := ⟨Tryz.f192.name, by decide, Tryz.func192.trans (congrArg some (by kernel_rfl))⟩
  f47 := Tryz.func193.trans (congrArg some (by kernel_rfl))
  f48 := Tryz.func194.trans (congrArg some (by kernel_rfl))
  f49 := ⟨Tryz.f195.name, by decide, Tryz.func195.trans (congrArg some (by kernel_rfl))⟩
  f50 := ⟨Tryz.f196.name, by decide, Tryz.func196.trans (congrArg some (by kernel_rfl))⟩
  f57 := ⟨Tryz.f198.name, by decide, Tryz.func198.trans (congrArg some (by kernel_rfl))⟩
  t0 := Tryz.underlying0
  a0 := Tryz.isAgg0
  z0 := Tryz.sizeOf0
  v0 := Tryz.zeroValue0
  t3 := Tryz.underlying3
  a3 := Tryz.isAgg3
  z3 := Tryz.sizeOf3
  v3 := Tryz.zeroValue3
  t4 := Tryz.underlying4
  a4 := Tryz.isAgg4
  z4 := Tryz.sizeOf4
  v4 := Tryz.zeroValue4
  t5 := Tryz.underlying5
  a5 := Tryz.isAgg5
  z5 := Tryz.sizeOf5
  v5 := Tryz.zeroValue5
  t9 := Tryz.underlying9
  a9 := Tryz.isAgg9
  z9 := Tryz.sizeOf9
  v9 := Tryz.zeroValue9
  t22 := Tryz.underlying46
  a22 := Tryz.isAgg46
  z22 := Tryz.sizeOf46
  v22 := Tryz.zeroValue46
  t25 := Tryz.underlying157
  a25 := Tryz.isAgg157
  z25 := Tryz.sizeOf157
  v25 := Tryz.zeroValue157
  t39 := Tryz.underlying174
  a39 := Tryz.isAgg174
  z39 := Tryz.sizeOf174
  v39 := Tryz.zeroValue174
  t45 := Tryz.underlying184
  a45 := Tryz.isAgg184
  z45 := Tryz.sizeOf184
  v45 := Tryz.zeroValue184
  t46 := Tryz.underlying185
  a46 := Tryz.isAgg185
  z46 := Tryz.sizeOf185
  v46 := Tryz.zeroValue185
  t50 := Tryz.underlying189
  a50 := Tryz.isAgg189
  z50 := Tryz.sizeOf189
  v50 := Tryz.zeroValue189
  t53 := Tryz.underlying192
  a53 := Tryz.isAgg192
  z53 := Tryz.sizeOf192
  v53 := Tryz.zeroValue192
  t55 := Tryz.underlying95
  a55 := Tryz.isAgg95
  z55 := Tryz.sizeOf95
  v55 := Tryz.zeroValue95
  t66 := Tryz.underlying197
  a66 := Tryz.isAgg197
  z66 := Tryz.sizeOf197
  v66 := Tryz.zeroValue197
  t70 := Tryz.underlying201
  a70 := Tryz.isAgg201
  z70 := Tryz.sizeOf201
  v70 := Tryz.zeroValue201
  t76 := Tryz.underlying203
  a76 := Tryz.isAgg203
  z76 := Tryz.sizeOf203
  v76 := Tryz.zeroValue203
  t77 := Tryz.underlying204
  a77 := Tryz.isAgg204
  z77 := Tryz.sizeOf204
  v77 := Tryz.zeroValue204 }
end Go.Proofs

namespace Go.Abs
open Go.RowKit Go.Shelf Go.Sort
variable [Globals]
theorem grown_of_ext {w w' : World} (ho : w'.os = w.os) (ht : w'.tape = w.tape) (hp : w'.output = w.output) (hs : w.heap.size ≤ w'.heap.size) (hb : ∀ b, b < w.heap.size → w'.heap[b]? = w.heap[b]?) (hd : w.drawn ≤ w'.drawn) :
    ∃ q os', w' = grow (w.drewN q) os' := by
  refine ⟨w'.drawn - w.drawn, w'.heap.extract w.heap.size w'.heap.size, ?_⟩
  obtain ⟨heap, tape, drawn, os, output⟩ := w
  obtain ⟨heap', tape', drawn', os', output'⟩ := w'
  simp only at *
  subst ho; subst ht; subst hp
  simp only [grow, World.drewN, World.mk.injEq, true_and, and_true]
  refine ⟨?_, by omega⟩
  apply Array.ext_getElem?
  intro i
  rw [Array.getElem?_append]
  split
  · rename_i h; exact hb i h
  · rename_i h
    by_cases h2 : i < heap'.size
    · rw [Array.getElem?_extract]
      rw [if_pos (by omega)]
      congr 1; omega
    · rw [Array.getElem?_eq_none (by omega), Array.getElem?_eq_none (by simp; omega)]
section
variable {P : Program} {ρ : Ren} {α : Type} [Inhabited α]
theorem sortWorld_same {encV : α → List Value} {k : Nat} {M : Nat → Prop} {w : World} {b m : Nat} {dk : Array α} {os : Array Obj} (hb : M b) : Same M w (Proofs.sortWorldK encV k w b 0 m dk os) := by
  unfold Proofs.sortWorldK grow
  refine ⟨by simp [putRowK, Sort.ahead], fun c hc hm => ?_⟩
  have hne : b ≠ c := fun e => hm (e ▸ hb)
  show ((putRowK encV k (Sort.ahead w m) b 0 dk).heap ++ os)[c]? = _
  rw [Array.getElem?_append_left (by simp [putRowK, Sort.ahead]; exact hc)]
  simp only [putRowK, putRow, mapBlock, Sort.ahead]
  rw [Array.getElem?_modify]
  simp [hne]
theorem agg_vals {W : World} {M : Nat → Prop} {l : List Value} (h1 : ∀ v ∈ l, v.oneCell' = true) : PR W M (.agg (l.map .val)) (.agg l.toArray) := by
  refine .agg _ _ (by simp) (fun i p e => ?_) (fun i hi' => ?_)
  · rw [List.getElem?_map] at e
    cases hq : l[i]? with
    | none => rw [hq] at e; cases e
    | some q =>
      rw [hq] at e; cases e
      have : l.toArray.getD i undef = q := by simp [Array.getD_eq_getD_getElem?, hq]
      rw [this]; exact .val q
  · have hlt : i < l.length := by simpa using hi'
    have := h1 l[i] (List.getElem_mem hlt)
    simpa [Array.getD, hlt] using this
theorem two_args {W : World} {St M : Nat → Prop} {σ : Sig} {p q : PV} {u v : Value} (hu : PR W M p u) (hv : PR W M q v) : ∀ (i : Nat) (z : AV), [AV.pv p, AV.pv q][i]? = some z → AR P W St M σ z (#[u, v].getD i undef) := by
  intro i z e
  match i, e with
  | 0, e => cases e; exact .pv _ _ hu
  | 1, e => cases e; exact .pv _ _ hv
  | i + 2, e => simp at e
theorem ac_grown {g : FuncId} {p q : PV} {n : Int} (h : AC P g [.pv p, .pv q] [] (.pv (.val (.int .i64 n))) []) {M : Nat → Prop} {W : World} {u v : Value} (hM : ∀ b, M b → b < W.heap.size) (hG : Glob W M) (hu : PR W M p u) (hv : PR W M q v) :
    Calls P g #[u, v] W fun e w' => e = .returned (.int .i64 n) ∧ ∃ r os', w' = grow (W.drewN r) os' := by
  have hMo : ∀ b, Mof M (fun _ => none) b ↔ M b := fun b => ⟨fun h => h.elim id (fun ⟨l, loc, e, _⟩ => (by cases e)), fun h => .inl h⟩
  have hMe : Mof M (fun _ => none) = M := funext fun b => propext (hMo b)
  have hinv : Inv (fun _ => False) M (fun _ => none) W := by
    refine ⟨fun l l' loc loc' c e => (by cases e), fun c ⟨l, loc, e, _⟩ => (by cases e), fun c h => ⟨hM c h, fun ⟨l, loc, e, _⟩ => by cases e⟩, fun c h => h.elim, ?_⟩
    rw [hMe]; exact hG
  refine (h.2 (fun _ => False) M (fun _ => none) W #[u, v] hinv (fun _ _ => rfl) (fun l o e => by simp [getO] at e) rfl (two_args (by rw [hMe]; exact hu) (by rw [hMe]; exact hv))).mono (fun e w' he => ?_)
  obtain ⟨v, σ', rfl, hp⟩ := he
  have hv := pr_val (arg_pv hp.val)
  subst hv
  refine ⟨rfl, grown_of_ext hp.ext.os hp.ext.tape hp.ext.output hp.ext.size (fun c hc => hp.ext.block c hc ?_) hp.ext.drawn⟩
  rintro ⟨l, loc, h, _⟩
  exact h rfl
theorem cmpLays_of_ac {g : FuncId} {encV : α → List Value} {k : Nat} {cf : α → α → Int} (h1 : ∀ x, ∀ v ∈ encV x, v.oneCell' = true)
    (hg : ∀ x y, AC P g [.pv (.agg ((encV x).map .val)), .pv (.agg ((encV y).map .val))] [] (.pv (.val (.int .i64 (cf x y)))) [])
    {St M0 : Nat → Prop} {σ : Sig} {w : World} (hi : Inv St M0 σ w) {b size : Nat} (hb : owned σ b) : Proofs.CmpLays P g #[] encV k cf b 0 size w := by
  intro m os dk hdk x y
  have hsame : Same (Mof M0 σ) w (Proofs.sortWorldK encV k w b 0 m dk os) := sortWorld_same (.inr hb)
  rw [Array.append_empty]
  exact ac_grown (hg x y) (M := Mof M0 σ) (fun c h => Nat.lt_of_lt_of_le (h.elim (fun h => (hi.m0 c h).1) (hi.lt c)) hsame.1) (hi.gl.mono hsame (fun c _ h => h)) (agg_vals (h1 x)) (agg_vals (h1 y))
theorem sortWorld_ext {encV : α → List Value} {k : Nat} {w : World} {b n : Nat} {d : Array α} {os : Array Obj} : FExt (fun c => c = b) w (Proofs.sortWorldK encV k w b 0 n d os) := by
  refine ⟨rfl, rfl, rfl, by simp [Proofs.sortWorldK, grow, putRowK, Sort.ahead], fun c hc hne => ?_, by simp [Proofs.sortWorldK, grow, putRowK, putRow, mapBlock, Sort.ahead]⟩
  show ((putRowK encV k (Sort.ahead w n) b 0 d).heap ++ os)[c]? = _
  rw [Array.getElem?_append_left (by simp [putRowK, Sort.ahead]; exact hc)]
  simp only [putRowK, putRow, mapBlock, Sort.ahead]
  rw [Array.getElem?_modify]
  simp [Ne.symm hne]
theorem sortWorld_row {encV : α → List Value} {k : Nat} {w : World} {b n : Nat} {d : Array α} {os : Array Obj} {vs : Array Value} {t : TypeId} (hb : w.heap[b]? = some (.cells vs t (0, 0))) :
    (Proofs.sortWorldK encV k w b 0 n d os).heap[b]? = some (.cells (Sort.putCells id 0 (flatK encV k d) vs) t (0, 0)) := by
  have hlt := lt_of_block hb
  show ((putRowK encV k (Sort.ahead w n) b 0 d).heap ++ os)[b]? = _
  rw [Array.getElem?_append_left (by simp [putRowK, Sort.ahead]; exact hlt)]
  simp only [putRowK, putRow, mapBlock, Sort.ahead]
  rw [Array.getElem?_modify]
  simp [hb, onCells]
theorem AC.sortFunc (L : Proofs.SlLaysF0.n6 P ρ) (k : Nat) (aE : ∀ w, (isAgg (ρ.t 24)).run P w = .ok true w) (zE : ∀ w, (Go.sizeOf (ρ.t 24)).run P w = .ok k w) (encV : α → List Value) (hk : ∀ x, (encV x).length = k) (h1 : ∀ x, ∀ v ∈ encV x, v.oneCell' = true) (cf : α → α → Int) (hO : SWO (Proofs.ltOf cf)) (g : FuncId)
    (hg : ∀ x y, AC P g [.pv (.agg ((encV x).map .val)), .pv (.agg ((encV y).map .val))] [] (.pv (.val (.int .i64 (cf x y)))) []) (hT : ∀ x y, Proofs.ltOf cf x y = false → Proofs.ltOf cf y x = false → x = y)
    (hcall : ∀ (vals : Array Value) (w : World), (callFunc (ρ.f 6) vals).run P w = .ok (.enter (ρ.f 6) vals) w) (l : List α) (hl : l.length < 4611686018427387904) :
    AC P (ρ.f 6) [.own 0, .fn g []] [(0, .row k l.length fun i => (encV (l.getD i default)).map .val)] (.pv (.tup [])) [(0, .row k l.length fun i => (encV ((l.mergeSort fun x y => !(Proofs.ltOf cf) y x).getD i default)).map .val)] := by
  refine ⟨hcall, fun St M0 σ w vals hi hσ hos hsz hA => ?_⟩
  obtain ⟨loc, hloc, hor⟩ := hos 0 _ (by simp [getO]; rfl)
  have hv0 := arg_own (hA 0 (.own 0) rfl) hloc
  have hv1 := hA 1 (.fn g []) rfl
  have hvals : vals = #[vals.getD 0 undef, vals.getD 1 undef] := by
    have hs2 : vals.size = 2 := hsz
    apply Array.ext
    · simpa using hs2
    · intro i h2 h3
      have : i = 0 ∨ i = 1 := by omega
      rcases this with rfl | rfl <;> simp [Array.getD, hs2]
  have hfv : vals.getD 1 undef = .func (.func g) #[] #[] := by
    generalize vals.getD 1 undef = v at hv1
    cases hv1 with
    | fn f caps vs hlc _ =>
      have : vs = #[] := by simpa using hlc
      rw [this]
  rw [hvals, hv0, hfv]
  have done : ∀ w' : World, w' = w → l.length = 0 → ∃ v σ', Ending.returned (.tuple #[]) = .returned v ∧ Post P St M0 σ w [(0, .row k l.length fun i => (encV ((l.mergeSort fun x y => !(Proofs.ltOf cf) y x).getD i default)).map .val)] (.pv (.tup [])) σ' v w' := by
    rintro w' rfl hl0
    refine ⟨_, σ, rfl, Post.redo hi ⟨loc, hloc, ?_⟩ (.pv _ _ (.tup _ _ rfl fun i p e => by simp at e))⟩
    have h0 : l = [] := List.length_eq_zero_iff.1 hl0
    subst h0
    simpa using hor
  generalize hn0 : l.length = n0 at hor
  cases hor with
  | row0 _ _ a =>
    refine (Proofs.AnyF.slices_SortFunc_none L a 0 _ w).mono (fun e w' h => ?_)
    obtain ⟨rfl, hw⟩ := h
    have h5 := done w' hw hn0
    rw [hn0] at h5
    exact h5
  | row _ _ _ b cap vs t hb hn hmax hsz' hs hh hone =>
    subst hn0
    by_cases h0 : l.length = 0
    · have none' : ∀ n, n = 0 → Calls P (ρ.f 6) #[.slice (some ⟨b, 0, none⟩) n cap, .func (.func g) #[] #[]] w fun e w' => e = .returned (.tuple #[]) ∧ w' = w := by
        intro n hn
        rw [hn]
        exact Proofs.AnyF.slices_SortFunc_none L (some ⟨b, 0, none⟩) cap (.func (.func g) #[] #[]) w
      have := none' l.length h0
      refine this.mono (fun e w' h => ?_)
      obtain ⟨rfl, hw⟩ := h
      exact done w' hw h0
    · have hblk := lt_of_block hb
      have hget : ∀ j, j < l.length * k → vs.getD j undef = (flatK encV k l.toArray)[j]! := by
        intro j hj
        have k0 : 0 < k := by rcases Nat.eq_zero_or_pos k with h | h; · subst h; simp at hj
                              · exact h
        have hd : j / k < l.length := (Nat.div_lt_iff_lt_mul k0).2 hj
        have hm : j % k < (encV (l.getD (j / k) default)).length := by rw [hk]; exact Nat.mod_lt _ k0
        have hp := hh (j / k) hd (j % k) (.val ((encV (l.getD (j / k) default))[j % k]'hm)) (by simp [hm])
        have hp := pr_val hp
        rw [show j / k * k + j % k = j from by rw [Nat.mul_comm]; exact Nat.div_add_mod j k] at hp
        rw [hp, get_flatK _ _ _ _ (by simpa using hj)]
        have e1 : l.toArray[j / k]! = l.getD (j / k) default := by simp [List.getD, hd]
        rw [e1, getElem!_pos (encV (l.getD (j / k) default)) (j % k) hm]
      have hH : HoldsK encV k w b 0 l.toArray := by
        intro j hj
        have hj' : j < l.length * k := by simpa using hj
        have hlt : j < vs.size := by rw [hsz']; exact Nat.lt_of_lt_of_le hj' (Nat.mul_le_mul_right _ hn)
        refine ⟨?_, ?_⟩
        · rw [Nat.zero_add, id, ← hget j hj']
          simp [World.cell?, hb, Array.getD, hlt]
        · simp [World.frozen?, hb]
      have hown : owned σ b := ⟨0, _, hloc, rfl⟩
      have := Proofs.AnyQ.slices_SortFunc_total L k aE zE encV hk h1 cf hO g #[] b 0 cap l.toArray w (hg default default).1 (cmpLays_of_ac h1 hg hi hown) hH hblk (by simpa using hl) hT
      have e0 : (l.toArray).size = l.length := by simp
      rw [e0] at this
      refine this.mono ?_
      rintro e w' ⟨rfl, n, os, rfl⟩
      have hx := sortWorld_ext (encV := encV) (k := k) (w := w) (b := b) (n := n) (d := (l.toArray.toList.mergeSort fun x y => !(Proofs.ltOf cf) y x).toArray) (os := os)
      have hrow := sortWorld_row (encV := encV) (k := k) (w := w) (b := b) (n := n) (d := (l.toArray.toList.mergeSort fun x y => !(Proofs.ltOf cf) y x).toArray) (os := os) hb
      have hlm : (l.mergeSort fun x y => !(Proofs.ltOf cf) y x).length = l.length := List.length_mergeSort _
      refine ⟨_, σ, rfl, Post.upd hi hloc rfl hx (by simp) (.row _ _ _ b cap _ t hrow hn hmax (by simp [Sort.putCells, hsz']) (fun i hi' => by simp [hk]) (fun i hi' j p e => ?_) (fun i hi' => ?_)) (.pv _ _ (.tup _ _ rfl fun i p e => by simp at e))⟩
      · rw [List.getElem?_map] at e
        cases hq : (encV ((l.mergeSort fun x y => !(Proofs.ltOf cf) y x).getD i default))[j]? with
        | none => rw [hq] at e; cases e
        | some q =>
          rw [hq] at e; cases e
          have hj : j < k := by have := (List.getElem?_eq_some_iff.1 hq).1; rwa [hk] at this
          have hlt : i * k + j < l.length * k := idx_lt hi' hj
          have hltv : i * k + j < vs.size := by rw [hsz']; exact Nat.lt_of_lt_of_le hlt (Nat.mul_le_mul_right _ hn)
          have : (Sort.putCells id 0 (flatK encV k (l.toArray.toList.mergeSort fun x y => !(Proofs.ltOf cf) y x).toArray) vs).getD (i * k + j) undef = q := by
            simp only [Sort.putCells, Array.getD, Array.size_mapIdx, hltv, dif_pos, Array.getInternal_eq_getElem, Array.getElem_mapIdx]
            rw [if_pos (by simp [hlm]; exact hlt)]
            rw [Nat.sub_zero, id, get_flatK _ _ _ _ (by simp [hlm]; exact hlt)]
            have e1 : (i * k + j) / k = i := by rw [Nat.add_comm, Nat.add_mul_div_right _ _ (by omega), Nat.div_eq_of_lt hj, Nat.zero_add]
            have e2 : (i * k + j) % k = j := by rw [Nat.add_comm, Nat.add_mul_mod_self_right, Nat.mod_eq_of_lt hj]
            rw [e1, e2]
            have e3 : (l.toArray.toList.mergeSort fun x y => !(Proofs.ltOf cf) y x).toArray[i]! = (l.mergeSort fun x y => !(Proofs.ltOf cf) y x).getD i default := by
              have : i < (l.mergeSort fun x y => !(Proofs.ltOf cf) y x).length := by omega
              simp [List.getD, this]
            rw [e3]
            have hj2 := (List.getElem?_eq_some_iff.1 hq)
            obtain ⟨h3, h4⟩ := hj2
            rw [getElem!_pos (encV ((l.mergeSort fun x y => !(Proofs.ltOf cf) y x).getD i default)) j h3, h4]
          rw [this]; exact .val q
      · have hltv : i < vs.size := by simpa [Sort.putCells] using hi'
        simp only [Sort.putCells, Array.getD, Array.size_mapIdx, hltv, dif_pos, Array.getInternal_eq_getElem, Array.getElem_mapIdx]
        split
        · rename_i hc
          have hf : i - 0 < (flatK encV k (l.toArray.toList.mergeSort fun x y => !(Proofs.ltOf cf) y x).toArray).size := by
            have := hc.2
            simp only [Nat.zero_add, Nat.sub_zero] at this ⊢
            exact this
          have k0 : 0 < k := by rcases Nat.eq_zero_or_pos k with h | h; · subst h; simp at hf
                                · exact h
          rw [id, get_flatK _ _ _ _ (by simpa using hf)]
          have hm : (i - 0) % k < (encV (l.toArray.toList.mergeSort fun x y => !(Proofs.ltOf cf) y x).toArray[(i - 0) / k]!).length := by rw [hk]; exact Nat.mod_lt _ k0
          rw [getElem!_pos (encV (l.toArray.toList.mergeSort fun x y => !(Proofs.ltOf cf) y x).toArray[(i - 0) / k]!) ((i - 0) % k) hm]
          exact h1 _ _ (List.getElem_mem hm)
        · have := hone i hltv
          simpa [Array.getD, hltv] using this
end
end Go.Abs

namespace Go.Abs
open Go.Proofs
set_option maxRecDepth 10000
theorem ac_device_Changed_1 (a b : Key) : AC Tryz.prog 138 [.pv (.agg (cKey a)), .pv (.agg (cKey b))] [] (.pv (vint (cmpK a b))) [] := by
  refine AC.of_awp (T := T) T_ok hm Tryz.call138 Tryz.func138 rfl rfl rfl ?_
  conv => whnf
  repeat (any_goals (first
    | (refine ⟨fun (h : (_ : Bool) = true) => ?_, fun (h : (_ : Bool) = false) => ?_⟩ <;> (try simp only [decide_eq_true_eq, decide_eq_false_iff_not, Bool.not_eq_true', Bool.not_eq_false', Int.toNat_natCast, beq_iff_eq, decide_eq_decide, beq_eq_false_iff_ne, ne_eq, reduceCtorEq] at h) <;> (conv => whnf))
    | (refine .inl ⟨_, ac_device_Less a b, ?_⟩; conv => whnf)
    | (refine .inl ⟨_, ac_device_Less b a, ?_⟩; conv => whnf)
    | (refine And.intro (by (try simp only [Int.toNat_natCast]); omega) ?_; conv => whnf)
    | (refine And.intro (show (_ : Bool) = true from by kernel_rfl) ?_; conv => whnf)
    | (refine .inl ⟨wrap64 (by omega), ?_⟩; conv => whnf)))
  all_goals (try simp only [decide_eq_true_eq, decide_eq_false_iff_not, Bool.not_eq_true', Bool.not_eq_false', Int.toNat_natCast, beq_iff_eq, decide_eq_decide, beq_eq_false_iff_ne, ne_eq, reduceCtorEq] at *)
  all_goals first
    | contradiction
    | (exfalso; omega)
    | exact PSub.rfl
    | (refine PSub.int ?_; simp only [cmpK]; (repeat' split) <;> first | rfl | omega | (simp_all [-List.getD_eq_getElem?_getD]; done) | (simp_all [-List.getD_eq_getElem?_getD]; omega))
    | (refine PSub.sb ?_; simp_all [cmpK, -List.getD_eq_getElem?_getD]; done)
    | (refine PSub.lit_sb ?_; simp_all [cmpK, -List.getD_eq_getElem?_getD]; done)
    | (refine PSub.sb_lit ?_; simp_all [cmpK, -List.getD_eq_getElem?_getD]; done)
    | (refine PSub.sb ?_; rw [Bool.eq_iff_iff]; simp_all [cmpK, -List.getD_eq_getElem?_getD]; done)
    | (refine PSub.lit_sb ?_; rw [Bool.eq_iff_iff]; simp_all [cmpK, -List.getD_eq_getElem?_getD]; done)
    | (refine PSub.sb_lit ?_; rw [Bool.eq_iff_iff]; simp_all [cmpK, -List.getD_eq_getElem?_getD]; done)
    | skip
theorem ac_slices_SortFunc_Key (g : FuncId) (hg : ∀ a b, AC Tryz.prog g [.pv (.agg (cKey a)), .pv (.agg (cKey b))] [] (.pv (vint (cmpK a b))) []) (l : List Key) (hl : l.length ≤ 8388608) :
    AC Tryz.prog 137 [.own 0, .fn g []] [(0, rowL 3 cKey l)] (.pv (.tup [])) [(0, rowL 3 cKey (sortedK l))] := by
  have := AC.sortFunc (α := Key) Tryz.sortKey 3 Tryz.isAgg34 Tryz.sizeOf34 vKey (fun _ => rfl) (fun x v hv => by simp [vKey] at hv; rcases hv with rfl | rfl | rfl <;> rfl) cmpK swo_cmpK g hg parts_cmpK Tryz.call137 l (by omega)
  rw [sortedK_eq] at this
  unfold rowL
  rw [sortedK_length]
  exact this
end Go.Abs

namespace Go.Abs
open Go.Proofs
set_option maxRecDepth 10000
theorem item_eq (a b : Item) : (decide (a.key.dev = b.key.dev) && (decide (a.key.cluster = b.key.cluster) && (decide (a.key.attr = b.key.attr) && (decide (a.value.kind = b.value.kind) && (decide (a.value.n = b.value.n) && (decide (a.value.s = b.value.s) && (decide (a.version = b.version) && true))))))) = decide (a = b) := by
  obtain ⟨⟨a1, a2, a3⟩, ⟨a4, a5, a6⟩, a7⟩ := a
  obtain ⟨⟨b1, b2, b3⟩, ⟨b4, b5, b6⟩, b7⟩ := b
  rw [Bool.eq_iff_iff]; simp [and_assoc]
theorem ac_r22_Same (a b : List Item) (ha : a.length ≤ 4194304) : AC Tryz.prog 42 [.pv (roL 7 cItem a), .pv (roL 7 cItem b)] [] (.pv (vbool (decide (a = b)))) [] := by
  refine AC.of_awp (T := T) T_ok hm Tryz.call42 Tryz.func42 rfl rfl rfl ?_
  conv => whnf
  refine ⟨fun h => ?_, fun h => ?_⟩ <;> (try simp only [decide_eq_true_eq, decide_eq_false_iff_not, Bool.not_eq_true', Bool.not_eq_false', Int.toNat_natCast, beq_iff_eq, decide_eq_decide, beq_eq_false_iff_ne, ne_eq, reduceCtorEq] at h) <;> (conv => whnf)
  · exact PSub.lit_sb (by symm; simp only [decide_eq_false_iff_not]; intro e; exact h (by rw [e]))
  have hl := h
  refine loop_k (ι := Nat) [0, 1] [] (fun k => k ≤ a.length ∧ (∀ j, j < k → a.getD j default = b.getD j default)) (fun k => a.length - k) 0 (fun k => [(5, .pv (vint k))]) (fun _ => []) [] ⟨Nat.zero_le _, fun j h => absurd h (by omega)⟩ ?_ (fun k hk => ?_)
  · (repeat' (first | exact PSub.rfl | exact rfl | exact PSubs.rfl | exact trivial | exact PSub.lit_sb rfl | refine And.intro ?_ ?_))
  obtain ⟨hkn, hinv⟩ := hk
  conv => whnf
  repeat (any_goals (first
    | (refine ⟨fun (h : (_ : Bool) = true) => ?_, fun (h : (_ : Bool) = false) => ?_⟩ <;> (try simp only [decide_eq_true_eq, decide_eq_false_iff_not, Bool.not_eq_true', Bool.not_eq_false', Int.toNat_natCast, beq_iff_eq, decide_eq_decide, beq_eq_false_iff_ne, ne_eq, reduceCtorEq] at h) <;> (conv => whnf))
    | (refine And.intro (by (try simp only [Int.toNat_natCast]); omega) ?_; conv => whnf)
    | (refine And.intro (show (_ : Bool) = true from by kernel_rfl) ?_; conv => whnf)
    | (refine .inl ⟨wrap64 (by omega), ?_⟩; conv => whnf)))
  all_goals try rw [item_eq] at h
  all_goals try simp only [decide_eq_true_eq, decide_eq_false_iff_not] at h
  · exact PSub.lit_sb (by symm; simp only [decide_eq_false_iff_not]; intro e; exact h (by rw [e]))
  · refine ⟨k + 1, [], ⟨by omega, ?_⟩, by first | omega | (dsimp only; omega), ?_⟩
    rotate_left
    · (repeat' (first | exact PSub.rfl | exact rfl | exact PSubs.rfl | exact trivial | exact PSub.lit_sb rfl | refine And.intro ?_ ?_))
    intro j hj
    by_cases e : j = k
    · subst e; first | exact h | simpa [-List.getD_eq_getElem?_getD] using h | simp_all [-List.getD_eq_getElem?_getD]
    · exact hinv j (by omega)
  · exact PSub.lit_sb (by symm; simp only [decide_eq_true_eq]; exact list_eq (by omega) fun i hi => hinv i (by omega))
structure Op where
  H : Hom
  L : List Item
  K : Key
  V : Val
  deriving Inhabited
theorem initL_length {H : Hom} {id : Int} : (initL H id).length = (keysL H id).length := by simp [initL]
section
variable {H : Type} {enc : TypeId × Value → H} {w : World} {bulk : DataW H → Nat}
end
end Go.Abs

namespace Go.Abs
open Go.RowKit Go.Shelf Go.Lib
variable [Globals]
section
variable {P : Program} {ρ : Ren}
theorem AC.grow (L : Proofs.Lays8.n4 P ρ) {t : TypeId} {i : TypeInfo} {z : Value} (hE : ElemOf P t (ρ.t 25) i z) (n : Nat) (hbig : n * i.bytes ≤ 140737488355328) (h63 : n ≤ 8388608) (f : Nat → List PV)
    (hcall : ∀ (vals : Array Value) (w : World), (callFunc (ρ.f 4) vals).run P w = .ok (.enter (ρ.f 4) vals) w) :
    AC P (ρ.f 4) [.pv (.val (.slice none 0 0)), .pv (.val (.int .i64 n))] [] (.own 0) [(0, .row i.size 0 f)] := by
  refine ⟨hcall, fun St M0 σ w vals hi hσ hos hsz hA => ?_⟩
  have hv0 := pr_val (arg_pv (hA 0 _ rfl))
  have hv1 := pr_val (arg_pv (hA 1 _ rfl))
  have hvals : vals = #[vals.getD 0 undef, vals.getD 1 undef] := by
    have hs2 : vals.size = 2 := hsz
    apply Array.ext
    · simpa using hs2
    · intro i h2 h3
      have : i = 0 ∨ i = 1 := by omega
      rcases this with rfl | rfl <;> simp [Array.getD, hs2]
  rw [hvals, hv0, hv1]
  have hf0 : σ 0 = none := hσ 0 rfl
  by_cases h0 : n = 0
  · subst h0
    refine (Proofs.Any8.slices_Grow_room L none 0 0 0 w (Nat.le_refl _) (by decide) (by decide) (Nat.le_refl _)).mono (fun e w' h => ?_)
    obtain ⟨rfl, rfl⟩ := h
    exact ⟨_, _, rfl, Post.made (loc := ⟨.slice none 0 0, none⟩) hi hf0 (fun b h => by cases h) (FExt.refl _ _) (by intro h; cases h) (.row0 _ _ _)⟩
  · refine (Proofs.Any8.slices_Grow_grow L i z hE.hi hE.hz hE.pos none 0 0 n [] w (Nat.le_refl _) (by omega) (by simpa using hbig) (by omega) (by simp) (fun _ => rfl) (fun a h => by cases h)).mono (fun e w' h => ?_)
    obtain ⟨rfl, rfl⟩ := h
    have hge := grownCap_ge w (0 + n) 0 (ρ.t 25)
    have hle := grownCap_le_maxLen w (0 + n) 0 (ρ.t 25) (by unfold maxLen; omega)
    generalize grownCap w (0 + n) 0 (ρ.t 25) = c at *
    refine ⟨_, _, rfl, Post.made (loc := ⟨.slice (some ⟨w.heap.size, 0, none⟩) 0 c, some w.heap.size⟩) hi hf0 (fun b h => by cases h; exact Nat.le_refl _)
      ⟨rfl, rfl, rfl, (same_alloc (fun _ => False) w.drew _).1, fun b hlt _ => alloc_old w.drew _ b hlt, Nat.le_succ _⟩ (by intro h; cases h)
      (.row i.size 0 f w.heap.size c _ (ρ.t 25) (alloc_new w.drew _) (Nat.zero_le _) hle ?_ (fun k h => absurd h (by omega)) (fun k h => absurd h (by omega)) (fun k hk => ?_))⟩
    · rw [Array.size_append, Array.size_append, size_zeroCells, size_zeroCells, hE.zs, List.size_toArray, List.length_nil, Nat.zero_add, ← Nat.add_mul]
      congr 1; omega
    · have hz0 : ∀ m : Nat, (Builtin.zeroCells z.cells m).size = m * z.cells.size := fun m => size_zeroCells ..
      have e0 : (([] : List Value).toArray ++ Builtin.zeroCells z.cells (0 + n - 0)) = Builtin.zeroCells z.cells (0 + n - 0) := by simp
      rw [e0] at hk ⊢
      by_cases hlt : k < (Builtin.zeroCells z.cells (0 + n - 0)).size
      · rw [getD_append_left hlt]
        exact zeroCells_get (by rw [hz0] at hlt; exact hlt) hE.z1
      · have e1 : (Builtin.zeroCells z.cells (0 + n - 0) ++ Builtin.zeroCells z.cells (c - (0 + n))).getD k undef = (Builtin.zeroCells z.cells (c - (0 + n))).getD (k - (Builtin.zeroCells z.cells (0 + n - 0)).size) undef := by
          simp only [Array.getD_eq_getD_getElem?]
          rw [Array.getElem?_append_right (Nat.le_of_not_lt hlt)]
        rw [e1]
        rw [Array.size_append] at hk
        have q1 := hz0 (c - (0 + n))
        have q2 := hz0 (0 + n - 0)
        exact zeroCells_get (by omega) hE.z1
end
end Go.Abs

namespace Go.Proofs
open Go.Shelf
def Tryz.growItem_ren : Go.Shelf.Ren := ⟨fun | 4 => 166 | n => n, fun | 22 => 26 | 25 => 51 | 3 => 3 | 4 => 4 | 9 => 9 | 20 => 20 | 0 => 0 | n => n, fun | n => n⟩
theorem Tryz.growItem : Go.Proofs.Lays8.n4 Tryz.prog Tryz.growItem_ren := {
  mixed := by kernel_rfl
  f4 := ⟨Tryz.f166.name, by decide, Tryz.func166.trans (congrArg some (by kernel_rfl))⟩
  t0 := Tryz.underlying0
  a0 := Tryz.isAgg0
  z0 := Tryz.sizeOf0
  v0 := Tryz.zeroValue0
  t3 := Tryz.underlying3
  a3 := Tryz.isAgg3
  z3 := Tryz.sizeOf3
  v3 := Tryz.zeroValue3
  t4 := Tryz.underlying4
  a4 := Tryz.isAgg4
  z4 := Tryz.sizeOf4
  v4 := Tryz.zeroValue4
  t9 := Tryz.underlying9
  a9 := Tryz.isAgg9
  z9 := Tryz.sizeOf9
  v9 := Tryz.zeroValue9
  t20 := Tryz.underlying20
  a20 := Tryz.isAgg20
  z20 := Tryz.sizeOf20
  v20 := Tryz.zeroValue20
  t22 := Tryz.underlying26
  a22 := Tryz.isAgg26
  z22 := Tryz.sizeOf26
  v22 := Tryz.zeroValue26 }
end Go.Proofs

namespace Go.Abs
open Go.Proofs
set_option maxRecDepth 10000
theorem ac_slices_Grow_Item (n : Nat) (hn : n ≤ 8388608) : AC Tryz.prog 166 [.pv (.val (.slice none 0 0)), .pv (vint n)] [] (.own 0) [(0, .row 7 0 fun _ => [])] := by
  obtain ⟨e, i, z, hE, hs⟩ := elemOf_spec (T := T) T_ok (t := 26) (size := 7) (by kernel_rfl)
  have he : e = 51 := by have := hE.ht; rw [Tryz.underlying26] at this; cases this; rfl
  subst he
  have := AC.grow Tryz.growItem hE n (Nat.le_trans (Nat.mul_le_mul hn hE.small) (by decide)) hn (fun _ => []) Tryz.call166
  rw [hs] at this
  exact this
theorem flat_take {ls : List (List Item)} {k : Nat} (h : k < ls.length) : (ls.take (k + 1)).flatten = (ls.take k).flatten ++ ls.getD k default := by
  rw [take_succ_getD h, List.flatten_append]; simp [-List.getD_eq_getElem?_getD]
theorem flat_le {ls : List (List Item)} {k : Nat} : (ls.take k).flatten.length ≤ ls.flatten.length := by
  conv => rhs; rw [← List.take_append_drop k ls, List.flatten_append, List.length_append]
  omega
theorem flat_add {ls : List (List Item)} {k : Nat} : (ls.take k).flatten.length + (ls.getD k default).length ≤ ls.flatten.length := by
  by_cases h : k < ls.length
  · have := flat_le (ls := ls) (k := k + 1)
    rw [flat_take h, List.length_append] at this
    exact this
  · have : ls.getD k default = [] := by simp [List.getD, Nat.le_of_not_lt h]; rfl
    rw [this]
    exact flat_le
theorem ac_slices_Concat_Item (ls : List (List Item)) (hl : smallL ls) (hf : ls.flatten.length ≤ 8388608) : AC Tryz.prog 135 [.pv (roL 1 (fun l => [roL 7 cItem l]) ls)] [] (.own 0) [(0, rowL 7 cItem ls.flatten)] := by
  have hl2 : ls.length ≤ 1048576 := hl
  refine AC.of_awp_own (T := T) T_ok hm Tryz.call135 Tryz.func135 rfl rfl rfl ?_
  conv => whnf
  refine loop_k (ι := Nat) [0, 9, 10] [] (fun k => k ≤ ls.length ∧ True) (fun k => ls.length - k) 0 (fun k => [(3, .pv (vint (ls.take k).flatten.length)), (11, .pv (vint k))]) (fun k => []) [] ⟨Nat.zero_le _, trivial⟩ ?_ (fun k hk => ?_)
  · (repeat' (first | exact PSub.rfl | exact rfl | exact PSubs.rfl | exact trivial | exact PSub.lit_sb rfl | refine And.intro ?_ ?_))
  obtain ⟨hkn, -⟩ := hk
  conv => whnf
  have hadd := flat_add (ls := ls) (k := k)
  repeat (any_goals (first
    | (refine ⟨fun (h : (_ : Bool) = true) => ?_, fun (h : (_ : Bool) = false) => ?_⟩ <;> (try simp only [decide_eq_true_eq, decide_eq_false_iff_not, Bool.not_eq_true', Bool.not_eq_false', Int.toNat_natCast, beq_iff_eq, decide_eq_decide, beq_eq_false_iff_ne, ne_eq, reduceCtorEq] at h) <;> (conv => whnf))
    | (refine .inr (.inl ⟨_, _, _, ac_slices_Grow_Item (ls.take k).flatten.length (Nat.le_trans flat_le hf), ?_⟩); conv => whnf)
    | (refine And.intro (by (try simp only [Int.toNat_natCast]); omega) ?_; conv => whnf)
    | (refine And.intro (show (_ : Bool) = true from by kernel_rfl) ?_; conv => whnf)
    | (refine .inl ⟨wrap64 (by omega), ?_⟩; conv => whnf)))
  · refine .inl ⟨show inR .i64 (((ls.take k).flatten.length : Int) + ((ls.getD k default).length : Int)) from wrap64 (by omega), ?_⟩
    conv => whnf
    repeat (any_goals (first
      | (refine ⟨fun (h : (_ : Bool) = true) => ?_, fun (h : (_ : Bool) = false) => ?_⟩ <;> (try simp only [decide_eq_true_eq, decide_eq_false_iff_not, Bool.not_eq_true', Bool.not_eq_false', Int.toNat_natCast, beq_iff_eq, decide_eq_decide, beq_eq_false_iff_ne, ne_eq, reduceCtorEq] at h) <;> (conv => whnf))
      | (refine And.intro (by (try simp only [Int.toNat_natCast]); omega) ?_; conv => whnf)
      | (refine And.intro (show (_ : Bool) = true from by kernel_rfl) ?_; conv => whnf)
      | (refine .inl ⟨wrap64 (by omega), ?_⟩; conv => whnf)))
    · exfalso; omega
    refine ⟨k + 1, [], ⟨by omega, trivial⟩, by omega, ?_⟩
    rw [flat_take (by omega), List.length_append]
    (repeat' (first | exact PSub.rfl | exact rfl | exact PSubs.rfl | exact trivial | exact PSub.lit_sb rfl | refine And.intro ?_ ?_))
    all_goals exact PSub.int (show ((ls.take k).flatten.length : Int) + ((ls.getD k default).length : Int) = _ from by omega)
  clear hadd hkn
  refine loop_k (ι := Nat) [25, 26] [] (fun q => q ≤ ls.length ∧ True) (fun q => ls.length - q) 0 (fun q => [(6, .own 500), (27, .pv (vint q))]) (fun q => [(500, rowL 7 cItem (ls.take q).flatten)]) [(500, 24)] ⟨Nat.zero_le _, trivial⟩ ?_ (fun q hk => ?_)
  · (repeat' (first | exact PSub.rfl | exact rfl | exact PSubs.rfl | exact trivial | exact PSub.lit_sb rfl | refine And.intro ?_ ?_))
    intro i hi
    exact absurd hi (by simp)
  obtain ⟨hkn, -⟩ := hk
  conv => whnf
  have hadd := flat_add (ls := ls) (k := q)
  repeat (any_goals (first
    | (refine ⟨fun (h : (_ : Bool) = true) => ?_, fun (h : (_ : Bool) = false) => ?_⟩ <;> (try simp only [decide_eq_true_eq, decide_eq_false_iff_not, Bool.not_eq_true', Bool.not_eq_false', Int.toNat_natCast, beq_iff_eq, decide_eq_decide, beq_eq_false_iff_ne, ne_eq, reduceCtorEq] at h) <;> (conv => whnf))
    | (refine And.intro (by (try simp only [Int.toNat_natCast]); omega) ?_; conv => whnf)
    | (refine And.intro (show (_ : Bool) = true from by kernel_rfl) ?_; conv => whnf)
    | (refine .inl ⟨wrap64 (by omega), ?_⟩; conv => whnf)))
  · refine ⟨q + 1, [(500, 33)], ⟨by omega, trivial⟩, by omega, ?_⟩
    rw [flat_take (by omega)]
    (repeat' (first | exact PSub.rfl | exact rfl | exact PSubs.rfl | exact trivial | exact PSub.lit_sb rfl | refine And.intro ?_ ?_))
    · simp
    · intro i hi
      dsimp only
      by_cases hia : i < (ls.take q).flatten.length
      · rw [if_pos hia, show ((ls.take q).flatten ++ ls.getD q default).getD i default = (ls.take q).flatten.getD i default from by simp only [List.getD_eq_getElem?_getD]; rw [List.getElem?_append_left hia]]
        exact PSubs.rfl
      · rw [if_neg hia, show ((ls.take q).flatten ++ ls.getD q default).getD i default = (ls.getD q default).getD (i - (ls.take q).flatten.length) default from by simp only [List.getD_eq_getElem?_getD]; rw [List.getElem?_append_right (by omega)]]
        exact PSubs.rfl
  · rw [List.take_of_length_le (by omega)]
    exact ⟨rfl, fun i _ => PSubs.rfl⟩
end Go.Abs

namespace Go.Abs
open Go.Proofs
set_option maxRecDepth 10000
def chgB (a b : List Item) (k : Key) : Bool := !decide (decide (itemAt a k < a.length) = decide (itemAt b k < b.length)) || !decide ((getI a k).value = (getI b k).value)
def chgL (a b : List Item) : List Key := sortK (((a ++ b).map Item.key).filter (chgB a b))
theorem chg_ne {a b : List Item} {k : Key} (h : ¬ (itemAt a k < a.length ↔ itemAt b k < b.length)) : chgB a b k = true := by
  unfold chgB
  rw [decide_eq_false (fun e => h (decide_eq_decide.1 e))]; rfl
theorem chg_eq {a b : List Item} {k : Key} (h : itemAt a k < a.length ↔ itemAt b k < b.length) : chgB a b k = !decide ((getI a k).value = (getI b k).value) := by
  unfold chgB
  rw [decide_eq_true (decide_eq_decide.2 h)]; rfl
def uniqK (ks : List Key) : List Key := ks.foldl (fun acc k => if k ∈ acc then acc else acc ++ [k]) []
theorem uniqK_snoc {ks : List Key} {k : Key} : uniqK (ks ++ [k]) = if k ∈ uniqK ks then uniqK ks else uniqK ks ++ [k] := by
  unfold uniqK; rw [List.foldl_append]; rfl
theorem uniqK_spec (ks : List Key) : ∀ n, n ≤ ks.length → (uniqK (ks.take n)).Nodup ∧ ∀ x, x ∈ uniqK (ks.take n) ↔ x ∈ ks.take n := by
  intro n
  induction n with
  | zero => intro _; exact ⟨List.nodup_nil, fun x => by simp [uniqK]⟩
  | succ n ih =>
    intro hn
    obtain ⟨h1, h2⟩ := ih (by omega)
    rw [take_succ_getD (by omega), uniqK_snoc]
    split
    · rename_i hm
      refine ⟨h1, fun x => ?_⟩
      rw [List.mem_append, h2, List.mem_singleton]
      exact ⟨.inl, fun h => h.elim id fun e => e ▸ (h2 _).1 hm⟩
    · rename_i hm
      refine ⟨List.nodup_append.2 ⟨h1, by simp, fun x hx y hy e => hm ?_⟩, fun x => ?_⟩
      · rw [List.mem_singleton] at hy; rw [← hy, ← e]; exact hx
      · rw [List.mem_append, List.mem_append, h2]
theorem uniqK_length (ks : List Key) : ∀ n, n ≤ ks.length → (uniqK (ks.take n)).length ≤ n := by
  intro n
  induction n with
  | zero => intro _; exact Nat.le_refl 0
  | succ n ih =>
    intro hn
    have := ih (by omega)
    rw [take_succ_getD (by omega), uniqK_snoc]
    split
    · omega
    · rw [List.length_append, List.length_singleton]; omega
def outTo (a b : List Item) (k : Nat) : List Key := (uniqK (((a ++ b).map Item.key).take k)).filter (chgB a b)
theorem outTo_length {a b : List Item} {k : Nat} (hk : k ≤ (a ++ b).length) : (outTo a b k).length ≤ k :=
  Nat.le_trans (List.length_filter_le _ _) (uniqK_length _ k (by simpa using hk))
theorem key_getD {l : List Item} {k : Nat} (h : k < l.length) : (l.map Item.key).getD k default = (l.getD k default).key := by
  rw [getD_getElem _ _ (by simpa using h), getD_getElem _ _ h]; simp
def seenK (a b : List Item) (k : Nat) (q : Key) : Bool := decide (q ∈ ((a ++ b).map Item.key).take k)
theorem seenK_succ {a b : List Item} {k : Nat} {q : Key} (h : k < (a ++ b).length) : seenK a b (k + 1) q = (seenK a b k q || decide (q = ((a ++ b).getD k default).key)) := by
  unfold seenK
  rw [take_succ_getD (by simpa using h), key_getD h, Bool.eq_iff_iff]
  simp [-List.getD_eq_getElem?_getD]
theorem outTo_succ {a b : List Item} {k : Nat} (h : k < (a ++ b).length) : outTo a b (k + 1) = if seenK a b k ((a ++ b).getD k default).key = true then outTo a b k else if chgB a b ((a ++ b).getD k default).key = true then outTo a b k ++ [((a ++ b).getD k default).key] else outTo a b k := by
  unfold outTo seenK
  rw [take_succ_getD (by simpa using h), key_getD h, uniqK_snoc]
  have hm := (uniqK_spec ((a ++ b).map Item.key) k (by simpa using Nat.le_of_lt h)).2 ((a ++ b).getD k default).key
  by_cases c : ((a ++ b).getD k default).key ∈ ((a ++ b).map Item.key).take k
  · rw [if_pos (hm.2 c), if_pos (decide_eq_true c)]
  · rw [if_neg (fun x => c (hm.1 x)), if_neg (by simpa [-List.getD_eq_getElem?_getD] using c), List.filter_append]
    by_cases d : chgB a b ((a ++ b).getD k default).key = true
    · rw [if_pos d]; simp only [List.filter_cons, List.filter_nil, d, if_true]
    · rw [if_neg d]; simp only [List.filter_cons, List.filter_nil, if_neg d, List.append_nil]
theorem out_sorted {a b : List Item} : sortedK (outTo a b (a ++ b).length) = chgL a b := by
  have hs := uniqK_spec ((a ++ b).map Item.key) (a ++ b).length (by simp)
  unfold outTo chgL
  rw [sortedK_asc (List.Pairwise.filter _ hs.1)]
  refine sortK_congr fun x => ?_
  rw [List.mem_filter, List.mem_filter, hs.2]
  rw [List.take_of_length_le (by simp)]
def seenLook (f : Key → Bool) : Value → Option PV := fun v => if f (kOf v) = true then some (.val (.bool true)) else none
theorem seenLook_key (f : Key → Bool) (q : Key) : seenLook f (.agg ⟨vKey q⟩) = if f q = true then some (.val (.bool true)) else none := rfl
theorem ac_device_Changed (a b : List Item) (ha : smallL a) (hb : smallL b) : AC Tryz.prog 102 [.pv (roL 7 cItem a), .pv (roL 7 cItem b)] [] (.pv (roL 3 cKey (chgL a b))) [] := by
  have ha2 : a.length ≤ 1048576 := ha
  have hb2 : b.length ≤ 1048576 := hb
  have hab : (a ++ b).length = a.length + b.length := List.length_append
  have hfl : [a, b].flatten = a ++ b := by simp
  have hc := ac_slices_Concat_Item [a, b] (sl rfl) (by rw [hfl]; omega)
  rw [hfl] at hc
  refine AC.of_awp (T := T) T_ok hm Tryz.call102 Tryz.func102 rfl rfl rfl ?_
  conv => whnf
  repeat (any_goals (first
    | (refine ⟨fun (h : (_ : Bool) = true) => ?_, fun (h : (_ : Bool) = false) => ?_⟩ <;> (try simp only [decide_eq_true_eq, decide_eq_false_iff_not, Bool.not_eq_true', Bool.not_eq_false', Int.toNat_natCast, beq_iff_eq, decide_eq_decide, beq_eq_false_iff_ne, ne_eq, reduceCtorEq] at h) <;> (conv => whnf))
    | (refine And.intro (by (try simp only [Int.toNat_natCast]); omega) ?_; conv => whnf)
    | (refine And.intro (show (_ : Bool) = true from by kernel_rfl) ?_; conv => whnf)
    | (refine .inl ⟨wrap64 (by omega), ?_⟩; conv => whnf)))
  refine .inr (.inl ⟨_, _, _, AC.sub1 hc (by repeat' (first | exact PSub.rfl | exact trivial | exact all_lt_zero | refine PSub.ro rfl ?_ | refine all_lt_succ ?_ ?_ | refine And.intro ?_ ?_)), ?_⟩)
  conv => whnf
  refine loop_k (ι := Nat) [0, 1, 5, 17, 18] [17] (fun k => k ≤ (a ++ b).length ∧ True) (fun k => (a ++ b).length - k) 0 (fun k => [(6, .own 500), (19, .pv (vint k))]) (fun k => [(500, rowL 3 cKey (outTo a b k)), (13, .map KKey (seenLook (seenK a b k)))]) [] ⟨Nat.zero_le _, trivial⟩ ?_ (fun k hk => ?_)
  · (repeat' (first | exact PSub.rfl | exact rfl | exact PSubs.rfl | exact trivial | exact PSub.lit_sb rfl | refine And.intro ?_ ?_)); all_goals (first | (intro v hv; obtain ⟨q, rfl⟩ := has_key hv; rw [seenLook_key, if_neg (by simp [seenK])]; done) | (intro i hi; exact PSubs.rfl))
  obtain ⟨hkn, hinv⟩ := hk
  conv => whnf
  have hlen := outTo_length (a := a) (b := b) (k := k) (by omega)
  repeat (any_goals (first
    | (refine ⟨fun (h : (_ : Bool) = true) => ?_, fun (h : (_ : Bool) = false) => ?_⟩ <;> (try simp only [decide_eq_true_eq, decide_eq_false_iff_not, Bool.not_eq_true', Bool.not_eq_false', Int.toNat_natCast, beq_iff_eq, decide_eq_decide, beq_eq_false_iff_ne, ne_eq, reduceCtorEq] at h) <;> (conv => whnf))
    | (refine And.intro (by (try simp only [Int.toNat_natCast]); omega) ?_; conv => whnf)
    | (refine And.intro (show (_ : Bool) = true from by kernel_rfl) ?_; conv => whnf)
    | (refine .inl ⟨wrap64 (by omega), ?_⟩; conv => whnf)))
  · have hk : k < (a ++ b).length := by omega
    refine ⟨fun p hp => ?_, fun hp => ?_⟩
    · change seenLook (seenK a b k) (.agg ⟨vKey ((a ++ b).getD k default).key⟩) = some p at hp
      rw [seenLook_key] at hp
      by_cases hs : seenK a b k ((a ++ b).getD k default).key = true
      · rw [if_pos hs] at hp; cases hp
        conv => whnf
        repeat (any_goals (first
          | (refine ⟨fun (h : (_ : Bool) = true) => ?_, fun (h : (_ : Bool) = false) => ?_⟩ <;> (try simp only [decide_eq_true_eq, decide_eq_false_iff_not, Bool.not_eq_true', Bool.not_eq_false', Int.toNat_natCast, beq_iff_eq, decide_eq_decide, beq_eq_false_iff_ne, ne_eq, reduceCtorEq] at h) <;> (conv => whnf))
          | (refine And.intro (by (try simp only [Int.toNat_natCast]); omega) ?_; conv => whnf)
          | (refine And.intro (show (_ : Bool) = true from by kernel_rfl) ?_; conv => whnf)
          | (refine .inl ⟨wrap64 (by omega), ?_⟩; conv => whnf)))
        refine ⟨k + 1, [], ⟨by omega, trivial⟩, by omega, ?_⟩
        rw [outTo_succ hk, if_pos hs]
        have hmap : ∀ v, KKey.has v → seenLook (seenK a b k) v = seenLook (seenK a b (k + 1)) v := by
          intro v hv
          obtain ⟨q, rfl⟩ := has_key hv
          rw [seenLook_key, seenLook_key, seenK_succ hk]
          by_cases e : q = ((a ++ b).getD k default).key
          · subst e; rw [hs]; rfl
          · rw [decide_eq_false e, Bool.or_false]
        (repeat' (first | exact PSub.rfl | exact rfl | exact PSubs.rfl | exact trivial | exact PSub.lit_sb rfl | refine And.intro ?_ ?_))
        all_goals first | exact hmap | (intro i hi; exact PSubs.rfl)
      · rw [if_neg hs] at hp; cases hp
    · change seenLook (seenK a b k) (.agg ⟨vKey ((a ++ b).getD k default).key⟩) = none at hp
      rw [seenLook_key] at hp
      have hs : ¬ seenK a b k ((a ++ b).getD k default).key = true := fun h => by rw [if_pos h] at hp; cases hp
      have hmap : ∀ v, KKey.has v → lookPut (seenLook (seenK a b k)) (.agg ⟨vKey ((a ++ b).getD k default).key⟩) (.val (.bool true)) v = seenLook (seenK a b (k + 1)) v := by
        intro v hv
        obtain ⟨q, rfl⟩ := has_key hv
        rw [seenLook_key, seenK_succ hk]
        by_cases e : q = ((a ++ b).getD k default).key
        · rw [decide_eq_true e, Bool.or_true, if_pos rfl, e]
          exact lookPut_yes rfl
        · rw [decide_eq_false e, Bool.or_false]
          exact lookPut_no (fun h => e (vKey_inj.1 h))
      conv => whnf
      repeat (any_goals (first
        | (refine ⟨fun (h : (_ : Bool) = true) => ?_, fun (h : (_ : Bool) = false) => ?_⟩ <;> (try simp only [decide_eq_true_eq, decide_eq_false_iff_not, Bool.not_eq_true', Bool.not_eq_false', Int.toNat_natCast, beq_iff_eq, decide_eq_decide, beq_eq_false_iff_ne, ne_eq, reduceCtorEq] at h) <;> (conv => whnf))
        | (refine .inl ⟨_, ac_device_Get a ((a ++ b).getD k default).key ha, ?_⟩; conv => whnf)
        | (refine .inl ⟨_, ac_device_Get b ((a ++ b).getD k default).key hb, ?_⟩; conv => whnf)
        | (refine And.intro (by (try simp only [Int.toNat_natCast]); omega) ?_; conv => whnf)
        | (refine And.intro (show (_ : Bool) = true from by kernel_rfl) ?_; conv => whnf)
        | (refine .inl ⟨wrap64 (by omega), ?_⟩; conv => whnf)))
      · refine ⟨k + 1, [(500, 58)], ⟨by omega, trivial⟩, by omega, ?_⟩
        rw [outTo_succ hk, if_neg hs, if_pos (chg_ne h)]
        (repeat' (first | exact PSub.rfl | exact rfl | exact PSubs.rfl | exact trivial | exact PSub.lit_sb rfl | refine And.intro ?_ ?_))
        · simp
        · refine rows_snocF (fun i hi => by simp only [if_pos hi]; exact PSubs.rfl) (by simp only [if_neg (Nat.lt_irrefl _), Nat.sub_self]; exact PSubs.rfl)
        all_goals first | exact hmap | (intro i hi; exact PSubs.rfl)
      · rename_i he
        rw [val_eq] at h
        refine ⟨k + 1, [(500, 58)], ⟨by omega, trivial⟩, by omega, ?_⟩
        rw [outTo_succ hk, if_neg hs, if_pos (by rw [chg_eq he, h]; rfl)]
        (repeat' (first | exact PSub.rfl | exact rfl | exact PSubs.rfl | exact trivial | exact PSub.lit_sb rfl | refine And.intro ?_ ?_))
        · simp
        · refine rows_snocF (fun i hi => by simp only [if_pos hi]; exact PSubs.rfl) (by simp only [if_neg (Nat.lt_irrefl _), Nat.sub_self]; exact PSubs.rfl)
        all_goals first | exact hmap | (intro i hi; exact PSubs.rfl)
      · rename_i he
        rw [val_eq] at h
        refine ⟨k + 1, [], ⟨by omega, trivial⟩, by omega, ?_⟩
        rw [outTo_succ hk, if_neg hs, if_neg (by rw [chg_eq he, h]; decide)]
        (repeat' (first | exact PSub.rfl | exact rfl | exact PSubs.rfl | exact trivial | exact PSub.lit_sb rfl | refine And.intro ?_ ?_))
        all_goals first | exact hmap | (intro i hi; exact PSubs.rfl)
  · have e : k = (a ++ b).length := by omega
    subst e
    refine .inr (.inr (.inl ⟨_, _, ac_slices_SortFunc_Key 138 ac_device_Changed_1 (outTo a b (a ++ b).length) (by omega), ?_⟩))
    conv => whnf
    rw [out_sorted]
    exact .rfl
end Go.Abs

namespace Go.Abs
open Go.Proofs
variable [Globals]
structure Shd where
  dev : Int
  epoch : Int
  version : Int
  reported : List Item
  desired : List Item
  want : Int
  done : Int
  sent : Int
  heard : Int
  deriving Inhabited, DecidableEq
structure Msg where
  kind : Int
  dev : Int
  epoch : Int
  version : Int
  items : List Item
  cluster : ByteArray
  name : ByteArray
  data : ByteArray
  deriving Inhabited
def cShd (s : Shd) : List PV := [vint s.dev, vint s.epoch, vint s.version, roL 7 cItem s.reported, roL 7 cItem s.desired, vint s.want, vint s.done, vint s.sent, vint s.heard]
def cMsg (m : Msg) : List PV := [vint m.kind, vint m.dev, vint m.epoch, vint m.version, roL 7 cItem m.items, vstr m.cluster, vstr m.name, vstr m.data]
def noShd : Shd := ⟨0, 0, 0, [], [], 0, 0, 0, 0⟩
def okI (H : Hom) (x : Item) : Bool := match findA H x.key with | some a => decide (fitsE a x.value = 0) | none => false
def stepI (H : Hom) (r : List Item) (x : Item) : List Item :=
  if itemAt r x.key < r.length ∧ (r.getD (itemAt r x.key) default).version < x.version ∧ okI H x = true then r.set (itemAt r x.key) x else r
def repR (H : Hom) (r l : List Item) : List Item := l.foldl (stepI H) r
def unrepL (H : Hom) (dev : Int) : List Item := (initL H dev).map fun x => ⟨x.key, x.value, 0⟩
def mineB (s : Shd) (m : Msg) : Bool := decide (m.kind = 1) && decide (m.dev = s.dev) && decide (s.epoch ≤ m.epoch)
def baseS (H : Hom) (s : Shd) (m : Msg) : Shd := if s.epoch < m.epoch then ⟨s.dev, m.epoch, 0, unrepL H s.dev, s.desired, s.want, 0, -1, 0⟩ else s
def repS (H : Hom) (s : Shd) (m : Msg) : Shd :=
  if mineB s m = true then { baseS H s m with reported := repR H (baseS H s m).reported m.items, version := max (baseS H s m).version m.version } else s
def repK (H : Hom) (s : Shd) (m : Msg) : List Key := if mineB s m = true then chgL s.reported (repS H s m).reported else []
theorem firstI_congr {n : Nat} {p q : Nat → Bool} (h : ∀ i, i < n → p i = q i) : firstI n p = firstI n q := by
  rcases firstI_cases (n := n) (p := q) with ⟨h1, h2, h3⟩ | ⟨h1, h2⟩
  · exact firstI_at h1 ((h _ h1).trans h2) fun j hj => (h j (by omega)).trans (h3 j hj)
  · rw [h1]; exact firstI_none fun j hj => (h j hj).trans (h2 j hj)
theorem itemAt_keys {l k : List Item} (h : l.map Item.key = k.map Item.key) (q : Key) : itemAt l q = itemAt k q := by
  have hl : l.length = k.length := by have := congrArg List.length h; simpa using this
  unfold itemAt
  rw [hl]
  have : ∀ i, i < k.length → (l.getD i default).key = (k.getD i default).key := fun i hi => by
    have h2 := congrArg (fun m => m[i]?) h
    simp only [List.getElem?_map] at h2
    rw [List.getElem?_eq_getElem (by omega), List.getElem?_eq_getElem hi] at h2
    simp only [Option.map_some, Option.some.injEq] at h2
    simpa [List.getD, hi, hl] using h2
  exact firstI_congr fun i hi => by rw [this i hi]
theorem itemAt_keyS {l : List Item} {q : Key} (h : itemAt l q < l.length) : (l.getD (itemAt l q) default).key = q := by
  rcases firstI_cases (n := l.length) (p := fun i => decide ((l.getD i default).key = q)) with ⟨_, h2, _⟩ | ⟨h1, _⟩
  · exact of_decide_eq_true h2
  · unfold itemAt at h; omega
theorem set_keys {r : List Item} {i : Nat} {x : Item} (hi : i < r.length) (hk : (r.getD i default).key = x.key) : (r.set i x).map Item.key = r.map Item.key := by
  apply List.ext_getElem?
  intro j
  simp only [List.getElem?_map, List.getElem?_set]
  by_cases e : i = j
  · subst e
    rw [if_pos rfl, if_pos hi, List.getElem?_eq_getElem hi]
    simp only [Option.map_some, Option.some.injEq]
    rw [← hk]; simp [List.getD, hi]
  · rw [if_neg e]
theorem stepI_keys (H : Hom) (r : List Item) (x : Item) : (stepI H r x).map Item.key = r.map Item.key := by
  unfold stepI
  split
  · rename_i h; exact set_keys h.1 (itemAt_keyS h.1)
  · rfl
theorem stepI_length (H : Hom) (r : List Item) (x : Item) : (stepI H r x).length = r.length := by
  have := congrArg List.length (stepI_keys H r x); simpa using this
theorem repR_keys (H : Hom) : ∀ (l r : List Item), (repR H r l).map Item.key = r.map Item.key
  | [], r => rfl
  | x :: l, r => (repR_keys H l (stepI H r x)).trans (stepI_keys H r x)
theorem repR_length (H : Hom) (l r : List Item) : (repR H r l).length = r.length := by
  have := congrArg List.length (repR_keys H l r); simpa using this
theorem getD_set_ne {r : List Item} {i j : Nat} {x : Item} (h : i ≠ j) : (r.set i x).getD j default = r.getD j default := by
  simp only [List.getD, List.getElem?_set, if_neg h]
theorem getD_set_eq {r : List Item} {i : Nat} {x : Item} (h : i < r.length) : (r.set i x).getD i default = x := by
  simp only [List.getD, List.getElem?_set, if_pos h, if_true, Option.getD_some]
theorem stepI_rise (H : Hom) (r : List Item) (x : Item) (j : Nat) : (r.getD j default).version ≤ ((stepI H r x).getD j default).version := by
  unfold stepI
  split
  · rename_i h
    by_cases e : itemAt r x.key = j
    · rw [← e, getD_set_eq h.1]; exact Int.le_of_lt h.2.1
    · rw [getD_set_ne e]; exact Int.le_refl _
  · exact Int.le_refl _
theorem repR_rise (H : Hom) : ∀ (l r : List Item) (j : Nat), (r.getD j default).version ≤ ((repR H r l).getD j default).version
  | [], r, j => Int.le_refl _
  | x :: l, r, j => Int.le_trans (stepI_rise H r x j) (repR_rise H l (stepI H r x) j)
def doneI (H : Hom) (r : List Item) (x : Item) : Prop := itemAt r x.key < r.length → okI H x = true → x.version ≤ (r.getD (itemAt r x.key) default).version
theorem done_step (H : Hom) (r : List Item) (x : Item) : doneI H (stepI H r x) x := by
  intro h1 h2
  have hi := itemAt_keys (stepI_keys H r x) x.key
  rw [hi] at h1 ⊢
  rw [stepI_length] at h1
  by_cases hv : (r.getD (itemAt r x.key) default).version < x.version
  · unfold stepI
    rw [if_pos ⟨h1, hv, h2⟩, getD_set_eq h1]
    exact Int.le_refl _
  · exact Int.le_trans (by omega) (stepI_rise H r x _)
theorem done_rep {H : Hom} {r : List Item} {x : Item} (l : List Item) (h : doneI H r x) : doneI H (repR H r l) x := by
  intro h1 h2
  have hi := itemAt_keys (repR_keys H l r) x.key
  rw [hi] at h1 ⊢
  rw [repR_length] at h1
  exact Int.le_trans (h h1 h2) (repR_rise H l r _)
theorem rep_done (H : Hom) : ∀ (l r : List Item), ∀ x ∈ l, doneI H (repR H r l) x
  | y :: l, r, x, hx => by
    rcases List.mem_cons.1 hx with rfl | hx
    · exact done_rep l (done_step H r x)
    · exact rep_done H l (stepI H r y) x hx
end Go.Abs

namespace Go.Abs
open Go.Proofs
variable [Globals]
def maxTick : Int := 1099511627776
def dropD (l : List Item) (k : Key) : List Item := l.filter fun x => decide (x.key ≠ k)
def dropS (s : Shd) (k : Key) : Shd := { s with desired := dropD s.desired k }
def seatD (l : List Item) (k : Key) : Nat := firstI l.length fun i => keyLess k (l.getD i default).key
def putD (l : List Item) (x : Item) : List Item := l.take (seatD l x.key) ++ x :: l.drop (seatD l x.key)
def wantI (n : Int) : Int := min (max n 0) (maxTick - 1) + 1
def desE (H : Hom) (s : Shd) (k : Key) (v : Val) : Int :=
  match findA H k with
  | none => 8
  | some a => if k.dev ≠ s.dev then 8 else if a.writable = false then 24 else fitsE a v
def hasD (s : Shd) (k : Key) (v : Val) : Bool := decide (itemAt s.desired k < s.desired.length) && decide ((s.desired.getD (itemAt s.desired k) default).value = v)
def desS (H : Hom) (s : Shd) (k : Key) (v : Val) : Shd :=
  if desE H s k v ≠ 0 then noShd else if hasD s k v = true then s
  else { dropS s k with desired := putD (dropD s.desired k) ⟨k, v, wantI s.want⟩, want := wantI s.want, sent := -1 }
def donS (s : Shd) (epoch version : Int) : Shd := if epoch = s.epoch then { s with done := max s.done (min version s.want) } else s
def newS (H : Hom) (dev : Int) : Shd := if (findD H dev).room = ⟨#[]⟩ then noShd else ⟨dev, 0, 0, unrepL H dev, [], 0, 0, -1, 0⟩
theorem mem_putD {l : List Item} {x y : Item} : y ∈ putD l x ↔ y = x ∨ y ∈ l := by
  unfold putD
  rw [List.mem_append, List.mem_cons]
  have : y ∈ l ↔ y ∈ l.take (seatD l x.key) ∨ y ∈ l.drop (seatD l x.key) := by rw [← List.mem_append, List.take_append_drop]
  rw [this]
  constructor
  · rintro (h | h | h)
    · exact .inr (.inl h)
    · exact .inl h
    · exact .inr (.inr h)
  · rintro (h | h | h)
    · exact .inr (.inl h)
    · exact .inl h
    · exact .inr (.inr h)
theorem mem_dropD {l : List Item} {k : Key} {x : Item} : x ∈ dropD l k ↔ x ∈ l ∧ x.key ≠ k := by
  unfold dropD; rw [List.mem_filter, decide_eq_true_eq]
end Go.Abs

namespace Go.Abs
open Go.Proofs
set_option maxRecDepth 10000
theorem fits_iff {a : Attr} {v : Val} : fitsE a v = 0 ↔ (defE a = 0 ∧ valE v = 0 ∧ v.kind = a.kind ∧ ¬ ((v.kind = 2 ∧ (v.n < a.min ∨ a.max < v.n)) ∨ (v.kind = 3 ∧ (a.enum.length : Int) ≤ v.n))) := by
  unfold fitsE
  constructor
  · intro h
    split at h
    · contradiction
    · split at h
      · contradiction
      · split at h
        · cases h
        · split at h
          · cases h
          · refine ⟨by omega, by omega, by omega, by assumption⟩
  · rintro ⟨h1, h2, h3, h4⟩
    rw [if_neg (by omega), if_neg (by omega), if_neg (by omega), if_neg h4]
end Go.Abs

namespace Go.Abs
open Go.Proofs
set_option maxRecDepth 10000
structure Checked (c : Clu) : Prop where
  distinct : ∀ i j, i < j → j < c.attrs.length → (c.attrs.getD i default).name ≠ (c.attrs.getD j default).name
  attrs : c.attrs.length ≤ 12
  cmds : ∀ i, i < c.commands.length → cmdE c i = 0
  defs : ∀ i, i < c.attrs.length → defE (c.attrs.getD i default) = 0
theorem checkE_ok {c : Clu} (h : checkE c = 0) : Checked c := by
  unfold checkE at h
  split at h
  · cases h
  split at h
  · cases h
  rename_i hw
  split at h
  · contradiction
  rename_i ha
  split at h
  · contradiction
  rename_i hc
  have ha := firstE_zero (Classical.not_not.1 ha)
  refine ⟨fun i j hi hj e => ?_, ?_, firstE_zero (Classical.not_not.1 hc), fun i hi => ?_⟩
  · have := ha j hj
    unfold attrE at this
    split at this
    · contradiction
    · rw [if_pos (anyN_true hi (by simpa [-List.getD_eq_getElem?_getD] using e))] at this
      cases this
  · rw [Bool.not_eq_true] at hw
    simp only [wideB, Bool.or_eq_false_iff, decide_eq_false_iff_not] at hw
    omega
  · have := ha i hi
    unfold attrE at this
    split at this
    · contradiction
    · rename_i h0; exact Classical.not_not.1 h0
end Go.Abs

namespace Go.Abs
open Go.Proofs
set_option maxRecDepth 10000
structure Call where
  H : Hom
  L : List Item
  Dev : Int
  C : ByteArray
  Name : ByteArray
  Param : Val
  deriving Inhabited
theorem firstC_checked {H : Hom} (h : homE H = 0) {s : ByteArray} {c : Clu} (hc : firstC H.clusters s = some c) : Checked c := by
  have hm := List.mem_of_find?_eq_some hc
  obtain ⟨i, hi, rfl⟩ := List.getElem_of_mem hm
  have := allE_distinct (homE_all h) i hi
  unfold cluE at this
  split at this
  · contradiction
  · rename_i h0
    have e : H.clusters.getD i default = H.clusters[i] := by simp [List.getD, hi]
    rw [← e]
    exact checkE_ok (Classical.not_not.1 h0)
theorem keysL_48 {H : Hom} {id : Int} : (keysL H id).length ≤ 48 := by
  cases hb : findB H id with
  | false => rw [keysL, findD_none hb]; exact Nat.zero_le _
  | true =>
    have hv : homE H = 0 := by simp only [findB, Bool.and_eq_true, decide_eq_true_eq] at hb; exact hb.1
    have key : ∀ k, k ≤ (findD H id).clusters.length → (keysTo (firstC H.clusters) id (findD H id).clusters k).length ≤ k * 12 := by
      intro k
      induction k with
      | zero => intro _; simp [keysTo]
      | succ k ih =>
        intro hk
        rw [keysTo_succ (by omega), List.length_append]
        have := ih (by omega)
        have : (keysOf1 (firstC H.clusters) id ((findD H id).clusters.getD k default)).length ≤ 12 := by
          simp only [keysOf1, attrsOf, List.length_map]
          split
          · rename_i c e; exact (firstC_checked hv e).attrs
          · exact Nat.zero_le _
        omega
    have h4 := @findD_length H id
    have := key _ (Nat.le_refl _)
    rw [keysTo, List.take_length] at this
    have e : keysL H id = (findD H id).clusters.flatMap (keysOf1 (firstC H.clusters) id) := rfl
    rw [← e] at this
    omega
section
variable {H : Type} {enc : TypeId × Value → H} {w : World} {bulk : DataW H → Nat}
end
end Go.Abs

namespace Go.Abs
open Go.RowKit
variable [Globals]
def celQ (T : Tab) (fn : Func) (res : AV) (os' : Upd) (s : AState) : Prop :=
  match s with
  | ⟨tm, ob⟩ => match fn.results.toList with
    | [.cell x ty] => match T ty with
      | some y => match getT tm x with
        | .ptr l 0 => match (getO ob l).bind boxC with
          | some cs => chk (aggD y.und) (chk (Nat.beq y.info.size cs.length) (chk (Nat.blt x fn.ntmps) (∃ r, entS r ⟨(x, .mix cs) :: tm, ob⟩ ⟨[(x, res)], os'⟩)))
          | _ => False
        | _ => False
      | none => False
    | _ => False
def celE (T : Tab) (fn : Func) (res : AV) (os' : Upd) : AExit → AState → Prop
  | .exit _, _ => False
  | .normal, s => celQ T fn res os' s
  | .ret, s => celQ T fn res os' s
theorem AC.of_awp_cel {P : Program} {T : Tab} {f : FuncId} {fn : Func} {c : Code} {args : List AV} {os os' : Upd} {res : AV} (hT : T.ok P) (hm : P.follows .mixedOrders = true) (hcall : ∀ (vals : Array Value) (w : World), (callFunc f vals).run P w = .ok (.enter f vals) w)
    (hf : P.funcs[f]? = some fn) (hb : fn.body = some c) (hn : Nat.ble args.length fn.ntmps = true) (hp : wsT os (argTm 0 args) = true) (ho : wsO os os = true) (hid : os.all (fun x => Nat.ble 900000 x.1) = true) (hcov : os.all (fun x => (getO os' x.1).isSome) = true)
    (h : awp P T fn.ntmps c ⟨argTm 0 args, os⟩ (celE T fn res os')) : AC P f args os res os' := by
  refine ⟨hcall, fun St M0 σ w vals hi hσ hos hl hA => ?_⟩
  have hin' : ∀ l loc, σ l = some loc → ∃ o, getO os l = some o ∧ (l, o) ∈ os := fun l loc e => by
    cases e2 : getO os l with
    | none => rw [hσ l e2] at e; cases e
    | some o => exact ⟨o, rfl, getO_mem e2⟩
  have hE : FEnv.ok ⟨fn.ntmps, St, M0, owned σ, w, σ⟩ := ⟨fun b hb => hi.m0 b hb, fun b hb => hi.st b hb, hi.gl.mono (Same.refl _ w) (fun b _ hb => hb), fun l loc e => by
    obtain ⟨o, _, hm⟩ := hin' l loc e
    exact Nat.le_of_ble_eq_true (List.all_eq_true.1 hid (l, o) hm)⟩
  have hle := Nat.le_of_ble_eq_true hn
  have hget : ∀ t x, getT (argTm 0 args) t = x → x = .junk ∨ args[t]? = some x := by
    intro t x e
    rw [argTm_get, if_neg (by omega)] at e
    cases ha : args[t - 0]? with
    | none => rw [ha] at e; exact .inl e.symm
    | some y => rw [ha] at e; simp at e ha; subst e; exact .inr rfl
  have hR : Rel P ⟨fn.ntmps, St, M0, owned σ, w, σ⟩ ⟨argTm 0 args, os⟩ σ { tmps := vals ++ Array.replicate (fn.ntmps - vals.size) undef, defers := [] } w := by
    refine ⟨by simp; omega, rfl, fun t => ?_, hos, hσ, fun t l hl' => ?_, fun i o e l hl' => wsO_mem ho i o (getO_mem e) l hl', hi.sep, fun b hb => .inl hb, FExt.refl _ w, fun l loc e => ?_⟩
    · rcases hget t _ rfl with e | e
      · rw [e]; exact .junk _
      · have := hA t _ e
        have hlt : t < args.length := (List.getElem?_eq_some_iff.1 e).1
        rw [getD_append_left (by omega)]
        exact this
    · rcases getT_mem (l := argTm 0 args) (t := t) with e | ⟨v, hm, e⟩
      · simp only [e] at hl'; simp [refs] at hl'
      · simp only [e] at hl'; exact wsT_mem hp t v hm l hl'
    · obtain ⟨o, h1, _⟩ := hin' l loc e
      exact ⟨by show getO os l ≠ none; rw [h1]; simp, fun loc' e' => by rw [show σ l = some loc from e] at e'; cases e'; rfl⟩
  refine calls_of_wp hf hb (wp_mono (awp_sound hE hT hm c _ _ _ _ w hR h) (fun e a' w' he => ?_))
  have hc : ∀ l : List ResultVar, fn.results.toList = l → fn.results = l.toArray := fun l e => by rw [← e]
  have post : ∀ (tm' : List (Nat × AV)) (σ' : Sig) (v : Value), Rel P ⟨fn.ntmps, St, M0, owned σ, w, σ⟩ ⟨tm', os'⟩ σ' a' w' → AR P w' St (Mof M0 σ') σ' res v → Post P St M0 σ w os' res σ' v w' := by
    intro tm' σ' v hR' hv
    refine ⟨hv, hR'.ob, fun l e => ?_, fun l loc loc' e e' => (hR'.pn l loc e).2 loc' e', hR'.sep, fun b hb => hR'.own b hb, hR'.ext.mono (fun b _ hb => ?_)⟩
    · rw [hR'.nob l e]
      cases e2 : σ l with
      | none => rfl
      | some loc =>
        obtain ⟨o, _, hm⟩ := hin' l loc e2
        have := List.all_eq_true.1 hcov (l, o) hm
        simp only [e] at this; cases this
    · obtain ⟨l, loc, h1, h2⟩ := hb
      obtain ⟨o, _, hm⟩ := hin' l loc h1
      have := List.all_eq_true.1 hcov (l, o) hm
      exact ⟨l, loc, fun e => (by simp only [e] at this; cases this), h1, h2⟩
  have fin : (∃ s σ', celQ T fn res os' s ∧ Rel P ⟨fn.ntmps, St, M0, owned σ, w, σ⟩ s σ' a' w') → a'.defers = [] ∧ ∃ v, (results fn a'.tmps).run P w' = .ok v w' ∧ ∃ v_1 σ', Ending.returned v = .returned v_1 ∧ Post P St M0 σ w os' res σ' v_1 w' := by
    rintro ⟨⟨tm, ob⟩, σ2, hq, hR'⟩
    unfold celQ at hq
    simp only at hq
    split at hq
    · rename_i x ty hr
      split at hq
      · rename_i y hy
        split at hq
        · rename_i l hx
          split at hq
          · rename_i cs hob'
            obtain ⟨bo, hob, hbc⟩ := Option.bind_eq_some_iff.1 hob'
            obtain ⟨hd, hq⟩ := chk_true hq
            obtain ⟨hfit, hq⟩ := chk_true hq
            obtain ⟨hlt, r, hq⟩ := chk_true hq
            have hfit := Nat.eq_of_beq_eq_true hfit
            have hlt : x < fn.ntmps := Nat.le_of_ble_eq_true hlt
            obtain ⟨b, vs, t', hl, hb, hs, hq', hone⟩ := at_boxC hbc (hR'.ob l _ hob)
            have hA := hR'.tm x
            rw [show getT tm x = .ptr l 0 from hx] at hA
            obtain ⟨b', hb', hv⟩ := arg_ptr hA hl
            cases hb'
            obtain ⟨hin, hu, _⟩ := hT ty y hy
            have hagg : (isAgg ty).run P w' = .ok true w' := by
              unfold aggD at hd
              split at hd
              · rename_i e; simp [isAgg, run_underlying (e ▸ hu)]
              · rename_i e; simp [isAgg, run_underlying (e ▸ hu)]
              · cases hd
            have hsz : (sizeOf ty).run P w' = .ok y.info.size w' := by simp [sizeOf, run_typeInfo_some hin]
            have hload := run_loadCells (P := P) w' ⟨b, 0, none⟩ y.info.size (fun j => vs.getD j undef) (fun j hj => by
              have hlt : j < vs.size := by omega
              have hadd : (⟨b, 0, none⟩ : Addr).add j = ⟨b, j, none⟩ := by unfold Addr.add; split <;> simp_all
              rw [hadd]
              simp [World.cell?, hb, Array.getD, hlt])
            have hv' : a'.tmps[x]?.getD undef = .pointer (some ⟨b, 0, none⟩) := by rw [← hv]; simp [Array.getD_eq_getD_getElem?]
            obtain ⟨V, hV⟩ : ∃ V, V = Value.agg ((List.range y.info.size).map fun j => vs.getD j undef).toArray := ⟨_, rfl⟩
            have hrun : (results fn a'.tmps).run P w' = .ok V w' := by
              rw [results_eq hr]
              simp [rvRun, asAddr, hv', loadVar, hagg, hsz, hload, hV]
            have hcell : ∀ i, i < y.info.size → (((List.range y.info.size).map fun j => vs.getD j undef).toArray.getD i undef) = vs.getD i undef := fun i hi => by simp [Array.getD, hi]
            have hVA : AR P w' St (Mof M0 σ2) σ2 (.mix cs) V := by
              rw [hV]
              refine .mix _ _ (by simp [hfit]) (fun i c e => ?_) (fun i hi' => ?_)
              · have hi2 : i < y.info.size := by rw [hfit]; exact (List.getElem?_eq_some_iff.1 e).1
                rw [hcell i hi2]
                exact hq' i c e
              · have hi2 : i < y.info.size := by simpa using hi'
                rw [hcell i hi2]
                exact hone _ (by omega)
            have hR1 : Rel P ⟨fn.ntmps, St, M0, owned σ, w, σ⟩ ⟨(x, .mix cs) :: tm, ob⟩ σ2 (a'.put (some x) V) w' := by
              refine RelF.post (dst := some x) (u := []) (v := .mix cs) hE hR' (Post.still hR'.sep hVA) (fun t e => by cases e; exact hlt) (fun l obj e => by simp [getO] at e) (fun k hk => .inl (hR'.wo l _ hob k (boxC_refs hbc (by simpa [refs] using hk)))) (fun i obj e => by simp [getO] at e) (fun t => ?_) (fun l => .inr ⟨rfl, rfl⟩)
              simp only [getT_cons]
              by_cases e : x = t
              · exact .inl ⟨by rw [e], by rw [if_pos e]⟩
              · exact .inr ⟨fun h => e (Option.some.inj h), by rw [if_neg e]⟩
            obtain ⟨σ', hR2⟩ := entS_sound hq _ σ2 _ w' hE hR1
            have h1 := hR2.tm x
            simp only [getT_cons, if_true] at h1
            have hget : (a'.put (some x) V).tmps.getD x undef = V := by
              have : x < a'.tmps.size := by rw [hR'.sz]; exact hlt
              simp [Act.put, Array.getD_eq_getD_getElem?, this]
            rw [hget] at h1
            refine ⟨hR'.df, V, hrun, V, σ', rfl, ?_⟩
            refine ⟨h1, hR2.ob, fun l e => ?_, fun l loc loc' e e' => (hR2.pn l loc e).2 loc' e', hR2.sep, fun b hb => hR2.own b hb, hR2.ext.mono (fun b _ hb => ?_)⟩
            · rw [hR2.nob l e]
              cases e2 : σ l with
              | none => rfl
              | some loc =>
                obtain ⟨o, _, hm⟩ := hin' l loc e2
                have := List.all_eq_true.1 hcov (l, o) hm
                simp only [e] at this; cases this
            · obtain ⟨l, loc, h1, h2⟩ := hb
              obtain ⟨o, _, hm⟩ := hin' l loc h1
              have := List.all_eq_true.1 hcov (l, o) hm
              exact ⟨l, loc, fun e => (by simp only [e] at this; cases this), h1, h2⟩
          · exact hq.elim
        · exact hq.elim
      · exact hq.elim
    · exact hq.elim
  cases e with
  | normal => exact fin he
  | ret => exact fin he
  | exit i => obtain ⟨s, σ, hq, _⟩ := he; exact hq.elim
  | goto l => exact he.elim
  | panic c => exact he.elim
  | outgrown => exact he.elim
end Go.Abs

namespace Go.Abs
open Go.RowKit
variable [Globals]
def plain : List AV → Bool
  | [] => true
  | .pv _ :: l => plain l
  | .fn _ [] :: l => plain l
  | _ :: _ => false
end Go.Abs

namespace Go.Abs
open Go.RowKit
variable [Globals]
def rowArgs : List AV → Bool
  | [] => true
  | .pv _ :: l => rowArgs l
  | .own _ :: l => rowArgs l
  | _ :: _ => false
theorem rowArgs_St {P : Program} {w : World} {St St' M : Nat → Prop} {σ : Sig} : ∀ {l : List AV}, rowArgs l = true → ∀ (i : Nat) (x : AV) (v : Value), l[i]? = some x → AR P w St M σ x v → AR P w St' M σ x v
  | .pv _ :: l, _, 0, x, v, e, h => by simp at e; subst e; exact .pv _ _ (arg_pv h)
  | .own _ :: l, _, 0, x, v, e, h => by
    simp at e; subst e
    cases h with
    | own _ _ h => exact .own _ _ h
  | .pv _ :: l, h, i + 1, x, v, e, hA => rowArgs_St (l := l) (by simpa [rowArgs] using h) i x v (by simpa using e) hA
  | .own _ :: l, h, i + 1, x, v, e, hA => rowArgs_St (l := l) (by simpa [rowArgs] using h) i x v (by simpa using e) hA
def rowsU : Upd → Bool
  | [] => true
  | (_, .gone) :: u => rowsU u
  | (_, .row _ _ _) :: u => rowsU u
  | _ :: _ => false
theorem rowsU_At {P : Program} {w : World} {A B M0 : Nat → Prop} {σ : Sig} : ∀ {u : Upd}, rowsU u = true → ∀ (l : Nat) (o : AObj), getO u l = some o → At P w A M0 σ l o → At P w B M0 σ l o
  | (i, .gone) :: u, h, l, o, e, hA => by
    rw [getO_cons] at e
    split at e
    · cases e; exact hA
    · exact rowsU_At (u := u) (by simpa [rowsU] using h) l o e hA
  | (i, .row s n f) :: u, h, l, o, e, hA => by
    rw [getO_cons] at e
    split at e
    · cases e
      obtain ⟨loc, h1, h2⟩ := hA
      refine ⟨loc, h1, ?_⟩
      cases h2 with
      | row0 _ _ a => exact .row0 _ _ a
      | row _ _ _ b cap vs t hb hn hmax hsz hs hh h9 => exact .row _ _ _ b cap vs t hb hn hmax hsz hs hh h9
    · exact rowsU_At (u := u) (by simpa [rowsU] using h) l o e hA
theorem AC.with_fn_rows {P : Program} {g f : FuncId} {pre post : List AV} {caps : List PV} {dom : List PV → Prop} {isB : Bool} {gb : List PV → Bool} {gi : List PV → Int} {res : AV} {os os' : Upd}
    (h : AC P g (pre ++ .clo dom isB gb gi :: post) os res os')
    (hcall : ∀ (vals : Array Value) (w : World), (callFunc f vals).run P w = .ok (.enter f vals) w) (hpre : rowArgs pre = true) (hpost : rowArgs post = true) (ho : rowsU os = true) (ho' : rowsU os' = true) (hres : rowArgs [res] = true)
    (hf : ∀ xs, dom xs → AC P f (xs.map .pv ++ caps.map .pv) [] (.pv (cloRes isB gb gi xs)) []) : AC P g (pre ++ .fn f (caps.map .pv) :: post) os res os' := by
  refine ⟨h.1, fun St M0 σ w vals hi hσ hos hl hA => ?_⟩
  have hinv : Inv (fun b => b < w.heap.size ∧ ¬ owned σ b) M0 σ w := ⟨hi.sep, hi.lt, hi.m0, fun b h => h, hi.gl⟩
  refine (h.2 (fun b => b < w.heap.size ∧ ¬ owned σ b) M0 σ w vals hinv hσ (fun k o e => rowsU_At ho k o e (hos k o e)) (by simpa using hl) (fun i x hx => ?_)).mono ?_
  · by_cases h1 : i = pre.length
    · subst h1
      simp at hx
      subst hx
      have hfv := hA pre.length (.fn f (caps.map .pv)) (by simp)
      cases hv : vals.getD pre.length undef with
      | func fn first vs => _
      | _ => rw [hv] at hfv; cases hfv
      rw [hv] at hfv
      cases hfv with
      | fn _ _ _ hlc hcap =>
        refine .clo _ _ _ _ f vs (fun b => b < w.heap.size ∧ ¬ owned σ b) (fun b hb => ⟨hb, hb.1⟩) ⟨hcall, ?_⟩
        intro w' M xs vs' hd hsz hblk hlen hx
        obtain ⟨_, hrun⟩ := hf xs hd
        have hown : ∀ b, ¬ owned (fun _ => none) b := fun b ⟨l, loc, h, _⟩ => by cases h
        have hsame : Same (Mof M0 σ) w w' := ⟨hsz, fun b hb hn => hblk b ⟨hb, fun h => hn (.inr h)⟩⟩
        have hMF : Mof (fun b => M b ∧ w'.heap.size ≤ b ∧ False) (fun _ => none) = fun _ => False := funext fun b => propext ⟨fun h => h.elim (fun h => h.2.2) (fun h => absurd h (hown b)), False.elim⟩
        refine (hrun (fun b => b < w'.heap.size) (fun b => M b ∧ w'.heap.size ≤ b ∧ False) (fun _ => none) w' (vs' ++ vs) ⟨fun l l' loc loc' b e => (by cases e), fun b h => absurd h (hown b), fun b h => h.2.2.elim, fun b h => ⟨h, hown b⟩, ?_⟩ (fun _ _ => rfl) (fun l o e => by simp [getO] at e) (by simp [hlen]; simpa using hlc) (fun j y hy => ?_)).mono ?_
        · rw [hMF]; exact hi.gl.mono hsame (fun b _ h => h.elim)
        · rw [hMF]
          rw [List.getElem?_append] at hy
          split at hy
          · rename_i hlt
            have hlt' : j < xs.length := by simpa using hlt
            rw [getD_append_left (by omega)]
            simp at hy
            obtain ⟨q, hq, rfl⟩ := hy
            exact .pv _ _ ((hx j q hq).mono (Same.refl _ w') (fun b _ h => h.elim))
          · rename_i hge
            have hge' : xs.length ≤ j := by simpa using hge
            rw [getD_append_right (by omega)]
            have h2 := hcap (j - xs.length) y (by simpa using hy)
            rw [hlen]
            simp at hy
            obtain ⟨q, hq, rfl⟩ := hy
            exact .pv _ _ ((arg_pv h2).mono hsame (fun b _ h => h.elim))
        · rintro e w'' ⟨v, σ', rfl, hp⟩
          have hσ : σ' = fun _ => none := funext fun l => hp.old l rfl
          subst hσ
          have hv2 := arg_pv hp.val
          rw [hMF] at hv2
          have hext : FExt (fun _ => False) w' w'' := hp.ext.mono (fun i _ ⟨l, loc, h, _⟩ => (h rfl).elim)
          refine ⟨v, rfl, ?_, hext⟩
          cases isB with
          | true =>
            cases hv2
            exact .sb _
          | false =>
            cases hv2
            exact .val _
    · have h2 : (pre ++ AV.fn f (caps.map .pv) :: post)[i]? = some x := by
        rw [List.getElem?_append] at hx ⊢
        split at hx
        · rename_i hlt; rw [if_pos hlt]; exact hx
        · rename_i hge
          rw [if_neg hge]
          have : i - pre.length ≠ 0 := by omega
          cases hk : i - pre.length with
          | zero => omega
          | succ k => rw [hk] at hx; simpa using hx
      have hA2 := hA i x h2
      rw [List.getElem?_append] at hx
      split at hx
      · exact rowArgs_St hpre i x _ hx hA2
      · rename_i hge
        cases hk : i - pre.length with
        | zero => omega
        | succ k => rw [hk] at hx; exact rowArgs_St hpost k x _ (by simpa using hx) hA2
  · rintro e w' ⟨v, σ', he, hp⟩
    exact ⟨v, σ', he, ⟨rowArgs_St hres 0 res v rfl hp.val, fun k o e => rowsU_At ho' k o e (hp.obj k o e), hp.old, hp.stay, hp.sep, hp.blk, hp.ext.mono fun b _ ⟨k, loc, h1, h2, h3⟩ => ⟨k, loc, h1, h2, h3⟩⟩⟩
end Go.Abs

namespace Go.Abs
open Go.Proofs
set_option maxRecDepth 10000
theorem ac_shadow_index_1 (x : Item) (k : Key) : AC Tryz.prog 131 [.pv (.agg (cItem x)), .pv (.cell (cKey k))] [] (.pv (vbool (decide (x.key = k)))) [] := by
  refine AC.of_awp (T := T) T_ok hm Tryz.call131 Tryz.func131 rfl rfl rfl ?_
  conv => whnf
  repeat (any_goals (first
    | (refine ⟨fun (h : (_ : Bool) = true) => ?_, fun (h : (_ : Bool) = false) => ?_⟩ <;> (try simp only [decide_eq_true_eq, decide_eq_false_iff_not, Bool.not_eq_true', Bool.not_eq_false', Int.toNat_natCast, beq_iff_eq, decide_eq_decide, beq_eq_false_iff_ne, ne_eq, reduceCtorEq] at h) <;> (conv => whnf))
    | (refine And.intro (by (try simp only [Int.toNat_natCast]); omega) ?_; conv => whnf)
    | (refine And.intro (show (_ : Bool) = true from by kernel_rfl) ?_; conv => whnf)
    | (refine .inl ⟨wrap64 (by omega), ?_⟩; conv => whnf)))
  refine PSub.sb ?_
  obtain ⟨⟨a, b, c⟩, v, n⟩ := x
  obtain ⟨d, e, f⟩ := k
  rw [Bool.eq_iff_iff]; simp
theorem ac_IndexFunc_shadow (l : List Item) (k : Key) (hl : smallL l) : AC Tryz.prog 130 [.pv (roL 7 cItem l), .fn 131 [.pv (.cell (cKey k))]] [] (.pv (vint (ixI l.length (itemAt l k)))) [] := by
  refine AC.with_fn (pre := [.pv (roL 7 cItem l)]) (post := []) (ac_slices_IndexFunc_Item l (keyB k) (fun _ => 0) hl) Tryz.call131 rfl rfl rfl ?_
  rintro xs ⟨x, rfl⟩
  exact ac_shadow_index_1 x k
theorem ac_shadow_index (l : List Item) (k : Key) (hl : smallL l) : AC Tryz.prog 99 [.pv (roL 7 cItem l), .pv (.agg (cKey k))] [] (.pv (vint (ixI l.length (itemAt l k)))) [] := by
  refine AC.of_awp (T := T) T_ok hm Tryz.call99 Tryz.func99 rfl rfl rfl ?_
  conv => whnf
  refine .inl ⟨_, ac_IndexFunc_shadow l k hl, ?_⟩
  conv => whnf
  exact .rfl
def mShd (s : Shd) (a b : AV) : List AV := [.pv (vint s.dev), .pv (vint s.epoch), .pv (vint s.version), a, b, .pv (vint s.want), .pv (vint s.done), .pv (vint s.sent), .pv (vint s.heard)]
def smallSh (s : Shd) : Prop := smallL s.reported ∧ smallL s.desired
theorem ac_shadow_twin (s : Shd) (hs : smallSh s) : AC Tryz.prog 98 [.pv (.agg (cShd s))] [] (.pv (.agg (cShd s))) [] := by
  have h1 : s.reported.length ≤ 1048576 := hs.1
  have h2 : s.desired.length ≤ 1048576 := hs.2
  refine AC.of_awp (T := T) T_ok hm Tryz.call98 Tryz.func98 rfl rfl rfl ?_
  conv => whnf
  repeat (any_goals (first
    | (refine ⟨fun (h : (_ : Bool) = true) => ?_, fun (h : (_ : Bool) = false) => ?_⟩ <;> (try simp only [decide_eq_true_eq, decide_eq_false_iff_not, Bool.not_eq_true', Bool.not_eq_false', Int.toNat_natCast, beq_iff_eq, decide_eq_decide, beq_eq_false_iff_ne, ne_eq, reduceCtorEq] at h) <;> (conv => whnf))
    | (refine .inr (.inl ⟨_, _, _, ac_slices_Clone_Item _ _ h1, ?_⟩); conv => whnf)
    | (refine .inr (.inl ⟨_, _, _, ac_slices_Clone_Item _ _ h2, ?_⟩); conv => whnf)
    | (refine And.intro (by (try simp only [Int.toNat_natCast]); omega) ?_; conv => whnf)
    | (refine And.intro (show (_ : Bool) = true from by kernel_rfl) ?_; conv => whnf)
    | (refine .inl ⟨wrap64 (by omega), ?_⟩; conv => whnf)))
  exact .rfl
theorem ac_shadow_twin_m (s : Shd) (hs : smallSh s) : AC Tryz.prog 98 [.pv (.agg (cShd s))] [] (.mix (mShd s (.own 0) (.own 1))) [(0, rowL 7 cItem s.reported), (1, rowL 7 cItem s.desired)] := by
  have h1 : s.reported.length ≤ 1048576 := hs.1
  have h2 : s.desired.length ≤ 1048576 := hs.2
  refine AC.of_awp_cel (T := T) T_ok hm Tryz.call98 Tryz.func98 rfl rfl rfl rfl rfl rfl ?_
  conv => whnf
  repeat (any_goals (first
    | (refine ⟨fun (h : (_ : Bool) = true) => ?_, fun (h : (_ : Bool) = false) => ?_⟩ <;> (try simp only [decide_eq_true_eq, decide_eq_false_iff_not, Bool.not_eq_true', Bool.not_eq_false', Int.toNat_natCast, beq_iff_eq, decide_eq_decide, beq_eq_false_iff_ne, ne_eq, reduceCtorEq] at h) <;> (conv => whnf))
    | (refine .inr (.inr (.inr (.inr ⟨[], [(0, 700001)], _, _, _, ac_slices_Clone_Item _ _ h1, rfl, ?_⟩))); conv => whnf)
    | (refine .inr (.inr (.inr (.inr ⟨[], [(0, 700002)], _, _, _, ac_slices_Clone_Item _ _ h2, rfl, ?_⟩))); conv => whnf)
    | (refine And.intro (by (try simp only [Int.toNat_natCast]); omega) ?_; conv => whnf)
    | (refine And.intro (show (_ : Bool) = true from by kernel_rfl) ?_; conv => whnf)
    | (refine .inl ⟨wrap64 (by omega), ?_⟩; conv => whnf)))
  refine ⟨[(0, 700001), (1, 700002)], ?_⟩
  (repeat' (first | exact PSub.rfl | exact rfl | exact PSubs.rfl | exact trivial | exact PSub.lit_sb rfl | refine And.intro ?_ ?_))
  all_goals (intro i hi; exact PSubs.rfl)
theorem ac_shadow_Done (s : Shd) (epoch version : Int) (hs : smallSh s) : AC Tryz.prog 55 [.pv (.agg (cShd s)), .pv (vint epoch), .pv (vint version)] [] (.pv (.agg (cShd (donS s epoch version)))) [] := by
  refine AC.of_awp (T := T) T_ok hm Tryz.call55 Tryz.func55 rfl rfl rfl ?_
  conv => whnf
  repeat (any_goals (first
    | (refine ⟨fun (h : (_ : Bool) = true) => ?_, fun (h : (_ : Bool) = false) => ?_⟩ <;> (try simp only [decide_eq_true_eq, decide_eq_false_iff_not, Bool.not_eq_true', Bool.not_eq_false', Int.toNat_natCast, beq_iff_eq, decide_eq_decide, beq_eq_false_iff_ne, ne_eq, reduceCtorEq] at h) <;> (conv => whnf))
    | (refine .inl ⟨_, ac_shadow_twin s hs, ?_⟩; conv => whnf)
    | (refine And.intro (by (try simp only [Int.toNat_natCast]); omega) ?_; conv => whnf)
    | (refine And.intro (show (_ : Bool) = true from by kernel_rfl) ?_; conv => whnf)
    | (refine .inl ⟨wrap64 (by omega), ?_⟩; conv => whnf)))
  · rw [donS, if_pos h]
    exact PSub.agg ⟨.rfl, .rfl, .rfl, .rfl, .rfl, .rfl, PSub.int (by simp only [Int.max_def, Int.min_def]; (repeat' split) <;> omega), .rfl, .rfl, trivial⟩
  · rw [donS, if_neg h]
    exact .rfl
end Go.Abs

namespace Go.Abs
open Go.Proofs Go.RowKit
set_option maxRecDepth 10000
section
variable {H : Type} {enc : TypeId × Value → H} {w : World} {bulk : DataW H → Nat}
theorem op_Shadow (hB : BulkOk bulk) : Opens enc Tryz.prog w bulk BB 30 cShd smallSh :=
  (Opens.struct hB Tryz.underlying30 (by kernel_rfl) (.cons (size := 1) rfl (by kernel_rfl) op_int (.cons (size := 1) rfl (by kernel_rfl) op_int (.cons (size := 1) rfl (by kernel_rfl) op_int (.cons (size := 1) rfl (by kernel_rfl) (op_l_Item hB) (.cons (size := 1) rfl (by kernel_rfl) (op_l_Item hB) (.cons (size := 1) rfl (by kernel_rfl) op_int (.cons (size := 1) rfl (by kernel_rfl) op_int (.cons (size := 1) rfl (by kernel_rfl) op_int (.cons (size := 1) rfl (by kernel_rfl) op_int .nil)))))))))).imp
    (fun x => ⟨x.1, x.2.1, x.2.2.1, x.2.2.2.1, x.2.2.2.2.1, x.2.2.2.2.2.1, x.2.2.2.2.2.2.1, x.2.2.2.2.2.2.2.1, x.2.2.2.2.2.2.2.2.1⟩) (fun _ => rfl) (fun _ h => ⟨h.2.2.2.1.1, h.2.2.2.2.1.1⟩)
theorem op_Message (hB : BulkOk bulk) : Opens enc Tryz.prog w bulk BB 32 cMsg (fun m => smallL m.items) :=
  (Opens.struct hB Tryz.underlying32 (by kernel_rfl) (.cons (size := 1) rfl (by kernel_rfl) op_int (.cons (size := 1) rfl (by kernel_rfl) op_int (.cons (size := 1) rfl (by kernel_rfl) op_int (.cons (size := 1) rfl (by kernel_rfl) op_int (.cons (size := 1) rfl (by kernel_rfl) (op_l_Item hB) (.cons (size := 1) rfl (by kernel_rfl) (op_string hB) (.cons (size := 1) rfl (by kernel_rfl) (op_string hB) (.cons (size := 1) rfl (by kernel_rfl) (op_string hB) .nil))))))))).imp
    (fun x => ⟨x.1, x.2.1, x.2.2.1, x.2.2.2.1, x.2.2.2.2.1, x.2.2.2.2.2.1, x.2.2.2.2.2.2.1, x.2.2.2.2.2.2.2.1⟩) (fun _ => rfl) (fun _ h => h.2.2.2.2.1.1)
structure SCase where
  s : Shd
  k : Key
  v : Val
end
end Go.Abs

namespace Go.Abs
open Go.Proofs
set_option maxRecDepth 10000
def z0 (x : Item) : Item := ⟨x.key, x.value, 0⟩
def zTo (l : List Item) (k : Nat) : List Item := (l.take k).map z0 ++ l.drop k
theorem zTo_length (l : List Item) (k : Nat) : (zTo l k).length = l.length := by simp [zTo]; omega
theorem zTo_getD {l : List Item} {k q : Nat} (hq : q < l.length) : (zTo l k).getD q default = if q < k then z0 (l.getD q default) else l.getD q default := by
  unfold zTo
  simp only [List.getD]
  by_cases h : q < k
  · rw [if_pos h, List.getElem?_append_left (by simp; omega)]
    simp [List.getElem?_take_of_lt h, hq]
  · rw [if_neg h, List.getElem?_append_right (by simp; omega)]
    have e1 : ((l.take k).map z0).length = k := by simp; omega
    rw [e1, List.getElem?_drop]
    congr 2; omega
theorem zTo_zero (l : List Item) : zTo l 0 = l := by simp [zTo]
theorem zTo_all (l : List Item) : zTo l l.length = l.map z0 := by simp [zTo]
theorem zTo_row {l : List Item} {k : Nat} (hk : k < l.length) (q : Nat) (hq : q < l.length) : PSubs (updAt (fun q => cItem ((zTo l k).getD q default)) k 6 [vint 0] q) (cItem ((zTo l (k + 1)).getD q default)) := by
  rw [zTo_getD hq]
  by_cases e : q = k
  · subst e
    rw [if_pos (by omega), updAt_same, zTo_getD hq, if_neg (by omega)]
    exact PSubs.rfl
  · rw [updAt_ne e, zTo_getD hq]
    by_cases c : q < k
    · rw [if_pos c, if_pos (by omega)]; exact PSubs.rfl
    · rw [if_neg c, if_neg (by omega)]; exact PSubs.rfl
theorem ac_device_Init_o (H : Hom) (id : Int) (hH : smallH H) : AC Tryz.prog 72 [.pv (.agg (cHom H)), .pv (vint id)] [] (.own 0) [(0, rowL 7 cItem (initL H id))] := by
  have hkl := keysL_length hH (id := id)
  refine AC.of_awp_own (T := T) T_ok hm Tryz.call72 Tryz.func72 rfl rfl rfl ?_
  conv => whnf
  refine .inl ⟨_, ac_device_Keys H id hH, ?_⟩
  conv => whnf
  refine loop_k (ι := Nat) [2, 12, 13] [2] (fun k => k ≤ (keysL H id).length ∧ True) (fun k => (keysL H id).length - k) 0 (fun k => [(5, .own 500), (14, .pv (vint k))]) (fun k => [(500, rowL 7 cItem (initTo H id k))]) [] ⟨Nat.zero_le _, trivial⟩ ?_ (fun k hk => ?_)
  · (repeat' (first | exact PSub.rfl | exact rfl | exact PSubs.rfl | exact trivial | exact PSub.lit_sb rfl | refine And.intro ?_ ?_))
  obtain ⟨hkn, hinv⟩ := hk
  conv => whnf
  have hlen := @initTo_length H id k
  repeat (any_goals (first
    | (refine ⟨fun (h : (_ : Bool) = true) => ?_, fun (h : (_ : Bool) = false) => ?_⟩ <;> (try simp only [decide_eq_true_eq, decide_eq_false_iff_not, Bool.not_eq_true', Bool.not_eq_false', Int.toNat_natCast, beq_iff_eq, decide_eq_decide, beq_eq_false_iff_ne, ne_eq, reduceCtorEq] at h) <;> (conv => whnf))
    | (refine .inl ⟨_, ac_device_Find H ((keysL H id).getD k default) hH, ?_⟩; conv => whnf)
    | (refine .inl ⟨_, ac_value_Zero ((findA H ((keysL H id).getD k default)).getD noAttr) (small_findA hH), ?_⟩; conv => whnf)
    | (refine And.intro (by (try simp only [Int.toNat_natCast]); omega) ?_; conv => whnf)
    | (refine And.intro (show (_ : Bool) = true from by kernel_rfl) ?_; conv => whnf)
    | (refine .inl ⟨wrap64 (by omega), ?_⟩; conv => whnf)))
  · refine ⟨k + 1, [(500, 33)], ⟨by omega, trivial⟩, by omega, ?_⟩
    rw [initTo_succ]
    (repeat' (first | exact PSub.rfl | exact rfl | exact PSubs.rfl | exact trivial | exact PSub.lit_sb rfl | refine And.intro ?_ ?_))
    · simp
    · refine rows_snocF (fun i hi => by simp only [if_pos hi]; exact PSubs.rfl) (by simp only [if_neg (Nat.lt_irrefl _), Nat.sub_self]; exact PSubs.rfl)
  · have e : k = (keysL H id).length := by omega
    subst e
    exact ⟨rfl, fun i hi => PSubs.rfl⟩
theorem initL_48 {H : Hom} {id : Int} : (initL H id).length ≤ 48 := by rw [initL_length]; exact keysL_48
theorem unrep_eq (H : Hom) (dev : Int) : unrepL H dev = (initL H dev).map z0 := rfl
theorem unrep_48 {H : Hom} {dev : Int} : (unrepL H dev).length ≤ 48 := by rw [unrep_eq, List.length_map]; exact initL_48
theorem ac_shadow_unreported (H : Hom) (dev : Int) (hH : smallH H) : AC Tryz.prog 87 [.pv (.agg (cHom H)), .pv (vint dev)] [] (.own 0) [(0, rowL 7 cItem (unrepL H dev))] := by
  have hl := initL_48 (H := H) (id := dev)
  rw [unrep_eq]
  refine AC.of_awp_own (T := T) T_ok hm Tryz.call87 Tryz.func87 rfl rfl rfl ?_
  conv => whnf
  repeat (any_goals (first
    | (refine ⟨fun (h : (_ : Bool) = true) => ?_, fun (h : (_ : Bool) = false) => ?_⟩ <;> (try simp only [decide_eq_true_eq, decide_eq_false_iff_not, Bool.not_eq_true', Bool.not_eq_false', Int.toNat_natCast, beq_iff_eq, decide_eq_decide, beq_eq_false_iff_ne, ne_eq, reduceCtorEq] at h) <;> (conv => whnf))
    | (refine .inr (.inl ⟨_, _, _, ac_device_Init_o H dev hH, ?_⟩); conv => whnf)
    | (refine And.intro (by (try simp only [Int.toNat_natCast]); omega) ?_; conv => whnf)
    | (refine And.intro (show (_ : Bool) = true from by kernel_rfl) ?_; conv => whnf)
    | (refine .inl ⟨wrap64 (by omega), ?_⟩; conv => whnf)))
  generalize initL H dev = l at *
  refine loop_k (ι := Nat) [5, 11] [] (fun k => k ≤ l.length ∧ True) (fun k => l.length - k) 0 (fun k => [(12, .pv (vint k))]) (fun k => [(9, rowL 7 cItem (zTo l k))]) [] ⟨Nat.zero_le _, trivial⟩ ?_ (fun k hk => ?_)
  · (repeat' (first | exact PSub.rfl | exact rfl | exact PSubs.rfl | exact trivial | exact PSub.lit_sb rfl | refine And.intro ?_ ?_)); all_goals ((rw [zTo_zero]; intro i hi; exact PSubs.rfl))
  obtain ⟨hkn, hinv⟩ := hk
  conv => whnf
  have hz := zTo_length l k
  have hz1 := zTo_length l (k + 1)
  repeat (any_goals (first
    | (refine ⟨fun (h : (_ : Bool) = true) => ?_, fun (h : (_ : Bool) = false) => ?_⟩ <;> (try simp only [decide_eq_true_eq, decide_eq_false_iff_not, Bool.not_eq_true', Bool.not_eq_false', Int.toNat_natCast, beq_iff_eq, decide_eq_decide, beq_eq_false_iff_ne, ne_eq, reduceCtorEq] at h) <;> (conv => whnf))
    | (refine And.intro (by (try simp only [Int.toNat_natCast]); omega) ?_; conv => whnf)
    | (refine And.intro (show (_ : Bool) = true from by kernel_rfl) ?_; conv => whnf)
    | (refine .inl ⟨wrap64 (by omega), ?_⟩; conv => whnf)))
  · have hr := fun q => zTo_row (l := l) (k := k) (by omega) q
    refine ⟨k + 1, [], ⟨by omega, trivial⟩, by omega, ?_⟩
    (repeat' (first | exact PSub.rfl | exact rfl | exact PSubs.rfl | exact trivial | exact PSub.lit_sb rfl | refine And.intro ?_ ?_))
    · omega
    · intro i hi; exact hr i (by omega)
  · have e : k = l.length := by omega
    subst e
    rw [zTo_all]
    exact ⟨rfl, fun i hi => PSubs.rfl⟩
theorem ac_shadow_New (H : Hom) (dev : Int) (hH : smallH H) : AC Tryz.prog 38 [.pv (.agg (cHom H)), .pv (vint dev)] [] (.pv (.agg (cShd (newS H dev)))) [] := by
  refine AC.of_awp (T := T) T_ok hm Tryz.call38 Tryz.func38 rfl rfl rfl ?_
  conv => whnf
  repeat (any_goals (first
    | (refine ⟨fun (h : (_ : Bool) = true) => ?_, fun (h : (_ : Bool) = false) => ?_⟩ <;> (try simp only [decide_eq_true_eq, decide_eq_false_iff_not, Bool.not_eq_true', Bool.not_eq_false', Int.toNat_natCast, beq_iff_eq, decide_eq_decide, beq_eq_false_iff_ne, ne_eq, reduceCtorEq] at h) <;> (conv => whnf))
    | (refine .inl ⟨_, ac_device_Room H dev hH, ?_⟩; conv => whnf)
    | (refine .inr (.inl ⟨_, _, _, ac_shadow_unreported H dev hH, ?_⟩); conv => whnf)
    | (refine And.intro (by (try simp only [Int.toNat_natCast]); omega) ?_; conv => whnf)
    | (refine And.intro (show (_ : Bool) = true from by kernel_rfl) ?_; conv => whnf)
    | (refine .inl ⟨wrap64 (by omega), ?_⟩; conv => whnf)))
  · rw [newS, if_pos h]
    exact PSub.agg ⟨.rfl, .rfl, .rfl, PSub.nil_ro _ _, PSub.nil_ro _ _, .rfl, .rfl, .rfl, .rfl, trivial⟩
  · rw [newS, if_neg h]
    exact PSub.agg ⟨.rfl, .rfl, .rfl, .rfl, PSub.nil_ro _ _, .rfl, .rfl, .rfl, .rfl, trivial⟩
end Go.Abs

namespace Go.Abs
section
variable {α : Type} {lt : α → α → Bool}
structure SWO (lt : α → α → Bool) : Prop where
  asymm : ∀ a b, lt a b = true → lt b a = false
  trans : ∀ a b c, lt a b = false → lt b c = false → lt a c = false
theorem SWO.irrefl (h : SWO lt) (a : α) : lt a a = false := by
  cases e : lt a a with
  | false => rfl
  | true => rw [h.asymm a a e] at e; cases e
theorem SWO.lt_trans (h : SWO lt) {a b c : α} (h1 : lt a b = true) (h2 : lt b c = true) : lt a c = true := by
  cases e : lt a c with
  | true => rfl
  | false =>
    have := h.trans a c b e (h.asymm b c h2)
    rw [this] at h1; cases h1
theorem SWO.lt_le (h : SWO lt) {a b c : α} (h1 : lt a b = true) (h2 : lt c b = false) : lt a c = true := by
  cases e : lt a c with
  | true => rfl
  | false =>
    have := h.trans a c b e h2
    rw [this] at h1; cases h1
theorem SWO.le_lt (h : SWO lt) {a b c : α} (h1 : lt b a = false) (h2 : lt b c = true) : lt a c = true := by
  cases e : lt a c with
  | true => rfl
  | false =>
    have := h.trans b a c h1 e
    rw [this] at h2; cases h2
def eqv (lt : α → α → Bool) (a b : α) : Bool := !lt a b && !lt b a
theorem eqv_iff {a b : α} : eqv lt a b = true ↔ lt a b = false ∧ lt b a = false := by
  unfold eqv; rw [Bool.and_eq_true, Bool.not_eq_true', Bool.not_eq_true']
def SrtO (lt : α → α → Bool) (l : List α) : Prop := l.Pairwise fun a b => lt b a = false
def Stb (lt : α → α → Bool) (l r : List α) : Prop := SrtO lt r ∧ ∀ x, r.filter (eqv lt x) = l.filter (eqv lt x)
theorem srt_ext (hw : SWO lt) : ∀ {r s : List α}, SrtO lt r → SrtO lt s → (∀ x, r.filter (eqv lt x) = s.filter (eqv lt x)) → r = s
  | [], s, _, _, h => by
    cases s with
    | nil => rfl
    | cons b s =>
      have := h b
      rw [List.filter_nil, List.filter_cons, if_pos (eqv_iff.2 ⟨hw.irrefl b, hw.irrefl b⟩)] at this
      cases this
  | a :: r, [], _, _, h => by
    have := h a
    rw [List.filter_nil, List.filter_cons, if_pos (eqv_iff.2 ⟨hw.irrefl a, hw.irrefl a⟩)] at this
    cases this
  | a :: r, b :: s, hr, hs, h => by
    have ra : ∀ x : α, eqv lt x x = true := fun x => eqv_iff.2 ⟨hw.irrefl x, hw.irrefl x⟩
    have hbr : b ∈ a :: r := by
      have h1 : b ∈ (b :: s).filter (eqv lt b) := List.mem_filter.2 ⟨by simp, ra b⟩
      rw [← h b] at h1
      exact (List.mem_filter.1 h1).1
    have has : a ∈ b :: s := by
      have h1 : a ∈ (a :: r).filter (eqv lt a) := List.mem_filter.2 ⟨by simp, ra a⟩
      rw [h a] at h1
      exact (List.mem_filter.1 h1).1
    have l1 : lt b a = false := by
      rcases List.mem_cons.1 hbr with e | e
      · rw [e]; exact hw.irrefl a
      · exact (List.pairwise_cons.1 hr).1 b e
    have l2 : lt a b = false := by
      rcases List.mem_cons.1 has with e | e
      · rw [← e]; exact hw.irrefl a
      · exact (List.pairwise_cons.1 hs).1 a e
    have hab : a = b := by
      have := h a
      rw [List.filter_cons, if_pos (ra a), List.filter_cons, if_pos (eqv_iff.2 ⟨l2, l1⟩)] at this
      exact (List.cons.inj this).1
    subst hab
    congr 1
    refine srt_ext hw (List.pairwise_cons.1 hr).2 (List.pairwise_cons.1 hs).2 fun x => ?_
    have := h x
    rw [List.filter_cons, List.filter_cons] at this
    by_cases e : eqv lt x a = true
    · rw [if_pos e, if_pos e] at this; exact (List.cons.inj this).2
    · rw [if_neg e, if_neg e] at this; exact this
theorem Stb.uniq (hw : SWO lt) {l r s : List α} (h : Stb lt l r) (k : Stb lt l s) : r = s := srt_ext hw h.1 k.1 fun x => (h.2 x).trans (k.2 x).symm
theorem Stb.mem (hw : SWO lt) {l r : List α} (h : Stb lt l r) (x : α) : x ∈ r ↔ x ∈ l := by
  have ra : eqv lt x x = true := eqv_iff.2 ⟨hw.irrefl x, hw.irrefl x⟩
  have h1 : x ∈ r.filter (eqv lt x) ↔ x ∈ l.filter (eqv lt x) := by rw [h.2 x]
  rw [List.mem_filter, List.mem_filter] at h1
  exact ⟨fun h2 => (h1.1 ⟨h2, ra⟩).1, fun h2 => (h1.2 ⟨h2, ra⟩).1⟩
def insR (lt : α → α → Bool) : List α → α → List α
  | [], x => [x]
  | a :: l, x => if ((a :: l).all fun y => lt x y) = true then x :: a :: l else a :: insR lt l x
theorem insR_split : ∀ (l : List α) (x : α), ∃ p q, l = p ++ q ∧ insR lt l x = p ++ x :: q ∧ (∀ y ∈ q, lt x y = true) ∧ ∀ a p', p = p' ++ [a] → lt x a = false
  | [], x => ⟨[], [], rfl, rfl, fun y h => (by cases h), fun a p' h => by cases p' <;> cases h⟩
  | b :: l, x => by
    by_cases h : ((b :: l).all fun y => lt x y) = true
    · exact ⟨[], b :: l, rfl, by rw [insR, if_pos h]; rfl, fun y hy => List.all_eq_true.1 h y hy, fun a p' h => by cases p' <;> cases h⟩
    · obtain ⟨p, q, h1, h2, h3, h4⟩ := insR_split l x
      refine ⟨b :: p, q, by rw [h1]; rfl, by rw [insR, if_neg h, h2]; rfl, h3, fun a p' hp => ?_⟩
      cases p' with
      | cons c p' => exact h4 a p' (List.cons.inj hp).2
      | nil =>
        have e1 : b = a := (List.cons.inj hp).1
        have e2 : p = [] := (List.cons.inj hp).2
        subst e1
        rw [e2, List.nil_append] at h1
        cases hb : lt x b with
        | false => rfl
        | true => exact absurd (List.all_eq_true.2 fun y hy => by
            rcases List.mem_cons.1 hy with e | e
            · rw [e]; exact hb
            · exact h3 y (h1 ▸ e)) h
theorem insR_stb (hw : SWO lt) {l r : List α} (h : Stb lt l r) (x : α) : Stb lt (l ++ [x]) (insR lt r x) := by
  obtain ⟨p, q, h1, h2, h3, h4⟩ := insR_split (lt := lt) r x
  have hs := h.1
  unfold SrtO at hs
  rw [h1, List.pairwise_append] at hs
  obtain ⟨hp, hq, hpq⟩ := hs
  have h5 : ∀ y ∈ p, lt x y = false := by
    rcases List.eq_nil_or_concat p with e | ⟨p', a, e⟩
    · rw [e]; intro y hy; cases hy
    · rw [List.concat_eq_append] at e
      have ha := h4 a p' e
      intro y hy
      rw [e] at hy hp
      rcases List.mem_append.1 hy with h6 | h6
      · have h7 : lt a y = false := (List.pairwise_append.1 hp).2.2 y h6 a (by simp)
        exact hw.trans x a y ha h7
      · rw [List.mem_singleton.1 h6]; exact ha
  refine ⟨?_, fun z => ?_⟩
  · unfold SrtO
    rw [h2, List.pairwise_append]
    refine ⟨hp, List.pairwise_cons.2 ⟨fun y hy => hw.asymm x y (h3 y hy), hq⟩, fun a ha b hb => ?_⟩
    rcases List.mem_cons.1 hb with e | e
    · rw [e]; exact h5 a ha
    · exact hpq a ha b e
  · rw [h2, List.filter_append, List.filter_append, ← h.2 z, h1, List.filter_append, List.filter_cons]
    by_cases e : eqv lt z x = true
    · have : q.filter (eqv lt z) = [] := List.filter_eq_nil_iff.2 fun y hy h6 => by
        have h7 := eqv_iff.1 e
        have h8 := eqv_iff.1 h6
        have h9 := hw.trans x z y h7.2 h8.1
        rw [h3 y hy] at h9; cases h9
      rw [if_pos e, this, List.append_nil, List.filter_cons, if_pos e, List.filter_nil]
    · rw [if_neg e, List.filter_cons, if_neg e, List.filter_nil, List.append_nil]
def isortR (lt : α → α → Bool) (l : List α) : List α := l.foldl (insR lt) []
theorem isortR_snoc (l : List α) (x : α) : isortR lt (l ++ [x]) = insR lt (isortR lt l) x := by unfold isortR; rw [List.foldl_append]; rfl
theorem isortR_stb (hw : SWO lt) (l : List α) : Stb lt l (isortR lt l) := by
  have key : ∀ n, ∀ l : List α, l.length = n → Stb lt l (isortR lt l) := by
    intro n
    induction n with
    | zero => intro l hl; rw [List.eq_nil_of_length_eq_zero hl]; exact ⟨List.Pairwise.nil, fun _ => rfl⟩
    | succ n ih =>
      intro l hl
      rcases List.eq_nil_or_concat l with e | ⟨l', a, e⟩
      · rw [e] at hl; cases hl
      · rw [List.concat_eq_append] at e
        subst e
        rw [isortR_snoc]
        exact insR_stb hw (ih l' (by simpa using hl)) a
  exact key _ l rfl
theorem Stb.eq (hw : SWO lt) {l r : List α} (h : Stb lt l r) : r = isortR lt l := h.uniq hw (isortR_stb hw l)
theorem isortR_srt (hw : SWO lt) {l : List α} (h : SrtO lt l) : isortR lt l = l := (Stb.eq hw (l := l) (r := l) ⟨h, fun _ => rfl⟩).symm
theorem insR_length (l : List α) (x : α) : (insR lt l x).length = l.length + 1 := by
  obtain ⟨p, q, h1, h2, _⟩ := insR_split (lt := lt) l x
  rw [h2, h1, List.length_append, List.length_append, List.length_cons]; omega
theorem isortR_length (l : List α) : (isortR lt l).length = l.length := by
  have key : ∀ (l acc : List α), (l.foldl (insR lt) acc).length = acc.length + l.length := by
    intro l
    induction l with
    | nil => intro acc; simp
    | cons x l ih => intro acc; rw [List.foldl_cons, ih, insR_length, List.length_cons]; omega
  have := key l []
  simpa [isortR] using this
theorem stb_parts (hw : SWO lt) {L1 L2 R1 R2 r1 r2 : List α} (h1 : Stb lt (L1 ++ R1) r1) (h2 : Stb lt (L2 ++ R2) r2) (hle : ∀ a ∈ L1 ++ R1, ∀ b ∈ L2 ++ R2, lt b a = false) (hlt : ∀ x ∈ L2, ∀ y ∈ R1, lt y x = true) :
    Stb lt ((L1 ++ L2) ++ (R1 ++ R2)) (r1 ++ r2) := by
  refine ⟨?_, fun z => ?_⟩
  · unfold SrtO
    rw [List.pairwise_append]
    exact ⟨h1.1, h2.1, fun a ha b hb => hle a ((h1.mem hw a).1 ha) b ((h2.mem hw b).1 hb)⟩
  · rw [List.filter_append, h1.2 z, h2.2 z]
    simp only [List.filter_append, List.append_assoc]
    congr 1
    by_cases e : L2.filter (eqv lt z) = []
    · rw [e, List.nil_append, List.nil_append]
    · have : R1.filter (eqv lt z) = [] := List.filter_eq_nil_iff.2 fun y hy h6 => by
        obtain ⟨x, hx⟩ := List.exists_mem_of_ne_nil _ e
        obtain ⟨hx1, hx2⟩ := List.mem_filter.1 hx
        have h7 := eqv_iff.1 h6
        have h8 := eqv_iff.1 hx2
        have h9 := hw.trans y z x h7.2 h8.1
        rw [hlt x hx1 y hy] at h9; cases h9
      rw [this, List.nil_append]
      rfl
end
end Go.Abs

namespace Go.Abs
section
variable {α : Type} [Inhabited α] {lt : α → α → Bool}
theorem list_ext_getD {l k : List α} (h : l.length = k.length) (hg : ∀ i, i < l.length → l.getD i default = k.getD i default) : l = k := by
  apply List.ext_getElem h
  intro i h1 h2
  have := hg i h1
  simpa [List.getD, h1, h2] using this
def swp (l : List α) (i j : Nat) : List α := (l.set i (l.getD j default)).set j (l.getD i default)
theorem swp_length (l : List α) (i j : Nat) : (swp l i j).length = l.length := by unfold swp; simp
theorem swp_getD {l : List α} {i j : Nat} (hi : i < l.length) (hj : j < l.length) (q : Nat) : (swp l i j).getD q default = if q = j then l.getD i default else if q = i then l.getD j default else l.getD q default := by
  unfold swp
  by_cases e : q = j
  · subst e
    rw [if_pos rfl]
    simp only [List.getD, List.getElem?_set, List.length_set, hj, if_true, Option.getD_some]
  · rw [if_neg e]
    by_cases e2 : q = i
    · subst e2
      rw [if_pos rfl]
      simp only [List.getD, List.getElem?_set, List.length_set, hi, if_true, Option.getD_some, if_neg (Ne.symm e)]
    · rw [if_neg e2]
      simp only [List.getD, List.getElem?_set, if_neg (Ne.symm e), if_neg (Ne.symm e2)]
def swpTo (l : List α) (a b k : Nat) : List α := (List.range l.length).map fun q => if a ≤ q ∧ q < a + k then l.getD (b + (q - a)) default else if b ≤ q ∧ q < b + k then l.getD (a + (q - b)) default else l.getD q default
theorem swpTo_length (l : List α) (a b k : Nat) : (swpTo l a b k).length = l.length := by simp [swpTo]
theorem swpTo_getD {l : List α} {a b k q : Nat} (h : q < l.length) : (swpTo l a b k).getD q default = if a ≤ q ∧ q < a + k then l.getD (b + (q - a)) default else if b ≤ q ∧ q < b + k then l.getD (a + (q - b)) default else l.getD q default := by
  unfold swpTo
  simp only [List.getD, List.getElem?_map, List.getElem?_range h, Option.map_some, Option.getD_some]
theorem swpTo_zero (l : List α) (a b : Nat) : swpTo l a b 0 = l := list_ext_getD (swpTo_length _ _ _ _) fun q hq => by
  rw [swpTo_length] at hq
  rw [swpTo_getD hq, if_neg (by omega), if_neg (by omega)]
theorem swpTo_succ {l : List α} {a b k : Nat} (hab : a + k < b) (hb : b + k < l.length) : swp (swpTo l a b k) (a + k) (b + k) = swpTo l a b (k + 1) := by
  have hl := swpTo_length l a b k
  refine list_ext_getD (by rw [swp_length, swpTo_length, swpTo_length]) fun q hq => ?_
  rw [swp_length, hl] at hq
  rw [swp_getD (by omega) (by omega), swpTo_getD (q := q) hq, swpTo_getD (q := a + k) (by omega), swpTo_getD (q := b + k) hb, swpTo_getD hq]
  by_cases e1 : q = b + k
  · subst e1
    rw [if_pos rfl, if_neg (by omega), if_neg (by omega), if_neg (by omega), if_pos (by omega)]
    congr 1; omega
  · rw [if_neg e1]
    by_cases e2 : q = a + k
    · subst e2
      rw [if_pos rfl, if_neg (by omega), if_neg (by omega), if_pos (by omega)]
      congr 1; omega
    · rw [if_neg e2]
      by_cases h1 : a ≤ q ∧ q < a + k
      · rw [if_pos h1, if_pos (by omega)]
      · rw [if_neg h1]
        by_cases h2 : b ≤ q ∧ q < b + k
        · rw [if_pos h2, if_neg (by omega), if_pos (by omega)]
        · rw [if_neg h2, if_neg (by omega), if_neg (by omega)]
def rot (l : List α) (a m b : Nat) : List α := (List.range l.length).map fun q => if a ≤ q ∧ q < a + (b - m) then l.getD (m + (q - a)) default else if a + (b - m) ≤ q ∧ q < b then l.getD (a + (q - (a + (b - m)))) default else l.getD q default
theorem rot_length (l : List α) (a m b : Nat) : (rot l a m b).length = l.length := by simp [rot]
theorem rot_getD {l : List α} {a m b q : Nat} (h : q < l.length) : (rot l a m b).getD q default = if a ≤ q ∧ q < a + (b - m) then l.getD (m + (q - a)) default else if a + (b - m) ≤ q ∧ q < b then l.getD (a + (q - (a + (b - m)))) default else l.getD q default := by
  unfold rot
  simp only [List.getD, List.getElem?_map, List.getElem?_range h, Option.map_some, Option.getD_some]
theorem rot_left {l : List α} {m i j : Nat} (hi : i ≤ m) (hj : m + j ≤ l.length) (h : j < i) : rot (swpTo l (m - i) m j) (m - (i - j)) m (m + j) = rot l (m - i) m (m + j) := by
  have hl := swpTo_length l (m - i) m j
  refine list_ext_getD (by rw [rot_length, rot_length, hl]) fun q hq => ?_
  rw [rot_length, hl] at hq
  rw [rot_getD (by omega), rot_getD hq]
  by_cases h1 : m - (i - j) ≤ q ∧ q < m - (i - j) + (m + j - m)
  · rw [if_pos h1, swpTo_getD (by omega), if_neg (by omega), if_pos (by omega), if_neg (by omega), if_pos (by omega)]
    congr 1; omega
  · rw [if_neg h1]
    by_cases h2 : m - (i - j) + (m + j - m) ≤ q ∧ q < m + j
    · rw [if_pos h2, swpTo_getD (by omega), if_neg (by omega), if_neg (by omega), if_neg (by omega), if_pos (by omega)]
      congr 1; omega
    · rw [if_neg h2, swpTo_getD hq]
      by_cases h3 : m - i ≤ q ∧ q < m - i + j
      · rw [if_pos h3, if_pos (by omega)]
      · rw [if_neg h3, if_neg (by omega), if_neg (by omega), if_neg (by omega)]
theorem rot_right {l : List α} {m i j : Nat} (hi : i ≤ m) (hj : m + j ≤ l.length) (h : i < j) : rot (swpTo l (m - i) (m + j - i) i) (m - i) m (m + (j - i)) = rot l (m - i) m (m + j) := by
  have hl := swpTo_length l (m - i) (m + j - i) i
  refine list_ext_getD (by rw [rot_length, rot_length, hl]) fun q hq => ?_
  rw [rot_length, hl] at hq
  rw [rot_getD (by omega), rot_getD hq]
  by_cases h1 : m - i ≤ q ∧ q < m - i + (m + (j - i) - m)
  · rw [if_pos h1, swpTo_getD (by omega), if_neg (by omega), if_neg (by omega), if_pos (by omega)]
  · rw [if_neg h1]
    by_cases h2 : m - i + (m + (j - i) - m) ≤ q ∧ q < m + (j - i)
    · rw [if_pos h2, swpTo_getD (by omega), if_pos (by omega), if_pos (by omega)]
      congr 1; omega
    · rw [if_neg h2, swpTo_getD hq]
      by_cases h3 : m + j - i ≤ q ∧ q < m + j - i + i
      · rw [if_neg (by omega), if_pos h3, if_neg (by omega), if_pos (by omega)]
        congr 1; omega
      · rw [if_neg (by omega), if_neg h3, if_neg (by omega), if_neg (by omega)]
theorem rot_last {l : List α} {m i : Nat} (hi : i ≤ m) (hj : m + i ≤ l.length) : swpTo l (m - i) m i = rot l (m - i) m (m + i) := by
  refine list_ext_getD (by rw [rot_length, swpTo_length]) fun q hq => ?_
  rw [swpTo_length] at hq
  rw [rot_getD hq, swpTo_getD hq]
  by_cases h1 : m - i ≤ q ∧ q < m - i + i
  · rw [if_pos h1, if_pos (by omega)]
  · rw [if_neg h1]
    by_cases h2 : m ≤ q ∧ q < m + i
    · rw [if_pos h2, if_neg (by omega), if_pos (by omega)]
      congr 1; omega
    · rw [if_neg h2, if_neg (by omega), if_neg (by omega)]
end
end Go.Abs

namespace Go.Abs
section
variable {α : Type} [Inhabited α] {lt : α → α → Bool}
def seg (l : List α) (i j : Nat) : List α := (l.take j).drop i
theorem seg_length {l : List α} {i j : Nat} (hj : j ≤ l.length) : (seg l i j).length = j - i := by unfold seg; rw [List.length_drop, List.length_take]; omega
theorem seg_getD {l : List α} {i j q : Nat} (hj : j ≤ l.length) (hq : i + q < j) : (seg l i j).getD q default = l.getD (i + q) default := by
  unfold seg
  simp only [List.getD, List.getElem?_drop]
  rw [List.getElem?_take_of_lt hq]
theorem seg_append {l : List α} {i j k : Nat} (hij : i ≤ j) (hjk : j ≤ k) (hk : k ≤ l.length) : seg l i j ++ seg l j k = seg l i k := by
  refine list_ext_getD (by rw [List.length_append, seg_length (by omega), seg_length hk, seg_length hk]; omega) fun q hq => ?_
  rw [List.length_append, seg_length (by omega), seg_length hk] at hq
  rw [seg_getD hk (by omega)]
  by_cases h : q < j - i
  · have : (seg l i j ++ seg l j k).getD q default = (seg l i j).getD q default := by
      simp only [List.getD]; rw [List.getElem?_append_left (by rw [seg_length (by omega)]; exact h)]
    rw [this, seg_getD (by omega) (by omega)]
  · have : (seg l i j ++ seg l j k).getD q default = (seg l j k).getD (q - (j - i)) default := by
      simp only [List.getD]; rw [List.getElem?_append_right (by rw [seg_length (by omega)]; omega), seg_length (by omega)]
    rw [this, seg_getD hk (by omega)]
    congr 1; omega
theorem seg_mem {l : List α} {i j : Nat} (hj : j ≤ l.length) {x : α} (h : x ∈ seg l i j) : ∃ q, i ≤ q ∧ q < j ∧ l.getD q default = x := by
  obtain ⟨q, hq, rfl⟩ := List.getElem_of_mem h
  have hq2 := hq
  rw [seg_length hj] at hq2
  refine ⟨i + q, by omega, by omega, ?_⟩
  rw [← seg_getD hj (by omega)]
  simp [List.getD, hq]
theorem seg_ext {l k : List α} {i j i' j' : Nat} (hj : j ≤ l.length) (hj' : j' ≤ k.length) (hn : j - i = j' - i') (h : ∀ q, q < j - i → l.getD (i + q) default = k.getD (i' + q) default) : seg l i j = seg k i' j' := by
  refine list_ext_getD (by rw [seg_length hj, seg_length hj', hn]) fun q hq => ?_
  rw [seg_length hj] at hq
  rw [seg_getD hj (by omega), seg_getD hj' (by omega)]
  exact h q hq
def srtO (lt : α → α → Bool) (l : List α) (i j : Nat) : Prop := ∀ p q, i ≤ p → p < q → q < j → lt (l.getD q default) (l.getD p default) = false
theorem srtO_seg {l : List α} {i j : Nat} (hj : j ≤ l.length) (h : srtO lt l i j) : SrtO lt (seg l i j) := by
  unfold SrtO
  rw [List.pairwise_iff_getElem]
  intro p q hp hq hpq
  rw [seg_length hj] at hp hq
  have e1 := seg_getD hj (i := i) (q := p) (by omega)
  have e2 := seg_getD hj (i := i) (q := q) (by omega)
  have g1 : (seg l i j)[p] = (seg l i j).getD p default := by simp [List.getD, seg_length hj, hp]
  have g2 : (seg l i j)[q] = (seg l i j).getD q default := by simp [List.getD, seg_length hj, hq]
  rw [g1, g2, e1, e2]
  exact h _ _ (by omega) (by omega) (by omega)
def srtSeg (lt : α → α → Bool) (l : List α) (a b : Nat) : List α := l.take a ++ isortR lt (seg l a b) ++ l.drop b
theorem srtSeg_length {l : List α} {a b : Nat} (hab : a ≤ b) (hb : b ≤ l.length) : (srtSeg lt l a b).length = l.length := by
  unfold srtSeg
  rw [List.length_append, List.length_append, isortR_length, seg_length hb, List.length_take, List.length_drop]
  omega
theorem srtSeg_getD {l : List α} {a b : Nat} (hab : a ≤ b) (hb : b ≤ l.length) (q : Nat) : (srtSeg lt l a b).getD q default = if q < a then l.getD q default else if q < b then (isortR lt (seg l a b)).getD (q - a) default else l.getD q default := by
  have h1 : (l.take a).length = a := by rw [List.length_take]; omega
  have h2 : (isortR lt (seg l a b)).length = b - a := by rw [isortR_length, seg_length hb]
  unfold srtSeg
  simp only [List.getD]
  by_cases e1 : q < a
  · rw [if_pos e1, List.append_assoc, List.getElem?_append_left (by omega), List.getElem?_take_of_lt e1]
  · rw [if_neg e1]
    by_cases e2 : q < b
    · rw [if_pos e2, List.getElem?_append_left (by rw [List.length_append]; omega), List.getElem?_append_right (by omega), h1]
    · rw [if_neg e2, List.getElem?_append_right (by rw [List.length_append]; omega), List.length_append, List.getElem?_drop]
      congr 2; omega
theorem srtSeg_seg {l : List α} {a b : Nat} (hab : a ≤ b) (hb : b ≤ l.length) : seg (srtSeg lt l a b) a b = isortR lt (seg l a b) := by
  have hl := srtSeg_length (lt := lt) hab hb
  refine list_ext_getD (by rw [seg_length (by omega), isortR_length, seg_length hb]) fun q hq => ?_
  rw [seg_length (by omega)] at hq
  rw [seg_getD (by omega) (by omega), srtSeg_getD hab hb, if_neg (by omega), if_pos (by omega)]
  congr 1; omega
theorem srtSeg_still (hw : SWO lt) {l : List α} {a b : Nat} (hab : a ≤ b) (hb : b ≤ l.length) (h : srtO lt l a b) : srtSeg lt l a b = l := by
  unfold srtSeg
  rw [isortR_srt hw (srtO_seg hb h)]
  refine list_ext_getD (by rw [List.length_append, List.length_append, seg_length hb, List.length_take, List.length_drop]; omega) fun q hq => ?_
  have := srtSeg_getD (lt := lt) hab hb q
  unfold srtSeg at this
  rw [isortR_srt hw (srtO_seg hb h)] at this
  rw [this]
  by_cases e1 : q < a
  · rw [if_pos e1]
  · rw [if_neg e1]
    by_cases e2 : q < b
    · rw [if_pos e2, seg_getD hb (by omega)]
      congr 1; omega
    · rw [if_neg e2]
theorem sym_split (hw : SWO lt) {l : List α} {a m b s e mid : Nat} (has : a ≤ s) (hsm : s ≤ m) (hme : m ≤ e) (heb : e ≤ b) (hb : b ≤ l.length) (hmid : mid = s + (e - m)) (hL : srtO lt l a m) (hR : srtO lt l m b)
    (h1 : ∀ i j, a ≤ i → i < s → e ≤ j → j < b → lt (l.getD j default) (l.getD i default) = false) (h2 : ∀ i j, s ≤ i → i < m → m ≤ j → j < e → lt (l.getD j default) (l.getD i default) = true) :
    srtSeg lt (srtSeg lt (rot l s m e) a mid) mid b = srtSeg lt l a b := by
  have hrl := rot_length l s m e
  have e1 : seg (rot l s m e) a mid = seg l a s ++ seg l m e := by
    rw [← seg_append (l := rot l s m e) (i := a) (j := s) (k := mid) has (by omega) (by omega)]
    congr 1
    · refine seg_ext (by omega) (by omega) rfl fun q hq => ?_
      rw [rot_getD (by omega), if_neg (by omega), if_neg (by omega)]
    · refine seg_ext (by omega) (by omega) (by omega) fun q hq => ?_
      rw [rot_getD (by omega), if_pos (by omega)]
      congr 1; omega
  have e2 : seg (rot l s m e) mid b = seg l s m ++ seg l e b := by
    rw [← seg_append (l := rot l s m e) (i := mid) (j := e) (k := b) (by omega) heb (by omega)]
    congr 1
    · refine seg_ext (by omega) (by omega) (by omega) fun q hq => ?_
      rw [rot_getD (by omega), if_neg (by omega), if_pos (by omega)]
      congr 1; omega
    · refine seg_ext (by omega) (by omega) rfl fun q hq => ?_
      rw [rot_getD (by omega), if_neg (by omega), if_neg (by omega)]
  have hst : Stb lt (seg l a b) (isortR lt (seg l a s ++ seg l m e) ++ isortR lt (seg l s m ++ seg l e b)) := by
    have := stb_parts hw (isortR_stb hw (seg l a s ++ seg l m e)) (isortR_stb hw (seg l s m ++ seg l e b)) ?_ ?_
    · rw [seg_append has hsm (by omega), seg_append hme heb hb, seg_append (by omega) (by omega) hb] at this
      exact this
    · intro x hx y hy
      rcases List.mem_append.1 hx with hx | hx <;> rcases List.mem_append.1 hy with hy | hy <;> obtain ⟨p, p1, p2, rfl⟩ := seg_mem (by omega) hx <;> obtain ⟨q, q1, q2, rfl⟩ := seg_mem (by omega) hy
      · exact hL p q p1 (by omega) (by omega)
      · exact h1 p q p1 p2 q1 q2
      · exact hw.asymm _ _ (h2 q p q1 q2 p1 p2)
      · exact hR p q (by omega) (by omega) (by omega)
    · intro x hx y hy
      obtain ⟨p, p1, p2, rfl⟩ := seg_mem (by omega) hx
      obtain ⟨q, q1, q2, rfl⟩ := seg_mem (by omega) hy
      exact h2 p q p1 p2 q1 q2
  have hres := hst.eq hw
  have hl1 := srtSeg_length (lt := lt) (l := rot l s m e) (a := a) (b := mid) (by omega) (by omega)
  have e3 : seg (srtSeg lt (rot l s m e) a mid) mid b = seg l s m ++ seg l e b := by
    rw [← e2]
    refine seg_ext (by omega) (by omega) rfl fun q hq => ?_
    rw [srtSeg_getD (by omega) (by omega), if_neg (by omega), if_neg (by omega)]
  refine list_ext_getD (by rw [srtSeg_length (by omega) (by omega), srtSeg_length (by omega) hb]; omega) fun q hq => ?_
  rw [srtSeg_length (by omega) (by omega), hl1, hrl] at hq
  rw [srtSeg_getD (by omega) (by omega), srtSeg_getD (by omega) hb, srtSeg_getD (by omega) (by omega), e3, e1, ← hres]
  have n1 : (isortR lt (seg l a s ++ seg l m e)).length = mid - a := by rw [isortR_length, List.length_append, seg_length (by omega), seg_length (by omega)]; omega
  by_cases c1 : q < a
  · rw [if_pos (by omega), if_pos c1, if_pos c1, rot_getD hq, if_neg (by omega), if_neg (by omega)]
  · by_cases c2 : q < mid
    · rw [if_pos c2, if_neg c1, if_pos c2, if_neg c1, if_pos (by omega)]
      simp only [List.getD]
      rw [List.getElem?_append_left (by omega)]
    · by_cases c3 : q < b
      · rw [if_neg c2, if_pos c3, if_neg c1, if_pos c3]
        simp only [List.getD]
        rw [List.getElem?_append_right (by omega), n1]
        congr 2; omega
      · rw [if_neg c2, if_neg c3, if_neg c1, if_neg c2, if_neg c1, if_neg c3, rot_getD hq, if_neg (by omega), if_neg (by omega)]
end
end Go.Abs
