/- Contracts: clusters checked. -/
import Derived.Test.YthelcfpfbnhcjaaDoorX03
import Derived.Test.YthelcfpfbnhcjaaDoorCards
import Derived.Test.YthelcfpfbnhcjaaDoorTie
import Derived.WalkKit
import Derived.Shelf.SlSortCmp.NoneTotal
import Derived.Test.YthelcfpfbnhcjaaDoorProg

set_option linter.unusedVariables false
set_option linter.unusedSimpArgs false
set_option linter.unusedSectionVars false

namespace Go.Abs
open Go.Proofs
set_option maxRecDepth 10000

def attrE (l : List Attr) (i : Nat) : Int := if defE (l.getD i default) ≠ 0 then defE (l.getD i default) else if anyN i (fun j => decide ((l.getD j default).name = (l.getD i default).name)) = true then 9 else 0
def evE (l : List ByteArray) (i : Nat) : Int := if validName (l.getD i default) = false then 10 else if memN l i (l.getD i default) = true then 9 else 0

/-- cluster.Check -/
def checkE (c : Clu) : Int :=
  if validName c.name = false then 10 else if wideB c = true then 3
  else if firstE c.attrs.length (attrE c.attrs) ≠ 0 then firstE c.attrs.length (attrE c.attrs)
  else if firstE c.commands.length (cmdE c) ≠ 0 then firstE c.commands.length (cmdE c)
  else firstE c.events.length (evE c.events)

theorem ac_cluster_Check (c : Clu) (hc : smallK c) : AC Tryd.prog 50 [.pv (.agg (cClu c))] [] (.pv (vint (checkE c))) [] := by
  have hl1 : c.attrs.length ≤ 1048576 := hc.1
  have hl2 : c.commands.length ≤ 1048576 := hc.2.2.1
  have hl3 : c.events.length ≤ 1048576 := hc.2.2.2.2
  refine AC.of_awp (T := T) T_ok hm Tryd.call50 Tryd.func50 rfl rfl rfl ?_
  conv => whnf
  refine .inl ⟨_, ac_names_Valid c.name, ?_⟩
  conv => whnf
  refine ⟨fun h => ?_, fun h => ?_⟩ <;> (try simp only [decide_eq_true_eq, decide_eq_false_iff_not, Bool.not_eq_true', Bool.not_eq_false', Int.toNat_natCast, beq_iff_eq, decide_eq_decide, beq_eq_false_iff_ne, ne_eq, reduceCtorEq] at h) <;> (conv => whnf)
  · exact PSub.int (by simp [checkE, h, -List.getD_eq_getElem?_getD])
  have hv := h
  refine .inl ⟨_, ac_cluster_wide c hc, ?_⟩
  conv => whnf
  refine ⟨fun h => ?_, fun h => ?_⟩ <;> (try simp only [decide_eq_true_eq, decide_eq_false_iff_not, Bool.not_eq_true', Bool.not_eq_false', Int.toNat_natCast, beq_iff_eq, decide_eq_decide, beq_eq_false_iff_ne, ne_eq, reduceCtorEq] at h) <;> (conv => whnf)
  · exact PSub.int (by simp [checkE, h, hv, -List.getD_eq_getElem?_getD])
  have hw := h
  refine loop_k (ι := Nat) [1, 19, 20] [1] (fun k => k ≤ c.attrs.length ∧ (∀ j, j < k → attrE c.attrs j = 0)) (fun k => c.attrs.length - k) 0 (fun k => [(21, .pv (vint k))]) (fun _ => []) [] ⟨Nat.zero_le _, fun j h => absurd h (by omega)⟩ ?_ (fun k hk => ?_)
  · (repeat' (first | exact PSub.rfl | exact rfl | exact PSubs.rfl | exact trivial | refine And.intro ?_ ?_))
  obtain ⟨hkn, hinv⟩ := hk
  conv => whnf
  refine ⟨fun h => ?_, fun h => ?_⟩ <;> (try simp only [decide_eq_true_eq, decide_eq_false_iff_not, Bool.not_eq_true', Bool.not_eq_false', Int.toNat_natCast, beq_iff_eq, decide_eq_decide, beq_eq_false_iff_ne, ne_eq, reduceCtorEq] at h) <;> (conv => whnf)
  · refine And.intro (by omega) ?_
    conv => whnf
    refine .inl ⟨_, ac_value_Def (c.attrs.getD k default) (hc.2.1 k), ?_⟩
    conv => whnf
    refine ⟨fun h => ?_, fun h => ?_⟩ <;> (try simp only [decide_eq_true_eq, decide_eq_false_iff_not, Bool.not_eq_true', Bool.not_eq_false', Int.toNat_natCast, beq_iff_eq, decide_eq_decide, beq_eq_false_iff_ne, ne_eq, reduceCtorEq] at h) <;> (conv => whnf)
    · have e : attrE c.attrs k = defE (c.attrs.getD k default) := by simp [attrE, h, -List.getD_eq_getElem?_getD]
      have e2 := firstE_at (n := c.attrs.length) (k := k) (f := attrE c.attrs) (by omega) (by rw [e]; exact h) hinv
      rw [e] at e2
      exact PSub.int (by simp [checkE, e2, h, hv, hw, -List.getD_eq_getElem?_getD])
    have hd := h
    refine And.intro (by omega) ?_
    conv => whnf
    have hinv1 := hinv
    refine loop_k (ι := Nat) [1, 4, 19, 20, 21, 34, 35] [1, 4] (fun k2 => k2 ≤ k ∧ (∀ j, j < k2 → decide ((c.attrs.getD j default).name = (c.attrs.getD k default).name) = false)) (fun k2 => k - k2) 0 (fun k2 => [(36, .pv (vint k2))]) (fun _ => []) [] ⟨Nat.zero_le _, fun j h => absurd h (by omega)⟩ ?_ (fun k2 hk => ?_)
    · (repeat' (first | exact PSub.rfl | exact rfl | exact PSubs.rfl | exact trivial | refine And.intro ?_ ?_))
    obtain ⟨hkn, hinv⟩ := hk
    conv => whnf
    repeat (any_goals (first
      | (refine ⟨fun (h : (_ : Bool) = true) => ?_, fun (h : (_ : Bool) = false) => ?_⟩ <;> (try simp only [decide_eq_true_eq, decide_eq_false_iff_not, Bool.not_eq_true', Bool.not_eq_false', Int.toNat_natCast, beq_iff_eq, decide_eq_decide, beq_eq_false_iff_ne, ne_eq, reduceCtorEq] at h) <;> (conv => whnf))
      | (refine And.intro (by (try simp only [Int.toNat_natCast]); omega) ?_; conv => whnf)
      | (refine And.intro (show (_ : Bool) = true from by kernel_rfl) ?_; conv => whnf)
      | (refine .inl ⟨wrap64 (by omega), ?_⟩; conv => whnf)))
    · have e0 := anyN_true (n := k) (k := k2) (p := fun j => decide ((c.attrs.getD j default).name = (c.attrs.getD k default).name)) (by omega) (by simpa [-List.getD_eq_getElem?_getD] using h)
      have e : attrE c.attrs k = 9 := by simp [attrE, hd, e0, -List.getD_eq_getElem?_getD]
      have e2 := firstE_at (n := c.attrs.length) (k := k) (f := attrE c.attrs) (by omega) (by rw [e]; decide) hinv1
      rw [e] at e2
      exact PSub.int (by simp [checkE, e2, hv, hw, -List.getD_eq_getElem?_getD])
    · refine ⟨k2 + 1, [], ⟨by omega, ?_⟩, by first | omega | (dsimp only; omega), ?_⟩
      rotate_left
      · (repeat' (first | exact PSub.rfl | exact rfl | exact PSubs.rfl | exact trivial | refine And.intro ?_ ?_))
      intro j hj
      by_cases e : j = k2
      · subst e; first | exact h | simpa [-List.getD_eq_getElem?_getD] using h | simp_all [-List.getD_eq_getElem?_getD]
      · exact hinv j (by omega)
    · have e0 := anyN_false (n := k) (p := fun j => decide ((c.attrs.getD j default).name = (c.attrs.getD k default).name)) (fun j hj => hinv j (by omega))
      have e : attrE c.attrs k = 0 := by simp [attrE, hd, e0, -List.getD_eq_getElem?_getD]
      refine ⟨k + 1, [], ⟨by omega, ?_⟩, by first | omega | (dsimp only; omega), ?_⟩
      rotate_left
      · (repeat' (first | exact PSub.rfl | exact rfl | exact PSubs.rfl | exact trivial | refine And.intro ?_ ?_))
      intro j hj
      by_cases ee : j = k
      · subst ee; exact e
      · exact hinv1 j (by omega)
  have e1 : firstE c.attrs.length (attrE c.attrs) = 0 := firstE_none fun j hj => hinv j (by omega)
  clear hinv hkn h
  refine loop_k (ι := Nat) [1, 49] [1] (fun k => k ≤ c.commands.length ∧ (∀ j, j < k → cmdE c j = 0)) (fun k => c.commands.length - k) 0 (fun k => [(50, .pv (vint k))]) (fun _ => []) [] ⟨Nat.zero_le _, fun j h => absurd h (by omega)⟩ ?_ (fun k hk => ?_)
  · (repeat' (first | exact PSub.rfl | exact rfl | exact PSubs.rfl | exact trivial | refine And.intro ?_ ?_))
  obtain ⟨hkn, hinv⟩ := hk
  conv => whnf
  refine ⟨fun h => ?_, fun h => ?_⟩ <;> (try simp only [decide_eq_true_eq, decide_eq_false_iff_not, Bool.not_eq_true', Bool.not_eq_false', Int.toNat_natCast, beq_iff_eq, decide_eq_decide, beq_eq_false_iff_ne, ne_eq, reduceCtorEq] at h) <;> (conv => whnf)
  · refine .inl ⟨_, ac_cluster_numbered c k hc (by omega), ?_⟩
    conv => whnf
    refine ⟨fun h => ?_, fun h => ?_⟩ <;> (try simp only [decide_eq_true_eq, decide_eq_false_iff_not, Bool.not_eq_true', Bool.not_eq_false', Int.toNat_natCast, beq_iff_eq, decide_eq_decide, beq_eq_false_iff_ne, ne_eq, reduceCtorEq] at h) <;> (conv => whnf)
    · have e2 := firstE_at (n := c.commands.length) (k := k) (f := cmdE c) (by omega) h hinv
      exact PSub.int (by simp [checkE, e1, e2, h, hv, hw, -List.getD_eq_getElem?_getD])
    refine .inl ⟨wrap64 (by omega), ?_⟩
    conv => whnf
    refine ⟨k + 1, [], ⟨by omega, ?_⟩, by first | omega | (dsimp only; omega), ?_⟩
    rotate_left
    · (repeat' (first | exact PSub.rfl | exact rfl | exact PSubs.rfl | exact trivial | refine And.intro ?_ ?_))
    intro j hj
    by_cases e : j = k
    · subst e; first | exact h | simpa [-List.getD_eq_getElem?_getD] using h | simp_all [-List.getD_eq_getElem?_getD]
    · exact hinv j (by omega)
  have e2 : firstE c.commands.length (cmdE c) = 0 := firstE_none fun j hj => hinv j (by omega)
  have e0 : checkE c = firstE c.events.length (evE c.events) := by simp [checkE, e1, e2, hv, hw, -List.getD_eq_getElem?_getD]
  rw [e0]
  clear hinv hkn h
  refine loop_k (ι := Nat) [1, 61, 62] [1] (fun k => k ≤ c.events.length ∧ (∀ j, j < k → evE c.events j = 0)) (fun k => c.events.length - k) 0 (fun k => [(63, .pv (vint k))]) (fun _ => []) [] ⟨Nat.zero_le _, fun j h => absurd h (by omega)⟩ ?_ (fun k hk => ?_)
  · (repeat' (first | exact PSub.rfl | exact rfl | exact PSubs.rfl | exact trivial | refine And.intro ?_ ?_))
  obtain ⟨hkn, hinv⟩ := hk
  conv => whnf
  repeat (any_goals (first
    | (refine ⟨fun (h : (_ : Bool) = true) => ?_, fun (h : (_ : Bool) = false) => ?_⟩ <;> (try simp only [decide_eq_true_eq, decide_eq_false_iff_not, Bool.not_eq_true', Bool.not_eq_false', Int.toNat_natCast, beq_iff_eq, decide_eq_decide, beq_eq_false_iff_ne, ne_eq, reduceCtorEq] at h) <;> (conv => whnf))
    | (refine .inl ⟨_, ac_names_Valid (c.events.getD k default), ?_⟩; conv => whnf)
    | (refine .inl ⟨_, ac_slices_Contains_string_n c.events k (c.events.getD k default) (by omega), ?_⟩; conv => whnf)
    | (refine And.intro (by (try simp only [Int.toNat_natCast]); omega) ?_; conv => whnf)
    | (refine And.intro (show (_ : Bool) = true from by kernel_rfl) ?_; conv => whnf)
    | (refine .inl ⟨wrap64 (by omega), ?_⟩; conv => whnf)))
  · have e : evE c.events k = 10 := by simp [evE, h, -List.getD_eq_getElem?_getD]
    exact PSub.int (by rw [firstE_at (k := k) (by omega) (by rw [e]; decide) hinv, e])
  · rename_i h' 
    have e : evE c.events k = 9 := by simp [evE, h, h', -List.getD_eq_getElem?_getD]
    exact PSub.int (by rw [firstE_at (k := k) (by omega) (by rw [e]; decide) hinv, e])
  · rename_i h'
    refine ⟨k + 1, [], ⟨by omega, ?_⟩, by first | omega | (dsimp only; omega), ?_⟩
    rotate_left
    · (repeat' (first | exact PSub.rfl | exact rfl | exact PSubs.rfl | exact trivial | refine And.intro ?_ ?_))
    intro j hj
    by_cases ee : j = k
    · subst ee; simp [evE, h, h', -List.getD_eq_getElem?_getD]
    · exact hinv j (by omega)
  · exact PSub.int (by rw [firstE_none fun j hj => hinv j (by omega)])

end Go.Abs

namespace Go.Abs
open Go.Proofs
set_option maxRecDepth 10000

theorem placeI_lt {l : List Attr} {s : ByteArray} {k : Nat} (hk : k < l.length) (h : (l.getD k default).name = s) : (placeI l s < (k : Int)) ↔ anyN k (fun j => decide ((l.getD j default).name = s)) = true := by
  have hlt : attrAt l s ≤ k ∧ attrAt l s < l.length := by
    unfold attrAt firstI
    split
    · rename_i i e
      rw [List.find?_range_eq_some] at e
      refine ⟨?_, by simpa using e.2.1⟩
      rcases Nat.lt_or_ge k i with hlt | hge
      · have := e.2.2 k hlt; simp [h, -List.getD_eq_getElem?_getD] at this
      · exact hge
    · rename_i e
      rw [List.find?_eq_none] at e
      have := e k (by simpa using hk)
      simp [h, -List.getD_eq_getElem?_getD] at this
  unfold placeI
  rw [if_pos hlt.2, anyN_iff]
  constructor
  · intro hh
    refine ⟨attrAt l s, by omega, ?_⟩
    unfold attrAt firstI
    split
    · rename_i i e
      rw [List.find?_range_eq_some] at e
      exact e.1
    · rename_i e
      rw [List.find?_eq_none] at e
      have := e k (by simpa using hk)
      simp [h, -List.getD_eq_getElem?_getD] at this
  · rintro ⟨j, hj, e⟩
    have : attrAt l s ≤ j := by
      unfold attrAt firstI
      split
      · rename_i i e2
        rw [List.find?_range_eq_some] at e2
        rcases Nat.lt_or_ge j i with hlt2 | hge
        · have := e2.2.2 j hlt2; rw [e] at this; cases this
        · exact hge
      · rename_i e2
        rw [List.find?_eq_none] at e2
        have := e2 k (by simpa using hk)
        simp [h, -List.getD_eq_getElem?_getD] at this
    omega

def smallKs (l : List Clu) : Prop := smallL l ∧ ∀ i, smallK (l.getD i default)

def cluE (l : List Clu) (i : Nat) : Int := if checkE (l.getD i default) ≠ 0 then checkE (l.getD i default) else if anyN i (fun j => decide ((l.getD j default).name = (l.getD i default).name)) = true then 9 else 0
/-- cluster.All -/
def allE (l : List Clu) : Int := if 256 < l.length then 3 else firstE l.length (cluE l)

theorem ac_cluster_All (l : List Clu) (hl : smallKs l) : AC Tryd.prog 29 [.pv (roL 4 cClu l)] [] (.pv (vint (allE l))) [] := by
  have hl1 : l.length ≤ 1048576 := hl.1
  refine AC.of_awp (T := T) T_ok hm Tryd.call29 Tryd.func29 rfl rfl rfl ?_
  conv => whnf
  refine ⟨fun h => ?_, fun h => ?_⟩ <;> (try simp only [decide_eq_true_eq, decide_eq_false_iff_not, Bool.not_eq_true', Bool.not_eq_false', Int.toNat_natCast, beq_iff_eq, decide_eq_decide, beq_eq_false_iff_ne, ne_eq, reduceCtorEq] at h) <;> (conv => whnf)
  · exact PSub.int (by rw [allE, if_pos (by omega)])
  rw [allE, if_neg (by omega)]
  clear h
  refine loop_k (ι := Nat) [0, 11, 12] [] (fun k => k ≤ l.length ∧ (∀ j, j < k → cluE l j = 0)) (fun k => l.length - k) 0 (fun k => [(13, .pv (vint k))]) (fun _ => []) [] ⟨Nat.zero_le _, fun j h => absurd h (by omega)⟩ ?_ (fun k hk => ?_)
  · (repeat' (first | exact PSub.rfl | exact rfl | exact PSubs.rfl | exact trivial | refine And.intro ?_ ?_))
  obtain ⟨hkn, hinv⟩ := hk
  conv => whnf
  repeat (any_goals (first
    | (refine ⟨fun (h : (_ : Bool) = true) => ?_, fun (h : (_ : Bool) = false) => ?_⟩ <;> (try simp only [decide_eq_true_eq, decide_eq_false_iff_not, Bool.not_eq_true', Bool.not_eq_false', Int.toNat_natCast, beq_iff_eq, decide_eq_decide, beq_eq_false_iff_ne, ne_eq, reduceCtorEq] at h) <;> (conv => whnf))
    | (refine .inl ⟨_, ac_cluster_Check (l.getD k default) (hl.2 k), ?_⟩; conv => whnf)
    | (refine And.intro (by (try simp only [Int.toNat_natCast]); omega) ?_; conv => whnf)
    | (refine And.intro (show (_ : Bool) = true from by kernel_rfl) ?_; conv => whnf)
    | (refine .inl ⟨wrap64 (by omega), ?_⟩; conv => whnf)))
  · have e : cluE l k = checkE (l.getD k default) := by simp [cluE, h, -List.getD_eq_getElem?_getD]
    exact PSub.int (by rw [firstE_at (k := k) (by omega) (by rw [e]; exact h) hinv, e])
  · have hd := h
    have hinv1 := hinv
    refine loop_k (ι := Nat) [0, 4, 11, 12, 13, 25, 26] [4] (fun k2 => k2 ≤ k ∧ (∀ j, j < k2 → decide ((l.getD j default).name = (l.getD k default).name) = false)) (fun k2 => k - k2) 0 (fun k2 => [(27, .pv (vint k2))]) (fun _ => []) [] ⟨Nat.zero_le _, fun j h => absurd h (by omega)⟩ ?_ (fun k2 hk => ?_)
    · (repeat' (first | exact PSub.rfl | exact rfl | exact PSubs.rfl | exact trivial | refine And.intro ?_ ?_))
    obtain ⟨hkn, hinv⟩ := hk
    conv => whnf
    repeat (any_goals (first
      | (refine ⟨fun (h : (_ : Bool) = true) => ?_, fun (h : (_ : Bool) = false) => ?_⟩ <;> (try simp only [decide_eq_true_eq, decide_eq_false_iff_not, Bool.not_eq_true', Bool.not_eq_false', Int.toNat_natCast, beq_iff_eq, decide_eq_decide, beq_eq_false_iff_ne, ne_eq, reduceCtorEq] at h) <;> (conv => whnf))
      | (refine And.intro (by (try simp only [Int.toNat_natCast]); omega) ?_; conv => whnf)
      | (refine And.intro (show (_ : Bool) = true from by kernel_rfl) ?_; conv => whnf)
      | (refine .inl ⟨wrap64 (by omega), ?_⟩; conv => whnf)))
    · have e := anyN_true (n := k) (k := k2) (p := fun j => decide ((l.getD j default).name = (l.getD k default).name)) (by omega) (by simpa [-List.getD_eq_getElem?_getD] using h)
      have e : cluE l k = 9 := by simp [cluE, hd, e, -List.getD_eq_getElem?_getD]
      exact PSub.int (by rw [firstE_at (k := k) (by omega) (by rw [e]; decide) hinv1, e])
    · refine ⟨k2 + 1, [], ⟨by omega, ?_⟩, by first | omega | (dsimp only; omega), ?_⟩
      rotate_left
      · (repeat' (first | exact PSub.rfl | exact rfl | exact PSubs.rfl | exact trivial | refine And.intro ?_ ?_))
      intro j hj
      by_cases e : j = k2
      · subst e; first | exact h | simpa [-List.getD_eq_getElem?_getD] using h | simp_all [-List.getD_eq_getElem?_getD]
      · exact hinv j (by omega)
    · have e := anyN_false (n := k) (p := fun j => decide ((l.getD j default).name = (l.getD k default).name)) fun j hj => hinv j (by omega)
      refine ⟨k + 1, [], ⟨by omega, ?_⟩, by first | omega | (dsimp only; omega), ?_⟩
      rotate_left
      · (repeat' (first | exact PSub.rfl | exact rfl | exact PSubs.rfl | exact trivial | refine And.intro ?_ ?_))
      intro j hj
      by_cases ee : j = k
      · subst ee; simp [cluE, hd, e, -List.getD_eq_getElem?_getD]
      · exact hinv1 j (by omega)
  · exact PSub.int (by rw [firstE_none fun j hj => hinv j (by omega)])

end Go.Abs

namespace Go.Abs
open Go.Proofs
set_option maxRecDepth 10000

/-- the last of the first k clusters with a name -/
def lastC (l : List Clu) : Nat → ByteArray → Option Clu
  | 0, _ => none
  | k + 1, s => if (l.getD k default).name = s then some (l.getD k default) else lastC l k s

def cluLook (f : ByteArray → Option Clu) : Value → Option PV
  | .string s => (f s).map fun c => .agg (cClu c)
  | _ => none

/-- device.clusters -/
theorem ac_device_clusters (H : Hom) (hh : smallL H.clusters) : AC Tryd.prog 30 [.pv (.agg (cHom H))] [] (.pv (.map (.one .str) (cluLook (lastC H.clusters H.clusters.length)))) [] := by
  have hl : H.clusters.length ≤ 1048576 := hh
  refine AC.of_awp (T := T) T_ok hm Tryd.call30 Tryd.func30 rfl rfl rfl ?_
  conv => whnf
  refine loop_k (ι := Nat) [3, 8, 9] [] (fun k => k ≤ H.clusters.length ∧ True) (fun k => H.clusters.length - k) 0 (fun k => [(10, .pv (vint k))]) (fun k => [(6, .map (.one .str) (cluLook (lastC H.clusters k)))]) [] ⟨Nat.zero_le _, trivial⟩ ?_ (fun k hk => ?_)
  · (repeat' (first | exact PSub.rfl | exact rfl | exact PSubs.rfl | exact trivial | refine And.intro ?_ ?_)); all_goals (rintro _ ⟨s, rfl⟩; rfl)
  obtain ⟨hkn, hinv⟩ := hk
  conv => whnf
  repeat (any_goals (first
    | (refine ⟨fun (h : (_ : Bool) = true) => ?_, fun (h : (_ : Bool) = false) => ?_⟩ <;> (try simp only [decide_eq_true_eq, decide_eq_false_iff_not, Bool.not_eq_true', Bool.not_eq_false', Int.toNat_natCast, beq_iff_eq, decide_eq_decide, beq_eq_false_iff_ne, ne_eq, reduceCtorEq] at h) <;> (conv => whnf))
    | (refine And.intro (by (try simp only [Int.toNat_natCast]); omega) ?_; conv => whnf)
    | (refine And.intro (show (_ : Bool) = true from by kernel_rfl) ?_; conv => whnf)
    | (refine .inl ⟨wrap64 (by omega), ?_⟩; conv => whnf)))
  · refine ⟨k + 1, [], ⟨by omega, trivial⟩, by omega, ?_⟩
    (repeat' (first | exact PSub.rfl | exact rfl | exact PSubs.rfl | exact trivial | refine And.intro ?_ ?_))
    rintro _ ⟨s, rfl⟩
    simp only [Int.toNat_natCast, lookPut, cluLook, lastC, Value.string.injEq]
    by_cases e : s = (H.clusters.getD k default).name
    · simp [e, -List.getD_eq_getElem?_getD]; rfl
    · rw [if_neg e, if_neg (fun x => e x.symm)]
  · have e : k = H.clusters.length := by omega
    subst e
    exact PSub.rfl

/-- device.numbers -/
def numB (d : Dev) : Bool := !(decide (d.id < 1) || decide (250 < d.id) || decide (d.vendor < 0) || decide (255 < d.vendor)) && (if d.sleepy then decide (4 ≤ d.poll) && decide (d.poll ≤ 3600) else decide (d.poll = 0))

theorem ac_device_numbers (d : Dev) : AC Tryd.prog 31 [.pv (.agg (cDev d))] [] (.pv (vbool (numB d))) [] := by
  refine AC.of_awp (T := T) T_ok hm Tryd.call31 Tryd.func31 rfl rfl rfl ?_
  conv => whnf
  repeat (any_goals (first
    | (refine ⟨fun (h : (_ : Bool) = true) => ?_, fun (h : (_ : Bool) = false) => ?_⟩ <;> (try simp only [decide_eq_true_eq, decide_eq_false_iff_not, Bool.not_eq_true', Bool.not_eq_false', Int.toNat_natCast, beq_iff_eq, decide_eq_decide, beq_eq_false_iff_ne, ne_eq, reduceCtorEq] at h) <;> (conv => whnf))
    | (refine And.intro (by (try simp only [Int.toNat_natCast]); omega) ?_; conv => whnf)
    | (refine And.intro (show (_ : Bool) = true from by kernel_rfl) ?_; conv => whnf)
    | (refine .inl ⟨wrap64 (by omega), ?_⟩; conv => whnf)))
  all_goals first | (refine PSub.sb ?_; rw [numB, Bool.eq_iff_iff]; simp_all; done) | (refine PSub.lit_sb ?_; rw [numB, Bool.eq_iff_iff]; simp_all; omega) | (refine PSub.lit_sb ?_; rw [numB, Bool.eq_iff_iff]; simp_all; done) | skip

def firstC (l : List Clu) (s : ByteArray) : Option Clu := l.find? fun c => decide (c.name = s)

def capStep (f : ByteArray → Option Clu) (d : Dev) (i : Nat) (n : Int) : Int ⊕ Int :=
  match f (d.clusters.getD i default) with
  | none => .inl 8
  | some c => if idxOf d.clusters (d.clusters.getD i default) < i then .inl 9 else .inr (n + c.attrs.length)

/-- device.capabilities -/
def capE (f : ByteArray → Option Clu) (d : Dev) : Int :=
  if d.clusters.length < 1 ∨ 4 < d.clusters.length then 3 else match forI (capStep f d) d.clusters.length 0 0 with
  | .inl e => e
  | .inr n => if 24 < n then 3 else 0

theorem ac_device_capabilities (d : Dev) (f : ByteArray → Option Clu) (hf : ∀ s c, f s = some c → smallK c) : AC Tryd.prog 33 [.pv (.agg (cDev d)), .pv (.map (.one .str) (cluLook f))] [] (.pv (vint (capE f d))) [] := by
  refine AC.of_awp (T := T) T_ok hm Tryd.call33 Tryd.func33 rfl rfl rfl ?_
  conv => whnf
  refine ⟨fun h => ?_, fun h => ?_⟩
  · conv => whnf
    simp only [decide_eq_true_eq] at h
    exact PSub.int (by rw [capE, if_pos (by omega)])
  conv => whnf
  refine ⟨fun h => ?_, fun h => ?_⟩ <;> (try simp only [decide_eq_true_eq, decide_eq_false_iff_not, Bool.not_eq_true', Bool.not_eq_false', Int.toNat_natCast, beq_iff_eq, decide_eq_decide, beq_eq_false_iff_ne, ne_eq, reduceCtorEq] at h) <;> (conv => whnf)
  · exact PSub.int (by rw [capE, if_pos (by omega)])
  rename_i h0
  simp only [decide_eq_false_iff_not] at h0
  rw [capE, if_neg (by omega)]
  refine loop_k (ι := Nat × Int) [1, 2, 21, 22] [2] (fun i => i.1 ≤ d.clusters.length ∧ (0 ≤ i.2 ∧ i.2 ≤ i.1 * 1048576) ∧ forI (capStep f d) (d.clusters.length - i.1) i.1 i.2 = forI (capStep f d) d.clusters.length 0 0) (fun i => d.clusters.length - i.1) (0, 0) (fun i => [(5, .pv (vint i.2)), (23, .pv (vint i.1))]) (fun _ => []) [] ⟨Nat.zero_le _, by simp, rfl⟩ ?_ (fun i hk => ?_)
  · (repeat' (first | exact PSub.rfl | exact rfl | exact PSubs.rfl | exact trivial | refine And.intro ?_ ?_))
  obtain ⟨k, n⟩ := i
  obtain ⟨hkn, hn, hfor⟩ := hk
  simp only at hkn hn hfor
  conv => whnf
  refine ⟨fun h => ?_, fun h => ?_⟩ <;> (try simp only [decide_eq_true_eq, decide_eq_false_iff_not, Bool.not_eq_true', Bool.not_eq_false', Int.toNat_natCast, beq_iff_eq, decide_eq_decide, beq_eq_false_iff_ne, ne_eq, reduceCtorEq] at h) <;> (conv => whnf)
  · refine And.intro (by omega) ?_
    conv => whnf
    refine ⟨fun p hp => ?_, fun hp => ?_⟩
    · simp only [cluLook, Int.toNat_natCast] at hp
      cases hf0 : f (d.clusters.getD k default) with
      | none => rw [hf0] at hp; cases hp
      | some c =>
        rw [hf0] at hp
        cases hp
        have hcl : c.attrs.length ≤ 1048576 := (hf _ _ hf0).1
        conv => whnf
        repeat (any_goals (first
          | (refine ⟨fun (h : (_ : Bool) = true) => ?_, fun (h : (_ : Bool) = false) => ?_⟩ <;> (try simp only [decide_eq_true_eq, decide_eq_false_iff_not, Bool.not_eq_true', Bool.not_eq_false', Int.toNat_natCast, beq_iff_eq, decide_eq_decide, beq_eq_false_iff_ne, ne_eq, reduceCtorEq] at h) <;> (conv => whnf))
          | (refine .inl ⟨_, ac_names_Index d.clusters (d.clusters.getD k default) (by omega), ?_⟩; conv => whnf)
          | (refine And.intro (by (try simp only [Int.toNat_natCast]); omega) ?_; conv => whnf)
          | (refine And.intro (show (_ : Bool) = true from by kernel_rfl) ?_; conv => whnf)
          | (refine .inl ⟨wrap64 (by omega), ?_⟩; conv => whnf)))
        · rw [forI_stop hfor (by omega) (r := 9) (by rw [capStep, hf0]; simp only; rw [if_pos h])]
          exact PSub.rfl
        · refine ⟨(k + 1, n + c.attrs.length), [], ⟨by dsimp only; omega, ⟨by dsimp only; omega, by dsimp only; omega⟩, forI_next hfor (by omega) (by rw [capStep, hf0]; simp only; rw [if_neg h])⟩, by dsimp only; omega, ?_⟩
          (repeat' (first | exact PSub.rfl | exact rfl | exact PSubs.rfl | exact trivial | refine And.intro ?_ ?_))
    · simp only [cluLook, Int.toNat_natCast] at hp
      have hf0 : f (d.clusters.getD k default) = none := by simpa using hp
      conv => whnf
      repeat (any_goals (first
        | (refine ⟨fun (h : (_ : Bool) = true) => ?_, fun (h : (_ : Bool) = false) => ?_⟩ <;> (try simp only [decide_eq_true_eq, decide_eq_false_iff_not, Bool.not_eq_true', Bool.not_eq_false', Int.toNat_natCast, beq_iff_eq, decide_eq_decide, beq_eq_false_iff_ne, ne_eq, reduceCtorEq] at h) <;> (conv => whnf))
        | (refine And.intro (by (try simp only [Int.toNat_natCast]); omega) ?_; conv => whnf)
        | (refine And.intro (show (_ : Bool) = true from by kernel_rfl) ?_; conv => whnf)
        | (refine .inl ⟨wrap64 (by omega), ?_⟩; conv => whnf)))
      rw [forI_stop hfor (by omega) (r := 8) (by rw [capStep, hf0])]
      exact PSub.rfl
  · rw [forI_end hfor (by omega)]
    repeat (any_goals (first
      | (refine ⟨fun (h : (_ : Bool) = true) => ?_, fun (h : (_ : Bool) = false) => ?_⟩ <;> (try simp only [decide_eq_true_eq, decide_eq_false_iff_not, Bool.not_eq_true', Bool.not_eq_false', Int.toNat_natCast, beq_iff_eq, decide_eq_decide, beq_eq_false_iff_ne, ne_eq, reduceCtorEq] at h) <;> (conv => whnf))
      | (refine And.intro (by (try simp only [Int.toNat_natCast]); omega) ?_; conv => whnf)
      | (refine And.intro (show (_ : Bool) = true from by kernel_rfl) ?_; conv => whnf)
      | (refine .inl ⟨wrap64 (by omega), ?_⟩; conv => whnf)))
    · exact PSub.int (by simp only; rw [if_pos h])
    · exact PSub.int (by simp only; rw [if_neg h])

/-- device.Check: the i-th device -/
def devE (f : ByteArray → Option Clu) (l : List Dev) (i : Nat) : Int :=
  if numB (l.getD i default) = false then 2 else if 0 < i ∧ (l.getD i default).id ≤ (l.getD (i - 1) default).id then 14
  else if anyN i (fun j => decide ((l.getD j default).eui = (l.getD i default).eui)) = true then 9 else if validName (l.getD i default).room = false then 10
  else capE f (l.getD i default)

/-- device.Check -/
def homE (H : Hom) : Int := if allE H.clusters ≠ 0 then allE H.clusters else if 20 < H.devices.length then 3 else firstE H.devices.length (devE (firstC H.clusters) H.devices)

theorem cluE_distinct {l : List Clu} {k : Nat} (h : ∀ i, i < k → cluE l i = 0) {i j : Nat} (hi : i < j) (hj : j < k) : (l.getD i default).name ≠ (l.getD j default).name := by
  intro e
  have := h j hj
  unfold cluE at this
  split at this
  · contradiction
  · rw [if_pos (anyN_true hi (by simpa [-List.getD_eq_getElem?_getD] using e))] at this
    cases this

theorem firstE_zero {n : Nat} {f : Nat → Int} (h : firstE n f = 0) : ∀ i, i < n → f i = 0 := by
  intro i hi
  unfold firstE at h
  split at h
  · rename_i j e
    rw [List.find?_range_eq_some] at e
    exact absurd h (by simpa using e.1)
  · rename_i e
    rw [List.find?_eq_none] at e
    simpa using e i (by simpa using hi)

theorem lastC_first {l : List Clu} (h : ∀ i, i < l.length → cluE l i = 0) (s : ByteArray) : lastC l l.length s = firstC l s := by
  have hnone : ∀ k, k ≤ l.length → (∀ i, i < k → (l.getD i default).name ≠ s) → lastC l k s = none := by
    intro k
    induction k with
    | zero => intro _ _; rfl
    | succ k ih => intro hk hn; rw [lastC, if_neg (hn k (by omega)), ih (by omega) fun i hi => hn i (by omega)]
  have hsome : ∀ k, k ≤ l.length → ∀ i, i < k → (l.getD i default).name = s → lastC l k s = some (l.getD i default) := by
    intro k
    induction k with
    | zero => intro _ i hi; omega
    | succ k ih =>
      intro hk i hi e
      rw [lastC]
      by_cases e2 : i = k
      · subst e2; rw [if_pos e]
      · rw [if_neg fun e3 => cluE_distinct (k := l.length) h (i := i) (j := k) (by omega) (by omega) (e.trans e3.symm)]
        exact ih (by omega) i (by omega) e
  unfold firstC
  cases hf : l.find? fun c => decide (c.name = s) with
  | none =>
    rw [List.find?_eq_none] at hf
    refine hnone _ (Nat.le_refl _) fun i hi => ?_
    have := hf l[i] (List.getElem_mem hi)
    simpa [List.getD, hi] using this
  | some c =>
    obtain ⟨h1, xs, ys, h2, h3⟩ := List.find?_eq_some_iff_append.1 hf
    have hi : xs.length < l.length := by rw [h2]; simp
    have e : l.getD xs.length default = c := by simp [h2]
    rw [← e]
    exact hsome _ (Nat.le_refl _) _ hi (by rw [e]; simpa using h1)

theorem firstC_small {l : List Clu} (hl : smallKs l) {s : ByteArray} {c : Clu} (h : firstC l s = some c) : smallK c := by
  have := List.mem_of_find?_eq_some h
  obtain ⟨i, hi, rfl⟩ := List.getElem_of_mem this
  have := hl.2 i
  simpa [List.getD, hi] using this

def smallD (d : Dev) : Prop := smallL d.clusters ∧ -9223372036854775808 ≤ d.id ∧ d.id ≤ 9223372036854775807
def smallH (H : Hom) : Prop := smallKs H.clusters ∧ smallL H.devices ∧ ∀ i, smallD (H.devices.getD i default)

def euiLook (l : List Dev) (k : Nat) : Value → Option PV
  | .int .u64 n => if anyN k (fun j => decide ((l.getD j default).eui = n)) = true then some (.val (.bool true)) else none
  | _ => none

theorem anyN_succ {n : Nat} {p : Nat → Bool} : anyN (n + 1) p = (anyN n p || p n) := by simp [anyN, List.range_succ]

theorem euiLook_put (l : List Dev) (k : Nat) (s : Int) : lookPut (euiLook l k) (.int .u64 (l.getD k default).eui) (.val (.bool true)) (.int .u64 s) = euiLook l (k + 1) (.int .u64 s) := by
  simp only [lookPut, euiLook, anyN_succ, Value.int.injEq, true_and]
  by_cases e : s = (l.getD k default).eui
  · rw [if_pos e, if_pos (by simp [e, -List.getD_eq_getElem?_getD])]
  · rw [if_neg e]
    have e2 : decide ((l.getD k default).eui = s) = false := by simpa [-List.getD_eq_getElem?_getD] using fun x => e x.symm
    rw [e2, Bool.or_false]

theorem ac_device_Check (H : Hom) (hH : smallH H) : AC Tryd.prog 15 [.pv (.agg (cHom H))] [] (.pv (vint (homE H))) [] := by
  have hl : H.devices.length ≤ 1048576 := hH.2.1
  refine AC.of_awp (T := T) T_ok hm Tryd.call15 Tryd.func15 rfl rfl rfl ?_
  conv => whnf
  refine .inl ⟨_, ac_cluster_All H.clusters hH.1, ?_⟩
  conv => whnf
  refine ⟨fun h => ?_, fun h => ?_⟩ <;> (try simp only [decide_eq_true_eq, decide_eq_false_iff_not, Bool.not_eq_true', Bool.not_eq_false', Int.toNat_natCast, beq_iff_eq, decide_eq_decide, beq_eq_false_iff_ne, ne_eq, reduceCtorEq] at h) <;> (conv => whnf)
  · exact PSub.int (by rw [homE, if_pos h])
  rw [homE, if_neg (by simpa using h)]
  have ha := h
  refine ⟨fun h => ?_, fun h => ?_⟩ <;> (try simp only [decide_eq_true_eq, decide_eq_false_iff_not, Bool.not_eq_true', Bool.not_eq_false', Int.toNat_natCast, beq_iff_eq, decide_eq_decide, beq_eq_false_iff_ne, ne_eq, reduceCtorEq] at h) <;> (conv => whnf)
  · exact PSub.int (by rw [if_pos (by omega)])
  rw [if_neg (by omega)]
  refine .inl ⟨_, ac_device_clusters H hH.1.1, ?_⟩
  conv => whnf
  clear h
  have hu : ∀ i, i < H.clusters.length → cluE H.clusters i = 0 := firstE_zero (by
    unfold allE at ha
    split at ha
    · cases ha
    · exact ha)
  have hm : PSub (.map (.one .str) (cluLook (lastC H.clusters H.clusters.length))) (.map (.one .str) (cluLook (firstC H.clusters))) := PSub.map (by
    rintro _ ⟨s, rfl⟩
    simp only [cluLook, lastC_first hu])
  refine loop_k (ι := Nat) [1, 4, 5, 23, 24] [1] (fun k => k ≤ H.devices.length ∧ (∀ j, j < k → devE (firstC H.clusters) H.devices j = 0)) (fun k => H.devices.length - k) 0 (fun k => [(25, .pv (vint k))]) (fun k => [(21, .map (.one (.int .u64)) (euiLook H.devices k))]) [] ⟨Nat.zero_le _, fun j h => absurd h (by omega)⟩ ?_ (fun k hk => ?_)
  · (repeat' (first | exact PSub.rfl | exact rfl | exact PSubs.rfl | exact trivial | refine And.intro ?_ ?_)); all_goals (rintro _ ⟨s, rfl⟩; rfl)
  obtain ⟨hkn, hinv⟩ := hk
  conv => whnf
  repeat (any_goals (first
    | (refine ⟨fun (h : (_ : Bool) = true) => ?_, fun (h : (_ : Bool) = false) => ?_⟩ <;> (try simp only [decide_eq_true_eq, decide_eq_false_iff_not, Bool.not_eq_true', Bool.not_eq_false', Int.toNat_natCast, beq_iff_eq, decide_eq_decide, beq_eq_false_iff_ne, ne_eq, reduceCtorEq] at h) <;> (conv => whnf))
    | (refine .inl ⟨_, ac_device_numbers (H.devices.getD k default), ?_⟩; conv => whnf)
    | (refine And.intro (by (try simp only [Int.toNat_natCast]); omega) ?_; conv => whnf)
    | (refine And.intro (show (_ : Bool) = true from by kernel_rfl) ?_; conv => whnf)
    | (refine .inl ⟨wrap64 (by omega), ?_⟩; conv => whnf)))
  · have e : devE (firstC H.clusters) H.devices k = 2 := by simp [devE, h, -List.getD_eq_getElem?_getD]
    exact PSub.int (by rw [firstE_at (k := k) (by omega) (by rw [e]; decide) hinv, e])
  · rename_i h0 h1
    rw [show (↑k - 1 : Int).toNat = k - 1 from by omega] at h
    have e : devE (firstC H.clusters) H.devices k = 14 := by simp [devE, h0, h, -List.getD_eq_getElem?_getD]; omega
    exact PSub.int (by rw [firstE_at (k := k) (by omega) (by rw [e]; decide) hinv, e])
  · rw [show (↑k - 1 : Int).toNat = k - 1 from by omega] at h
    refine ⟨fun p => ?_, fun h => ?_⟩
    · intro hp
      rename_i h0 h1
      have hnum : numB (H.devices.getD k default) = true := by assumption
      rw [Int.toNat_natCast] at hp
      simp only [euiLook] at hp
      split at hp
      · rename_i hany
        cases hp
        conv => whnf
        have e : devE (firstC H.clusters) H.devices k = 9 := by simp [devE, hnum, h0, h1, hany, -List.getD_eq_getElem?_getD]; try omega
        exact PSub.int (by rw [firstE_at (k := k) (by omega) (by rw [e]; decide) hinv, e])
      · cases hp
    · rw [Int.toNat_natCast] at h
      conv => whnf
      have hany : anyN k (fun j => decide ((H.devices.getD j default).eui = (H.devices.getD k default).eui)) = false := by
        simp only [euiLook] at h
        split at h
        · cases h
        · rename_i hx; simpa using hx
      rename_i h0 h1
      have hnum : numB (H.devices.getD k default) = true := by assumption
      repeat (any_goals (first
        | (refine ⟨fun (h : (_ : Bool) = true) => ?_, fun (h : (_ : Bool) = false) => ?_⟩ <;> (try simp only [decide_eq_true_eq, decide_eq_false_iff_not, Bool.not_eq_true', Bool.not_eq_false', Int.toNat_natCast, beq_iff_eq, decide_eq_decide, beq_eq_false_iff_ne, ne_eq, reduceCtorEq] at h) <;> (conv => whnf))
        | (refine .inl ⟨_, ac_names_Valid (H.devices.getD k default).room, ?_⟩; conv => whnf)
        | (refine .inl ⟨_, AC.sub2 (ac_device_capabilities (H.devices.getD k default) (firstC H.clusters) (fun _ _ => firstC_small hH.1)) .rfl hm, ?_⟩; conv => whnf)
        | (refine And.intro (by (try simp only [Int.toNat_natCast]); omega) ?_; conv => whnf)
        | (refine And.intro (show (_ : Bool) = true from by kernel_rfl) ?_; conv => whnf)
        | (refine .inl ⟨wrap64 (by omega), ?_⟩; conv => whnf)))
      · have e : devE (firstC H.clusters) H.devices k = 10 := by simp [devE, hnum, h0, h1, hany, h, -List.getD_eq_getElem?_getD]; try omega
        exact PSub.int (by rw [firstE_at (k := k) (by omega) (by rw [e]; decide) hinv, e])
      · rename_i h2
        have e : devE (firstC H.clusters) H.devices k = capE (firstC H.clusters) (H.devices.getD k default) := by simp [devE, hnum, h0, h1, hany, h2, -List.getD_eq_getElem?_getD]; try omega
        exact PSub.int (by rw [firstE_at (k := k) (by omega) (by rw [e]; exact h) hinv, e])
      · rename_i h2
        have e : devE (firstC H.clusters) H.devices k = 0 := by simp [devE, hnum, h0, h1, hany, h2, h, -List.getD_eq_getElem?_getD]; try omega
        refine ⟨k + 1, [], ⟨by omega, ?_⟩, by omega, ?_⟩
        · intro j hj
          by_cases ee : j = k
          · subst ee; exact e
          · exact hinv j (by omega)
        · (repeat' (first | exact PSub.rfl | exact rfl | exact PSubs.rfl | exact trivial | refine And.intro ?_ ?_))
          rintro _ ⟨s, rfl⟩
          exact euiLook_put H.devices k s
  · refine ⟨fun p => ?_, fun h => ?_⟩
    · intro hp
      rename_i h0 h1
      have hnum : numB (H.devices.getD k default) = true := by assumption
      rw [Int.toNat_natCast] at hp
      simp only [euiLook] at hp
      split at hp
      · rename_i hany
        cases hp
        conv => whnf
        have e : devE (firstC H.clusters) H.devices k = 9 := by simp [devE, hnum, h0, h1, hany, -List.getD_eq_getElem?_getD]; try omega
        exact PSub.int (by rw [firstE_at (k := k) (by omega) (by rw [e]; decide) hinv, e])
      · cases hp
    · rw [Int.toNat_natCast] at h
      conv => whnf
      have hany : anyN k (fun j => decide ((H.devices.getD j default).eui = (H.devices.getD k default).eui)) = false := by
        simp only [euiLook] at h
        split at h
        · cases h
        · rename_i hx; simpa using hx
      rename_i h0 h1
      have hnum : numB (H.devices.getD k default) = true := by assumption
      repeat (any_goals (first
        | (refine ⟨fun (h : (_ : Bool) = true) => ?_, fun (h : (_ : Bool) = false) => ?_⟩ <;> (try simp only [decide_eq_true_eq, decide_eq_false_iff_not, Bool.not_eq_true', Bool.not_eq_false', Int.toNat_natCast, beq_iff_eq, decide_eq_decide, beq_eq_false_iff_ne, ne_eq, reduceCtorEq] at h) <;> (conv => whnf))
        | (refine .inl ⟨_, ac_names_Valid (H.devices.getD k default).room, ?_⟩; conv => whnf)
        | (refine .inl ⟨_, AC.sub2 (ac_device_capabilities (H.devices.getD k default) (firstC H.clusters) (fun _ _ => firstC_small hH.1)) .rfl hm, ?_⟩; conv => whnf)
        | (refine And.intro (by (try simp only [Int.toNat_natCast]); omega) ?_; conv => whnf)
        | (refine And.intro (show (_ : Bool) = true from by kernel_rfl) ?_; conv => whnf)
        | (refine .inl ⟨wrap64 (by omega), ?_⟩; conv => whnf)))
      · have e : devE (firstC H.clusters) H.devices k = 10 := by simp [devE, hnum, h0, h1, hany, h, -List.getD_eq_getElem?_getD]; try omega
        exact PSub.int (by rw [firstE_at (k := k) (by omega) (by rw [e]; decide) hinv, e])
      · rename_i h2
        have e : devE (firstC H.clusters) H.devices k = capE (firstC H.clusters) (H.devices.getD k default) := by simp [devE, hnum, h0, h1, hany, h2, -List.getD_eq_getElem?_getD]; try omega
        exact PSub.int (by rw [firstE_at (k := k) (by omega) (by rw [e]; exact h) hinv, e])
      · rename_i h2
        have e : devE (firstC H.clusters) H.devices k = 0 := by simp [devE, hnum, h0, h1, hany, h2, h, -List.getD_eq_getElem?_getD]; try omega
        refine ⟨k + 1, [], ⟨by omega, ?_⟩, by omega, ?_⟩
        · intro j hj
          by_cases ee : j = k
          · subst ee; exact e
          · exact hinv j (by omega)
        · (repeat' (first | exact PSub.rfl | exact rfl | exact PSubs.rfl | exact trivial | refine And.intro ?_ ?_))
          rintro _ ⟨s, rfl⟩
          exact euiLook_put H.devices k s
  · exact PSub.int (by rw [firstE_none fun j hj => hinv j (by omega)])

end Go.Abs

namespace Go.Abs
open Go.Proofs
set_option maxRecDepth 10000

def cluAt (l : List Clu) (s : ByteArray) : Nat := firstI l.length fun i => decide ((l.getD i default).name = s)
theorem firstC_eq (l : List Clu) (s : ByteArray) : firstC l s = if cluAt l s < l.length then some (l.getD (cluAt l s) default) else none := by
  unfold firstC cluAt
  cases hf : l.find? fun c => decide (c.name = s) with
  | none =>
    rw [List.find?_eq_none] at hf
    rw [firstI_none fun i hi => ?_, if_neg (Nat.lt_irrefl _)]
    have := hf l[i] (List.getElem_mem hi)
    simpa [List.getD, hi] using this
  | some c =>
    obtain ⟨h1, xs, ys, h2, h3⟩ := List.find?_eq_some_iff_append.1 hf
    have hi : xs.length < l.length := by rw [h2]; simp
    have e : l.getD xs.length default = c := by simp [h2]
    have ef : firstI l.length (fun i => decide ((l.getD i default).name = s)) = xs.length := by
      refine firstI_at hi (by rw [e]; exact h1) fun j hj => ?_
      have := h3 xs[j] (List.getElem_mem hj)
      simpa [h2, List.getElem?_append_left hj, hj] using this
    rw [ef, if_pos hi, e]

def cluIx (l : List Clu) (s : ByteArray) : Int := if cluAt l s < l.length then (cluAt l s : Int) else -1

def devAt (l : List Dev) (id : Int) : Nat := firstI l.length fun i => decide ((l.getD i default).id = id)
def devIx (l : List Dev) (id : Int) : Int := if devAt l id < l.length then (devAt l id : Int) else -1

theorem firstC_ix {l : List Clu} {s : ByteArray} : (cluIx l s < 0 ∧ firstC l s = none) ∨ ∃ k : Nat, cluIx l s = k ∧ k < l.length ∧ firstC l s = some (l.getD k default) := by
  rw [firstC_eq]
  unfold cluIx
  split
  · rename_i h; exact .inr ⟨_, rfl, h, rfl⟩
  · exact .inl ⟨by omega, rfl⟩

end Go.Abs

namespace Go.Abs
open Go.Proofs
set_option maxRecDepth 10000

/-- device.Less -/
def keyLess (a b : Key) : Bool := if a.dev ≠ b.dev then decide (a.dev < b.dev) else if a.cluster ≠ b.cluster then Op.bytesLess a.cluster.toList b.cluster.toList else Op.bytesLess a.attr.toList b.attr.toList

theorem ac_device_Less (a b : Key) : AC Tryd.prog 20 [.pv (.agg (cKey a)), .pv (.agg (cKey b))] [] (.pv (vbool (keyLess a b))) [] := by
  refine AC.of_awp (T := T) T_ok hm Tryd.call20 Tryd.func20 rfl rfl rfl ?_
  conv => whnf
  repeat (any_goals (first
    | (refine ⟨fun (h : (_ : Bool) = true) => ?_, fun (h : (_ : Bool) = false) => ?_⟩ <;> (try simp only [decide_eq_true_eq, decide_eq_false_iff_not, Bool.not_eq_true', Bool.not_eq_false', Int.toNat_natCast, beq_iff_eq, decide_eq_decide, beq_eq_false_iff_ne, ne_eq, reduceCtorEq] at h) <;> (conv => whnf))
    | (refine And.intro (by (try simp only [Int.toNat_natCast]); omega) ?_; conv => whnf)
    | (refine And.intro (show (_ : Bool) = true from by kernel_rfl) ?_; conv => whnf)
    | (refine .inl ⟨wrap64 (by omega), ?_⟩; conv => whnf)))
  all_goals (try simp only [decide_eq_true_eq, decide_eq_false_iff_not, Bool.not_eq_true', Bool.not_eq_false', Int.toNat_natCast, beq_iff_eq, decide_eq_decide, beq_eq_false_iff_ne, ne_eq, reduceCtorEq] at *)
  all_goals first
    | contradiction
    | (exfalso; omega)
    | exact PSub.rfl
    | (refine PSub.int ?_; simp only [keyLess]; (repeat' split) <;> first | rfl | omega | (simp_all [-List.getD_eq_getElem?_getD]; done) | (simp_all [-List.getD_eq_getElem?_getD]; omega))
    | (refine PSub.sb ?_; simp_all [keyLess, -List.getD_eq_getElem?_getD]; done)
    | (refine PSub.lit_sb ?_; simp_all [keyLess, -List.getD_eq_getElem?_getD]; done)
    | (refine PSub.sb_lit ?_; simp_all [keyLess, -List.getD_eq_getElem?_getD]; done)
    | (refine PSub.sb ?_; rw [Bool.eq_iff_iff]; simp_all [keyLess, -List.getD_eq_getElem?_getD]; done)
    | (refine PSub.lit_sb ?_; rw [Bool.eq_iff_iff]; simp_all [keyLess, -List.getD_eq_getElem?_getD]; done)
    | (refine PSub.sb_lit ?_; rw [Bool.eq_iff_iff]; simp_all [keyLess, -List.getD_eq_getElem?_getD]; done)
    | skip
theorem ac_r22_Less (a b : Key) : AC Tryd.prog 38 [.pv (.agg (cKey a)), .pv (.agg (cKey b))] [] (.pv (vbool (keyLess a b))) [] := by
  refine AC.of_awp (T := T) T_ok hm Tryd.call38 Tryd.func38 rfl rfl rfl ?_
  conv => whnf
  repeat (any_goals (first
    | (refine ⟨fun (h : (_ : Bool) = true) => ?_, fun (h : (_ : Bool) = false) => ?_⟩ <;> (try simp only [decide_eq_true_eq, decide_eq_false_iff_not, Bool.not_eq_true', Bool.not_eq_false', Int.toNat_natCast, beq_iff_eq, decide_eq_decide, beq_eq_false_iff_ne, ne_eq, reduceCtorEq] at h) <;> (conv => whnf))
    | (refine And.intro (by (try simp only [Int.toNat_natCast]); omega) ?_; conv => whnf)
    | (refine And.intro (show (_ : Bool) = true from by kernel_rfl) ?_; conv => whnf)
    | (refine .inl ⟨wrap64 (by omega), ?_⟩; conv => whnf)))
  all_goals (try simp only [decide_eq_true_eq, decide_eq_false_iff_not, Bool.not_eq_true', Bool.not_eq_false', Int.toNat_natCast, beq_iff_eq, decide_eq_decide, beq_eq_false_iff_ne, ne_eq, reduceCtorEq] at *)
  all_goals first
    | contradiction
    | (exfalso; omega)
    | exact PSub.rfl
    | (refine PSub.int ?_; simp only [keyLess]; (repeat' split) <;> first | rfl | omega | (simp_all [-List.getD_eq_getElem?_getD]; done) | (simp_all [-List.getD_eq_getElem?_getD]; omega))
    | (refine PSub.sb ?_; simp_all [keyLess, -List.getD_eq_getElem?_getD]; done)
    | (refine PSub.lit_sb ?_; simp_all [keyLess, -List.getD_eq_getElem?_getD]; done)
    | (refine PSub.sb_lit ?_; simp_all [keyLess, -List.getD_eq_getElem?_getD]; done)
    | (refine PSub.sb ?_; rw [Bool.eq_iff_iff]; simp_all [keyLess, -List.getD_eq_getElem?_getD]; done)
    | (refine PSub.lit_sb ?_; rw [Bool.eq_iff_iff]; simp_all [keyLess, -List.getD_eq_getElem?_getD]; done)
    | (refine PSub.sb_lit ?_; rw [Bool.eq_iff_iff]; simp_all [keyLess, -List.getD_eq_getElem?_getD]; done)
    | skip

def noDev : Dev := ⟨0, 0, 0, false, 0, ⟨#[]⟩, []⟩
def findB (H : Hom) (id : Int) : Bool := decide (homE H = 0) && decide (devAt H.devices id < H.devices.length)
def findD (H : Hom) (id : Int) : Dev := if findB H id = true then H.devices.getD (devAt H.devices id) default else noDev

theorem noDev_cells : PSub (.agg [vint 0, .val (.int .u64 0), vint 0, .val (.bool false), vint 0, vstr ⟨#[]⟩, .val (.slice none 0 0)]) (.agg (cDev noDev)) := PSub.agg ⟨.rfl, .rfl, .rfl, PSub.lit_sb rfl, .rfl, .rfl, PSub.nil_ro _ _, trivial⟩

theorem ac_device_find (H : Hom) (id : Int) (hH : smallH H) : AC Tryd.prog 34 [.pv (.agg (cHom H)), .pv (vint id)] [] (.pv (.tup [.agg (cDev (findD H id)), vbool (findB H id)])) [] := by
  have hl : H.devices.length ≤ 1048576 := hH.2.1
  refine AC.of_awp (T := T) T_ok hm Tryd.call34 Tryd.func34 rfl rfl rfl ?_
  conv => whnf
  refine .inl ⟨_, ac_device_Check H hH, ?_⟩
  conv => whnf
  refine ⟨fun h => ?_, fun h => ?_⟩ <;> (try simp only [decide_eq_true_eq, decide_eq_false_iff_not, Bool.not_eq_true', Bool.not_eq_false', Int.toNat_natCast, beq_iff_eq, decide_eq_decide, beq_eq_false_iff_ne, ne_eq, reduceCtorEq] at h) <;> (conv => whnf)
  · have e : findB H id = false := by simp [findB, h]
    rw [findD, e]
    refine ⟨?_, ?_⟩ <;> (conv => whnf)
    · exact noDev_cells
    · exact PSub.lit_sb rfl
  have h0 := h
  refine loop_k (ι := Nat) [1, 4, 13, 14] [4] (fun k => k ≤ H.devices.length ∧ (∀ j, j < k → decide ((H.devices.getD j default).id = id) = false)) (fun k => H.devices.length - k) 0 (fun k => [(15, .pv (vint k))]) (fun _ => []) [] ⟨Nat.zero_le _, fun j h => absurd h (by omega)⟩ ?_ (fun k hk => ?_)
  · (repeat' (first | exact PSub.rfl | exact rfl | exact PSubs.rfl | exact trivial | refine And.intro ?_ ?_))
  obtain ⟨hkn, hinv⟩ := hk
  conv => whnf
  repeat (any_goals (first
    | (refine ⟨fun (h : (_ : Bool) = true) => ?_, fun (h : (_ : Bool) = false) => ?_⟩ <;> (try simp only [decide_eq_true_eq, decide_eq_false_iff_not, Bool.not_eq_true', Bool.not_eq_false', Int.toNat_natCast, beq_iff_eq, decide_eq_decide, beq_eq_false_iff_ne, ne_eq, reduceCtorEq] at h) <;> (conv => whnf))
    | (refine And.intro (by (try simp only [Int.toNat_natCast]); omega) ?_; conv => whnf)
    | (refine And.intro (show (_ : Bool) = true from by kernel_rfl) ?_; conv => whnf)
    | (refine .inl ⟨wrap64 (by omega), ?_⟩; conv => whnf)))
  · have e : devAt H.devices id = k := firstI_at (by omega) (by simpa [-List.getD_eq_getElem?_getD] using h) hinv
    have e2 : findB H id = true := by simp [findB, h0, e]; omega
    rw [findD, e2, e, if_pos rfl]
    refine ⟨?_, ?_⟩ <;> (conv => whnf)
    · exact .rfl
    · exact PSub.lit_sb rfl
  · refine ⟨k + 1, [], ⟨by omega, ?_⟩, by first | omega | (dsimp only; omega), ?_⟩
    rotate_left
    · (repeat' (first | exact PSub.rfl | exact rfl | exact PSubs.rfl | exact trivial | refine And.intro ?_ ?_))
    intro j hj
    by_cases e : j = k
    · subst e; first | exact h | simpa [-List.getD_eq_getElem?_getD] using h | simp_all [-List.getD_eq_getElem?_getD]
    · exact hinv j (by omega)
  · have e : devAt H.devices id = H.devices.length := firstI_none fun j hj => hinv j (by omega)
    have e2 : findB H id = false := by simp [findB, e]
    rw [findD, e2]
    refine ⟨?_, ?_⟩ <;> (conv => whnf)
    · exact noDev_cells
    · exact PSub.lit_sb rfl

theorem ac_device_Room (H : Hom) (id : Int) (hH : smallH H) : AC Tryd.prog 16 [.pv (.agg (cHom H)), .pv (vint id)] [] (.pv (vstr (findD H id).room)) [] := by
  refine AC.of_awp (T := T) T_ok hm Tryd.call16 Tryd.func16 rfl rfl rfl ?_
  conv => whnf
  refine .inl ⟨_, ac_device_find H id hH, ?_⟩
  conv => whnf
  exact .rfl

end Go.Abs

namespace Go.Abs
open Go.Proofs
set_option maxRecDepth 10000

def attrsOf (o : Option Clu) : List Attr := match o with | some c => c.attrs | none => []
def keysOf1 (f : ByteArray → Option Clu) (id : Int) (s : ByteArray) : List Key := (attrsOf (f s)).map fun a => ⟨id, s, a.name⟩
/-- device.Keys -/
def keysL (H : Hom) (id : Int) : List Key := (findD H id).clusters.flatMap (keysOf1 (firstC H.clusters) id)

theorem allE_distinct {l : List Clu} (ha : allE l = 0) : ∀ i, i < l.length → cluE l i = 0 := firstE_zero (by
    unfold allE at ha
    split at ha
    · cases ha
    · exact ha)
theorem homE_all {H : Hom} (h : homE H = 0) : allE H.clusters = 0 := by
  unfold homE at h
  split at h
  · contradiction
  · omega

theorem capE_clusters {f : ByteArray → Option Clu} {d : Dev} (h : capE f d = 0) : 1 ≤ d.clusters.length ∧ d.clusters.length ≤ 4 := by
  unfold capE at h
  split at h
  · cases h
  · omega

theorem homE_dev {H : Hom} (h : homE H = 0) {i : Nat} (hi : i < H.devices.length) : devE (firstC H.clusters) H.devices i = 0 := by
  unfold homE at h
  split at h
  · contradiction
  · split at h
    · cases h
    · exact firstE_zero h i hi

theorem devE_cap {f : ByteArray → Option Clu} {l : List Dev} {i : Nat} (h : devE f l i = 0) : capE f (l.getD i default) = 0 := by
  unfold devE at h
  split at h
  · cases h
  · split at h
    · cases h
    · split at h
      · cases h
      · split at h
        · cases h
        · exact h

theorem findD_cap {H : Hom} {id : Int} (h : findB H id = true) : capE (firstC H.clusters) (findD H id) = 0 := by
  rw [findD, if_pos h]
  simp only [findB, Bool.and_eq_true, decide_eq_true_eq] at h
  exact devE_cap (homE_dev h.1 h.2)

theorem findD_none {H : Hom} {id : Int} (h : findB H id = false) : findD H id = noDev := by rw [findD, h]; rfl

theorem findD_length {H : Hom} {id : Int} : (findD H id).clusters.length ≤ 4 := by
  cases h : findB H id with
  | true => exact (capE_clusters (findD_cap h)).2
  | false => rw [findD_none h]; decide

theorem lookRes_clu {f : ByteArray → Option Clu} (s : ByteArray) : (∃ c, f s = some c ∧ cluLook f (.string s) = some (.agg (cClu c))) ∨ (f s = none ∧ cluLook f (.string s) = none) := by
  simp only [cluLook]
  cases f s with
  | none => exact .inr ⟨rfl, rfl⟩
  | some c => exact .inl ⟨c, rfl, rfl⟩

/-- the keys of the first k clusters -/
def keysTo (f : ByteArray → Option Clu) (id : Int) (l : List ByteArray) (k : Nat) : List Key := (l.take k).flatMap (keysOf1 f id)
theorem keysTo_succ {f : ByteArray → Option Clu} {id : Int} {l : List ByteArray} {k : Nat} (h : k < l.length) : keysTo f id l (k + 1) = keysTo f id l k ++ keysOf1 f id (l.getD k default) := by
  simp only [keysTo, take_succ_getD h, List.flatMap_append, List.flatMap_cons, List.flatMap_nil, List.append_nil]

theorem keysTo_len {f : ByteArray → Option Clu} (hf : ∀ s c, f s = some c → smallK c) {id : Int} {l : List ByteArray} {k : Nat} (h : k ≤ l.length) : (keysTo f id l k).length ≤ k * 1048576 := by
  induction k with
  | zero => simp [keysTo]
  | succ k ih =>
    rw [keysTo_succ h, List.length_append]
    have := ih (by omega)
    have : (keysOf1 f id (l.getD k default)).length ≤ 1048576 := by
      simp only [keysOf1, attrsOf, List.length_map]
      split
      · rename_i c e; exact (hf _ _ e).1
      · exact Nat.zero_le _
    omega

theorem ac_device_Keys (H : Hom) (id : Int) (hH : smallH H) : AC Tryd.prog 26 [.pv (.agg (cHom H)), .pv (vint id)] [] (.pv (roL 3 cKey (keysL H id))) [] := by
  have hl : H.clusters.length ≤ 1048576 := hH.1.1
  have hd4 := @findD_length H id
  -- the map: of the first clusters if the home is valid, of some small ones else
  obtain ⟨f, hf, hmap, hk⟩ : ∃ f : ByteArray → Option Clu, (∀ s c, f s = some c → smallK c) ∧ PSub (.map (.one .str) (cluLook (lastC H.clusters H.clusters.length))) (.map (.one .str) (cluLook f)) ∧ keysL H id = keysTo f id (findD H id).clusters (findD H id).clusters.length := by
    cases h : findB H id with
    | true =>
      refine ⟨firstC H.clusters, fun _ _ => firstC_small hH.1, PSub.map ?_, by rw [keysL, keysTo, List.take_length]⟩
      rintro _ ⟨s, rfl⟩
      simp only [findB, Bool.and_eq_true, decide_eq_true_eq] at h
      simp only [cluLook, lastC_first (allE_distinct (homE_all h.1))]
    | false =>
      refine ⟨lastC H.clusters H.clusters.length, ?_, .rfl, by rw [keysL, findD_none h]; rfl⟩
      intro s c
      have : ∀ k, lastC H.clusters k s = some c → smallK c := by
        intro k
        induction k with
        | zero => intro e; cases e
        | succ k ih =>
          intro e
          rw [lastC] at e
          split at e
          · cases e; exact hH.1.2 k
          · exact ih e
      exact this _
  rw [hk]
  clear hk
  refine AC.of_awp (T := T) T_ok hm Tryd.call26 Tryd.func26 rfl rfl rfl ?_
  conv => whnf
  refine .inl ⟨_, ac_device_find H id hH, ?_⟩
  conv => whnf
  refine .inl ⟨_, (ac_device_clusters H hl).weak hmap, ?_⟩
  conv => whnf
  generalize findD H id = d at *
  refine loop_k (ι := Nat) [1, 7, 22, 23] [] (fun k => k ≤ d.clusters.length ∧ True) (fun k => d.clusters.length - k) 0 (fun k => [(8, .own 500), (24, .pv (vint k))]) (fun k => [(500, rowL 3 cKey (keysTo f id d.clusters k))]) [] ⟨Nat.zero_le _, trivial⟩ ?_ (fun k hk => ?_)
  · (repeat' (first | exact PSub.rfl | exact rfl | exact PSubs.rfl | exact trivial | refine And.intro ?_ ?_))
  obtain ⟨hkn, hinv⟩ := hk
  conv => whnf
  refine ⟨fun h => ?_, fun h => ?_⟩ <;> (try simp only [decide_eq_true_eq, decide_eq_false_iff_not, Bool.not_eq_true', Bool.not_eq_false', Int.toNat_natCast, beq_iff_eq, decide_eq_decide, beq_eq_false_iff_ne, ne_eq, reduceCtorEq] at h) <;> (conv => whnf)
  · repeat (any_goals (first
      | (refine ⟨fun (h : (_ : Bool) = true) => ?_, fun (h : (_ : Bool) = false) => ?_⟩ <;> (try simp only [decide_eq_true_eq, decide_eq_false_iff_not, Bool.not_eq_true', Bool.not_eq_false', Int.toNat_natCast, beq_iff_eq, decide_eq_decide, beq_eq_false_iff_ne, ne_eq, reduceCtorEq] at h) <;> (conv => whnf))
      | (refine And.intro (by (try simp only [Int.toNat_natCast]); omega) ?_; conv => whnf)
      | (refine And.intro (show (_ : Bool) = true from by kernel_rfl) ?_; conv => whnf)
      | (refine .inl ⟨wrap64 (by omega), ?_⟩; conv => whnf)))
    have hkl := keysTo_len hf (id := id) (l := d.clusters) (k := k) (by omega)
    have hn := keysTo_succ (f := f) (id := id) (l := d.clusters) (k := k) (by omega)
    simp only [Int.toNat_natCast]
    rcases lookRes_clu (f := f) (d.clusters.getD k default) with ⟨c, h1, h2⟩ | ⟨h1, h2⟩
    · rw [h2]
      have hcl : c.attrs.length ≤ 1048576 := (hf _ _ h1).1
      have hk1 : keysOf1 f id (d.clusters.getD k default) = c.attrs.map fun a => ⟨id, d.clusters.getD k default, a.name⟩ := by rw [keysOf1, h1]; rfl
      refine ⟨fun p hp => ?_, fun hp => by cases hp⟩
      cases hp
      conv => whnf
      refine loop_k (ι := Nat) [1, 7, 10, 22, 23, 24, 31, 32] [] (fun j => j ≤ c.attrs.length ∧ True) (fun j => c.attrs.length - j) 0 (fun j => [(8, .own 500), (33, .pv (vint j))]) (fun j => [(500, rowL 3 cKey (keysTo f id d.clusters k ++ (c.attrs.take j).map fun a => ⟨id, d.clusters.getD k default, a.name⟩))]) [] ⟨Nat.zero_le _, trivial⟩ ?_ (fun j hk => ?_)
      · (repeat' (first | exact PSub.rfl | exact rfl | exact PSubs.rfl | exact trivial | refine And.intro ?_ ?_)); all_goals (first | (simp; done) | (intro i hi; simp [-List.getD_eq_getElem?_getD]; exact PSubs.rfl))
      obtain ⟨hkn, hinv⟩ := hk
      conv => whnf
      have hj : (keysTo f id d.clusters k ++ (c.attrs.take j).map fun a => (⟨id, d.clusters.getD k default, a.name⟩ : Key)).length ≤ 8388608 := by
        simp only [List.length_append, List.length_map, List.length_take]; omega
      repeat (any_goals (first
        | (refine ⟨fun (h : (_ : Bool) = true) => ?_, fun (h : (_ : Bool) = false) => ?_⟩ <;> (try simp only [decide_eq_true_eq, decide_eq_false_iff_not, Bool.not_eq_true', Bool.not_eq_false', Int.toNat_natCast, beq_iff_eq, decide_eq_decide, beq_eq_false_iff_ne, ne_eq, reduceCtorEq] at h) <;> (conv => whnf))
        | (refine And.intro (by (try simp only [Int.toNat_natCast]); omega) ?_; conv => whnf)
        | (refine And.intro (show (_ : Bool) = true from by kernel_rfl) ?_; conv => whnf)
        | (refine .inl ⟨wrap64 (by omega), ?_⟩; conv => whnf)))
      · have e : (c.attrs.take (j + 1)).map (fun a => (⟨id, d.clusters.getD k default, a.name⟩ : Key)) = (c.attrs.take j).map (fun a => (⟨id, d.clusters.getD k default, a.name⟩ : Key)) ++ [⟨id, d.clusters.getD k default, (c.attrs.getD j default).name⟩] := by
          rw [take_succ_getD (by omega)]; simp only [List.map_append, List.map_cons, List.map_nil]
        refine ⟨j + 1, [(500, 44)], ⟨by omega, trivial⟩, by omega, ?_⟩
        rw [e, ← List.append_assoc]
        (repeat' (first | exact PSub.rfl | exact rfl | exact PSubs.rfl | exact trivial | refine And.intro ?_ ?_))
        · simp; omega
        · refine rows_snocF (fun i hi => by simp only [if_pos hi]; exact PSubs.rfl) (by simp only [if_neg (Nat.lt_irrefl _), Nat.sub_self]; exact PSubs.rfl)
      · refine ⟨k + 1, [], ⟨by omega, trivial⟩, by omega, ?_⟩
        rw [hn, hk1]
        (repeat' (first | exact PSub.rfl | exact rfl | exact PSubs.rfl | exact trivial | refine And.intro ?_ ?_))
        · rw [List.take_of_length_le (by omega)]
        · rw [List.take_of_length_le (by omega)]; intro i hi; exact PSubs.rfl
    · rw [h2]
      refine ⟨fun p hp => (by cases hp), fun hp => ?_⟩
      have hk1 : keysOf1 f id (d.clusters.getD k default) = [] := by rw [keysOf1, h1]; rfl
      conv => whnf
      refine loop_k (ι := Nat) [1, 7, 10, 22, 23, 24, 31, 32] [] (fun j => j ≤ 0 ∧ True) (fun j => 0 - j) 0 (fun j => [(8, .own 500), (33, .pv (vint j))]) (fun j => [(500, rowL 3 cKey (keysTo f id d.clusters k))]) [] ⟨Nat.zero_le _, trivial⟩ ?_ (fun j hk => ?_)
      · (repeat' (first | exact PSub.rfl | exact rfl | exact PSubs.rfl | exact trivial | refine And.intro ?_ ?_)); all_goals (first | (simp; done) | (intro i hi; simp [-List.getD_eq_getElem?_getD]; exact PSubs.rfl))
      obtain ⟨hkn, hinv⟩ := hk
      conv => whnf
      repeat (any_goals (first
        | (refine ⟨fun (h : (_ : Bool) = true) => ?_, fun (h : (_ : Bool) = false) => ?_⟩ <;> (try simp only [decide_eq_true_eq, decide_eq_false_iff_not, Bool.not_eq_true', Bool.not_eq_false', Int.toNat_natCast, beq_iff_eq, decide_eq_decide, beq_eq_false_iff_ne, ne_eq, reduceCtorEq] at h) <;> (conv => whnf))
        | (refine And.intro (by (try simp only [Int.toNat_natCast]); omega) ?_; conv => whnf)
        | (refine And.intro (show (_ : Bool) = true from by kernel_rfl) ?_; conv => whnf)
        | (refine .inl ⟨wrap64 (by omega), ?_⟩; conv => whnf)))
      · exfalso; omega
      refine ⟨k + 1, [], ⟨by omega, trivial⟩, by omega, ?_⟩
      rw [hn, hk1, List.append_nil]
      (repeat' (first | exact PSub.rfl | exact rfl | exact PSubs.rfl | exact trivial | refine And.intro ?_ ?_))
      intro i hi; exact PSubs.rfl
  · have e : k = d.clusters.length := by omega
    subst e
    repeat (any_goals (first
      | (refine ⟨fun (h : (_ : Bool) = true) => ?_, fun (h : (_ : Bool) = false) => ?_⟩ <;> (try simp only [decide_eq_true_eq, decide_eq_false_iff_not, Bool.not_eq_true', Bool.not_eq_false', Int.toNat_natCast, beq_iff_eq, decide_eq_decide, beq_eq_false_iff_ne, ne_eq, reduceCtorEq] at h) <;> (conv => whnf))
      | (refine And.intro (by (try simp only [Int.toNat_natCast]); omega) ?_; conv => whnf)
      | (refine And.intro (show (_ : Bool) = true from by kernel_rfl) ?_; conv => whnf)
      | (refine .inl ⟨wrap64 (by omega), ?_⟩; conv => whnf)))
    exact .rfl

end Go.Abs

namespace Go.Abs
open Go.Proofs
set_option maxRecDepth 10000

theorem forI_steps {ρ σ : Type} {f : Nat → σ → ρ ⊕ σ} : ∀ (n k : Nat) (s s' : σ), forI f n k s = .inr s' → ∀ i, k ≤ i → i < k + n → ∃ t t', f i t = .inr t'
  | 0, k, s, s', _, i, h1, h2 => by omega
  | n + 1, k, s, s', e, i, h1, h2 => by
    simp only [forI] at e
    cases hf : f k s with
    | inl r => rw [hf] at e; cases e
    | inr t =>
      rw [hf] at e
      by_cases hi : i = k
      · subst hi; exact ⟨s, t, hf⟩
      · exact forI_steps n (k + 1) t s' e i (by omega) (by omega)

theorem capE_some {f : ByteArray → Option Clu} {d : Dev} (h : capE f d = 0) {i : Nat} (hi : i < d.clusters.length) : ∃ c, f (d.clusters.getD i default) = some c := by
  unfold capE at h
  split at h
  · cases h
  · split at h
    · rename_i e he
      subst h
      exfalso
      have key : ∀ n k s, forI (capStep f d) n k s ≠ .inl 0 := by
        intro n
        induction n with
        | zero => intro k s e; cases e
        | succ n ih =>
          intro k s e
          simp only [forI] at e
          cases hf : capStep f d k s with
          | inr t => rw [hf] at e; exact ih _ _ e
          | inl r =>
            rw [hf] at e; cases e
            unfold capStep at hf
            split at hf
            · cases hf
            · split at hf <;> cases hf
      exact key _ _ _ he
    · rename_i m he
      obtain ⟨t, t', e⟩ := forI_steps _ _ _ _ he i (Nat.zero_le _) (by omega)
      unfold capStep at e
      split at e
      · cases e
      · rename_i c hc; exact ⟨c, hc⟩

theorem idxOf_mem {l : List ByteArray} {s : ByteArray} (h : 0 ≤ idxOf l s) : ∃ i, i < l.length ∧ l.getD i default = s := by
  unfold idxOf at h
  split at h
  · rename_i i e
    rw [List.findIdx?_eq_some_iff_getElem] at e
    obtain ⟨hi, he, _⟩ := e
    exact ⟨i, hi, by simpa [List.getD, hi] using he⟩
  · omega

theorem devIx_find {H : Hom} {id : Int} (hv : homE H = 0) : (devIx H.devices id < 0 ∧ findB H id = false) ∨ (devIx H.devices id = (devAt H.devices id : Int) ∧ devAt H.devices id < H.devices.length ∧ findB H id = true ∧ findD H id = H.devices.getD (devAt H.devices id) default) := by
  have : findB H id = decide (devAt H.devices id < H.devices.length) := by simp [findB, hv]
  unfold devIx
  split
  · rename_i h
    have e : findB H id = true := by simp [this, h]
    exact .inr ⟨rfl, h, e, by rw [findD, if_pos e]⟩
  · rename_i h; exact .inl ⟨by omega, by simp [this, h]⟩

theorem firstC_name {l : List Clu} {s : ByteArray} {c : Clu} (h : firstC l s = some c) : c.name = s := by
  have := List.find?_some h
  simpa using this

end Go.Abs

namespace Go.Abs
open Go.Proofs
set_option maxRecDepth 10000

def noClu : Clu := ⟨⟨#[]⟩, [], [], []⟩
/-- the cluster of a device of a valid home -/
def partO (H : Hom) (id : Int) (s : ByteArray) : Option Clu := if findB H id = true ∧ 0 ≤ idxOf (findD H id).clusters s then firstC H.clusters s else none
def attrO (o : Option Clu) (s : ByteArray) : Option Attr := match o with
  | some c => if attrAt c.attrs s < c.attrs.length then some (c.attrs.getD (attrAt c.attrs s) default) else none
  | none => none
/-- device.Find -/
def findA (H : Hom) (k : Key) : Option Attr := attrO (partO H k.dev k.cluster) k.attr

theorem attrOf_some {c : Clu} {s : ByteArray} : attrOf c.attrs s = (attrO (some c) s).getD noAttr ∧ decide (attrAt c.attrs s < c.attrs.length) = (attrO (some c) s).isSome := by
  unfold attrOf attrO
  simp only
  split <;> simp [*]

theorem noAttr_cells2 : PSub (.agg zAttr) (.agg (cAttr noAttr)) := PSub.agg noAttr_cells
theorem noClu_cells : PSub (.agg [vstr ⟨#[]⟩, .val (.slice none 0 0), .val (.slice none 0 0), .val (.slice none 0 0)]) (.agg (cClu noClu)) := PSub.agg ⟨.rfl, PSub.nil_ro _ _, PSub.nil_ro _ _, PSub.nil_ro _ _, trivial⟩
theorem smallK_noClu : smallK noClu := ⟨Nat.zero_le _, fun _ => Nat.zero_le _, Nat.zero_le _, fun _ => ⟨Nat.zero_le _, Nat.zero_le _⟩, Nat.zero_le _⟩

theorem ac_device_Find (H : Hom) (k : Key) (hH : smallH H) : AC Tryd.prog 27 [.pv (.agg (cHom H)), .pv (.agg (cKey k))] [] (.pv (.tup [.agg (cAttr ((findA H k).getD noAttr)), vbool (findA H k).isSome])) [] := by
  have hl : H.clusters.length ≤ 1048576 := hH.1.1
  have hd4 := @findD_length H k.dev
  refine AC.of_awp (T := T) T_ok hm Tryd.call27 Tryd.func27 rfl rfl rfl ?_
  conv => whnf
  refine .inl ⟨_, ac_device_find H k.dev hH, ?_⟩
  conv => whnf
  repeat (any_goals (first
    | (refine ⟨fun (h : (_ : Bool) = true) => ?_, fun (h : (_ : Bool) = false) => ?_⟩ <;> (try simp only [decide_eq_true_eq, decide_eq_false_iff_not, Bool.not_eq_true', Bool.not_eq_false', Int.toNat_natCast, beq_iff_eq, decide_eq_decide, beq_eq_false_iff_ne, ne_eq, reduceCtorEq] at h) <;> (conv => whnf))
    | (refine .inl ⟨_, ac_names_Index (findD H k.dev).clusters k.cluster (by omega), ?_⟩; conv => whnf)
    | (refine .inl ⟨_, ac_device_clusters H hl, ?_⟩; conv => whnf)
    | (refine And.intro (by (try simp only [Int.toNat_natCast]); omega) ?_; conv => whnf)
    | (refine And.intro (show (_ : Bool) = true from by kernel_rfl) ?_; conv => whnf)
    | (refine .inl ⟨wrap64 (by omega), ?_⟩; conv => whnf)))
  · have e : findA H k = none := by simp [findA, partO, h, attrO]
    rw [e]
    refine ⟨?_, ?_⟩ <;> (conv => whnf)
    · exact noAttr_cells2
    · exact PSub.lit_sb rfl
  · have e : findA H k = none := by rw [findA, partO, if_neg (by omega)]; rfl
    rw [e]
    refine ⟨?_, ?_⟩ <;> (conv => whnf)
    · exact noAttr_cells2
    · exact PSub.lit_sb rfl
  · rename_i hb
    have hpart : partO H k.dev k.cluster = firstC H.clusters k.cluster := by rw [partO, if_pos ⟨hb, by omega⟩]
    have hv : homE H = 0 := by simp only [findB, Bool.and_eq_true, decide_eq_true_eq] at hb; exact hb.1
    have hla := lastC_first (allE_distinct (homE_all hv)) k.cluster
    rw [show cluLook (lastC H.clusters H.clusters.length) (.string k.cluster) = cluLook (firstC H.clusters) (.string k.cluster) from by simp only [cluLook, hla]]
    rcases lookRes_clu (f := firstC H.clusters) k.cluster with ⟨c, h1, h2⟩ | ⟨h1, h2⟩
    · rw [h2]
      refine ⟨fun p hp => ?_, fun hp => by cases hp⟩
      cases hp
      conv => whnf
      repeat (any_goals (first
        | (refine ⟨fun (h : (_ : Bool) = true) => ?_, fun (h : (_ : Bool) = false) => ?_⟩ <;> (try simp only [decide_eq_true_eq, decide_eq_false_iff_not, Bool.not_eq_true', Bool.not_eq_false', Int.toNat_natCast, beq_iff_eq, decide_eq_decide, beq_eq_false_iff_ne, ne_eq, reduceCtorEq] at h) <;> (conv => whnf))
        | (refine .inl ⟨_, ac_cluster_Attr c k.attr (firstC_small hH.1 h1), ?_⟩; conv => whnf)
        | (refine And.intro (by (try simp only [Int.toNat_natCast]); omega) ?_; conv => whnf)
        | (refine And.intro (show (_ : Bool) = true from by kernel_rfl) ?_; conv => whnf)
        | (refine .inl ⟨wrap64 (by omega), ?_⟩; conv => whnf)))
      · have e : findA H k = none := by rw [findA, hpart, h1, attrO]; rw [if_neg h]
        rw [e]
        refine ⟨?_, ?_⟩ <;> (conv => whnf)
        · exact noAttr_cells2
        · exact PSub.lit_sb rfl
      · have e : findA H k = some (attrOf c.attrs k.attr) := by rw [findA, hpart, h1, attrO, attrOf]; rw [if_pos h, if_pos h]
        rw [e]
        refine ⟨?_, ?_⟩ <;> (conv => whnf)
        · exact .rfl
        · exact PSub.lit_sb rfl
    · rw [h2]
      refine ⟨fun p hp => (by cases hp), fun hp => ?_⟩
      conv => whnf
      repeat (any_goals (first
        | (refine ⟨fun (h : (_ : Bool) = true) => ?_, fun (h : (_ : Bool) = false) => ?_⟩ <;> (try simp only [decide_eq_true_eq, decide_eq_false_iff_not, Bool.not_eq_true', Bool.not_eq_false', Int.toNat_natCast, beq_iff_eq, decide_eq_decide, beq_eq_false_iff_ne, ne_eq, reduceCtorEq] at h) <;> (conv => whnf))
        | (refine .inl ⟨_, AC.sub2 (ac_cluster_Attr noClu k.attr smallK_noClu) noClu_cells .rfl, ?_⟩; conv => whnf)
        | (refine And.intro (by (try simp only [Int.toNat_natCast]); omega) ?_; conv => whnf)
        | (refine And.intro (show (_ : Bool) = true from by kernel_rfl) ?_; conv => whnf)
        | (refine .inl ⟨wrap64 (by omega), ?_⟩; conv => whnf)))
      · have e : findA H k = none := by rw [findA, hpart, h1, attrO]
        rw [e]
        refine ⟨?_, ?_⟩ <;> (conv => whnf)
        · exact noAttr_cells2
        · exact PSub.lit_sb rfl
      · exact absurd h (by simp [noClu])

theorem small_part {H : Hom} {id : Int} {s : ByteArray} (hH : smallH H) : smallK ((partO H id s).getD noClu) := by
  unfold partO
  split
  · cases h : firstC H.clusters s with
    | none => exact smallK_noClu
    | some c => exact firstC_small hH.1 h
  · exact smallK_noClu

/-- device.Safe -/
def safeB (H : Hom) (k : Key) : Bool := ((findA H k).getD noAttr).safety
end Go.Abs

namespace Go.Abs
open Go.Proofs
set_option maxRecDepth 10000

def ixI (n k : Nat) : Int := if k < n then (k : Int) else -1

/-- slices.IndexFunc -/
theorem ac_slices_IndexFunc_Item (l : List Item) (gb : List PV → Bool) (gi : List PV → Int) (hl : smallL l) : AC Tryd.prog 41 [.pv (roL 7 cItem l), .clo (fun xs => ∃ x : Item, xs = [.agg (cItem x)]) true gb gi] [] (.pv (vint (ixI l.length (firstI l.length fun i => gb [.agg (cItem (l.getD i default))])))) [] := by
  have hl : l.length ≤ 1048576 := hl
  refine AC.of_awp (T := T) T_ok hm Tryd.call41 Tryd.func41 rfl rfl rfl ?_
  conv => whnf
  refine loop_k (ι := Nat) [0, 1, 7] [] (fun k => k ≤ l.length ∧ (∀ j, j < k → gb [.agg (cItem (l.getD j default))] = false)) (fun k => l.length - k) 0 (fun k => [(8, .pv (vint k))]) (fun _ => []) [] ⟨Nat.zero_le _, fun j h => absurd h (by omega)⟩ ?_ (fun k hk => ?_)
  · (repeat' (first | exact PSub.rfl | exact rfl | exact PSubs.rfl | exact trivial | refine And.intro ?_ ?_))
  obtain ⟨hkn, hinv⟩ := hk
  conv => whnf
  repeat (any_goals (first
    | (refine ⟨fun (h : (_ : Bool) = true) => ?_, fun (h : (_ : Bool) = false) => ?_⟩ <;> (try simp only [decide_eq_true_eq, decide_eq_false_iff_not, Bool.not_eq_true', Bool.not_eq_false', Int.toNat_natCast, beq_iff_eq, decide_eq_decide, beq_eq_false_iff_ne, ne_eq, reduceCtorEq] at h) <;> (conv => whnf))
    | (refine And.intro (by (try simp only [Int.toNat_natCast]); omega) ?_; conv => whnf)
    | (refine And.intro (show (_ : Bool) = true from by kernel_rfl) ?_; conv => whnf)
    | (refine .inl ⟨wrap64 (by omega), ?_⟩; conv => whnf)))
  refine And.intro ⟨l.getD k default, rfl⟩ ?_
  conv => whnf
  repeat (any_goals (first
    | (refine ⟨fun (h : (_ : Bool) = true) => ?_, fun (h : (_ : Bool) = false) => ?_⟩ <;> (try simp only [decide_eq_true_eq, decide_eq_false_iff_not, Bool.not_eq_true', Bool.not_eq_false', Int.toNat_natCast, beq_iff_eq, decide_eq_decide, beq_eq_false_iff_ne, ne_eq, reduceCtorEq] at h) <;> (conv => whnf))
    | (refine And.intro (by (try simp only [Int.toNat_natCast]); omega) ?_; conv => whnf)
    | (refine And.intro (show (_ : Bool) = true from by kernel_rfl) ?_; conv => whnf)
    | (refine .inl ⟨wrap64 (by omega), ?_⟩; conv => whnf)))
  · have e : firstI l.length (fun i => gb [.agg (cItem (l.getD i default))]) = k := firstI_at (by omega) h hinv
    exact PSub.int (by rw [e, ixI, if_pos (by omega)])
  · refine ⟨k + 1, [], ⟨by omega, ?_⟩, by first | omega | (dsimp only; omega), ?_⟩
    rotate_left
    · (repeat' (first | exact PSub.rfl | exact rfl | exact PSubs.rfl | exact trivial | refine And.intro ?_ ?_))
    intro j hj
    by_cases e : j = k
    · subst e; first | exact h | simpa [-List.getD_eq_getElem?_getD] using h | simp_all [-List.getD_eq_getElem?_getD]
    · exact hinv j (by omega)
  · have e : firstI l.length (fun i => gb [.agg (cItem (l.getD i default))]) = l.length := firstI_none fun j hj => hinv j (by omega)
    exact PSub.int (by rw [e, ixI, if_neg (by omega)])

def keyB (k : Key) : List PV → Bool
  | [.agg (.val (.int .i64 d) :: .val (.string c) :: .val (.string a) :: _)] => decide ((⟨d, c, a⟩ : Key) = k)
  | _ => false

theorem keyB_item (k : Key) (x : Item) : keyB k [.agg (cItem x)] = decide (x.key = k) := rfl

theorem ac_device_index_1 (x : Item) (k : Key) : AC Tryd.prog 42 [.pv (.agg (cItem x)), .pv (.cell (cKey k))] [] (.pv (vbool (decide (x.key = k)))) [] := by
  refine AC.of_awp (T := T) T_ok hm Tryd.call42 Tryd.func42 rfl rfl rfl ?_
  conv => whnf
  repeat (any_goals (first
    | (refine ⟨fun (h : (_ : Bool) = true) => ?_, fun (h : (_ : Bool) = false) => ?_⟩ <;> (try simp only [decide_eq_true_eq, decide_eq_false_iff_not, Bool.not_eq_true', Bool.not_eq_false', Int.toNat_natCast, beq_iff_eq, decide_eq_decide, beq_eq_false_iff_ne, ne_eq, reduceCtorEq] at h) <;> (conv => whnf))
    | (refine And.intro (by (try simp only [Int.toNat_natCast]); omega) ?_; conv => whnf)
    | (refine And.intro (show (_ : Bool) = true from by kernel_rfl) ?_; conv => whnf)
    | (refine .inl ⟨wrap64 (by omega), ?_⟩; conv => whnf)))
  refine PSub.sb ?_
  obtain ⟨⟨a, b, c⟩, v, n⟩ := x
  obtain ⟨d, e, f⟩ := k
  rw [Bool.eq_iff_iff]; simp

def itemAt (l : List Item) (k : Key) : Nat := firstI l.length fun i => decide ((l.getD i default).key = k)

theorem ac_slices_IndexFunc_Item_f (l : List Item) (k : Key) (hl : smallL l) : AC Tryd.prog 41 [.pv (roL 7 cItem l), .fn 42 [.pv (.cell (cKey k))]] [] (.pv (vint (ixI l.length (itemAt l k)))) [] := by
  refine AC.with_fn (pre := [.pv (roL 7 cItem l)]) (post := []) (ac_slices_IndexFunc_Item l (keyB k) (fun _ => 0) hl) Tryd.call42 rfl rfl rfl ?_
  rintro xs ⟨x, rfl⟩
  exact ac_device_index_1 x k

theorem ac_device_index (l : List Item) (k : Key) (hl : smallL l) : AC Tryd.prog 24 [.pv (roL 7 cItem l), .pv (.agg (cKey k))] [] (.pv (vint (ixI l.length (itemAt l k)))) [] := by
  refine AC.of_awp (T := T) T_ok hm Tryd.call24 Tryd.func24 rfl rfl rfl ?_
  conv => whnf
  refine .inl ⟨_, ac_slices_IndexFunc_Item_f l k hl, ?_⟩
  conv => whnf
  exact .rfl

theorem ac_r22_index (l : List Item) (k : Key) (hl : smallL l) : AC Tryd.prog 23 [.pv (roL 7 cItem l), .pv (.agg (cKey k))] [] (.pv (vint (ixI l.length (itemAt l k)))) [] := by
  have hl : l.length ≤ 1048576 := hl
  have hk (x : Item) : (decide (x.key.dev = k.dev) && (decide (x.key.cluster = k.cluster) && (decide (x.key.attr = k.attr) && true))) = decide (x.key = k) := by
    obtain ⟨⟨a, b, c⟩, v, n⟩ := x
    obtain ⟨d, e, f⟩ := k
    rw [Bool.eq_iff_iff]; simp
  refine AC.of_awp (T := T) T_ok hm Tryd.call23 Tryd.func23 rfl rfl rfl ?_
  conv => whnf
  refine loop_k (ι := Nat) [0, 3] [3] (fun i => i ≤ l.length ∧ (∀ j, j < i → decide ((l.getD j default).key = k) = false)) (fun i => l.length - i) 0 (fun i => [(5, .pv (vint i))]) (fun _ => []) [] ⟨Nat.zero_le _, fun j h => absurd h (by omega)⟩ ?_ (fun i hk => ?_)
  · (repeat' (first | exact PSub.rfl | exact rfl | exact PSubs.rfl | exact trivial | refine And.intro ?_ ?_))
  obtain ⟨hkn, hinv⟩ := hk
  conv => whnf
  repeat (any_goals (first
    | (refine ⟨fun (h : (_ : Bool) = true) => ?_, fun (h : (_ : Bool) = false) => ?_⟩ <;> (try simp only [decide_eq_true_eq, decide_eq_false_iff_not, Bool.not_eq_true', Bool.not_eq_false', Int.toNat_natCast, beq_iff_eq, decide_eq_decide, beq_eq_false_iff_ne, ne_eq, reduceCtorEq] at h) <;> (conv => whnf))
    | (refine And.intro (by (try simp only [Int.toNat_natCast]); omega) ?_; conv => whnf)
    | (refine And.intro (show (_ : Bool) = true from by kernel_rfl) ?_; conv => whnf)
    | (refine .inl ⟨wrap64 (by omega), ?_⟩; conv => whnf)))
  · rw [hk] at h
    have e : itemAt l k = i := firstI_at (by omega) h hinv
    exact PSub.int (by rw [e, ixI, if_pos (by omega)])
  · rw [hk] at h
    refine ⟨i + 1, [], ⟨by omega, ?_⟩, by first | omega | (dsimp only; omega), ?_⟩
    rotate_left
    · (repeat' (first | exact PSub.rfl | exact rfl | exact PSubs.rfl | exact trivial | refine And.intro ?_ ?_))
    intro j hj
    by_cases e : j = i
    · subst e; first | exact h | simpa [-List.getD_eq_getElem?_getD] using h | simp_all [-List.getD_eq_getElem?_getD]
    · exact hinv j (by omega)
  · have e : itemAt l k = l.length := firstI_none fun j hj => hinv j (by omega)
    exact PSub.int (by rw [e, ixI, if_neg (by omega)])

def noItem : Item := ⟨⟨0, ⟨#[]⟩, ⟨#[]⟩⟩, noVal, 0⟩
def getI (l : List Item) (k : Key) : Item := if itemAt l k < l.length then l.getD (itemAt l k) default else noItem

theorem ac_device_Get (l : List Item) (k : Key) (hl : smallL l) : AC Tryd.prog 12 [.pv (roL 7 cItem l), .pv (.agg (cKey k))] [] (.pv (.tup [.agg (cItem (getI l k)), vbool (decide (itemAt l k < l.length))])) [] := by
  refine AC.of_awp (T := T) T_ok hm Tryd.call12 Tryd.func12 rfl rfl rfl ?_
  conv => whnf
  refine .inl ⟨_, ac_device_index l k hl, ?_⟩
  conv => whnf
  unfold ixI
  by_cases hlt : itemAt l k < l.length
  · rw [if_pos hlt]
    repeat (any_goals (first
      | (refine ⟨fun (h : (_ : Bool) = true) => ?_, fun (h : (_ : Bool) = false) => ?_⟩ <;> (try simp only [decide_eq_true_eq, decide_eq_false_iff_not, Bool.not_eq_true', Bool.not_eq_false', Int.toNat_natCast, beq_iff_eq, decide_eq_decide, beq_eq_false_iff_ne, ne_eq, reduceCtorEq] at h) <;> (conv => whnf))
      | (refine And.intro (by (try simp only [Int.toNat_natCast]); omega) ?_; conv => whnf)
      | (refine And.intro (show (_ : Bool) = true from by kernel_rfl) ?_; conv => whnf)
      | (refine .inl ⟨wrap64 (by omega), ?_⟩; conv => whnf)))
    · refine ⟨?_, ?_⟩ <;> (conv => whnf)
      · exact PSub.of_eq (by rw [getI, if_pos hlt]; rfl)
      · exact PSub.lit_sb (by simp [hlt])
    · exfalso; omega
  · rw [if_neg hlt]
    repeat (any_goals (first
      | (refine ⟨fun (h : (_ : Bool) = true) => ?_, fun (h : (_ : Bool) = false) => ?_⟩ <;> (try simp only [decide_eq_true_eq, decide_eq_false_iff_not, Bool.not_eq_true', Bool.not_eq_false', Int.toNat_natCast, beq_iff_eq, decide_eq_decide, beq_eq_false_iff_ne, ne_eq, reduceCtorEq] at h) <;> (conv => whnf))
      | (refine And.intro (by (try simp only [Int.toNat_natCast]); omega) ?_; conv => whnf)
      | (refine And.intro (show (_ : Bool) = true from by kernel_rfl) ?_; conv => whnf)
      | (refine .inl ⟨wrap64 (by omega), ?_⟩; conv => whnf)))
    · exfalso; omega
    · refine ⟨?_, ?_⟩ <;> (conv => whnf)
      · exact PSub.of_eq (by rw [getI, if_neg hlt]; rfl)
      · exact PSub.lit_sb (by simp [hlt])

theorem ac_r22_Get (l : List Item) (k : Key) (hl : smallL l) : AC Tryd.prog 11 [.pv (roL 7 cItem l), .pv (.agg (cKey k))] [] (.pv (.tup [.agg (cItem (getI l k)), vbool (decide (itemAt l k < l.length))])) [] := by
  refine AC.of_awp (T := T) T_ok hm Tryd.call11 Tryd.func11 rfl rfl rfl ?_
  conv => whnf
  refine .inl ⟨_, ac_r22_index l k hl, ?_⟩
  conv => whnf
  unfold ixI
  by_cases hlt : itemAt l k < l.length
  · rw [if_pos hlt]
    repeat (any_goals (first
      | (refine ⟨fun (h : (_ : Bool) = true) => ?_, fun (h : (_ : Bool) = false) => ?_⟩ <;> (try simp only [decide_eq_true_eq, decide_eq_false_iff_not, Bool.not_eq_true', Bool.not_eq_false', Int.toNat_natCast, beq_iff_eq, decide_eq_decide, beq_eq_false_iff_ne, ne_eq, reduceCtorEq] at h) <;> (conv => whnf))
      | (refine And.intro (by (try simp only [Int.toNat_natCast]); omega) ?_; conv => whnf)
      | (refine And.intro (show (_ : Bool) = true from by kernel_rfl) ?_; conv => whnf)
      | (refine .inl ⟨wrap64 (by omega), ?_⟩; conv => whnf)))
    · exfalso; omega
    · refine ⟨?_, ?_⟩ <;> (conv => whnf)
      · exact PSub.of_eq (by rw [getI, if_pos hlt]; rfl)
      · exact PSub.lit_sb (by simp [hlt])
  · rw [if_neg hlt]
    repeat (any_goals (first
      | (refine ⟨fun (h : (_ : Bool) = true) => ?_, fun (h : (_ : Bool) = false) => ?_⟩ <;> (try simp only [decide_eq_true_eq, decide_eq_false_iff_not, Bool.not_eq_true', Bool.not_eq_false', Int.toNat_natCast, beq_iff_eq, decide_eq_decide, beq_eq_false_iff_ne, ne_eq, reduceCtorEq] at h) <;> (conv => whnf))
      | (refine And.intro (by (try simp only [Int.toNat_natCast]); omega) ?_; conv => whnf)
      | (refine And.intro (show (_ : Bool) = true from by kernel_rfl) ?_; conv => whnf)
      | (refine .inl ⟨wrap64 (by omega), ?_⟩; conv => whnf)))
    · refine ⟨?_, ?_⟩ <;> (conv => whnf)
      · exact PSub.of_eq (by rw [getI, if_neg hlt]; rfl)
      · exact PSub.lit_sb (by simp [hlt])
    · exfalso; omega

/-- the greatest version of a device among the first k -/
def maxV (l : List Item) (dev : Int) : Nat → Int
  | 0 => 0
  | k + 1 => if (l.getD k default).key.dev = dev then max (maxV l dev k) (l.getD k default).version else maxV l dev k
def nextV (l : List Item) (dev : Int) : Int := min (maxV l dev l.length) 1099511627775 + 1
theorem maxV_nonneg {l : List Item} {dev : Int} : ∀ {k : Nat}, 0 ≤ maxV l dev k
  | 0 => Int.le_refl _
  | k + 1 => by
    have := @maxV_nonneg l dev k
    rw [maxV]; split <;> omega

theorem ac_device_next (l : List Item) (dev : Int) (hl : smallL l) : AC Tryd.prog 64 [.pv (roL 7 cItem l), .pv (vint dev)] [] (.pv (vint (nextV l dev))) [] := by
  have hl : l.length ≤ 1048576 := hl
  refine AC.of_awp (T := T) T_ok hm Tryd.call64 Tryd.func64 rfl rfl rfl ?_
  conv => whnf
  refine loop_k (ι := Nat) [1, 8, 9] [] (fun k => k ≤ l.length ∧ True) (fun k => l.length - k) 0 (fun k => [(5, .pv (vint (min (maxV l dev k) 1099511627775))), (10, .pv (vint k))]) (fun k => []) [] ⟨Nat.zero_le _, trivial⟩ ?_ (fun k hk => ?_)
  · (repeat' (first | exact PSub.rfl | exact rfl | exact PSubs.rfl | exact trivial | refine And.intro ?_ ?_))
  obtain ⟨hkn, hinv⟩ := hk
  conv => whnf
  repeat (any_goals (first
    | (refine ⟨fun (h : (_ : Bool) = true) => ?_, fun (h : (_ : Bool) = false) => ?_⟩ <;> (try simp only [decide_eq_true_eq, decide_eq_false_iff_not, Bool.not_eq_true', Bool.not_eq_false', Int.toNat_natCast, beq_iff_eq, decide_eq_decide, beq_eq_false_iff_ne, ne_eq, reduceCtorEq] at h) <;> (conv => whnf))
    | (refine And.intro (by (try simp only [Int.toNat_natCast]); omega) ?_; conv => whnf)
    | (refine And.intro (show (_ : Bool) = true from by kernel_rfl) ?_; conv => whnf)
    | (refine .inl ⟨wrap64 (by omega), ?_⟩; conv => whnf)))
  · have h0 := @maxV_nonneg l dev k
    refine ⟨k + 1, [], ⟨by omega, trivial⟩, by omega, ?_⟩
    (repeat' (first | exact PSub.rfl | exact rfl | exact PSubs.rfl | exact trivial | refine And.intro ?_ ?_))
    exact PSub.int (by simp only [Int.toNat_natCast]; rw [maxV, if_pos h]; (repeat' split) <;> omega)
  · refine ⟨k + 1, [], ⟨by omega, trivial⟩, by omega, ?_⟩
    (repeat' (first | exact PSub.rfl | exact rfl | exact PSubs.rfl | exact trivial | refine And.intro ?_ ?_))
    exact PSub.int (by rw [maxV, if_neg h])
  · have h0 := @maxV_nonneg l dev l.length
    have e : k = l.length := by omega
    subst e
    refine .inl ⟨wrap64 (by omega), ?_⟩
    conv => whnf
    exact .rfl

end Go.Abs

namespace Go.Abs
open Go.Proofs
set_option maxRecDepth 10000

/-- device.put -/
def putL (l : List Item) (i : Nat) (v : Val) : List Item := if (l.getD i default).value ≠ v then l.set i ⟨(l.getD i default).key, v, nextV l (l.getD i default).key.dev⟩ else l

theorem putL_length {l : List Item} {i : Nat} {v : Val} : (putL l i v).length = l.length := by unfold putL; split <;> simp

theorem val_eq (a b : Val) : (decide (a.kind = b.kind) && (decide (a.n = b.n) && (decide (a.s = b.s) && true))) = decide (a = b) := by
  obtain ⟨a1, a2, a3⟩ := a
  obtain ⟨b1, b2, b3⟩ := b
  rw [Bool.eq_iff_iff]; simp

theorem rows_set {α : Type} [Inhabited α] {enc : α → List PV} {l : List α} {i : Nat} {x : α} {F : Nat → List PV} (h1 : ∀ j, j < l.length → j ≠ i → PSubs (F j) (enc (l.getD j default))) (h2 : i < l.length → PSubs (F i) (enc x)) :
    ∀ j, j < (l.set i x).length → PSubs (F j) (enc ((l.set i x).getD j default)) := by
  intro j hj
  rw [List.length_set] at hj
  by_cases e : j = i
  · subst e
    have : (l.set j x).getD j default = x := by simp [List.getD, hj]
    rw [this]; exact h2 hj
  · have : (l.set i x).getD j default = l.getD j default := by simp [List.getD, List.getElem?_set_ne (Ne.symm e)]
    rw [this]; exact h1 j hj e

theorem ac_device_put (l : List Item) (i : Nat) (v : Val) (hl : smallL l) (hi : i < l.length) : AC Tryd.prog 40 [.pv (roL 7 cItem l), .pv (vint i), .pv (.agg (cVal v))] [] (.pv (roL 7 cItem (putL l i v))) [] := by
  have hl2 : l.length ≤ 1048576 := hl
  refine AC.of_awp (T := T) T_ok hm Tryd.call40 Tryd.func40 rfl rfl rfl ?_
  conv => whnf
  repeat (any_goals (first
    | (refine ⟨fun (h : (_ : Bool) = true) => ?_, fun (h : (_ : Bool) = false) => ?_⟩ <;> (try simp only [decide_eq_true_eq, decide_eq_false_iff_not, Bool.not_eq_true', Bool.not_eq_false', Int.toNat_natCast, beq_iff_eq, decide_eq_decide, beq_eq_false_iff_ne, ne_eq, reduceCtorEq] at h) <;> (conv => whnf))
    | (refine .inr (.inl ⟨_, _, _, ac_slices_Clone_Item _ _ hl2, ?_⟩); conv => whnf)
    | (refine .inl ⟨_, ac_device_next l (l.getD i default).key.dev hl, ?_⟩; conv => whnf)
    | (refine And.intro (by (try simp only [Int.toNat_natCast]); omega) ?_; conv => whnf)
    | (refine And.intro (show (_ : Bool) = true from by kernel_rfl) ?_; conv => whnf)
    | (refine .inl ⟨wrap64 (by omega), ?_⟩; conv => whnf)))
  all_goals rw [val_eq] at h
  all_goals simp only [decide_eq_true_eq, decide_eq_false_iff_not] at h
  · rw [putL, if_pos h]
    refine PSub.ro (by simp) (fun j hj => ?_)
    refine rows_set (i := i) (F := updAt _ _ _ _) (fun j hj e => ?_) (fun hi => ?_) j (by simpa using hj)
    · simp only [Int.toNat_natCast]; rw [updAt_ne e, updAt_ne e]; exact PSubs.rfl
    · simp only [Int.toNat_natCast]; rw [updAt_same, updAt_same]; exact PSubs.rfl
  · rw [putL, if_neg (by simpa using h)]
    exact .rfl

/-- R22.with -/
def withL (l : List Item) (k : Key) (v : Val) : List Item := if itemAt l k < l.length then putL l (itemAt l k) v else l

theorem itemAt_key {l : List Item} {k : Key} (h : itemAt l k < l.length) : (l.getD (itemAt l k) default).key = k := by
  unfold itemAt firstI at *
  split at h
  · rename_i i e
    rw [List.find?_range_eq_some] at e
    simpa using e.1
  · omega

/-- device.Init -/
def initL (H : Hom) (id : Int) : List Item := (List.range (keysL H id).length).map fun i => ⟨(keysL H id).getD i default, zeroV ((findA H ((keysL H id).getD i default)).getD noAttr), (i : Int) + 1⟩

def initTo (H : Hom) (id : Int) (k : Nat) : List Item := (List.range k).map fun i => ⟨(keysL H id).getD i default, zeroV ((findA H ((keysL H id).getD i default)).getD noAttr), (i : Int) + 1⟩
theorem initTo_succ {H : Hom} {id : Int} {k : Nat} : initTo H id (k + 1) = initTo H id k ++ [⟨(keysL H id).getD k default, zeroV ((findA H ((keysL H id).getD k default)).getD noAttr), (k : Int) + 1⟩] := by
  simp [initTo, List.range_succ, -List.getD_eq_getElem?_getD]
theorem initTo_length {H : Hom} {id : Int} {k : Nat} : (initTo H id k).length = k := by simp [initTo]

theorem keysL_length {H : Hom} (hH : smallH H) {id : Int} : (keysL H id).length ≤ 4194304 := by
  have h4 := @findD_length H id
  have := keysTo_len (f := firstC H.clusters) (fun _ _ => firstC_small hH.1) (id := id) (l := (findD H id).clusters) (k := (findD H id).clusters.length) (Nat.le_refl _)
  rw [keysTo, List.take_length] at this
  have e : keysL H id = (findD H id).clusters.flatMap (keysOf1 (firstC H.clusters) id) := rfl
  rw [← e] at this
  omega

theorem small_findA {H : Hom} (hH : smallH H) {k : Key} : smallA ((findA H k).getD noAttr) := by
  unfold findA
  cases h : partO H k.dev k.cluster with
  | none => exact Nat.zero_le _
  | some c =>
    unfold attrO
    simp only
    have hc : smallK c := by
      unfold partO at h
      split at h
      · exact firstC_small hH.1 h
      · cases h
    split
    · exact hc.2.1 _
    · exact Nat.zero_le _

theorem ac_device_Init (H : Hom) (id : Int) (hH : smallH H) : AC Tryd.prog 14 [.pv (.agg (cHom H)), .pv (vint id)] [] (.pv (roL 7 cItem (initL H id))) [] := by
  have hkl := keysL_length hH (id := id)
  refine AC.of_awp (T := T) T_ok hm Tryd.call14 Tryd.func14 rfl rfl rfl ?_
  conv => whnf
  refine .inl ⟨_, ac_device_Keys H id hH, ?_⟩
  conv => whnf
  refine loop_k (ι := Nat) [2, 12, 13] [2] (fun k => k ≤ (keysL H id).length ∧ True) (fun k => (keysL H id).length - k) 0 (fun k => [(5, .own 500), (14, .pv (vint k))]) (fun k => [(500, rowL 7 cItem (initTo H id k))]) [] ⟨Nat.zero_le _, trivial⟩ ?_ (fun k hk => ?_)
  · (repeat' (first | exact PSub.rfl | exact rfl | exact PSubs.rfl | exact trivial | refine And.intro ?_ ?_))
  obtain ⟨hkn, hinv⟩ := hk
  conv => whnf
  have hlen := @initTo_length H id k
  repeat (any_goals (first
    | (refine ⟨fun (h : (_ : Bool) = true) => ?_, fun (h : (_ : Bool) = false) => ?_⟩ <;> (try simp only [decide_eq_true_eq, decide_eq_false_iff_not, Bool.not_eq_true', Bool.not_eq_false', Int.toNat_natCast, beq_iff_eq, decide_eq_decide, beq_eq_false_iff_ne, ne_eq, reduceCtorEq] at h) <;> (conv => whnf))
    | (refine .inl ⟨_, ac_device_Find H ((keysL H id).getD k default) hH, ?_⟩; conv => whnf)
    | (refine .inl ⟨_, ac_value_Zero ((findA H ((keysL H id).getD k default)).getD noAttr) (small_findA hH), ?_⟩; conv => whnf)
    | (refine And.intro (by (try simp only [Int.toNat_natCast]); omega) ?_; conv => whnf)
    | (refine And.intro (show (_ : Bool) = true from by kernel_rfl) ?_; conv => whnf)
    | (refine .inl ⟨wrap64 (by omega), ?_⟩; conv => whnf)))
  · refine ⟨k + 1, [(500, 33)], ⟨by omega, trivial⟩, by omega, ?_⟩
    rw [initTo_succ]
    (repeat' (first | exact PSub.rfl | exact rfl | exact PSubs.rfl | exact trivial | refine And.intro ?_ ?_))
    · simp
    · refine rows_snocF (fun i hi => by simp only [if_pos hi]; exact PSubs.rfl) (by simp only [if_neg (Nat.lt_irrefl _), Nat.sub_self]; exact PSubs.rfl)
  · have e : k = (keysL H id).length := by omega
    subst e
    exact .rfl

/-- device.set: its error -/
def setE (H : Hom) (l : List Item) (k : Key) (v : Val) (w : Bool) : Int :=
  if homE H ≠ 0 then homE H else if (findA H k).isSome = false then 8 else if ixI l.length (itemAt l k) < 0 then 8 else if w = true ∧ ((findA H k).getD noAttr).writable = false then 24 else fitsE ((findA H k).getD noAttr) v
/-- .. and what it returns -/
def setL (H : Hom) (l : List Item) (k : Key) (v : Val) (w : Bool) : List Item := if setE H l k v w = 0 then putL l (itemAt l k) v else []

theorem ixI_nonneg {n k : Nat} (h : ¬ ixI n k < 0) : k < n ∧ ixI n k = (k : Int) := by
  unfold ixI at *
  split <;> rename_i h2
  · exact ⟨h2, rfl⟩
  · rw [if_neg h2] at h; omega

theorem ac_device_set (H : Hom) (l : List Item) (k : Key) (v : Val) (w : Bool) (hH : smallH H) (hl : smallL l) : AC Tryd.prog 22 [.pv (.agg (cHom H)), .pv (roL 7 cItem l), .pv (.agg (cKey k)), .pv (.agg (cVal v)), .pv (vbool w)] [] (.pv (.tup [roL 7 cItem (setL H l k v w), vint (setE H l k v w)])) [] := by
  refine AC.of_awp (T := T) T_ok hm Tryd.call22 Tryd.func22 rfl rfl rfl ?_
  conv => whnf
  repeat (any_goals (first
    | (refine ⟨fun (h : (_ : Bool) = true) => ?_, fun (h : (_ : Bool) = false) => ?_⟩ <;> (try simp only [decide_eq_true_eq, decide_eq_false_iff_not, Bool.not_eq_true', Bool.not_eq_false', Int.toNat_natCast, beq_iff_eq, decide_eq_decide, beq_eq_false_iff_ne, ne_eq, reduceCtorEq] at h) <;> (conv => whnf))
    | (refine .inl ⟨_, ac_device_Check H hH, ?_⟩; conv => whnf)
    | (refine .inl ⟨_, ac_device_Find H k hH, ?_⟩; conv => whnf)
    | (refine .inl ⟨_, ac_device_index l k hl, ?_⟩; conv => whnf)
    | (refine .inl ⟨_, ac_value_Fits ((findA H k).getD noAttr) v (small_findA hH), ?_⟩; conv => whnf)
    | (refine And.intro (by (try simp only [Int.toNat_natCast]); omega) ?_; conv => whnf)
    | (refine And.intro (show (_ : Bool) = true from by kernel_rfl) ?_; conv => whnf)
    | (refine .inl ⟨wrap64 (by omega), ?_⟩; conv => whnf)))
  all_goals first
    | (have e : setE H l k v w = 8 := by simp [setE, *]
       rw [setL, e]
       refine ⟨?_, ?_⟩ <;> (conv => whnf)
       · exact PSub.nilL (by simp)
       · exact .rfl)
    | (have e : setE H l k v w = 24 := by simp [setE, *]
       rw [setL, e]
       refine ⟨?_, ?_⟩ <;> (conv => whnf)
       · exact PSub.nilL (by simp)
       · exact .rfl)
    | (have e : setE H l k v w = homE H := by simp [setE, *]
       rw [setL, e]
       refine ⟨?_, ?_⟩ <;> (conv => whnf)
       · exact PSub.nilL (by simp [*])
       · exact .rfl)
    | (have e : setE H l k v w = fitsE ((findA H k).getD noAttr) v := by simp [setE, *]
       rw [setL, e]
       refine ⟨?_, ?_⟩ <;> (conv => whnf)
       · exact PSub.nilL (by simp [*])
       · exact .rfl)
    | (have e : setE H l k v w = 0 := by simp [setE, *]
       obtain ⟨hlt, hix⟩ := ixI_nonneg (by assumption : ¬ ixI l.length (itemAt l k) < 0)
       rw [hix]
       refine .inl ⟨_, ac_device_put l (itemAt l k) v hl hlt, ?_⟩
       conv => whnf
       rw [setL, e, if_pos rfl]
       refine ⟨?_, ?_⟩ <;> (conv => whnf)
       · exact .rfl
       · exact .rfl)
    | skip

theorem ac_device_set_c (H : Hom) (l : List Item) (k : Key) (v : Val) (w : Bool) (hH : smallH H) (hl : smallL l) : AC Tryd.prog 22 [.pv (.agg (cHom H)), .pv (roL 7 cItem l), .pv (.agg (cKey k)), .pv (.agg (cVal v)), .pv (.val (.bool w))] [] (.pv (.tup [roL 7 cItem (setL H l k v w), vint (setE H l k v w)])) [] :=
  AC.sub (qs := [.agg (cHom H), roL 7 cItem l, .agg (cKey k), .agg (cVal v), vbool w]) (ps := [.agg (cHom H), roL 7 cItem l, .agg (cKey k), .agg (cVal v), .val (.bool w)]) (ac_device_set H l k v w hH hl) ⟨.rfl, .rfl, .rfl, .rfl, PSub.lit_sb rfl, trivial⟩

theorem ac_device_Set (H : Hom) (l : List Item) (k : Key) (v : Val) (hH : smallH H) (hl : smallL l) : AC Tryd.prog 10 [.pv (.agg (cHom H)), .pv (roL 7 cItem l), .pv (.agg (cKey k)), .pv (.agg (cVal v))] [] (.pv (.tup [roL 7 cItem (setL H l k v false), vint (setE H l k v false)])) [] := by
  refine AC.of_awp (T := T) T_ok hm Tryd.call10 Tryd.func10 rfl rfl rfl ?_
  conv => whnf
  refine .inl ⟨_, ac_device_set_c H l k v false hH hl, ?_⟩
  conv => whnf
  refine ⟨?_, ?_⟩ <;> (conv => whnf)
  · exact .rfl
  · exact .rfl

theorem withL_eq {l : List Item} {k : Key} {v : Val} (h : itemAt l k < l.length) : withL l k v = putL l (itemAt l k) v := by rw [withL, if_pos h]

end Go.Abs

namespace Go.Abs
open Go.Proofs
set_option maxRecDepth 10000

theorem all_lt_zero {p : Nat → Prop} : ∀ i, i < 0 → p i := fun i h => absurd h (by omega)
theorem all_lt_succ {p : Nat → Prop} {n : Nat} (h1 : ∀ i, i < n → p i) (h2 : p n) : ∀ i, i < n + 1 → p i := fun i h => by
  rcases Nat.lt_or_ge i n with h3 | h3
  · exact h1 i h3
  · have : i = n := by omega
    subst this; exact h2

theorem ac_cluster_flag (s : ByteArray) (w sf : Bool) : AC Tryd.prog 43 [.pv (vstr s), .pv (.val (.bool w)), .pv (.val (.bool sf))] [] (.pv (.agg (cAttr ⟨s, 1, 0, 0, [], w, sf⟩))) [] := by
  refine AC.of_awp (T := T) T_ok hm Tryd.call43 Tryd.func43 rfl rfl rfl ?_
  conv => whnf
  exact PSub.agg ⟨.rfl, .rfl, .rfl, .rfl, PSub.nil_ro _ _, PSub.lit_sb rfl, PSub.lit_sb rfl, trivial⟩
theorem ac_cluster_number (s : ByteArray) (lo hi : Int) (w : Bool) : AC Tryd.prog 45 [.pv (vstr s), .pv (vint lo), .pv (vint hi), .pv (.val (.bool w))] [] (.pv (.agg (cAttr ⟨s, 2, lo, hi, [], w, false⟩))) [] := by
  refine AC.of_awp (T := T) T_ok hm Tryd.call45 Tryd.func45 rfl rfl rfl ?_
  conv => whnf
  exact PSub.agg ⟨.rfl, .rfl, .rfl, .rfl, PSub.nil_ro _ _, PSub.lit_sb rfl, PSub.lit_sb rfl, trivial⟩
theorem ac_cluster_sets (s a : ByteArray) (n : Int) : AC Tryd.prog 44 [.pv (vstr s), .pv (vstr a), .pv (vint n)] [] (.pv (.agg (cCmd ⟨s, noAttr, [⟨1, a, n⟩]⟩))) [] := by
  refine AC.of_awp (T := T) T_ok hm Tryd.call44 Tryd.func44 rfl rfl rfl ?_
  conv => whnf
  repeat (any_goals (first
    | (refine ⟨fun (h : (_ : Bool) = true) => ?_, fun (h : (_ : Bool) = false) => ?_⟩ <;> (try simp only [decide_eq_true_eq, decide_eq_false_iff_not, Bool.not_eq_true', Bool.not_eq_false', Int.toNat_natCast, beq_iff_eq, decide_eq_decide, beq_eq_false_iff_ne, ne_eq, reduceCtorEq] at h) <;> (conv => whnf))
    | (refine And.intro (by (try simp only [Int.toNat_natCast]); omega) ?_; conv => whnf)
    | (refine And.intro (show (_ : Bool) = true from by kernel_rfl) ?_; conv => whnf)
    | (refine .inl ⟨wrap64 (by omega), ?_⟩; conv => whnf)))
  exact PSub.agg ⟨.rfl, .rfl, .rfl, .rfl, .rfl, PSub.nil_ro _ _, PSub.lit_sb rfl, PSub.lit_sb rfl, PSub.ro rfl (all_lt_succ all_lt_zero PSubs.rfl), trivial⟩

def flagA (s : ByteArray) (w sf : Bool) : Attr := ⟨s, 1, 0, 0, [], w, sf⟩
def numA (s : ByteArray) (lo hi : Int) (w : Bool) : Attr := ⟨s, 2, lo, hi, [], w, false⟩
def setsC (s a : ByteArray) (n : Int) : Cmd := ⟨s, noAttr, [⟨1, a, n⟩]⟩
/-- cluster.Standard -/
def stdC : List Clu := [
  ⟨(⟨#[111, 110, 111, 102, 102]⟩ : ByteArray), [flagA (⟨#[111, 110]⟩ : ByteArray) true false], [setsC (⟨#[111, 110]⟩ : ByteArray) (⟨#[111, 110]⟩ : ByteArray) 1, setsC (⟨#[111, 102, 102]⟩ : ByteArray) (⟨#[111, 110]⟩ : ByteArray) 0, ⟨(⟨#[116, 111, 103, 103, 108, 101]⟩ : ByteArray), noAttr, [⟨4, (⟨#[111, 110]⟩ : ByteArray), 0⟩]⟩], []⟩,
  ⟨(⟨#[108, 101, 118, 101, 108]⟩ : ByteArray), [numA (⟨#[108, 101, 118, 101, 108]⟩ : ByteArray) 0 100 true], [⟨(⟨#[109, 111, 118, 101]⟩ : ByteArray), numA (⟨#[116, 111]⟩ : ByteArray) 0 100 false, [⟨2, (⟨#[108, 101, 118, 101, 108]⟩ : ByteArray), 0⟩]⟩, ⟨(⟨#[115, 116, 101, 112]⟩ : ByteArray), noAttr, [⟨3, (⟨#[108, 101, 118, 101, 108]⟩ : ByteArray), 10⟩]⟩], []⟩,
  ⟨(⟨#[108, 111, 99, 107]⟩ : ByteArray), [flagA (⟨#[108, 111, 99, 107, 101, 100]⟩ : ByteArray) true true], [setsC (⟨#[108, 111, 99, 107]⟩ : ByteArray) (⟨#[108, 111, 99, 107, 101, 100]⟩ : ByteArray) 1, setsC (⟨#[117, 110, 108, 111, 99, 107]⟩ : ByteArray) (⟨#[108, 111, 99, 107, 101, 100]⟩ : ByteArray) 0], [(⟨#[106, 97, 109]⟩ : ByteArray)]⟩,
  ⟨(⟨#[116, 104, 101, 114, 109, 111, 115, 116, 97, 116]⟩ : ByteArray), [numA (⟨#[116, 97, 114, 103, 101, 116]⟩ : ByteArray) 50 300 true, numA (⟨#[116, 101, 109, 112]⟩ : ByteArray) (-500) 1000 false], [], []⟩,
  ⟨(⟨#[115, 109, 111, 107, 101]⟩ : ByteArray), [flagA (⟨#[97, 108, 97, 114, 109]⟩ : ByteArray) false true], [], [(⟨#[116, 101, 115, 116]⟩ : ByteArray)]⟩,
  ⟨(⟨#[108, 101, 97, 107]⟩ : ByteArray), [flagA (⟨#[119, 101, 116]⟩ : ByteArray) false true], [], []⟩,
  ⟨(⟨#[118, 97, 108, 118, 101]⟩ : ByteArray), [flagA (⟨#[111, 112, 101, 110]⟩ : ByteArray) true true], [setsC (⟨#[111, 112, 101, 110]⟩ : ByteArray) (⟨#[111, 112, 101, 110]⟩ : ByteArray) 1, setsC (⟨#[99, 108, 111, 115, 101]⟩ : ByteArray) (⟨#[111, 112, 101, 110]⟩ : ByteArray) 0], []⟩,
  ⟨(⟨#[109, 101, 116, 101, 114]⟩ : ByteArray), [numA (⟨#[112, 111, 119, 101, 114]⟩ : ByteArray) 0 100000 false], [], []⟩]

def nameRow (k i : Nat) : List PV := [vstr (if i < k then glob0.getD i default else ⟨#[]⟩), .val (.slice none 0 0), .val (.slice none 0 0), .val (.slice none 0 0)]

set_option maxHeartbeats 2000000 in
theorem ac_cluster_Standard : AC Tryd.prog 25 [] [] (.pv (roL 4 cClu stdC)) [] := by
  refine AC.of_awp (T := T) T_ok hm Tryd.call25 Tryd.func25 rfl rfl rfl ?_
  conv => whnf
  refine And.intro (by omega) ?_
  conv => whnf
  refine loop_k (ι := Nat) [1, 5] [] (fun k => k ≤ 8 ∧ True) (fun k => 8 - k) 0 (fun k => [(6, .pv (vint k))]) (fun k => [(4, .row 4 8 (nameRow k))]) [] ⟨Nat.zero_le _, trivial⟩ ?_ (fun k hk => ?_)
  · (repeat' (first | exact PSub.rfl | exact rfl | exact PSubs.rfl | exact trivial | refine And.intro ?_ ?_)); all_goals ((intro i hi; exact PSubs.rfl))
  obtain ⟨hkn, hinv⟩ := hk
  conv => whnf
  repeat (any_goals (first
    | (refine ⟨fun (h : (_ : Bool) = true) => ?_, fun (h : (_ : Bool) = false) => ?_⟩ <;> (try simp only [decide_eq_true_eq, decide_eq_false_iff_not, Bool.not_eq_true', Bool.not_eq_false', Int.toNat_natCast, beq_iff_eq, decide_eq_decide, beq_eq_false_iff_ne, ne_eq, reduceCtorEq] at h) <;> (conv => whnf))
    | (refine And.intro (by (try simp only [Int.toNat_natCast]); omega) ?_; conv => whnf)
    | (refine And.intro (show (_ : Bool) = true from by kernel_rfl) ?_; conv => whnf)
    | (refine .inl ⟨wrap64 (by omega), ?_⟩; conv => whnf)))
  · refine And.intro (show 0 ≤ (k : Int) ∧ (k : Int) < ((8 : Nat) : Int) from by omega) ?_
    refine ⟨vstr (glob0.getD k default), fun q hq => ?_, ?_⟩
    · have hk8 : k < 8 := by omega
      rcases k with _ | _ | _ | _ | _ | _ | _ | _ | k
      all_goals first | omega | (cases hq; exact .rfl)
    · conv => whnf
      repeat (any_goals (first
        | (refine ⟨fun (h : (_ : Bool) = true) => ?_, fun (h : (_ : Bool) = false) => ?_⟩ <;> (try simp only [decide_eq_true_eq, decide_eq_false_iff_not, Bool.not_eq_true', Bool.not_eq_false', Int.toNat_natCast, beq_iff_eq, decide_eq_decide, beq_eq_false_iff_ne, ne_eq, reduceCtorEq] at h) <;> (conv => whnf))
        | (refine And.intro (by (try simp only [Int.toNat_natCast]); omega) ?_; conv => whnf)
        | (refine And.intro (show (_ : Bool) = true from by kernel_rfl) ?_; conv => whnf)
        | (refine .inl ⟨wrap64 (by omega), ?_⟩; conv => whnf)))
      refine ⟨k + 1, [], ⟨by omega, trivial⟩, by omega, ?_⟩
      (repeat' (first | exact PSub.rfl | exact rfl | exact PSubs.rfl | exact trivial | refine And.intro ?_ ?_))
      intro i hi
      simp only [Int.toNat_natCast]
      by_cases e : i = k
      · subst e; rw [updAt_same]; exact ⟨PSub.str (by rw [if_pos (by omega)]), .rfl, .rfl, .rfl, trivial⟩
      · rw [updAt_ne e]; exact ⟨PSub.str (by by_cases h2 : i < k; rw [if_pos h2, if_pos (by omega)]; rw [if_neg h2, if_neg (by omega)]), .rfl, .rfl, .rfl, trivial⟩
  · have e : k = 8 := by omega
    subst e
    refine .inl ⟨_, ac_cluster_flag (⟨#[111, 110]⟩ : ByteArray) true false, ?_⟩
    conv => whnf
    repeat (refine And.intro (by omega) ?_; conv => whnf)
    refine .inl ⟨_, ac_cluster_sets (⟨#[111, 110]⟩ : ByteArray) (⟨#[111, 110]⟩ : ByteArray) 1, ?_⟩
    conv => whnf
    repeat (refine And.intro (by omega) ?_; conv => whnf)
    refine .inl ⟨_, ac_cluster_sets (⟨#[111, 102, 102]⟩ : ByteArray) (⟨#[111, 110]⟩ : ByteArray) 0, ?_⟩
    conv => whnf
    repeat (refine And.intro (by omega) ?_; conv => whnf)
    refine .inl ⟨_, ac_cluster_number (⟨#[108, 101, 118, 101, 108]⟩ : ByteArray) 0 100 true, ?_⟩
    conv => whnf
    repeat (refine And.intro (by omega) ?_; conv => whnf)
    refine .inl ⟨_, ac_cluster_number (⟨#[116, 111]⟩ : ByteArray) 0 100 false, ?_⟩
    conv => whnf
    repeat (refine And.intro (by omega) ?_; conv => whnf)
    refine .inl ⟨_, ac_cluster_flag (⟨#[108, 111, 99, 107, 101, 100]⟩ : ByteArray) true true, ?_⟩
    conv => whnf
    repeat (refine And.intro (by omega) ?_; conv => whnf)
    refine .inl ⟨_, ac_cluster_sets (⟨#[108, 111, 99, 107]⟩ : ByteArray) (⟨#[108, 111, 99, 107, 101, 100]⟩ : ByteArray) 1, ?_⟩
    conv => whnf
    repeat (refine And.intro (by omega) ?_; conv => whnf)
    refine .inl ⟨_, ac_cluster_sets (⟨#[117, 110, 108, 111, 99, 107]⟩ : ByteArray) (⟨#[108, 111, 99, 107, 101, 100]⟩ : ByteArray) 0, ?_⟩
    conv => whnf
    repeat (refine And.intro (by omega) ?_; conv => whnf)
    refine .inl ⟨_, ac_cluster_number (⟨#[116, 97, 114, 103, 101, 116]⟩ : ByteArray) 50 300 true, ?_⟩
    conv => whnf
    repeat (refine And.intro (by omega) ?_; conv => whnf)
    refine .inl ⟨_, ac_cluster_number (⟨#[116, 101, 109, 112]⟩ : ByteArray) (-500) 1000 false, ?_⟩
    conv => whnf
    repeat (refine And.intro (by omega) ?_; conv => whnf)
    refine .inl ⟨_, ac_cluster_flag (⟨#[97, 108, 97, 114, 109]⟩ : ByteArray) false true, ?_⟩
    conv => whnf
    repeat (refine And.intro (by omega) ?_; conv => whnf)
    refine .inl ⟨_, ac_cluster_flag (⟨#[119, 101, 116]⟩ : ByteArray) false true, ?_⟩
    conv => whnf
    repeat (refine And.intro (by omega) ?_; conv => whnf)
    refine .inl ⟨_, ac_cluster_flag (⟨#[111, 112, 101, 110]⟩ : ByteArray) true true, ?_⟩
    conv => whnf
    repeat (refine And.intro (by omega) ?_; conv => whnf)
    refine .inl ⟨_, ac_cluster_sets (⟨#[111, 112, 101, 110]⟩ : ByteArray) (⟨#[111, 112, 101, 110]⟩ : ByteArray) 1, ?_⟩
    conv => whnf
    repeat (refine And.intro (by omega) ?_; conv => whnf)
    refine .inl ⟨_, ac_cluster_sets (⟨#[99, 108, 111, 115, 101]⟩ : ByteArray) (⟨#[111, 112, 101, 110]⟩ : ByteArray) 0, ?_⟩
    conv => whnf
    repeat (refine And.intro (by omega) ?_; conv => whnf)
    refine .inl ⟨_, ac_cluster_number (⟨#[112, 111, 119, 101, 114]⟩ : ByteArray) 0 100000 false, ?_⟩
    conv => whnf
    repeat (refine And.intro (by omega) ?_; conv => whnf)
    repeat' (first | exact PSub.rfl | exact PSub.nil_ro _ _ | exact PSub.lit_sb rfl | exact trivial | exact all_lt_zero | refine PSub.agg ?_ | refine PSub.ro rfl ?_ | refine all_lt_succ ?_ ?_ | refine And.intro ?_ ?_)

def homeX : Hom := ⟨stdC, [⟨1, 0, 0, false, 0, (⟨#[104, 97, 108, 108]⟩ : ByteArray), [(⟨#[111, 110, 111, 102, 102]⟩ : ByteArray), (⟨#[108, 101, 118, 101, 108]⟩ : ByteArray)]⟩]⟩

theorem ac_law22_home : AC Tryd.prog 13 [] [] (.pv (.agg (cHom homeX))) [] := by
  refine AC.of_awp (T := T) T_ok hm Tryd.call13 Tryd.func13 rfl rfl rfl ?_
  conv => whnf
  refine .inl ⟨_, ac_cluster_Standard, ?_⟩
  conv => whnf
  trace_state
  repeat' (first | exact PSub.rfl | exact PSub.nil_ro _ _ | exact PSub.lit_sb rfl | exact trivial | exact all_lt_zero | refine PSub.agg ?_ | refine PSub.ro rfl ?_ | refine all_lt_succ ?_ ?_ | refine And.intro ?_ ?_)

theorem ac_law22_great (H : Hom) : AC Tryd.prog 9 [.pv (.agg (cHom H))] [] (.pv (vbool (decide (300 < H.clusters.length) || decide (60 < H.devices.length)))) [] := by
  refine AC.of_awp (T := T) T_ok hm Tryd.call9 Tryd.func9 rfl rfl rfl ?_
  conv => whnf
  repeat (any_goals (first
    | (refine ⟨fun (h : (_ : Bool) = true) => ?_, fun (h : (_ : Bool) = false) => ?_⟩ <;> (try simp only [decide_eq_true_eq, decide_eq_false_iff_not, Bool.not_eq_true', Bool.not_eq_false', Int.toNat_natCast, beq_iff_eq, decide_eq_decide, beq_eq_false_iff_ne, ne_eq, reduceCtorEq] at h) <;> (conv => whnf))
    | (refine And.intro (by (try simp only [Int.toNat_natCast]); omega) ?_; conv => whnf)
    | (refine And.intro (show (_ : Bool) = true from by kernel_rfl) ?_; conv => whnf)
    | (refine .inl ⟨wrap64 (by omega), ?_⟩; conv => whnf)))
  · exact PSub.lit_sb (by simp; omega)
  · exact PSub.sb (by rw [Bool.eq_iff_iff]; simp; omega)

end Go.Abs

namespace Go.Abs
open Go.Proofs
set_option maxRecDepth 10000

def kLev : Key := ⟨1, (⟨#[108, 101, 118, 101, 108]⟩ : ByteArray), (⟨#[108, 101, 118, 101, 108]⟩ : ByteArray)⟩
theorem ex1 : homE homeX = 0 := by kernel_rfl
theorem ex2 : initL homeX 1 = [⟨⟨1, (⟨#[111, 110, 111, 102, 102]⟩ : ByteArray), (⟨#[111, 110]⟩ : ByteArray)⟩, ⟨1, 0, ⟨#[]⟩⟩, 1⟩, ⟨kLev, ⟨2, 0, ⟨#[]⟩⟩, 2⟩] := by kernel_rfl
def L1 : List Item := [⟨⟨1, (⟨#[111, 110, 111, 102, 102]⟩ : ByteArray), (⟨#[111, 110]⟩ : ByteArray)⟩, ⟨1, 0, ⟨#[]⟩⟩, 1⟩, ⟨kLev, ⟨2, 0, ⟨#[]⟩⟩, 2⟩]
theorem ex3 : setE homeX L1 kLev ⟨2, 7, ⟨#[]⟩⟩ false = 0 := by kernel_rfl
def L2 : List Item := [⟨⟨1, (⟨#[111, 110, 111, 102, 102]⟩ : ByteArray), (⟨#[111, 110]⟩ : ByteArray)⟩, ⟨1, 0, ⟨#[]⟩⟩, 1⟩, ⟨kLev, ⟨2, 7, ⟨#[]⟩⟩, 3⟩]
theorem ex4 : setL homeX L1 kLev ⟨2, 7, ⟨#[]⟩⟩ false = L2 := by kernel_rfl
theorem ex5 : setE homeX L1 kLev ⟨2, 101, ⟨#[]⟩⟩ false = 2 := by kernel_rfl
theorem ex6 : getI L2 kLev = ⟨kLev, ⟨2, 7, ⟨#[]⟩⟩, 3⟩ := by kernel_rfl
theorem ex7 : (findD homeX 1).room = (⟨#[104, 97, 108, 108]⟩ : ByteArray) := by kernel_rfl
theorem ex8 : decide (itemAt L2 kLev < L2.length) = true := by kernel_rfl

theorem sl {α : Type} {l : List α} (h : Nat.ble l.length 1048576 = true) : smallL l := Nat.le_of_ble_eq_true h

theorem smallK_std : ∀ i, smallK (stdC.getD i default) := by
  intro i
  have key : ∀ c ∈ stdC, smallK c := by
    intro c hc
    simp only [stdC, List.mem_cons, List.not_mem_nil, or_false] at hc
    have dA : ∀ i, smallA (List.getD [] i (default : Attr)) := fun i => Nat.zero_le _
    have dC : ∀ i, smallC (List.getD [] i (default : Cmd)) := fun i => ⟨Nat.zero_le _, Nat.zero_le _⟩
    have A1 : ∀ (a : Attr), smallA a → ∀ i, smallA (List.getD [a] i default) := fun a h i => by cases i with | zero => exact h | succ i => exact Nat.zero_le _
    have A2 : ∀ (a b : Attr), smallA a → smallA b → ∀ i, smallA (List.getD [a, b] i default) := fun a b h h2 i => by cases i with | zero => exact h | succ i => exact A1 b h2 i
    have C2 : ∀ (a b : Cmd), smallC a → smallC b → ∀ i, smallC (List.getD [a, b] i default) := fun a b h h2 i => by
      cases i with
      | zero => exact h
      | succ i => cases i with
        | zero => exact h2
        | succ i => exact ⟨Nat.zero_le _, Nat.zero_le _⟩
    have C3 : ∀ (a b c : Cmd), smallC a → smallC b → smallC c → ∀ i, smallC (List.getD [a, b, c] i default) := fun a b c h h2 h3 i => by cases i with | zero => exact h | succ i => exact C2 b c h2 h3 i
    have f : ∀ s w sf, smallA (flagA s w sf) := fun _ _ _ => Nat.zero_le _
    have n : ∀ s lo hi w, smallA (numA s lo hi w) := fun _ _ _ _ => Nat.zero_le _
    have c1 : ∀ s a k, smallC (setsC s a k) := fun _ _ _ => ⟨Nat.zero_le _, sl rfl⟩
    have c2 : ∀ s a e, smallA a → smallC ⟨s, a, [e]⟩ := fun _ _ _ h => ⟨h, sl rfl⟩
    rcases hc with rfl | rfl | rfl | rfl | rfl | rfl | rfl | rfl
    all_goals refine ⟨sl rfl, ?_, sl rfl, ?_, sl rfl⟩
    all_goals first
      | exact dA | exact dC | exact A1 _ (f _ _ _) | exact A1 _ (n _ _ _ _) | exact A2 _ _ (n _ _ _ _) (n _ _ _ _)
      | exact C2 _ _ (c1 _ _ _) (c1 _ _ _) | exact C2 _ _ (c2 _ _ _ (n _ _ _ _)) (c2 _ _ _ (Nat.zero_le _)) | exact C3 _ _ _ (c1 _ _ _) (c1 _ _ _) (c2 _ _ _ (Nat.zero_le _))
  by_cases h : i < stdC.length
  · have : stdC.getD i default = stdC[i] := by simp [List.getD, h]
    rw [this]; exact key _ (List.getElem_mem h)
  · have : stdC.getD i default = default := by simp [List.getD, Nat.le_of_not_lt h]
    rw [this]; exact ⟨Nat.zero_le _, fun _ => Nat.zero_le _, Nat.zero_le _, fun _ => ⟨Nat.zero_le _, Nat.zero_le _⟩, Nat.zero_le _⟩

theorem smallH_X : smallH homeX := by
  refine ⟨⟨sl rfl, smallK_std⟩, sl rfl, fun i => ?_⟩
  cases i with
  | zero => exact ⟨sl rfl, by decide, by decide⟩
  | succ i =>
    have : homeX.devices.getD (i + 1) default = default := rfl
    rw [this]; exact ⟨Nat.zero_le _, by decide, by decide⟩

theorem ac_law22_lives : AC Tryd.prog 5 [] [] (.pv (vbool true)) [] := by
  refine AC.of_awp (T := T) T_ok hm Tryd.call5 Tryd.func5 rfl rfl rfl ?_
  conv => whnf
  refine .inl ⟨_, ac_law22_home, ?_⟩
  conv => whnf
  refine .inl ⟨_, ac_device_Init homeX 1 smallH_X, ?_⟩
  rw [ex2]
  conv => whnf
  refine .inl ⟨_, ac_device_Set homeX L1 kLev ⟨2, 7, ⟨#[]⟩⟩ smallH_X (sl rfl), ?_⟩
  rw [ex3, ex4]
  conv => whnf
  refine .inl ⟨_, ac_device_Get L2 kLev (sl rfl), ?_⟩
  rw [ex6, ex8]
  conv => whnf
  refine .inl ⟨_, ac_device_Set homeX L1 kLev ⟨2, 101, ⟨#[]⟩⟩ smallH_X (sl rfl), ?_⟩
  rw [ex5]
  conv => whnf
  refine .inl ⟨_, ac_device_Check homeX smallH_X, ?_⟩
  rw [ex1]
  conv => whnf
  repeat (any_goals (first
    | (refine ⟨fun (h : (_ : Bool) = true) => ?_, fun (h : (_ : Bool) = false) => ?_⟩ <;> (try simp only [decide_eq_true_eq, decide_eq_false_iff_not, Bool.not_eq_true', Bool.not_eq_false', Int.toNat_natCast, beq_iff_eq, decide_eq_decide, beq_eq_false_iff_ne, ne_eq, reduceCtorEq] at h) <;> (conv => whnf))
    | (refine .inl ⟨_, ac_device_Room homeX 1 smallH_X, ?_⟩; conv => whnf)
    | (refine And.intro (by (try simp only [Int.toNat_natCast]); omega) ?_; conv => whnf)
    | (refine And.intro (show (_ : Bool) = true from by kernel_rfl) ?_; conv => whnf)
    | (refine .inl ⟨wrap64 (by omega), ?_⟩; conv => whnf)))
  all_goals first
    | exact PSub.sb (by rw [ex7]; rfl)
    | exact absurd trivial h
    | exact absurd rfl h
    | (exfalso; exact h (by kernel_rfl))

end Go.Abs

namespace Go.Abs
open Go.Proofs Go.RowKit
set_option maxRecDepth 10000

section
variable {H : Type} {enc : TypeId × Value → H} {w : World} {bulk : DataW H → Nat}
abbrev BB : Nat := 1048576

def inI64 (n : Int) : Prop := -9223372036854775808 ≤ n ∧ n ≤ 9223372036854775807
theorem wf64 {n : Int} (h : (Lit.int .i64 n).wf = true) : inI64 n := by
  simp only [Lit.wf, Bool.and_eq_true, decide_eq_true_eq] at h
  exact h

theorem op_int : Opens enc Tryd.prog w bulk BB 3 cint inI64 := (Opens.int Tryd.underlying3).imp id (fun _ => rfl) (fun _ h => wf64 h)
theorem op_uint64 : Opens enc Tryd.prog w bulk BB 61 (fun n : Int => [.val (.int .u64 n)]) (fun _ => True) := (Opens.int Tryd.underlying61).imp id (fun _ => rfl) (fun _ _ => trivial)
theorem op_bool : Opens enc Tryd.prog w bulk BB 4 (fun b : Bool => [vbool b]) (fun _ => True) := Opens.bool Tryd.underlying4
theorem op_string (hB : BulkOk bulk) : Opens enc Tryd.prog w bulk BB 9 cstr (fun s => s.size ≤ 1048576) := Opens.str hB Tryd.underlying9

theorem op_l_string (hB : BulkOk bulk) : Opens enc Tryd.prog w bulk BB 60 (fun l : List ByteArray => [roL 1 cstr l]) smallL :=
  (Opens.slice hB Tryd.underlying60 (by kernel_rfl) (by decide) (op_string hB)).imp id (fun _ => rfl) (fun _ h => h.1)

def goodKey (k : Key) : Prop := inI64 k.dev
theorem op_Key (hB : BulkOk bulk) : Opens enc Tryd.prog w bulk BB 33 cKey goodKey :=
  (Opens.struct hB Tryd.underlying33 (by kernel_rfl) (.cons (size := 1) rfl (by kernel_rfl) op_int (.cons (size := 1) rfl (by kernel_rfl) (op_string hB) (.cons (size := 1) rfl (by kernel_rfl) (op_string hB) .nil)))).imp (fun x => ⟨x.1, x.2.1, x.2.2.1⟩) (fun _ => rfl) (fun _ h => h.1)

def goodVal (v : Val) : Prop := inI64 v.kind ∧ inI64 v.n
theorem op_Value (hB : BulkOk bulk) : Opens enc Tryd.prog w bulk BB 35 cVal goodVal :=
  (Opens.struct hB Tryd.underlying35 (by kernel_rfl) (.cons (size := 1) rfl (by kernel_rfl) op_int (.cons (size := 1) rfl (by kernel_rfl) op_int (.cons (size := 1) rfl (by kernel_rfl) (op_string hB) .nil)))).imp (fun x => ⟨x.1, x.2.1, x.2.2.1⟩) (fun _ => rfl) (fun _ h => ⟨h.1, h.2.1⟩)

def goodItem (x : Item) : Prop := goodKey x.key ∧ goodVal x.value ∧ inI64 x.version
theorem op_Item (hB : BulkOk bulk) : Opens enc Tryd.prog w bulk BB 43 cItem goodItem :=
  (Opens.struct hB Tryd.underlying43 (by kernel_rfl) (.cons (size := 3) rfl (by kernel_rfl) (op_Key hB) (.cons (size := 3) rfl (by kernel_rfl) (op_Value hB) (.cons (size := 1) rfl (by kernel_rfl) op_int .nil)))).imp (fun x => ⟨x.1, x.2.1, x.2.2.1⟩) (fun _ => rfl) (fun _ h => ⟨h.1, h.2.1, h.2.2.1⟩)
def goodItems (l : List Item) : Prop := smallL l ∧ ∀ i, i < l.length → goodItem (l.getD i default)
theorem op_l_Item (hB : BulkOk bulk) : Opens enc Tryd.prog w bulk BB 22 (fun l : List Item => [roL 7 cItem l]) goodItems :=
  (Opens.slice hB Tryd.underlying22 (by kernel_rfl) (by decide) (op_Item hB)).imp id (fun _ => rfl) (fun _ h => h)

theorem op_Attr (hB : BulkOk bulk) : Opens enc Tryd.prog w bulk BB 66 cAttr smallA :=
  (Opens.struct hB Tryd.underlying66 (by kernel_rfl) (.cons (size := 1) rfl (by kernel_rfl) (op_string hB) (.cons (size := 1) rfl (by kernel_rfl) op_int (.cons (size := 1) rfl (by kernel_rfl) op_int (.cons (size := 1) rfl (by kernel_rfl) op_int (.cons (size := 1) rfl (by kernel_rfl) (op_l_string hB) (.cons (size := 1) rfl (by kernel_rfl) op_bool (.cons (size := 1) rfl (by kernel_rfl) op_bool .nil)))))))).imp
    (fun x => ⟨x.1, x.2.1, x.2.2.1, x.2.2.2.1, x.2.2.2.2.1, x.2.2.2.2.2.1, x.2.2.2.2.2.2.1⟩) (fun _ => rfl) (fun _ h => h.2.2.2.2.1)

theorem getD_all {α : Type} [Inhabited α] {l : List α} {p : α → Prop} (h : ∀ i, i < l.length → p (l.getD i default)) (hd : p default) (i : Nat) : p (l.getD i default) := by
  by_cases hi : i < l.length
  · exact h i hi
  · have : l.getD i default = default := by simp [List.getD, Nat.le_of_not_lt hi]
    rw [this]; exact hd

theorem op_l_Attr (hB : BulkOk bulk) : Opens enc Tryd.prog w bulk BB 89 (fun l : List Attr => [roL 7 cAttr l]) (fun l => smallL l ∧ ∀ i, smallA (l.getD i default)) :=
  (Opens.slice hB Tryd.underlying89 (by kernel_rfl) (by decide) (op_Attr hB)).imp id (fun _ => rfl) (fun _ h => ⟨h.1, getD_all h.2 (Nat.zero_le _)⟩)

theorem op_Effect (hB : BulkOk bulk) : Opens enc Tryd.prog w bulk BB 99 cEff (fun _ => True) :=
  (Opens.struct hB Tryd.underlying99 (by kernel_rfl) (.cons (size := 1) rfl (by kernel_rfl) op_int (.cons (size := 1) rfl (by kernel_rfl) (op_string hB) (.cons (size := 1) rfl (by kernel_rfl) op_int .nil)))).imp (fun x => ⟨x.1, x.2.1, x.2.2.1⟩) (fun _ => rfl) (fun _ _ => trivial)
theorem op_l_Effect (hB : BulkOk bulk) : Opens enc Tryd.prog w bulk BB 94 (fun l : List Eff => [roL 3 cEff l]) smallL :=
  (Opens.slice hB Tryd.underlying94 (by kernel_rfl) (by decide) (op_Effect hB)).imp id (fun _ => rfl) (fun _ h => h.1)

theorem op_Command (hB : BulkOk bulk) : Opens enc Tryd.prog w bulk BB 96 cCmd smallC :=
  (Opens.struct hB Tryd.underlying96 (by kernel_rfl) (.cons (size := 1) rfl (by kernel_rfl) (op_string hB) (.cons (size := 7) rfl (by kernel_rfl) (op_Attr hB) (.cons (size := 1) rfl (by kernel_rfl) (op_l_Effect hB) .nil)))).imp (fun x => ⟨x.1, x.2.1, x.2.2.1⟩) (fun _ => rfl) (fun _ h => ⟨h.2.1, h.2.2.1⟩)
theorem op_l_Command (hB : BulkOk bulk) : Opens enc Tryd.prog w bulk BB 90 (fun l : List Cmd => [roL 9 cCmd l]) (fun l => smallL l ∧ ∀ i, smallC (l.getD i default)) :=
  (Opens.slice hB Tryd.underlying90 (by kernel_rfl) (by decide) (op_Command hB)).imp id (fun _ => rfl) (fun _ h => ⟨h.1, getD_all h.2 ⟨Nat.zero_le _, Nat.zero_le _⟩⟩)

theorem op_Cluster (hB : BulkOk bulk) : Opens enc Tryd.prog w bulk BB 92 cClu smallK :=
  (Opens.struct hB Tryd.underlying92 (by kernel_rfl) (.cons (size := 1) rfl (by kernel_rfl) (op_string hB) (.cons (size := 1) rfl (by kernel_rfl) (op_l_Attr hB) (.cons (size := 1) rfl (by kernel_rfl) (op_l_Command hB) (.cons (size := 1) rfl (by kernel_rfl) (op_l_string hB) .nil))))).imp (fun x => ⟨x.1, x.2.1, x.2.2.1, x.2.2.2.1⟩) (fun _ => rfl) (fun _ h => ⟨h.2.1.1, h.2.1.2, h.2.2.1.1, h.2.2.1.2, h.2.2.2.1⟩)
theorem small_default : smallK default := ⟨Nat.zero_le _, fun _ => Nat.zero_le _, Nat.zero_le _, fun _ => ⟨Nat.zero_le _, Nat.zero_le _⟩, Nat.zero_le _⟩
theorem op_l_Cluster (hB : BulkOk bulk) : Opens enc Tryd.prog w bulk BB 28 (fun l : List Clu => [roL 4 cClu l]) smallKs :=
  (Opens.slice hB Tryd.underlying28 (by kernel_rfl) (by decide) (op_Cluster hB)).imp id (fun _ => rfl) (fun _ h => ⟨h.1, getD_all h.2 small_default⟩)

theorem op_Device (hB : BulkOk bulk) : Opens enc Tryd.prog w bulk BB 63 cDev smallD :=
  (Opens.struct hB Tryd.underlying63 (by kernel_rfl) (.cons (size := 1) rfl (by kernel_rfl) op_int (.cons (size := 1) rfl (by kernel_rfl) op_uint64 (.cons (size := 1) rfl (by kernel_rfl) op_int (.cons (size := 1) rfl (by kernel_rfl) op_bool (.cons (size := 1) rfl (by kernel_rfl) op_int (.cons (size := 1) rfl (by kernel_rfl) (op_string hB) (.cons (size := 1) rfl (by kernel_rfl) (op_l_string hB) .nil)))))))).imp
    (fun x => ⟨x.1, x.2.1, x.2.2.1, x.2.2.2.1, x.2.2.2.2.1, x.2.2.2.2.2.1, x.2.2.2.2.2.2.1⟩) (fun _ => rfl) (fun _ h => ⟨h.2.2.2.2.2.2.1, h.1.1, h.1.2⟩)
theorem op_l_Device (hB : BulkOk bulk) : Opens enc Tryd.prog w bulk BB 29 (fun l : List Dev => [roL 7 cDev l]) (fun l => smallL l ∧ ∀ i, smallD (l.getD i default)) :=
  (Opens.slice hB Tryd.underlying29 (by kernel_rfl) (by decide) (op_Device hB)).imp id (fun _ => rfl) (fun _ h => ⟨h.1, getD_all h.2 ⟨Nat.zero_le _, by decide, by decide⟩⟩)
theorem op_Home (hB : BulkOk bulk) : Opens enc Tryd.prog w bulk BB 31 cHom smallH :=
  (Opens.struct hB Tryd.underlying31 (by kernel_rfl) (.cons (size := 1) rfl (by kernel_rfl) (op_l_Cluster hB) (.cons (size := 1) rfl (by kernel_rfl) (op_l_Device hB) .nil))).imp (fun x => ⟨x.1, x.2.1⟩) (fun _ => rfl) (fun _ h => ⟨h.1, h.2.1.1, h.2.1.2⟩)
end

end Go.Abs

namespace Go.Proofs.YthelcfpfbnhcjaaDoor
open Go.ChangeShapes Go.WideShapes Go.ChangeAt Go.RowKit Go.Abs

theorem own : ownKnob Tryd.prog.godebug = none := by kernel_rfl
theorem laidOut : laidOutB Tryd.prog = true := by kernel_rfl

theorem glob {W : World} (h : laidMetH Tryd.prog [("homehub/cluster.standard", Rows.laid_homehub_cluster_standard)] W) : Glob W (fun _ => False) := by
  intro g cs hg
  have h0 : g = 0 ∧ cs = glob0.map fun s => .val (.string s) := by
    simp only [Globals.get] at hg
    split at hg
    · rename_i e; exact ⟨by simpa [Nat.beq_eq] using e, by cases hg; rfl⟩
    · cases hg
  obtain ⟨rfl, rfl⟩ := h0
  exact strTab (name := "homehub/cluster.standard") (ss := glob0) (rest := []) (g := 0) (t := 88) (e := 9) (n := 8) (by kernel_rfl) (by kernel_rfl) Tryd.underlying88 Tryd.underlying9 (by kernel_rfl) (by kernel_rfl) (by decide) h

/-- A WORLD FOR THE WITNESS: the settled one, the table (block 0) holding what its initialiser lays. -/
noncomputable def laidWorld (os : Os) : World :=
  { World.holding Tryd.prog os ⟨#[], #[], []⟩ with heap := (World.holding Tryd.prog os ⟨#[], #[], []⟩).heap.modify 0 fun
      | .cells _ t frozen => .cells (glob0.map fun s => Value.string s).toArray t frozen
      | o => o }

theorem bulkOk {H : Type} : BulkOk (Rows.uptoBulk (H := H)) := by
  have one_le : ∀ d : DataW H, 1 ≤ Rows.uptoBulk d := fun d => by
    cases d with
    | lit l => cases l <;> simp [Rows.uptoBulk]
    | nil => simp [Rows.uptoBulk]
    | ptr d => simp [Rows.uptoBulk]
    | slice elems spare => simp [Rows.uptoBulk]
    | agg parts => simp [Rows.uptoBulk]
    | iface t d => simp [Rows.uptoBulk]
    | map entries => simp [Rows.uptoBulk]
    | held h => simp [Rows.uptoBulk]
  have part_le : ∀ (l : List (DataW H)) (d : DataW H), d ∈ l → Rows.uptoBulk d ≤ Rows.uptoBulkAll l := by
    intro l
    induction l with
    | nil => intro d h; cases h
    | cons x r ih =>
      intro d h
      simp only [Rows.uptoBulkAll]
      cases List.mem_cons.1 h with
      | inl e => subst e; omega
      | inr e => have := ih d e; omega
  have length_le : ∀ (l : List (DataW H)), l.length ≤ Rows.uptoBulkAll l := by
    intro l
    induction l with
    | nil => simp [Rows.uptoBulkAll]
    | cons x r ih => have := one_le x; simp only [Rows.uptoBulkAll, List.length_cons]; omega
  refine ⟨fun bytes => by simp [Rows.uptoBulk], fun e s => ?_, fun e s d h => ?_, fun l d h => ?_⟩
  · have := length_le e; simp only [Rows.uptoBulk]; omega
  · have := part_le e d h; simp only [Rows.uptoBulk]; omega
  · have := part_le l d h; simp only [Rows.uptoBulk]; omega

theorem bulk_le {H : Type} {l : List (DataW H)} (hk : Rows.uptoSmall H l = true) : Rows.uptoBulkAll l ≤ 1048576 := of_decide_eq_true hk

/-- From what a function does with pure data to its call at read arguments. -/
theorem law_calls {f : FuncId} {fn : Func} {H : Type} {enc : TypeId × Value → H} {W : World} {args : Array Value} {ds gs : List (DataW H)} {before : List MemPlace} {s : ChangeSpec} {tb : TypeId} {xs : List PV}
    (hac : AC Tryd.prog f (xs.map .pv) [] (.pv (vbool true)) []) (hlen : args.size = xs.length) (hx : ∀ (i : Nat) (p : PV), xs[i]? = some p → PR W (fun _ => False) p (args.getD i undef))
    (hr : ∀ t ∈ fn.params.toList, Tryd.prog.readableRec t = true ∧ t < Tryd.prog.types.size)
    (hres : fn.resultTypes = #[tb]) (htb : Tryd.prog.underlying tb = some .bool) (hv : s.vars = []) (hfn : s.fn H ds = { results := [.lit (.bool true)], args := ds })
    (hW : DataW.Whole enc Tryd.prog fn.params.toList s.vars false W args.toList ds gs before) (hg : Glob W (fun _ => False)) :
    Calls Tryd.prog f args W fun e W' => ∃ v, e = .returned v ∧ s.post enc Tryd.prog fn false true false false W args v W' := by
  refine (hac.calls hg (by simpa using hlen) (fun i x e => ?_)).mono ?_
  · rw [List.getElem?_map] at e
    cases hp : xs[i]? with
    | none => rw [hp] at e; cases e
    | some p =>
      rw [hp] at e
      cases e
      exact .pv _ _ (hx i p hp)
  · rintro e W' ⟨v, rfl, hv2, hb⟩
    cases hv2
    exact ⟨_, rfl, law_post laidOut hr hres htb hv hfn hb hW⟩

end Go.Proofs.YthelcfpfbnhcjaaDoor

namespace Go.Abs

theorem bytesLess_iff : ∀ (x y : List UInt8), Op.bytesLess x y = true ↔ x < y
  | [], [] => by simp [Op.bytesLess]
  | [], _ :: _ => by simp [Op.bytesLess]
  | _ :: _, [] => by simp [Op.bytesLess]
  | a :: x, b :: y => by
    have ih := bytesLess_iff x y
    simp only [Op.bytesLess, List.cons_lt_cons_iff]
    by_cases h1 : a < b
    · simp [h1]
    · by_cases h2 : a = b
      · subst h2; simp [ih]
      · simp [h1, h2, ih]
        try (intro h3; exact h2 (UInt8.le_antisymm (UInt8.not_lt.1 h3) (UInt8.not_lt.1 h1)))

/-- < of strings -/
def sLt (a b : ByteArray) : Bool := Op.bytesLess a.toList b.toList

theorem sLt_iff {a b : ByteArray} : sLt a b = true ↔ a.data.toList < b.data.toList := by
  unfold sLt
  rw [bytesLess_iff, ByteArray.toList_eq, ByteArray.toList_eq]

theorem sLt_irrefl (a : ByteArray) : sLt a a = false := by
  rw [← Bool.not_eq_true, sLt_iff]
  exact List.lt_irrefl _

theorem sLt_trans {a b c : ByteArray} (h : sLt a b = true) (k : sLt b c = true) : sLt a c = true := by
  rw [sLt_iff] at *
  exact List.lt_trans h k

theorem sLt_asymm {a b : ByteArray} (h : sLt a b = true) : sLt b a = false := by
  rw [← Bool.not_eq_true]
  intro k
  have := sLt_trans h k
  rw [sLt_irrefl] at this; cases this

theorem sLt_total {a b : ByteArray} (h : a ≠ b) : sLt a b = true ∨ sLt b a = true := by
  rw [sLt_iff, sLt_iff]
  rcases Classical.em (a.data.toList < b.data.toList) with h1 | h1
  · exact .inl h1
  · rcases Classical.em (b.data.toList < a.data.toList) with h2 | h2
    · exact .inr h2
    · exfalso
      apply h
      have := List.le_antisymm (List.not_lt.1 h1) (List.not_lt.1 h2)
      cases a; cases b
      congr 1
      exact (Array.toList_inj.1 this).symm

end Go.Abs

namespace Go.Abs
open Go.Proofs
set_option maxRecDepth 10000

theorem keyLess_def (a b : Key) : keyLess a b = if a.dev ≠ b.dev then decide (a.dev < b.dev) else if a.cluster ≠ b.cluster then sLt a.cluster b.cluster else sLt a.attr b.attr := rfl

theorem keyLess_irrefl (a : Key) : keyLess a a = false := by
  rw [keyLess_def]; simp [sLt_irrefl]

theorem keyLess_total {a b : Key} (h : a ≠ b) : keyLess a b = true ∨ keyLess b a = true := by
  rw [keyLess_def, keyLess_def]
  by_cases h1 : a.dev = b.dev
  · by_cases h2 : a.cluster = b.cluster
    · by_cases h3 : a.attr = b.attr
      · exfalso; apply h; cases a; cases b; simp_all
      · simp [h1, h2]; exact sLt_total h3
    · simp [h1, h2, Ne.symm h2]; exact sLt_total h2
  · simp [h1, Ne.symm h1]; omega

theorem keyLess_trans {a b c : Key} (h : keyLess a b = true) (k : keyLess b c = true) : keyLess a c = true := by
  rw [keyLess_def] at *
  by_cases h1 : a.dev = b.dev <;> by_cases k1 : b.dev = c.dev
  · by_cases h2 : a.cluster = b.cluster <;> by_cases k2 : b.cluster = c.cluster
    · simp_all; exact sLt_trans h k
    · simp_all
    · have : a.cluster ≠ c.cluster := fun e => h2 (e.trans k2.symm)
      simp_all
    · have h3 : sLt a.cluster b.cluster = true := by simp_all
      have k3 : sLt b.cluster c.cluster = true := by simp_all
      have t := sLt_trans h3 k3
      have : a.cluster ≠ c.cluster := fun e => by rw [e, sLt_irrefl] at t; cases t
      simp [h1, k1, this]; exact t
  · simp [h1, k1] at h k ⊢; exact k
  · have : a.dev ≠ c.dev := fun e => h1 (e.trans k1.symm)
    simp [h1] at h
    simp [this]; omega
  · simp [h1] at h
    simp [k1] at k
    have : a.dev ≠ c.dev := by omega
    simp [this]; omega

theorem keyLess_asymm {a b : Key} (h : keyLess a b = true) : keyLess b a = false := by
  rw [← Bool.not_eq_true]
  intro k
  have := keyLess_trans h k
  rw [keyLess_irrefl] at this; cases this

theorem key_eq (a b : Key) : (decide (a.dev = b.dev) && (decide (a.cluster = b.cluster) && (decide (a.attr = b.attr) && true))) = decide (a = b) := by
  obtain ⟨a1, a2, a3⟩ := a
  obtain ⟨b1, b2, b3⟩ := b
  rw [Bool.eq_iff_iff]; simp

end Go.Abs

namespace Go.Abs
open Go.RowKit Go.Shelf Go.Sort
variable [Globals]

theorem grown_of_ext {w w' : World} (ho : w'.os = w.os) (ht : w'.tape = w.tape) (hp : w'.output = w.output) (hs : w.heap.size ≤ w'.heap.size) (hb : ∀ b, b < w.heap.size → w'.heap[b]? = w.heap[b]?) (hd : w.drawn ≤ w'.drawn) :
    ∃ q os', w' = grow (w.drewN q) os' := by
  refine ⟨w'.drawn - w.drawn, w'.heap.extract w.heap.size w'.heap.size, ?_⟩
  obtain ⟨heap, tape, drawn, os, output⟩ := w
  obtain ⟨heap', tape', drawn', os', output'⟩ := w'
  simp only at *
  subst ho; subst ht; subst hp
  simp only [grow, World.drewN, World.mk.injEq, true_and, and_true]
  refine ⟨?_, by omega⟩
  apply Array.ext_getElem?
  intro i
  rw [Array.getElem?_append]
  split
  · rename_i h; exact hb i h
  · rename_i h
    by_cases h2 : i < heap'.size
    · rw [Array.getElem?_extract]
      rw [if_pos (by omega)]
      congr 1; omega
    · rw [Array.getElem?_eq_none (by omega), Array.getElem?_eq_none (by simp; omega)]

section
variable {P : Program} {ρ : Ren} {α : Type} [Inhabited α]

theorem sortWorld_same {encV : α → List Value} {k : Nat} {M : Nat → Prop} {w : World} {b m : Nat} {dk : Array α} {os : Array Obj} (hb : M b) : Same M w (Proofs.sortWorldK encV k w b 0 m dk os) := by
  unfold Proofs.sortWorldK grow
  refine ⟨by simp [putRowK, Sort.ahead], fun c hc hm => ?_⟩
  have hne : b ≠ c := fun e => hm (e ▸ hb)
  show ((putRowK encV k (Sort.ahead w m) b 0 dk).heap ++ os)[c]? = _
  rw [Array.getElem?_append_left (by simp [putRowK, Sort.ahead]; exact hc)]
  simp only [putRowK, putRow, mapBlock, Sort.ahead]
  rw [Array.getElem?_modify]
  simp [hne]

theorem agg_vals {W : World} {M : Nat → Prop} {l : List Value} (h1 : ∀ v ∈ l, v.oneCell' = true) : PR W M (.agg (l.map .val)) (.agg l.toArray) := by
  refine .agg _ _ (by simp) (fun i p e => ?_) (fun i hi' => ?_)
  · rw [List.getElem?_map] at e
    cases hq : l[i]? with
    | none => rw [hq] at e; cases e
    | some q =>
      rw [hq] at e; cases e
      have : l.toArray.getD i undef = q := by simp [Array.getD_eq_getD_getElem?, hq]
      rw [this]; exact .val q
  · have hlt : i < l.length := by simpa using hi'
    have := h1 l[i] (List.getElem_mem hlt)
    simpa [Array.getD, hlt] using this

theorem two_args {W : World} {St M : Nat → Prop} {σ : Sig} {p q : PV} {u v : Value} (hu : PR W M p u) (hv : PR W M q v) : ∀ (i : Nat) (z : AV), [AV.pv p, AV.pv q][i]? = some z → AR P W St M σ z (#[u, v].getD i undef) := by
  intro i z e
  match i, e with
  | 0, e => cases e; exact .pv _ _ hu
  | 1, e => cases e; exact .pv _ _ hv
  | i + 2, e => simp at e

theorem ac_grown {g : FuncId} {p q : PV} {n : Int} (h : AC P g [.pv p, .pv q] [] (.pv (.val (.int .i64 n))) []) {M : Nat → Prop} {W : World} {u v : Value} (hM : ∀ b, M b → b < W.heap.size) (hG : Glob W M) (hu : PR W M p u) (hv : PR W M q v) :
    Calls P g #[u, v] W fun e w' => e = .returned (.int .i64 n) ∧ ∃ r os', w' = grow (W.drewN r) os' := by
  have hMo : ∀ b, Mof M (fun _ => none) b ↔ M b := fun b => ⟨fun h => h.elim id (fun ⟨l, loc, e, _⟩ => (by cases e)), fun h => .inl h⟩
  have hMe : Mof M (fun _ => none) = M := funext fun b => propext (hMo b)
  have hinv : Inv (fun _ => False) M (fun _ => none) W := by
    refine ⟨fun l l' loc loc' c e => (by cases e), fun c ⟨l, loc, e, _⟩ => (by cases e), fun c h => ⟨hM c h, fun ⟨l, loc, e, _⟩ => by cases e⟩, fun c h => h.elim, ?_⟩
    rw [hMe]; exact hG
  refine (h.2 (fun _ => False) M (fun _ => none) W #[u, v] hinv (fun _ _ => rfl) (fun l o e => by simp [getO] at e) rfl (two_args (by rw [hMe]; exact hu) (by rw [hMe]; exact hv))).mono (fun e w' he => ?_)
  obtain ⟨v, σ', rfl, hp⟩ := he
  have hv := pr_val (arg_pv hp.val)
  subst hv
  refine ⟨rfl, grown_of_ext hp.ext.os hp.ext.tape hp.ext.output hp.ext.size (fun c hc => hp.ext.block c hc ?_) hp.ext.drawn⟩
  rintro ⟨l, loc, h, _⟩
  exact h rfl

theorem cmpLays_of_ac {g : FuncId} {encV : α → List Value} {k : Nat} {cf : α → α → Int} (h1 : ∀ x, ∀ v ∈ encV x, v.oneCell' = true)
    (hg : ∀ x y, AC P g [.pv (.agg ((encV x).map .val)), .pv (.agg ((encV y).map .val))] [] (.pv (.val (.int .i64 (cf x y)))) [])
    {St M0 : Nat → Prop} {σ : Sig} {w : World} (hi : Inv St M0 σ w) {b size : Nat} (hb : owned σ b) : Proofs.CmpLays P g #[] encV k cf b 0 size w := by
  intro m os dk hdk x y
  have hsame : Same (Mof M0 σ) w (Proofs.sortWorldK encV k w b 0 m dk os) := sortWorld_same (.inr hb)
  rw [Array.append_empty]
  exact ac_grown (hg x y) (M := Mof M0 σ) (fun c h => Nat.lt_of_lt_of_le (h.elim (fun h => (hi.m0 c h).1) (hi.lt c)) hsame.1) (hi.gl.mono hsame (fun c _ h => h)) (agg_vals (h1 x)) (agg_vals (h1 y))

theorem sortWorld_ext {encV : α → List Value} {k : Nat} {w : World} {b n : Nat} {d : Array α} {os : Array Obj} : FExt (fun c => c = b) w (Proofs.sortWorldK encV k w b 0 n d os) := by
  refine ⟨rfl, rfl, rfl, by simp [Proofs.sortWorldK, grow, putRowK, Sort.ahead], fun c hc hne => ?_, by simp [Proofs.sortWorldK, grow, putRowK, putRow, mapBlock, Sort.ahead]⟩
  show ((putRowK encV k (Sort.ahead w n) b 0 d).heap ++ os)[c]? = _
  rw [Array.getElem?_append_left (by simp [putRowK, Sort.ahead]; exact hc)]
  simp only [putRowK, putRow, mapBlock, Sort.ahead]
  rw [Array.getElem?_modify]
  simp [Ne.symm hne]

theorem sortWorld_row {encV : α → List Value} {k : Nat} {w : World} {b n : Nat} {d : Array α} {os : Array Obj} {vs : Array Value} {t : TypeId} (hb : w.heap[b]? = some (.cells vs t (0, 0))) :
    (Proofs.sortWorldK encV k w b 0 n d os).heap[b]? = some (.cells (Sort.putCells id 0 (flatK encV k d) vs) t (0, 0)) := by
  have hlt := lt_of_block hb
  show ((putRowK encV k (Sort.ahead w n) b 0 d).heap ++ os)[b]? = _
  rw [Array.getElem?_append_left (by simp [putRowK, Sort.ahead]; exact hlt)]
  simp only [putRowK, putRow, mapBlock, Sort.ahead]
  rw [Array.getElem?_modify]
  simp [hb, onCells]

theorem AC.sortFunc (L : Proofs.SlLaysF0.n6 P ρ) (k : Nat) (aE : ∀ w, (isAgg (ρ.t 24)).run P w = .ok true w) (zE : ∀ w, (Go.sizeOf (ρ.t 24)).run P w = .ok k w) (encV : α → List Value) (hk : ∀ x, (encV x).length = k) (h1 : ∀ x, ∀ v ∈ encV x, v.oneCell' = true) (cf : α → α → Int) (hO : SWO (Proofs.ltOf cf)) (g : FuncId)
    (hg : ∀ x y, AC P g [.pv (.agg ((encV x).map .val)), .pv (.agg ((encV y).map .val))] [] (.pv (.val (.int .i64 (cf x y)))) []) (hT : ∀ x y, Proofs.ltOf cf x y = false → Proofs.ltOf cf y x = false → x = y)
    (hcall : ∀ (vals : Array Value) (w : World), (callFunc (ρ.f 6) vals).run P w = .ok (.enter (ρ.f 6) vals) w) (l : List α) (hl : l.length < 4611686018427387904) :
    AC P (ρ.f 6) [.own 0, .fn g []] [(0, .row k l.length fun i => (encV (l.getD i default)).map .val)] (.pv (.tup [])) [(0, .row k l.length fun i => (encV ((l.mergeSort fun x y => !(Proofs.ltOf cf) y x).getD i default)).map .val)] := by
  refine ⟨hcall, fun St M0 σ w vals hi hσ hos hsz hA => ?_⟩
  obtain ⟨loc, hloc, hor⟩ := hos 0 _ (by simp [getO]; rfl)
  have hv0 := arg_own (hA 0 (.own 0) rfl) hloc
  have hv1 := hA 1 (.fn g []) rfl
  have hvals : vals = #[vals.getD 0 undef, vals.getD 1 undef] := by
    have hs2 : vals.size = 2 := hsz
    apply Array.ext
    · simpa using hs2
    · intro i h2 h3
      have : i = 0 ∨ i = 1 := by omega
      rcases this with rfl | rfl <;> simp [Array.getD, hs2]
  have hfv : vals.getD 1 undef = .func (.func g) #[] #[] := by
    generalize vals.getD 1 undef = v at hv1
    cases hv1 with
    | fn f caps vs hlc _ =>
      have : vs = #[] := by simpa using hlc
      rw [this]
  rw [hvals, hv0, hfv]
  have done : ∀ w' : World, w' = w → l.length = 0 → ∃ v σ', Ending.returned (.tuple #[]) = .returned v ∧ Post P St M0 σ w [(0, .row k l.length fun i => (encV ((l.mergeSort fun x y => !(Proofs.ltOf cf) y x).getD i default)).map .val)] (.pv (.tup [])) σ' v w' := by
    rintro w' rfl hl0
    refine ⟨_, σ, rfl, Post.redo hi ⟨loc, hloc, ?_⟩ (.pv _ _ (.tup _ _ rfl fun i p e => by simp at e))⟩
    have h0 : l = [] := List.length_eq_zero_iff.1 hl0
    subst h0
    simpa using hor
  generalize hn0 : l.length = n0 at hor
  cases hor with
  | row0 _ _ a =>
    refine (Proofs.AnyF.slices_SortFunc_none L a 0 _ w).mono (fun e w' h => ?_)
    obtain ⟨rfl, hw⟩ := h
    have h5 := done w' hw hn0
    rw [hn0] at h5
    exact h5
  | row _ _ _ b cap vs t hb hn hmax hsz' hs hh hone =>
    subst hn0
    by_cases h0 : l.length = 0
    · have none' : ∀ n, n = 0 → Calls P (ρ.f 6) #[.slice (some ⟨b, 0, none⟩) n cap, .func (.func g) #[] #[]] w fun e w' => e = .returned (.tuple #[]) ∧ w' = w := by
        intro n hn
        rw [hn]
        exact Proofs.AnyF.slices_SortFunc_none L (some ⟨b, 0, none⟩) cap (.func (.func g) #[] #[]) w
      have := none' l.length h0
      refine this.mono (fun e w' h => ?_)
      obtain ⟨rfl, hw⟩ := h
      exact done w' hw h0
    · have hblk := lt_of_block hb
      have hget : ∀ j, j < l.length * k → vs.getD j undef = (flatK encV k l.toArray)[j]! := by
        intro j hj
        have k0 : 0 < k := by rcases Nat.eq_zero_or_pos k with h | h; · subst h; simp at hj
                              · exact h
        have hd : j / k < l.length := (Nat.div_lt_iff_lt_mul k0).2 hj
        have hm : j % k < (encV (l.getD (j / k) default)).length := by rw [hk]; exact Nat.mod_lt _ k0
        have hp := hh (j / k) hd (j % k) (.val ((encV (l.getD (j / k) default))[j % k]'hm)) (by simp [hm])
        have hp := pr_val hp
        rw [show j / k * k + j % k = j from by rw [Nat.mul_comm]; exact Nat.div_add_mod j k] at hp
        rw [hp, get_flatK _ _ _ _ (by simpa using hj)]
        have e1 : l.toArray[j / k]! = l.getD (j / k) default := by simp [List.getD, hd]
        rw [e1, getElem!_pos (encV (l.getD (j / k) default)) (j % k) hm]
      have hH : HoldsK encV k w b 0 l.toArray := by
        intro j hj
        have hj' : j < l.length * k := by simpa using hj
        have hlt : j < vs.size := by rw [hsz']; exact Nat.lt_of_lt_of_le hj' (Nat.mul_le_mul_right _ hn)
        refine ⟨?_, ?_⟩
        · rw [Nat.zero_add, id, ← hget j hj']
          simp [World.cell?, hb, Array.getD, hlt]
        · simp [World.frozen?, hb]
      have hown : owned σ b := ⟨0, _, hloc, rfl⟩
      have := Proofs.AnyQ.slices_SortFunc_total L k aE zE encV hk h1 cf hO g #[] b 0 cap l.toArray w (hg default default).1 (cmpLays_of_ac h1 hg hi hown) hH hblk (by simpa using hl) hT
      have e0 : (l.toArray).size = l.length := by simp
      rw [e0] at this
      refine this.mono ?_
      rintro e w' ⟨rfl, n, os, rfl⟩
      have hx := sortWorld_ext (encV := encV) (k := k) (w := w) (b := b) (n := n) (d := (l.toArray.toList.mergeSort fun x y => !(Proofs.ltOf cf) y x).toArray) (os := os)
      have hrow := sortWorld_row (encV := encV) (k := k) (w := w) (b := b) (n := n) (d := (l.toArray.toList.mergeSort fun x y => !(Proofs.ltOf cf) y x).toArray) (os := os) hb
      have hlm : (l.mergeSort fun x y => !(Proofs.ltOf cf) y x).length = l.length := List.length_mergeSort _
      refine ⟨_, σ, rfl, Post.upd hi hloc rfl hx (by simp) (.row _ _ _ b cap _ t hrow hn hmax (by simp [Sort.putCells, hsz']) (fun i hi' => by simp [hk]) (fun i hi' j p e => ?_) (fun i hi' => ?_)) (.pv _ _ (.tup _ _ rfl fun i p e => by simp at e))⟩
      · rw [List.getElem?_map] at e
        cases hq : (encV ((l.mergeSort fun x y => !(Proofs.ltOf cf) y x).getD i default))[j]? with
        | none => rw [hq] at e; cases e
        | some q =>
          rw [hq] at e; cases e
          have hj : j < k := by have := (List.getElem?_eq_some_iff.1 hq).1; rwa [hk] at this
          have hlt : i * k + j < l.length * k := idx_lt hi' hj
          have hltv : i * k + j < vs.size := by rw [hsz']; exact Nat.lt_of_lt_of_le hlt (Nat.mul_le_mul_right _ hn)
          have : (Sort.putCells id 0 (flatK encV k (l.toArray.toList.mergeSort fun x y => !(Proofs.ltOf cf) y x).toArray) vs).getD (i * k + j) undef = q := by
            simp only [Sort.putCells, Array.getD, Array.size_mapIdx, hltv, dif_pos, Array.getInternal_eq_getElem, Array.getElem_mapIdx]
            rw [if_pos (by simp [hlm]; exact hlt)]
            rw [Nat.sub_zero, id, get_flatK _ _ _ _ (by simp [hlm]; exact hlt)]
            have e1 : (i * k + j) / k = i := by rw [Nat.add_comm, Nat.add_mul_div_right _ _ (by omega), Nat.div_eq_of_lt hj, Nat.zero_add]
            have e2 : (i * k + j) % k = j := by rw [Nat.add_comm, Nat.add_mul_mod_self_right, Nat.mod_eq_of_lt hj]
            rw [e1, e2]
            have e3 : (l.toArray.toList.mergeSort fun x y => !(Proofs.ltOf cf) y x).toArray[i]! = (l.mergeSort fun x y => !(Proofs.ltOf cf) y x).getD i default := by
              have : i < (l.mergeSort fun x y => !(Proofs.ltOf cf) y x).length := by omega
              simp [List.getD, this]
            rw [e3]
            have hj2 := (List.getElem?_eq_some_iff.1 hq)
            obtain ⟨h3, h4⟩ := hj2
            rw [getElem!_pos (encV ((l.mergeSort fun x y => !(Proofs.ltOf cf) y x).getD i default)) j h3, h4]
          rw [this]; exact .val q
      · have hltv : i < vs.size := by simpa [Sort.putCells] using hi'
        simp only [Sort.putCells, Array.getD, Array.size_mapIdx, hltv, dif_pos, Array.getInternal_eq_getElem, Array.getElem_mapIdx]
        split
        · rename_i hc
          have hf : i - 0 < (flatK encV k (l.toArray.toList.mergeSort fun x y => !(Proofs.ltOf cf) y x).toArray).size := by
            have := hc.2
            simp only [Nat.zero_add, Nat.sub_zero] at this ⊢
            exact this
          have k0 : 0 < k := by rcases Nat.eq_zero_or_pos k with h | h; · subst h; simp at hf
                                · exact h
          rw [id, get_flatK _ _ _ _ (by simpa using hf)]
          have hm : (i - 0) % k < (encV (l.toArray.toList.mergeSort fun x y => !(Proofs.ltOf cf) y x).toArray[(i - 0) / k]!).length := by rw [hk]; exact Nat.mod_lt _ k0
          rw [getElem!_pos (encV (l.toArray.toList.mergeSort fun x y => !(Proofs.ltOf cf) y x).toArray[(i - 0) / k]!) ((i - 0) % k) hm]
          exact h1 _ _ (List.getElem_mem hm)
        · have := hone i hltv
          simpa [Array.getD, hltv] using this
end

end Go.Abs

namespace Go.Abs

theorem getD_getElem {α : Type} (l : List α) {i : Nat} (d : α) (h : i < l.length) : l.getD i d = l[i] := by simp [List.getD, h]

def Asc (l : List Key) : Prop := l.Pairwise fun a b => keyLess a b = true

theorem asc_ext : ∀ {l k : List Key}, Asc l → Asc k → (∀ x, x ∈ l ↔ x ∈ k) → l = k
  | [], [], _, _, _ => rfl
  | [], b :: k, _, _, h => by have := (h b).2 (by simp); simp at this
  | a :: l, [], _, _, h => by have := (h a).1 (by simp); simp at this
  | a :: l, b :: k, hl, hk, h => by
    obtain ⟨hl1, hl2⟩ := List.pairwise_cons.1 hl
    obtain ⟨hk1, hk2⟩ := List.pairwise_cons.1 hk
    have e : a = b := by
      have h1 := (h a).1 (by simp)
      have h2 := (h b).2 (by simp)
      rcases List.mem_cons.1 h1 with e | h1
      · exact e
      · rcases List.mem_cons.1 h2 with e | h2
        · exact e.symm
        · have := keyLess_asymm (hl1 b h2)
          rw [hk1 a h1] at this; cases this
    subst e
    congr 1
    refine asc_ext hl2 hk2 fun x => ⟨fun hx => ?_, fun hx => ?_⟩
    · rcases List.mem_cons.1 ((h x).1 (by simp [hx])) with e | h1
      · subst e; have := hl1 x hx; rw [keyLess_irrefl] at this; cases this
      · exact h1
    · rcases List.mem_cons.1 ((h x).2 (by simp [hx])) with e | h1
      · subst e; have := hk1 x hx; rw [keyLess_irrefl] at this; cases this
      · exact h1

/-- homehubref22.Put -/
def putK : List Key → Key → List Key
  | [], k => [k]
  | x :: r, k => if keyLess x k = true then x :: putK r k else k :: (x :: r).filter fun y => decide (y ≠ k)

theorem mem_putK {l : List Key} {k x : Key} : x ∈ putK l k ↔ x = k ∨ x ∈ l := by
  induction l with
  | nil => simp [putK]
  | cons y r ih =>
    unfold putK
    split
    · simp only [List.mem_cons, ih]
      constructor
      · rintro (h | h | h)
        · exact .inr (.inl h)
        · exact .inl h
        · exact .inr (.inr h)
      · rintro (h | h | h)
        · exact .inr (.inl h)
        · exact .inl h
        · exact .inr (.inr h)
    · simp only [List.mem_cons, List.mem_filter, decide_eq_true_eq]
      constructor
      · rintro (h | ⟨h, _⟩)
        · exact .inl h
        · exact .inr h
      · rintro (h | h)
        · exact .inl h
        · by_cases e : x = k
          · exact .inl e
          · exact .inr ⟨h, e⟩

theorem asc_putK {l : List Key} {k : Key} (h : Asc l) : Asc (putK l k) := by
  induction l with
  | nil => simp [putK, Asc]
  | cons y r ih =>
    obtain ⟨h1, h2⟩ := List.pairwise_cons.1 h
    unfold putK
    split
    · rename_i hy
      refine List.pairwise_cons.2 ⟨fun x hx => ?_, ih h2⟩
      rcases mem_putK.1 hx with rfl | hx
      · exact hy
      · exact h1 x hx
    · rename_i hy
      refine List.pairwise_cons.2 ⟨fun x hx => ?_, h.sublist (List.filter_sublist)⟩
      rw [List.mem_filter, decide_eq_true_eq] at hx
      obtain ⟨hx, hne⟩ := hx
      rcases List.mem_cons.1 hx with rfl | hx
      · exact (keyLess_total hne).resolve_left hy
      · have h3 := h1 x hx
        rcases keyLess_total hne with h4 | h4
        · exact absurd (keyLess_trans h3 h4) hy
        · exact h4

/-- keys in ascending order, each once -/
def sortK (l : List Key) : List Key := l.foldl putK []

theorem foldl_putK_mem {l acc : List Key} {x : Key} : x ∈ l.foldl putK acc ↔ x ∈ acc ∨ x ∈ l := by
  induction l generalizing acc with
  | nil => simp
  | cons y r ih =>
    simp only [List.foldl_cons, ih, mem_putK, List.mem_cons]
    constructor
    · rintro ((h | h) | h)
      · exact .inr (.inl h)
      · exact .inl h
      · exact .inr (.inr h)
    · rintro (h | h | h)
      · exact .inl (.inr h)
      · exact .inl (.inl h)
      · exact .inr h

theorem foldl_putK_asc {l acc : List Key} (h : Asc acc) : Asc (l.foldl putK acc) := by
  induction l generalizing acc with
  | nil => exact h
  | cons y r ih => exact ih (asc_putK h)

theorem mem_sortK {l : List Key} {x : Key} : x ∈ sortK l ↔ x ∈ l := by unfold sortK; rw [foldl_putK_mem]; simp
theorem asc_sortK (l : List Key) : Asc (sortK l) := foldl_putK_asc List.Pairwise.nil
theorem sortK_congr {l k : List Key} (h : ∀ x, x ∈ l ↔ x ∈ k) : sortK l = sortK k := asc_ext (asc_sortK l) (asc_sortK k) fun x => by rw [mem_sortK, mem_sortK, h]
theorem sortK_asc {l : List Key} (h : Asc l) : sortK l = l := asc_ext (asc_sortK l) h fun x => mem_sortK
theorem Asc.nodup {l : List Key} (h : Asc l) : l.Nodup := by
  refine List.Pairwise.imp (fun {a b} hab => ?_) h
  intro e; subst e; rw [keyLess_irrefl] at hab; cases hab
theorem putK_length (l : List Key) (k : Key) : (putK l k).length ≤ l.length + 1 := by
  induction l with
  | nil => simp [putK]
  | cons y r ih =>
    unfold putK
    split
    · simp only [List.length_cons]; omega
    · simp only [List.length_cons]
      have := List.length_filter_le (fun z => decide (z ≠ k)) (y :: r)
      simp only [List.length_cons] at this
      omega
theorem foldl_putK_length {l acc : List Key} : (l.foldl putK acc).length ≤ acc.length + l.length := by
  induction l generalizing acc with
  | nil => simp
  | cons y r ih =>
    have h1 := ih (acc := putK acc y)
    have h2 := putK_length acc y
    simp only [List.foldl_cons, List.length_cons]; omega
theorem sortK_length (l : List Key) : (sortK l).length ≤ l.length := by
  have := foldl_putK_length (l := l) (acc := [])
  simpa [sortK] using this

/-- one of each run of equal ones, of the first m -/
def compTo (l : List Key) : Nat → List Key
  | 0 => []
  | m + 1 => if m = 0 ∨ l.getD m default ≠ l.getD (m - 1) default then compTo l m ++ [l.getD m default] else compTo l m

theorem compTo_length (l : List Key) : ∀ m, (compTo l m).length ≤ m
  | 0 => Nat.le_refl _
  | m + 1 => by
    have := compTo_length l m
    unfold compTo
    split
    · simp; omega
    · omega

theorem compTo_take {l : List Key} : ∀ {m : Nat}, m ≤ l.length → (∀ j, 1 ≤ j → j < m → l.getD j default ≠ l.getD (j - 1) default) → compTo l m = l.take m
  | 0, _, _ => by simp [compTo]
  | m + 1, hm, h => by
    have ih := compTo_take (l := l) (m := m) (by omega) (fun j h1 h2 => h j h1 (by omega))
    unfold compTo
    rw [if_pos, ih, take_succ_getD (by omega)]
    by_cases e : m = 0
    · exact .inl e
    · exact .inr (h m (by omega) (by omega))

/-- in order, equal ones allowed -/
def Ord (l : List Key) : Prop := ∀ i j, i < j → j < l.length → keyLess (l.getD j default) (l.getD i default) = false

theorem compTo_spec {s : List Key} (hs : Ord s) : ∀ m, m ≤ s.length → Asc (compTo s m) ∧ ∀ x, x ∈ compTo s m ↔ ∃ i, i < m ∧ s.getD i default = x
  | 0, _ => ⟨List.Pairwise.nil, fun x => by simp [compTo]⟩
  | m + 1, hm => by
    obtain ⟨h1, h2⟩ := compTo_spec hs m (by omega)
    unfold compTo
    split
    · rename_i hne
      refine ⟨List.pairwise_append.2 ⟨h1, by simp, fun a ha b hb => ?_⟩, fun x => ?_⟩
      · simp only [List.mem_singleton] at hb
        subst hb
        obtain ⟨i, hi, rfl⟩ := (h2 a).1 ha
        have hle := hs i m hi (by omega)
        by_cases e : s.getD i default = s.getD m default
        · exfalso
          have hne := hne.resolve_left (by omega)
          have h3 := hs (m - 1) m (by omega) (by omega)
          have h4 : keyLess (s.getD (m - 1) default) (s.getD m default) = false := by
            by_cases ei : i = m - 1
            · subst ei; rw [e]; exact keyLess_irrefl _
            · rw [← e]; exact hs i (m - 1) (by omega) (by omega)
          rcases keyLess_total hne with h5 | h5
          · rw [h5] at h3; cases h3
          · rw [h5] at h4; cases h4
        · rcases keyLess_total e with h5 | h5
          · exact h5
          · rw [h5] at hle; cases hle
      · rw [List.mem_append, h2, List.mem_singleton]
        constructor
        · rintro (⟨i, hi, e⟩ | e)
          · exact ⟨i, by omega, e⟩
          · exact ⟨m, by omega, e.symm⟩
        · rintro ⟨i, hi, e⟩
          by_cases ei : i = m
          · subst ei; exact .inr e.symm
          · exact .inl ⟨i, by omega, e⟩
    · rename_i hne
      have hne := not_or.1 hne
      have heq := Classical.not_not.1 hne.2
      refine ⟨h1, fun x => ?_⟩
      rw [h2]
      constructor
      · rintro ⟨i, hi, e⟩; exact ⟨i, by omega, e⟩
      · rintro ⟨i, hi, e⟩
        by_cases ei : i = m
        · subst ei; exact ⟨i - 1, by omega, by rw [← heq]; exact e⟩
        · exact ⟨i, by omega, e⟩

def sortedK (l : List Key) : List Key := l.mergeSort fun x y => !keyLess y x

theorem sortedK_ord (l : List Key) : Ord (sortedK l) := by
  have hp := List.pairwise_mergeSort (le := fun x y : Key => !keyLess y x) (fun a b c h1 h2 => by
    simp only [Bool.not_eq_true'] at *
    cases h3 : keyLess c a with
    | false => rfl
    | true =>
      exfalso
      by_cases e : a = b
      · subst e; rw [h3] at h2; cases h2
      · rcases keyLess_total e with h4 | h4
        · have := keyLess_trans h3 h4; rw [this] at h2; cases h2
        · rw [h4] at h1; cases h1) (fun a b => by
    simp only [Bool.or_eq_true, Bool.not_eq_true']
    cases h : keyLess b a with
    | false => exact .inl rfl
    | true => exact .inr (keyLess_asymm h)) l
  intro i j hij hj
  have hj' : j < (l.mergeSort fun x y => !keyLess y x).length := hj
  have := List.pairwise_iff_getElem.1 hp i j (by omega) hj' hij
  simp only [Bool.not_eq_true'] at this
  unfold sortedK
  rw [getD_getElem _ _ hj', getD_getElem _ _ (show i < (l.mergeSort fun x y => !keyLess y x).length from by omega)]
  exact this

theorem sortedK_length (l : List Key) : (sortedK l).length = l.length := List.length_mergeSort _

theorem comp_sorted (l : List Key) : compTo (sortedK l) l.length = sortK l := by
  obtain ⟨h1, h2⟩ := compTo_spec (sortedK_ord l) l.length (by rw [sortedK_length]; exact Nat.le_refl _)
  refine asc_ext h1 (asc_sortK l) fun x => ?_
  rw [h2, mem_sortK, ← List.mem_mergeSort (le := fun x y => !keyLess y x)]
  show _ ↔ x ∈ sortedK l
  rw [List.mem_iff_getElem]
  constructor
  · rintro ⟨i, hi, e⟩
    exact ⟨i, by rw [sortedK_length]; exact hi, by simpa [List.getD, show i < (sortedK l).length from by rw [sortedK_length]; exact hi] using e⟩
  · rintro ⟨i, hi, e⟩
    exact ⟨i, by rwa [sortedK_length] at hi, by simp [List.getD, hi, e]⟩

theorem sortedK_asc {l : List Key} (h : l.Nodup) : sortedK l = sortK l := by
  have hn : (sortedK l).Nodup := (List.mergeSort_perm l _).nodup_iff.2 h
  rw [← comp_sorted l, compTo_take (by rw [sortedK_length]; exact Nat.le_refl _), ← sortedK_length l, List.take_length]
  intro j h1 h2
  have h3 : j < (sortedK l).length := by rw [sortedK_length]; exact h2
  intro e
  have h5 : j - 1 < (sortedK l).length := by omega
  rw [getD_getElem _ _ h3, getD_getElem _ _ h5] at e
  have := List.pairwise_iff_getElem.1 hn (j - 1) j h5 h3 (by omega)
  exact this e.symm

/-! How slices.SortFunc compares. -/
def cmpK (a b : Key) : Int := if keyLess a b = true then -1 else if keyLess b a = true then 1 else 0

theorem ltOf_cmpK (a b : Key) : Proofs.ltOf cmpK a b = keyLess a b := by
  unfold Proofs.ltOf cmpK
  by_cases h : keyLess a b = true
  · simp [h]
  · by_cases h2 : keyLess b a = true <;> simp [h, h2]

theorem swo_cmpK : Sort.SWO (Proofs.ltOf cmpK) := by
  refine ⟨fun x => by rw [ltOf_cmpK]; exact keyLess_irrefl x, fun x y z h1 h2 => ?_, fun x y z h1 h2 => ?_⟩
  · rw [ltOf_cmpK] at *; exact keyLess_trans h1 h2
  · rw [ltOf_cmpK] at *
    cases h3 : keyLess x z with
    | false => rfl
    | true =>
      exfalso
      by_cases e : y = x
      · subst e; rw [h3] at h2; cases h2
      · rcases keyLess_total e with h4 | h4
        · have := keyLess_trans h4 h3; rw [this] at h2; cases h2
        · rw [h4] at h1; cases h1

theorem parts_cmpK (a b : Key) (h1 : Proofs.ltOf cmpK a b = false) (h2 : Proofs.ltOf cmpK b a = false) : a = b := by
  rw [ltOf_cmpK] at *
  rcases Classical.em (a = b) with e | e
  · exact e
  · rcases keyLess_total e with h | h
    · rw [h] at h1; cases h1
    · rw [h] at h2; cases h2

def vKey (k : Key) : List Value := [.int .i64 k.dev, .string k.cluster, .string k.attr]
theorem vKey_cells (k : Key) : (vKey k).map .val = cKey k := rfl
theorem sortedK_eq (l : List Key) : (l.mergeSort fun x y => !(Proofs.ltOf cmpK) y x) = sortedK l := by
  have : (fun x y : Key => !(Proofs.ltOf cmpK) y x) = fun x y => !keyLess y x := funext fun x => funext fun y => by rw [ltOf_cmpK]
  rw [sortedK, this]

end Go.Abs

namespace Go.Proofs
open Go.Shelf
def Tryd.sortKey_ren : Go.Shelf.Ren := ⟨fun | 6 => 18 | 15 => 37 | 14 => 36 | 28 => 60 | 29 => 61 | 20 => 52 | 21 => 53 | 22 => 54 | 23 => 55 | 24 => 56 | 25 => 57 | 26 => 58 | 27 => 59 | 46 => 72 | 47 => 73 | 48 => 74 | 49 => 75 | 50 => 76 | 57 => 79 | n => n, fun | 22 => 24 | 24 => 33 | 25 => 55 | 3 => 3 | 39 => 83 | 0 => 0 | 53 => 117 | 55 => 61 | 4 => 4 | 46 => 110 | 45 => 109 | 50 => 114 | 5 => 5 | 9 => 9 | 66 => 128 | 70 => 132 | 76 => 136 | 77 => 137 | n => n, fun | n => n⟩
theorem Tryd.sortKey : Go.Proofs.SlLaysF0.n6 Tryd.prog Tryd.sortKey_ren := {
  mixed := by kernel_rfl
  f6 := ⟨Tryd.f18.name, by decide, Tryd.func18.trans (congrArg some (by kernel_rfl))⟩
  f14 := ⟨Tryd.f36.name, by decide, Tryd.func36.trans (congrArg some (by kernel_rfl))⟩
  f15 := Tryd.func37.trans (congrArg some (by kernel_rfl))
  f20 := ⟨Tryd.f52.name, by decide, Tryd.func52.trans (congrArg some (by kernel_rfl))⟩
  f21 := ⟨Tryd.f53.name, by decide, Tryd.func53.trans (congrArg some (by kernel_rfl))⟩
  f22 := ⟨Tryd.f54.name, by decide, Tryd.func54.trans (congrArg some (by kernel_rfl))⟩
  f23 := ⟨Tryd.f55.name, by decide, Tryd.func55.trans (congrArg some (by kernel_rfl))⟩
  f24 := ⟨Tryd.f56.name, by decide, Tryd.func56.trans (congrArg some (by kernel_rfl))⟩
  f25 := ⟨Tryd.f57.name, by decide, Tryd.func57.trans (congrArg some (by kernel_rfl))⟩
  f26 := ⟨Tryd.f58.name, by decide, Tryd.func58.trans (congrArg some (by kernel_rfl))⟩
  f27 := ⟨Tryd.f59.name, by decide, Tryd.func59.trans (congrArg some (by kernel_rfl))⟩
  f28 := Tryd.func60.trans (congrArg some (by kernel_rfl))
  f29 := Tryd.func61.trans (congrArg some (by kernel_rfl))
  f46 := ⟨Tryd.f72.name, by decide, Tryd.func72.trans (congrArg some (by kernel_rfl))⟩
  f47 := Tryd.func73.trans (congrArg some (by kernel_rfl))
  f48 := Tryd.func74.trans (congrArg some (by kernel_rfl))
  f49 := ⟨Tryd.f75.name, by decide, Tryd.func75.trans (congrArg some (by kernel_rfl))⟩
  f50 := ⟨Tryd.f76.name, by decide, Tryd.func76.trans (congrArg some (by kernel_rfl))⟩
  f57 := ⟨Tryd.f79.name, by decide, Tryd.func79.trans (congrArg some (by kernel_rfl))⟩
  t0 := Tryd.underlying0
  a0 := Tryd.isAgg0
  z0 := Tryd.sizeOf0
  v0 := Tryd.zeroValue0
  t3 := Tryd.underlying3
  a3 := Tryd.isAgg3
  z3 := Tryd.sizeOf3
  v3 := Tryd.zeroValue3
  t4 := Tryd.underlying4
  a4 := Tryd.isAgg4
  z4 := Tryd.sizeOf4
  v4 := Tryd.zeroValue4
  t5 := Tryd.underlying5
  a5 := Tryd.isAgg5
  z5 := Tryd.sizeOf5
  v5 := Tryd.zeroValue5
  t9 := Tryd.underlying9
  a9 := Tryd.isAgg9
  z9 := Tryd.sizeOf9
  v9 := Tryd.zeroValue9
  t22 := Tryd.underlying24
  a22 := Tryd.isAgg24
  z22 := Tryd.sizeOf24
  v22 := Tryd.zeroValue24
  t25 := Tryd.underlying55
  a25 := Tryd.isAgg55
  z25 := Tryd.sizeOf55
  v25 := Tryd.zeroValue55
  t39 := Tryd.underlying83
  a39 := Tryd.isAgg83
  z39 := Tryd.sizeOf83
  v39 := Tryd.zeroValue83
  t45 := Tryd.underlying109
  a45 := Tryd.isAgg109
  z45 := Tryd.sizeOf109
  v45 := Tryd.zeroValue109
  t46 := Tryd.underlying110
  a46 := Tryd.isAgg110
  z46 := Tryd.sizeOf110
  v46 := Tryd.zeroValue110
  t50 := Tryd.underlying114
  a50 := Tryd.isAgg114
  z50 := Tryd.sizeOf114
  v50 := Tryd.zeroValue114
  t53 := Tryd.underlying117
  a53 := Tryd.isAgg117
  z53 := Tryd.sizeOf117
  v53 := Tryd.zeroValue117
  t55 := Tryd.underlying61
  a55 := Tryd.isAgg61
  z55 := Tryd.sizeOf61
  v55 := Tryd.zeroValue61
  t66 := Tryd.underlying128
  a66 := Tryd.isAgg128
  z66 := Tryd.sizeOf128
  v66 := Tryd.zeroValue128
  t70 := Tryd.underlying132
  a70 := Tryd.isAgg132
  z70 := Tryd.sizeOf132
  v70 := Tryd.zeroValue132
  t76 := Tryd.underlying136
  a76 := Tryd.isAgg136
  z76 := Tryd.sizeOf136
  v76 := Tryd.zeroValue136
  t77 := Tryd.underlying137
  a77 := Tryd.isAgg137
  z77 := Tryd.sizeOf137
  v77 := Tryd.zeroValue137 }
end Go.Proofs

namespace Go.Abs
open Go.Proofs
set_option maxRecDepth 10000

theorem ac_device_Changed_1 (a b : Key) : AC Tryd.prog 19 [.pv (.agg (cKey a)), .pv (.agg (cKey b))] [] (.pv (vint (cmpK a b))) [] := by
  refine AC.of_awp (T := T) T_ok hm Tryd.call19 Tryd.func19 rfl rfl rfl ?_
  conv => whnf
  repeat (any_goals (first
    | (refine ⟨fun (h : (_ : Bool) = true) => ?_, fun (h : (_ : Bool) = false) => ?_⟩ <;> (try simp only [decide_eq_true_eq, decide_eq_false_iff_not, Bool.not_eq_true', Bool.not_eq_false', Int.toNat_natCast, beq_iff_eq, decide_eq_decide, beq_eq_false_iff_ne, ne_eq, reduceCtorEq] at h) <;> (conv => whnf))
    | (refine .inl ⟨_, ac_device_Less a b, ?_⟩; conv => whnf)
    | (refine .inl ⟨_, ac_device_Less b a, ?_⟩; conv => whnf)
    | (refine And.intro (by (try simp only [Int.toNat_natCast]); omega) ?_; conv => whnf)
    | (refine And.intro (show (_ : Bool) = true from by kernel_rfl) ?_; conv => whnf)
    | (refine .inl ⟨wrap64 (by omega), ?_⟩; conv => whnf)))
  all_goals (try simp only [decide_eq_true_eq, decide_eq_false_iff_not, Bool.not_eq_true', Bool.not_eq_false', Int.toNat_natCast, beq_iff_eq, decide_eq_decide, beq_eq_false_iff_ne, ne_eq, reduceCtorEq] at *)
  all_goals first
    | contradiction
    | (exfalso; omega)
    | exact PSub.rfl
    | (refine PSub.int ?_; simp only [cmpK]; (repeat' split) <;> first | rfl | omega | (simp_all [-List.getD_eq_getElem?_getD]; done) | (simp_all [-List.getD_eq_getElem?_getD]; omega))
    | (refine PSub.sb ?_; simp_all [cmpK, -List.getD_eq_getElem?_getD]; done)
    | (refine PSub.lit_sb ?_; simp_all [cmpK, -List.getD_eq_getElem?_getD]; done)
    | (refine PSub.sb_lit ?_; simp_all [cmpK, -List.getD_eq_getElem?_getD]; done)
    | (refine PSub.sb ?_; rw [Bool.eq_iff_iff]; simp_all [cmpK, -List.getD_eq_getElem?_getD]; done)
    | (refine PSub.lit_sb ?_; rw [Bool.eq_iff_iff]; simp_all [cmpK, -List.getD_eq_getElem?_getD]; done)
    | (refine PSub.sb_lit ?_; rw [Bool.eq_iff_iff]; simp_all [cmpK, -List.getD_eq_getElem?_getD]; done)
    | skip

theorem ac_slices_SortFunc_Key (g : FuncId) (hg : ∀ a b, AC Tryd.prog g [.pv (.agg (cKey a)), .pv (.agg (cKey b))] [] (.pv (vint (cmpK a b))) []) (l : List Key) (hl : l.length ≤ 8388608) :
    AC Tryd.prog 18 [.own 0, .fn g []] [(0, rowL 3 cKey l)] (.pv (.tup [])) [(0, rowL 3 cKey (sortedK l))] := by
  have := AC.sortFunc (α := Key) Tryd.sortKey 3 Tryd.isAgg33 Tryd.sizeOf33 vKey (fun _ => rfl) (fun x v hv => by simp [vKey] at hv; rcases hv with rfl | rfl | rfl <;> rfl) cmpK swo_cmpK g hg parts_cmpK Tryd.call18 l (by omega)
  rw [sortedK_eq] at this
  unfold rowL
  rw [sortedK_length]
  exact this

theorem row_upd {G : Nat → Key} {i : Nat} {x : Key} {n : Nat} : ∀ j, j < n → PSubs (updAt (fun j => cKey (G j)) i 0 (cKey x) j) (cKey (if j = i then x else G j)) := by
  intro j _
  by_cases e : j = i
  · subst e; rw [updAt_same, if_pos rfl]; exact PSubs.rfl
  · rw [updAt_ne e, if_neg e]; exact PSubs.rfl

end Go.Abs
