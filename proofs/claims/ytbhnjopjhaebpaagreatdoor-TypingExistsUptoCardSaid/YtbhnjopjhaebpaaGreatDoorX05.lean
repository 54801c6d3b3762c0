/- Contracts: clusters checked, further. -/
import Derived.Test.YtbhnjopjhaebpaaGreatDoorX04
import Derived.Test.YtbhnjopjhaebpaaGreatDoorX03
import Derived.Test.YtbhnjopjhaebpaaGreatDoorCards
import Derived.Test.YtbhnjopjhaebpaaGreatDoorTie
import Derived.WalkKit

set_option linter.unusedVariables false
set_option linter.unusedSimpArgs false
set_option linter.unusedSectionVars false

namespace Go.Abs
open Go.Proofs
set_option maxRecDepth 10000

theorem placeI_lt {l : List Attr} {s : ByteArray} {k : Nat} (hk : k < l.length) (h : (l.getD k default).name = s) : (placeI l s < (k : Int)) ↔ anyN k (fun j => decide ((l.getD j default).name = s)) = true := by
  have hlt : attrAt l s ≤ k ∧ attrAt l s < l.length := by
    unfold attrAt firstI
    split
    · rename_i i e
      rw [List.find?_range_eq_some] at e
      refine ⟨?_, by simpa using e.2.1⟩
      rcases Nat.lt_or_ge k i with hlt | hge
      · have := e.2.2 k hlt; simp [h, -List.getD_eq_getElem?_getD] at this
      · exact hge
    · rename_i e
      rw [List.find?_eq_none] at e
      have := e k (by simpa using hk)
      simp [h, -List.getD_eq_getElem?_getD] at this
  unfold placeI
  rw [if_pos hlt.2, anyN_iff]
  constructor
  · intro hh
    refine ⟨attrAt l s, by omega, ?_⟩
    unfold attrAt firstI
    split
    · rename_i i e
      rw [List.find?_range_eq_some] at e
      exact e.1
    · rename_i e
      rw [List.find?_eq_none] at e
      have := e k (by simpa using hk)
      simp [h, -List.getD_eq_getElem?_getD] at this
  · rintro ⟨j, hj, e⟩
    have : attrAt l s ≤ j := by
      unfold attrAt firstI
      split
      · rename_i i e2
        rw [List.find?_range_eq_some] at e2
        rcases Nat.lt_or_ge j i with hlt2 | hge
        · have := e2.2.2 j hlt2; rw [e] at this; cases this
        · exact hge
      · rename_i e2
        rw [List.find?_eq_none] at e2
        have := e2 k (by simpa using hk)
        simp [h, -List.getD_eq_getElem?_getD] at this
    omega

theorem ac_r21_Check (c : Clu) (hc : smallK c) : AC Tryz.prog 114 [.pv (.agg (cClu c))] [] (.pv (vint (checkE c))) [] := by
  have hl1 : c.attrs.length ≤ 1048576 := hc.1
  have hl2 : c.commands.length ≤ 1048576 := hc.2.2.1
  have hl3 : c.events.length ≤ 1048576 := hc.2.2.2.2
  refine AC.of_awp (T := T) T_ok hm Tryz.call114 Tryz.func114 rfl rfl rfl ?_
  conv => whnf
  refine .inl ⟨_, ac_r04_Valid c.name, ?_⟩
  conv => whnf
  refine ⟨fun h => ?_, fun h => ?_⟩ <;> (try simp only [decide_eq_true_eq, decide_eq_false_iff_not, Bool.not_eq_true', Bool.not_eq_false', Int.toNat_natCast, beq_iff_eq, decide_eq_decide, beq_eq_false_iff_ne, ne_eq, reduceCtorEq] at h) <;> (conv => whnf)
  · exact PSub.int (by simp [checkE, h, -List.getD_eq_getElem?_getD])
  have hv := h
  refine .inl ⟨_, ac_r21_TooMany c hc, ?_⟩
  conv => whnf
  refine ⟨fun h => ?_, fun h => ?_⟩ <;> (try simp only [decide_eq_true_eq, decide_eq_false_iff_not, Bool.not_eq_true', Bool.not_eq_false', Int.toNat_natCast, beq_iff_eq, decide_eq_decide, beq_eq_false_iff_ne, ne_eq, reduceCtorEq] at h) <;> (conv => whnf)
  · exact PSub.int (by simp [checkE, h, hv, -List.getD_eq_getElem?_getD])
  have hw := h
  refine loop_k (ι := Nat) [1, 17] [1] (fun k => k ≤ c.attrs.length ∧ (∀ j, j < k → attrE c.attrs j = 0)) (fun k => c.attrs.length - k) 0 (fun k => [(18, .pv (vint k))]) (fun _ => []) [] ⟨Nat.zero_le _, fun j h => absurd h (by omega)⟩ ?_ (fun k hk => ?_)
  · (repeat' (first | exact PSub.rfl | exact rfl | exact PSubs.rfl | exact trivial | exact PSub.lit_sb rfl | refine And.intro ?_ ?_))
  obtain ⟨hkn, hinv⟩ := hk
  conv => whnf
  repeat (any_goals (first
    | (refine ⟨fun (h : (_ : Bool) = true) => ?_, fun (h : (_ : Bool) = false) => ?_⟩ <;> (try simp only [decide_eq_true_eq, decide_eq_false_iff_not, Bool.not_eq_true', Bool.not_eq_false', Int.toNat_natCast, beq_iff_eq, decide_eq_decide, beq_eq_false_iff_ne, ne_eq, reduceCtorEq] at h) <;> (conv => whnf))
    | (refine .inl ⟨_, ac_r20_Def (c.attrs.getD k default) (hc.2.1 k), ?_⟩; conv => whnf)
    | (refine .inl ⟨_, ac_r21_Place c (c.attrs.getD k default).name hc, ?_⟩; conv => whnf)
    | (refine And.intro (by (try simp only [Int.toNat_natCast]); omega) ?_; conv => whnf)
    | (refine And.intro (show (_ : Bool) = true from by kernel_rfl) ?_; conv => whnf)
    | (refine .inl ⟨wrap64 (by omega), ?_⟩; conv => whnf)))
  · have e : attrE c.attrs k = defE (c.attrs.getD k default) := by simp [attrE, h, -List.getD_eq_getElem?_getD]
    have e2 := firstE_at (n := c.attrs.length) (k := k) (f := attrE c.attrs) (by omega) (by rw [e]; exact h) hinv
    rw [e] at e2
    exact PSub.int (by simp [checkE, e2, h, hv, hw, -List.getD_eq_getElem?_getD])
  · rename_i hd
    rw [placeI_lt (by omega) rfl] at h
    have e : attrE c.attrs k = 9 := by simp [attrE, hd, h, -List.getD_eq_getElem?_getD]
    have e2 := firstE_at (n := c.attrs.length) (k := k) (f := attrE c.attrs) (by omega) (by rw [e]; decide) hinv
    rw [e] at e2
    exact PSub.int (by simp [checkE, e2, hv, hw, -List.getD_eq_getElem?_getD])
  · rename_i hd
    rw [placeI_lt (by omega) rfl] at h
    refine ⟨k + 1, [], ⟨by omega, ?_⟩, by first | omega | (dsimp only; omega), ?_⟩
    rotate_left
    · (repeat' (first | exact PSub.rfl | exact rfl | exact PSubs.rfl | exact trivial | exact PSub.lit_sb rfl | refine And.intro ?_ ?_))
    intro j hj
    by_cases ee : j = k
    · subst ee; simp [attrE, hd, h, -List.getD_eq_getElem?_getD]
    · exact hinv j (by omega)
  have e1 : firstE c.attrs.length (attrE c.attrs) = 0 := firstE_none fun j hj => hinv j (by omega)
  clear hinv hkn h
  refine loop_k (ι := Nat) [1, 43] [1] (fun k => k ≤ c.commands.length ∧ (∀ j, j < k → cmdE c j = 0)) (fun k => c.commands.length - k) 0 (fun k => [(44, .pv (vint k))]) (fun _ => []) [] ⟨Nat.zero_le _, fun j h => absurd h (by omega)⟩ ?_ (fun k hk => ?_)
  · (repeat' (first | exact PSub.rfl | exact rfl | exact PSubs.rfl | exact trivial | exact PSub.lit_sb rfl | refine And.intro ?_ ?_))
  obtain ⟨hkn, hinv⟩ := hk
  conv => whnf
  repeat (any_goals (first
    | (refine ⟨fun (h : (_ : Bool) = true) => ?_, fun (h : (_ : Bool) = false) => ?_⟩ <;> (try simp only [decide_eq_true_eq, decide_eq_false_iff_not, Bool.not_eq_true', Bool.not_eq_false', Int.toNat_natCast, beq_iff_eq, decide_eq_decide, beq_eq_false_iff_ne, ne_eq, reduceCtorEq] at h) <;> (conv => whnf))
    | (refine .inl ⟨_, ac_r21_OneCommand c k hc (by omega), ?_⟩; conv => whnf)
    | (refine And.intro (by (try simp only [Int.toNat_natCast]); omega) ?_; conv => whnf)
    | (refine And.intro (show (_ : Bool) = true from by kernel_rfl) ?_; conv => whnf)
    | (refine .inl ⟨wrap64 (by omega), ?_⟩; conv => whnf)))
  · have e2 := firstE_at (n := c.commands.length) (k := k) (f := cmdE c) (by omega) h hinv
    exact PSub.int (by simp [checkE, e1, e2, h, hv, hw, -List.getD_eq_getElem?_getD])
  · refine ⟨k + 1, [], ⟨by omega, ?_⟩, by first | omega | (dsimp only; omega), ?_⟩
    rotate_left
    · (repeat' (first | exact PSub.rfl | exact rfl | exact PSubs.rfl | exact trivial | exact PSub.lit_sb rfl | refine And.intro ?_ ?_))
    intro j hj
    by_cases e : j = k
    · subst e; first | exact h | simpa [-List.getD_eq_getElem?_getD] using h | simp_all [-List.getD_eq_getElem?_getD]
    · exact hinv j (by omega)
  have e2 : firstE c.commands.length (cmdE c) = 0 := firstE_none fun j hj => hinv j (by omega)
  have e0 : checkE c = firstE c.events.length (evE c.events) := by simp [checkE, e1, e2, hv, hw, -List.getD_eq_getElem?_getD]
  rw [e0]
  clear hinv hkn h
  refine loop_k (ι := Nat) [1, 56] [1] (fun k => k ≤ c.events.length ∧ (∀ j, j < k → evE c.events j = 0)) (fun k => c.events.length - k) 0 (fun k => [(57, .pv (vint k))]) (fun _ => []) [] ⟨Nat.zero_le _, fun j h => absurd h (by omega)⟩ ?_ (fun k hk => ?_)
  · (repeat' (first | exact PSub.rfl | exact rfl | exact PSubs.rfl | exact trivial | exact PSub.lit_sb rfl | refine And.intro ?_ ?_))
  obtain ⟨hkn, hinv⟩ := hk
  conv => whnf
  repeat (any_goals (first
    | (refine ⟨fun (h : (_ : Bool) = true) => ?_, fun (h : (_ : Bool) = false) => ?_⟩ <;> (try simp only [decide_eq_true_eq, decide_eq_false_iff_not, Bool.not_eq_true', Bool.not_eq_false', Int.toNat_natCast, beq_iff_eq, decide_eq_decide, beq_eq_false_iff_ne, ne_eq, reduceCtorEq] at h) <;> (conv => whnf))
    | (refine .inl ⟨_, ac_r04_Valid (c.events.getD k default), ?_⟩; conv => whnf)
    | (refine And.intro (by (try simp only [Int.toNat_natCast]); omega) ?_; conv => whnf)
    | (refine And.intro (show (_ : Bool) = true from by kernel_rfl) ?_; conv => whnf)
    | (refine .inl ⟨wrap64 (by omega), ?_⟩; conv => whnf)))
  · have e : evE c.events k = 10 := by simp [evE, h, -List.getD_eq_getElem?_getD]
    exact PSub.int (by rw [firstE_at (k := k) (by omega) (by rw [e]; decide) hinv, e])
  · have hve := h
    have hinv1 := hinv
    refine loop_k (ι := Nat) [1, 7, 56, 57] [1] (fun k2 => k2 ≤ k ∧ (∀ j, j < k2 → c.events.getD j default ≠ c.events.getD k default)) (fun k2 => k - k2) 0 (fun k2 => [(8, .pv (vint k2))]) (fun _ => []) [] ⟨Nat.zero_le _, fun j h => absurd h (by omega)⟩ ?_ (fun k2 hk => ?_)
    · (repeat' (first | exact PSub.rfl | exact rfl | exact PSubs.rfl | exact trivial | exact PSub.lit_sb rfl | refine And.intro ?_ ?_))
    obtain ⟨hkn, hinv⟩ := hk
    conv => whnf
    repeat (any_goals (first
      | (refine ⟨fun (h : (_ : Bool) = true) => ?_, fun (h : (_ : Bool) = false) => ?_⟩ <;> (try simp only [decide_eq_true_eq, decide_eq_false_iff_not, Bool.not_eq_true', Bool.not_eq_false', Int.toNat_natCast, beq_iff_eq, decide_eq_decide, beq_eq_false_iff_ne, ne_eq, reduceCtorEq] at h) <;> (conv => whnf))
      | (refine And.intro (by (try simp only [Int.toNat_natCast]); omega) ?_; conv => whnf)
      | (refine And.intro (show (_ : Bool) = true from by kernel_rfl) ?_; conv => whnf)
      | (refine .inl ⟨wrap64 (by omega), ?_⟩; conv => whnf)))
    · have e := memN_true (l := c.events) (n := k) (k := k2) (s := c.events.getD k default) (by omega) h
      have e : evE c.events k = 9 := by simp [evE, hve, e, -List.getD_eq_getElem?_getD]
      exact PSub.int (by rw [firstE_at (k := k) (by omega) (by rw [e]; decide) hinv1, e])
    · refine ⟨k2 + 1, [], ⟨by omega, ?_⟩, by first | omega | (dsimp only; omega), ?_⟩
      rotate_left
      · (repeat' (first | exact PSub.rfl | exact rfl | exact PSubs.rfl | exact trivial | exact PSub.lit_sb rfl | refine And.intro ?_ ?_))
      intro j hj
      by_cases e : j = k2
      · subst e; first | exact h | simpa [-List.getD_eq_getElem?_getD] using h | simp_all [-List.getD_eq_getElem?_getD]
      · exact hinv j (by omega)
    · have e := memN_false (l := c.events) (n := k) (s := c.events.getD k default) fun j hj => hinv j (by omega)
      refine ⟨k + 1, [], ⟨by omega, ?_⟩, by first | omega | (dsimp only; omega), ?_⟩
      rotate_left
      · (repeat' (first | exact PSub.rfl | exact rfl | exact PSubs.rfl | exact trivial | exact PSub.lit_sb rfl | refine And.intro ?_ ?_))
      intro j hj
      by_cases ee : j = k
      · subst ee; simp [evE, hve, e, -List.getD_eq_getElem?_getD]
      · exact hinv1 j (by omega)
  · exact PSub.int (by rw [firstE_none fun j hj => hinv j (by omega)])

def smallKs (l : List Clu) : Prop := smallL l ∧ ∀ i, smallK (l.getD i default)

def cluE (l : List Clu) (i : Nat) : Int := if checkE (l.getD i default) ≠ 0 then checkE (l.getD i default) else if anyN i (fun j => decide ((l.getD j default).name = (l.getD i default).name)) = true then 9 else 0
/-- cluster.All -/
def allE (l : List Clu) : Int := if 256 < l.length then 3 else firstE l.length (cluE l)

theorem ac_cluster_All (l : List Clu) (hl : smallKs l) : AC Tryz.prog 68 [.pv (roL 4 cClu l)] [] (.pv (vint (allE l))) [] := by
  have hl1 : l.length ≤ 1048576 := hl.1
  refine AC.of_awp (T := T) T_ok hm Tryz.call68 Tryz.func68 rfl rfl rfl ?_
  conv => whnf
  refine ⟨fun h => ?_, fun h => ?_⟩ <;> (try simp only [decide_eq_true_eq, decide_eq_false_iff_not, Bool.not_eq_true', Bool.not_eq_false', Int.toNat_natCast, beq_iff_eq, decide_eq_decide, beq_eq_false_iff_ne, ne_eq, reduceCtorEq] at h) <;> (conv => whnf)
  · exact PSub.int (by rw [allE, if_pos (by omega)])
  rw [allE, if_neg (by omega)]
  clear h
  refine loop_k (ι := Nat) [0, 11, 12] [] (fun k => k ≤ l.length ∧ (∀ j, j < k → cluE l j = 0)) (fun k => l.length - k) 0 (fun k => [(13, .pv (vint k))]) (fun _ => []) [] ⟨Nat.zero_le _, fun j h => absurd h (by omega)⟩ ?_ (fun k hk => ?_)
  · (repeat' (first | exact PSub.rfl | exact rfl | exact PSubs.rfl | exact trivial | exact PSub.lit_sb rfl | refine And.intro ?_ ?_))
  obtain ⟨hkn, hinv⟩ := hk
  conv => whnf
  repeat (any_goals (first
    | (refine ⟨fun (h : (_ : Bool) = true) => ?_, fun (h : (_ : Bool) = false) => ?_⟩ <;> (try simp only [decide_eq_true_eq, decide_eq_false_iff_not, Bool.not_eq_true', Bool.not_eq_false', Int.toNat_natCast, beq_iff_eq, decide_eq_decide, beq_eq_false_iff_ne, ne_eq, reduceCtorEq] at h) <;> (conv => whnf))
    | (refine .inl ⟨_, ac_cluster_Check (l.getD k default) (hl.2 k), ?_⟩; conv => whnf)
    | (refine And.intro (by (try simp only [Int.toNat_natCast]); omega) ?_; conv => whnf)
    | (refine And.intro (show (_ : Bool) = true from by kernel_rfl) ?_; conv => whnf)
    | (refine .inl ⟨wrap64 (by omega), ?_⟩; conv => whnf)))
  · have e : cluE l k = checkE (l.getD k default) := by simp [cluE, h, -List.getD_eq_getElem?_getD]
    exact PSub.int (by rw [firstE_at (k := k) (by omega) (by rw [e]; exact h) hinv, e])
  · have hd := h
    have hinv1 := hinv
    refine loop_k (ι := Nat) [0, 4, 11, 12, 13, 25, 26] [4] (fun k2 => k2 ≤ k ∧ (∀ j, j < k2 → decide ((l.getD j default).name = (l.getD k default).name) = false)) (fun k2 => k - k2) 0 (fun k2 => [(27, .pv (vint k2))]) (fun _ => []) [] ⟨Nat.zero_le _, fun j h => absurd h (by omega)⟩ ?_ (fun k2 hk => ?_)
    · (repeat' (first | exact PSub.rfl | exact rfl | exact PSubs.rfl | exact trivial | exact PSub.lit_sb rfl | refine And.intro ?_ ?_))
    obtain ⟨hkn, hinv⟩ := hk
    conv => whnf
    repeat (any_goals (first
      | (refine ⟨fun (h : (_ : Bool) = true) => ?_, fun (h : (_ : Bool) = false) => ?_⟩ <;> (try simp only [decide_eq_true_eq, decide_eq_false_iff_not, Bool.not_eq_true', Bool.not_eq_false', Int.toNat_natCast, beq_iff_eq, decide_eq_decide, beq_eq_false_iff_ne, ne_eq, reduceCtorEq] at h) <;> (conv => whnf))
      | (refine And.intro (by (try simp only [Int.toNat_natCast]); omega) ?_; conv => whnf)
      | (refine And.intro (show (_ : Bool) = true from by kernel_rfl) ?_; conv => whnf)
      | (refine .inl ⟨wrap64 (by omega), ?_⟩; conv => whnf)))
    · have e := anyN_true (n := k) (k := k2) (p := fun j => decide ((l.getD j default).name = (l.getD k default).name)) (by omega) (by simpa [-List.getD_eq_getElem?_getD] using h)
      have e : cluE l k = 9 := by simp [cluE, hd, e, -List.getD_eq_getElem?_getD]
      exact PSub.int (by rw [firstE_at (k := k) (by omega) (by rw [e]; decide) hinv1, e])
    · refine ⟨k2 + 1, [], ⟨by omega, ?_⟩, by first | omega | (dsimp only; omega), ?_⟩
      rotate_left
      · (repeat' (first | exact PSub.rfl | exact rfl | exact PSubs.rfl | exact trivial | exact PSub.lit_sb rfl | refine And.intro ?_ ?_))
      intro j hj
      by_cases e : j = k2
      · subst e; first | exact h | simpa [-List.getD_eq_getElem?_getD] using h | simp_all [-List.getD_eq_getElem?_getD]
      · exact hinv j (by omega)
    · have e := anyN_false (n := k) (p := fun j => decide ((l.getD j default).name = (l.getD k default).name)) fun j hj => hinv j (by omega)
      refine ⟨k + 1, [], ⟨by omega, ?_⟩, by first | omega | (dsimp only; omega), ?_⟩
      rotate_left
      · (repeat' (first | exact PSub.rfl | exact rfl | exact PSubs.rfl | exact trivial | exact PSub.lit_sb rfl | refine And.intro ?_ ?_))
      intro j hj
      by_cases ee : j = k
      · subst ee; simp [cluE, hd, e, -List.getD_eq_getElem?_getD]
      · exact hinv1 j (by omega)
  · exact PSub.int (by rw [firstE_none fun j hj => hinv j (by omega)])

theorem ac_r21_All (l : List Clu) (hl : smallKs l) : AC Tryz.prog 73 [.pv (roL 4 cClu l)] [] (.pv (vint (allE l))) [] := by
  have hl1 : l.length ≤ 1048576 := hl.1
  refine AC.of_awp (T := T) T_ok hm Tryz.call73 Tryz.func73 rfl rfl rfl ?_
  conv => whnf
  refine ⟨fun h => ?_, fun h => ?_⟩ <;> (try simp only [decide_eq_true_eq, decide_eq_false_iff_not, Bool.not_eq_true', Bool.not_eq_false', Int.toNat_natCast, beq_iff_eq, decide_eq_decide, beq_eq_false_iff_ne, ne_eq, reduceCtorEq] at h) <;> (conv => whnf)
  · exact PSub.int (by rw [allE, if_pos (by omega)])
  rw [allE, if_neg (by omega)]
  clear h
  refine loop_k (ι := Nat) [0, 10] [] (fun k => k ≤ l.length ∧ (∀ j, j < k → cluE l j = 0)) (fun k => l.length - k) 0 (fun k => [(11, .pv (vint k))]) (fun _ => []) [] ⟨Nat.zero_le _, fun j h => absurd h (by omega)⟩ ?_ (fun k hk => ?_)
  · (repeat' (first | exact PSub.rfl | exact rfl | exact PSubs.rfl | exact trivial | exact PSub.lit_sb rfl | refine And.intro ?_ ?_))
  obtain ⟨hkn, hinv⟩ := hk
  conv => whnf
  repeat (any_goals (first
    | (refine ⟨fun (h : (_ : Bool) = true) => ?_, fun (h : (_ : Bool) = false) => ?_⟩ <;> (try simp only [decide_eq_true_eq, decide_eq_false_iff_not, Bool.not_eq_true', Bool.not_eq_false', Int.toNat_natCast, beq_iff_eq, decide_eq_decide, beq_eq_false_iff_ne, ne_eq, reduceCtorEq] at h) <;> (conv => whnf))
    | (refine .inl ⟨_, ac_r21_Check (l.getD k default) (hl.2 k), ?_⟩; conv => whnf)
    | (refine And.intro (by (try simp only [Int.toNat_natCast]); omega) ?_; conv => whnf)
    | (refine And.intro (show (_ : Bool) = true from by kernel_rfl) ?_; conv => whnf)
    | (refine .inl ⟨wrap64 (by omega), ?_⟩; conv => whnf)))
  · have e : cluE l k = checkE (l.getD k default) := by simp [cluE, h, -List.getD_eq_getElem?_getD]
    exact PSub.int (by rw [firstE_at (k := k) (by omega) (by rw [e]; exact h) hinv, e])
  · have hd := h
    have hinv1 := hinv
    refine loop_k (ι := Nat) [0, 3, 10, 11] [] (fun k2 => k2 ≤ k ∧ (∀ j, j < k2 → decide ((l.getD j default).name = (l.getD k default).name) = false)) (fun k2 => k - k2) 0 (fun k2 => [(5, .pv (vint k2))]) (fun _ => []) [] ⟨Nat.zero_le _, fun j h => absurd h (by omega)⟩ ?_ (fun k2 hk => ?_)
    · (repeat' (first | exact PSub.rfl | exact rfl | exact PSubs.rfl | exact trivial | exact PSub.lit_sb rfl | refine And.intro ?_ ?_))
    obtain ⟨hkn, hinv⟩ := hk
    conv => whnf
    repeat (any_goals (first
      | (refine ⟨fun (h : (_ : Bool) = true) => ?_, fun (h : (_ : Bool) = false) => ?_⟩ <;> (try simp only [decide_eq_true_eq, decide_eq_false_iff_not, Bool.not_eq_true', Bool.not_eq_false', Int.toNat_natCast, beq_iff_eq, decide_eq_decide, beq_eq_false_iff_ne, ne_eq, reduceCtorEq] at h) <;> (conv => whnf))
      | (refine And.intro (by (try simp only [Int.toNat_natCast]); omega) ?_; conv => whnf)
      | (refine And.intro (show (_ : Bool) = true from by kernel_rfl) ?_; conv => whnf)
      | (refine .inl ⟨wrap64 (by omega), ?_⟩; conv => whnf)))
    · have e := anyN_true (n := k) (k := k2) (p := fun j => decide ((l.getD j default).name = (l.getD k default).name)) (by omega) (by simpa [-List.getD_eq_getElem?_getD] using h)
      have e : cluE l k = 9 := by simp [cluE, hd, e, -List.getD_eq_getElem?_getD]
      exact PSub.int (by rw [firstE_at (k := k) (by omega) (by rw [e]; decide) hinv1, e])
    · refine ⟨k2 + 1, [], ⟨by omega, ?_⟩, by first | omega | (dsimp only; omega), ?_⟩
      rotate_left
      · (repeat' (first | exact PSub.rfl | exact rfl | exact PSubs.rfl | exact trivial | exact PSub.lit_sb rfl | refine And.intro ?_ ?_))
      intro j hj
      by_cases e : j = k2
      · subst e; first | exact h | simpa [-List.getD_eq_getElem?_getD] using h | simp_all [-List.getD_eq_getElem?_getD]
      · exact hinv j (by omega)
    · have e := anyN_false (n := k) (p := fun j => decide ((l.getD j default).name = (l.getD k default).name)) fun j hj => hinv j (by omega)
      refine ⟨k + 1, [], ⟨by omega, ?_⟩, by first | omega | (dsimp only; omega), ?_⟩
      rotate_left
      · (repeat' (first | exact PSub.rfl | exact rfl | exact PSubs.rfl | exact trivial | exact PSub.lit_sb rfl | refine And.intro ?_ ?_))
      intro j hj
      by_cases ee : j = k
      · subst ee; simp [cluE, hd, e, -List.getD_eq_getElem?_getD]
      · exact hinv1 j (by omega)
  · exact PSub.int (by rw [firstE_none fun j hj => hinv j (by omega)])

end Go.Abs

namespace Go.Abs
open Go.Proofs
set_option maxRecDepth 10000

/-- the last of the first k clusters with a name -/
def lastC (l : List Clu) : Nat → ByteArray → Option Clu
  | 0, _ => none
  | k + 1, s => if (l.getD k default).name = s then some (l.getD k default) else lastC l k s

def cluLook (f : ByteArray → Option Clu) : Value → Option PV
  | .string s => (f s).map fun c => .agg (cClu c)
  | _ => none

/-- device.clusters -/
theorem ac_device_clusters (H : Hom) (hh : smallL H.clusters) : AC Tryz.prog 69 [.pv (.agg (cHom H))] [] (.pv (.map (.one .str) (cluLook (lastC H.clusters H.clusters.length)))) [] := by
  have hl : H.clusters.length ≤ 1048576 := hh
  refine AC.of_awp (T := T) T_ok hm Tryz.call69 Tryz.func69 rfl rfl rfl ?_
  conv => whnf
  refine loop_k (ι := Nat) [3, 8, 9] [] (fun k => k ≤ H.clusters.length ∧ True) (fun k => H.clusters.length - k) 0 (fun k => [(10, .pv (vint k))]) (fun k => [(6, .map (.one .str) (cluLook (lastC H.clusters k)))]) [] ⟨Nat.zero_le _, trivial⟩ ?_ (fun k hk => ?_)
  · (repeat' (first | exact PSub.rfl | exact rfl | exact PSubs.rfl | exact trivial | exact PSub.lit_sb rfl | refine And.intro ?_ ?_)); all_goals (rintro _ ⟨s, rfl⟩; rfl)
  obtain ⟨hkn, hinv⟩ := hk
  conv => whnf
  repeat (any_goals (first
    | (refine ⟨fun (h : (_ : Bool) = true) => ?_, fun (h : (_ : Bool) = false) => ?_⟩ <;> (try simp only [decide_eq_true_eq, decide_eq_false_iff_not, Bool.not_eq_true', Bool.not_eq_false', Int.toNat_natCast, beq_iff_eq, decide_eq_decide, beq_eq_false_iff_ne, ne_eq, reduceCtorEq] at h) <;> (conv => whnf))
    | (refine And.intro (by (try simp only [Int.toNat_natCast]); omega) ?_; conv => whnf)
    | (refine And.intro (show (_ : Bool) = true from by kernel_rfl) ?_; conv => whnf)
    | (refine .inl ⟨wrap64 (by omega), ?_⟩; conv => whnf)))
  · refine ⟨k + 1, [], ⟨by omega, trivial⟩, by omega, ?_⟩
    (repeat' (first | exact PSub.rfl | exact rfl | exact PSubs.rfl | exact trivial | exact PSub.lit_sb rfl | refine And.intro ?_ ?_))
    rintro _ ⟨s, rfl⟩
    simp only [Int.toNat_natCast, lookPut, cluLook, lastC, Value.string.injEq]
    by_cases e : s = (H.clusters.getD k default).name
    · simp [e, -List.getD_eq_getElem?_getD]; rfl
    · rw [if_neg e, if_neg (fun x => e x.symm)]
  · have e : k = H.clusters.length := by omega
    subst e
    exact PSub.rfl

/-- device.numbers -/
def numB (d : Dev) : Bool := !(decide (d.id < 1) || decide (250 < d.id) || decide (d.vendor < 0) || decide (255 < d.vendor)) && (if d.sleepy then decide (4 ≤ d.poll) && decide (d.poll ≤ 3600) else decide (d.poll = 0))

theorem ac_device_numbers (d : Dev) : AC Tryz.prog 70 [.pv (.agg (cDev d))] [] (.pv (vbool (numB d))) [] := by
  refine AC.of_awp (T := T) T_ok hm Tryz.call70 Tryz.func70 rfl rfl rfl ?_
  conv => whnf
  repeat (any_goals (first
    | (refine ⟨fun (h : (_ : Bool) = true) => ?_, fun (h : (_ : Bool) = false) => ?_⟩ <;> (try simp only [decide_eq_true_eq, decide_eq_false_iff_not, Bool.not_eq_true', Bool.not_eq_false', Int.toNat_natCast, beq_iff_eq, decide_eq_decide, beq_eq_false_iff_ne, ne_eq, reduceCtorEq] at h) <;> (conv => whnf))
    | (refine And.intro (by (try simp only [Int.toNat_natCast]); omega) ?_; conv => whnf)
    | (refine And.intro (show (_ : Bool) = true from by kernel_rfl) ?_; conv => whnf)
    | (refine .inl ⟨wrap64 (by omega), ?_⟩; conv => whnf)))
  all_goals first | (refine PSub.sb ?_; rw [numB, Bool.eq_iff_iff]; simp_all; done) | (refine PSub.lit_sb ?_; rw [numB, Bool.eq_iff_iff]; simp_all; omega) | (refine PSub.lit_sb ?_; rw [numB, Bool.eq_iff_iff]; simp_all; done) | skip

def firstC (l : List Clu) (s : ByteArray) : Option Clu := l.find? fun c => decide (c.name = s)

def capStep (f : ByteArray → Option Clu) (d : Dev) (i : Nat) (n : Int) : Int ⊕ Int :=
  match f (d.clusters.getD i default) with
  | none => .inl 8
  | some c => if idxOf d.clusters (d.clusters.getD i default) < i then .inl 9 else .inr (n + c.attrs.length)

/-- device.capabilities -/
def capE (f : ByteArray → Option Clu) (d : Dev) : Int :=
  if d.clusters.length < 1 ∨ 4 < d.clusters.length then 3 else match forI (capStep f d) d.clusters.length 0 0 with
  | .inl e => e
  | .inr n => if 24 < n then 3 else 0

theorem ac_device_capabilities (d : Dev) (f : ByteArray → Option Clu) (hf : ∀ s c, f s = some c → smallK c) : AC Tryz.prog 72 [.pv (.agg (cDev d)), .pv (.map (.one .str) (cluLook f))] [] (.pv (vint (capE f d))) [] := by
  refine AC.of_awp (T := T) T_ok hm Tryz.call72 Tryz.func72 rfl rfl rfl ?_
  conv => whnf
  refine ⟨fun h => ?_, fun h => ?_⟩
  · conv => whnf
    simp only [decide_eq_true_eq] at h
    exact PSub.int (by rw [capE, if_pos (by omega)])
  conv => whnf
  refine ⟨fun h => ?_, fun h => ?_⟩ <;> (try simp only [decide_eq_true_eq, decide_eq_false_iff_not, Bool.not_eq_true', Bool.not_eq_false', Int.toNat_natCast, beq_iff_eq, decide_eq_decide, beq_eq_false_iff_ne, ne_eq, reduceCtorEq] at h) <;> (conv => whnf)
  · exact PSub.int (by rw [capE, if_pos (by omega)])
  rename_i h0
  simp only [decide_eq_false_iff_not] at h0
  rw [capE, if_neg (by omega)]
  refine loop_k (ι := Nat × Int) [1, 2, 21, 22] [2] (fun i => i.1 ≤ d.clusters.length ∧ (0 ≤ i.2 ∧ i.2 ≤ i.1 * 1048576) ∧ forI (capStep f d) (d.clusters.length - i.1) i.1 i.2 = forI (capStep f d) d.clusters.length 0 0) (fun i => d.clusters.length - i.1) (0, 0) (fun i => [(5, .pv (vint i.2)), (23, .pv (vint i.1))]) (fun _ => []) [] ⟨Nat.zero_le _, by simp, rfl⟩ ?_ (fun i hk => ?_)
  · (repeat' (first | exact PSub.rfl | exact rfl | exact PSubs.rfl | exact trivial | exact PSub.lit_sb rfl | refine And.intro ?_ ?_))
  obtain ⟨k, n⟩ := i
  obtain ⟨hkn, hn, hfor⟩ := hk
  simp only at hkn hn hfor
  conv => whnf
  refine ⟨fun h => ?_, fun h => ?_⟩ <;> (try simp only [decide_eq_true_eq, decide_eq_false_iff_not, Bool.not_eq_true', Bool.not_eq_false', Int.toNat_natCast, beq_iff_eq, decide_eq_decide, beq_eq_false_iff_ne, ne_eq, reduceCtorEq] at h) <;> (conv => whnf)
  · refine And.intro (by omega) ?_
    conv => whnf
    refine ⟨fun p hp => ?_, fun hp => ?_⟩
    · simp only [cluLook, Int.toNat_natCast] at hp
      cases hf0 : f (d.clusters.getD k default) with
      | none => rw [hf0] at hp; cases hp
      | some c =>
        rw [hf0] at hp
        cases hp
        have hcl : c.attrs.length ≤ 1048576 := (hf _ _ hf0).1
        conv => whnf
        repeat (any_goals (first
          | (refine ⟨fun (h : (_ : Bool) = true) => ?_, fun (h : (_ : Bool) = false) => ?_⟩ <;> (try simp only [decide_eq_true_eq, decide_eq_false_iff_not, Bool.not_eq_true', Bool.not_eq_false', Int.toNat_natCast, beq_iff_eq, decide_eq_decide, beq_eq_false_iff_ne, ne_eq, reduceCtorEq] at h) <;> (conv => whnf))
          | (refine .inl ⟨_, ac_names_Index d.clusters (d.clusters.getD k default) (by omega), ?_⟩; conv => whnf)
          | (refine And.intro (by (try simp only [Int.toNat_natCast]); omega) ?_; conv => whnf)
          | (refine And.intro (show (_ : Bool) = true from by kernel_rfl) ?_; conv => whnf)
          | (refine .inl ⟨wrap64 (by omega), ?_⟩; conv => whnf)))
        · rw [forI_stop hfor (by omega) (r := 9) (by rw [capStep, hf0]; simp only; rw [if_pos h])]
          exact PSub.rfl
        · refine ⟨(k + 1, n + c.attrs.length), [], ⟨by dsimp only; omega, ⟨by dsimp only; omega, by dsimp only; omega⟩, forI_next hfor (by omega) (by rw [capStep, hf0]; simp only; rw [if_neg h])⟩, by dsimp only; omega, ?_⟩
          (repeat' (first | exact PSub.rfl | exact rfl | exact PSubs.rfl | exact trivial | exact PSub.lit_sb rfl | refine And.intro ?_ ?_))
    · simp only [cluLook, Int.toNat_natCast] at hp
      have hf0 : f (d.clusters.getD k default) = none := by simpa using hp
      conv => whnf
      repeat (any_goals (first
        | (refine ⟨fun (h : (_ : Bool) = true) => ?_, fun (h : (_ : Bool) = false) => ?_⟩ <;> (try simp only [decide_eq_true_eq, decide_eq_false_iff_not, Bool.not_eq_true', Bool.not_eq_false', Int.toNat_natCast, beq_iff_eq, decide_eq_decide, beq_eq_false_iff_ne, ne_eq, reduceCtorEq] at h) <;> (conv => whnf))
        | (refine And.intro (by (try simp only [Int.toNat_natCast]); omega) ?_; conv => whnf)
        | (refine And.intro (show (_ : Bool) = true from by kernel_rfl) ?_; conv => whnf)
        | (refine .inl ⟨wrap64 (by omega), ?_⟩; conv => whnf)))
      rw [forI_stop hfor (by omega) (r := 8) (by rw [capStep, hf0])]
      exact PSub.rfl
  · rw [forI_end hfor (by omega)]
    repeat (any_goals (first
      | (refine ⟨fun (h : (_ : Bool) = true) => ?_, fun (h : (_ : Bool) = false) => ?_⟩ <;> (try simp only [decide_eq_true_eq, decide_eq_false_iff_not, Bool.not_eq_true', Bool.not_eq_false', Int.toNat_natCast, beq_iff_eq, decide_eq_decide, beq_eq_false_iff_ne, ne_eq, reduceCtorEq] at h) <;> (conv => whnf))
      | (refine And.intro (by (try simp only [Int.toNat_natCast]); omega) ?_; conv => whnf)
      | (refine And.intro (show (_ : Bool) = true from by kernel_rfl) ?_; conv => whnf)
      | (refine .inl ⟨wrap64 (by omega), ?_⟩; conv => whnf)))
    · exact PSub.int (by simp only; rw [if_pos h])
    · exact PSub.int (by simp only; rw [if_neg h])

/-- device.Check: the i-th device -/
def devE (f : ByteArray → Option Clu) (l : List Dev) (i : Nat) : Int :=
  if numB (l.getD i default) = false then 2 else if 0 < i ∧ (l.getD i default).id ≤ (l.getD (i - 1) default).id then 14
  else if anyN i (fun j => decide ((l.getD j default).eui = (l.getD i default).eui)) = true then 9 else if validName (l.getD i default).room = false then 10
  else capE f (l.getD i default)

/-- device.Check -/
def homE (H : Hom) : Int := if allE H.clusters ≠ 0 then allE H.clusters else if 20 < H.devices.length then 3 else firstE H.devices.length (devE (firstC H.clusters) H.devices)

theorem cluE_distinct {l : List Clu} {k : Nat} (h : ∀ i, i < k → cluE l i = 0) {i j : Nat} (hi : i < j) (hj : j < k) : (l.getD i default).name ≠ (l.getD j default).name := by
  intro e
  have := h j hj
  unfold cluE at this
  split at this
  · contradiction
  · rw [if_pos (anyN_true hi (by simpa [-List.getD_eq_getElem?_getD] using e))] at this
    cases this

theorem firstE_zero {n : Nat} {f : Nat → Int} (h : firstE n f = 0) : ∀ i, i < n → f i = 0 := by
  intro i hi
  unfold firstE at h
  split at h
  · rename_i j e
    rw [List.find?_range_eq_some] at e
    exact absurd h (by simpa using e.1)
  · rename_i e
    rw [List.find?_eq_none] at e
    simpa using e i (by simpa using hi)

theorem lastC_first {l : List Clu} (h : ∀ i, i < l.length → cluE l i = 0) (s : ByteArray) : lastC l l.length s = firstC l s := by
  have hnone : ∀ k, k ≤ l.length → (∀ i, i < k → (l.getD i default).name ≠ s) → lastC l k s = none := by
    intro k
    induction k with
    | zero => intro _ _; rfl
    | succ k ih => intro hk hn; rw [lastC, if_neg (hn k (by omega)), ih (by omega) fun i hi => hn i (by omega)]
  have hsome : ∀ k, k ≤ l.length → ∀ i, i < k → (l.getD i default).name = s → lastC l k s = some (l.getD i default) := by
    intro k
    induction k with
    | zero => intro _ i hi; omega
    | succ k ih =>
      intro hk i hi e
      rw [lastC]
      by_cases e2 : i = k
      · subst e2; rw [if_pos e]
      · rw [if_neg fun e3 => cluE_distinct (k := l.length) h (i := i) (j := k) (by omega) (by omega) (e.trans e3.symm)]
        exact ih (by omega) i (by omega) e
  unfold firstC
  cases hf : l.find? fun c => decide (c.name = s) with
  | none =>
    rw [List.find?_eq_none] at hf
    refine hnone _ (Nat.le_refl _) fun i hi => ?_
    have := hf l[i] (List.getElem_mem hi)
    simpa [List.getD, hi] using this
  | some c =>
    obtain ⟨h1, xs, ys, h2, h3⟩ := List.find?_eq_some_iff_append.1 hf
    have hi : xs.length < l.length := by rw [h2]; simp
    have e : l.getD xs.length default = c := by simp [h2]
    rw [← e]
    exact hsome _ (Nat.le_refl _) _ hi (by rw [e]; simpa using h1)

theorem firstC_small {l : List Clu} (hl : smallKs l) {s : ByteArray} {c : Clu} (h : firstC l s = some c) : smallK c := by
  have := List.mem_of_find?_eq_some h
  obtain ⟨i, hi, rfl⟩ := List.getElem_of_mem this
  have := hl.2 i
  simpa [List.getD, hi] using this

def smallD (d : Dev) : Prop := smallL d.clusters ∧ -9223372036854775808 ≤ d.id ∧ d.id ≤ 9223372036854775807
def smallH (H : Hom) : Prop := smallKs H.clusters ∧ smallL H.devices ∧ ∀ i, smallD (H.devices.getD i default)

def euiLook (l : List Dev) (k : Nat) : Value → Option PV
  | .int .u64 n => if anyN k (fun j => decide ((l.getD j default).eui = n)) = true then some (.val (.bool true)) else none
  | _ => none

theorem anyN_succ {n : Nat} {p : Nat → Bool} : anyN (n + 1) p = (anyN n p || p n) := by simp [anyN, List.range_succ]

theorem euiLook_put (l : List Dev) (k : Nat) (s : Int) : lookPut (euiLook l k) (.int .u64 (l.getD k default).eui) (.val (.bool true)) (.int .u64 s) = euiLook l (k + 1) (.int .u64 s) := by
  simp only [lookPut, euiLook, anyN_succ, Value.int.injEq, true_and]
  by_cases e : s = (l.getD k default).eui
  · rw [if_pos e, if_pos (by simp [e, -List.getD_eq_getElem?_getD])]
  · rw [if_neg e]
    have e2 : decide ((l.getD k default).eui = s) = false := by simpa [-List.getD_eq_getElem?_getD] using fun x => e x.symm
    rw [e2, Bool.or_false]

theorem ac_device_Check (H : Hom) (hH : smallH H) : AC Tryz.prog 29 [.pv (.agg (cHom H))] [] (.pv (vint (homE H))) [] := by
  have hl : H.devices.length ≤ 1048576 := hH.2.1
  refine AC.of_awp (T := T) T_ok hm Tryz.call29 Tryz.func29 rfl rfl rfl ?_
  conv => whnf
  refine .inl ⟨_, ac_cluster_All H.clusters hH.1, ?_⟩
  conv => whnf
  refine ⟨fun h => ?_, fun h => ?_⟩ <;> (try simp only [decide_eq_true_eq, decide_eq_false_iff_not, Bool.not_eq_true', Bool.not_eq_false', Int.toNat_natCast, beq_iff_eq, decide_eq_decide, beq_eq_false_iff_ne, ne_eq, reduceCtorEq] at h) <;> (conv => whnf)
  · exact PSub.int (by rw [homE, if_pos h])
  rw [homE, if_neg (by simpa using h)]
  have ha := h
  refine ⟨fun h => ?_, fun h => ?_⟩ <;> (try simp only [decide_eq_true_eq, decide_eq_false_iff_not, Bool.not_eq_true', Bool.not_eq_false', Int.toNat_natCast, beq_iff_eq, decide_eq_decide, beq_eq_false_iff_ne, ne_eq, reduceCtorEq] at h) <;> (conv => whnf)
  · exact PSub.int (by rw [if_pos (by omega)])
  rw [if_neg (by omega)]
  refine .inl ⟨_, ac_device_clusters H hH.1.1, ?_⟩
  conv => whnf
  clear h
  have hu : ∀ i, i < H.clusters.length → cluE H.clusters i = 0 := firstE_zero (by
    unfold allE at ha
    split at ha
    · cases ha
    · exact ha)
  have hm : PSub (.map (.one .str) (cluLook (lastC H.clusters H.clusters.length))) (.map (.one .str) (cluLook (firstC H.clusters))) := PSub.map (by
    rintro _ ⟨s, rfl⟩
    simp only [cluLook, lastC_first hu])
  refine loop_k (ι := Nat) [1, 4, 5, 23, 24] [1] (fun k => k ≤ H.devices.length ∧ (∀ j, j < k → devE (firstC H.clusters) H.devices j = 0)) (fun k => H.devices.length - k) 0 (fun k => [(25, .pv (vint k))]) (fun k => [(21, .map (.one (.int .u64)) (euiLook H.devices k))]) [] ⟨Nat.zero_le _, fun j h => absurd h (by omega)⟩ ?_ (fun k hk => ?_)
  · (repeat' (first | exact PSub.rfl | exact rfl | exact PSubs.rfl | exact trivial | exact PSub.lit_sb rfl | refine And.intro ?_ ?_)); all_goals (rintro _ ⟨s, rfl⟩; rfl)
  obtain ⟨hkn, hinv⟩ := hk
  conv => whnf
  repeat (any_goals (first
    | (refine ⟨fun (h : (_ : Bool) = true) => ?_, fun (h : (_ : Bool) = false) => ?_⟩ <;> (try simp only [decide_eq_true_eq, decide_eq_false_iff_not, Bool.not_eq_true', Bool.not_eq_false', Int.toNat_natCast, beq_iff_eq, decide_eq_decide, beq_eq_false_iff_ne, ne_eq, reduceCtorEq] at h) <;> (conv => whnf))
    | (refine .inl ⟨_, ac_device_numbers (H.devices.getD k default), ?_⟩; conv => whnf)
    | (refine And.intro (by (try simp only [Int.toNat_natCast]); omega) ?_; conv => whnf)
    | (refine And.intro (show (_ : Bool) = true from by kernel_rfl) ?_; conv => whnf)
    | (refine .inl ⟨wrap64 (by omega), ?_⟩; conv => whnf)))
  · have e : devE (firstC H.clusters) H.devices k = 2 := by simp [devE, h, -List.getD_eq_getElem?_getD]
    exact PSub.int (by rw [firstE_at (k := k) (by omega) (by rw [e]; decide) hinv, e])
  · rename_i h0 h1
    rw [show (↑k - 1 : Int).toNat = k - 1 from by omega] at h
    have e : devE (firstC H.clusters) H.devices k = 14 := by simp [devE, h0, h, -List.getD_eq_getElem?_getD]; omega
    exact PSub.int (by rw [firstE_at (k := k) (by omega) (by rw [e]; decide) hinv, e])
  · rw [show (↑k - 1 : Int).toNat = k - 1 from by omega] at h
    refine ⟨fun p => ?_, fun h => ?_⟩
    · intro hp
      rename_i h0 h1
      have hnum : numB (H.devices.getD k default) = true := by assumption
      rw [Int.toNat_natCast] at hp
      simp only [euiLook] at hp
      split at hp
      · rename_i hany
        cases hp
        conv => whnf
        have e : devE (firstC H.clusters) H.devices k = 9 := by simp [devE, hnum, h0, h1, hany, -List.getD_eq_getElem?_getD]; try omega
        exact PSub.int (by rw [firstE_at (k := k) (by omega) (by rw [e]; decide) hinv, e])
      · cases hp
    · rw [Int.toNat_natCast] at h
      conv => whnf
      have hany : anyN k (fun j => decide ((H.devices.getD j default).eui = (H.devices.getD k default).eui)) = false := by
        simp only [euiLook] at h
        split at h
        · cases h
        · rename_i hx; simpa using hx
      rename_i h0 h1
      have hnum : numB (H.devices.getD k default) = true := by assumption
      repeat (any_goals (first
        | (refine ⟨fun (h : (_ : Bool) = true) => ?_, fun (h : (_ : Bool) = false) => ?_⟩ <;> (try simp only [decide_eq_true_eq, decide_eq_false_iff_not, Bool.not_eq_true', Bool.not_eq_false', Int.toNat_natCast, beq_iff_eq, decide_eq_decide, beq_eq_false_iff_ne, ne_eq, reduceCtorEq] at h) <;> (conv => whnf))
        | (refine .inl ⟨_, ac_names_Valid (H.devices.getD k default).room, ?_⟩; conv => whnf)
        | (refine .inl ⟨_, AC.sub2 (ac_device_capabilities (H.devices.getD k default) (firstC H.clusters) (fun _ _ => firstC_small hH.1)) .rfl hm, ?_⟩; conv => whnf)
        | (refine And.intro (by (try simp only [Int.toNat_natCast]); omega) ?_; conv => whnf)
        | (refine And.intro (show (_ : Bool) = true from by kernel_rfl) ?_; conv => whnf)
        | (refine .inl ⟨wrap64 (by omega), ?_⟩; conv => whnf)))
      · have e : devE (firstC H.clusters) H.devices k = 10 := by simp [devE, hnum, h0, h1, hany, h, -List.getD_eq_getElem?_getD]; try omega
        exact PSub.int (by rw [firstE_at (k := k) (by omega) (by rw [e]; decide) hinv, e])
      · rename_i h2
        have e : devE (firstC H.clusters) H.devices k = capE (firstC H.clusters) (H.devices.getD k default) := by simp [devE, hnum, h0, h1, hany, h2, -List.getD_eq_getElem?_getD]; try omega
        exact PSub.int (by rw [firstE_at (k := k) (by omega) (by rw [e]; exact h) hinv, e])
      · rename_i h2
        have e : devE (firstC H.clusters) H.devices k = 0 := by simp [devE, hnum, h0, h1, hany, h2, h, -List.getD_eq_getElem?_getD]; try omega
        refine ⟨k + 1, [], ⟨by omega, ?_⟩, by omega, ?_⟩
        · intro j hj
          by_cases ee : j = k
          · subst ee; exact e
          · exact hinv j (by omega)
        · (repeat' (first | exact PSub.rfl | exact rfl | exact PSubs.rfl | exact trivial | exact PSub.lit_sb rfl | refine And.intro ?_ ?_))
          rintro _ ⟨s, rfl⟩
          exact euiLook_put H.devices k s
  · refine ⟨fun p => ?_, fun h => ?_⟩
    · intro hp
      rename_i h0 h1
      have hnum : numB (H.devices.getD k default) = true := by assumption
      rw [Int.toNat_natCast] at hp
      simp only [euiLook] at hp
      split at hp
      · rename_i hany
        cases hp
        conv => whnf
        have e : devE (firstC H.clusters) H.devices k = 9 := by simp [devE, hnum, h0, h1, hany, -List.getD_eq_getElem?_getD]; try omega
        exact PSub.int (by rw [firstE_at (k := k) (by omega) (by rw [e]; decide) hinv, e])
      · cases hp
    · rw [Int.toNat_natCast] at h
      conv => whnf
      have hany : anyN k (fun j => decide ((H.devices.getD j default).eui = (H.devices.getD k default).eui)) = false := by
        simp only [euiLook] at h
        split at h
        · cases h
        · rename_i hx; simpa using hx
      rename_i h0 h1
      have hnum : numB (H.devices.getD k default) = true := by assumption
      repeat (any_goals (first
        | (refine ⟨fun (h : (_ : Bool) = true) => ?_, fun (h : (_ : Bool) = false) => ?_⟩ <;> (try simp only [decide_eq_true_eq, decide_eq_false_iff_not, Bool.not_eq_true', Bool.not_eq_false', Int.toNat_natCast, beq_iff_eq, decide_eq_decide, beq_eq_false_iff_ne, ne_eq, reduceCtorEq] at h) <;> (conv => whnf))
        | (refine .inl ⟨_, ac_names_Valid (H.devices.getD k default).room, ?_⟩; conv => whnf)
        | (refine .inl ⟨_, AC.sub2 (ac_device_capabilities (H.devices.getD k default) (firstC H.clusters) (fun _ _ => firstC_small hH.1)) .rfl hm, ?_⟩; conv => whnf)
        | (refine And.intro (by (try simp only [Int.toNat_natCast]); omega) ?_; conv => whnf)
        | (refine And.intro (show (_ : Bool) = true from by kernel_rfl) ?_; conv => whnf)
        | (refine .inl ⟨wrap64 (by omega), ?_⟩; conv => whnf)))
      · have e : devE (firstC H.clusters) H.devices k = 10 := by simp [devE, hnum, h0, h1, hany, h, -List.getD_eq_getElem?_getD]; try omega
        exact PSub.int (by rw [firstE_at (k := k) (by omega) (by rw [e]; decide) hinv, e])
      · rename_i h2
        have e : devE (firstC H.clusters) H.devices k = capE (firstC H.clusters) (H.devices.getD k default) := by simp [devE, hnum, h0, h1, hany, h2, -List.getD_eq_getElem?_getD]; try omega
        exact PSub.int (by rw [firstE_at (k := k) (by omega) (by rw [e]; exact h) hinv, e])
      · rename_i h2
        have e : devE (firstC H.clusters) H.devices k = 0 := by simp [devE, hnum, h0, h1, hany, h2, h, -List.getD_eq_getElem?_getD]; try omega
        refine ⟨k + 1, [], ⟨by omega, ?_⟩, by omega, ?_⟩
        · intro j hj
          by_cases ee : j = k
          · subst ee; exact e
          · exact hinv j (by omega)
        · (repeat' (first | exact PSub.rfl | exact rfl | exact PSubs.rfl | exact trivial | exact PSub.lit_sb rfl | refine And.intro ?_ ?_))
          rintro _ ⟨s, rfl⟩
          exact euiLook_put H.devices k s
  · exact PSub.int (by rw [firstE_none fun j hj => hinv j (by omega)])

end Go.Abs

namespace Go.Abs
open Go.Proofs
set_option maxRecDepth 10000

def cluAt (l : List Clu) (s : ByteArray) : Nat := firstI l.length fun i => decide ((l.getD i default).name = s)
theorem firstC_eq (l : List Clu) (s : ByteArray) : firstC l s = if cluAt l s < l.length then some (l.getD (cluAt l s) default) else none := by
  unfold firstC cluAt
  cases hf : l.find? fun c => decide (c.name = s) with
  | none =>
    rw [List.find?_eq_none] at hf
    rw [firstI_none fun i hi => ?_, if_neg (Nat.lt_irrefl _)]
    have := hf l[i] (List.getElem_mem hi)
    simpa [List.getD, hi] using this
  | some c =>
    obtain ⟨h1, xs, ys, h2, h3⟩ := List.find?_eq_some_iff_append.1 hf
    have hi : xs.length < l.length := by rw [h2]; simp
    have e : l.getD xs.length default = c := by simp [h2]
    have ef : firstI l.length (fun i => decide ((l.getD i default).name = s)) = xs.length := by
      refine firstI_at hi (by rw [e]; exact h1) fun j hj => ?_
      have := h3 xs[j] (List.getElem_mem hj)
      simpa [h2, List.getElem?_append_left hj, hj] using this
    rw [ef, if_pos hi, e]

def cluIx (l : List Clu) (s : ByteArray) : Int := if cluAt l s < l.length then (cluAt l s : Int) else -1

theorem ac_r22_cluster (H : Hom) (s : ByteArray) (hH : smallH H) : AC Tryz.prog 110 [.pv (.agg (cHom H)), .pv (vstr s)] [] (.pv (vint (cluIx H.clusters s))) [] := by
  have hl : H.clusters.length ≤ 1048576 := hH.1.1
  refine AC.of_awp (T := T) T_ok hm Tryz.call110 Tryz.func110 rfl rfl rfl ?_
  conv => whnf
  refine loop_k (ι := Nat) [1, 2] [2] (fun k => k ≤ H.clusters.length ∧ (∀ j, j < k → decide ((H.clusters.getD j default).name = s) = false)) (fun k => H.clusters.length - k) 0 (fun k => [(5, .pv (vint k))]) (fun _ => []) [] ⟨Nat.zero_le _, fun j h => absurd h (by omega)⟩ ?_ (fun k hk => ?_)
  · (repeat' (first | exact PSub.rfl | exact rfl | exact PSubs.rfl | exact trivial | exact PSub.lit_sb rfl | refine And.intro ?_ ?_))
  obtain ⟨hkn, hinv⟩ := hk
  conv => whnf
  repeat (any_goals (first
    | (refine ⟨fun (h : (_ : Bool) = true) => ?_, fun (h : (_ : Bool) = false) => ?_⟩ <;> (try simp only [decide_eq_true_eq, decide_eq_false_iff_not, Bool.not_eq_true', Bool.not_eq_false', Int.toNat_natCast, beq_iff_eq, decide_eq_decide, beq_eq_false_iff_ne, ne_eq, reduceCtorEq] at h) <;> (conv => whnf))
    | (refine And.intro (by (try simp only [Int.toNat_natCast]); omega) ?_; conv => whnf)
    | (refine And.intro (show (_ : Bool) = true from by kernel_rfl) ?_; conv => whnf)
    | (refine .inl ⟨wrap64 (by omega), ?_⟩; conv => whnf)))
  · have e : cluAt H.clusters s = k := firstI_at (by omega) (by simpa [-List.getD_eq_getElem?_getD] using h) hinv
    exact PSub.int (by rw [cluIx, e, if_pos (by omega)])
  · refine ⟨k + 1, [], ⟨by omega, ?_⟩, by first | omega | (dsimp only; omega), ?_⟩
    rotate_left
    · (repeat' (first | exact PSub.rfl | exact rfl | exact PSubs.rfl | exact trivial | exact PSub.lit_sb rfl | refine And.intro ?_ ?_))
    intro j hj
    by_cases e : j = k
    · subst e; first | exact h | simpa [-List.getD_eq_getElem?_getD] using h | simp_all [-List.getD_eq_getElem?_getD]
    · exact hinv j (by omega)
  · have e : cluAt H.clusters s = H.clusters.length := firstI_none fun j hj => hinv j (by omega)
    exact PSub.int (by rw [cluIx, e, if_neg (by omega)])

def devAt (l : List Dev) (id : Int) : Nat := firstI l.length fun i => decide ((l.getD i default).id = id)
def devIx (l : List Dev) (id : Int) : Int := if devAt l id < l.length then (devAt l id : Int) else -1

theorem ac_r22_At (H : Hom) (id : Int) (hH : smallH H) : AC Tryz.prog 109 [.pv (.agg (cHom H)), .pv (vint id)] [] (.pv (vint (devIx H.devices id))) [] := by
  have hl : H.devices.length ≤ 1048576 := hH.2.1
  refine AC.of_awp (T := T) T_ok hm Tryz.call109 Tryz.func109 rfl rfl rfl ?_
  conv => whnf
  refine loop_k (ι := Nat) [1, 2] [2] (fun k => k ≤ H.devices.length ∧ (∀ j, j < k → decide ((H.devices.getD j default).id = id) = false)) (fun k => H.devices.length - k) 0 (fun k => [(5, .pv (vint k))]) (fun _ => []) [] ⟨Nat.zero_le _, fun j h => absurd h (by omega)⟩ ?_ (fun k hk => ?_)
  · (repeat' (first | exact PSub.rfl | exact rfl | exact PSubs.rfl | exact trivial | exact PSub.lit_sb rfl | refine And.intro ?_ ?_))
  obtain ⟨hkn, hinv⟩ := hk
  conv => whnf
  repeat (any_goals (first
    | (refine ⟨fun (h : (_ : Bool) = true) => ?_, fun (h : (_ : Bool) = false) => ?_⟩ <;> (try simp only [decide_eq_true_eq, decide_eq_false_iff_not, Bool.not_eq_true', Bool.not_eq_false', Int.toNat_natCast, beq_iff_eq, decide_eq_decide, beq_eq_false_iff_ne, ne_eq, reduceCtorEq] at h) <;> (conv => whnf))
    | (refine And.intro (by (try simp only [Int.toNat_natCast]); omega) ?_; conv => whnf)
    | (refine And.intro (show (_ : Bool) = true from by kernel_rfl) ?_; conv => whnf)
    | (refine .inl ⟨wrap64 (by omega), ?_⟩; conv => whnf)))
  · have e : devAt H.devices id = k := firstI_at (by omega) (by simpa [-List.getD_eq_getElem?_getD] using h) hinv
    exact PSub.int (by rw [devIx, e, if_pos (by omega)])
  · refine ⟨k + 1, [], ⟨by omega, ?_⟩, by first | omega | (dsimp only; omega), ?_⟩
    rotate_left
    · (repeat' (first | exact PSub.rfl | exact rfl | exact PSubs.rfl | exact trivial | exact PSub.lit_sb rfl | refine And.intro ?_ ?_))
    intro j hj
    by_cases e : j = k
    · subst e; first | exact h | simpa [-List.getD_eq_getElem?_getD] using h | simp_all [-List.getD_eq_getElem?_getD]
    · exact hinv j (by omega)
  · have e : devAt H.devices id = H.devices.length := firstI_none fun j hj => hinv j (by omega)
    exact PSub.int (by rw [devIx, e, if_neg (by omega)])

theorem firstC_ix {l : List Clu} {s : ByteArray} : (cluIx l s < 0 ∧ firstC l s = none) ∨ ∃ k : Nat, cluIx l s = k ∧ k < l.length ∧ firstC l s = some (l.getD k default) := by
  rw [firstC_eq]
  unfold cluIx
  split
  · rename_i h; exact .inr ⟨_, rfl, h, rfl⟩
  · exact .inl ⟨by omega, rfl⟩

theorem ac_r22_parts (H : Hom) (d : Dev) (hH : smallH H) : AC Tryz.prog 115 [.pv (.agg (cHom H)), .pv (.agg (cDev d))] [] (.pv (vint (capE (firstC H.clusters) d))) [] := by
  have hl : H.clusters.length ≤ 1048576 := hH.1.1
  refine AC.of_awp (T := T) T_ok hm Tryz.call115 Tryz.func115 rfl rfl rfl ?_
  conv => whnf
  refine ⟨fun h => ?_, fun h => ?_⟩
  · conv => whnf
    simp only [decide_eq_true_eq] at h
    exact PSub.int (by rw [capE, if_pos (by omega)])
  conv => whnf
  refine ⟨fun h => ?_, fun h => ?_⟩ <;> (try simp only [decide_eq_true_eq, decide_eq_false_iff_not, Bool.not_eq_true', Bool.not_eq_false', Int.toNat_natCast, beq_iff_eq, decide_eq_decide, beq_eq_false_iff_ne, ne_eq, reduceCtorEq] at h) <;> (conv => whnf)
  · exact PSub.int (by rw [capE, if_pos (by omega)])
  rename_i h0
  simp only [decide_eq_false_iff_not] at h0
  rw [capE, if_neg (by omega)]
  refine loop_k (ι := Nat × Int) [2, 3] [2, 3] (fun i => i.1 ≤ d.clusters.length ∧ (0 ≤ i.2 ∧ i.2 ≤ i.1 * 1048576) ∧ forI (capStep (firstC H.clusters) d) (d.clusters.length - i.1) i.1 i.2 = forI (capStep (firstC H.clusters) d) d.clusters.length 0 0) (fun i => d.clusters.length - i.1) (0, 0) (fun i => [(5, .pv (vint i.2)), (6, .pv (vint i.1))]) (fun _ => []) [] ⟨Nat.zero_le _, by simp, rfl⟩ ?_ (fun i hk => ?_)
  · (repeat' (first | exact PSub.rfl | exact rfl | exact PSubs.rfl | exact trivial | exact PSub.lit_sb rfl | refine And.intro ?_ ?_))
  obtain ⟨k, n⟩ := i
  obtain ⟨hkn, hn, hfor⟩ := hk
  simp only at hkn hn hfor
  conv => whnf
  refine ⟨fun h => ?_, fun h => ?_⟩ <;> (try simp only [decide_eq_true_eq, decide_eq_false_iff_not, Bool.not_eq_true', Bool.not_eq_false', Int.toNat_natCast, beq_iff_eq, decide_eq_decide, beq_eq_false_iff_ne, ne_eq, reduceCtorEq] at h) <;> (conv => whnf)
  · repeat (any_goals (first
      | (refine ⟨fun (h : (_ : Bool) = true) => ?_, fun (h : (_ : Bool) = false) => ?_⟩ <;> (try simp only [decide_eq_true_eq, decide_eq_false_iff_not, Bool.not_eq_true', Bool.not_eq_false', Int.toNat_natCast, beq_iff_eq, decide_eq_decide, beq_eq_false_iff_ne, ne_eq, reduceCtorEq] at h) <;> (conv => whnf))
      | (refine .inl ⟨_, ac_r22_cluster H (d.clusters.getD k default) hH, ?_⟩; conv => whnf)
      | (refine .inl ⟨_, ac_r04_Index d.clusters (d.clusters.getD k default) (by omega), ?_⟩; conv => whnf)
      | (refine And.intro (by (try simp only [Int.toNat_natCast]); omega) ?_; conv => whnf)
      | (refine And.intro (show (_ : Bool) = true from by kernel_rfl) ?_; conv => whnf)
      | (refine .inl ⟨wrap64 (by omega), ?_⟩; conv => whnf)))
    · have hc : firstC H.clusters (d.clusters.getD k default) = none := by
        rcases firstC_ix (l := H.clusters) (s := d.clusters.getD k default) with ⟨_, e⟩ | ⟨j, e, _, _⟩
        · exact e
        · omega
      rw [forI_stop hfor (by omega) (r := 8) (by rw [capStep, hc])]
      exact PSub.rfl
    · rcases firstC_ix (l := H.clusters) (s := d.clusters.getD k default) with ⟨_, _⟩ | ⟨j, e, hj, hc⟩
      · omega
      rw [forI_stop hfor (by omega) (r := 9) (by rw [capStep, hc]; simp only; rw [if_pos h])]
      exact PSub.rfl
    · rcases firstC_ix (l := H.clusters) (s := d.clusters.getD k default) with ⟨_, _⟩ | ⟨j, e, hj, hc⟩
      · omega
      rw [e]
      have hcl : (H.clusters.getD j default).attrs.length ≤ 1048576 := (hH.1.2 j).1
      refine And.intro (by omega) ?_
      conv => whnf
      refine .inl ⟨wrap64 (by simp only [Int.toNat_natCast]; omega), ?_⟩
      conv => whnf
      repeat (any_goals (first
        | (refine ⟨fun (h : (_ : Bool) = true) => ?_, fun (h : (_ : Bool) = false) => ?_⟩ <;> (try simp only [decide_eq_true_eq, decide_eq_false_iff_not, Bool.not_eq_true', Bool.not_eq_false', Int.toNat_natCast, beq_iff_eq, decide_eq_decide, beq_eq_false_iff_ne, ne_eq, reduceCtorEq] at h) <;> (conv => whnf))
        | (refine And.intro (by (try simp only [Int.toNat_natCast]); omega) ?_; conv => whnf)
        | (refine And.intro (show (_ : Bool) = true from by kernel_rfl) ?_; conv => whnf)
        | (refine .inl ⟨wrap64 (by omega), ?_⟩; conv => whnf)))
      refine ⟨(k + 1, n + (H.clusters.getD j default).attrs.length), [], ⟨by dsimp only; omega, ⟨by dsimp only; omega, by dsimp only; omega⟩, forI_next hfor (by omega) (by rw [capStep, hc]; simp only; rw [if_neg h])⟩, by dsimp only; omega, ?_⟩
      (repeat' (first | exact PSub.rfl | exact rfl | exact PSubs.rfl | exact trivial | exact PSub.lit_sb rfl | refine And.intro ?_ ?_))
  · rw [forI_end hfor (by omega)]
    repeat (any_goals (first
      | (refine ⟨fun (h : (_ : Bool) = true) => ?_, fun (h : (_ : Bool) = false) => ?_⟩ <;> (try simp only [decide_eq_true_eq, decide_eq_false_iff_not, Bool.not_eq_true', Bool.not_eq_false', Int.toNat_natCast, beq_iff_eq, decide_eq_decide, beq_eq_false_iff_ne, ne_eq, reduceCtorEq] at h) <;> (conv => whnf))
      | (refine And.intro (by (try simp only [Int.toNat_natCast]); omega) ?_; conv => whnf)
      | (refine And.intro (show (_ : Bool) = true from by kernel_rfl) ?_; conv => whnf)
      | (refine .inl ⟨wrap64 (by omega), ?_⟩; conv => whnf)))
    · exact PSub.int (by simp only; rw [if_pos h])
    · exact PSub.int (by simp only; rw [if_neg h])

set_option maxHeartbeats 2000000 in
theorem ac_r22_one (H : Hom) (i : Nat) (hH : smallH H) (hi : i < H.devices.length) : AC Tryz.prog 74 [.pv (.agg (cHom H)), .pv (vint i)] [] (.pv (vint (devE (firstC H.clusters) H.devices i))) [] := by
  have hl : H.devices.length ≤ 1048576 := hH.2.1
  have hpi : (↑i - 1 : Int).toNat = i - 1 := by omega
  refine AC.of_awp (T := T) T_ok hm Tryz.call74 Tryz.func74 rfl rfl rfl ?_
  conv => whnf
  repeat (any_goals (first
    | (refine ⟨fun (h : (_ : Bool) = true) => ?_, fun (h : (_ : Bool) = false) => ?_⟩ <;> (try simp only [decide_eq_true_eq, decide_eq_false_iff_not, Bool.not_eq_true', Bool.not_eq_false', Int.toNat_natCast, beq_iff_eq, decide_eq_decide, beq_eq_false_iff_ne, ne_eq, reduceCtorEq] at h) <;> (conv => whnf))
    | (refine And.intro (by (try simp only [Int.toNat_natCast]); omega) ?_; conv => whnf)
    | (refine And.intro (show (_ : Bool) = true from by kernel_rfl) ?_; conv => whnf)
    | (refine .inl ⟨wrap64 (by omega), ?_⟩; conv => whnf)))
  all_goals try rw [hpi] at h
  all_goals try (exfalso; simp_all [-List.getD_eq_getElem?_getD]; done)
  all_goals try (refine PSub.int ?_; simp only [devE, numB]; simp_all [-List.getD_eq_getElem?_getD]; done)
  all_goals try (refine PSub.int ?_; simp only [devE, numB]; simp_all [-List.getD_eq_getElem?_getD]; omega)
  all_goals trace "left"
  all_goals
    have e0 : devE (firstC H.clusters) H.devices i = if anyN i (fun j => decide ((H.devices.getD j default).eui = (H.devices.getD i default).eui)) = true then 9 else if validName (H.devices.getD i default).room = false then 10 else capE (firstC H.clusters) (H.devices.getD i default) := by
      have hn : numB (H.devices.getD i default) = true := by simp only [numB]; simp_all [-List.getD_eq_getElem?_getD]
      simp only [devE]; rw [hn]; simp only [Bool.true_eq_false, if_false]
      rw [if_neg (by omega)]
    rw [e0]
    refine loop_k (ι := Nat) [1, 2, 5] [2, 5] (fun k => k ≤ i ∧ (∀ j, j < k → decide ((H.devices.getD j default).eui = (H.devices.getD i default).eui) = false)) (fun k => i - k) 0 (fun k => [(6, .pv (vint k))]) (fun _ => []) [] ⟨Nat.zero_le _, fun j h => absurd h (by omega)⟩ ?_ (fun k hk => ?_)
    · (repeat' (first | exact PSub.rfl | exact rfl | exact PSubs.rfl | exact trivial | exact PSub.lit_sb rfl | refine And.intro ?_ ?_))
    obtain ⟨hkn, hinv⟩ := hk
    conv => whnf
    clear e0
    repeat (any_goals (first
      | (refine ⟨fun (h : (_ : Bool) = true) => ?_, fun (h : (_ : Bool) = false) => ?_⟩ <;> (try simp only [decide_eq_true_eq, decide_eq_false_iff_not, Bool.not_eq_true', Bool.not_eq_false', Int.toNat_natCast, beq_iff_eq, decide_eq_decide, beq_eq_false_iff_ne, ne_eq, reduceCtorEq] at h) <;> (conv => whnf))
      | (refine .inl ⟨_, ac_r04_Valid (H.devices.getD i default).room, ?_⟩; conv => whnf)
      | (refine .inl ⟨_, ac_r22_parts H (H.devices.getD i default) hH, ?_⟩; conv => whnf)
      | (refine And.intro (by (try simp only [Int.toNat_natCast]); omega) ?_; conv => whnf)
      | (refine And.intro (show (_ : Bool) = true from by kernel_rfl) ?_; conv => whnf)
      | (refine .inl ⟨wrap64 (by omega), ?_⟩; conv => whnf)))
    · have e := anyN_true (n := i) (k := k) (p := fun j => decide ((H.devices.getD j default).eui = (H.devices.getD i default).eui)) (by omega) (by simpa [-List.getD_eq_getElem?_getD] using h)
      exact PSub.int (by rw [if_pos e])
    · refine ⟨k + 1, [], ⟨by omega, ?_⟩, by first | omega | (dsimp only; omega), ?_⟩
      rotate_left
      · (repeat' (first | exact PSub.rfl | exact rfl | exact PSubs.rfl | exact trivial | exact PSub.lit_sb rfl | refine And.intro ?_ ?_))
      intro j hj
      by_cases e : j = k
      · subst e; first | exact h | simpa [-List.getD_eq_getElem?_getD] using h | simp_all [-List.getD_eq_getElem?_getD]
      · exact hinv j (by omega)
    · have e := anyN_false (n := i) (p := fun j => decide ((H.devices.getD j default).eui = (H.devices.getD i default).eui)) (fun j hj => hinv j (by omega))
      exact PSub.int (by rw [e, if_neg (by simp), if_pos h])
    · have e := anyN_false (n := i) (p := fun j => decide ((H.devices.getD j default).eui = (H.devices.getD i default).eui)) (fun j hj => hinv j (by omega))
      exact PSub.int (by rw [e, if_neg (by simp), if_neg (by rw [h]; decide)])

end Go.Abs

namespace Go.Abs
open Go.Proofs
set_option maxRecDepth 10000

theorem ac_r22_Check (H : Hom) (hH : smallH H) : AC Tryz.prog 31 [.pv (.agg (cHom H))] [] (.pv (vint (homE H))) [] := by
  have hl : H.devices.length ≤ 1048576 := hH.2.1
  refine AC.of_awp (T := T) T_ok hm Tryz.call31 Tryz.func31 rfl rfl rfl ?_
  conv => whnf
  refine .inl ⟨_, ac_r21_All H.clusters hH.1, ?_⟩
  conv => whnf
  refine ⟨fun h => ?_, fun h => ?_⟩ <;> (try simp only [decide_eq_true_eq, decide_eq_false_iff_not, Bool.not_eq_true', Bool.not_eq_false', Int.toNat_natCast, beq_iff_eq, decide_eq_decide, beq_eq_false_iff_ne, ne_eq, reduceCtorEq] at h) <;> (conv => whnf)
  · exact PSub.int (by rw [homE, if_pos h])
  rw [homE, if_neg (by simpa using h)]
  refine ⟨fun h => ?_, fun h => ?_⟩ <;> (try simp only [decide_eq_true_eq, decide_eq_false_iff_not, Bool.not_eq_true', Bool.not_eq_false', Int.toNat_natCast, beq_iff_eq, decide_eq_decide, beq_eq_false_iff_ne, ne_eq, reduceCtorEq] at h) <;> (conv => whnf)
  · exact PSub.int (by rw [if_pos (by omega)])
  rw [if_neg (by omega)]
  refine loop_k (ι := Nat) [1] [1] (fun k => k ≤ H.devices.length ∧ (∀ j, j < k → devE (firstC H.clusters) H.devices j = 0)) (fun k => H.devices.length - k) 0 (fun k => [(4, .pv (vint k))]) (fun _ => []) [] ⟨Nat.zero_le _, fun j h => absurd h (by omega)⟩ ?_ (fun k hk => ?_)
  · (repeat' (first | exact PSub.rfl | exact rfl | exact PSubs.rfl | exact trivial | exact PSub.lit_sb rfl | refine And.intro ?_ ?_))
  obtain ⟨hkn, hinv⟩ := hk
  conv => whnf
  refine ⟨fun h => ?_, fun h => ?_⟩ <;> (try simp only [decide_eq_true_eq, decide_eq_false_iff_not, Bool.not_eq_true', Bool.not_eq_false', Int.toNat_natCast, beq_iff_eq, decide_eq_decide, beq_eq_false_iff_ne, ne_eq, reduceCtorEq] at h) <;> (conv => whnf)
  · refine .inl ⟨_, ac_r22_one H k hH (by omega), ?_⟩
    conv => whnf
    repeat (any_goals (first
      | (refine ⟨fun (h : (_ : Bool) = true) => ?_, fun (h : (_ : Bool) = false) => ?_⟩ <;> (try simp only [decide_eq_true_eq, decide_eq_false_iff_not, Bool.not_eq_true', Bool.not_eq_false', Int.toNat_natCast, beq_iff_eq, decide_eq_decide, beq_eq_false_iff_ne, ne_eq, reduceCtorEq] at h) <;> (conv => whnf))
      | (refine And.intro (by (try simp only [Int.toNat_natCast]); omega) ?_; conv => whnf)
      | (refine And.intro (show (_ : Bool) = true from by kernel_rfl) ?_; conv => whnf)
      | (refine .inl ⟨wrap64 (by omega), ?_⟩; conv => whnf)))
    · exact PSub.int (by rw [firstE_at (k := k) (by omega) h hinv])
    · refine ⟨k + 1, [], ⟨by omega, ?_⟩, by first | omega | (dsimp only; omega), ?_⟩
      rotate_left
      · (repeat' (first | exact PSub.rfl | exact rfl | exact PSubs.rfl | exact trivial | exact PSub.lit_sb rfl | refine And.intro ?_ ?_))
      intro j hj
      by_cases e : j = k
      · subst e; first | exact h | simpa [-List.getD_eq_getElem?_getD] using h | simp_all [-List.getD_eq_getElem?_getD]
      · exact hinv j (by omega)
  · exact PSub.int (by rw [firstE_none fun j hj => hinv j (by omega)])

/-- device.Less -/
def keyLess (a b : Key) : Bool := if a.dev ≠ b.dev then decide (a.dev < b.dev) else if a.cluster ≠ b.cluster then Op.bytesLess a.cluster.toList b.cluster.toList else Op.bytesLess a.attr.toList b.attr.toList

theorem ac_device_Less (a b : Key) : AC Tryz.prog 98 [.pv (.agg (cKey a)), .pv (.agg (cKey b))] [] (.pv (vbool (keyLess a b))) [] := by
  refine AC.of_awp (T := T) T_ok hm Tryz.call98 Tryz.func98 rfl rfl rfl ?_
  conv => whnf
  repeat (any_goals (first
    | (refine ⟨fun (h : (_ : Bool) = true) => ?_, fun (h : (_ : Bool) = false) => ?_⟩ <;> (try simp only [decide_eq_true_eq, decide_eq_false_iff_not, Bool.not_eq_true', Bool.not_eq_false', Int.toNat_natCast, beq_iff_eq, decide_eq_decide, beq_eq_false_iff_ne, ne_eq, reduceCtorEq] at h) <;> (conv => whnf))
    | (refine And.intro (by (try simp only [Int.toNat_natCast]); omega) ?_; conv => whnf)
    | (refine And.intro (show (_ : Bool) = true from by kernel_rfl) ?_; conv => whnf)
    | (refine .inl ⟨wrap64 (by omega), ?_⟩; conv => whnf)))
  all_goals (try simp only [decide_eq_true_eq, decide_eq_false_iff_not, Bool.not_eq_true', Bool.not_eq_false', Int.toNat_natCast, beq_iff_eq, decide_eq_decide, beq_eq_false_iff_ne, ne_eq, reduceCtorEq] at *)
  all_goals first
    | contradiction
    | (exfalso; omega)
    | exact PSub.rfl
    | (refine PSub.int ?_; simp only [keyLess]; (repeat' split) <;> first | rfl | omega | (simp_all [-List.getD_eq_getElem?_getD]; done) | (simp_all [-List.getD_eq_getElem?_getD]; omega))
    | (refine PSub.sb ?_; simp_all [keyLess, -List.getD_eq_getElem?_getD]; done)
    | (refine PSub.lit_sb ?_; simp_all [keyLess, -List.getD_eq_getElem?_getD]; done)
    | (refine PSub.sb_lit ?_; simp_all [keyLess, -List.getD_eq_getElem?_getD]; done)
    | (refine PSub.sb ?_; rw [Bool.eq_iff_iff]; simp_all [keyLess, -List.getD_eq_getElem?_getD]; done)
    | (refine PSub.lit_sb ?_; rw [Bool.eq_iff_iff]; simp_all [keyLess, -List.getD_eq_getElem?_getD]; done)
    | (refine PSub.sb_lit ?_; rw [Bool.eq_iff_iff]; simp_all [keyLess, -List.getD_eq_getElem?_getD]; done)
    | skip
theorem ac_r22_Less (a b : Key) : AC Tryz.prog 103 [.pv (.agg (cKey a)), .pv (.agg (cKey b))] [] (.pv (vbool (keyLess a b))) [] := by
  refine AC.of_awp (T := T) T_ok hm Tryz.call103 Tryz.func103 rfl rfl rfl ?_
  conv => whnf
  repeat (any_goals (first
    | (refine ⟨fun (h : (_ : Bool) = true) => ?_, fun (h : (_ : Bool) = false) => ?_⟩ <;> (try simp only [decide_eq_true_eq, decide_eq_false_iff_not, Bool.not_eq_true', Bool.not_eq_false', Int.toNat_natCast, beq_iff_eq, decide_eq_decide, beq_eq_false_iff_ne, ne_eq, reduceCtorEq] at h) <;> (conv => whnf))
    | (refine And.intro (by (try simp only [Int.toNat_natCast]); omega) ?_; conv => whnf)
    | (refine And.intro (show (_ : Bool) = true from by kernel_rfl) ?_; conv => whnf)
    | (refine .inl ⟨wrap64 (by omega), ?_⟩; conv => whnf)))
  all_goals (try simp only [decide_eq_true_eq, decide_eq_false_iff_not, Bool.not_eq_true', Bool.not_eq_false', Int.toNat_natCast, beq_iff_eq, decide_eq_decide, beq_eq_false_iff_ne, ne_eq, reduceCtorEq] at *)
  all_goals first
    | contradiction
    | (exfalso; omega)
    | exact PSub.rfl
    | (refine PSub.int ?_; simp only [keyLess]; (repeat' split) <;> first | rfl | omega | (simp_all [-List.getD_eq_getElem?_getD]; done) | (simp_all [-List.getD_eq_getElem?_getD]; omega))
    | (refine PSub.sb ?_; simp_all [keyLess, -List.getD_eq_getElem?_getD]; done)
    | (refine PSub.lit_sb ?_; simp_all [keyLess, -List.getD_eq_getElem?_getD]; done)
    | (refine PSub.sb_lit ?_; simp_all [keyLess, -List.getD_eq_getElem?_getD]; done)
    | (refine PSub.sb ?_; rw [Bool.eq_iff_iff]; simp_all [keyLess, -List.getD_eq_getElem?_getD]; done)
    | (refine PSub.lit_sb ?_; rw [Bool.eq_iff_iff]; simp_all [keyLess, -List.getD_eq_getElem?_getD]; done)
    | (refine PSub.sb_lit ?_; rw [Bool.eq_iff_iff]; simp_all [keyLess, -List.getD_eq_getElem?_getD]; done)
    | skip

def noDev : Dev := ⟨0, 0, 0, false, 0, ⟨#[]⟩, []⟩
def findB (H : Hom) (id : Int) : Bool := decide (homE H = 0) && decide (devAt H.devices id < H.devices.length)
def findD (H : Hom) (id : Int) : Dev := if findB H id = true then H.devices.getD (devAt H.devices id) default else noDev

theorem noDev_cells : PSub (.agg [vint 0, .val (.int .u64 0), vint 0, .val (.bool false), vint 0, vstr ⟨#[]⟩, .val (.slice none 0 0)]) (.agg (cDev noDev)) := PSub.agg ⟨.rfl, .rfl, .rfl, PSub.lit_sb rfl, .rfl, .rfl, PSub.nil_ro _ _, trivial⟩

theorem ac_device_find (H : Hom) (id : Int) (hH : smallH H) : AC Tryz.prog 104 [.pv (.agg (cHom H)), .pv (vint id)] [] (.pv (.tup [.agg (cDev (findD H id)), vbool (findB H id)])) [] := by
  have hl : H.devices.length ≤ 1048576 := hH.2.1
  refine AC.of_awp (T := T) T_ok hm Tryz.call104 Tryz.func104 rfl rfl rfl ?_
  conv => whnf
  refine .inl ⟨_, ac_device_Check H hH, ?_⟩
  conv => whnf
  refine ⟨fun h => ?_, fun h => ?_⟩ <;> (try simp only [decide_eq_true_eq, decide_eq_false_iff_not, Bool.not_eq_true', Bool.not_eq_false', Int.toNat_natCast, beq_iff_eq, decide_eq_decide, beq_eq_false_iff_ne, ne_eq, reduceCtorEq] at h) <;> (conv => whnf)
  · have e : findB H id = false := by simp [findB, h]
    rw [findD, e]
    refine ⟨?_, ?_⟩ <;> (conv => whnf)
    · exact noDev_cells
    · exact PSub.lit_sb rfl
  have h0 := h
  refine loop_k (ι := Nat) [1, 4, 13, 14] [4] (fun k => k ≤ H.devices.length ∧ (∀ j, j < k → decide ((H.devices.getD j default).id = id) = false)) (fun k => H.devices.length - k) 0 (fun k => [(15, .pv (vint k))]) (fun _ => []) [] ⟨Nat.zero_le _, fun j h => absurd h (by omega)⟩ ?_ (fun k hk => ?_)
  · (repeat' (first | exact PSub.rfl | exact rfl | exact PSubs.rfl | exact trivial | exact PSub.lit_sb rfl | refine And.intro ?_ ?_))
  obtain ⟨hkn, hinv⟩ := hk
  conv => whnf
  repeat (any_goals (first
    | (refine ⟨fun (h : (_ : Bool) = true) => ?_, fun (h : (_ : Bool) = false) => ?_⟩ <;> (try simp only [decide_eq_true_eq, decide_eq_false_iff_not, Bool.not_eq_true', Bool.not_eq_false', Int.toNat_natCast, beq_iff_eq, decide_eq_decide, beq_eq_false_iff_ne, ne_eq, reduceCtorEq] at h) <;> (conv => whnf))
    | (refine And.intro (by (try simp only [Int.toNat_natCast]); omega) ?_; conv => whnf)
    | (refine And.intro (show (_ : Bool) = true from by kernel_rfl) ?_; conv => whnf)
    | (refine .inl ⟨wrap64 (by omega), ?_⟩; conv => whnf)))
  · have e : devAt H.devices id = k := firstI_at (by omega) (by simpa [-List.getD_eq_getElem?_getD] using h) hinv
    have e2 : findB H id = true := by simp [findB, h0, e]; omega
    rw [findD, e2, e, if_pos rfl]
    refine ⟨?_, ?_⟩ <;> (conv => whnf)
    · exact .rfl
    · exact PSub.lit_sb rfl
  · refine ⟨k + 1, [], ⟨by omega, ?_⟩, by first | omega | (dsimp only; omega), ?_⟩
    rotate_left
    · (repeat' (first | exact PSub.rfl | exact rfl | exact PSubs.rfl | exact trivial | exact PSub.lit_sb rfl | refine And.intro ?_ ?_))
    intro j hj
    by_cases e : j = k
    · subst e; first | exact h | simpa [-List.getD_eq_getElem?_getD] using h | simp_all [-List.getD_eq_getElem?_getD]
    · exact hinv j (by omega)
  · have e : devAt H.devices id = H.devices.length := firstI_none fun j hj => hinv j (by omega)
    have e2 : findB H id = false := by simp [findB, e]
    rw [findD, e2]
    refine ⟨?_, ?_⟩ <;> (conv => whnf)
    · exact noDev_cells
    · exact PSub.lit_sb rfl

end Go.Abs

namespace Go.Abs
open Go.Proofs
set_option maxRecDepth 10000

def attrsOf (o : Option Clu) : List Attr := match o with | some c => c.attrs | none => []
def keysOf1 (f : ByteArray → Option Clu) (id : Int) (s : ByteArray) : List Key := (attrsOf (f s)).map fun a => ⟨id, s, a.name⟩
/-- device.Keys -/
def keysL (H : Hom) (id : Int) : List Key := (findD H id).clusters.flatMap (keysOf1 (firstC H.clusters) id)

theorem allE_distinct {l : List Clu} (ha : allE l = 0) : ∀ i, i < l.length → cluE l i = 0 := firstE_zero (by
    unfold allE at ha
    split at ha
    · cases ha
    · exact ha)
theorem homE_all {H : Hom} (h : homE H = 0) : allE H.clusters = 0 := by
  unfold homE at h
  split at h
  · contradiction
  · omega

theorem capE_clusters {f : ByteArray → Option Clu} {d : Dev} (h : capE f d = 0) : 1 ≤ d.clusters.length ∧ d.clusters.length ≤ 4 := by
  unfold capE at h
  split at h
  · cases h
  · omega

theorem homE_dev {H : Hom} (h : homE H = 0) {i : Nat} (hi : i < H.devices.length) : devE (firstC H.clusters) H.devices i = 0 := by
  unfold homE at h
  split at h
  · contradiction
  · split at h
    · cases h
    · exact firstE_zero h i hi

theorem devE_cap {f : ByteArray → Option Clu} {l : List Dev} {i : Nat} (h : devE f l i = 0) : capE f (l.getD i default) = 0 := by
  unfold devE at h
  split at h
  · cases h
  · split at h
    · cases h
    · split at h
      · cases h
      · split at h
        · cases h
        · exact h

theorem findD_cap {H : Hom} {id : Int} (h : findB H id = true) : capE (firstC H.clusters) (findD H id) = 0 := by
  rw [findD, if_pos h]
  simp only [findB, Bool.and_eq_true, decide_eq_true_eq] at h
  exact devE_cap (homE_dev h.1 h.2)

theorem findD_none {H : Hom} {id : Int} (h : findB H id = false) : findD H id = noDev := by rw [findD, h]; rfl

theorem findD_length {H : Hom} {id : Int} : (findD H id).clusters.length ≤ 4 := by
  cases h : findB H id with
  | true => exact (capE_clusters (findD_cap h)).2
  | false => rw [findD_none h]; decide

theorem lookRes_clu {f : ByteArray → Option Clu} (s : ByteArray) : (∃ c, f s = some c ∧ cluLook f (.string s) = some (.agg (cClu c))) ∨ (f s = none ∧ cluLook f (.string s) = none) := by
  simp only [cluLook]
  cases f s with
  | none => exact .inr ⟨rfl, rfl⟩
  | some c => exact .inl ⟨c, rfl, rfl⟩

/-- the keys of the first k clusters -/
def keysTo (f : ByteArray → Option Clu) (id : Int) (l : List ByteArray) (k : Nat) : List Key := (l.take k).flatMap (keysOf1 f id)
theorem keysTo_succ {f : ByteArray → Option Clu} {id : Int} {l : List ByteArray} {k : Nat} (h : k < l.length) : keysTo f id l (k + 1) = keysTo f id l k ++ keysOf1 f id (l.getD k default) := by
  simp only [keysTo, take_succ_getD h, List.flatMap_append, List.flatMap_cons, List.flatMap_nil, List.append_nil]

theorem keysTo_len {f : ByteArray → Option Clu} (hf : ∀ s c, f s = some c → smallK c) {id : Int} {l : List ByteArray} {k : Nat} (h : k ≤ l.length) : (keysTo f id l k).length ≤ k * 1048576 := by
  induction k with
  | zero => simp [keysTo]
  | succ k ih =>
    rw [keysTo_succ h, List.length_append]
    have := ih (by omega)
    have : (keysOf1 f id (l.getD k default)).length ≤ 1048576 := by
      simp only [keysOf1, attrsOf, List.length_map]
      split
      · rename_i c e; exact (hf _ _ e).1
      · exact Nat.zero_le _
    omega

end Go.Abs

namespace Go.Abs
open Go.Proofs
set_option maxRecDepth 10000

theorem forI_steps {ρ σ : Type} {f : Nat → σ → ρ ⊕ σ} : ∀ (n k : Nat) (s s' : σ), forI f n k s = .inr s' → ∀ i, k ≤ i → i < k + n → ∃ t t', f i t = .inr t'
  | 0, k, s, s', _, i, h1, h2 => by omega
  | n + 1, k, s, s', e, i, h1, h2 => by
    simp only [forI] at e
    cases hf : f k s with
    | inl r => rw [hf] at e; cases e
    | inr t =>
      rw [hf] at e
      by_cases hi : i = k
      · subst hi; exact ⟨s, t, hf⟩
      · exact forI_steps n (k + 1) t s' e i (by omega) (by omega)

theorem capE_some {f : ByteArray → Option Clu} {d : Dev} (h : capE f d = 0) {i : Nat} (hi : i < d.clusters.length) : ∃ c, f (d.clusters.getD i default) = some c := by
  unfold capE at h
  split at h
  · cases h
  · split at h
    · rename_i e he
      subst h
      exfalso
      have key : ∀ n k s, forI (capStep f d) n k s ≠ .inl 0 := by
        intro n
        induction n with
        | zero => intro k s e; cases e
        | succ n ih =>
          intro k s e
          simp only [forI] at e
          cases hf : capStep f d k s with
          | inr t => rw [hf] at e; exact ih _ _ e
          | inl r =>
            rw [hf] at e; cases e
            unfold capStep at hf
            split at hf
            · cases hf
            · split at hf <;> cases hf
      exact key _ _ _ he
    · rename_i m he
      obtain ⟨t, t', e⟩ := forI_steps _ _ _ _ he i (Nat.zero_le _) (by omega)
      unfold capStep at e
      split at e
      · cases e
      · rename_i c hc; exact ⟨c, hc⟩

theorem idxOf_mem {l : List ByteArray} {s : ByteArray} (h : 0 ≤ idxOf l s) : ∃ i, i < l.length ∧ l.getD i default = s := by
  unfold idxOf at h
  split at h
  · rename_i i e
    rw [List.findIdx?_eq_some_iff_getElem] at e
    obtain ⟨hi, he, _⟩ := e
    exact ⟨i, hi, by simpa [List.getD, hi] using he⟩
  · omega

theorem devIx_find {H : Hom} {id : Int} (hv : homE H = 0) : (devIx H.devices id < 0 ∧ findB H id = false) ∨ (devIx H.devices id = (devAt H.devices id : Int) ∧ devAt H.devices id < H.devices.length ∧ findB H id = true ∧ findD H id = H.devices.getD (devAt H.devices id) default) := by
  have : findB H id = decide (devAt H.devices id < H.devices.length) := by simp [findB, hv]
  unfold devIx
  split
  · rename_i h
    have e : findB H id = true := by simp [this, h]
    exact .inr ⟨rfl, h, e, by rw [findD, if_pos e]⟩
  · rename_i h; exact .inl ⟨by omega, by simp [this, h]⟩

theorem firstC_name {l : List Clu} {s : ByteArray} {c : Clu} (h : firstC l s = some c) : c.name = s := by
  have := List.find?_some h
  simpa using this

end Go.Abs

namespace Go.Abs
open Go.Proofs
set_option maxRecDepth 10000

def noClu : Clu := ⟨⟨#[]⟩, [], [], []⟩
/-- the cluster of a device of a valid home -/
def partO (H : Hom) (id : Int) (s : ByteArray) : Option Clu := if findB H id = true ∧ 0 ≤ idxOf (findD H id).clusters s then firstC H.clusters s else none
def attrO (o : Option Clu) (s : ByteArray) : Option Attr := match o with
  | some c => if attrAt c.attrs s < c.attrs.length then some (c.attrs.getD (attrAt c.attrs s) default) else none
  | none => none
/-- device.Find -/
def findA (H : Hom) (k : Key) : Option Attr := attrO (partO H k.dev k.cluster) k.attr

theorem attrOf_some {c : Clu} {s : ByteArray} : attrOf c.attrs s = (attrO (some c) s).getD noAttr ∧ decide (attrAt c.attrs s < c.attrs.length) = (attrO (some c) s).isSome := by
  unfold attrOf attrO
  simp only
  split <;> simp [*]

theorem noAttr_cells2 : PSub (.agg zAttr) (.agg (cAttr noAttr)) := PSub.agg noAttr_cells
theorem noClu_cells : PSub (.agg [vstr ⟨#[]⟩, .val (.slice none 0 0), .val (.slice none 0 0), .val (.slice none 0 0)]) (.agg (cClu noClu)) := PSub.agg ⟨.rfl, PSub.nil_ro _ _, PSub.nil_ro _ _, PSub.nil_ro _ _, trivial⟩
theorem smallK_noClu : smallK noClu := ⟨Nat.zero_le _, fun _ => Nat.zero_le _, Nat.zero_le _, fun _ => ⟨Nat.zero_le _, Nat.zero_le _⟩, Nat.zero_le _⟩

theorem ac_device_Find (H : Hom) (k : Key) (hH : smallH H) : AC Tryz.prog 62 [.pv (.agg (cHom H)), .pv (.agg (cKey k))] [] (.pv (.tup [.agg (cAttr ((findA H k).getD noAttr)), vbool (findA H k).isSome])) [] := by
  have hl : H.clusters.length ≤ 1048576 := hH.1.1
  have hd4 := @findD_length H k.dev
  refine AC.of_awp (T := T) T_ok hm Tryz.call62 Tryz.func62 rfl rfl rfl ?_
  conv => whnf
  refine .inl ⟨_, ac_device_find H k.dev hH, ?_⟩
  conv => whnf
  repeat (any_goals (first
    | (refine ⟨fun (h : (_ : Bool) = true) => ?_, fun (h : (_ : Bool) = false) => ?_⟩ <;> (try simp only [decide_eq_true_eq, decide_eq_false_iff_not, Bool.not_eq_true', Bool.not_eq_false', Int.toNat_natCast, beq_iff_eq, decide_eq_decide, beq_eq_false_iff_ne, ne_eq, reduceCtorEq] at h) <;> (conv => whnf))
    | (refine .inl ⟨_, ac_names_Index (findD H k.dev).clusters k.cluster (by omega), ?_⟩; conv => whnf)
    | (refine .inl ⟨_, ac_device_clusters H hl, ?_⟩; conv => whnf)
    | (refine And.intro (by (try simp only [Int.toNat_natCast]); omega) ?_; conv => whnf)
    | (refine And.intro (show (_ : Bool) = true from by kernel_rfl) ?_; conv => whnf)
    | (refine .inl ⟨wrap64 (by omega), ?_⟩; conv => whnf)))
  · have e : findA H k = none := by simp [findA, partO, h, attrO]
    rw [e]
    refine ⟨?_, ?_⟩ <;> (conv => whnf)
    · exact noAttr_cells2
    · exact PSub.lit_sb rfl
  · have e : findA H k = none := by rw [findA, partO, if_neg (by omega)]; rfl
    rw [e]
    refine ⟨?_, ?_⟩ <;> (conv => whnf)
    · exact noAttr_cells2
    · exact PSub.lit_sb rfl
  · rename_i hb
    have hpart : partO H k.dev k.cluster = firstC H.clusters k.cluster := by rw [partO, if_pos ⟨hb, by omega⟩]
    have hv : homE H = 0 := by simp only [findB, Bool.and_eq_true, decide_eq_true_eq] at hb; exact hb.1
    have hla := lastC_first (allE_distinct (homE_all hv)) k.cluster
    rw [show cluLook (lastC H.clusters H.clusters.length) (.string k.cluster) = cluLook (firstC H.clusters) (.string k.cluster) from by simp only [cluLook, hla]]
    rcases lookRes_clu (f := firstC H.clusters) k.cluster with ⟨c, h1, h2⟩ | ⟨h1, h2⟩
    · rw [h2]
      refine ⟨fun p hp => ?_, fun hp => by cases hp⟩
      cases hp
      conv => whnf
      repeat (any_goals (first
        | (refine ⟨fun (h : (_ : Bool) = true) => ?_, fun (h : (_ : Bool) = false) => ?_⟩ <;> (try simp only [decide_eq_true_eq, decide_eq_false_iff_not, Bool.not_eq_true', Bool.not_eq_false', Int.toNat_natCast, beq_iff_eq, decide_eq_decide, beq_eq_false_iff_ne, ne_eq, reduceCtorEq] at h) <;> (conv => whnf))
        | (refine .inl ⟨_, ac_cluster_Attr c k.attr (firstC_small hH.1 h1), ?_⟩; conv => whnf)
        | (refine And.intro (by (try simp only [Int.toNat_natCast]); omega) ?_; conv => whnf)
        | (refine And.intro (show (_ : Bool) = true from by kernel_rfl) ?_; conv => whnf)
        | (refine .inl ⟨wrap64 (by omega), ?_⟩; conv => whnf)))
      · have e : findA H k = none := by rw [findA, hpart, h1, attrO]; rw [if_neg h]
        rw [e]
        refine ⟨?_, ?_⟩ <;> (conv => whnf)
        · exact noAttr_cells2
        · exact PSub.lit_sb rfl
      · have e : findA H k = some (attrOf c.attrs k.attr) := by rw [findA, hpart, h1, attrO, attrOf]; rw [if_pos h, if_pos h]
        rw [e]
        refine ⟨?_, ?_⟩ <;> (conv => whnf)
        · exact .rfl
        · exact PSub.lit_sb rfl
    · rw [h2]
      refine ⟨fun p hp => (by cases hp), fun hp => ?_⟩
      conv => whnf
      repeat (any_goals (first
        | (refine ⟨fun (h : (_ : Bool) = true) => ?_, fun (h : (_ : Bool) = false) => ?_⟩ <;> (try simp only [decide_eq_true_eq, decide_eq_false_iff_not, Bool.not_eq_true', Bool.not_eq_false', Int.toNat_natCast, beq_iff_eq, decide_eq_decide, beq_eq_false_iff_ne, ne_eq, reduceCtorEq] at h) <;> (conv => whnf))
        | (refine .inl ⟨_, AC.sub2 (ac_cluster_Attr noClu k.attr smallK_noClu) noClu_cells .rfl, ?_⟩; conv => whnf)
        | (refine And.intro (by (try simp only [Int.toNat_natCast]); omega) ?_; conv => whnf)
        | (refine And.intro (show (_ : Bool) = true from by kernel_rfl) ?_; conv => whnf)
        | (refine .inl ⟨wrap64 (by omega), ?_⟩; conv => whnf)))
      · have e : findA H k = none := by rw [findA, hpart, h1, attrO]
        rw [e]
        refine ⟨?_, ?_⟩ <;> (conv => whnf)
        · exact noAttr_cells2
        · exact PSub.lit_sb rfl
      · exact absurd h (by simp [noClu])

theorem ac_r22_Part (H : Hom) (id : Int) (s : ByteArray) (hH : smallH H) : AC Tryz.prog 66 [.pv (.agg (cHom H)), .pv (vint id), .pv (vstr s)] [] (.pv (.tup [.agg (cClu ((partO H id s).getD noClu)), vbool (partO H id s).isSome])) [] := by
  have hl : H.clusters.length ≤ 1048576 := hH.1.1
  have hd4 := @findD_length H id
  refine AC.of_awp (T := T) T_ok hm Tryz.call66 Tryz.func66 rfl rfl rfl ?_
  conv => whnf
  refine .inl ⟨_, ac_r22_At H id hH, ?_⟩
  conv => whnf
  refine ⟨fun h => ?_, fun h => ?_⟩
  · simp only [decide_eq_true_eq] at h
    conv => whnf
    have e : partO H id s = none := by
      rw [partO, if_neg]
      rintro ⟨h1, _⟩
      simp only [findB, Bool.and_eq_true, decide_eq_true_eq] at h1
      rcases devIx_find (id := id) h1.1 with h2 | h2
      · have := h2.2; simp [findB, h1] at this
      · omega
    rw [e]
    refine ⟨?_, ?_⟩ <;> (conv => whnf)
    · exact noClu_cells
    · exact PSub.lit_sb rfl
  simp only [decide_eq_false_iff_not] at h
  conv => whnf
  refine .inl ⟨_, ac_r22_Check H hH, ?_⟩
  conv => whnf
  refine ⟨fun hv => ?_, fun hv => ?_⟩
  · conv => whnf
    simp at hv
    have e : partO H id s = none := by rw [partO, if_neg (by simp [findB, hv])]
    rw [e]
    refine ⟨?_, ?_⟩ <;> (conv => whnf)
    · exact noClu_cells
    · exact PSub.lit_sb rfl
  simp at hv
  rcases devIx_find (id := id) hv with h2 | ⟨h2, h3, h4, h5⟩
  · omega
  rw [h2]
  conv => whnf
  refine And.intro (by omega) ?_
  rw [Int.toNat_natCast]
  conv => whnf
  have hcap := findD_cap h4
  repeat (any_goals (first
    | (refine ⟨fun (h : (_ : Bool) = true) => ?_, fun (h : (_ : Bool) = false) => ?_⟩ <;> (try simp only [decide_eq_true_eq, decide_eq_false_iff_not, Bool.not_eq_true', Bool.not_eq_false', Int.toNat_natCast, beq_iff_eq, decide_eq_decide, beq_eq_false_iff_ne, ne_eq, reduceCtorEq] at h) <;> (conv => whnf))
    | (refine .inl ⟨_, ac_r04_Index (H.devices.getD (devAt H.devices id) default).clusters s (by rw [← h5]; omega), ?_⟩; conv => whnf)
    | (refine And.intro (by (try simp only [Int.toNat_natCast]); omega) ?_; conv => whnf)
    | (refine And.intro (show (_ : Bool) = true from by kernel_rfl) ?_; conv => whnf)
    | (refine .inl ⟨wrap64 (by omega), ?_⟩; conv => whnf)))
  all_goals rw [← h5] at h
  · have e : partO H id s = none := by rw [partO, if_neg (by omega)]
    rw [e]
    refine ⟨?_, ?_⟩ <;> (conv => whnf)
    · exact noClu_cells
    · exact PSub.lit_sb rfl
  · have hp : partO H id s = firstC H.clusters s := by rw [partO, if_pos ⟨h4, by omega⟩]
    obtain ⟨i, hi, he⟩ := idxOf_mem (by omega : 0 ≤ idxOf (findD H id).clusters s)
    obtain ⟨c, h1⟩ := capE_some hcap hi
    rw [he] at h1
    repeat (any_goals (first
      | (refine ⟨fun (h : (_ : Bool) = true) => ?_, fun (h : (_ : Bool) = false) => ?_⟩ <;> (try simp only [decide_eq_true_eq, decide_eq_false_iff_not, Bool.not_eq_true', Bool.not_eq_false', Int.toNat_natCast, beq_iff_eq, decide_eq_decide, beq_eq_false_iff_ne, ne_eq, reduceCtorEq] at h) <;> (conv => whnf))
      | (refine .inl ⟨_, ac_r22_cluster H s hH, ?_⟩; conv => whnf)
      | (refine And.intro (by (try simp only [Int.toNat_natCast]); omega) ?_; conv => whnf)
      | (refine And.intro (show (_ : Bool) = true from by kernel_rfl) ?_; conv => whnf)
      | (refine .inl ⟨wrap64 (by omega), ?_⟩; conv => whnf)))
    rcases firstC_ix (l := H.clusters) (s := s) with ⟨_, h6⟩ | ⟨j, h6, h7, h8⟩
    · rw [h1] at h6; cases h6
    rw [h6]
    repeat (any_goals (first
      | (refine ⟨fun (h : (_ : Bool) = true) => ?_, fun (h : (_ : Bool) = false) => ?_⟩ <;> (try simp only [decide_eq_true_eq, decide_eq_false_iff_not, Bool.not_eq_true', Bool.not_eq_false', Int.toNat_natCast, beq_iff_eq, decide_eq_decide, beq_eq_false_iff_ne, ne_eq, reduceCtorEq] at h) <;> (conv => whnf))
      | (refine And.intro (by (try simp only [Int.toNat_natCast]); omega) ?_; conv => whnf)
      | (refine And.intro (show (_ : Bool) = true from by kernel_rfl) ?_; conv => whnf)
      | (refine .inl ⟨wrap64 (by omega), ?_⟩; conv => whnf)))
    rw [hp, h8]
    refine ⟨?_, ?_⟩ <;> (conv => whnf)
    · exact .rfl
    · exact PSub.lit_sb rfl

theorem small_part {H : Hom} {id : Int} {s : ByteArray} (hH : smallH H) : smallK ((partO H id s).getD noClu) := by
  unfold partO
  split
  · cases h : firstC H.clusters s with
    | none => exact smallK_noClu
    | some c => exact firstC_small hH.1 h
  · exact smallK_noClu

theorem ac_r22_Find (H : Hom) (k : Key) (hH : smallH H) : AC Tryz.prog 28 [.pv (.agg (cHom H)), .pv (.agg (cKey k))] [] (.pv (.tup [.agg (cAttr ((findA H k).getD noAttr)), vbool (findA H k).isSome])) [] := by
  refine AC.of_awp (T := T) T_ok hm Tryz.call28 Tryz.func28 rfl rfl rfl ?_
  conv => whnf
  repeat (any_goals (first
    | (refine ⟨fun (h : (_ : Bool) = true) => ?_, fun (h : (_ : Bool) = false) => ?_⟩ <;> (try simp only [decide_eq_true_eq, decide_eq_false_iff_not, Bool.not_eq_true', Bool.not_eq_false', Int.toNat_natCast, beq_iff_eq, decide_eq_decide, beq_eq_false_iff_ne, ne_eq, reduceCtorEq] at h) <;> (conv => whnf))
    | (refine .inl ⟨_, ac_r22_Part H k.dev k.cluster hH, ?_⟩; conv => whnf)
    | (refine .inl ⟨_, ac_r21_Attr ((partO H k.dev k.cluster).getD noClu) k.attr (small_part hH), ?_⟩; conv => whnf)
    | (refine And.intro (by (try simp only [Int.toNat_natCast]); omega) ?_; conv => whnf)
    | (refine And.intro (show (_ : Bool) = true from by kernel_rfl) ?_; conv => whnf)
    | (refine .inl ⟨wrap64 (by omega), ?_⟩; conv => whnf)))
  · have e : findA H k = none := by
      rw [findA]
      cases h3 : partO H k.dev k.cluster with
      | none => rfl
      | some c => rw [h3] at h; cases h
    rw [e]
    refine ⟨?_, ?_⟩ <;> (conv => whnf)
    · exact noAttr_cells2
    · exact PSub.lit_sb rfl
  · cases h3 : partO H k.dev k.cluster with
    | none => rw [h3] at h; cases h
    | some c =>
      rw [findA, h3]
      obtain ⟨e1, e2⟩ := @attrOf_some c k.attr
      refine ⟨?_, ?_⟩ <;> (conv => whnf)
      · simp only [Option.getD_some]; rw [e1]; exact .rfl
      · simp only [Option.getD_some]; rw [e2]; exact .rfl

/-- device.Safe -/
def safeB (H : Hom) (k : Key) : Bool := ((findA H k).getD noAttr).safety
end Go.Abs

namespace Go.Abs
open Go.Proofs
set_option maxRecDepth 10000

def ixI (n k : Nat) : Int := if k < n then (k : Int) else -1

def keyB (k : Key) : List PV → Bool
  | [.agg (.val (.int .i64 d) :: .val (.string c) :: .val (.string a) :: _)] => decide ((⟨d, c, a⟩ : Key) = k)
  | _ => false

theorem keyB_item (k : Key) (x : Item) : keyB k [.agg (cItem x)] = decide (x.key = k) := rfl

def itemAt (l : List Item) (k : Key) : Nat := firstI l.length fun i => decide ((l.getD i default).key = k)

def noItem : Item := ⟨⟨0, ⟨#[]⟩, ⟨#[]⟩⟩, noVal, 0⟩
def getI (l : List Item) (k : Key) : Item := if itemAt l k < l.length then l.getD (itemAt l k) default else noItem

/-- the greatest version of a device among the first k -/
def maxV (l : List Item) (dev : Int) : Nat → Int
  | 0 => 0
  | k + 1 => if (l.getD k default).key.dev = dev then max (maxV l dev k) (l.getD k default).version else maxV l dev k
def nextV (l : List Item) (dev : Int) : Int := min (maxV l dev l.length) 1099511627775 + 1
theorem maxV_nonneg {l : List Item} {dev : Int} : ∀ {k : Nat}, 0 ≤ maxV l dev k
  | 0 => Int.le_refl _
  | k + 1 => by
    have := @maxV_nonneg l dev k
    rw [maxV]; split <;> omega

end Go.Abs

namespace Go.Abs
open Go.Proofs
set_option maxRecDepth 10000

/-- device.put -/
def putL (l : List Item) (i : Nat) (v : Val) : List Item := if (l.getD i default).value ≠ v then l.set i ⟨(l.getD i default).key, v, nextV l (l.getD i default).key.dev⟩ else l

theorem putL_length {l : List Item} {i : Nat} {v : Val} : (putL l i v).length = l.length := by unfold putL; split <;> simp

theorem val_eq (a b : Val) : (decide (a.kind = b.kind) && (decide (a.n = b.n) && (decide (a.s = b.s) && true))) = decide (a = b) := by
  obtain ⟨a1, a2, a3⟩ := a
  obtain ⟨b1, b2, b3⟩ := b
  rw [Bool.eq_iff_iff]; simp

theorem rows_set {α : Type} [Inhabited α] {enc : α → List PV} {l : List α} {i : Nat} {x : α} {F : Nat → List PV} (h1 : ∀ j, j < l.length → j ≠ i → PSubs (F j) (enc (l.getD j default))) (h2 : i < l.length → PSubs (F i) (enc x)) :
    ∀ j, j < (l.set i x).length → PSubs (F j) (enc ((l.set i x).getD j default)) := by
  intro j hj
  rw [List.length_set] at hj
  by_cases e : j = i
  · subst e
    have : (l.set j x).getD j default = x := by simp [List.getD, hj]
    rw [this]; exact h2 hj
  · have : (l.set i x).getD j default = l.getD j default := by simp [List.getD, List.getElem?_set_ne (Ne.symm e)]
    rw [this]; exact h1 j hj e

/-- R22.with -/
def withL (l : List Item) (k : Key) (v : Val) : List Item := if itemAt l k < l.length then putL l (itemAt l k) v else l

theorem itemAt_key {l : List Item} {k : Key} (h : itemAt l k < l.length) : (l.getD (itemAt l k) default).key = k := by
  unfold itemAt firstI at *
  split at h
  · rename_i i e
    rw [List.find?_range_eq_some] at e
    simpa using e.1
  · omega

/-- device.Init -/
def initL (H : Hom) (id : Int) : List Item := (List.range (keysL H id).length).map fun i => ⟨(keysL H id).getD i default, zeroV ((findA H ((keysL H id).getD i default)).getD noAttr), (i : Int) + 1⟩

def initTo (H : Hom) (id : Int) (k : Nat) : List Item := (List.range k).map fun i => ⟨(keysL H id).getD i default, zeroV ((findA H ((keysL H id).getD i default)).getD noAttr), (i : Int) + 1⟩
theorem initTo_succ {H : Hom} {id : Int} {k : Nat} : initTo H id (k + 1) = initTo H id k ++ [⟨(keysL H id).getD k default, zeroV ((findA H ((keysL H id).getD k default)).getD noAttr), (k : Int) + 1⟩] := by
  simp [initTo, List.range_succ, -List.getD_eq_getElem?_getD]
theorem initTo_length {H : Hom} {id : Int} {k : Nat} : (initTo H id k).length = k := by simp [initTo]

theorem keysL_length {H : Hom} (hH : smallH H) {id : Int} : (keysL H id).length ≤ 4194304 := by
  have h4 := @findD_length H id
  have := keysTo_len (f := firstC H.clusters) (fun _ _ => firstC_small hH.1) (id := id) (l := (findD H id).clusters) (k := (findD H id).clusters.length) (Nat.le_refl _)
  rw [keysTo, List.take_length] at this
  have e : keysL H id = (findD H id).clusters.flatMap (keysOf1 (firstC H.clusters) id) := rfl
  rw [← e] at this
  omega

theorem small_findA {H : Hom} (hH : smallH H) {k : Key} : smallA ((findA H k).getD noAttr) := by
  unfold findA
  cases h : partO H k.dev k.cluster with
  | none => exact Nat.zero_le _
  | some c =>
    unfold attrO
    simp only
    have hc : smallK c := by
      unfold partO at h
      split at h
      · exact firstC_small hH.1 h
      · cases h
    split
    · exact hc.2.1 _
    · exact Nat.zero_le _

/-- device.set: its error -/
def setE (H : Hom) (l : List Item) (k : Key) (v : Val) (w : Bool) : Int :=
  if homE H ≠ 0 then homE H else if (findA H k).isSome = false then 8 else if ixI l.length (itemAt l k) < 0 then 8 else if w = true ∧ ((findA H k).getD noAttr).writable = false then 24 else fitsE ((findA H k).getD noAttr) v
/-- .. and what it returns -/
def setL (H : Hom) (l : List Item) (k : Key) (v : Val) (w : Bool) : List Item := if setE H l k v w = 0 then putL l (itemAt l k) v else []

theorem ixI_nonneg {n k : Nat} (h : ¬ ixI n k < 0) : k < n ∧ ixI n k = (k : Int) := by
  unfold ixI at *
  split <;> rename_i h2
  · exact ⟨h2, rfl⟩
  · rw [if_neg h2] at h; omega

theorem withL_eq {l : List Item} {k : Key} {v : Val} (h : itemAt l k < l.length) : withL l k v = putL l (itemAt l k) v := by rw [withL, if_pos h]

end Go.Abs

namespace Go.Abs
open Go.Proofs
set_option maxRecDepth 10000

theorem all_lt_zero {p : Nat → Prop} : ∀ i, i < 0 → p i := fun i h => absurd h (by omega)
theorem all_lt_succ {p : Nat → Prop} {n : Nat} (h1 : ∀ i, i < n → p i) (h2 : p n) : ∀ i, i < n + 1 → p i := fun i h => by
  rcases Nat.lt_or_ge i n with h3 | h3
  · exact h1 i h3
  · have : i = n := by omega
    subst this; exact h2

theorem ac_cluster_flag (s : ByteArray) (w sf : Bool) : AC Tryz.prog 116 [.pv (vstr s), .pv (.val (.bool w)), .pv (.val (.bool sf))] [] (.pv (.agg (cAttr ⟨s, 1, 0, 0, [], w, sf⟩))) [] := by
  refine AC.of_awp (T := T) T_ok hm Tryz.call116 Tryz.func116 rfl rfl rfl ?_
  conv => whnf
  exact PSub.agg ⟨.rfl, .rfl, .rfl, .rfl, PSub.nil_ro _ _, PSub.lit_sb rfl, PSub.lit_sb rfl, trivial⟩
theorem ac_cluster_number (s : ByteArray) (lo hi : Int) (w : Bool) : AC Tryz.prog 118 [.pv (vstr s), .pv (vint lo), .pv (vint hi), .pv (.val (.bool w))] [] (.pv (.agg (cAttr ⟨s, 2, lo, hi, [], w, false⟩))) [] := by
  refine AC.of_awp (T := T) T_ok hm Tryz.call118 Tryz.func118 rfl rfl rfl ?_
  conv => whnf
  exact PSub.agg ⟨.rfl, .rfl, .rfl, .rfl, PSub.nil_ro _ _, PSub.lit_sb rfl, PSub.lit_sb rfl, trivial⟩
theorem ac_cluster_sets (s a : ByteArray) (n : Int) : AC Tryz.prog 117 [.pv (vstr s), .pv (vstr a), .pv (vint n)] [] (.pv (.agg (cCmd ⟨s, noAttr, [⟨1, a, n⟩]⟩))) [] := by
  refine AC.of_awp (T := T) T_ok hm Tryz.call117 Tryz.func117 rfl rfl rfl ?_
  conv => whnf
  repeat (any_goals (first
    | (refine ⟨fun (h : (_ : Bool) = true) => ?_, fun (h : (_ : Bool) = false) => ?_⟩ <;> (try simp only [decide_eq_true_eq, decide_eq_false_iff_not, Bool.not_eq_true', Bool.not_eq_false', Int.toNat_natCast, beq_iff_eq, decide_eq_decide, beq_eq_false_iff_ne, ne_eq, reduceCtorEq] at h) <;> (conv => whnf))
    | (refine And.intro (by (try simp only [Int.toNat_natCast]); omega) ?_; conv => whnf)
    | (refine And.intro (show (_ : Bool) = true from by kernel_rfl) ?_; conv => whnf)
    | (refine .inl ⟨wrap64 (by omega), ?_⟩; conv => whnf)))
  exact PSub.agg ⟨.rfl, .rfl, .rfl, .rfl, .rfl, PSub.nil_ro _ _, PSub.lit_sb rfl, PSub.lit_sb rfl, PSub.ro rfl (all_lt_succ all_lt_zero PSubs.rfl), trivial⟩

def flagA (s : ByteArray) (w sf : Bool) : Attr := ⟨s, 1, 0, 0, [], w, sf⟩
def numA (s : ByteArray) (lo hi : Int) (w : Bool) : Attr := ⟨s, 2, lo, hi, [], w, false⟩
def setsC (s a : ByteArray) (n : Int) : Cmd := ⟨s, noAttr, [⟨1, a, n⟩]⟩
/-- cluster.Standard -/
def stdC : List Clu := [
  ⟨(⟨#[111, 110, 111, 102, 102]⟩ : ByteArray), [flagA (⟨#[111, 110]⟩ : ByteArray) true false], [setsC (⟨#[111, 110]⟩ : ByteArray) (⟨#[111, 110]⟩ : ByteArray) 1, setsC (⟨#[111, 102, 102]⟩ : ByteArray) (⟨#[111, 110]⟩ : ByteArray) 0, ⟨(⟨#[116, 111, 103, 103, 108, 101]⟩ : ByteArray), noAttr, [⟨4, (⟨#[111, 110]⟩ : ByteArray), 0⟩]⟩], []⟩,
  ⟨(⟨#[108, 101, 118, 101, 108]⟩ : ByteArray), [numA (⟨#[108, 101, 118, 101, 108]⟩ : ByteArray) 0 100 true], [⟨(⟨#[109, 111, 118, 101]⟩ : ByteArray), numA (⟨#[116, 111]⟩ : ByteArray) 0 100 false, [⟨2, (⟨#[108, 101, 118, 101, 108]⟩ : ByteArray), 0⟩]⟩, ⟨(⟨#[115, 116, 101, 112]⟩ : ByteArray), noAttr, [⟨3, (⟨#[108, 101, 118, 101, 108]⟩ : ByteArray), 10⟩]⟩], []⟩,
  ⟨(⟨#[108, 111, 99, 107]⟩ : ByteArray), [flagA (⟨#[108, 111, 99, 107, 101, 100]⟩ : ByteArray) true true], [setsC (⟨#[108, 111, 99, 107]⟩ : ByteArray) (⟨#[108, 111, 99, 107, 101, 100]⟩ : ByteArray) 1, setsC (⟨#[117, 110, 108, 111, 99, 107]⟩ : ByteArray) (⟨#[108, 111, 99, 107, 101, 100]⟩ : ByteArray) 0], [(⟨#[106, 97, 109]⟩ : ByteArray)]⟩,
  ⟨(⟨#[116, 104, 101, 114, 109, 111, 115, 116, 97, 116]⟩ : ByteArray), [numA (⟨#[116, 97, 114, 103, 101, 116]⟩ : ByteArray) 50 300 true, numA (⟨#[116, 101, 109, 112]⟩ : ByteArray) (-500) 1000 false], [], []⟩,
  ⟨(⟨#[115, 109, 111, 107, 101]⟩ : ByteArray), [flagA (⟨#[97, 108, 97, 114, 109]⟩ : ByteArray) false true], [], [(⟨#[116, 101, 115, 116]⟩ : ByteArray)]⟩,
  ⟨(⟨#[108, 101, 97, 107]⟩ : ByteArray), [flagA (⟨#[119, 101, 116]⟩ : ByteArray) false true], [], []⟩,
  ⟨(⟨#[118, 97, 108, 118, 101]⟩ : ByteArray), [flagA (⟨#[111, 112, 101, 110]⟩ : ByteArray) true true], [setsC (⟨#[111, 112, 101, 110]⟩ : ByteArray) (⟨#[111, 112, 101, 110]⟩ : ByteArray) 1, setsC (⟨#[99, 108, 111, 115, 101]⟩ : ByteArray) (⟨#[111, 112, 101, 110]⟩ : ByteArray) 0], []⟩,
  ⟨(⟨#[109, 101, 116, 101, 114]⟩ : ByteArray), [numA (⟨#[112, 111, 119, 101, 114]⟩ : ByteArray) 0 100000 false], [], []⟩]

def nameRow (k i : Nat) : List PV := [vstr (if i < k then glob0.getD i default else ⟨#[]⟩), .val (.slice none 0 0), .val (.slice none 0 0), .val (.slice none 0 0)]

set_option maxHeartbeats 2000000 in
theorem ac_cluster_Standard : AC Tryz.prog 77 [] [] (.pv (roL 4 cClu stdC)) [] := by
  refine AC.of_awp (T := T) T_ok hm Tryz.call77 Tryz.func77 rfl rfl rfl ?_
  conv => whnf
  refine And.intro (by omega) ?_
  conv => whnf
  refine loop_k (ι := Nat) [1, 5] [] (fun k => k ≤ 8 ∧ True) (fun k => 8 - k) 0 (fun k => [(6, .pv (vint k))]) (fun k => [(4, .row 4 8 (nameRow k))]) [] ⟨Nat.zero_le _, trivial⟩ ?_ (fun k hk => ?_)
  · (repeat' (first | exact PSub.rfl | exact rfl | exact PSubs.rfl | exact trivial | exact PSub.lit_sb rfl | refine And.intro ?_ ?_)); all_goals ((intro i hi; exact PSubs.rfl))
  obtain ⟨hkn, hinv⟩ := hk
  conv => whnf
  repeat (any_goals (first
    | (refine ⟨fun (h : (_ : Bool) = true) => ?_, fun (h : (_ : Bool) = false) => ?_⟩ <;> (try simp only [decide_eq_true_eq, decide_eq_false_iff_not, Bool.not_eq_true', Bool.not_eq_false', Int.toNat_natCast, beq_iff_eq, decide_eq_decide, beq_eq_false_iff_ne, ne_eq, reduceCtorEq] at h) <;> (conv => whnf))
    | (refine And.intro (by (try simp only [Int.toNat_natCast]); omega) ?_; conv => whnf)
    | (refine And.intro (show (_ : Bool) = true from by kernel_rfl) ?_; conv => whnf)
    | (refine .inl ⟨wrap64 (by omega), ?_⟩; conv => whnf)))
  · refine And.intro (show 0 ≤ (k : Int) ∧ (k : Int) < ((8 : Nat) : Int) from by omega) ?_
    refine ⟨vstr (glob0.getD k default), fun q hq => ?_, ?_⟩
    · have hk8 : k < 8 := by omega
      rcases k with _ | _ | _ | _ | _ | _ | _ | _ | k
      all_goals first | omega | (cases hq; exact .rfl)
    · conv => whnf
      repeat (any_goals (first
        | (refine ⟨fun (h : (_ : Bool) = true) => ?_, fun (h : (_ : Bool) = false) => ?_⟩ <;> (try simp only [decide_eq_true_eq, decide_eq_false_iff_not, Bool.not_eq_true', Bool.not_eq_false', Int.toNat_natCast, beq_iff_eq, decide_eq_decide, beq_eq_false_iff_ne, ne_eq, reduceCtorEq] at h) <;> (conv => whnf))
        | (refine And.intro (by (try simp only [Int.toNat_natCast]); omega) ?_; conv => whnf)
        | (refine And.intro (show (_ : Bool) = true from by kernel_rfl) ?_; conv => whnf)
        | (refine .inl ⟨wrap64 (by omega), ?_⟩; conv => whnf)))
      refine ⟨k + 1, [], ⟨by omega, trivial⟩, by omega, ?_⟩
      (repeat' (first | exact PSub.rfl | exact rfl | exact PSubs.rfl | exact trivial | exact PSub.lit_sb rfl | refine And.intro ?_ ?_))
      intro i hi
      simp only [Int.toNat_natCast]
      by_cases e : i = k
      · subst e; rw [updAt_same]; exact ⟨PSub.str (by rw [if_pos (by omega)]), .rfl, .rfl, .rfl, trivial⟩
      · rw [updAt_ne e]; exact ⟨PSub.str (by by_cases h2 : i < k; rw [if_pos h2, if_pos (by omega)]; rw [if_neg h2, if_neg (by omega)]), .rfl, .rfl, .rfl, trivial⟩
  · have e : k = 8 := by omega
    subst e
    refine .inl ⟨_, ac_cluster_flag (⟨#[111, 110]⟩ : ByteArray) true false, ?_⟩
    conv => whnf
    repeat (refine And.intro (by omega) ?_; conv => whnf)
    refine .inl ⟨_, ac_cluster_sets (⟨#[111, 110]⟩ : ByteArray) (⟨#[111, 110]⟩ : ByteArray) 1, ?_⟩
    conv => whnf
    repeat (refine And.intro (by omega) ?_; conv => whnf)
    refine .inl ⟨_, ac_cluster_sets (⟨#[111, 102, 102]⟩ : ByteArray) (⟨#[111, 110]⟩ : ByteArray) 0, ?_⟩
    conv => whnf
    repeat (refine And.intro (by omega) ?_; conv => whnf)
    refine .inl ⟨_, ac_cluster_number (⟨#[108, 101, 118, 101, 108]⟩ : ByteArray) 0 100 true, ?_⟩
    conv => whnf
    repeat (refine And.intro (by omega) ?_; conv => whnf)
    refine .inl ⟨_, ac_cluster_number (⟨#[116, 111]⟩ : ByteArray) 0 100 false, ?_⟩
    conv => whnf
    repeat (refine And.intro (by omega) ?_; conv => whnf)
    refine .inl ⟨_, ac_cluster_flag (⟨#[108, 111, 99, 107, 101, 100]⟩ : ByteArray) true true, ?_⟩
    conv => whnf
    repeat (refine And.intro (by omega) ?_; conv => whnf)
    refine .inl ⟨_, ac_cluster_sets (⟨#[108, 111, 99, 107]⟩ : ByteArray) (⟨#[108, 111, 99, 107, 101, 100]⟩ : ByteArray) 1, ?_⟩
    conv => whnf
    repeat (refine And.intro (by omega) ?_; conv => whnf)
    refine .inl ⟨_, ac_cluster_sets (⟨#[117, 110, 108, 111, 99, 107]⟩ : ByteArray) (⟨#[108, 111, 99, 107, 101, 100]⟩ : ByteArray) 0, ?_⟩
    conv => whnf
    repeat (refine And.intro (by omega) ?_; conv => whnf)
    refine .inl ⟨_, ac_cluster_number (⟨#[116, 97, 114, 103, 101, 116]⟩ : ByteArray) 50 300 true, ?_⟩
    conv => whnf
    repeat (refine And.intro (by omega) ?_; conv => whnf)
    refine .inl ⟨_, ac_cluster_number (⟨#[116, 101, 109, 112]⟩ : ByteArray) (-500) 1000 false, ?_⟩
    conv => whnf
    repeat (refine And.intro (by omega) ?_; conv => whnf)
    refine .inl ⟨_, ac_cluster_flag (⟨#[97, 108, 97, 114, 109]⟩ : ByteArray) false true, ?_⟩
    conv => whnf
    repeat (refine And.intro (by omega) ?_; conv => whnf)
    refine .inl ⟨_, ac_cluster_flag (⟨#[119, 101, 116]⟩ : ByteArray) false true, ?_⟩
    conv => whnf
    repeat (refine And.intro (by omega) ?_; conv => whnf)
    refine .inl ⟨_, ac_cluster_flag (⟨#[111, 112, 101, 110]⟩ : ByteArray) true true, ?_⟩
    conv => whnf
    repeat (refine And.intro (by omega) ?_; conv => whnf)
    refine .inl ⟨_, ac_cluster_sets (⟨#[111, 112, 101, 110]⟩ : ByteArray) (⟨#[111, 112, 101, 110]⟩ : ByteArray) 1, ?_⟩
    conv => whnf
    repeat (refine And.intro (by omega) ?_; conv => whnf)
    refine .inl ⟨_, ac_cluster_sets (⟨#[99, 108, 111, 115, 101]⟩ : ByteArray) (⟨#[111, 112, 101, 110]⟩ : ByteArray) 0, ?_⟩
    conv => whnf
    repeat (refine And.intro (by omega) ?_; conv => whnf)
    refine .inl ⟨_, ac_cluster_number (⟨#[112, 111, 119, 101, 114]⟩ : ByteArray) 0 100000 false, ?_⟩
    conv => whnf
    repeat (refine And.intro (by omega) ?_; conv => whnf)
    repeat' (first | exact PSub.rfl | exact PSub.nil_ro _ _ | exact PSub.lit_sb rfl | exact trivial | exact all_lt_zero | refine PSub.agg ?_ | refine PSub.ro rfl ?_ | refine all_lt_succ ?_ ?_ | refine And.intro ?_ ?_)

def homeX : Hom := ⟨stdC, [⟨1, 0, 0, false, 0, (⟨#[104, 97, 108, 108]⟩ : ByteArray), [(⟨#[111, 110, 111, 102, 102]⟩ : ByteArray), (⟨#[108, 101, 118, 101, 108]⟩ : ByteArray)]⟩]⟩

end Go.Abs

namespace Go.Abs
open Go.Proofs
set_option maxRecDepth 10000

def kLev : Key := ⟨1, (⟨#[108, 101, 118, 101, 108]⟩ : ByteArray), (⟨#[108, 101, 118, 101, 108]⟩ : ByteArray)⟩
theorem ex1 : homE homeX = 0 := by kernel_rfl
theorem ex2 : initL homeX 1 = [⟨⟨1, (⟨#[111, 110, 111, 102, 102]⟩ : ByteArray), (⟨#[111, 110]⟩ : ByteArray)⟩, ⟨1, 0, ⟨#[]⟩⟩, 1⟩, ⟨kLev, ⟨2, 0, ⟨#[]⟩⟩, 2⟩] := by kernel_rfl
def L1 : List Item := [⟨⟨1, (⟨#[111, 110, 111, 102, 102]⟩ : ByteArray), (⟨#[111, 110]⟩ : ByteArray)⟩, ⟨1, 0, ⟨#[]⟩⟩, 1⟩, ⟨kLev, ⟨2, 0, ⟨#[]⟩⟩, 2⟩]
theorem ex3 : setE homeX L1 kLev ⟨2, 7, ⟨#[]⟩⟩ false = 0 := by kernel_rfl
def L2 : List Item := [⟨⟨1, (⟨#[111, 110, 111, 102, 102]⟩ : ByteArray), (⟨#[111, 110]⟩ : ByteArray)⟩, ⟨1, 0, ⟨#[]⟩⟩, 1⟩, ⟨kLev, ⟨2, 7, ⟨#[]⟩⟩, 3⟩]
theorem ex4 : setL homeX L1 kLev ⟨2, 7, ⟨#[]⟩⟩ false = L2 := by kernel_rfl
theorem ex5 : setE homeX L1 kLev ⟨2, 101, ⟨#[]⟩⟩ false = 2 := by kernel_rfl
theorem ex6 : getI L2 kLev = ⟨kLev, ⟨2, 7, ⟨#[]⟩⟩, 3⟩ := by kernel_rfl
theorem ex7 : (findD homeX 1).room = (⟨#[104, 97, 108, 108]⟩ : ByteArray) := by kernel_rfl
theorem ex8 : decide (itemAt L2 kLev < L2.length) = true := by kernel_rfl

theorem sl {α : Type} {l : List α} (h : Nat.ble l.length 1048576 = true) : smallL l := Nat.le_of_ble_eq_true h

theorem smallK_std : ∀ i, smallK (stdC.getD i default) := by
  intro i
  have key : ∀ c ∈ stdC, smallK c := by
    intro c hc
    simp only [stdC, List.mem_cons, List.not_mem_nil, or_false] at hc
    have dA : ∀ i, smallA (List.getD [] i (default : Attr)) := fun i => Nat.zero_le _
    have dC : ∀ i, smallC (List.getD [] i (default : Cmd)) := fun i => ⟨Nat.zero_le _, Nat.zero_le _⟩
    have A1 : ∀ (a : Attr), smallA a → ∀ i, smallA (List.getD [a] i default) := fun a h i => by cases i with | zero => exact h | succ i => exact Nat.zero_le _
    have A2 : ∀ (a b : Attr), smallA a → smallA b → ∀ i, smallA (List.getD [a, b] i default) := fun a b h h2 i => by cases i with | zero => exact h | succ i => exact A1 b h2 i
    have C2 : ∀ (a b : Cmd), smallC a → smallC b → ∀ i, smallC (List.getD [a, b] i default) := fun a b h h2 i => by
      cases i with
      | zero => exact h
      | succ i => cases i with
        | zero => exact h2
        | succ i => exact ⟨Nat.zero_le _, Nat.zero_le _⟩
    have C3 : ∀ (a b c : Cmd), smallC a → smallC b → smallC c → ∀ i, smallC (List.getD [a, b, c] i default) := fun a b c h h2 h3 i => by cases i with | zero => exact h | succ i => exact C2 b c h2 h3 i
    have f : ∀ s w sf, smallA (flagA s w sf) := fun _ _ _ => Nat.zero_le _
    have n : ∀ s lo hi w, smallA (numA s lo hi w) := fun _ _ _ _ => Nat.zero_le _
    have c1 : ∀ s a k, smallC (setsC s a k) := fun _ _ _ => ⟨Nat.zero_le _, sl rfl⟩
    have c2 : ∀ s a e, smallA a → smallC ⟨s, a, [e]⟩ := fun _ _ _ h => ⟨h, sl rfl⟩
    rcases hc with rfl | rfl | rfl | rfl | rfl | rfl | rfl | rfl
    all_goals refine ⟨sl rfl, ?_, sl rfl, ?_, sl rfl⟩
    all_goals first
      | exact dA | exact dC | exact A1 _ (f _ _ _) | exact A1 _ (n _ _ _ _) | exact A2 _ _ (n _ _ _ _) (n _ _ _ _)
      | exact C2 _ _ (c1 _ _ _) (c1 _ _ _) | exact C2 _ _ (c2 _ _ _ (n _ _ _ _)) (c2 _ _ _ (Nat.zero_le _)) | exact C3 _ _ _ (c1 _ _ _) (c1 _ _ _) (c2 _ _ _ (Nat.zero_le _))
  by_cases h : i < stdC.length
  · have : stdC.getD i default = stdC[i] := by simp [List.getD, h]
    rw [this]; exact key _ (List.getElem_mem h)
  · have : stdC.getD i default = default := by simp [List.getD, Nat.le_of_not_lt h]
    rw [this]; exact ⟨Nat.zero_le _, fun _ => Nat.zero_le _, Nat.zero_le _, fun _ => ⟨Nat.zero_le _, Nat.zero_le _⟩, Nat.zero_le _⟩

theorem smallH_X : smallH homeX := by
  refine ⟨⟨sl rfl, smallK_std⟩, sl rfl, fun i => ?_⟩
  cases i with
  | zero => exact ⟨sl rfl, by decide, by decide⟩
  | succ i =>
    have : homeX.devices.getD (i + 1) default = default := rfl
    rw [this]; exact ⟨Nat.zero_le _, by decide, by decide⟩

end Go.Abs

namespace Go.Abs
open Go.Proofs Go.RowKit
set_option maxRecDepth 10000

section
variable {H : Type} {enc : TypeId × Value → H} {w : World} {bulk : DataW H → Nat}
abbrev BB : Nat := 1048576

def inI64 (n : Int) : Prop := -9223372036854775808 ≤ n ∧ n ≤ 9223372036854775807
theorem wf64 {n : Int} (h : (Lit.int .i64 n).wf = true) : inI64 n := by
  simp only [Lit.wf, Bool.and_eq_true, decide_eq_true_eq] at h
  exact h

theorem op_int : Opens enc Tryz.prog w bulk BB 3 cint inI64 := (Opens.int Tryz.underlying3).imp id (fun _ => rfl) (fun _ h => wf64 h)
theorem op_uint64 : Opens enc Tryz.prog w bulk BB 108 (fun n : Int => [.val (.int .u64 n)]) (fun _ => True) := (Opens.int Tryz.underlying108).imp id (fun _ => rfl) (fun _ _ => trivial)
theorem op_bool : Opens enc Tryz.prog w bulk BB 4 (fun b : Bool => [vbool b]) (fun _ => True) := Opens.bool Tryz.underlying4
theorem op_string (hB : BulkOk bulk) : Opens enc Tryz.prog w bulk BB 9 cstr (fun s => s.size ≤ 1048576) := Opens.str hB Tryz.underlying9

theorem op_l_string (hB : BulkOk bulk) : Opens enc Tryz.prog w bulk BB 26 (fun l : List ByteArray => [roL 1 cstr l]) smallL :=
  (Opens.slice hB Tryz.underlying26 (by kernel_rfl) (by decide) (op_string hB)).imp id (fun _ => rfl) (fun _ h => h.1)

def goodKey (k : Key) : Prop := inI64 k.dev
theorem op_Key (hB : BulkOk bulk) : Opens enc Tryz.prog w bulk BB 37 cKey goodKey :=
  (Opens.struct hB Tryz.underlying37 (by kernel_rfl) (.cons (size := 1) rfl (by kernel_rfl) op_int (.cons (size := 1) rfl (by kernel_rfl) (op_string hB) (.cons (size := 1) rfl (by kernel_rfl) (op_string hB) .nil)))).imp (fun x => ⟨x.1, x.2.1, x.2.2.1⟩) (fun _ => rfl) (fun _ h => h.1)

def goodVal (v : Val) : Prop := inI64 v.kind ∧ inI64 v.n
theorem op_Value (hB : BulkOk bulk) : Opens enc Tryz.prog w bulk BB 35 cVal goodVal :=
  (Opens.struct hB Tryz.underlying35 (by kernel_rfl) (.cons (size := 1) rfl (by kernel_rfl) op_int (.cons (size := 1) rfl (by kernel_rfl) op_int (.cons (size := 1) rfl (by kernel_rfl) (op_string hB) .nil)))).imp (fun x => ⟨x.1, x.2.1, x.2.2.1⟩) (fun _ => rfl) (fun _ h => ⟨h.1, h.2.1⟩)

def goodItem (x : Item) : Prop := goodKey x.key ∧ goodVal x.value ∧ inI64 x.version
def goodItems (l : List Item) : Prop := smallL l ∧ ∀ i, i < l.length → goodItem (l.getD i default)
theorem op_Attr (hB : BulkOk bulk) : Opens enc Tryz.prog w bulk BB 59 cAttr smallA :=
  (Opens.struct hB Tryz.underlying59 (by kernel_rfl) (.cons (size := 1) rfl (by kernel_rfl) (op_string hB) (.cons (size := 1) rfl (by kernel_rfl) op_int (.cons (size := 1) rfl (by kernel_rfl) op_int (.cons (size := 1) rfl (by kernel_rfl) op_int (.cons (size := 1) rfl (by kernel_rfl) (op_l_string hB) (.cons (size := 1) rfl (by kernel_rfl) op_bool (.cons (size := 1) rfl (by kernel_rfl) op_bool .nil)))))))).imp
    (fun x => ⟨x.1, x.2.1, x.2.2.1, x.2.2.2.1, x.2.2.2.2.1, x.2.2.2.2.2.1, x.2.2.2.2.2.2.1⟩) (fun _ => rfl) (fun _ h => h.2.2.2.2.1)

theorem getD_all {α : Type} [Inhabited α] {l : List α} {p : α → Prop} (h : ∀ i, i < l.length → p (l.getD i default)) (hd : p default) (i : Nat) : p (l.getD i default) := by
  by_cases hi : i < l.length
  · exact h i hi
  · have : l.getD i default = default := by simp [List.getD, Nat.le_of_not_lt hi]
    rw [this]; exact hd

theorem op_l_Attr (hB : BulkOk bulk) : Opens enc Tryz.prog w bulk BB 89 (fun l : List Attr => [roL 7 cAttr l]) (fun l => smallL l ∧ ∀ i, smallA (l.getD i default)) :=
  (Opens.slice hB Tryz.underlying89 (by kernel_rfl) (by decide) (op_Attr hB)).imp id (fun _ => rfl) (fun _ h => ⟨h.1, getD_all h.2 (Nat.zero_le _)⟩)

theorem op_Effect (hB : BulkOk bulk) : Opens enc Tryz.prog w bulk BB 101 cEff (fun _ => True) :=
  (Opens.struct hB Tryz.underlying101 (by kernel_rfl) (.cons (size := 1) rfl (by kernel_rfl) op_int (.cons (size := 1) rfl (by kernel_rfl) (op_string hB) (.cons (size := 1) rfl (by kernel_rfl) op_int .nil)))).imp (fun x => ⟨x.1, x.2.1, x.2.2.1⟩) (fun _ => rfl) (fun _ _ => trivial)
theorem op_l_Effect (hB : BulkOk bulk) : Opens enc Tryz.prog w bulk BB 95 (fun l : List Eff => [roL 3 cEff l]) smallL :=
  (Opens.slice hB Tryz.underlying95 (by kernel_rfl) (by decide) (op_Effect hB)).imp id (fun _ => rfl) (fun _ h => h.1)

theorem op_Command (hB : BulkOk bulk) : Opens enc Tryz.prog w bulk BB 97 cCmd smallC :=
  (Opens.struct hB Tryz.underlying97 (by kernel_rfl) (.cons (size := 1) rfl (by kernel_rfl) (op_string hB) (.cons (size := 7) rfl (by kernel_rfl) (op_Attr hB) (.cons (size := 1) rfl (by kernel_rfl) (op_l_Effect hB) .nil)))).imp (fun x => ⟨x.1, x.2.1, x.2.2.1⟩) (fun _ => rfl) (fun _ h => ⟨h.2.1, h.2.2.1⟩)
theorem op_l_Command (hB : BulkOk bulk) : Opens enc Tryz.prog w bulk BB 90 (fun l : List Cmd => [roL 9 cCmd l]) (fun l => smallL l ∧ ∀ i, smallC (l.getD i default)) :=
  (Opens.slice hB Tryz.underlying90 (by kernel_rfl) (by decide) (op_Command hB)).imp id (fun _ => rfl) (fun _ h => ⟨h.1, getD_all h.2 ⟨Nat.zero_le _, Nat.zero_le _⟩⟩)

theorem op_Cluster (hB : BulkOk bulk) : Opens enc Tryz.prog w bulk BB 92 cClu smallK :=
  (Opens.struct hB Tryz.underlying92 (by kernel_rfl) (.cons (size := 1) rfl (by kernel_rfl) (op_string hB) (.cons (size := 1) rfl (by kernel_rfl) (op_l_Attr hB) (.cons (size := 1) rfl (by kernel_rfl) (op_l_Command hB) (.cons (size := 1) rfl (by kernel_rfl) (op_l_string hB) .nil))))).imp (fun x => ⟨x.1, x.2.1, x.2.2.1, x.2.2.2.1⟩) (fun _ => rfl) (fun _ h => ⟨h.2.1.1, h.2.1.2, h.2.2.1.1, h.2.2.1.2, h.2.2.2.1⟩)
theorem small_default : smallK default := ⟨Nat.zero_le _, fun _ => Nat.zero_le _, Nat.zero_le _, fun _ => ⟨Nat.zero_le _, Nat.zero_le _⟩, Nat.zero_le _⟩
theorem op_l_Cluster (hB : BulkOk bulk) : Opens enc Tryz.prog w bulk BB 22 (fun l : List Clu => [roL 4 cClu l]) smallKs :=
  (Opens.slice hB Tryz.underlying22 (by kernel_rfl) (by decide) (op_Cluster hB)).imp id (fun _ => rfl) (fun _ h => ⟨h.1, getD_all h.2 small_default⟩)

theorem op_Device (hB : BulkOk bulk) : Opens enc Tryz.prog w bulk BB 110 cDev smallD :=
  (Opens.struct hB Tryz.underlying110 (by kernel_rfl) (.cons (size := 1) rfl (by kernel_rfl) op_int (.cons (size := 1) rfl (by kernel_rfl) op_uint64 (.cons (size := 1) rfl (by kernel_rfl) op_int (.cons (size := 1) rfl (by kernel_rfl) op_bool (.cons (size := 1) rfl (by kernel_rfl) op_int (.cons (size := 1) rfl (by kernel_rfl) (op_string hB) (.cons (size := 1) rfl (by kernel_rfl) (op_l_string hB) .nil)))))))).imp
    (fun x => ⟨x.1, x.2.1, x.2.2.1, x.2.2.2.1, x.2.2.2.2.1, x.2.2.2.2.2.1, x.2.2.2.2.2.2.1⟩) (fun _ => rfl) (fun _ h => ⟨h.2.2.2.2.2.2.1, h.1.1, h.1.2⟩)
theorem op_l_Device (hB : BulkOk bulk) : Opens enc Tryz.prog w bulk BB 23 (fun l : List Dev => [roL 7 cDev l]) (fun l => smallL l ∧ ∀ i, smallD (l.getD i default)) :=
  (Opens.slice hB Tryz.underlying23 (by kernel_rfl) (by decide) (op_Device hB)).imp id (fun _ => rfl) (fun _ h => ⟨h.1, getD_all h.2 ⟨Nat.zero_le _, by decide, by decide⟩⟩)
theorem op_Home (hB : BulkOk bulk) : Opens enc Tryz.prog w bulk BB 25 cHom smallH :=
  (Opens.struct hB Tryz.underlying25 (by kernel_rfl) (.cons (size := 1) rfl (by kernel_rfl) (op_l_Cluster hB) (.cons (size := 1) rfl (by kernel_rfl) (op_l_Device hB) .nil))).imp (fun x => ⟨x.1, x.2.1⟩) (fun _ => rfl) (fun _ h => ⟨h.1, h.2.1.1, h.2.1.2⟩)
end

end Go.Abs

namespace Go.Proofs.YtbhnjopjhaebpaaGreatDoor
open Go.ChangeShapes Go.WideShapes Go.ChangeAt Go.RowKit Go.Abs

theorem own : ownKnob Tryz.prog.godebug = none := by kernel_rfl
theorem laidOut : laidOutB Tryz.prog = true := by kernel_rfl

theorem glob {W : World} (h : laidMetH Tryz.prog [("homehub/cluster.standard", Rows.laid_homehub_cluster_standard)] W) : Glob W (fun _ => False) := by
  intro g cs hg
  have h0 : g = 0 ∧ cs = glob0.map fun s => .val (.string s) := by
    simp only [Globals.get] at hg
    split at hg
    · rename_i e; exact ⟨by simpa [Nat.beq_eq] using e, by cases hg; rfl⟩
    · cases hg
  obtain ⟨rfl, rfl⟩ := h0
  exact strTab (name := "homehub/cluster.standard") (ss := glob0) (rest := []) (g := 0) (t := 144) (e := 9) (n := 8) (by kernel_rfl) (by kernel_rfl) Tryz.underlying144 Tryz.underlying9 (by kernel_rfl) (by kernel_rfl) (by decide) h

/-- A WORLD FOR THE WITNESS: the settled one, the table (block 0) holding what its initialiser lays. -/
noncomputable def laidWorld (os : Os) : World :=
  { World.holding Tryz.prog os ⟨#[], #[], []⟩ with heap := (World.holding Tryz.prog os ⟨#[], #[], []⟩).heap.modify 0 fun
      | .cells _ t frozen => .cells (glob0.map fun s => Value.string s).toArray t frozen
      | o => o }

theorem bulkOk {H : Type} : BulkOk (Rows.uptoBulk (H := H)) := by
  have one_le : ∀ d : DataW H, 1 ≤ Rows.uptoBulk d := fun d => by
    cases d with
    | lit l => cases l <;> simp [Rows.uptoBulk]
    | nil => simp [Rows.uptoBulk]
    | ptr d => simp [Rows.uptoBulk]
    | slice elems spare => simp [Rows.uptoBulk]
    | agg parts => simp [Rows.uptoBulk]
    | iface t d => simp [Rows.uptoBulk]
    | map entries => simp [Rows.uptoBulk]
    | held h => simp [Rows.uptoBulk]
  have part_le : ∀ (l : List (DataW H)) (d : DataW H), d ∈ l → Rows.uptoBulk d ≤ Rows.uptoBulkAll l := by
    intro l
    induction l with
    | nil => intro d h; cases h
    | cons x r ih =>
      intro d h
      simp only [Rows.uptoBulkAll]
      cases List.mem_cons.1 h with
      | inl e => subst e; omega
      | inr e => have := ih d e; omega
  have length_le : ∀ (l : List (DataW H)), l.length ≤ Rows.uptoBulkAll l := by
    intro l
    induction l with
    | nil => simp [Rows.uptoBulkAll]
    | cons x r ih => have := one_le x; simp only [Rows.uptoBulkAll, List.length_cons]; omega
  refine ⟨fun bytes => by simp [Rows.uptoBulk], fun e s => ?_, fun e s d h => ?_, fun l d h => ?_⟩
  · have := length_le e; simp only [Rows.uptoBulk]; omega
  · have := part_le e d h; simp only [Rows.uptoBulk]; omega
  · have := part_le l d h; simp only [Rows.uptoBulk]; omega

theorem bulk_le {H : Type} {l : List (DataW H)} (hk : Rows.uptoSmall H l = true) : Rows.uptoBulkAll l ≤ 1048576 := of_decide_eq_true hk

/-- From what a function does with pure data to its call at read arguments. -/
theorem law_calls {f : FuncId} {fn : Func} {H : Type} {enc : TypeId × Value → H} {W : World} {args : Array Value} {ds gs : List (DataW H)} {before : List MemPlace} {s : ChangeSpec} {tb : TypeId} {xs : List PV}
    (hac : AC Tryz.prog f (xs.map .pv) [] (.pv (vbool true)) []) (hlen : args.size = xs.length) (hx : ∀ (i : Nat) (p : PV), xs[i]? = some p → PR W (fun _ => False) p (args.getD i undef))
    (hr : ∀ t ∈ fn.params.toList, Tryz.prog.readableRec t = true ∧ t < Tryz.prog.types.size)
    (hres : fn.resultTypes = #[tb]) (htb : Tryz.prog.underlying tb = some .bool) (hv : s.vars = []) (hfn : s.fn H ds = { results := [.lit (.bool true)], args := ds })
    (hW : DataW.Whole enc Tryz.prog fn.params.toList s.vars false W args.toList ds gs before) (hg : Glob W (fun _ => False)) :
    Calls Tryz.prog f args W fun e W' => ∃ v, e = .returned v ∧ s.post enc Tryz.prog fn false true false false W args v W' := by
  refine (hac.calls hg (by simpa using hlen) (fun i x e => ?_)).mono ?_
  · rw [List.getElem?_map] at e
    cases hp : xs[i]? with
    | none => rw [hp] at e; cases e
    | some p =>
      rw [hp] at e
      cases e
      exact .pv _ _ (hx i p hp)
  · rintro e W' ⟨v, rfl, hv2, hb⟩
    cases hv2
    exact ⟨_, rfl, law_post laidOut hr hres htb hv hfn hb hW⟩

end Go.Proofs.YtbhnjopjhaebpaaGreatDoor

namespace Go.Abs
variable [Globals]

inductive Ex where
  | mk (kind n m : Int) (name : ByteArray) (value : Val) (key : Key) (kids : List Ex)

namespace Ex
def kind : Ex → Int | mk k _ _ _ _ _ _ => k
def n : Ex → Int | mk _ n _ _ _ _ _ => n
def m : Ex → Int | mk _ _ m _ _ _ _ => m
def name : Ex → ByteArray | mk _ _ _ s _ _ _ => s
def value : Ex → Val | mk _ _ _ _ v _ _ => v
def key : Ex → Key | mk _ _ _ _ _ k _ => k
def kids : Ex → List Ex | mk _ _ _ _ _ _ l => l
end Ex

abbrev noKey : Key := ⟨0, ⟨#[]⟩, ⟨#[]⟩⟩
abbrev noEx : Ex := .mk 0 0 0 ⟨#[]⟩ ⟨0, 0, ⟨#[]⟩⟩ ⟨0, ⟨#[]⟩, ⟨#[]⟩⟩ []
instance : Inhabited Ex := ⟨noEx⟩

mutual
def encE : Ex → List PV
  | .mk k n m s v q l => [vint k, vint n, vint m, vstr s, vint v.kind, vint v.n, vstr v.s, vint q.dev, vstr q.cluster, vstr q.attr, .ro 11 l.length (encK l)]
/-- the cells of the kids -/
def encK : List Ex → Nat → List PV
  | [], _ => []
  | e :: _, 0 => encE e
  | _ :: l, i + 1 => encK l i
end

/-- the cells of an expression -/
def cEx (e : Ex) : List PV := [vint e.kind, vint e.n, vint e.m, vstr e.name, vint e.value.kind, vint e.value.n, vstr e.value.s, vint e.key.dev, vstr e.key.cluster, vstr e.key.attr, .ro 11 e.kids.length (encK e.kids)]

theorem encE_eq (e : Ex) : encE e = cEx e := by cases e; rfl
theorem encK_eq : ∀ {l : List Ex} {i : Nat}, i < l.length → encK l i = cEx (l.getD i default)
  | e :: l, 0, _ => by rw [encK, encE_eq]; rfl
  | e :: l, i + 1, h => by
    rw [encK, encK_eq (l := l) (by simpa using h)]
    rfl
theorem PSub.kids {l : List Ex} : PSub (.ro 11 l.length (encK l)) (roL 11 cEx l) := PSub.ro (Eq.refl _) fun i hi => by rw [encK_eq hi]; exact PSubs.rfl
theorem PSub.kids' {l : List Ex} : PSub (roL 11 cEx l) (.ro 11 l.length (encK l)) := PSub.ro (Eq.refl _) fun i hi => by rw [encK_eq hi]; exact PSubs.rfl

/-- .. with the kids in sight -/
def cEx1 (e : Ex) : List PV := [vint e.kind, vint e.n, vint e.m, vstr e.name, vint e.value.kind, vint e.value.n, vstr e.value.s, vint e.key.dev, vstr e.key.cluster, vstr e.key.attr, roL 11 cEx e.kids]
theorem PSub.ex1 {e : Ex} : PSub (.agg (cEx e)) (.agg (cEx1 e)) := PSub.agg ⟨PSub.rfl, PSub.rfl, PSub.rfl, PSub.rfl, PSub.rfl, PSub.rfl, PSub.rfl, PSub.rfl, PSub.rfl, PSub.rfl, PSub.kids, trivial⟩
theorem PSub.ex1' {e : Ex} : PSub (.agg (cEx1 e)) (.agg (cEx e)) := PSub.agg ⟨PSub.rfl, PSub.rfl, PSub.rfl, PSub.rfl, PSub.rfl, PSub.rfl, PSub.rfl, PSub.rfl, PSub.rfl, PSub.rfl, PSub.kids', trivial⟩

/-- x says at least what y says -/
structure ASub (x y : AV) : Prop where
  to : ∀ (P : Program) (w : World) (St M : Nat → Prop) (σ : Sig) (v : Value), AR P w St M σ x v → AR P w St M σ y v
theorem ASub.rfl {x : AV} : ASub x x := ⟨fun _ _ _ _ _ _ h => h⟩
theorem ASub.pv {p q : PV} (h : PSub p q) : ASub (.pv p) (.pv q) := ⟨fun _ _ _ _ _ _ k => .pv _ _ (h.to _ _ _ (arg_pv k))⟩
def ASubs : List AV → List AV → Prop
  | [], [] => True
  | x :: xs, y :: ys => ASub x y ∧ ASubs xs ys
  | _, _ => False
theorem ASubs.get : ∀ {xs ys : List AV}, ASubs xs ys → xs.length = ys.length ∧ ∀ (i : Nat) (y : AV), ys[i]? = some y → ∃ x, xs[i]? = some x ∧ ASub x y
  | [], [], _ => ⟨Eq.refl _, fun i y e => by simp at e⟩
  | x :: xs, y :: ys, h => by
    obtain ⟨h1, h2⟩ := ASubs.get h.2
    refine ⟨by simp [h1], fun i z e => ?_⟩
    cases i with
    | zero => simp at e; subst e; exact ⟨x, by simp, h.1⟩
    | succ i => simpa using h2 i z (by simpa using e)
  | [], _ :: _, h => h.elim
  | _ :: _, [], h => h.elim
theorem AC.subA {P : Program} {f : FuncId} {xs ys : List AV} {os os' : Upd} {res : AV} (h : AC P f ys os res os') (hs : ASubs xs ys) : AC P f xs os res os' := by
  obtain ⟨h1, h2⟩ := hs.get
  refine ⟨h.1, fun St M0 σ w vals hi hn ho hl ha => h.2 St M0 σ w vals hi hn ho (by rw [hl, h1]) fun i y e => ?_⟩
  obtain ⟨x, hx, hxy⟩ := h2 i y e
  exact hxy.to _ _ _ _ _ _ (ha i x hx)
/-- an expression as argument: told either way -/
theorem AC.ex {P : Program} {f : FuncId} {e : Ex} {r : List AV} {os os' : Upd} {res : AV} (h : AC P f (.pv (.agg (cEx1 e)) :: r) os res os') : AC P f (.pv (.agg (cEx e)) :: r) os res os' := by
  have key : ∀ r : List AV, ASubs r r := fun r => by induction r with | nil => trivial | cons x r ih => exact ⟨ASub.rfl, ih⟩
  exact h.subA ⟨ASub.pv PSub.ex1, key r⟩
theorem AC.ex' {P : Program} {f : FuncId} {e : Ex} {r : List AV} {os os' : Upd} {res : AV} (h : AC P f (.pv (.agg (cEx e)) :: r) os res os') : AC P f (.pv (.agg (cEx1 e)) :: r) os res os' := by
  have key : ∀ r : List AV, ASubs r r := fun r => by induction r with | nil => trivial | cons x r ih => exact ⟨ASub.rfl, ih⟩
  exact h.subA ⟨ASub.pv PSub.ex1', key r⟩
theorem AC.ex2 {P : Program} {f : FuncId} {e : Ex} {x : AV} {r : List AV} {os os' : Upd} {res : AV} (h : AC P f (x :: .pv (.agg (cEx1 e)) :: r) os res os') : AC P f (x :: .pv (.agg (cEx e)) :: r) os res os' := by
  have key : ∀ r : List AV, ASubs r r := fun r => by induction r with | nil => trivial | cons x r ih => exact ⟨ASub.rfl, ih⟩
  exact h.subA ⟨ASub.rfl, ASub.pv PSub.ex1, key r⟩
theorem AC.ex2' {P : Program} {f : FuncId} {e : Ex} {x : AV} {r : List AV} {os os' : Upd} {res : AV} (h : AC P f (x :: .pv (.agg (cEx e)) :: r) os res os') : AC P f (x :: .pv (.agg (cEx1 e)) :: r) os res os' := by
  have key : ∀ r : List AV, ASubs r r := fun r => by induction r with | nil => trivial | cons x r ih => exact ⟨ASub.rfl, ih⟩
  exact h.subA ⟨ASub.rfl, ASub.pv PSub.ex1', key r⟩

theorem Ex.eta (e : Ex) : e = .mk e.kind e.n e.m e.name e.value e.key e.kids := by cases e; rfl
theorem Ex.kid_lt {e : Ex} {k : Ex} (h : k ∈ e.kids) : SizeOf.sizeOf k < SizeOf.sizeOf e := by
  obtain ⟨a, b, c, d, v, q, l⟩ := e
  have := List.sizeOf_lt_of_mem (show k ∈ l from h)
  simp only [Ex.mk.sizeOf_spec]
  omega
theorem Ex.kid_at {l : List Ex} {i : Nat} (h : i < l.length) : l.getD i default ∈ l := by
  have : l.getD i default = l[i] := by simp [List.getD, h]
  rw [this]; exact List.getElem_mem h

/-- expr.kids -/
def kidsB (k n : Int) : Bool :=
  if k = 6 then decide (n = 1) else if k = 7 ∨ k = 8 then decide (2 ≤ n) && decide (n ≤ 8) else if 9 ≤ k ∧ k ≤ 13 then decide (n = 2) else if k = 14 then decide (n = 3) else decide (n = 0)
/-- expr.spare -/
def spareB (e : Ex) : Bool :=
  decide (((e.kind ≠ 4 ∧ e.kind ≠ 5 ∧ e.kind ≠ 15) ∧ e.n ≠ 0) ∨ (e.kind ≠ 4 ∧ e.m ≠ 0) ∨ (e.kind ≠ 3 ∧ e.name ≠ ⟨#[]⟩) ∨ (e.kind ≠ 1 ∧ e.value ≠ noVal) ∨ (e.kind ≠ 2 ∧ e.key ≠ noKey))
/-- expr.ranges -/
def rangeB (e : Ex) : Bool :=
  if e.kind = 4 then decide (0 ≤ e.n ∧ e.n < 1440 ∧ 0 ≤ e.m ∧ e.m < 1440) else if e.kind = 5 then decide (1 ≤ e.n ∧ e.n ≤ 127) else if e.kind = 15 then decide (0 ≤ e.n ∧ e.n ≤ 4)
  else if e.kind = 2 then decide (1 ≤ e.key.dev ∧ e.key.dev ≤ 250) else true
/-- expr.node -/
def nodeE (e : Ex) : Int :=
  if e.kind < 1 ∨ 15 < e.kind then 7 else if kidsB e.kind e.kids.length = false ∨ spareB e = true then 1 else if rangeB e = false then 2
  else if e.kind = 3 then (if validName e.name then 0 else 10)
  else if e.kind = 2 then (if validName e.key.cluster && validName e.key.attr then 0 else 10)
  else if e.kind = 1 then (if valE e.value ≠ 0 then valE e.value else if e.value.kind = 0 then 7 else 0)
  else 0

mutual
/-- expr.Check: from the level l and the count c: the count and the error -/
def chkE : Ex → Int → Int → Int × Int
  | .mk a n m s v q ks, l, c =>
    if 24 < l then (c + 1, 22) else if 200 < c + 1 then (c + 1, 3) else if nodeE (.mk a n m s v q ks) ≠ 0 then (c + 1, nodeE (.mk a n m s v q ks)) else chkL ks (l + 1) (c + 1)
def chkL : List Ex → Int → Int → Int × Int
  | [], _, c => (c, 0)
  | e :: es, l, c => if (chkE e l c).2 ≠ 0 then chkE e l c else chkL es l (chkE e l c).1
end

theorem chkE_eq (e : Ex) (l c : Int) : chkE e l c = if 24 < l then (c + 1, 22) else if 200 < c + 1 then (c + 1, 3) else if nodeE e ≠ 0 then (c + 1, nodeE e) else chkL e.kids (l + 1) (c + 1) := by
  cases e; rw [chkE]; rfl

mutual
/-- homehubref28.walk -/
def wlkE : Ex → Int → Int → Int × Int
  | .mk a n m s v q ks, l, c =>
    if 24 < l then (c, 22) else if 200 ≤ c then (c, 3) else if nodeE (.mk a n m s v q ks) ≠ 0 then (c, nodeE (.mk a n m s v q ks)) else wlkL ks (l + 1) (c + 1)
def wlkL : List Ex → Int → Int → Int × Int
  | [], _, c => (c, 0)
  | e :: es, l, c => if (wlkE e l c).2 ≠ 0 then wlkE e l c else wlkL es l (wlkE e l c).1
end

theorem wlkE_eq (e : Ex) (l c : Int) : wlkE e l c = if 24 < l then (c, 22) else if 200 ≤ c then (c, 3) else if nodeE e ≠ 0 then (c, nodeE e) else wlkL e.kids (l + 1) (c + 1) := by
  cases e; rw [wlkE]; rfl

mutual
theorem wlk_chk : ∀ (e : Ex) (l c : Int), (wlkE e l c).2 = (chkE e l c).2 ∧ ((chkE e l c).2 = 0 → (wlkE e l c).1 = (chkE e l c).1)
  | .mk a n m s v q ks, l, c => by
    rw [wlkE, chkE]
    by_cases h1 : 24 < l
    · simp [h1]
    · by_cases h2 : 200 ≤ c
      · have h2' : 200 < c + 1 := by omega
        simp [h1, h2, h2']
      · have h2' : ¬ 200 < c + 1 := by omega
        simp only [if_neg h1, if_neg h2, if_neg h2']
        by_cases h3 : nodeE (.mk a n m s v q ks) ≠ 0
        · simp only [if_pos h3]; exact ⟨trivial, fun h => absurd h h3⟩
        · simp only [if_neg h3]; exact wlk_chkL ks (l + 1) (c + 1)
theorem wlk_chkL : ∀ (ks : List Ex) (l c : Int), (wlkL ks l c).2 = (chkL ks l c).2 ∧ ((chkL ks l c).2 = 0 → (wlkL ks l c).1 = (chkL ks l c).1)
  | [], l, c => by simp [wlkL, chkL]
  | e :: es, l, c => by
    obtain ⟨h1, h2⟩ := wlk_chk e l c
    rw [wlkL, chkL]
    by_cases h : (chkE e l c).2 ≠ 0
    · rw [if_pos (by rw [h1]; exact h), if_pos h]; exact ⟨h1, h2⟩
    · rw [if_neg (by rw [h1]; exact h), if_neg h, h2 (by simpa using h)]; exact wlk_chkL es l _
end

mutual
theorem wlkE_b : ∀ (e : Ex) (l c : Int), 0 ≤ c → c ≤ 200 → 0 ≤ (wlkE e l c).1 ∧ (wlkE e l c).1 ≤ 200
  | .mk a n m s v q ks, l, c, h0, h1 => by
    rw [wlkE]
    split
    · exact ⟨h0, h1⟩
    · split
      · exact ⟨h0, h1⟩
      · split
        · exact ⟨h0, h1⟩
        · exact wlkL_b ks (l + 1) (c + 1) (by omega) (by omega)
theorem wlkL_b : ∀ (ks : List Ex) (l c : Int), 0 ≤ c → c ≤ 200 → 0 ≤ (wlkL ks l c).1 ∧ (wlkL ks l c).1 ≤ 200
  | [], l, c, h0, h1 => by rw [wlkL]; exact ⟨h0, h1⟩
  | e :: es, l, c, h0, h1 => by
    obtain ⟨h2, h3⟩ := wlkE_b e l c h0 h1
    rw [wlkL]
    split
    · exact ⟨h2, h3⟩
    · exact wlkL_b es l _ h2 h3
end

mutual
theorem chkE_b : ∀ (e : Ex) (l c : Int), 0 ≤ c → c ≤ 200 → 0 ≤ (chkE e l c).1 ∧ (chkE e l c).1 ≤ 201 ∧ ((chkE e l c).2 = 0 → (chkE e l c).1 ≤ 200)
  | .mk a n m s v q ks, l, c, h0, h1 => by
    rw [chkE]
    split
    · exact ⟨by dsimp only; omega, by dsimp only; omega, fun h => by cases h⟩
    · split
      · exact ⟨by dsimp only; omega, by dsimp only; omega, fun h => by cases h⟩
      · split
        · rename_i h; exact ⟨by dsimp only; omega, by dsimp only; omega, fun h2 => absurd h2 h⟩
        · exact chkL_b ks (l + 1) (c + 1) (by omega) (by omega)
theorem chkL_b : ∀ (ks : List Ex) (l c : Int), 0 ≤ c → c ≤ 200 → 0 ≤ (chkL ks l c).1 ∧ (chkL ks l c).1 ≤ 201 ∧ ((chkL ks l c).2 = 0 → (chkL ks l c).1 ≤ 200)
  | [], l, c, h0, h1 => by rw [chkL]; exact ⟨h0, by dsimp only; omega, fun _ => h1⟩
  | e :: es, l, c, h0, h1 => by
    obtain ⟨h2, h3, h4⟩ := chkE_b e l c h0 h1
    rw [chkL]
    split
    · exact ⟨h2, h3, h4⟩
    · rename_i h; exact chkL_b es l _ h2 (h4 (by simpa using h))
end

theorem nodeE_kids {e : Ex} (h : nodeE e = 0) : e.kids.length ≤ 8 := by
  have h2 : kidsB e.kind e.kids.length = true := by
    cases hb : kidsB e.kind e.kids.length with
    | true => rfl
    | false => rw [nodeE, hb] at h; split at h <;> simp at h
  unfold kidsB at h2
  (repeat' split at h2) <;> simp only [decide_eq_true_eq, Bool.and_eq_true] at h2 <;> omega

theorem drop_getD {α : Type} [Inhabited α] {l : List α} {k : Nat} (h : k < l.length) : l.drop k = l.getD k default :: l.drop (k + 1) := by
  rw [List.drop_eq_getElem_cons h]; simp [List.getD, h]

/-- expr.Check -/
def exE (e : Ex) : Int := (chkE e 1 0).2

mutual
def sizeE : Ex → Nat
  | .mk _ _ _ _ _ _ ks => 1 + sizeL ks
def sizeL : List Ex → Nat
  | [] => 0
  | e :: es => sizeE e + sizeL es
end
theorem sizeE_eq (e : Ex) : sizeE e = 1 + sizeL e.kids := by cases e; rw [sizeE]; rfl
theorem sizeL_take : ∀ (l : List Ex) (k : Nat), k < l.length → sizeL (l.take (k + 1)) = sizeL (l.take k) + sizeE (l.getD k default)
  | e :: l, 0, _ => by simp [sizeL]
  | e :: l, k + 1, h => by
    have := sizeL_take l k (by simpa using h)
    simp only [List.take_succ_cons, sizeL, this, List.getD_cons_succ]
    omega
theorem sizeL_mem {l : List Ex} {e : Ex} (h : e ∈ l) : sizeE e ≤ sizeL l := by
  induction l with
  | nil => simp at h
  | cons x l ih =>
    rw [sizeL]
    rcases List.mem_cons.1 h with rfl | h
    · omega
    · have := ih h; omega
theorem sizeL_length {l : List Ex} : l.length ≤ sizeL l := by
  induction l with
  | nil => simp
  | cons x l ih => rw [sizeL, sizeE_eq]; simp; omega
theorem sizeL_le_take {l : List Ex} {k : Nat} : sizeL (l.take k) ≤ sizeL l := by
  induction l generalizing k with
  | nil => simp
  | cons x l ih =>
    cases k with
    | zero => simp [sizeL]
    | succ k => have := @ih k; simp only [List.take_succ_cons, sizeL]; omega

end Go.Abs

namespace Go.Abs

structure Sco where
  home : Hom
  modes : List ByteArray
  scenes : List ByteArray
  deriving Inhabited
def cSco (s : Sco) : List PV := [roL 4 cClu s.home.clusters, roL 7 cDev s.home.devices, roL 1 cstr s.modes, roL 1 cstr s.scenes]
def smallS (s : Sco) : Prop := smallH s.home ∧ smallL s.modes ∧ smallL s.scenes

def leafK (s : Sco) (kind : Int) (name : ByteArray) (value : Val) (key : Key) : Int × Int :=
  if kind = 1 then (value.kind, 0) else if kind = 2 then (if (findA s.home key).isSome = true then (((findA s.home key).getD noAttr).kind, 0) else (0, 8))
  else if kind = 3 ∧ idxOf s.modes name < 0 then (0, 8) else (1, 0)

/-- all elements are k -/
def allI (l : List Int) (k : Int) : Bool := l.all fun x => decide (x = k)
def opK (k : Int) (l : List Int) : Int × Int :=
  if k = 6 ∨ k = 7 ∨ k = 8 then (if allI l 1 = true then (1, 0) else (0, 11))
  else if k = 9 then (if l.getD 0 default = l.getD 1 default then (1, 0) else (0, 11))
  else if k = 10 then (if allI l 2 = true then (1, 0) else (0, 11))
  else if k = 14 then (if l.getD 0 default = 1 ∧ l.getD 1 default = l.getD 2 default then (l.getD 1 default, 0) else (0, 11))
  else (if allI l 2 = true then (2, 0) else (0, 11))

mutual
def kindE (s : Sco) : Ex → Int × Int
  | .mk k _ _ nm v q ks => match ks with
    | [] => leafK s k nm v q
    | e :: es => match kindL s (e :: es) with
      | .inl x => (0, x)
      | .inr l => opK k l
def kindL (s : Sco) : List Ex → Int ⊕ List Int
  | [] => .inr []
  | e :: es => if (kindE s e).2 ≠ 0 then .inl (kindE s e).2 else match kindL s es with
    | .inl x => .inl x
    | .inr l => .inr ((kindE s e).1 :: l)
end

theorem kindE_leaf {s : Sco} {e : Ex} (h : e.kids.length = 0) : kindE s e = leafK s e.kind e.name e.value e.key := by
  obtain ⟨k, n, m, nm, v, q, ks⟩ := e
  have : ks = [] := List.length_eq_zero_iff.1 h
  subst this
  rw [kindE]; rfl
theorem kindE_op {s : Sco} {e : Ex} (h : e.kids.length ≠ 0) : kindE s e = (match kindL s e.kids with | .inl x => (0, x) | .inr l => opK e.kind l) := by
  obtain ⟨k, n, m, nm, v, q, ks⟩ := e
  cases ks with
  | nil => exact absurd rfl h
  | cons e es => rw [kindE]; rfl

/-- what the first kids have yielded -/
def KTo (s : Sco) (ks : List Ex) (k : Nat) (acc : List Int) : Prop := acc.length = k ∧ kindL s ks = match kindL s (ks.drop k) with | .inl x => .inl x | .inr r => .inr (acc ++ r)

theorem KTo.zero (s : Sco) (ks : List Ex) : KTo s ks 0 [] := ⟨rfl, by simp only [List.drop_zero, List.nil_append]; cases kindL s ks <;> rfl⟩
theorem KTo.err {s : Sco} {ks : List Ex} {k : Nat} {acc : List Int} (h : KTo s ks k acc) (hk : k < ks.length) (he : (kindE s (ks.getD k default)).2 ≠ 0) : kindL s ks = .inl (kindE s (ks.getD k default)).2 := by
  have h2 := h.2
  rw [drop_getD hk, kindL, if_pos he] at h2
  exact h2
theorem KTo.next {s : Sco} {ks : List Ex} {k : Nat} {acc : List Int} (h : KTo s ks k acc) (hk : k < ks.length) (he : (kindE s (ks.getD k default)).2 = 0) : KTo s ks (k + 1) (acc ++ [(kindE s (ks.getD k default)).1]) := by
  have h2 := h.2
  rw [drop_getD hk, kindL, if_neg (by simpa using he)] at h2
  refine ⟨by simp [h.1], h2.trans ?_⟩
  cases kindL s (ks.drop (k + 1)) <;> simp
theorem KTo.done {s : Sco} {ks : List Ex} {k : Nat} {acc : List Int} (h : KTo s ks k acc) (hk : ks.length ≤ k) : kindL s ks = .inr acc := by
  have h2 := h.2
  rw [List.drop_of_length_le hk, kindL] at h2
  simpa using h2

mutual
/-- the right numbers of kids all over -/
def okE : Ex → Prop
  | .mk k _ _ _ _ _ ks => (1 ≤ k ∧ k ≤ 15) ∧ kidsB k ks.length = true ∧ okL ks
def okL : List Ex → Prop
  | [] => True
  | e :: es => okE e ∧ okL es
end
theorem okE_iff (e : Ex) : okE e ↔ (1 ≤ e.kind ∧ e.kind ≤ 15) ∧ kidsB e.kind e.kids.length = true ∧ okL e.kids := by cases e; rw [okE]; rfl
theorem okL_at : ∀ {l : List Ex} {k : Nat}, okL l → k < l.length → okE (l.getD k default)
  | e :: l, 0, h, _ => by rw [okL] at h; exact h.1
  | e :: l, k + 1, h, hk => by rw [okL] at h; exact okL_at (l := l) h.2 (by simpa using hk)

theorem nodeE_ok {e : Ex} (h : nodeE e = 0) : (1 ≤ e.kind ∧ e.kind ≤ 15) ∧ kidsB e.kind e.kids.length = true := by
  unfold nodeE at h
  split at h
  · cases h
  · rename_i h1
    split at h
    · cases h
    · rename_i h2
      exact ⟨by omega, by cases hb : kidsB e.kind e.kids.length <;> simp_all⟩

mutual
theorem chk_ok : ∀ (e : Ex) (l c : Int), (chkE e l c).2 = 0 → okE e
  | .mk a n m s v q ks, l, c, h => by
    rw [chkE] at h
    split at h
    · cases h
    · split at h
      · cases h
      · split at h
        · rename_i h3; exact absurd h h3
        · rename_i h3
          have h4 := nodeE_ok (e := .mk a n m s v q ks) (by simpa using h3)
          rw [okE]
          exact ⟨h4.1, h4.2, chk_okL ks _ _ h⟩
theorem chk_okL : ∀ (ks : List Ex) (l c : Int), (chkL ks l c).2 = 0 → okL ks
  | [], l, c, _ => by rw [okL]; trivial
  | e :: es, l, c, h => by
    rw [chkL] at h
    rw [okL]
    split at h
    · rename_i h1; exact absurd h h1
    · rename_i h1; exact ⟨chk_ok e l c (by simpa using h1), chk_okL es l _ h⟩
end
theorem exE_ok {e : Ex} (h : exE e = 0) : okE e := chk_ok e 1 0 h

/-- typing.Expr -/
def exprK (s : Sco) (e : Ex) : Int × Int := if exE e ≠ 0 then (0, exE e) else kindE s e

end Go.Abs

namespace Go.Abs

structure Evt where
  dev : Int
  cluster : ByteArray
  name : ByteArray
  deriving Inhabited, DecidableEq
abbrev noEvt : Evt := ⟨0, ⟨#[]⟩, ⟨#[]⟩⟩
structure Trg where
  kind : Int
  key : Key
  event : Evt
  name : ByteArray
  n : Int
  m : Int
  deriving Inhabited, DecidableEq
structure Stp where
  kind : Int
  key : Key
  name : ByteArray
  expr : Ex
  deriving Inhabited
structure Rul where
  name : ByteArray
  prio : Int
  on : List Trg
  cond : Ex
  steps : List Stp
  deriving Inhabited

def cTrg (t : Trg) : List PV := [vint t.kind, vint t.key.dev, vstr t.key.cluster, vstr t.key.attr, vint t.event.dev, vstr t.event.cluster, vstr t.event.name, vstr t.name, vint t.n, vint t.m]
def cStp (x : Stp) : List PV := vint x.kind :: vint x.key.dev :: vstr x.key.cluster :: vstr x.key.attr :: vstr x.name :: cEx x.expr
def cRul (r : Rul) : List PV := vstr r.name :: vint r.prio :: roL 10 cTrg r.on :: (cEx r.cond ++ [roL 16 cStp r.steps])

/-- the zero Expr -/
def zeroX (e : Ex) : Bool := decide (e.kind = 0 ∧ e.n = 0 ∧ e.m = 0 ∧ e.name = ⟨#[]⟩ ∧ e.value = noVal ∧ e.key = noKey ∧ e.kids.length = 0)
def cEx0 : List PV := [vint 0, vint 0, vint 0, vstr ⟨#[]⟩, vint 0, vint 0, vstr ⟨#[]⟩, vint 0, vstr ⟨#[]⟩, vstr ⟨#[]⟩, .val (.slice none 0 0)]

/-- different names -/
def wordsE (l : List ByteArray) : Int := firstE l.length fun i => if validName (l.getD i default) = false then 10 else if idxOf l (l.getD i default) < i then 9 else 0
/-- typing.Check -/
def scoE (s : Sco) : Int :=
  if homE s.home ≠ 0 then homE s.home else if s.modes.length < 1 ∨ 16 < s.modes.length then 3 else if wordsE s.modes ≠ 0 then wordsE s.modes else if 256 < s.scenes.length then 3 else wordsE s.scenes

/-- print.spare -/
def trgSpare (t : Trg) : Bool :=
  decide ((t.kind = 1 ∨ t.key = noKey) ∧ (t.kind = 2 ∨ t.event = noEvt) ∧ (t.kind = 4 ∨ t.name = ⟨#[]⟩) ∧ (t.kind = 3 ∨ t.kind = 6 ∨ t.n = 0) ∧ (t.kind = 3 ∨ t.m = 0))
def namedE (dev : Int) (a b : ByteArray) : Int := if dev < 1 ∨ 250 < dev then 2 else if validName a && validName b then 0 else 10
/-- print.trigger -/
def trgE (t : Trg) : Int :=
  if t.kind < 1 ∨ 6 < t.kind then 7 else if trgSpare t = false then 1
  else if t.kind = 1 then namedE t.key.dev t.key.cluster t.key.attr
  else if t.kind = 2 then namedE t.event.dev t.event.cluster t.event.name
  else if t.kind = 3 then (if t.n < 0 ∨ 1440 ≤ t.n ∨ t.m < 1 ∨ 127 < t.m then 2 else 0)
  else if t.kind = 6 then (if t.n < 0 ∨ 1099511627776 < t.n then 2 else 0)
  else if t.kind = 4 then (if t.name ≠ ⟨#[]⟩ ∧ validName t.name = false then 10 else 0) else 0
/-- print.step -/
def stpE (x : Stp) : Int :=
  if x.kind = 1 then (if x.name ≠ ⟨#[]⟩ then 1 else if namedE x.key.dev x.key.cluster x.key.attr ≠ 0 then namedE x.key.dev x.key.cluster x.key.attr else exE x.expr)
  else if x.kind = 2 then (if x.key.attr ≠ ⟨#[]⟩ then 1 else if namedE x.key.dev x.key.cluster x.name ≠ 0 then namedE x.key.dev x.key.cluster x.name else if zeroX x.expr = true then 0 else exE x.expr)
  else if x.kind = 3 ∨ x.kind = 4 ∨ x.kind = 5 then (if x.key ≠ noKey ∨ zeroX x.expr = false then 1 else if x.kind = 5 then (if 60 < x.name.size then 3 else 0) else if validName x.name = false then 10 else 0)
  else 7
/-- print.Check -/
def rulE (r : Rul) : Int :=
  if validName r.name = false then 10 else if r.prio < 0 ∨ 100 < r.prio then 2
  else if r.on.length < 1 ∨ 8 < r.on.length ∨ r.steps.length < 1 ∨ 8 < r.steps.length then 3
  else if firstE r.on.length (fun i => trgE (r.on.getD i default)) ≠ 0 then firstE r.on.length fun i => trgE (r.on.getD i default)
  else if exE r.cond ≠ 0 then exE r.cond else firstE r.steps.length fun i => stpE (r.steps.getD i default)

end Go.Abs

namespace Go.Abs

theorem bytesLess_iff : ∀ (x y : List UInt8), Op.bytesLess x y = true ↔ x < y
  | [], [] => by simp [Op.bytesLess]
  | [], _ :: _ => by simp [Op.bytesLess]
  | _ :: _, [] => by simp [Op.bytesLess]
  | a :: x, b :: y => by
    have ih := bytesLess_iff x y
    simp only [Op.bytesLess, List.cons_lt_cons_iff]
    by_cases h1 : a < b
    · simp [h1]
    · by_cases h2 : a = b
      · subst h2; simp [ih]
      · simp [h1, h2, ih]
        try (intro h3; exact h2 (UInt8.le_antisymm (UInt8.not_lt.1 h3) (UInt8.not_lt.1 h1)))

/-- < of strings -/
def sLt (a b : ByteArray) : Bool := Op.bytesLess a.toList b.toList

theorem sLt_iff {a b : ByteArray} : sLt a b = true ↔ a.data.toList < b.data.toList := by
  unfold sLt
  rw [bytesLess_iff, ByteArray.toList_eq, ByteArray.toList_eq]

theorem sLt_irrefl (a : ByteArray) : sLt a a = false := by
  rw [← Bool.not_eq_true, sLt_iff]
  exact List.lt_irrefl _

theorem sLt_trans {a b c : ByteArray} (h : sLt a b = true) (k : sLt b c = true) : sLt a c = true := by
  rw [sLt_iff] at *
  exact List.lt_trans h k

theorem sLt_asymm {a b : ByteArray} (h : sLt a b = true) : sLt b a = false := by
  rw [← Bool.not_eq_true]
  intro k
  have := sLt_trans h k
  rw [sLt_irrefl] at this; cases this

theorem sLt_total {a b : ByteArray} (h : a ≠ b) : sLt a b = true ∨ sLt b a = true := by
  rw [sLt_iff, sLt_iff]
  rcases Classical.em (a.data.toList < b.data.toList) with h1 | h1
  · exact .inl h1
  · rcases Classical.em (b.data.toList < a.data.toList) with h2 | h2
    · exact .inr h2
    · exfalso
      apply h
      have := List.le_antisymm (List.not_lt.1 h1) (List.not_lt.1 h2)
      cases a; cases b
      congr 1
      exact (Array.toList_inj.1 this).symm

end Go.Abs

namespace Go.Abs
open Go.Proofs
set_option maxRecDepth 10000

theorem keyLess_def (a b : Key) : keyLess a b = if a.dev ≠ b.dev then decide (a.dev < b.dev) else if a.cluster ≠ b.cluster then sLt a.cluster b.cluster else sLt a.attr b.attr := rfl

theorem keyLess_irrefl (a : Key) : keyLess a a = false := by
  rw [keyLess_def]; simp [sLt_irrefl]

theorem keyLess_total {a b : Key} (h : a ≠ b) : keyLess a b = true ∨ keyLess b a = true := by
  rw [keyLess_def, keyLess_def]
  by_cases h1 : a.dev = b.dev
  · by_cases h2 : a.cluster = b.cluster
    · by_cases h3 : a.attr = b.attr
      · exfalso; apply h; cases a; cases b; simp_all
      · simp [h1, h2]; exact sLt_total h3
    · simp [h1, h2, Ne.symm h2]; exact sLt_total h2
  · simp [h1, Ne.symm h1]; omega

theorem keyLess_trans {a b c : Key} (h : keyLess a b = true) (k : keyLess b c = true) : keyLess a c = true := by
  rw [keyLess_def] at *
  by_cases h1 : a.dev = b.dev <;> by_cases k1 : b.dev = c.dev
  · by_cases h2 : a.cluster = b.cluster <;> by_cases k2 : b.cluster = c.cluster
    · simp_all; exact sLt_trans h k
    · simp_all
    · have : a.cluster ≠ c.cluster := fun e => h2 (e.trans k2.symm)
      simp_all
    · have h3 : sLt a.cluster b.cluster = true := by simp_all
      have k3 : sLt b.cluster c.cluster = true := by simp_all
      have t := sLt_trans h3 k3
      have : a.cluster ≠ c.cluster := fun e => by rw [e, sLt_irrefl] at t; cases t
      simp [h1, k1, this]; exact t
  · simp [h1, k1] at h k ⊢; exact k
  · have : a.dev ≠ c.dev := fun e => h1 (e.trans k1.symm)
    simp [h1] at h
    simp [this]; omega
  · simp [h1] at h
    simp [k1] at k
    have : a.dev ≠ c.dev := by omega
    simp [this]; omega

theorem keyLess_asymm {a b : Key} (h : keyLess a b = true) : keyLess b a = false := by
  rw [← Bool.not_eq_true]
  intro k
  have := keyLess_trans h k
  rw [keyLess_irrefl] at this; cases this

theorem key_eq (a b : Key) : (decide (a.dev = b.dev) && (decide (a.cluster = b.cluster) && (decide (a.attr = b.attr) && true))) = decide (a = b) := by
  obtain ⟨a1, a2, a3⟩ := a
  obtain ⟨b1, b2, b3⟩ := b
  rw [Bool.eq_iff_iff]; simp

end Go.Abs

namespace Go.Abs
open Go.Proofs
set_option maxRecDepth 10000

theorem val_eq0' (a : Val) : (decide (a.kind = 0) && (decide (a.n = 0) && decide (a.s = ⟨#[]⟩))) = decide (a = noVal) := by have := val_eq a noVal; simp only [Bool.and_true] at this; exact this
theorem key_eq0 (a : Key) : (decide (a.dev = 0) && (decide (a.cluster = ⟨#[]⟩) && decide (a.attr = ⟨#[]⟩))) = decide (a = noKey) := by have := key_eq a noKey; simp only [Bool.and_true] at this; exact this

theorem ac_expr_kids (k n : Int) : AC Tryz.prog 120 [.pv (vint k), .pv (vint n)] [] (.pv (vbool (kidsB k n))) [] := by
  refine AC.of_awp (T := T) T_ok hm Tryz.call120 Tryz.func120 rfl rfl rfl ?_
  conv => whnf
  repeat (any_goals (first
    | (refine ⟨fun (h : (_ : Bool) = true) => ?_, fun (h : (_ : Bool) = false) => ?_⟩ <;> (try simp only [decide_eq_true_eq, decide_eq_false_iff_not, Bool.not_eq_true', Bool.not_eq_false', Int.toNat_natCast, beq_iff_eq, decide_eq_decide, beq_eq_false_iff_ne, ne_eq, reduceCtorEq] at h) <;> (conv => whnf))
    | (refine And.intro (by (try simp only [Int.toNat_natCast]); omega) ?_; conv => whnf)
    | (refine And.intro (show (_ : Bool) = true from by kernel_rfl) ?_; conv => whnf)
    | (refine .inl ⟨wrap64 (by omega), ?_⟩; conv => whnf)))
  all_goals first
    | contradiction
    | (exfalso; omega)
    | exact PSub.rfl
    | (refine PSub.lit_sb ?_; (first | (simp [kidsB, *]; done) | (simp_all [kidsB]; done) | ((try simp only [kidsB]); (repeat' split) <;> (try simp only [Bool.false_eq, Bool.true_eq, Bool.and_eq_false_iff, decide_eq_false_iff_not, Bool.and_eq_true, decide_eq_true_eq, decide_eq_decide]) <;> first | rfl | omega | (simp_all; done) | (simp_all; omega))))
    | (refine PSub.sb ?_; (first | (simp [kidsB, *]; done) | (simp_all [kidsB]; done) | ((try simp only [kidsB]); (repeat' split) <;> (try simp only [Bool.false_eq, Bool.true_eq, Bool.and_eq_false_iff, decide_eq_false_iff_not, Bool.and_eq_true, decide_eq_true_eq, decide_eq_decide]) <;> first | rfl | omega | (simp_all; done) | (simp_all; omega))))
    | (refine PSub.sb_lit ?_; (first | (simp [kidsB, *]; done) | (simp_all [kidsB]; done) | ((try simp only [kidsB]); (repeat' split) <;> (try simp only [Bool.false_eq, Bool.true_eq, Bool.and_eq_false_iff, decide_eq_false_iff_not, Bool.and_eq_true, decide_eq_true_eq, decide_eq_decide]) <;> first | rfl | omega | (simp_all; done) | (simp_all; omega))))
    | (refine PSub.int ?_; (first | (simp [kidsB, *]; done) | (simp_all [kidsB]; done) | ((try simp only [kidsB]); (repeat' split) <;> (try simp only [Bool.false_eq, Bool.true_eq, Bool.and_eq_false_iff, decide_eq_false_iff_not, Bool.and_eq_true, decide_eq_true_eq, decide_eq_decide]) <;> first | rfl | omega | (simp_all; done) | (simp_all; omega))))
    | skip

theorem ac_expr_spare (e : Ex) : AC Tryz.prog 121 [.pv (.agg (cEx e))] [] (.pv (vbool (spareB e))) [] := by
  refine AC.of_awp (T := T) T_ok hm Tryz.call121 Tryz.func121 rfl rfl rfl ?_
  conv => whnf
  repeat (any_goals (first
    | (refine ⟨fun (h : (_ : Bool) = true) => ?_, fun (h : (_ : Bool) = false) => ?_⟩ <;> (try simp only [decide_eq_true_eq, decide_eq_false_iff_not, Bool.not_eq_true', Bool.not_eq_false', Int.toNat_natCast, beq_iff_eq, decide_eq_decide, beq_eq_false_iff_ne, ne_eq, reduceCtorEq] at h) <;> (conv => whnf))
    | (refine And.intro (by (try simp only [Int.toNat_natCast]); omega) ?_; conv => whnf)
    | (refine And.intro (show (_ : Bool) = true from by kernel_rfl) ?_; conv => whnf)
    | (refine .inl ⟨wrap64 (by omega), ?_⟩; conv => whnf)))
  all_goals (try simp only [val_eq0', key_eq0, decide_true, Bool.and_true, decide_eq_false_iff_not, decide_eq_true_eq] at *)
  all_goals first
    | contradiction
    | (exfalso; omega)
    | exact PSub.rfl
    | (refine PSub.lit_sb ?_; (first | (simp [spareB, *]; done) | (simp_all [spareB]; done) | ((try simp only [spareB]); (repeat' split) <;> (try simp only [Bool.false_eq, Bool.true_eq, Bool.and_eq_false_iff, decide_eq_false_iff_not, Bool.and_eq_true, decide_eq_true_eq, decide_eq_decide]) <;> first | rfl | omega | (simp_all; done) | (simp_all; omega))))
    | (refine PSub.sb ?_; (first | (simp [spareB, *]; done) | (simp_all [spareB]; done) | ((try simp only [spareB]); (repeat' split) <;> (try simp only [Bool.false_eq, Bool.true_eq, Bool.and_eq_false_iff, decide_eq_false_iff_not, Bool.and_eq_true, decide_eq_true_eq, decide_eq_decide]) <;> first | rfl | omega | (simp_all; done) | (simp_all; omega))))
    | (refine PSub.sb_lit ?_; (first | (simp [spareB, *]; done) | (simp_all [spareB]; done) | ((try simp only [spareB]); (repeat' split) <;> (try simp only [Bool.false_eq, Bool.true_eq, Bool.and_eq_false_iff, decide_eq_false_iff_not, Bool.and_eq_true, decide_eq_true_eq, decide_eq_decide]) <;> first | rfl | omega | (simp_all; done) | (simp_all; omega))))
    | (refine PSub.int ?_; (first | (simp [spareB, *]; done) | (simp_all [spareB]; done) | ((try simp only [spareB]); (repeat' split) <;> (try simp only [Bool.false_eq, Bool.true_eq, Bool.and_eq_false_iff, decide_eq_false_iff_not, Bool.and_eq_true, decide_eq_true_eq, decide_eq_decide]) <;> first | rfl | omega | (simp_all; done) | (simp_all; omega))))
    | skip

theorem ac_expr_ranges (e : Ex) : AC Tryz.prog 122 [.pv (.agg (cEx e))] [] (.pv (vbool (rangeB e))) [] := by
  refine AC.of_awp (T := T) T_ok hm Tryz.call122 Tryz.func122 rfl rfl rfl ?_
  conv => whnf
  repeat (any_goals (first
    | (refine ⟨fun (h : (_ : Bool) = true) => ?_, fun (h : (_ : Bool) = false) => ?_⟩ <;> (try simp only [decide_eq_true_eq, decide_eq_false_iff_not, Bool.not_eq_true', Bool.not_eq_false', Int.toNat_natCast, beq_iff_eq, decide_eq_decide, beq_eq_false_iff_ne, ne_eq, reduceCtorEq] at h) <;> (conv => whnf))
    | (refine And.intro (by (try simp only [Int.toNat_natCast]); omega) ?_; conv => whnf)
    | (refine And.intro (show (_ : Bool) = true from by kernel_rfl) ?_; conv => whnf)
    | (refine .inl ⟨wrap64 (by omega), ?_⟩; conv => whnf)))
  all_goals first
    | contradiction
    | (exfalso; omega)
    | exact PSub.rfl
    | (refine PSub.lit_sb ?_; (first | (simp [rangeB, *]; done) | (simp_all [rangeB]; done) | ((try simp only [rangeB]); (repeat' split) <;> (try simp only [Bool.false_eq, Bool.true_eq, Bool.and_eq_false_iff, decide_eq_false_iff_not, Bool.and_eq_true, decide_eq_true_eq, decide_eq_decide]) <;> first | rfl | omega | (simp_all; done) | (simp_all; omega))))
    | (refine PSub.sb ?_; (first | (simp [rangeB, *]; done) | (simp_all [rangeB]; done) | ((try simp only [rangeB]); (repeat' split) <;> (try simp only [Bool.false_eq, Bool.true_eq, Bool.and_eq_false_iff, decide_eq_false_iff_not, Bool.and_eq_true, decide_eq_true_eq, decide_eq_decide]) <;> first | rfl | omega | (simp_all; done) | (simp_all; omega))))
    | (refine PSub.sb_lit ?_; (first | (simp [rangeB, *]; done) | (simp_all [rangeB]; done) | ((try simp only [rangeB]); (repeat' split) <;> (try simp only [Bool.false_eq, Bool.true_eq, Bool.and_eq_false_iff, decide_eq_false_iff_not, Bool.and_eq_true, decide_eq_true_eq, decide_eq_decide]) <;> first | rfl | omega | (simp_all; done) | (simp_all; omega))))
    | (refine PSub.int ?_; (first | (simp [rangeB, *]; done) | (simp_all [rangeB]; done) | ((try simp only [rangeB]); (repeat' split) <;> (try simp only [Bool.false_eq, Bool.true_eq, Bool.and_eq_false_iff, decide_eq_false_iff_not, Bool.and_eq_true, decide_eq_true_eq, decide_eq_decide]) <;> first | rfl | omega | (simp_all; done) | (simp_all; omega))))
    | skip

theorem ac_expr_node (e : Ex) : AC Tryz.prog 80 [.pv (.agg (cEx e))] [] (.pv (vint (nodeE e))) [] := by
  refine AC.of_awp (T := T) T_ok hm Tryz.call80 Tryz.func80 rfl rfl rfl ?_
  conv => whnf
  repeat (any_goals (first
    | (refine ⟨fun (h : (_ : Bool) = true) => ?_, fun (h : (_ : Bool) = false) => ?_⟩ <;> (try simp only [decide_eq_true_eq, decide_eq_false_iff_not, Bool.not_eq_true', Bool.not_eq_false', Int.toNat_natCast, beq_iff_eq, decide_eq_decide, beq_eq_false_iff_ne, ne_eq, reduceCtorEq] at h) <;> (conv => whnf))
    | (refine .inl ⟨_, ac_expr_kids e.kind e.kids.length, ?_⟩; conv => whnf)
    | (refine .inl ⟨_, ac_expr_spare e, ?_⟩; conv => whnf)
    | (refine .inl ⟨_, ac_expr_ranges e, ?_⟩; conv => whnf)
    | (refine .inl ⟨_, ac_names_Valid e.name, ?_⟩; conv => whnf)
    | (refine .inl ⟨_, ac_names_Valid e.key.cluster, ?_⟩; conv => whnf)
    | (refine .inl ⟨_, ac_names_Valid e.key.attr, ?_⟩; conv => whnf)
    | (refine .inl ⟨_, ac_value_Check e.value, ?_⟩; conv => whnf)
    | (refine And.intro (by (try simp only [Int.toNat_natCast]); omega) ?_; conv => whnf)
    | (refine And.intro (show (_ : Bool) = true from by kernel_rfl) ?_; conv => whnf)
    | (refine .inl ⟨wrap64 (by omega), ?_⟩; conv => whnf)))
  all_goals first
    | contradiction
    | (exfalso; omega)
    | exact PSub.rfl
    | (refine PSub.lit_sb ?_; (first | (simp [nodeE, *]; done) | (simp_all [nodeE]; done) | ((try simp only [nodeE]); (repeat' split) <;> (try simp only [Bool.false_eq, Bool.true_eq, Bool.and_eq_false_iff, decide_eq_false_iff_not, Bool.and_eq_true, decide_eq_true_eq, decide_eq_decide]) <;> first | rfl | omega | (simp_all; done) | (simp_all; omega))))
    | (refine PSub.sb ?_; (first | (simp [nodeE, *]; done) | (simp_all [nodeE]; done) | ((try simp only [nodeE]); (repeat' split) <;> (try simp only [Bool.false_eq, Bool.true_eq, Bool.and_eq_false_iff, decide_eq_false_iff_not, Bool.and_eq_true, decide_eq_true_eq, decide_eq_decide]) <;> first | rfl | omega | (simp_all; done) | (simp_all; omega))))
    | (refine PSub.sb_lit ?_; (first | (simp [nodeE, *]; done) | (simp_all [nodeE]; done) | ((try simp only [nodeE]); (repeat' split) <;> (try simp only [Bool.false_eq, Bool.true_eq, Bool.and_eq_false_iff, decide_eq_false_iff_not, Bool.and_eq_true, decide_eq_true_eq, decide_eq_decide]) <;> first | rfl | omega | (simp_all; done) | (simp_all; omega))))
    | (refine PSub.int ?_; (first | (simp [nodeE, *]; done) | (simp_all [nodeE]; done) | ((try simp only [nodeE]); (repeat' split) <;> (try simp only [Bool.false_eq, Bool.true_eq, Bool.and_eq_false_iff, decide_eq_false_iff_not, Bool.and_eq_true, decide_eq_true_eq, decide_eq_decide]) <;> first | rfl | omega | (simp_all; done) | (simp_all; omega))))
    | skip

/-- homehubref28.kids -/
def kidLo (k : Int) : Int := if k = 6 then 1 else if k = 7 ∨ k = 8 then 2 else if 9 ≤ k ∧ k ≤ 13 then 2 else if k = 14 then 3 else 0
def kidHi (k : Int) : Int := if k = 6 then 1 else if k = 7 ∨ k = 8 then 8 else if 9 ≤ k ∧ k ≤ 13 then 2 else if k = 14 then 3 else 0
theorem kidsB_iff (k n : Int) (h : 0 ≤ n) : kidsB k n = decide (kidLo k ≤ n ∧ n ≤ kidHi k) := by
  unfold kidsB kidLo kidHi
  (repeat' split) <;> (rw [Bool.eq_iff_iff]; simp) <;> omega

theorem ac_r28_kids (k : Int) : AC Tryz.prog 151 [.pv (vint k)] [] (.pv (.tup [vint (kidLo k), vint (kidHi k)])) [] := by
  refine AC.of_awp (T := T) T_ok hm Tryz.call151 Tryz.func151 rfl rfl rfl ?_
  conv => whnf
  repeat (any_goals (first
    | (refine ⟨fun (h : (_ : Bool) = true) => ?_, fun (h : (_ : Bool) = false) => ?_⟩ <;> (try simp only [decide_eq_true_eq, decide_eq_false_iff_not, Bool.not_eq_true', Bool.not_eq_false', Int.toNat_natCast, beq_iff_eq, decide_eq_decide, beq_eq_false_iff_ne, ne_eq, reduceCtorEq] at h) <;> (conv => whnf))
    | (refine And.intro (by (try simp only [Int.toNat_natCast]); omega) ?_; conv => whnf)
    | (refine And.intro (show (_ : Bool) = true from by kernel_rfl) ?_; conv => whnf)
    | (refine .inl ⟨wrap64 (by omega), ?_⟩; conv => whnf)))
  all_goals (try (refine And.intro ?_ ?_ <;> (conv => whnf)))
  all_goals first
    | contradiction
    | (exfalso; omega)
    | exact PSub.rfl
    | (refine PSub.lit_sb ?_; (first | (simp [kidLo, kidHi, *]; done) | (simp_all [kidLo, kidHi]; done) | ((try simp only [kidLo, kidHi]); (repeat' split) <;> (try simp only [Bool.false_eq, Bool.true_eq, Bool.and_eq_false_iff, decide_eq_false_iff_not, Bool.and_eq_true, decide_eq_true_eq, decide_eq_decide]) <;> first | rfl | omega | (simp_all; done) | (simp_all; omega))))
    | (refine PSub.sb ?_; (first | (simp [kidLo, kidHi, *]; done) | (simp_all [kidLo, kidHi]; done) | ((try simp only [kidLo, kidHi]); (repeat' split) <;> (try simp only [Bool.false_eq, Bool.true_eq, Bool.and_eq_false_iff, decide_eq_false_iff_not, Bool.and_eq_true, decide_eq_true_eq, decide_eq_decide]) <;> first | rfl | omega | (simp_all; done) | (simp_all; omega))))
    | (refine PSub.sb_lit ?_; (first | (simp [kidLo, kidHi, *]; done) | (simp_all [kidLo, kidHi]; done) | ((try simp only [kidLo, kidHi]); (repeat' split) <;> (try simp only [Bool.false_eq, Bool.true_eq, Bool.and_eq_false_iff, decide_eq_false_iff_not, Bool.and_eq_true, decide_eq_true_eq, decide_eq_decide]) <;> first | rfl | omega | (simp_all; done) | (simp_all; omega))))
    | (refine PSub.int ?_; (first | (simp [kidLo, kidHi, *]; done) | (simp_all [kidLo, kidHi]; done) | ((try simp only [kidLo, kidHi]); (repeat' split) <;> (try simp only [Bool.false_eq, Bool.true_eq, Bool.and_eq_false_iff, decide_eq_false_iff_not, Bool.and_eq_true, decide_eq_true_eq, decide_eq_decide]) <;> first | rfl | omega | (simp_all; done) | (simp_all; omega))))
    | skip

theorem ac_r28_spare (e : Ex) : AC Tryz.prog 152 [.pv (.agg (cEx e))] [] (.pv (vbool (!spareB e))) [] := by
  refine AC.of_awp (T := T) T_ok hm Tryz.call152 Tryz.func152 rfl rfl rfl ?_
  conv => whnf
  repeat (any_goals (first
    | (refine ⟨fun (h : (_ : Bool) = true) => ?_, fun (h : (_ : Bool) = false) => ?_⟩ <;> (try simp only [decide_eq_true_eq, decide_eq_false_iff_not, Bool.not_eq_true', Bool.not_eq_false', Int.toNat_natCast, beq_iff_eq, decide_eq_decide, beq_eq_false_iff_ne, ne_eq, reduceCtorEq] at h) <;> (conv => whnf))
    | (refine And.intro (by (try simp only [Int.toNat_natCast]); omega) ?_; conv => whnf)
    | (refine And.intro (show (_ : Bool) = true from by kernel_rfl) ?_; conv => whnf)
    | (refine .inl ⟨wrap64 (by omega), ?_⟩; conv => whnf)))
  all_goals (try simp only [val_eq0', key_eq0, decide_true, Bool.and_true, decide_eq_false_iff_not, decide_eq_true_eq] at *)
  all_goals first
    | contradiction
    | (exfalso; omega)
    | exact PSub.rfl
    | (refine PSub.lit_sb ?_; (first | (simp [spareB, *]; done) | (simp_all [spareB]; done) | ((try simp only [spareB]); (repeat' split) <;> (try simp only [Bool.false_eq, Bool.true_eq, Bool.and_eq_false_iff, decide_eq_false_iff_not, Bool.and_eq_true, decide_eq_true_eq, decide_eq_decide]) <;> first | rfl | omega | (simp_all; done) | (simp_all; omega))))
    | (refine PSub.sb ?_; (first | (simp [spareB, *]; done) | (simp_all [spareB]; done) | ((try simp only [spareB]); (repeat' split) <;> (try simp only [Bool.false_eq, Bool.true_eq, Bool.and_eq_false_iff, decide_eq_false_iff_not, Bool.and_eq_true, decide_eq_true_eq, decide_eq_decide]) <;> first | rfl | omega | (simp_all; done) | (simp_all; omega))))
    | (refine PSub.sb_lit ?_; (first | (simp [spareB, *]; done) | (simp_all [spareB]; done) | ((try simp only [spareB]); (repeat' split) <;> (try simp only [Bool.false_eq, Bool.true_eq, Bool.and_eq_false_iff, decide_eq_false_iff_not, Bool.and_eq_true, decide_eq_true_eq, decide_eq_decide]) <;> first | rfl | omega | (simp_all; done) | (simp_all; omega))))
    | (refine PSub.int ?_; (first | (simp [spareB, *]; done) | (simp_all [spareB]; done) | ((try simp only [spareB]); (repeat' split) <;> (try simp only [Bool.false_eq, Bool.true_eq, Bool.and_eq_false_iff, decide_eq_false_iff_not, Bool.and_eq_true, decide_eq_true_eq, decide_eq_decide]) <;> first | rfl | omega | (simp_all; done) | (simp_all; omega))))
    | skip

set_option maxHeartbeats 2000000 in
theorem ac_r28_node (e : Ex) : AC Tryz.prog 124 [.pv (.agg (cEx e))] [] (.pv (vint (nodeE e))) [] := by
  have hk := kidsB_iff e.kind e.kids.length (by omega)
  refine AC.of_awp (T := T) T_ok hm Tryz.call124 Tryz.func124 rfl rfl rfl ?_
  conv => whnf
  repeat (any_goals (first
    | (refine ⟨fun (h : (_ : Bool) = true) => ?_, fun (h : (_ : Bool) = false) => ?_⟩ <;> (try simp only [decide_eq_true_eq, decide_eq_false_iff_not, Bool.not_eq_true', Bool.not_eq_false', Int.toNat_natCast, beq_iff_eq, decide_eq_decide, beq_eq_false_iff_ne, ne_eq, reduceCtorEq] at h) <;> (conv => whnf))
    | (refine .inl ⟨_, ac_r28_kids e.kind, ?_⟩; conv => whnf)
    | (refine .inl ⟨_, ac_r28_spare e, ?_⟩; conv => whnf)
    | (refine .inl ⟨_, ac_r04_Valid e.name, ?_⟩; conv => whnf)
    | (refine .inl ⟨_, ac_r04_Valid e.key.cluster, ?_⟩; conv => whnf)
    | (refine .inl ⟨_, ac_r04_Valid e.key.attr, ?_⟩; conv => whnf)
    | (refine .inl ⟨_, ac_r20_Check e.value, ?_⟩; conv => whnf)
    | (refine And.intro (by (try simp only [Int.toNat_natCast]); omega) ?_; conv => whnf)
    | (refine And.intro (show (_ : Bool) = true from by kernel_rfl) ?_; conv => whnf)
    | (refine .inl ⟨wrap64 (by omega), ?_⟩; conv => whnf)))
  all_goals first
    | contradiction
    | (exfalso; omega)
    | exact PSub.rfl
    | (refine PSub.lit_sb ?_; (first | (simp [nodeE, rangeB, *]; done) | (simp_all [nodeE, rangeB]; done) | ((try simp only [nodeE, rangeB]); (repeat' split) <;> (try simp only [Bool.false_eq, Bool.true_eq, Bool.and_eq_false_iff, decide_eq_false_iff_not, Bool.and_eq_true, decide_eq_true_eq, decide_eq_decide]) <;> first | rfl | omega | (simp_all; done) | (simp_all; omega))))
    | (refine PSub.sb ?_; (first | (simp [nodeE, rangeB, *]; done) | (simp_all [nodeE, rangeB]; done) | ((try simp only [nodeE, rangeB]); (repeat' split) <;> (try simp only [Bool.false_eq, Bool.true_eq, Bool.and_eq_false_iff, decide_eq_false_iff_not, Bool.and_eq_true, decide_eq_true_eq, decide_eq_decide]) <;> first | rfl | omega | (simp_all; done) | (simp_all; omega))))
    | (refine PSub.sb_lit ?_; (first | (simp [nodeE, rangeB, *]; done) | (simp_all [nodeE, rangeB]; done) | ((try simp only [nodeE, rangeB]); (repeat' split) <;> (try simp only [Bool.false_eq, Bool.true_eq, Bool.and_eq_false_iff, decide_eq_false_iff_not, Bool.and_eq_true, decide_eq_true_eq, decide_eq_decide]) <;> first | rfl | omega | (simp_all; done) | (simp_all; omega))))
    | (refine PSub.int ?_; (first | (simp [nodeE, rangeB, *]; done) | (simp_all [nodeE, rangeB]; done) | ((try simp only [nodeE, rangeB]); (repeat' split) <;> (try simp only [Bool.false_eq, Bool.true_eq, Bool.and_eq_false_iff, decide_eq_false_iff_not, Bool.and_eq_true, decide_eq_true_eq, decide_eq_decide]) <;> first | rfl | omega | (simp_all; done) | (simp_all; omega))))
    | skip

end Go.Abs
