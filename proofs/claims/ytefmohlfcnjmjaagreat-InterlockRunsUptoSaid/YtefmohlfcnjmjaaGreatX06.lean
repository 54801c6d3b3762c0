/- YtefmohlfcnjmjaaGreatX06: walks and contracts. -/
import Derived.Test.YtefmohlfcnjmjaaGreatX05
import Derived.OrdersIn
import Derived.RangeFuncLeaves
import Derived.RangeFuncRecord
import Derived.TacticsIn

set_option linter.unusedVariables false
set_option linter.unusedSimpArgs false
set_option linter.unusedSectionVars false

namespace Go.Abs
open Go.Proofs
set_option maxRecDepth 10000
theorem ac_slices_Index_Item (l : List Item) (x : Item) (hl : smallL l) : AC Tryz.prog 146 [.pv (roL 7 cItem l), .pv (.agg (cItem x))] [] (.pv (vint (ixI l.length (firstI l.length fun i => decide (x = l.getD i default))))) [] := by
  have hl2 : l.length ≤ 1048576 := hl
  refine AC.of_awp (T := T) T_ok hm Tryz.call146 Tryz.func146 rfl rfl rfl ?_
  conv => whnf
  refine loop_k (ι := Nat) [0, 3, 7] [3] (fun k => k ≤ l.length ∧ (∀ j, j < k → decide (x = l.getD j default) = false)) (fun k => l.length - k) 0 (fun k => [(8, .pv (vint k))]) (fun _ => []) [] ⟨Nat.zero_le _, fun j h => absurd h (by omega)⟩ ?_ (fun k hk => ?_)
  · (repeat' (first | exact PSub.rfl | exact rfl | exact PSubs.rfl | exact trivial | exact PSub.lit_sb rfl | refine And.intro ?_ ?_))
  obtain ⟨hkn, hinv⟩ := hk
  conv => whnf
  repeat (any_goals (first
    | (refine ⟨fun (h : (_ : Bool) = true) => ?_, fun (h : (_ : Bool) = false) => ?_⟩ <;> (try simp only [decide_eq_true_eq, decide_eq_false_iff_not, Bool.not_eq_true', Bool.not_eq_false', Int.toNat_natCast, beq_iff_eq, decide_eq_decide, beq_eq_false_iff_ne, ne_eq, reduceCtorEq] at h) <;> (conv => whnf))
    | (refine And.intro (by (try simp only [Int.toNat_natCast]); omega) ?_; conv => whnf)
    | (refine And.intro (show (_ : Bool) = true from by kernel_rfl) ?_; conv => whnf)
    | (refine .inl ⟨wrap64 (by omega), ?_⟩; conv => whnf)))
  · have h2 : decide (x = l.getD k default) = true := (item_eq _ _).symm.trans h
    exact PSub.int (by rw [firstI_at (k := k) (by omega) h2 hinv, ixI, if_pos (by omega)])
  · have h2 : decide (x = l.getD k default) = false := (item_eq _ _).symm.trans h
    refine ⟨k + 1, [], ⟨by omega, ?_⟩, by first | omega | (dsimp only; omega), ?_⟩
    rotate_left
    · (repeat' (first | exact PSub.rfl | exact rfl | exact PSubs.rfl | exact trivial | exact PSub.lit_sb rfl | refine And.intro ?_ ?_))
    intro j hj
    by_cases e : j = k
    · subst e; exact h2
    · exact hinv j (by omega)
  · exact PSub.int (by rw [firstI_none (fun j hj => hinv j (by omega)), ixI, if_neg (Nat.lt_irrefl _)])
theorem ac_slices_Contains_Item (l : List Item) (x : Item) (hl : smallL l) : AC Tryz.prog 104 [.pv (roL 7 cItem l), .pv (.agg (cItem x))] [] (.pv (vbool (l.any fun y => decide (x = y)))) [] := by
  refine AC.of_awp (T := T) T_ok hm Tryz.call104 Tryz.func104 rfl rfl rfl ?_
  conv => whnf
  repeat (any_goals (first
    | (refine ⟨fun (h : (_ : Bool) = true) => ?_, fun (h : (_ : Bool) = false) => ?_⟩ <;> (try simp only [decide_eq_true_eq, decide_eq_false_iff_not, Bool.not_eq_true', Bool.not_eq_false', Int.toNat_natCast, beq_iff_eq, decide_eq_decide, beq_eq_false_iff_ne, ne_eq, reduceCtorEq] at h) <;> (conv => whnf))
    | (refine .inl ⟨_, ac_slices_Index_Item l x hl, ?_⟩; conv => whnf)
    | (refine And.intro (by (try simp only [Int.toNat_natCast]); omega) ?_; conv => whnf)
    | (refine And.intro (show (_ : Bool) = true from by kernel_rfl) ?_; conv => whnf)
    | (refine .inl ⟨wrap64 (by omega), ?_⟩; conv => whnf)))
  exact PSub.sb (by rw [ix_any]; exact anyN_any (p := fun y => decide (x = y)))
theorem ac_interlock_forbid (H : Hom) (l : List Item) (hH : smallH H) (hl : smallL l) : AC Tryz.prog 65 [.pv (.agg (cHom H)), .pv (roL 7 cItem l)] [] (.pv (vint (firstE l.length (forbidE H l)))) [] := by
  have hl2 : l.length ≤ 1048576 := hl
  refine AC.of_awp (T := T) T_ok hm Tryz.call65 Tryz.func65 rfl rfl rfl ?_
  conv => whnf
  refine loop_k (ι := Nat) [1, 2, 8, 9] [2] (fun k => k ≤ l.length ∧ (∀ j, j < k → forbidE H l j = 0)) (fun k => l.length - k) 0 (fun k => [(10, .pv (vint k))]) (fun _ => []) [] ⟨Nat.zero_le _, fun j h => absurd h (by omega)⟩ ?_ (fun k hk => ?_)
  · (repeat' (first | exact PSub.rfl | exact rfl | exact PSubs.rfl | exact trivial | exact PSub.lit_sb rfl | refine And.intro ?_ ?_))
  obtain ⟨hkn, hinv⟩ := hk
  conv => whnf
  refine ⟨fun h => ?_, fun h => ?_⟩ <;> (try simp only [decide_eq_true_eq, decide_eq_false_iff_not, Bool.not_eq_true', Bool.not_eq_false', Int.toNat_natCast, beq_iff_eq, decide_eq_decide, beq_eq_false_iff_ne, ne_eq, reduceCtorEq] at h) <;> (conv => whnf)
  · have hk : k < l.length := by omega
    have hcon := AC.sub2 (ac_slices_Contains_Item (l.take k) (l.getD k default) (Nat.le_trans (List.length_take_le _ _) (by omega))) (take_sub (by omega)) .rfl
    rw [any_take (by omega)] at hcon
    have hany : itemE H (l.getD k default) = 0 → (anyN k fun j => decide (l.getD k default = l.getD j default)) = anyN k fun j => decide ((l.getD j default).key = (l.getD k default).key) && decide ((l.getD j default).value = (l.getD k default).value) := fun h0 => by
      rw [Bool.eq_iff_iff, anyN_iff, anyN_iff]
      constructor
      · rintro ⟨j, hj, e⟩
        have e := of_decide_eq_true e
        exact ⟨j, hj, by rw [e]; simp⟩
      · rintro ⟨j, hj, e⟩
        simp only [Bool.and_eq_true, decide_eq_true_eq] at e
        have hj0 : itemE H (l.getD j default) = 0 := by
          have := hinv j hj
          unfold forbidE at this
          split at this
          · rename_i h1; exact absurd this h1
          · rename_i h1; simpa using h1
        refine ⟨j, hj, decide_eq_true ?_⟩
        have v1 := (itemE_find hj0).2
        have v2 := (itemE_find h0).2
        generalize l.getD j default = a at *
        generalize l.getD k default = b at *
        obtain ⟨a1, a2, a3⟩ := a
        obtain ⟨b1, b2, b3⟩ := b
        simp_all
    repeat (any_goals (first
      | (refine ⟨fun (h : (_ : Bool) = true) => ?_, fun (h : (_ : Bool) = false) => ?_⟩ <;> (try simp only [decide_eq_true_eq, decide_eq_false_iff_not, Bool.not_eq_true', Bool.not_eq_false', Int.toNat_natCast, beq_iff_eq, decide_eq_decide, beq_eq_false_iff_ne, ne_eq, reduceCtorEq] at h) <;> (conv => whnf))
      | (refine .inl ⟨_, ac_interlock_item H (l.getD k default) hH, ?_⟩; conv => whnf)
      | (refine .inl ⟨_, hcon, ?_⟩; conv => whnf)
      | (refine And.intro (by (try simp only [Int.toNat_natCast]); omega) ?_; conv => whnf)
      | (refine And.intro (show (_ : Bool) = true from by kernel_rfl) ?_; conv => whnf)
      | (refine .inl ⟨wrap64 (by omega), ?_⟩; conv => whnf)))
    · exact PSub.int (by rw [firstE_at (k := k) hk (by unfold forbidE; rw [if_pos h]; exact h) hinv]; unfold forbidE; rw [if_pos h])
    · rename_i h1
      rw [hany (by simpa using h1)] at h
      exact PSub.int (by rw [firstE_at (k := k) hk (by unfold forbidE; rw [if_neg (by simpa using h1), if_pos h]; decide) hinv]; unfold forbidE; rw [if_neg (by simpa using h1), if_pos h])
    · rename_i h1
      rw [hany (by simpa using h1)] at h
      refine ⟨k + 1, [], ⟨by omega, ?_⟩, by first | omega | (dsimp only; omega), ?_⟩
      rotate_left
      · (repeat' (first | exact PSub.rfl | exact rfl | exact PSubs.rfl | exact trivial | exact PSub.lit_sb rfl | refine And.intro ?_ ?_))
      intro j hj
      by_cases e : j = k
      · subst e; unfold forbidE; rw [if_neg (by simpa using h1), if_neg (by rw [h]; decide)]
      · exact hinv j (by omega)
  · exact PSub.int (by rw [firstE_none fun j hj => hinv j (by omega)])
theorem any_true_at {α : Type} [Inhabited α] {l : List α} {p : α → Bool} {k : Nat} (hk : k < l.length) (h : p (l.getD k default) = true) : l.any p = true := by
  rw [← anyN_any]; exact anyN_true hk h
theorem any_none {α : Type} [Inhabited α] {l : List α} {p : α → Bool} (h : ∀ j, j < l.length → p (l.getD j default) = false) : l.any p = false := by
  rw [← anyN_any]; exact anyN_false h
theorem ac_interlock_forbids (a b : Lck) (ha : smallL a.force) (hb : smallL b.forbid) : AC Tryz.prog 105 [.pv (.agg (cLck a)), .pv (.agg (cLck b))] [] (.pv (vbool (againstB a b))) [] := by
  have ha2 : a.force.length ≤ 1048576 := ha
  have hb2 : b.forbid.length ≤ 1048576 := hb
  refine AC.of_awp (T := T) T_ok hm Tryz.call105 Tryz.func105 rfl rfl rfl ?_
  conv => whnf
  refine loop_k (ι := Nat) [3, 10, 11] [3] (fun k => k ≤ a.force.length ∧ (∀ j, j < k → (b.forbid.any fun y => decide ((a.force.getD j default).key = y.key) && decide ((a.force.getD j default).value = y.value)) = false)) (fun k => a.force.length - k) 0 (fun k => [(12, .pv (vint k))]) (fun _ => []) [] ⟨Nat.zero_le _, fun j h => absurd h (by omega)⟩ ?_ (fun k hk => ?_)
  · (repeat' (first | exact PSub.rfl | exact rfl | exact PSubs.rfl | exact trivial | exact PSub.lit_sb rfl | refine And.intro ?_ ?_))
  obtain ⟨hkn, hinv⟩ := hk
  conv => whnf
  refine ⟨fun h => ?_, fun h => ?_⟩ <;> (try simp only [decide_eq_true_eq, decide_eq_false_iff_not, Bool.not_eq_true', Bool.not_eq_false', Int.toNat_natCast, beq_iff_eq, decide_eq_decide, beq_eq_false_iff_ne, ne_eq, reduceCtorEq] at h) <;> (conv => whnf)
  · have hk : k < a.force.length := by omega
    refine And.intro (by (try simp only [Int.toNat_natCast]); omega) ?_
    conv => whnf
    have hinv0 := hinv
    have hkn0 := hkn
    refine loop_k (ι := Nat) [3, 6, 10, 11, 12, 17, 18] [3, 6] (fun q => q ≤ b.forbid.length ∧ (∀ j, j < q → (decide ((a.force.getD k default).key = (b.forbid.getD j default).key) && decide ((a.force.getD k default).value = (b.forbid.getD j default).value)) = false)) (fun q => b.forbid.length - q) 0 (fun q => [(19, .pv (vint q))]) (fun _ => []) [] ⟨Nat.zero_le _, fun j h => absurd h (by omega)⟩ ?_ (fun q hk => ?_)
    · (repeat' (first | exact PSub.rfl | exact rfl | exact PSubs.rfl | exact trivial | exact PSub.lit_sb rfl | refine And.intro ?_ ?_))
    obtain ⟨hkn, hinv⟩ := hk
    conv => whnf
    repeat (any_goals (first
      | (refine ⟨fun (h : (_ : Bool) = true) => ?_, fun (h : (_ : Bool) = false) => ?_⟩ <;> (try simp only [decide_eq_true_eq, decide_eq_false_iff_not, Bool.not_eq_true', Bool.not_eq_false', Int.toNat_natCast, beq_iff_eq, decide_eq_decide, beq_eq_false_iff_ne, ne_eq, reduceCtorEq] at h) <;> (conv => whnf))
      | (refine And.intro (by (try simp only [Int.toNat_natCast]); omega) ?_; conv => whnf)
      | (refine And.intro (show (_ : Bool) = true from by kernel_rfl) ?_; conv => whnf)
      | (refine .inl ⟨wrap64 (by omega), ?_⟩; conv => whnf)))
    · rename_i h1
      have e1 := (key_eq _ _).symm.trans h1
      have e2 := (val_eq _ _).symm.trans h
      exact PSub.lit_sb (show againstB a b = true from any_true_at (k := k) hk (any_true_at (k := q) (by omega) (by rw [e1, e2]; rfl))).symm
    · rename_i h1
      have e1 := (key_eq _ _).symm.trans h1
      have e2 := (val_eq _ _).symm.trans h
      refine ⟨q + 1, [], ⟨by omega, ?_⟩, by first | omega | (dsimp only; omega), ?_⟩
      rotate_left
      · (repeat' (first | exact PSub.rfl | exact rfl | exact PSubs.rfl | exact trivial | exact PSub.lit_sb rfl | refine And.intro ?_ ?_))
      intro j hj
      by_cases e : j = q
      · subst e; rw [e1, e2]; rfl
      · exact hinv j (by omega)
    · have e1 := (key_eq _ _).symm.trans h
      refine ⟨q + 1, [], ⟨by omega, ?_⟩, by first | omega | (dsimp only; omega), ?_⟩
      rotate_left
      · (repeat' (first | exact PSub.rfl | exact rfl | exact PSubs.rfl | exact trivial | exact PSub.lit_sb rfl | refine And.intro ?_ ?_))
      intro j hj
      by_cases e : j = q
      · subst e; rw [e1]; rfl
      · exact hinv j (by omega)
    · refine ⟨k + 1, [], ⟨by omega, ?_⟩, by first | omega | (dsimp only; omega), ?_⟩
      rotate_left
      · (repeat' (first | exact PSub.rfl | exact rfl | exact PSubs.rfl | exact trivial | exact PSub.lit_sb rfl | refine And.intro ?_ ?_))
      intro j hj
      by_cases e : j = k
      · subst e; exact any_none fun i hi => hinv i (by omega)
      · exact hinv0 j (by omega)
  · exact PSub.lit_sb (show againstB a b = false from any_none fun j hj => hinv j (by omega)).symm
def conB (a b : Lck) : Bool := (a.force.any fun x => decide (itemAt b.force x.key < b.force.length) && decide ((getI b.force x.key).value ≠ x.value)) || (againstB a b || againstB b a)
theorem ac_interlock_contradict (a b : Lck) (ha : smallK2 a) (hb : smallK2 b) : AC Tryz.prog 66 [.pv (.agg (cLck a)), .pv (.agg (cLck b))] [] (.pv (vbool (conB a b))) [] := by
  have ha2 : a.force.length ≤ 1048576 := ha.1
  refine AC.of_awp (T := T) T_ok hm Tryz.call66 Tryz.func66 rfl rfl rfl ?_
  conv => whnf
  refine loop_k (ι := Nat) [2, 3, 10, 11] [2, 3] (fun k => k ≤ a.force.length ∧ (∀ j, j < k → (decide (itemAt b.force (a.force.getD j default).key < b.force.length) && decide ((getI b.force (a.force.getD j default).key).value ≠ (a.force.getD j default).value)) = false)) (fun k => a.force.length - k) 0 (fun k => [(12, .pv (vint k))]) (fun _ => []) [] ⟨Nat.zero_le _, fun j h => absurd h (by omega)⟩ ?_ (fun k hk => ?_)
  · (repeat' (first | exact PSub.rfl | exact rfl | exact PSubs.rfl | exact trivial | exact PSub.lit_sb rfl | refine And.intro ?_ ?_))
  obtain ⟨hkn, hinv⟩ := hk
  conv => whnf
  repeat (any_goals (first
    | (refine ⟨fun (h : (_ : Bool) = true) => ?_, fun (h : (_ : Bool) = false) => ?_⟩ <;> (try simp only [decide_eq_true_eq, decide_eq_false_iff_not, Bool.not_eq_true', Bool.not_eq_false', Int.toNat_natCast, beq_iff_eq, decide_eq_decide, beq_eq_false_iff_ne, ne_eq, reduceCtorEq] at h) <;> (conv => whnf))
    | (refine .inl ⟨_, ac_device_Get b.force (a.force.getD k default).key hb.1, ?_⟩; conv => whnf)
    | (refine .inl ⟨_, ac_interlock_forbids a b ha.1 hb.2.1, ?_⟩; conv => whnf)
    | (refine .inl ⟨_, ac_interlock_forbids b a hb.1 ha.2.1, ?_⟩; conv => whnf)
    | (refine And.intro (by (try simp only [Int.toNat_natCast]); omega) ?_; conv => whnf)
    | (refine And.intro (show (_ : Bool) = true from by kernel_rfl) ?_; conv => whnf)
    | (refine .inl ⟨wrap64 (by omega), ?_⟩; conv => whnf)))
  · rename_i h1
    have e2 := of_decide_eq_false ((val_eq _ _).symm.trans h)
    refine PSub.lit_sb ?_
    unfold conB
    rw [any_true_at (k := k) (by omega) (by rw [decide_eq_true h1, decide_eq_true e2]; rfl)]
    rfl
  · rename_i h1
    have e2 := of_decide_eq_true ((val_eq _ _).symm.trans h)
    refine ⟨k + 1, [], ⟨by omega, ?_⟩, by first | omega | (dsimp only; omega), ?_⟩
    rotate_left
    · (repeat' (first | exact PSub.rfl | exact rfl | exact PSubs.rfl | exact trivial | exact PSub.lit_sb rfl | refine And.intro ?_ ?_))
    intro j hj
    by_cases e : j = k
    · subst e; rw [decide_eq_true h1, Bool.true_and]; exact decide_eq_false (fun hn => hn e2)
    · exact hinv j (by omega)
  · refine ⟨k + 1, [], ⟨by omega, ?_⟩, by first | omega | (dsimp only; omega), ?_⟩
    rotate_left
    · (repeat' (first | exact PSub.rfl | exact rfl | exact PSubs.rfl | exact trivial | exact PSub.lit_sb rfl | refine And.intro ?_ ?_))
    intro j hj
    by_cases e : j = k
    · subst e; rw [decide_eq_false h]; rfl
    · exact hinv j (by omega)
  · refine PSub.lit_sb ?_
    unfold conB
    rw [h]; simp
  · refine PSub.sb ?_
    unfold conB
    rw [h, any_none (fun j hj => hinv j (by omega))]; rfl
end Go.Abs

namespace Go.Abs
open Go.Proofs
set_option maxRecDepth 10000
def whenE (s : Sco) (e : Ex) : Int := if (exprK s e).2 ≠ 0 then (exprK s e).2 else if (exprK s e).1 ≠ 1 then 11 else if secE s.home e = false then 19 else 0
theorem exprK_ok {s : Sco} {e : Ex} (h : (exprK s e).2 = 0) : okN e := by
  have h0 : exE e = 0 := by
    unfold exprK at h
    split at h
    · rename_i h1; exact absurd h h1
    · rename_i h1; exact Classical.not_not.1 h1
  exact ((exE_iff e).1 h0).1
end Go.Abs

namespace Go.Abs
open Go.Proofs
set_option maxRecDepth 10000
theorem getI_at2 {l : List Item} {q : Key} {i : Nat} (hi : i < l.length) (hk : (l.getD i default).key = q) (hu : ∀ j, j < i → (l.getD j default).key ≠ q) : itemAt l q < l.length ∧ getI l q = l.getD i default := by
  have h : itemAt l q = i := firstI_at hi (decide_eq_true hk) fun j hj => decide_eq_false (hu j hj)
  refine ⟨by rw [h]; exact hi, ?_⟩
  unfold getI
  rw [h, if_pos hi]
def uniqK (l : List Item) : Prop := ∀ i, i < l.length → ∀ j, j < i → (l.getD j default).key ≠ (l.getD i default).key
theorem force_uniq {H : Hom} {l : List Item} (h : firstE l.length (forceE H l) = 0) : uniqK l := by
  intro i hi j hj e
  have h0 := firstE_zero h i hi
  unfold forceE at h0
  split at h0
  · rename_i h1; exact absurd h0 h1
  · split at h0
    · cases h0
    · rw [if_pos (anyN_true hj (decide_eq_true e))] at h0
      cases h0
theorem con_other {a b : Lck} (hu : uniqK b.force) : (a.force.any fun x => decide (itemAt b.force x.key < b.force.length) && decide ((getI b.force x.key).value ≠ x.value)) = otherB b a := by
  rw [Bool.eq_iff_iff]
  unfold otherB
  simp only [List.any_eq_true, Bool.and_eq_true, decide_eq_true_eq]
  constructor
  · rintro ⟨x, hx, h1, h2⟩
    refine ⟨getI b.force x.key, ?_, x, hx, ?_, h2⟩
    · unfold getI
      rw [if_pos h1, getD_getElem _ _ h1]
      exact List.getElem_mem h1
    · unfold getI
      rw [if_pos h1]
      exact of_decide_eq_true (firstI_lt (n := b.force.length) (p := fun i => decide ((b.force.getD i default).key = x.key)) h1)
  · rintro ⟨y, hy, x, hx, h1, h2⟩
    obtain ⟨i, hi, e⟩ := List.getElem_of_mem hy
    have e2 : b.force.getD i default = y := by rw [getD_getElem _ _ hi]; exact e
    have h3 := getI_at2 (l := b.force) (q := x.key) hi (by rw [e2]; exact h1) (fun j hj h4 => hu i hi j hj (by rw [h4, e2, h1]))
    refine ⟨x, hx, h3.1, ?_⟩
    rw [h3.2, e2]; exact h2
theorem other_self {a : Lck} (hu : uniqK a.force) : otherB a a = false := by
  rw [← Bool.not_eq_true]
  unfold otherB
  simp only [List.any_eq_true, Bool.and_eq_true, decide_eq_true_eq]
  rintro ⟨x, hx, y, hy, h1, h2⟩
  obtain ⟨i, hi, e1⟩ := List.getElem_of_mem hx
  obtain ⟨j, hj, e2⟩ := List.getElem_of_mem hy
  have d1 : a.force.getD i default = x := by rw [getD_getElem _ _ hi]; exact e1
  have d2 : a.force.getD j default = y := by rw [getD_getElem _ _ hj]; exact e2
  rcases Nat.lt_trichotomy i j with h | h | h
  · exact hu j hj i h (by rw [d1, d2, h1])
  · subst h; exact h2 (by rw [← d1, d2])
  · exact hu i hi j h (by rw [d1, d2, h1])
theorem conB_eq {a b : Lck} (hu : uniqK b.force) : conB a b = (againstB b a || againstB a b || otherB b a) := by
  unfold conB
  rw [con_other hu]
  cases otherB b a <;> cases againstB a b <;> cases againstB b a <;> rfl
def headE (s : Sco) (l : List Lck) (i : Nat) : Int :=
  if validName (l.getD i default).name = false then 10
  else if anyN i (fun j => decide ((l.getD j default).name = (l.getD i default).name)) = true then 9
  else if (l.getD i default).rank < 0 ∨ 100 < (l.getD i default).rank then 2
  else if whenE s (l.getD i default).cond ≠ 0 then whenE s (l.getD i default).cond
  else if 256 < (l.getD i default).force.length ∨ 256 < (l.getD i default).forbid.length then 3
  else itemsE s.home (l.getD i default)
def clashAt (l : List Lck) (i : Nat) : Bool := againstB (l.getD i default) (l.getD i default) || anyN i (fun j => clashB (l.getD j default) (l.getD i default))
theorem oneE_eq (s : Sco) (l : List Lck) (i : Nat) : oneE s l i = if headE s l i ≠ 0 then headE s l i else if clashAt l i = true then 14 else 0 := by
  unfold oneE headE clashAt whenE
  by_cases h1 : validName (l.getD i default).name = false
  · simp only [if_pos h1]; rfl
  simp only [if_neg h1]
  by_cases h2 : anyN i (fun j => decide ((l.getD j default).name = (l.getD i default).name)) = true
  · simp only [if_pos h2]; rfl
  simp only [if_neg h2]
  by_cases h3 : (l.getD i default).rank < 0 ∨ 100 < (l.getD i default).rank
  · simp only [if_pos h3]; rfl
  simp only [if_neg h3]
  by_cases h4 : (exprK s (l.getD i default).cond).2 ≠ 0
  · simp only [if_pos h4]
  simp only [if_neg h4]
  by_cases h5 : (exprK s (l.getD i default).cond).1 ≠ 1
  · simp only [if_pos h5]; rfl
  simp only [if_neg h5]
  by_cases h6 : secE s.home (l.getD i default).cond = false
  · simp only [if_pos h6]; rfl
  simp only [if_neg h6, ne_eq, not_true_eq_false, if_false]
  by_cases h7 : 256 < (l.getD i default).force.length ∨ 256 < (l.getD i default).forbid.length
  · simp only [if_pos h7]; rfl
  simp only [if_neg h7]
  by_cases h8 : itemsE s.home (l.getD i default) = 0
  · simp only [h8, not_true_eq_false, if_false]
    by_cases h9 : againstB (l.getD i default) (l.getD i default) = true
    · simp only [h9, if_true, Bool.true_or]
    · have h9 := Bool.eq_false_iff.2 h9
      simp only [h9, Bool.false_or, Bool.false_eq_true, if_false]
  · simp only [h8, not_false_eq_true, if_true]
theorem oneE_head {s : Sco} {l : List Lck} {i : Nat} (h : oneE s l i = 0) : headE s l i = 0 := by
  rw [oneE_eq] at h
  split at h
  · rename_i h1; exact absurd h h1
  · rename_i h1; exact Classical.not_not.1 h1
theorem headE_items {s : Sco} {l : List Lck} {i : Nat} (h : headE s l i = 0) : itemsE s.home (l.getD i default) = 0 := by
  unfold headE at h
  split at h
  · cases h
  split at h
  · cases h
  split at h
  · cases h
  split at h
  · rename_i h1; exact absurd h h1
  split at h
  · cases h
  exact h
theorem itemsE_force {H : Hom} {k : Lck} (h : itemsE H k = 0) : firstE k.force.length (forceE H k.force) = 0 := by
  unfold itemsE at h
  split at h
  · rename_i h1; exact absurd h h1
  · rename_i h1; exact Classical.not_not.1 h1
theorem oneE_uniq {s : Sco} {l : List Lck} {i : Nat} (h : headE s l i = 0) : uniqK (l.getD i default).force := force_uniq (itemsE_force (headE_items h))
theorem clash_con {s : Sco} {l : List Lck} {i : Nat} (hp : ∀ j, j < i → oneE s l j = 0) (h : headE s l i = 0) :
    anyN (i + 1) (fun j => decide ((l.getD j default).rank = (l.getD i default).rank) && conB (l.getD i default) (l.getD j default)) = clashAt l i := by
  have hu := oneE_uniq h
  have hj : ∀ j, j < i → (decide ((l.getD j default).rank = (l.getD i default).rank) && conB (l.getD i default) (l.getD j default)) = clashB (l.getD j default) (l.getD i default) := fun j hj => by
    rw [conB_eq (oneE_uniq (oneE_head (hp j hj)))]
    rfl
  have hany : anyN i (fun j => decide ((l.getD j default).rank = (l.getD i default).rank) && conB (l.getD i default) (l.getD j default)) = anyN i (fun j => clashB (l.getD j default) (l.getD i default)) := by
    rw [Bool.eq_iff_iff, anyN_iff, anyN_iff]
    constructor
    · rintro ⟨k, hk, e⟩; exact ⟨k, hk, by rw [← hj k hk]; exact e⟩
    · rintro ⟨k, hk, e⟩; exact ⟨k, hk, by rw [hj k hk]; exact e⟩
  rw [anyN_succ, hany, conB_eq hu, other_self hu]
  unfold clashAt
  cases againstB (l.getD i default) (l.getD i default) <;> cases anyN i (fun j => clashB (l.getD j default) (l.getD i default)) <;> simp
def goodLcks (l : List Lck) : Prop := smallL l ∧ ∀ i, i < l.length → smallK2 (l.getD i default)
set_option maxHeartbeats 1000000 in
theorem ac_interlock_one (s : Sco) (l : List Lck) (i : Nat) (hs : smallS s) (hl : goodLcks l) (hi : i < l.length) (hp : ∀ j, j < i → oneE s l j = 0) : AC Tryz.prog 37 [.pv (.agg (cSco s)), .pv (roL 16 cLck l), .pv (vint i)] [] (.pv (vint (oneE s l i))) [] := by
  have hl2 : l.length ≤ 1048576 := hl.1
  have hx := hl.2 i hi
  have hcc := clash_con hp
  rw [oneE_eq]
  have fin0 : ∀ n, headE s l i = n → n ≠ 0 → PSub (vint n) (vint (if headE s l i ≠ 0 then headE s l i else if clashAt l i = true then 14 else 0)) := fun n e hn => PSub.int (by rw [if_pos (by rw [e]; exact hn), e])
  refine AC.of_awp (T := T) T_ok hm Tryz.call37 Tryz.func37 rfl rfl rfl ?_
  conv => whnf
  repeat (any_goals (first
    | (refine ⟨fun (h : (_ : Bool) = true) => ?_, fun (h : (_ : Bool) = false) => ?_⟩ <;> (try simp only [decide_eq_true_eq, decide_eq_false_iff_not, Bool.not_eq_true', Bool.not_eq_false', Int.toNat_natCast, beq_iff_eq, decide_eq_decide, beq_eq_false_iff_ne, ne_eq, reduceCtorEq] at h) <;> (conv => whnf))
    | (refine .inl ⟨_, ac_names_Valid (l.getD i default).name, ?_⟩; conv => whnf)
    | (refine And.intro (by (try simp only [Int.toNat_natCast]); omega) ?_; conv => whnf)
    | (refine And.intro (show (_ : Bool) = true from by kernel_rfl) ?_; conv => whnf)
    | (refine .inl ⟨wrap64 (by omega), ?_⟩; conv => whnf)))
  · exact fin0 10 (by unfold headE; rw [if_pos h]) (by decide)
  have hv := h
  refine loop_k (ι := Nat) [1, 2, 3, 7, 26, 27] [3, 7] (fun k => k ≤ i ∧ (∀ j, j < k → decide ((l.getD j default).name = (l.getD i default).name) = false)) (fun k => i - k) 0 (fun k => [(28, .pv (vint k))]) (fun _ => []) [] ⟨Nat.zero_le _, fun j h => absurd h (by omega)⟩ ?_ (fun k hk => ?_)
  · (repeat' (first | exact PSub.rfl | exact rfl | exact PSubs.rfl | exact trivial | exact PSub.lit_sb rfl | refine And.intro ?_ ?_))
  obtain ⟨hkn, hinv⟩ := hk
  conv => whnf
  refine ⟨fun h => ?_, fun h => ?_⟩ <;> (try simp only [decide_eq_true_eq, decide_eq_false_iff_not, Bool.not_eq_true', Bool.not_eq_false', Int.toNat_natCast, beq_iff_eq, decide_eq_decide, beq_eq_false_iff_ne, ne_eq, reduceCtorEq] at h) <;> (conv => whnf)
  · repeat (any_goals (first
      | (refine ⟨fun (h : (_ : Bool) = true) => ?_, fun (h : (_ : Bool) = false) => ?_⟩ <;> (try simp only [decide_eq_true_eq, decide_eq_false_iff_not, Bool.not_eq_true', Bool.not_eq_false', Int.toNat_natCast, beq_iff_eq, decide_eq_decide, beq_eq_false_iff_ne, ne_eq, reduceCtorEq] at h) <;> (conv => whnf))
      | (refine And.intro (by (try simp only [Int.toNat_natCast]); omega) ?_; conv => whnf)
      | (refine And.intro (show (_ : Bool) = true from by kernel_rfl) ?_; conv => whnf)
      | (refine .inl ⟨wrap64 (by omega), ?_⟩; conv => whnf)))
    · refine fin0 9 ?_ (by decide)
      unfold headE
      rw [if_neg (by rw [hv]; decide), if_pos (anyN_true (k := k) (by omega) (decide_eq_true h))]
    · refine ⟨k + 1, [], ⟨by omega, ?_⟩, by first | omega | (dsimp only; omega), ?_⟩
      rotate_left
      · (repeat' (first | exact PSub.rfl | exact rfl | exact PSubs.rfl | exact trivial | exact PSub.lit_sb rfl | refine And.intro ?_ ?_))
      intro j hj
      by_cases e : j = k
      · subst e; exact decide_eq_false h
      · exact hinv j (by omega)
  have hn : anyN i (fun j => decide ((l.getD j default).name = (l.getD i default).name)) = false := anyN_false fun j hj => hinv j (by omega)
  have hd : headE s l i = if (l.getD i default).rank < 0 ∨ 100 < (l.getD i default).rank then 2
      else if whenE s (l.getD i default).cond ≠ 0 then whenE s (l.getD i default).cond
      else if 256 < (l.getD i default).force.length ∨ 256 < (l.getD i default).forbid.length then 3
      else itemsE s.home (l.getD i default) := by
    unfold headE
    rw [if_neg (by rw [hv]; decide), if_neg (by rw [hn]; decide)]
  clear hinv h hv hn hkn
  repeat (any_goals (first
    | (refine ⟨fun (h : (_ : Bool) = true) => ?_, fun (h : (_ : Bool) = false) => ?_⟩ <;> (try simp only [decide_eq_true_eq, decide_eq_false_iff_not, Bool.not_eq_true', Bool.not_eq_false', Int.toNat_natCast, beq_iff_eq, decide_eq_decide, beq_eq_false_iff_ne, ne_eq, reduceCtorEq] at h) <;> (conv => whnf))
    | (refine .inl ⟨_, ac_typing_Expr s (l.getD i default).cond hs, ?_⟩; conv => whnf)
    | (refine .inl ⟨_, ac_interlock_hazard s.home (l.getD i default).cond hs.1 (exprK_ok (by assumption)), ?_⟩; conv => whnf)
    | (refine .inl ⟨_, ac_interlock_force s.home (l.getD i default).force hs.1 hx.1, ?_⟩; conv => whnf)
    | (refine .inl ⟨_, ac_interlock_forbid s.home (l.getD i default).forbid hs.1 hx.2.1, ?_⟩; conv => whnf)
    | (refine And.intro (by (try simp only [Int.toNat_natCast]); omega) ?_; conv => whnf)
    | (refine And.intro (show (_ : Bool) = true from by kernel_rfl) ?_; conv => whnf)
    | (refine .inl ⟨wrap64 (by omega), ?_⟩; conv => whnf)))
  · exact fin0 2 (by rw [hd, if_pos (.inl h)]) (by decide)
  · exact fin0 2 (by rw [hd, if_pos (.inr h)]) (by decide)
  · rename_i g1 g2
    have hw : whenE s (l.getD i default).cond = (exprK s (l.getD i default).cond).2 := by unfold whenE; rw [if_pos h]
    exact fin0 _ (by rw [hd, if_neg (by omega), if_pos (by rw [hw]; exact h), hw]) h
  · rename_i g1 g2 g3
    have hw : whenE s (l.getD i default).cond = 11 := by unfold whenE; rw [if_neg (fun x => x g3), if_pos h]
    exact fin0 11 (by rw [hd, if_neg (by omega), if_pos (by rw [hw]; decide), hw]) (by decide)
  · rename_i g1 g2 g3 g4
    have hw : whenE s (l.getD i default).cond = 19 := by unfold whenE; rw [if_neg (fun x => x g3), if_neg (fun x => x g4), if_pos h]
    exact fin0 19 (by rw [hd, if_neg (by omega), if_pos (by rw [hw]; decide), hw]) (by decide)
  · rename_i g1 g2 g3 g4 g5
    have hw : whenE s (l.getD i default).cond = 0 := by unfold whenE; rw [if_neg (fun x => x g3), if_neg (fun x => x g4), if_neg (by rw [g5]; decide)]
    exact fin0 3 (by rw [hd, if_neg (by omega), if_neg (by rw [hw]; decide), if_pos (.inl (by omega))]) (by decide)
  · rename_i g1 g2 g3 g4 g5 g6
    have hw : whenE s (l.getD i default).cond = 0 := by unfold whenE; rw [if_neg (fun x => x g3), if_neg (fun x => x g4), if_neg (by rw [g5]; decide)]
    exact fin0 3 (by rw [hd, if_neg (by omega), if_neg (by rw [hw]; decide), if_pos (.inr (by omega))]) (by decide)
  · rename_i g1 g2 g3 g4 g5 g6 g7
    have hw : whenE s (l.getD i default).cond = 0 := by unfold whenE; rw [if_neg (fun x => x g3), if_neg (fun x => x g4), if_neg (by rw [g5]; decide)]
    exact fin0 _ (by rw [hd, if_neg (by omega), if_neg (by rw [hw]; decide), if_neg (by omega)]; unfold itemsE; rw [if_pos h]) h
  · rename_i g1 g2 g3 g4 g5 g6 g7 g8
    have hw : whenE s (l.getD i default).cond = 0 := by unfold whenE; rw [if_neg (fun x => x g3), if_neg (fun x => x g4), if_neg (by rw [g5]; decide)]
    exact fin0 _ (by rw [hd, if_neg (by omega), if_neg (by rw [hw]; decide), if_neg (by omega)]; unfold itemsE; rw [if_neg (fun x => x g8)]) h
  · rename_i g1 g2 g3 g4 g5 g6 g7 g8
    have hw : whenE s (l.getD i default).cond = 0 := by unfold whenE; rw [if_neg (fun x => x g3), if_neg (fun x => x g4), if_neg (by rw [g5]; decide)]
    have h0 : headE s l i = 0 := by
      rw [hd, if_neg (by omega), if_neg (by rw [hw]; decide), if_neg (by omega)]; unfold itemsE; rw [if_neg (fun x => x g8)]; exact h
    have hc := hcc h0
    rw [if_neg (by rw [h0]; decide), ← hc]
    clear hcc hd fin0 hw g1 g2 g3 g4 g5 g6 g7 g8 h
    refine loop_k (ι := Nat) [7, 92, 93] [7] (fun k => k ≤ i + 1 ∧ (∀ j, j < k → (decide ((l.getD j default).rank = (l.getD i default).rank) && conB (l.getD i default) (l.getD j default)) = false)) (fun k => i + 1 - k) 0 (fun k => [(94, .pv (vint k))]) (fun _ => []) [] ⟨Nat.zero_le _, fun j h => absurd h (by omega)⟩ ?_ (fun k hk => ?_)
    · (repeat' (first | exact PSub.rfl | exact rfl | exact PSubs.rfl | exact trivial | exact PSub.lit_sb rfl | refine And.intro ?_ ?_))
    obtain ⟨hkn, hinv⟩ := hk
    conv => whnf
    have hik : ((i : Int) + 1).toNat = i + 1 := by omega
    rw [hik]
    refine ⟨fun h => ?_, fun h => ?_⟩ <;> (try simp only [decide_eq_true_eq, decide_eq_false_iff_not, Bool.not_eq_true', Bool.not_eq_false', Int.toNat_natCast, beq_iff_eq, decide_eq_decide, beq_eq_false_iff_ne, ne_eq, reduceCtorEq] at h) <;> (conv => whnf)
    · have hk : k < i + 1 := by omega
      repeat (any_goals (first
        | (refine ⟨fun (h : (_ : Bool) = true) => ?_, fun (h : (_ : Bool) = false) => ?_⟩ <;> (try simp only [decide_eq_true_eq, decide_eq_false_iff_not, Bool.not_eq_true', Bool.not_eq_false', Int.toNat_natCast, beq_iff_eq, decide_eq_decide, beq_eq_false_iff_ne, ne_eq, reduceCtorEq] at h) <;> (conv => whnf))
        | (refine .inl ⟨_, ac_interlock_contradict (l.getD i default) (l.getD k default) hx (hl.2 k (by omega)), ?_⟩; conv => whnf)
        | (refine And.intro (by (try simp only [Int.toNat_natCast]); omega) ?_; conv => whnf)
        | (refine And.intro (show (_ : Bool) = true from by kernel_rfl) ?_; conv => whnf)
        | (refine .inl ⟨wrap64 (by omega), ?_⟩; conv => whnf)))
      · rename_i h1
        exact PSub.int (by rw [if_pos (anyN_true (k := k) hk (by rw [decide_eq_true h1, h]; rfl))])
      · rename_i h1
        refine ⟨k + 1, [], ⟨by omega, ?_⟩, by first | omega | (dsimp only; omega), ?_⟩
        rotate_left
        · (repeat' (first | exact PSub.rfl | exact rfl | exact PSubs.rfl | exact trivial | exact PSub.lit_sb rfl | refine And.intro ?_ ?_))
        intro j hj
        by_cases e : j = k
        · subst e; rw [h, Bool.and_false]
        · exact hinv j (by omega)
      · refine ⟨k + 1, [], ⟨by omega, ?_⟩, by first | omega | (dsimp only; omega), ?_⟩
        rotate_left
        · (repeat' (first | exact PSub.rfl | exact rfl | exact PSubs.rfl | exact trivial | exact PSub.lit_sb rfl | refine And.intro ?_ ?_))
        intro j hj
        by_cases e : j = k
        · subst e; rw [decide_eq_false h]; rfl
        · exact hinv j (by omega)
    · exact PSub.int (by rw [if_neg (by rw [anyN_false fun j hj => hinv j (by omega)]; decide)])
theorem ac_interlock_Check (s : Sco) (l : List Lck) (hs : smallS s) (hl : goodLcks l) : AC Tryz.prog 14 [.pv (.agg (cSco s)), .pv (roL 16 cLck l)] [] (.pv (vint (locksE s l))) [] := by
  have hl2 : l.length ≤ 1048576 := hl.1
  refine AC.of_awp (T := T) T_ok hm Tryz.call14 Tryz.func14 rfl rfl rfl ?_
  conv => whnf
  repeat (any_goals (first
    | (refine ⟨fun (h : (_ : Bool) = true) => ?_, fun (h : (_ : Bool) = false) => ?_⟩ <;> (try simp only [decide_eq_true_eq, decide_eq_false_iff_not, Bool.not_eq_true', Bool.not_eq_false', Int.toNat_natCast, beq_iff_eq, decide_eq_decide, beq_eq_false_iff_ne, ne_eq, reduceCtorEq] at h) <;> (conv => whnf))
    | (refine .inl ⟨_, ac_typing_Check s hs, ?_⟩; conv => whnf)
    | (refine And.intro (by (try simp only [Int.toNat_natCast]); omega) ?_; conv => whnf)
    | (refine And.intro (show (_ : Bool) = true from by kernel_rfl) ?_; conv => whnf)
    | (refine .inl ⟨wrap64 (by omega), ?_⟩; conv => whnf)))
  · exact PSub.int (by unfold locksE; rw [if_pos h])
  · rename_i h1
    exact PSub.int (by unfold locksE; rw [if_neg (fun x => x h1), if_pos (by omega)])
  · rename_i h1
    have hd : locksE s l = firstE l.length (oneE s l) := by unfold locksE; rw [if_neg (fun x => x h1), if_neg (by omega)]
    rw [hd]
    clear hd h1 h
    refine loop_k (ι := Nat) [1, 2, 17] [2] (fun k => k ≤ l.length ∧ (∀ j, j < k → oneE s l j = 0)) (fun k => l.length - k) 0 (fun k => [(18, .pv (vint k))]) (fun _ => []) [] ⟨Nat.zero_le _, fun j h => absurd h (by omega)⟩ ?_ (fun k hk => ?_)
    · (repeat' (first | exact PSub.rfl | exact rfl | exact PSubs.rfl | exact trivial | exact PSub.lit_sb rfl | refine And.intro ?_ ?_))
    obtain ⟨hkn, hinv⟩ := hk
    conv => whnf
    refine ⟨fun h => ?_, fun h => ?_⟩ <;> (try simp only [decide_eq_true_eq, decide_eq_false_iff_not, Bool.not_eq_true', Bool.not_eq_false', Int.toNat_natCast, beq_iff_eq, decide_eq_decide, beq_eq_false_iff_ne, ne_eq, reduceCtorEq] at h) <;> (conv => whnf)
    · have hk : k < l.length := by omega
      repeat (any_goals (first
        | (refine ⟨fun (h : (_ : Bool) = true) => ?_, fun (h : (_ : Bool) = false) => ?_⟩ <;> (try simp only [decide_eq_true_eq, decide_eq_false_iff_not, Bool.not_eq_true', Bool.not_eq_false', Int.toNat_natCast, beq_iff_eq, decide_eq_decide, beq_eq_false_iff_ne, ne_eq, reduceCtorEq] at h) <;> (conv => whnf))
        | (refine .inl ⟨_, ac_interlock_one s l k hs hl hk hinv, ?_⟩; conv => whnf)
        | (refine And.intro (by (try simp only [Int.toNat_natCast]); omega) ?_; conv => whnf)
        | (refine And.intro (show (_ : Bool) = true from by kernel_rfl) ?_; conv => whnf)
        | (refine .inl ⟨wrap64 (by omega), ?_⟩; conv => whnf)))
      · exact PSub.int (by rw [firstE_at hk h hinv])
      · refine ⟨k + 1, [], ⟨by omega, ?_⟩, by first | omega | (dsimp only; omega), ?_⟩
        rotate_left
        · (repeat' (first | exact PSub.rfl | exact rfl | exact PSubs.rfl | exact trivial | exact PSub.lit_sb rfl | refine And.intro ?_ ?_))
        intro j hj
        by_cases e : j = k
        · subst e; exact h
        · exact hinv j (by omega)
    · exact PSub.int (by rw [firstE_none fun j hj => hinv j (by omega)])
end Go.Abs

namespace Go.Abs
open Go.Proofs
set_option maxRecDepth 10000
theorem wrapU {n : Int} (h : 0 ≤ n ∧ n ≤ 18446744073709551615) : IntKind.wrap .u64 n = n := IntWalk.u64_in n h
def smallV (n : Int) : Prop := -1099511627776 ≤ n ∧ n ≤ 1099511627776
theorem ac_num_limit (b : Bool) : AC Tryz.prog 164 [.pv (vbool b)] [] (.pv (vint (if b = true then -1099511627776 else 1099511627776))) [] := by
  refine AC.of_awp (T := T) T_ok hm Tryz.call164 Tryz.func164 rfl rfl rfl ?_
  conv => whnf
  repeat (any_goals (first
    | (refine ⟨fun (h : (_ : Bool) = true) => ?_, fun (h : (_ : Bool) = false) => ?_⟩ <;> (try simp only [decide_eq_true_eq, decide_eq_false_iff_not, Bool.not_eq_true', Bool.not_eq_false', Int.toNat_natCast, beq_iff_eq, decide_eq_decide, beq_eq_false_iff_ne, ne_eq, reduceCtorEq] at h) <;> (conv => whnf))
    | (refine And.intro (by (try simp only [Int.toNat_natCast]); omega) ?_; conv => whnf)
    | (refine And.intro (show (_ : Bool) = true from by kernel_rfl) ?_; conv => whnf)
    | (refine .inl ⟨wrap64 (by omega), ?_⟩; conv => whnf)))
  · subst h; exact PSub.rfl
  · subst h; exact PSub.rfl
theorem ac_num_Sub (a b : Int) (ha : smallN a) (hb : smallN b) : AC Tryz.prog 122 [.pv (vint a), .pv (vint b)] [] (.pv (vint (satI (a - b)))) [] := by
  obtain ⟨h1, h2⟩ := ha
  obtain ⟨h3, h4⟩ := hb
  refine AC.of_awp (T := T) T_ok hm Tryz.call122 Tryz.func122 rfl rfl rfl ?_
  conv => whnf
  refine .inl ⟨wrap64 (by omega), ?_⟩
  conv => whnf
  repeat (any_goals (first
    | (refine ⟨fun (h : (_ : Bool) = true) => ?_, fun (h : (_ : Bool) = false) => ?_⟩ <;> (try simp only [decide_eq_true_eq, decide_eq_false_iff_not, Bool.not_eq_true', Bool.not_eq_false', Int.toNat_natCast, beq_iff_eq, decide_eq_decide, beq_eq_false_iff_ne, ne_eq, reduceCtorEq] at h) <;> (conv => whnf))
    | (refine .inl ⟨_, ac_num_Sat (a - b), ?_⟩; conv => whnf)
    | (refine .inl ⟨_, ac_num_limit (decide (a < 0)), ?_⟩; conv => whnf)
    | (refine And.intro (by (try simp only [Int.toNat_natCast]); omega) ?_; conv => whnf)
    | (refine And.intro (show (_ : Bool) = true from by kernel_rfl) ?_; conv => whnf)
    | (refine .inl ⟨wrap64 (by omega), ?_⟩; conv => whnf)))
  all_goals (try simp only [decide_eq_true_eq, decide_eq_false_iff_not, Bool.not_eq_true', Bool.not_eq_false', Int.toNat_natCast, beq_iff_eq, decide_eq_decide, beq_eq_false_iff_ne, ne_eq, reduceCtorEq] at *)
  all_goals first
    | contradiction
    | (exfalso; omega)
    | exact PSub.rfl
    | (refine PSub.int ?_; simp only [satI]; (repeat' split) <;> first | rfl | omega | (simp_all [-List.getD_eq_getElem?_getD]; done) | (simp_all [-List.getD_eq_getElem?_getD]; omega))
    | (refine PSub.sb ?_; simp_all [satI, -List.getD_eq_getElem?_getD]; done)
    | (refine PSub.lit_sb ?_; simp_all [satI, -List.getD_eq_getElem?_getD]; done)
    | (refine PSub.sb_lit ?_; simp_all [satI, -List.getD_eq_getElem?_getD]; done)
    | (refine PSub.sb ?_; rw [Bool.eq_iff_iff]; simp_all [satI, -List.getD_eq_getElem?_getD]; done)
    | (refine PSub.lit_sb ?_; rw [Bool.eq_iff_iff]; simp_all [satI, -List.getD_eq_getElem?_getD]; done)
    | (refine PSub.sb_lit ?_; rw [Bool.eq_iff_iff]; simp_all [satI, -List.getD_eq_getElem?_getD]; done)
    | skip
theorem ac_num_size (n : Int) (h : smallV n) : AC Tryz.prog 168 [.pv (vint n)] [] (.pv (.val (.int .u64 (sizeU n)))) [] := by
  obtain ⟨h1, h2⟩ := h
  have e0 (x : Int) (h : 0 ≤ x ∧ x ≤ 9223372036854775807) : IntKind.i64.wrap x = x := wrap64 (by omega)
  refine AC.of_awp (T := T) T_ok hm Tryz.call168 Tryz.func168 rfl rfl rfl ?_
  conv => whnf
  repeat (any_goals (first
    | (refine ⟨fun (h : (_ : Bool) = true) => ?_, fun (h : (_ : Bool) = false) => ?_⟩ <;> (try simp only [decide_eq_true_eq, decide_eq_false_iff_not, Bool.not_eq_true', Bool.not_eq_false', Int.toNat_natCast, beq_iff_eq, decide_eq_decide, beq_eq_false_iff_ne, ne_eq, reduceCtorEq] at h) <;> (conv => whnf))
    | (refine And.intro (by (try simp only [Int.toNat_natCast]); omega) ?_; conv => whnf)
    | (refine And.intro (show (_ : Bool) = true from by kernel_rfl) ?_; conv => whnf)
    | (refine .inl ⟨wrap64 (by omega), ?_⟩; conv => whnf)))
  · rw [e0 (0 - (n + 1)) (by omega), wrapU (n := 0 - (n + 1)) (by omega)]
    refine .inl ⟨wrapU (by omega), ?_⟩
    conv => whnf
    refine PSub.int ?_
    unfold sizeU
    rw [if_pos (by omega)]
    omega
  · rw [wrapU (by omega)]
    refine PSub.int ?_
    unfold sizeU
    rw [if_neg (by omega)]
theorem ac_num_times (a b : Int) (ha : 0 ≤ a ∧ a ≤ 1099511627776) (hb : 0 ≤ b ∧ b ≤ 1099511627776) : AC Tryz.prog 167 [.pv (.val (.int .u64 a)), .pv (.val (.int .u64 b))] [] (.pv (.val (.int .u64 (timesU a b)))) [] := by
  have hq : 0 ≤ (1099511627776 : Int).tdiv b ∧ (1099511627776 : Int).tdiv b ≤ 1099511627776 := by
    rw [Int.tdiv_eq_ediv_of_nonneg (by omega)]
    exact ⟨Int.ediv_nonneg (by omega) hb.1, Int.ediv_le_self _ (by omega)⟩
  have hmm : ¬ (b ≠ 0 ∧ (1099511627776 : Int).tdiv b < a) → 0 ≤ a * b ∧ a * b ≤ 18446744073709551615 := fun h => by
    refine ⟨Int.mul_nonneg ha.1 hb.1, ?_⟩
    by_cases hb0 : b = 0
    · subst hb0; omega
    · have h1 : a ≤ (1099511627776 : Int).tdiv b := by
        rcases Int.lt_or_le ((1099511627776 : Int).tdiv b) a with h2 | h2
        · exact absurd ⟨hb0, h2⟩ h
        · exact h2
      rw [Int.tdiv_eq_ediv_of_nonneg (by omega)] at h1
      have h2 := (Int.le_ediv_iff_mul_le (by omega)).1 h1
      omega
  refine AC.of_awp (T := T) T_ok hm Tryz.call167 Tryz.func167 rfl rfl rfl ?_
  conv => whnf
  repeat (any_goals (first
    | (refine ⟨fun (h : (_ : Bool) = true) => ?_, fun (h : (_ : Bool) = false) => ?_⟩ <;> (try simp only [decide_eq_true_eq, decide_eq_false_iff_not, Bool.not_eq_true', Bool.not_eq_false', Int.toNat_natCast, beq_iff_eq, decide_eq_decide, beq_eq_false_iff_ne, ne_eq, reduceCtorEq] at h) <;> (conv => whnf))
    | (refine And.intro (by (try simp only [Int.toNat_natCast]); omega) ?_; conv => whnf)
    | (refine And.intro (show (_ : Bool) = true from by kernel_rfl) ?_; conv => whnf)
    | (refine .inl ⟨wrap64 (by omega), ?_⟩; conv => whnf)))
  all_goals first
    | (refine .inl ⟨wrapU (by omega), ?_⟩; conv => whnf)
    | (subst h; refine .inl ⟨wrapU (hmm (by simp)), ?_⟩; conv => whnf)
  repeat (any_goals (first
    | (refine ⟨fun (h : (_ : Bool) = true) => ?_, fun (h : (_ : Bool) = false) => ?_⟩ <;> (try simp only [decide_eq_true_eq, decide_eq_false_iff_not, Bool.not_eq_true', Bool.not_eq_false', Int.toNat_natCast, beq_iff_eq, decide_eq_decide, beq_eq_false_iff_ne, ne_eq, reduceCtorEq] at h) <;> (conv => whnf))
    | (refine And.intro (by (try simp only [Int.toNat_natCast]); omega) ?_; conv => whnf)
    | (refine And.intro (show (_ : Bool) = true from by kernel_rfl) ?_; conv => whnf)
    | (refine .inl ⟨wrap64 (by omega), ?_⟩; conv => whnf)))
  · refine PSub.int ?_
    unfold timesU
    rw [if_pos (by omega)]
  · rename_i h1
    refine .inl ⟨wrapU (hmm (by omega)), ?_⟩
    conv => whnf
    refine PSub.int ?_
    unfold timesU
    rw [if_neg (by omega)]
  · refine PSub.int ?_
    unfold timesU
    rw [if_neg (by omega)]
theorem ac_num_signed (n : Int) (b : Bool) (h : 0 ≤ n ∧ n ≤ 1099511627777) : AC Tryz.prog 166 [.pv (.val (.int .u64 n)), .pv (vbool b)] [] (.pv (vint (signI n b))) [] := by
  have e0 (x : Int) (h : -9223372036854775807 ≤ x ∧ x ≤ 9223372036854775807) : IntKind.i64.wrap x = x := wrap64 (by omega)
  refine AC.of_awp (T := T) T_ok hm Tryz.call166 Tryz.func166 rfl rfl rfl ?_
  conv => whnf
  repeat (any_goals (first
    | (refine ⟨fun (h : (_ : Bool) = true) => ?_, fun (h : (_ : Bool) = false) => ?_⟩ <;> (try simp only [decide_eq_true_eq, decide_eq_false_iff_not, Bool.not_eq_true', Bool.not_eq_false', Int.toNat_natCast, beq_iff_eq, decide_eq_decide, beq_eq_false_iff_ne, ne_eq, reduceCtorEq] at h) <;> (conv => whnf))
    | (refine .inl ⟨_, ac_num_limit b, ?_⟩; conv => whnf)
    | (refine And.intro (by (try simp only [Int.toNat_natCast]); omega) ?_; conv => whnf)
    | (refine And.intro (show (_ : Bool) = true from by kernel_rfl) ?_; conv => whnf)
    | (refine .inl ⟨wrap64 (by omega), ?_⟩; conv => whnf)))
  · rw [show signI n b = if b = true then -1099511627776 else 1099511627776 from by unfold signI; exact if_pos h]
    exact PSub.rfl
  · rename_i h1 h2
    subst h
    rw [e0 n (by omega), e0 (0 - n) (by omega)]
    refine PSub.int ?_
    unfold signI
    rw [if_neg (by omega), if_pos rfl]
    omega
  · subst h
    rw [e0 n (by omega)]
    refine PSub.int ?_
    unfold signI
    rw [if_neg (by omega), if_neg (by simp)]
theorem sizeU_in {n : Int} (h : smallV n) : 0 ≤ sizeU n ∧ sizeU n ≤ 1099511627776 := by
  obtain ⟨h1, h2⟩ := h
  unfold sizeU
  split <;> omega
theorem timesU_in {a b : Int} (ha : 0 ≤ a ∧ a ≤ 1099511627776) (hb : 0 ≤ b ∧ b ≤ 1099511627776) : 0 ≤ timesU a b ∧ timesU a b ≤ 1099511627777 := by
  unfold timesU
  split
  · omega
  · rename_i h
    refine ⟨Int.mul_nonneg ha.1 hb.1, ?_⟩
    by_cases hb0 : b = 0
    · subst hb0; omega
    · have h1 : a ≤ (1099511627776 : Int).tdiv b := by
        rcases Int.lt_or_le ((1099511627776 : Int).tdiv b) a with h2 | h2
        · exact absurd ⟨hb0, h2⟩ h
        · exact h2
      rw [Int.tdiv_eq_ediv_of_nonneg (by omega)] at h1
      have h2 := (Int.le_ediv_iff_mul_le (by omega)).1 h1
      omega
theorem ac_num_Mul (a b : Int) (ha : smallV a) (hb : smallV b) : AC Tryz.prog 123 [.pv (vint a), .pv (vint b)] [] (.pv (vint (mulI a b))) [] := by
  have h1 := sizeU_in ha
  have h2 := sizeU_in hb
  have h3 := timesU_in h1 h2
  refine AC.of_awp (T := T) T_ok hm Tryz.call123 Tryz.func123 rfl rfl rfl ?_
  conv => whnf
  repeat (any_goals (first
    | (refine ⟨fun (h : (_ : Bool) = true) => ?_, fun (h : (_ : Bool) = false) => ?_⟩ <;> (try simp only [decide_eq_true_eq, decide_eq_false_iff_not, Bool.not_eq_true', Bool.not_eq_false', Int.toNat_natCast, beq_iff_eq, decide_eq_decide, beq_eq_false_iff_ne, ne_eq, reduceCtorEq] at h) <;> (conv => whnf))
    | (refine .inl ⟨_, ac_num_size a ha, ?_⟩; conv => whnf)
    | (refine .inl ⟨_, ac_num_size b hb, ?_⟩; conv => whnf)
    | (refine .inl ⟨_, ac_num_times (sizeU a) (sizeU b) h1 h2, ?_⟩; conv => whnf)
    | (refine .inl ⟨_, ac_num_signed (timesU (sizeU a) (sizeU b)) (!(decide (a < 0) == decide (b < 0))) h3, ?_⟩; conv => whnf)
    | (refine And.intro (by (try simp only [Int.toNat_natCast]); omega) ?_; conv => whnf)
    | (refine And.intro (show (_ : Bool) = true from by kernel_rfl) ?_; conv => whnf)
    | (refine .inl ⟨wrap64 (by omega), ?_⟩; conv => whnf)))
  all_goals exact PSub.rfl
theorem smallV.N {n : Int} (h : smallV n) : smallN n := ⟨by have := h.1; omega, by have := h.2; omega⟩
end Go.Abs

namespace Go.Abs
open Go.Proofs
set_option maxRecDepth 10000
theorem clamp_in (m : Int) : 0 ≤ clampI m 0 1073741824 ∧ clampI m 0 1073741824 ≤ 1073741824 := by
  unfold clampI
  (repeat' split) <;> omega
theorem tdiv_in {a : Int} (h : 0 ≤ a ∧ a ≤ 1073741824) : 0 ≤ a.tdiv 1440 ∧ a.tdiv 1440 ≤ 1073741824 := by
  rw [Int.tdiv_eq_ediv_of_nonneg h.1]
  exact ⟨Int.ediv_nonneg h.1 (by omega), Int.le_trans (Int.ediv_le_self _ h.1) h.2⟩
theorem weekday_in (m : Int) : 0 ≤ weekday m ∧ weekday m ≤ 6 := by
  unfold weekday
  have h := tdiv_in (clamp_in m)
  rw [Int.tmod_eq_emod_of_nonneg (by omega)]
  omega
theorem ac_clock_valid (m : Int) : AC Tryz.prog 119 [.pv (vint m)] [] (.pv (vint (clampI m 0 1073741824))) [] := by
  refine AC.of_awp (T := T) T_ok hm Tryz.call119 Tryz.func119 rfl rfl rfl ?_
  conv => whnf
  repeat (any_goals (first
    | (refine ⟨fun (h : (_ : Bool) = true) => ?_, fun (h : (_ : Bool) = false) => ?_⟩ <;> (try simp only [decide_eq_true_eq, decide_eq_false_iff_not, Bool.not_eq_true', Bool.not_eq_false', Int.toNat_natCast, beq_iff_eq, decide_eq_decide, beq_eq_false_iff_ne, ne_eq, reduceCtorEq] at h) <;> (conv => whnf))
    | (refine .inl ⟨_, ac_num_Clamp m 0 1073741824, ?_⟩; conv => whnf)
    | (refine And.intro (by (try simp only [Int.toNat_natCast]); omega) ?_; conv => whnf)
    | (refine And.intro (show (_ : Bool) = true from by kernel_rfl) ?_; conv => whnf)
    | (refine .inl ⟨wrap64 (by omega), ?_⟩; conv => whnf)))
  all_goals exact PSub.rfl
theorem ac_clock_OfDay (m : Int) : AC Tryz.prog 81 [.pv (vint m)] [] (.pv (vint (ofDay m))) [] := by
  refine AC.of_awp (T := T) T_ok hm Tryz.call81 Tryz.func81 rfl rfl rfl ?_
  conv => whnf
  repeat (any_goals (first
    | (refine ⟨fun (h : (_ : Bool) = true) => ?_, fun (h : (_ : Bool) = false) => ?_⟩ <;> (try simp only [decide_eq_true_eq, decide_eq_false_iff_not, Bool.not_eq_true', Bool.not_eq_false', Int.toNat_natCast, beq_iff_eq, decide_eq_decide, beq_eq_false_iff_ne, ne_eq, reduceCtorEq] at h) <;> (conv => whnf))
    | (refine .inl ⟨_, ac_clock_valid m, ?_⟩; conv => whnf)
    | (refine And.intro (by (try simp only [Int.toNat_natCast]); omega) ?_; conv => whnf)
    | (refine And.intro (show (_ : Bool) = true from by kernel_rfl) ?_; conv => whnf)
    | (refine .inl ⟨wrap64 (by omega), ?_⟩; conv => whnf)))
  all_goals exact PSub.rfl
theorem ac_clock_Weekday (m : Int) : AC Tryz.prog 82 [.pv (vint m)] [] (.pv (vint (weekday m))) [] := by
  have hc := clamp_in m
  have hd := tdiv_in hc
  refine AC.of_awp (T := T) T_ok hm Tryz.call82 Tryz.func82 rfl rfl rfl ?_
  conv => whnf
  repeat (any_goals (first
    | (refine ⟨fun (h : (_ : Bool) = true) => ?_, fun (h : (_ : Bool) = false) => ?_⟩ <;> (try simp only [decide_eq_true_eq, decide_eq_false_iff_not, Bool.not_eq_true', Bool.not_eq_false', Int.toNat_natCast, beq_iff_eq, decide_eq_decide, beq_eq_false_iff_ne, ne_eq, reduceCtorEq] at h) <;> (conv => whnf))
    | (refine .inl ⟨_, ac_clock_valid m, ?_⟩; conv => whnf)
    | (refine And.intro (by (try simp only [Int.toNat_natCast]); omega) ?_; conv => whnf)
    | (refine And.intro (show (_ : Bool) = true from by kernel_rfl) ?_; conv => whnf)
    | (refine .inl ⟨wrap64 (by omega), ?_⟩; conv => whnf)))
  all_goals exact PSub.rfl
theorem ac_eval_truth (b : Bool) : AC Tryz.prog 79 [.pv (vbool b)] [] (.pv (.tup [.agg (cVal (truV b)), vbool true])) [] := by
  refine AC.of_awp (T := T) T_ok hm Tryz.call79 Tryz.func79 rfl rfl rfl ?_
  conv => whnf
  repeat (any_goals (first
    | (refine ⟨fun (h : (_ : Bool) = true) => ?_, fun (h : (_ : Bool) = false) => ?_⟩ <;> (try simp only [decide_eq_true_eq, decide_eq_false_iff_not, Bool.not_eq_true', Bool.not_eq_false', Int.toNat_natCast, beq_iff_eq, decide_eq_decide, beq_eq_false_iff_ne, ne_eq, reduceCtorEq] at h) <;> (conv => whnf))
    | (refine And.intro (by (try simp only [Int.toNat_natCast]); omega) ?_; conv => whnf)
    | (refine And.intro (show (_ : Bool) = true from by kernel_rfl) ?_; conv => whnf)
    | (refine .inl ⟨wrap64 (by omega), ?_⟩; conv => whnf)))
  · subst h
    refine ⟨?_, ?_⟩ <;> (conv => whnf)
    · repeat' (first | exact PSub.rfl | exact PSub.nil_ro _ _ | exact PSub.lit_sb rfl | exact trivial | exact all_lt_zero | refine PSub.agg ?_ | refine PSub.ro rfl ?_ | refine all_lt_succ ?_ ?_ | refine And.intro ?_ ?_)
    · repeat' (first | exact PSub.rfl | exact PSub.nil_ro _ _ | exact PSub.lit_sb rfl | exact trivial | exact all_lt_zero | refine PSub.agg ?_ | refine PSub.ro rfl ?_ | refine all_lt_succ ?_ ?_ | refine And.intro ?_ ?_)
  · subst h
    refine ⟨?_, ?_⟩ <;> (conv => whnf)
    · repeat' (first | exact PSub.rfl | exact PSub.nil_ro _ _ | exact PSub.lit_sb rfl | exact trivial | exact all_lt_zero | refine PSub.agg ?_ | refine PSub.ro rfl ?_ | refine all_lt_succ ?_ ?_ | refine And.intro ?_ ?_)
    · repeat' (first | exact PSub.rfl | exact PSub.nil_ro _ _ | exact PSub.lit_sb rfl | exact trivial | exact all_lt_zero | refine PSub.agg ?_ | refine PSub.ro rfl ?_ | refine all_lt_succ ?_ ?_ | refine And.intro ?_ ?_)
theorem ac_eval_unknown : AC Tryz.prog 44 [] [] (.pv (.tup [.agg (cVal noVal), vbool false])) [] := by
  refine AC.of_awp (T := T) T_ok hm Tryz.call44 Tryz.func44 rfl rfl rfl ?_
  conv => whnf
  repeat (any_goals (first
    | (refine ⟨fun (h : (_ : Bool) = true) => ?_, fun (h : (_ : Bool) = false) => ?_⟩ <;> (try simp only [decide_eq_true_eq, decide_eq_false_iff_not, Bool.not_eq_true', Bool.not_eq_false', Int.toNat_natCast, beq_iff_eq, decide_eq_decide, beq_eq_false_iff_ne, ne_eq, reduceCtorEq] at h) <;> (conv => whnf))
    | (refine And.intro (by (try simp only [Int.toNat_natCast]); omega) ?_; conv => whnf)
    | (refine And.intro (show (_ : Bool) = true from by kernel_rfl) ?_; conv => whnf)
    | (refine .inl ⟨wrap64 (by omega), ?_⟩; conv => whnf)))
  refine ⟨?_, ?_⟩ <;> (conv => whnf)
  · repeat' (first | exact PSub.rfl | exact PSub.nil_ro _ _ | exact PSub.lit_sb rfl | exact trivial | exact all_lt_zero | refine PSub.agg ?_ | refine PSub.ro rfl ?_ | refine all_lt_succ ?_ ?_ | refine And.intro ?_ ?_)
  · repeat' (first | exact PSub.rfl | exact PSub.nil_ro _ _ | exact PSub.lit_sb rfl | exact trivial | exact all_lt_zero | refine PSub.agg ?_ | refine PSub.ro rfl ?_ | refine all_lt_succ ?_ ?_ | refine And.intro ?_ ?_)
theorem ac_eval_during (t a b : Int) : AC Tryz.prog 80 [.pv (vint t), .pv (vint a), .pv (vint b)] [] (.pv (vbool (within t a b))) [] := by
  refine AC.of_awp (T := T) T_ok hm Tryz.call80 Tryz.func80 rfl rfl rfl ?_
  conv => whnf
  repeat (any_goals (first
    | (refine ⟨fun (h : (_ : Bool) = true) => ?_, fun (h : (_ : Bool) = false) => ?_⟩ <;> (try simp only [decide_eq_true_eq, decide_eq_false_iff_not, Bool.not_eq_true', Bool.not_eq_false', Int.toNat_natCast, beq_iff_eq, decide_eq_decide, beq_eq_false_iff_ne, ne_eq, reduceCtorEq] at h) <;> (conv => whnf))
    | (refine And.intro (by (try simp only [Int.toNat_natCast]); omega) ?_; conv => whnf)
    | (refine And.intro (show (_ : Bool) = true from by kernel_rfl) ?_; conv => whnf)
    | (refine .inl ⟨wrap64 (by omega), ?_⟩; conv => whnf)))
  all_goals first
    | contradiction
    | (exfalso; omega)
    | exact PSub.rfl
    | (refine PSub.lit_sb ?_; (first | (simp [within, *]; done) | (simp_all [within]; done) | ((try simp only [within]); (repeat' split) <;> (try simp only [Bool.false_eq, Bool.true_eq, Bool.and_eq_false_iff, decide_eq_false_iff_not, Bool.and_eq_true, decide_eq_true_eq, decide_eq_decide]) <;> first | rfl | omega | (simp_all; done) | (simp_all; omega))))
    | (refine PSub.sb ?_; (first | (simp [within, *]; done) | (simp_all [within]; done) | ((try simp only [within]); (repeat' split) <;> (try simp only [Bool.false_eq, Bool.true_eq, Bool.and_eq_false_iff, decide_eq_false_iff_not, Bool.and_eq_true, decide_eq_true_eq, decide_eq_decide]) <;> first | rfl | omega | (simp_all; done) | (simp_all; omega))))
    | (refine PSub.sb_lit ?_; (first | (simp [within, *]; done) | (simp_all [within]; done) | ((try simp only [within]); (repeat' split) <;> (try simp only [Bool.false_eq, Bool.true_eq, Bool.and_eq_false_iff, decide_eq_false_iff_not, Bool.and_eq_true, decide_eq_true_eq, decide_eq_decide]) <;> first | rfl | omega | (simp_all; done) | (simp_all; omega))))
    | (refine PSub.int ?_; (first | (simp [within, *]; done) | (simp_all [within]; done) | ((try simp only [within]); (repeat' split) <;> (try simp only [Bool.false_eq, Bool.true_eq, Bool.and_eq_false_iff, decide_eq_false_iff_not, Bool.and_eq_true, decide_eq_true_eq, decide_eq_decide]) <;> first | rfl | omega | (simp_all; done) | (simp_all; omega))))
    | skip
end Go.Abs

namespace Go.Abs
open Go.Proofs
set_option maxRecDepth 10000
theorem findI_at {l : List Item} {q : Key} {k : Nat} (hk : k < l.length) (h : (l.getD k default).key = q) (hf : ∀ j, j < k → (l.getD j default).key ≠ q) : findI l q = some (l.getD k default) := by
  unfold findI
  rw [List.find?_eq_some_iff_getElem]
  refine ⟨decide_eq_true h, k, hk, (getD_getElem _ _ hk).symm, fun j hj => ?_⟩
  have := hf j hj
  rw [getD_getElem _ _ (show j < l.length by omega)] at this
  simp [this]
theorem findI_no {l : List Item} {q : Key} (hf : ∀ j, j < l.length → (l.getD j default).key ≠ q) : findI l q = none := by
  unfold findI
  rw [List.find?_eq_none]
  intro x hx
  obtain ⟨j, hj, rfl⟩ := List.getElem_of_mem hx
  have := hf j hj
  rw [getD_getElem _ _ hj] at this
  simp [this]
theorem atV_at {l : List Item} {q : Key} {k : Nat} (hk : k < l.length) (h : (l.getD k default).key = q) (hf : ∀ j, j < k → (l.getD j default).key ≠ q) : atV l q = itV (l.getD k default).value := by
  unfold atV
  rw [findI_at hk h hf]
theorem fndV_no {x : Val} (h : x.kind = 0) : fndV x = (noVal, false) := if_pos h
theorem fndV_yes {x : Val} (h : x.kind ≠ 0) : fndV x = (x, true) := if_neg h
theorem fndV_tru (b : Bool) : fndV (truV b) = (truV b, true) := fndV_yes (by simp [truV])
theorem ac_eval_attribute (v : Vw) (q : Key) (hv : smallV2 v) : AC Tryz.prog 78 [.pv (.agg (cVw v)), .pv (.agg (cKey q))] [] (.pv (.tup [.agg (cVal (fndV (atV v.items q)).1), vbool (fndV (atV v.items q)).2])) [] := by
  have hl : v.items.length ≤ 1048576 := hv.1
  refine AC.of_awp (T := T) T_ok hm Tryz.call78 Tryz.func78 rfl rfl rfl ?_
  conv => whnf
  refine loop_k (ι := Nat) [3, 4, 9, 10] [3, 4] (fun k => k ≤ v.items.length ∧ (∀ j, j < k → (v.items.getD j default).key ≠ q)) (fun k => v.items.length - k) 0 (fun k => [(11, .pv (vint k))]) (fun _ => []) [] ⟨Nat.zero_le _, fun j h => absurd h (by omega)⟩ ?_ (fun k hk => ?_)
  · (repeat' (first | exact PSub.rfl | exact rfl | exact PSubs.rfl | exact trivial | exact PSub.lit_sb rfl | refine And.intro ?_ ?_))
  obtain ⟨hkn, hinv⟩ := hk
  conv => whnf
  refine ⟨fun h => ?_, fun h => ?_⟩ <;> (try simp only [decide_eq_true_eq, decide_eq_false_iff_not, Bool.not_eq_true', Bool.not_eq_false', Int.toNat_natCast, beq_iff_eq, decide_eq_decide, beq_eq_false_iff_ne, ne_eq, reduceCtorEq] at h) <;> (conv => whnf)
  · have hk : k < v.items.length := by omega
    repeat (any_goals (first
      | (refine ⟨fun (h : (_ : Bool) = true) => ?_, fun (h : (_ : Bool) = false) => ?_⟩ <;> (try simp only [decide_eq_true_eq, decide_eq_false_iff_not, Bool.not_eq_true', Bool.not_eq_false', Int.toNat_natCast, beq_iff_eq, decide_eq_decide, beq_eq_false_iff_ne, ne_eq, reduceCtorEq] at h) <;> (conv => whnf))
      | (refine .inl ⟨_, ac_value_Check (v.items.getD k default).value, ?_⟩; conv => whnf)
      | (refine .inl ⟨_, ac_eval_unknown, ?_⟩; conv => whnf)
      | (refine And.intro (by (try simp only [Int.toNat_natCast]); omega) ?_; conv => whnf)
      | (refine And.intro (show (_ : Bool) = true from by kernel_rfl) ?_; conv => whnf)
      | (refine .inl ⟨wrap64 (by omega), ?_⟩; conv => whnf)))
    · rename_i h1
      have e1 := of_decide_eq_true ((key_eq _ _).symm.trans h1)
      have e2 : fndV (atV v.items q) = (noVal, false) := by
        rw [atV_at hk e1 hinv]
        refine fndV_no ?_
        unfold itV
        by_cases hb : valE (v.items.getD k default).value ≠ 0
        · rw [if_pos hb]; rfl
        · rw [if_neg hb]; exact h
      rw [e2]
      refine ⟨?_, ?_⟩ <;> (conv => whnf)
      · repeat' (first | exact PSub.rfl | exact PSub.nil_ro _ _ | exact PSub.lit_sb rfl | exact trivial | exact all_lt_zero | refine PSub.agg ?_ | refine PSub.ro rfl ?_ | refine all_lt_succ ?_ ?_ | refine And.intro ?_ ?_)
      · repeat' (first | exact PSub.rfl | exact PSub.nil_ro _ _ | exact PSub.lit_sb rfl | exact trivial | exact all_lt_zero | refine PSub.agg ?_ | refine PSub.ro rfl ?_ | refine all_lt_succ ?_ ?_ | refine And.intro ?_ ?_)
    · rename_i h1 h2
      have e1 := of_decide_eq_true ((key_eq _ _).symm.trans h1)
      have e2 : fndV (atV v.items q) = (noVal, false) := by
        rw [atV_at hk e1 hinv]
        refine fndV_no ?_
        unfold itV
        rw [if_pos h]; rfl
      rw [e2]
      refine ⟨?_, ?_⟩ <;> (conv => whnf)
      · repeat' (first | exact PSub.rfl | exact PSub.nil_ro _ _ | exact PSub.lit_sb rfl | exact trivial | exact all_lt_zero | refine PSub.agg ?_ | refine PSub.ro rfl ?_ | refine all_lt_succ ?_ ?_ | refine And.intro ?_ ?_)
      · repeat' (first | exact PSub.rfl | exact PSub.nil_ro _ _ | exact PSub.lit_sb rfl | exact trivial | exact all_lt_zero | refine PSub.agg ?_ | refine PSub.ro rfl ?_ | refine all_lt_succ ?_ ?_ | refine And.intro ?_ ?_)
    · rename_i h1 h2
      have e1 := of_decide_eq_true ((key_eq _ _).symm.trans h1)
      have e2 : fndV (atV v.items q) = ((v.items.getD k default).value, true) := by
        have hn : ¬ valE (v.items.getD k default).value ≠ 0 := fun x => x h
        rw [atV_at hk e1 hinv]
        unfold itV
        rw [if_neg hn]
        exact fndV_yes h2
      rw [e2]
      refine ⟨?_, ?_⟩ <;> (conv => whnf)
      · repeat' (first | exact PSub.rfl | exact PSub.nil_ro _ _ | exact PSub.lit_sb rfl | exact trivial | exact all_lt_zero | refine PSub.agg ?_ | refine PSub.ro rfl ?_ | refine all_lt_succ ?_ ?_ | refine And.intro ?_ ?_)
      · repeat' (first | exact PSub.rfl | exact PSub.nil_ro _ _ | exact PSub.lit_sb rfl | exact trivial | exact all_lt_zero | refine PSub.agg ?_ | refine PSub.ro rfl ?_ | refine all_lt_succ ?_ ?_ | refine And.intro ?_ ?_)
    · have e1 := of_decide_eq_false ((key_eq _ _).symm.trans h)
      refine ⟨k + 1, [], ⟨by omega, ?_⟩, by first | omega | (dsimp only; omega), ?_⟩
      rotate_left
      · (repeat' (first | exact PSub.rfl | exact rfl | exact PSubs.rfl | exact trivial | exact PSub.lit_sb rfl | refine And.intro ?_ ?_))
      intro j hj
      by_cases e : j = k
      · subst e; exact e1
      · exact hinv j (by omega)
  · repeat (any_goals (first
      | (refine ⟨fun (h : (_ : Bool) = true) => ?_, fun (h : (_ : Bool) = false) => ?_⟩ <;> (try simp only [decide_eq_true_eq, decide_eq_false_iff_not, Bool.not_eq_true', Bool.not_eq_false', Int.toNat_natCast, beq_iff_eq, decide_eq_decide, beq_eq_false_iff_ne, ne_eq, reduceCtorEq] at h) <;> (conv => whnf))
      | (refine .inl ⟨_, ac_eval_unknown, ?_⟩; conv => whnf)
      | (refine And.intro (by (try simp only [Int.toNat_natCast]); omega) ?_; conv => whnf)
      | (refine And.intro (show (_ : Bool) = true from by kernel_rfl) ?_; conv => whnf)
      | (refine .inl ⟨wrap64 (by omega), ?_⟩; conv => whnf)))
    have e2 : fndV (atV v.items q) = (noVal, false) := by
      unfold atV
      rw [findI_no fun j hj => hinv j (by omega)]
      exact fndV_no rfl
    rw [e2]
    refine ⟨?_, ?_⟩ <;> (conv => whnf)
    · repeat' (first | exact PSub.rfl | exact PSub.nil_ro _ _ | exact PSub.lit_sb rfl | exact trivial | exact all_lt_zero | refine PSub.agg ?_ | refine PSub.ro rfl ?_ | refine all_lt_succ ?_ ?_ | refine And.intro ?_ ?_)
    · repeat' (first | exact PSub.rfl | exact PSub.nil_ro _ _ | exact PSub.lit_sb rfl | exact trivial | exact all_lt_zero | refine PSub.agg ?_ | refine PSub.ro rfl ?_ | refine all_lt_succ ?_ ?_ | refine And.intro ?_ ?_)
theorem any_at2 {l : List Mem} {r : Int} {k : Nat} (hk : k < l.length) (h : isHome (l.getD k default) r = true) : homeB l r = true := by
  unfold homeB
  rw [List.any_eq_true]
  rw [getD_getElem _ _ hk] at h
  exact ⟨_, List.getElem_mem hk, h⟩
theorem any_no2 {l : List Mem} {r : Int} (h : ∀ j, j < l.length → isHome (l.getD j default) r = false) : homeB l r = false := by
  unfold homeB
  rw [List.any_eq_false]
  intro x hx
  obtain ⟨j, hj, rfl⟩ := List.getElem_of_mem hx
  have := h j hj
  rw [getD_getElem _ _ hj] at this
  rw [this]; decide
theorem ac_eval_home (l : List Mem) (r : Int) (hl : smallL l) : AC Tryz.prog 83 [.pv (roL 5 cMem l), .pv (vint r)] [] (.pv (vbool (homeB l r))) [] := by
  have hl2 : l.length ≤ 1048576 := hl
  refine AC.of_awp (T := T) T_ok hm Tryz.call83 Tryz.func83 rfl rfl rfl ?_
  conv => whnf
  refine loop_k (ι := Nat) [1, 7, 8] [] (fun k => k ≤ l.length ∧ (∀ j, j < k → isHome (l.getD j default) r = false)) (fun k => l.length - k) 0 (fun k => [(9, .pv (vint k))]) (fun _ => []) [] ⟨Nat.zero_le _, fun j h => absurd h (by omega)⟩ ?_ (fun k hk => ?_)
  · (repeat' (first | exact PSub.rfl | exact rfl | exact PSubs.rfl | exact trivial | exact PSub.lit_sb rfl | refine And.intro ?_ ?_))
  obtain ⟨hkn, hinv⟩ := hk
  conv => whnf
  refine ⟨fun h => ?_, fun h => ?_⟩ <;> (try simp only [decide_eq_true_eq, decide_eq_false_iff_not, Bool.not_eq_true', Bool.not_eq_false', Int.toNat_natCast, beq_iff_eq, decide_eq_decide, beq_eq_false_iff_ne, ne_eq, reduceCtorEq] at h) <;> (conv => whnf)
  · have hk : k < l.length := by omega
    repeat (any_goals (first
      | (refine ⟨fun (h : (_ : Bool) = true) => ?_, fun (h : (_ : Bool) = false) => ?_⟩ <;> (try simp only [decide_eq_true_eq, decide_eq_false_iff_not, Bool.not_eq_true', Bool.not_eq_false', Int.toNat_natCast, beq_iff_eq, decide_eq_decide, beq_eq_false_iff_ne, ne_eq, reduceCtorEq] at h) <;> (conv => whnf))
      | (refine And.intro (by (try simp only [Int.toNat_natCast]); omega) ?_; conv => whnf)
      | (refine And.intro (show (_ : Bool) = true from by kernel_rfl) ?_; conv => whnf)
      | (refine .inl ⟨wrap64 (by omega), ?_⟩; conv => whnf)))
    all_goals first
      | exact PSub.lit_sb (any_at2 hk (by unfold isHome; simp_all)).symm
      | skip
    all_goals (refine ⟨k + 1, [], ⟨by omega, fun j hj => ?_⟩, by omega, ?_⟩)
    all_goals first
      | (by_cases e : j = k; · subst e; unfold isHome; simp_all
         exact hinv j (by omega))
      | skip
    all_goals (repeat' (first | exact PSub.rfl | exact rfl | exact PSubs.rfl | exact trivial | refine And.intro ?_ ?_))
  · exact PSub.lit_sb (any_no2 fun j hj => hinv j (by omega)).symm
end Go.Abs

namespace Go.Abs
open Go.Proofs
set_option maxRecDepth 10000
theorem small_of {v : Val} (h : valE v = 0) (hk : v.kind = 2) : smallV v.n := valE_small h hk
theorem ac_eval_operation (k : Int) (a b : Val) (ha : valE a = 0) (hb : valE b = 0) : AC Tryz.prog 86 [.pv (vint k), .pv (.agg (cVal a)), .pv (.agg (cVal b))] []
    (.pv (.tup [.agg (cVal (fndV (if k = 9 then truV (decide (a = b)) else intV k a b)).1), vbool (fndV (if k = 9 then truV (decide (a = b)) else intV k a b)).2])) [] := by
  have hint : ¬ (a.kind ≠ 2 ∨ b.kind ≠ 2) → smallV a.n ∧ smallV b.n := fun h => ⟨small_of ha (by omega), small_of hb (by omega)⟩
  refine AC.of_awp (T := T) T_ok hm Tryz.call86 Tryz.func86 rfl rfl rfl ?_
  conv => whnf
  have hv := val_eq a b
  have sp : ∀ x, (if k = 9 then truV (decide (a = b)) else intV k a b) = x → x.kind ≠ 0 → fndV (if k = 9 then truV (decide (a = b)) else intV k a b) = (x, true) := fun x e h => by rw [e]; exact fndV_yes h
  repeat (any_goals (first
    | (refine ⟨fun (h : (_ : Bool) = true) => ?_, fun (h : (_ : Bool) = false) => ?_⟩ <;> (try simp only [decide_eq_true_eq, decide_eq_false_iff_not, Bool.not_eq_true', Bool.not_eq_false', Int.toNat_natCast, beq_iff_eq, decide_eq_decide, beq_eq_false_iff_ne, ne_eq, reduceCtorEq] at h) <;> (conv => whnf))
    | (refine .inl ⟨_, ac_eval_truth _, ?_⟩; conv => whnf)
    | (refine .inl ⟨_, ac_eval_unknown, ?_⟩; conv => whnf)
    | (refine .inl ⟨_, ac_num_Add a.n b.n (hint (by omega)).1.N (hint (by omega)).2.N, ?_⟩; conv => whnf)
    | (refine .inl ⟨_, ac_num_Sub a.n b.n (hint (by omega)).1.N (hint (by omega)).2.N, ?_⟩; conv => whnf)
    | (refine .inl ⟨_, ac_num_Mul a.n b.n (hint (by omega)).1 (hint (by omega)).2, ?_⟩; conv => whnf)
    | (refine And.intro (by (try simp only [Int.toNat_natCast]); omega) ?_; conv => whnf)
    | (refine And.intro (show (_ : Bool) = true from by kernel_rfl) ?_; conv => whnf)
    | (refine .inl ⟨wrap64 (by omega), ?_⟩; conv => whnf)))
  · rw [hv, sp (truV (decide (a = b))) (if_pos h) (by simp [truV])]
    refine ⟨?_, ?_⟩ <;> (conv => whnf)
    · exact PSub.rfl
    · exact PSub.rfl
  · rename_i h1
    rw [show fndV (if k = 9 then truV (decide (a = b)) else intV k a b) = (noVal, false) from by rw [if_neg h1]; unfold intV; rw [if_pos (.inl h)]; rfl]
    refine ⟨?_, ?_⟩ <;> (conv => whnf)
    · exact PSub.rfl
    · exact PSub.rfl
  · rename_i h1 h2
    rw [show fndV (if k = 9 then truV (decide (a = b)) else intV k a b) = (noVal, false) from by rw [if_neg h1]; unfold intV; rw [if_pos (.inr h)]; rfl]
    refine ⟨?_, ?_⟩ <;> (conv => whnf)
    · exact PSub.rfl
    · exact PSub.rfl
  · rename_i h1 h2 h3
    rw [sp (truV (decide (a.n < b.n))) (by rw [if_neg h1]; unfold intV; rw [if_neg (by omega), if_pos h]) (by simp [truV])]
    refine ⟨?_, ?_⟩ <;> (conv => whnf)
    · exact PSub.rfl
    · exact PSub.rfl
  · rename_i h1 h2 h3 h4
    rw [sp ⟨2, satI (a.n + b.n), ⟨#[]⟩⟩ (by rw [if_neg h1]; unfold intV; rw [if_neg (by omega), if_neg h4]; unfold binN; rw [if_pos h]) (show (2 : Int) ≠ 0 by decide)]
    refine ⟨?_, ?_⟩ <;> (conv => whnf)
    · repeat' (first | exact PSub.rfl | exact PSub.nil_ro _ _ | exact PSub.lit_sb rfl | exact trivial | exact all_lt_zero | refine PSub.agg ?_ | refine PSub.ro rfl ?_ | refine all_lt_succ ?_ ?_ | refine And.intro ?_ ?_)
    · repeat' (first | exact PSub.rfl | exact PSub.nil_ro _ _ | exact PSub.lit_sb rfl | exact trivial | exact all_lt_zero | refine PSub.agg ?_ | refine PSub.ro rfl ?_ | refine all_lt_succ ?_ ?_ | refine And.intro ?_ ?_)
  · rename_i h1 h2 h3 h4 h5
    rw [sp ⟨2, satI (a.n - b.n), ⟨#[]⟩⟩ (by rw [if_neg h1]; unfold intV; rw [if_neg (by omega), if_neg h4]; unfold binN; rw [if_neg h5, if_pos h]) (show (2 : Int) ≠ 0 by decide)]
    refine ⟨?_, ?_⟩ <;> (conv => whnf)
    · repeat' (first | exact PSub.rfl | exact PSub.nil_ro _ _ | exact PSub.lit_sb rfl | exact trivial | exact all_lt_zero | refine PSub.agg ?_ | refine PSub.ro rfl ?_ | refine all_lt_succ ?_ ?_ | refine And.intro ?_ ?_)
    · repeat' (first | exact PSub.rfl | exact PSub.nil_ro _ _ | exact PSub.lit_sb rfl | exact trivial | exact all_lt_zero | refine PSub.agg ?_ | refine PSub.ro rfl ?_ | refine all_lt_succ ?_ ?_ | refine And.intro ?_ ?_)
  · rename_i h1 h2 h3 h4 h5
    rw [sp ⟨2, mulI a.n b.n, ⟨#[]⟩⟩ (by rw [if_neg h1]; unfold intV; rw [if_neg (by omega), if_neg h4]; unfold binN; rw [if_neg h5, if_neg h]) (show (2 : Int) ≠ 0 by decide)]
    refine ⟨?_, ?_⟩ <;> (conv => whnf)
    · repeat' (first | exact PSub.rfl | exact PSub.nil_ro _ _ | exact PSub.lit_sb rfl | exact trivial | exact all_lt_zero | refine PSub.agg ?_ | refine PSub.ro rfl ?_ | refine all_lt_succ ?_ ?_ | refine And.intro ?_ ?_)
    · repeat' (first | exact PSub.rfl | exact PSub.nil_ro _ _ | exact PSub.lit_sb rfl | exact trivial | exact all_lt_zero | refine PSub.agg ?_ | refine PSub.ro rfl ?_ | refine all_lt_succ ?_ ?_ | refine And.intro ?_ ?_)
theorem range_node {e : Ex} (h : okN e) : (e.kind = 4 → 0 ≤ e.n ∧ e.n < 1440 ∧ 0 ≤ e.m ∧ e.m < 1440) ∧ (e.kind = 5 → 1 ≤ e.n ∧ e.n ≤ 127) := by
  have hn := ((okN_iff e).1 h).1
  have hr : rangeB e = true := by
    cases hb : rangeB e with
    | true => rfl
    | false =>
      unfold nodeE at hn
      rw [hb] at hn
      split at hn
      · cases hn
      · split at hn
        · cases hn
        · rw [if_pos rfl] at hn; cases hn
  constructor
  · intro hk
    unfold rangeB at hr
    rw [if_pos hk] at hr
    exact of_decide_eq_true hr
  · intro hk
    unfold rangeB at hr
    rw [if_neg (by omega), if_pos hk] at hr
    exact of_decide_eq_true hr
theorem kids_len {e : Ex} (h : okN e) : (e.kind = 6 → e.kids.length = 1) ∧ (9 ≤ e.kind ∧ e.kind ≤ 13 → e.kids.length = 2) ∧ (e.kind = 14 → e.kids.length = 3) := by
  have hb := okN_kids h
  unfold kidsB at hb
  refine ⟨fun hk => ?_, fun hk => ?_, fun hk => ?_⟩
  · rw [if_pos hk] at hb
    have := of_decide_eq_true hb; omega
  · rw [if_neg (by omega), if_neg (by omega), if_pos hk] at hb
    have := of_decide_eq_true hb; omega
  · rw [if_neg (by omega), if_neg (by omega), if_neg (by omega), if_pos hk] at hb
    have := of_decide_eq_true hb; omega
theorem okN_kind {e : Ex} (h : okN e) : 1 ≤ e.kind ∧ e.kind ≤ 15 := by
  have hn := ((okN_iff e).1 h).1
  by_cases hk : e.kind < 1 ∨ 15 < e.kind
  · unfold nodeE at hn
    rw [if_pos hk] at hn; cases hn
  · omega
end Go.Abs

namespace Go.Abs
open Go.RowKit
variable [Globals]
def WF (ro : Option Nat) : Fence := { Fence.wide with round := ro }
theorem callsIn_wf {ro : Option Nat} {n : Nat} {P : Program} {f : FuncId} {args : Array Value} {w : World} {R : Ending → World → Prop} : CallsIn (WF ro) n P f args w R ↔ Calls P f args w R :=
  (callsIn_wide (n := n) : CallsIn Fence.wide n P f args w R ↔ _)
theorem rowsIn_wf {ro : Option Nat} {n : Nat} {P : Program} {row : String} {args : Array Value} {w : World} {R : Value → World → Prop} (h : Rows P row args w R) : RowsIn (WF ro) n P row args w R :=
  fun c cs _ => let ⟨v, w', r, s⟩ := h c cs; ⟨v, w', r, stepsIn_wide.2 s⟩
def notDefer (o : Oper) : Bool := match o.op with | .defer _ => false | _ => true
theorem notDefer_ne {o : Oper} (h : notDefer o = true) : ∀ c, o.op ≠ .defer c := fun c e => by unfold notDefer at h; rw [e] at h; cases h
theorem put_parts (a : Act) (d : Option Tmp) (v : Value) : (a.put d v).defers = a.defers ∧ (⟨(a.put d v).tmps, []⟩ : Act) = (⟨a.tmps, []⟩ : Act).put d v := by
  cases d <;> exact ⟨rfl, rfl⟩
section
variable {P : Program} {T : Tab} {E : FEnv} {ro : Option Nat} {n : Nat}
theorem opIn {o : Oper} {a : Act} {w : World} {next : Act → World → Prop} {Q : Exit → Act → World → Prop} (hnd : notDefer o = true) (hn : ∀ a w, next a w → a.defers = [])
    (h : o.wp P ⟨a.tmps, []⟩ w next (fun _ _ _ => False)) : o.wpIn (WF ro) n P a w (fun a' w' => a'.defers = a.defers ∧ next ⟨a'.tmps, []⟩ w') Q := by
  refine ⟨fun f _ => trivial, ?_⟩
  rw [Oper.semAt_eq _ _ _ (notDefer_ne hnd)]
  unfold Oper.wp at h
  have hev : (⟨a.tmps, []⟩ : Act).eval = a.eval := rfl
  rw [hev] at h
  generalize (execOp a.eval o).run P w = r at *
  cases r with
  | ok nx w' =>
    cases nx with
    | value v =>
      obtain ⟨h1, h2⟩ := put_parts a o.dst v
      exact ⟨h1, by rw [h2]; exact h⟩
    | skip =>
      obtain ⟨h1, h2⟩ := put_parts a o.dst undef
      exact ⟨h1, by rw [h2]; exact h⟩
    | enter f args =>
      refine ⟨fun hd => (by cases hd), callsIn_wf.2 ?_⟩
      have h : Calls P f args w' _ := h
      refine h.mono fun e w'' he => ?_
      cases e with
      | returned v =>
        obtain ⟨h1, h2⟩ := put_parts a o.dst v
        exact ⟨h1, by rw [h2]; exact he⟩
      | panicked c => exact he.elim
      | outgrown => obtain ⟨_, _, he⟩ := he; exact he.elim
    | row row args =>
      refine ⟨fun hd => (by cases hd), rowsIn_wf ?_⟩
      have h : Rows P row args w' _ := h
      refine h.mono fun v w'' he => ?_
      obtain ⟨h1, h2⟩ := put_parts a o.dst v
      exact ⟨h1, by rw [h2]; exact he⟩
    | defer d =>
      have h1 := hn _ _ h
      rw [(put_parts _ o.dst undef).1] at h1
      cases h1
    | _ => exact h.elim
  | halt x w' => cases x <;> exact h.elim
theorem arun_soundIn (hE : E.ok) (hT : T.ok P) {ops : Array Oper} {K : AState → Prop} {d : List Deferred} {tl : List Nat} {Q : Exit → Act → World → Prop}
    (hQ : ∀ s σ a w, K s → Rel P E s σ ⟨a.tmps, []⟩ w → a.defers = d → wpOpsIn (WF ro) n P ops Q tl a w) :
    ∀ (l : List Oper) (i : Nat) (s : AState) (σ : Sig) (a : Act) (w : World), (∀ j, j < l.length → l[j]? = ops[i + j]?) → l.all notDefer = true → a.defers = d → Rel P E s σ ⟨a.tmps, []⟩ w → arun P T E.nt ops.toList l s K →
      wpOpsIn (WF ro) n P ops Q (List.range' i l.length ++ tl) a w
  | [], i, s, σ, a, w, _, _, hd, hR, h => by simpa using hQ s σ a w h hR hd
  | o :: l, i, s, σ, a, w, hl, hnd, hd, hR, h => by
    have ho : ops[i]? = some o := by simpa using (hl 0 (by simp)).symm
    have hl' : ∀ j, j < l.length → l[j]? = ops[i + 1 + j]? := fun j hj => by have := hl (j + 1) (by simpa using hj); simpa [Nat.add_assoc, Nat.add_comm 1 j] using this
    rw [List.all_cons, Bool.and_eq_true] at hnd
    simp only [List.length_cons, List.range'_succ, List.cons_append, wpOpsIn, ho]
    unfold arun at h
    obtain ⟨s', hK, hR'⟩ := guardK_sound (ops := ops) (a := ⟨a.tmps, []⟩) hR h
    cases hw : Region.wanted o (yielded ops a.tmps) with
    | true =>
      rw [show (⟨a.tmps, []⟩ : Act).tmps = a.tmps from rfl, hw] at hK
      simp only [if_true]
      refine Oper.wpIn_mono ?_ (opIn (n := n) (ro := ro) hnd.1 (fun a w ⟨_, _, _, hr⟩ => hr.df) (opS_sound hE hT hR' hK))
      rintro a' w' ⟨hd', s2, σ2, hs2, hR2⟩
      exact arun_soundIn hE hT hQ l (i + 1) s2 σ2 a' w' hl' hnd.2 (hd'.trans hd) hR2 hs2
    | false =>
      rw [show (⟨a.tmps, []⟩ : Act).tmps = a.tmps from rfl, hw] at hK
      simp only [Bool.false_eq_true, if_false]
      refine ⟨fun f _ => trivial, ?_⟩
      obtain ⟨tm, ob⟩ := s'
      have hdd : ∀ t, o.dst = some t → t < E.nt := by
        intro t ht
        simp only [ht] at hK
        unfold nextS at hK
        exact Nat.le_of_ble_eq_true (chk_true hK).1
      have h2 := hR'.skip o.dst hdd
      obtain ⟨h3, h4⟩ := put_parts a o.dst undef
      rw [← h4] at h2
      refine arun_soundIn hE hT hQ l (i + 1) _ σ _ w hl' hnd.2 (h3.trans hd) h2 ?_
      cases hd' : o.dst with
      | none => rw [hd'] at hK; exact hK
      | some t => rw [hd'] at hK; exact (chk_true hK).2
def okX : Code → Bool
  | .skip => true
  | .region _ ops dr => !dr && ops.toList.all notDefer
  | .seq x y => okX x && okX y
  | .cond _ x y => okX x && okX y
  | .block _ c => okX c
  | .exit _ => true
  | .ret => true
  | _ => false
def exitX (P : Program) (E : FEnv) (d : List Deferred) (Q : AExit → AState → Prop) (e : Exit) (a : Act) (w : World) : Prop := a.defers = d ∧ exitQ P E Q e ⟨a.tmps, []⟩ w
theorem awp_soundIn (hE : E.ok) (hT : T.ok P) {d : List Deferred} : ∀ (c : Code) (s : AState) (Q : AExit → AState → Prop) (σ : Sig) (a : Act) (w : World), okX c = true → a.defers = d → Rel P E s σ ⟨a.tmps, []⟩ w → awp P T E.nt c s Q → c.wpIn (WF ro) n P (exitX P E d Q) a w
  | .skip, s, Q, σ, a, w, _, hd, hR, h => wpIn_skip ⟨hd, s, σ, h, hR⟩
  | .region id ops true, s, Q, σ, a, w, ho, hd, hR, h => by simp [okX] at ho
  | .region id ops false, s, Q, σ, a, w, ho, hd, hR, h => by
    refine wpIn_region ?_
    have := arun_soundIn (ro := ro) (n := n) (tl := []) (Q := exitX P E d Q) hE hT (fun s σ a w hs hR hd => ⟨hd, s, σ, hs, hR⟩) ops.toList 0 s σ a w (fun j _ => by simp) (by simpa [okX] using ho) hd hR h
    rw [List.range_eq_range']
    simpa using this
  | .seq x y, s, Q, σ, a, w, ho, hd, hR, h => by
    simp only [okX, Bool.and_eq_true] at ho
    refine wpIn_seq (wpIn_mono (awp_soundIn hE hT x s _ σ a w ho.1 hd hR h) (fun e a' w' he => ?_))
    obtain ⟨hd', he⟩ := he
    cases e with
    | normal => obtain ⟨s', σ', hq, hR'⟩ := he; exact awp_soundIn hE hT y s' Q σ' a' w' ho.2 hd' hR' hq
    | exit i => exact ⟨hd', he⟩
    | ret => exact ⟨hd', he⟩
    | goto l => exact he.elim
    | panic c => exact he.elim
    | outgrown => exact he.elim
  | .cond c x y, s, Q, σ, a, w, ho, hd, hR, h => by
    simp only [okX, Bool.and_eq_true] at ho
    obtain ⟨tm, ob⟩ := s
    have hc := evO_rel hE hR c
    unfold awp at h
    simp only at h
    split at h
    · rename_i b hb
      rw [show evO tm c = .pv (.val (.bool b)) from hb] at hc
      have hv := pr_val (arg_pv hc)
      refine wpIn_cond hv ?_
      cases b with
      | true => exact awp_soundIn hE hT x _ Q σ a w ho.1 hd hR h
      | false => exact awp_soundIn hE hT y _ Q σ a w ho.2 hd hR h
    · rename_i b hb
      rw [show evO tm c = .pv (.sb b) from hb] at hc
      have hv := pr_sb (arg_pv hc)
      refine wpIn_cond hv ?_
      cases b with
      | true => exact awp_soundIn hE hT x _ Q σ a w ho.1 hd hR (h.1 rfl)
      | false => exact awp_soundIn hE hT y _ Q σ a w ho.2 hd hR (h.2 rfl)
    · exact h.elim
  | .block id c, s, Q, σ, a, w, ho, hd, hR, h => by
    refine wpIn_block (wpIn_mono (awp_soundIn hE hT c s _ σ a w (by simpa [okX] using ho) hd hR h) (fun e a' w' he => ?_))
    obtain ⟨hd', he⟩ := he
    cases e with
    | normal => exact ⟨hd', he⟩
    | exit i =>
      obtain ⟨s', σ', hq, hR'⟩ := he
      have hq : (match Nat.beq i id with | true => Q .normal s' | false => Q (.exit i) s') := hq
      simp only [Exit.inBlock]
      cases hb : Nat.beq i id with
      | true =>
        rw [hb] at hq
        rw [if_pos (Nat.eq_of_beq_eq_true hb)]
        exact ⟨hd', s', σ', hq, hR'⟩
      | false =>
        rw [hb] at hq
        rw [if_neg (fun e => by rw [e] at hb; simp at hb)]
        exact ⟨hd', s', σ', hq, hR'⟩
    | ret => exact ⟨hd', he⟩
    | goto l => exact he.elim
    | panic c => exact he.elim
    | outgrown => exact he.elim
  | .exit id, s, Q, σ, a, w, _, hd, hR, h => wpIn_exit ⟨hd, s, σ, h, hR⟩
  | .ret, s, Q, σ, a, w, _, hd, hR, h => wpIn_ret ⟨hd, s, σ, h, hR⟩
  | .loop .., s, Q, σ, a, w, ho, hd, hR, h => by simp [okX] at ho
  | .rangeFunc .., s, Q, σ, a, w, ho, hd, hR, h => h.elim
  | .scope _, s, Q, σ, a, w, ho, hd, hR, h => h.elim
  | .label _, s, Q, σ, a, w, ho, hd, hR, h => h.elim
  | .goto _, s, Q, σ, a, w, ho, hd, hR, h => h.elim
  | .refuse _, s, Q, σ, a, w, ho, hd, hR, h => h.elim
def pinOf (σ : Sig) (l : Nat) : Option Loc := if 900000 ≤ l then σ l else none
abbrev reE (nt : Nat) (M0 : Nat → Prop) (σ : Sig) (w' : World) : FEnv := ⟨nt, fun _ => False, M0, owned σ, w', pinOf σ⟩
theorem reE_ok {M0 : Nat → Prop} {σ : Sig} {w : World} {nt : Nat} (hi : Inv (fun _ => False) M0 σ w) : (reE nt M0 σ w).ok :=
  ⟨hi.m0, fun _ h => h.elim, hi.gl, fun l loc e => by
    have e : pinOf σ l = some loc := e
    unfold pinOf at e
    split at e
    · assumption
    · cases e⟩
theorem inv_world {M0 : Nat → Prop} {σ : Sig} {w w' : World} (hi : Inv (fun _ => False) M0 σ w) (hs : Same (Mof M0 σ) w w') : Inv (fun _ => False) M0 σ w' :=
  ⟨hi.sep, fun b hb => Nat.lt_of_lt_of_le (hi.lt b hb) hs.1, fun b hb => ⟨Nat.lt_of_lt_of_le (hi.m0 b hb).1 hs.1, (hi.m0 b hb).2⟩, fun _ h => h.elim, hi.gl.mono hs (fun _ _ h => h)⟩
theorem Rel.to {s : AState} {σ : Sig} {a : Act} {w w' : World} {nt : Nat} {M0 F0 : Nat → Prop} {w1 : World} {pin : Nat → Option Loc} {ob2 : List (Nat × AObj)} (hR : Rel P ⟨nt, fun _ => False, M0, F0, w1, pin⟩ s σ a w) (hi : Inv (fun _ => False) M0 σ w) (hs : Same (Mof M0 σ) w w')
    (hk : ∀ i, (getO ob2 i = none ↔ getO s.ob i = none)) (hob : ∀ i o, getO ob2 i = some o → refsO o = [] ∧ At P w' (fun _ => False) M0 σ i o) : Rel P (reE nt M0 σ w') ⟨s.tm, ob2⟩ σ a w' := by
  refine ⟨hR.sz, hR.df, fun t => (hR.tm t).mono hs (fun _ _ h => h) (fun _ h => h.elim) (fun _ _ _ e => e), fun l o e => (hob l o e).2, fun l e => hR.nob l ((hk l).1 e), fun t l hl e => hR.wt t l hl ((hk l).1 e), fun i o e l hl => ?_, hR.sep, fun b hb => .inl hb, FExt.refl _ _, fun l loc e => ?_⟩
  · rw [(hob i o e).1] at hl; cases hl
  · have e : pinOf σ l = some loc := e
    unfold pinOf at e
    split at e
    · refine ⟨fun h => ?_, fun loc' e' => Option.some.inj (e'.symm.trans e)⟩
      have := hR.nob l ((hk l).1 h)
      rw [this] at e; cases e
    · cases e
theorem getO_none : ∀ {l : List (Nat × AObj)} {i : Nat}, getO l i = none ↔ i ∉ l.map (·.1)
  | [], i => by simp [getO]
  | (j, o) :: l, i => by
    rw [getO_cons]
    by_cases e : j = i
    · subst e; simp
    · rw [if_neg e, getO_none (l := l)]
      simp [Ne.symm e]
theorem getO_keys {l l' : List (Nat × AObj)} (h : l.map (·.1) = l'.map (·.1)) (i : Nat) : getO l i = none ↔ getO l' i = none := by rw [getO_none, getO_none, h]
theorem getO_some {l : List (Nat × AObj)} {i : Nat} (h : getO l i ≠ none) : i ∈ l.map (·.1) := Classical.byContradiction fun h2 => h (getO_none.2 h2)
def boxF : List (Nat × AObj) → Bool
  | [] => true
  | (_, .pbox cs) :: r => flatP.flatL cs && boxF r
  | _ => false
theorem boxF_get : ∀ {ob : List (Nat × AObj)} {i : Nat} {o : AObj}, boxF ob = true → getO ob i = some o → ∃ cs, o = .pbox cs ∧ flatP.flatL cs = true
  | (j, .pbox cs) :: r, i, o, h, e => by
    simp only [boxF, Bool.and_eq_true] at h
    rw [getO_cons] at e
    split at e
    · cases e; exact ⟨cs, rfl, h.1⟩
    · exact boxF_get h.2 e
theorem obj_at {w w' : World} {St M0 M0' : Nat → Prop} {σ σ' : Sig} {i : Nat} {cs : List PV} (h : At P w St M0 σ i (.pbox cs)) (hf : flatP.flatL cs = true) (hσ : ∀ loc, σ i = some loc → σ' i = some loc)
    (hb : ∀ b, owned σ' b → w'.heap[b]? = w.heap[b]?) : At P w' (fun _ => False) M0' σ' i (.pbox cs) := by
  obtain ⟨b, vs, t, hl, hb', hsz, hp, hone⟩ := at_pbox h
  have hl' := hσ _ hl
  exact ⟨_, hl', .pbox cs b vs t ((hb b ⟨i, _, hl', rfl⟩).trans hb') hsz (fun j p e => (hp j p e).flat (flatL_get hf j p e)) hone⟩
structure RS (P : Program) (nt : Nat) (M0 : Nat → Prop) (σ : Sig) (a0 : Act) (w0 : World) (l D : Nat) (rec : Loop) (S : AState) (W : World) : Prop where
  rel : Rel P (reE nt M0 σ W) S σ a0 W
  inv : Inv (fun _ => False) M0 σ W
  lrec : W.heap[l]? = some (.loop rec)
  dfr : W.heap[D]? = some (.deferred (some []))
  ext : FExt (owned σ) w0 W
theorem RS.goes {nt : Nat} {M0 : Nat → Prop} {σ : Sig} {a0 : Act} {w0 W W' : World} {l D : Nat} {rec rec' : Loop} {S S' : AState} (h : RS P nt M0 σ a0 w0 l D rec S W) (hl : M0 l) (hD : M0 D) (hlD : D ≠ l) (hw0 : w0.heap.size ≤ l)
    (hx : FExt (fun b => owned σ b ∨ b = l) W W') (hrec : W'.heap[l]? = some (.loop rec')) (htm : S'.tm = S.tm) (hk : ∀ i, (getO S'.ob i = none ↔ getO S.ob i = none)) (hf : boxF S'.ob = true)
    (hob : ∀ i o, getO S'.ob i = some o → At P W' (fun _ => False) M0 σ i o) : RS P nt M0 σ a0 w0 l D rec' S' W' ∧ Same (Mof M0 σ) W W' := by
  have hs : Same (Mof M0 σ) W W' := hx.same.mono fun b _ hb => hb.elim .inr (fun e => .inl (e ▸ hl))
  have hrel : Rel P (reE nt M0 σ W') ⟨S.tm, S'.ob⟩ σ a0 W' := Rel.to h.rel h.inv hs hk (fun i o e => ⟨by obtain ⟨cs, rfl, _⟩ := boxF_get hf e; rfl, hob i o e⟩)
  refine ⟨⟨?_, inv_world h.inv hs, hrec, ?_, ?_⟩, hs⟩
  · rw [← htm] at hrel; exact hrel
  · exact (hx.block D (h.inv.m0 D hD).1 (fun hb => hb.elim (h.inv.m0 D hD).2 hlD)).trans h.dfr
  · exact ⟨hx.os.trans h.ext.os, hx.tape.trans h.ext.tape, hx.output.trans h.ext.output, Nat.le_trans h.ext.size hx.size, fun b hb hn => (hx.block b (Nat.lt_of_lt_of_le hb h.ext.size) (fun hh => hh.elim hn (fun e => by omega))).trans (h.ext.block b hb hn), Nat.le_trans h.ext.drawn hx.drawn⟩
theorem RS.step {nt : Nat} {M0 : Nat → Prop} {σ : Sig} {a0 : Act} {w0 W W' : World} {l D : Nat} {rec : Loop} {S : AState} (h : RS P nt M0 σ a0 w0 l D rec S W) (hl : M0 l) (hD : M0 D) (hlD : D ≠ l) (hw0 : w0.heap.size ≤ l)
    (hf : boxF S.ob = true) (hx : FExt (fun _ => False) W W') : RS P nt M0 σ a0 w0 l D rec S W' :=
  (h.goes hl hD hlD hw0 (hx.mono fun _ _ h => h.elim) ((hx.block l (h.inv.m0 l hl).1 id).trans h.lrec) rfl (fun _ => Iff.rfl) hf (fun i o e => by
    obtain ⟨cs, rfl, hc⟩ := boxF_get hf e
    exact obj_at (h.rel.ob i _ e) hc (fun _ h => h) (fun b hb => hx.block b (h.inv.lt b hb) id))).1
theorem Rel.putA {s : AState} {σ : Sig} {a : Act} {w : World} (hR : Rel P E s σ a w) {d : Nat} (hd : d < E.nt) {p : PV} {v : Value} (h : PR w (Mof E.M0 σ) p v) : Rel P E ⟨(d, .pv p) :: s.tm, s.ob⟩ σ ⟨a.tmps.setIfInBounds d v, []⟩ w := by
  have hlt : d < a.tmps.size := by rw [hR.sz]; exact hd
  refine ⟨by simp [hR.sz], rfl, fun t => ?_, hR.ob, hR.nob, fun t l hl => ?_, hR.wo, hR.sep, hR.own, hR.ext, hR.pn⟩
  · simp only [getT_cons]
    by_cases e : d = t
    · rw [if_pos e]
      subst e
      simp [Array.getD_eq_getD_getElem?, hlt]
      exact .pv _ _ h
    · rw [if_neg e]
      have := hR.tm t
      simpa [Array.getD_eq_getD_getElem?, Array.getElem?_setIfInBounds_ne e] using this
  · simp only [getT_cons] at hl
    split at hl
    · simp [refs] at hl
    · exact hR.wt t l hl
theorem ext_put {w : World} {l : Nat} (o : Obj) : FExt (fun b => b = l) w (w.putObj l o) :=
  ⟨rfl, rfl, rfl, by simp [World.putObj], fun b _ hb => World.putObj_heap_other hb, Nat.le_refl _⟩
def normQ (Sa : AState) : AExit → AState → Prop
  | .normal, s => ∃ r, entS r s Sa
  | _, _ => False
def roundQ (G C : Prop) (o1 ox : List (Nat × AObj)) : AExit → AState → Prop
  | .normal, s => G ∧ ∃ r, entS r s ⟨[], o1⟩
  | .ret, s => C ∧ ∃ r, entS r s ⟨[], ox⟩
  | _, _ => False
theorem round_sound (hT : T.ok P) {nt m : Nat} {M0 : Nat → Prop} {σ : Sig} {a0 : Act} {w0 W : World} {l D : Nat} {fn : FuncId} {p q : Tmp} {assign body : Code} {S Sa : AState} {o1 ox : List (Nat × AObj)} {G C : Prop} {x y : PV} {vals : Array Value}
    (h : RS P nt M0 σ a0 w0 l D { state := .ready, pending := none, fn, tmps := a0.tmps, params := #[p, q], assign, body, defers := D } S W) (hl : M0 l) (hD : M0 D) (hlD : D ≠ l) (hw0 : w0.heap.size ≤ l)
    (hf : boxF S.ob = true) (hfa : boxF Sa.ob = true) (hf1 : boxF o1 = true) (hfx : boxF ox = true) (hhi : ∀ i, getO S.ob i ≠ none → 900000 ≤ i)
    (hka : ∀ i, getO S.ob i ≠ none → getO Sa.ob i ≠ none) (hk1 : ∀ i, (getO o1 i = none ↔ getO S.ob i = none)) (hkx : ∀ i, (getO ox i = none ↔ getO S.ob i = none))
    (hv : vals.size = 2) (hx : PR W (Mof M0 σ) x (vals.getD 0 undef)) (hy : PR W (Mof M0 σ) y (vals.getD 1 undef)) (hp : p < nt) (hq : q < nt) (hoka : okX assign = true) (hokb : okX body = true)
    (ha : awp P T nt assign ⟨(q, .pv y) :: (p, .pv x) :: S.tm, S.ob⟩ (normQ Sa)) (hb : awp P T nt body Sa (roundQ G C o1 ox)) :
    ∃ fn' tmps assign' body', (Instr.yield l vals).run P W = .ok (.round l fn' tmps assign' body') W ∧ RoundIn (WF none) m P l fn' tmps assign' body' W (fun e W' => Same (Mof M0 σ) W W' ∧
      ((e = .returned (.bool true) ∧ G ∧ RS P nt M0 σ a0 w0 l D { state := .ready, pending := none, fn, tmps := a0.tmps, params := #[p, q], assign, body, defers := D } ⟨S.tm, o1⟩ W') ∨
       (e = .returned (.bool false) ∧ C ∧ RS P nt M0 σ a0 w0 l D { state := .done, pending := some .ret, fn, tmps := a0.tmps, params := #[p, q], assign, body, defers := D } ⟨S.tm, ox⟩ W'))) := by
  have hyl := run_yield (P := P) (args := vals) h.lrec hv
  refine ⟨_, _, _, _, hyl, roundIn_of_wpIn trivial ?_⟩
  obtain ⟨v0, v1, rfl⟩ : ∃ v0 v1, vals = #[v0, v1] := by
    refine ⟨vals[0]'(by omega), vals[1]'(by omega), ?_⟩
    apply Array.ext
    · simpa using hv
    · intro i h1 h2
      have : i = 0 ∨ i = 1 := by simp at h2; omega
      rcases this with rfl | rfl <;> rfl
  have hE := reE_ok (nt := nt) h.inv
  have hRin : Rel P (reE nt M0 σ W) ⟨(q, .pv y) :: (p, .pv x) :: S.tm, S.ob⟩ σ ⟨(a0.tmps.setIfInBounds p v0).setIfInBounds q v1, []⟩ W :=
    (h.rel.putA (E := reE nt M0 σ W) hp hx).putA (E := reE nt M0 σ W) hq hy
  have hz : ((#[p, q].zip #[v0, v1]).foldl (fun tmps (t, a) => tmps.setIfInBounds t a) a0.tmps) = (a0.tmps.setIfInBounds p v0).setIfInBounds q v1 := by simp
  dsimp only
  rw [hz]
  refine wpIn_mono (awp_soundIn (ro := some l) (n := m) (d := []) hE hT assign _ _ σ ⟨(a0.tmps.setIfInBounds p v0).setIfInBounds q v1, []⟩ W hoka rfl hRin ha) ?_
  rintro e a1 Wa ⟨hd1, he⟩
  cases e with
  | normal =>
    obtain ⟨s1, σs, ⟨r, hent⟩, hR1⟩ := he
    obtain ⟨σ1, hRa⟩ := entS_sound hent _ σs _ Wa hE hR1
    have hia := hRa.inv hE
    have hla : Wa.heap[l]? = some (.loop { state := .ready, pending := none, fn, tmps := a0.tmps, params := #[p, q], assign, body, defers := D }) := (hRa.ext.block l (h.inv.m0 l hl).1 (h.inv.m0 l hl).2).trans h.lrec
    refine ⟨_, run_beginRound hla rfl, ?_⟩
    obtain ⟨Wb, hWb⟩ : ∃ Wb, Wb = Wa.putObj l (.loop { state := .busy, pending := none, fn, tmps := a0.tmps, params := #[p, q], assign, body, defers := D }) := ⟨_, rfl⟩
    rw [← hWb]
    have hab : FExt (fun b => b = l) Wa Wb := by rw [hWb]; exact ext_put _
    have hsab : Same (Mof M0 σ1) Wa Wb := hab.same.mono fun b _ e => .inl (e ▸ hl)
    have hib := inv_world hia hsab
    have hlb : Wb.heap[l]? = some (.loop { state := .busy, pending := none, fn, tmps := a0.tmps, params := #[p, q], assign, body, defers := D }) := by rw [hWb]; exact World.putObj_heap_same (lt_of_block hla)
    have hRb : Rel P (reE nt M0 σ1 Wb) Sa σ1 ⟨a1.tmps, []⟩ Wb := Rel.to (ob2 := Sa.ob) hRa hia hsab (fun _ => Iff.rfl) (fun i o e => by
      obtain ⟨cs, rfl, hc⟩ := boxF_get hfa e
      refine ⟨rfl, obj_at (hRa.ob i _ e) hc (fun _ h => h) (fun b hb => ?_)⟩
      rw [hWb]
      exact World.putObj_heap_other (fun e => (hia.m0 l hl).2 (e ▸ hb)))
    have hEb := reE_ok (nt := nt) hib
    refine wpIn_mono (awp_soundIn (ro := some l) (n := m) (d := []) hEb hT body _ _ σ1 _ Wb hokb hd1 hRb hb) ?_
    -- what the body's end gives
    have fin : ∀ (ob2 : List (Nat × AObj)) (σ2 : Sig) (a2 : Act) (W3 : World) (rec' : Loop), boxF ob2 = true → (∀ i, (getO ob2 i = none ↔ getO S.ob i = none)) → Rel P (reE nt M0 σ1 Wb) ⟨[], ob2⟩ σ2 ⟨a2.tmps, []⟩ W3 →
        W3.heap[l]? = some (.loop { state := .busy, pending := none, fn, tmps := a0.tmps, params := #[p, q], assign, body, defers := D }) ∧
        (RS P nt M0 σ a0 w0 l D rec' ⟨S.tm, ob2⟩ (W3.putObj l (.loop rec')) ∧ Same (Mof M0 σ) W (W3.putObj l (.loop rec'))) := by
      intro ob2 σ2 a2 W3 rec' hf2 hk2 hR2
      have hl3 := (hR2.ext.block l (hib.m0 l hl).1 (hib.m0 l hl).2).trans hlb
      have h34 : FExt (fun b => b = l) W3 (W3.putObj l (.loop rec')) := ext_put _
      refine ⟨hl3, h.goes hl hD hlD hw0 (FExt.mono (F := fun b => owned σ b ∨ b = l ∨ W.heap.size ≤ b) (FExt.trans (b := Wa) (hRa.ext.mono fun b _ hb => .inl hb) (FExt.trans (b := Wb) (hab.mono fun b _ hb => .inr (.inl hb)) (FExt.trans (b := W3) (hR2.ext.mono fun b _ hb => (hRa.own b hb).imp id .inr) (h34.mono fun b _ hb => .inr (.inl hb))))) fun b hb hh => hh.imp id fun h => h.elim id fun h => absurd h (by omega)) (World.putObj_heap_same (lt_of_block hl3)) rfl hk2 hf2 (fun i o e => ?_)⟩
      · have e : getO ob2 i = some o := e
        obtain ⟨cs, rfl, hc⟩ := boxF_get hf2 e
        refine obj_at (hR2.ob i _ e) hc (fun loc hloc => ?_) (fun b hb => World.putObj_heap_other (fun e => (h.inv.m0 l hl).2 (e ▸ hb)))
        have hSi : getO S.ob i ≠ none := fun h0 => by rw [(hk2 i).2 h0] at e; cases e
        have hhi' := hhi i hSi
        obtain ⟨o0, ho0⟩ := Option.ne_none_iff_exists'.1 hSi
        obtain ⟨cs0, rfl, _⟩ := boxF_get hf ho0
        obtain ⟨loc0, hl0, _⟩ := h.rel.ob i _ ho0
        obtain ⟨oa, hoa⟩ := Option.ne_none_iff_exists'.1 (hka i hSi)
        obtain ⟨csa, rfl, _⟩ := boxF_get hfa hoa
        obtain ⟨loc1, hl1, _⟩ := hRa.ob i _ hoa
        have e1 : loc1 = loc0 := (hRa.pn i loc0 (by show pinOf σ i = _; unfold pinOf; rw [if_pos hhi']; exact hl0)).2 loc1 hl1
        have e2 : loc = loc1 := (hR2.pn i loc1 (by show pinOf σ1 i = _; unfold pinOf; rw [if_pos hhi']; exact hl1)).2 loc hloc
        rw [e2, e1]; exact hl0
    rintro e a2 W3 ⟨_, he⟩
    cases e with
    | normal =>
      obtain ⟨s2, σt, ⟨hG, r2, hent2⟩, hR2⟩ := he
      obtain ⟨σ2, hR2⟩ := entS_sound hent2 _ σt _ W3 hEb hR2
      obtain ⟨hl3, hrs, hsm⟩ := fin o1 σ2 a2 W3 _ hf1 hk1 hR2
      exact ⟨_, _, run_endRound none hl3, hsm, .inl ⟨rfl, hG, hrs⟩⟩
    | ret =>
      obtain ⟨s2, σt, ⟨hC, r2, hent2⟩, hR2⟩ := he
      obtain ⟨σ2, hR2⟩ := entS_sound hent2 _ σt _ W3 hEb hR2
      obtain ⟨hl3, hrs, hsm⟩ := fin ox σ2 a2 W3 _ hfx hkx hR2
      exact ⟨_, _, run_endRound (some .ret) hl3, hsm, .inr ⟨rfl, hC, hrs⟩⟩
    | exit i => obtain ⟨_, _, h, _⟩ := he; exact h.elim
    | goto t => exact he.elim
    | panic c => exact he.elim
    | outgrown => exact he.elim
  | exit i => obtain ⟨_, _, h, _⟩ := he; exact h.elim
  | ret => obtain ⟨_, _, h, _⟩ := he; exact h.elim
  | goto t => exact he.elim
  | panic c => exact he.elim
  | outgrown => exact he.elim
def Yields (P : Program) (g : FuncId) (caps : Array Value) (M : Nat → Prop) (N : Nat) (xs : Nat → PV × PV) (W : World) : Prop :=
  ∀ (l : Nat) (J : Nat → World → Prop) (Jx : World → Prop), J 0 W → (∀ k A B, J k A → FExt (fun _ => False) A B → J k B) → (∀ A B, Jx A → FExt (fun _ => False) A B → Jx B) →
    (∀ k A vals, k < N → J k A → vals.size = 2 → PR A M (xs k).1 (vals.getD 0 undef) → PR A M (xs k).2 (vals.getD 1 undef) →
      ∃ fn' tmps assign' body', (Instr.yield l vals).run P A = .ok (.round l fn' tmps assign' body') A ∧ RoundIn (WF none) 0 P l fn' tmps assign' body' A (fun e B => Same M A B ∧ ((e = .returned (.bool true) ∧ J (k + 1) B) ∨ (e = .returned (.bool false) ∧ Jx B)))) →
    Calls P g (#[.func (.yield l) #[] #[]] ++ caps) W (fun e B => ∃ v, e = .returned v ∧ (J N B ∨ Jx B))
theorem range_sound (hT : T.ok P) {nt : Nat} {M0 F0 : Nat → Prop} {w0 : World} {pin : Nat → Option Loc} {σ : Sig} {a : Act} {w : World} {d : List Deferred} {Q : Exit → Act → World → Prop} {g : Operand} {gf : FuncId} {caps : Array Value} {p q : Tmp} {assign body : Code} {tm : List (Nat × AV)} {N : Nat} {xs : Nat → PV × PV} {ob : Nat → List (Nat × AObj)} {Sa : Nat → AState} {ox : Nat → List (Nat × AObj)} {G C : Nat → Prop}
    (hE : FEnv.ok ⟨nt, fun _ => False, M0, F0, w0, pin⟩) (hd : a.defers = d) (hR : Rel P ⟨nt, fun _ => False, M0, F0, w0, pin⟩ ⟨tm, ob 0⟩ σ ⟨a.tmps, []⟩ w) (hg : a.eval g = .func (.func gf) #[] caps) (hc : ∀ (vals : Array Value) (w : World), (callFunc gf vals).run P w = .ok (.enter gf vals) w)
    (hY : ∀ M W, (∀ b, b < w.heap.size → M b → Mof M0 σ b) → (∀ b, M b → b < W.heap.size) → Glob W M → FExt (fun _ => False) w W → Yields P gf caps M N xs W)
    (hf : ∀ k, k ≤ N → boxF (ob k) = true) (hfa : ∀ k, k < N → boxF (Sa k).ob = true) (hfx : ∀ k, k < N → boxF (ox k) = true) (hG0 : G 0) (hhi : ∀ i, getO (ob 0) i ≠ none → 900000 ≤ i)
    (hk : ∀ k, k ≤ N → ∀ i, (getO (ob k) i = none ↔ getO (ob 0) i = none)) (hka : ∀ k, k < N → ∀ i, getO (ob 0) i ≠ none → getO (Sa k).ob i ≠ none) (hkx : ∀ k, k < N → ∀ i, (getO (ox k) i = none ↔ getO (ob 0) i = none))
    (hp : p < nt) (hq : q < nt) (hoka : okX assign = true) (hokb : okX body = true)
    (ha : ∀ k, k < N → awp P T nt assign ⟨(q, .pv (xs k).2) :: (p, .pv (xs k).1) :: tm, ob k⟩ (normQ (Sa k))) (hb : ∀ k, k < N → G k → awp P T nt body (Sa k) (roundQ (G (k + 1)) (C k) (ob (k + 1)) (ox k)))
    (hdone : ∀ (M1 : Nat → Prop) (D : Nat) (W : World), G N → (∀ b, M0 b → M1 b) → M1 D → w.heap.size ≤ D → W.heap[D]? = some (.deferred (some [])) → Inv (fun _ => False) M1 σ W → Rel P (reE nt M1 σ W) ⟨tm, ob N⟩ σ ⟨a.tmps, []⟩ W → FExt (owned σ) w W → Q .normal ⟨a.tmps, { target := .collected D, args := #[] } :: d⟩ W)
    (hstop : ∀ (M1 : Nat → Prop) (D : Nat) (W : World) (k : Nat), k < N → C k → (∀ b, M0 b → M1 b) → M1 D → w.heap.size ≤ D → W.heap[D]? = some (.deferred (some [])) → Inv (fun _ => False) M1 σ W → Rel P (reE nt M1 σ W) ⟨tm, ox k⟩ σ ⟨a.tmps, []⟩ W → FExt (owned σ) w W → Q .ret ⟨a.tmps, { target := .collected D, args := #[] } :: d⟩ W) :
    (Code.rangeFunc g #[p, q] assign body).wpIn (WF none) n P Q a w := by
  refine wpIn_rangeFunc ?_
  intro fn _
  obtain ⟨rec, hrec⟩ : ∃ rec : LoopState → Option Code → Loop, rec = fun st pe => { state := st, pending := pe, fn, tmps := a.tmps, params := #[p, q], assign, body, defers := w.heap.size } := ⟨_, rfl⟩
  obtain ⟨W1, hW1⟩ : ∃ W1, W1 = (w.alloc (.deferred (some []))).alloc (.loop (rec .ready none)) := ⟨_, rfl⟩
  have hx1 : FExt (fun _ => False) w W1 := by
    rw [hW1]
    refine FExt.trans (b := w.alloc (.deferred (some []))) ?_ ?_
    · exact ⟨rfl, rfl, rfl, (same_alloc (fun _ => False) _ _).1, fun b hb _ => alloc_old _ _ b hb, Nat.le_refl _⟩
    · exact ⟨rfl, rfl, rfl, (same_alloc (fun _ => False) _ _).1, fun b hb _ => alloc_old _ _ b hb, Nat.le_refl _⟩
  have hsz1 : W1.heap.size = w.heap.size + 2 := by rw [hW1]; simp
  have hl1 : W1.heap[w.heap.size + 1]? = some (.loop (rec .ready none)) := by
    rw [hW1]; have := alloc_new (w.alloc (.deferred (some []))) (.loop (rec .ready none)); rwa [World.size_alloc] at this
  have hD1 : W1.heap[w.heap.size]? = some (.deferred (some [])) := by
    rw [hW1, alloc_old _ _ _ (by simp)]; exact alloc_new w _
  have hi := hR.inv hE
  obtain ⟨M1, hM1⟩ : ∃ M1 : Nat → Prop, M1 = fun b => M0 b ∨ b = w.heap.size ∨ b = w.heap.size + 1 := ⟨_, rfl⟩
  have hMl : M1 (w.heap.size + 1) := by rw [hM1]; exact .inr (.inr rfl)
  have hMD : M1 w.heap.size := by rw [hM1]; exact .inr (.inl rfl)
  have hMM : ∀ b, M0 b → M1 b := fun b hb => by rw [hM1]; exact .inl hb
  have hback : ∀ b, b < w.heap.size → Mof M1 σ b → Mof M0 σ b := fun b hb hm => by
    rw [hM1] at hm
    rcases hm with (hm | hm | hm) | hm
    · exact .inl hm
    · omega
    · omega
    · exact .inr hm
  have hi1 : Inv (fun _ => False) M1 σ W1 := by
    refine ⟨hi.sep, fun b hb => Nat.lt_of_lt_of_le (hi.lt b hb) hx1.size, fun b hb => ?_, fun _ h => h.elim, hi.gl.mono (hx1.same.mono fun _ _ h => h.elim) hback⟩
    rw [hM1] at hb
    rcases hb with hb | hb | hb
    · exact ⟨Nat.lt_of_lt_of_le (hi.m0 b hb).1 hx1.size, (hi.m0 b hb).2⟩
    · exact ⟨by omega, fun ho => by have := hi.lt b ho; omega⟩
    · exact ⟨by omega, fun ho => by have := hi.lt b ho; omega⟩
  have hR1 : Rel P (reE nt M1 σ W1) ⟨tm, ob 0⟩ σ ⟨a.tmps, []⟩ W1 := by
    refine ⟨hR.sz, rfl, fun t => (hR.tm t).mono (hx1.same.mono fun _ _ h => h.elim) hback (fun _ h => h.elim) (fun _ _ _ e => e), fun i o e => ?_, hR.nob, hR.wt, hR.wo, hR.sep, fun b hb => .inl hb, FExt.refl _ _, fun l loc e => ?_⟩
    · have e : getO (ob 0) i = some o := e
      obtain ⟨cs, rfl, hcs⟩ := boxF_get (hf 0 (Nat.zero_le _)) e
      exact obj_at (hR.ob i _ e) hcs (fun _ h => h) (fun b hb => hx1.block b (hi.lt b hb) id)
    · have e : pinOf σ l = some loc := e
      unfold pinOf at e
      split at e
      · exact ⟨fun h => (by rw [hR.nob l h] at e; cases e), fun loc' e' => Option.some.inj (e'.symm.trans e)⟩
      · cases e
  have h0 : RS P nt M1 σ ⟨a.tmps, []⟩ w (w.heap.size + 1) w.heap.size (rec .ready none) ⟨tm, ob 0⟩ W1 := ⟨hR1, hi1, hl1, hD1, hx1.mono fun _ _ h => h.elim⟩
  refine ⟨w.heap.size + 1, [{ target := .collected w.heap.size, args := #[] }], W1, { target := .fn (.func gf) caps, args := #[.func (.yield (w.heap.size + 1)) #[] #[]] }, W1, gf,
    #[.func (.yield (w.heap.size + 1)) #[] #[]] ++ caps, W1, ?_, ?_, fun _ _ => trivial, ?_, fun h => (by cases h), ?_⟩
  · rw [hW1, hrec]; exact run_enterLoop_outer _ _ _ _ _
  · simp only [resolve, hg]
    simp [go_sem]
  · simp [invoke, go_sem, hc]
  · refine callsIn_wf.2 ((hY (Mof M1 σ) W1 hback (fun b hb => hb.elim (fun h => (hi1.m0 b h).1) (hi1.lt b)) hi1.gl hx1 (w.heap.size + 1)
      (fun k W => RS P nt M1 σ ⟨a.tmps, []⟩ w (w.heap.size + 1) w.heap.size (rec .ready none) ⟨tm, ob k⟩ W ∧ k ≤ N ∧ G k)
      (fun W => ∃ k, k < N ∧ C k ∧ RS P nt M1 σ ⟨a.tmps, []⟩ w (w.heap.size + 1) w.heap.size (rec .done (some .ret)) ⟨tm, ox k⟩ W)
      ⟨h0, Nat.zero_le _, hG0⟩ (fun k A B h hx => ⟨h.1.step hMl hMD (by omega) (by omega) (hf k h.2.1) hx, h.2⟩) (fun A B h hx => by
        obtain ⟨k, h1, h2, h3⟩ := h
        exact ⟨k, h1, h2, h3.step hMl hMD (by omega) (by omega) (hfx k h1) hx⟩) (fun k A vals hkN h hv hx hy => ?_)).mono ?_)
    · obtain ⟨h, -, hGk⟩ := h
      rw [hrec] at h
      obtain ⟨fn', tmps, as', bd', hyl, hr⟩ := round_sound (m := 0) hT h hMl hMD (by omega) (by omega) (hf k (by omega)) (hfa k hkN) (hf (k + 1) (by omega)) (hfx k hkN) (fun i hi' => hhi i fun h => hi' ((hk k (by omega) i).2 h)) (fun i hi' => hka k hkN i fun h => hi' ((hk k (by omega) i).2 h))
        (fun i => (hk (k + 1) (by omega) i).trans (hk k (by omega) i).symm) (fun i => (hkx k hkN i).trans (hk k (by omega) i).symm) hv hx hy hp hq hoka hokb (ha k hkN) (hb k hkN hGk)
      refine ⟨fn', tmps, as', bd', hyl, hr.mono fun e B hB => ?_⟩
      rw [hrec]
      exact ⟨hB.1, hB.2.imp (fun h => ⟨h.1, h.2.2, by omega, h.2.1⟩) (fun h => ⟨h.1, k, hkN, h.2⟩)⟩
    · rintro e B ⟨v, rfl, hB⟩
      have last : ∀ (st : LoopState) (pe : Option Code) (ob2 : List (Nat × AObj)), boxF ob2 = true → RS P nt M1 σ ⟨a.tmps, []⟩ w (w.heap.size + 1) w.heap.size (rec st pe) ⟨tm, ob2⟩ B →
          RS P nt M1 σ ⟨a.tmps, []⟩ w (w.heap.size + 1) w.heap.size { rec st pe with state := .exhausted } ⟨tm, ob2⟩ (B.putObj (w.heap.size + 1) (.loop { rec st pe with state := .exhausted })) := fun st pe ob2 hf2 h =>
        (h.goes hMl hMD (by omega) (by omega) ((ext_put _).mono fun _ _ h => .inr h) (World.putObj_heap_same (lt_of_block h.lrec)) rfl (fun _ => Iff.rfl) hf2 (fun i o e => by
          have e : getO ob2 i = some o := e
          obtain ⟨cs, rfl, hc⟩ := boxF_get hf2 e
          exact obj_at (h.rel.ob i _ e) hc (fun _ h => h) (fun b hb => World.putObj_heap_other (fun e => (h.inv.m0 _ hMl).2 (e ▸ hb))))).1
      rw [← hd] at hdone hstop
      rcases hB with ⟨hB, _, hGN⟩ | ⟨k, hkN, hCk, hB⟩
      · have h2 := last _ _ _ (hf N (Nat.le_refl _)) hB
        have he := run_endLoop (P := P) hB.lrec (by rw [hrec]; simp)
        generalize hW2 : B.putObj (w.heap.size + 1) (.loop { rec .ready none with state := .exhausted }) = W2 at he h2
        refine ⟨_, W2, he, ?_⟩
        rw [show (rec .ready none).pending = none from by rw [hrec]]
        exact hdone M1 w.heap.size _ hGN hMM hMD (Nat.le_refl _) h2.dfr h2.inv h2.rel h2.ext
      · have h2 := last _ _ _ (hfx k hkN) hB
        have he := run_endLoop (P := P) hB.lrec (by rw [hrec]; simp)
        generalize hW2 : B.putObj (w.heap.size + 1) (.loop { rec .done (some .ret) with state := .exhausted }) = W2 at he h2
        refine ⟨_, W2, he, ?_⟩
        rw [show (rec .done (some .ret)).pending = some .ret from by rw [hrec]]
        exact wpIn_ret (hstop M1 w.heap.size _ k hkN hCk hMM hMD (Nat.le_refl _) h2.dfr h2.inv h2.rel h2.ext)
def contQ (K : AState → Prop) : AExit → AState → Prop
  | .normal, s => K s
  | _, _ => False
theorem pre3 (hE : E.ok) (hT : T.ok P) {d : List Deferred} {K : AState → Prop} {x y z u t : Code} {s : AState} {σ : Sig} {a : Act} {w : World} {Q : Exit → Act → World → Prop} (ho : okX (.seq x (.seq y z)) = true) (hd : a.defers = d) (hR : Rel P E s σ ⟨a.tmps, []⟩ w)
    (h : awp P T E.nt (.seq x (.seq y z)) s (contQ K)) (hK : ∀ s σ a w, K s → a.defers = d → Rel P E s σ ⟨a.tmps, []⟩ w → u.wpIn (WF ro) n P (Exit.then (t.wpIn (WF ro) n P Q) Q) a w) :
    (Code.seq x (.seq y (.seq (.seq z u) t))).wpIn (WF ro) n P Q a w := by
  simp only [okX, Bool.and_eq_true] at ho
  obtain ⟨hx, hy, hz⟩ := ho
  refine wpIn_seq (wpIn_mono (awp_soundIn hE hT x s _ σ a w hx hd hR h) ?_)
  rintro e a1 w1 ⟨hd1, he⟩
  cases e with
  | normal =>
    obtain ⟨s1, σ1, h1, hR1⟩ := he
    refine wpIn_seq (wpIn_mono (awp_soundIn hE hT y s1 _ σ1 a1 w1 hy hd1 hR1 h1) ?_)
    rintro e a2 w2 ⟨hd2, he⟩
    cases e with
    | normal =>
      obtain ⟨s2, σ2, h2, hR2⟩ := he
      refine wpIn_seq (wpIn_seq (wpIn_mono (awp_soundIn hE hT z s2 (contQ K) σ2 a2 w2 hz hd2 hR2 h2) ?_))
      rintro e a3 w3 ⟨hd3, he⟩
      cases e with
      | normal =>
        obtain ⟨s3, σ3, h3, hR3⟩ := he
        refine wpIn_mono (hK s3 σ3 a3 w3 h3 hd3 hR3) fun e a w he => ?_
        cases e <;> exact he
      | exit i => obtain ⟨_, _, h, _⟩ := he; exact h.elim
      | ret => obtain ⟨_, _, h, _⟩ := he; exact h.elim
      | goto t => exact he.elim
      | panic c => exact he.elim
      | outgrown => exact he.elim
    | exit i => obtain ⟨_, _, h, _⟩ := he; exact h.elim
    | ret => obtain ⟨_, _, h, _⟩ := he; exact h.elim
    | goto t => exact he.elim
    | panic c => exact he.elim
    | outgrown => exact he.elim
  | exit i => obtain ⟨_, _, h, _⟩ := he; exact h.elim
  | ret => obtain ⟨_, _, h, _⟩ := he; exact h.elim
  | goto t => exact he.elim
  | panic c => exact he.elim
  | outgrown => exact he.elim
theorem arun_part (hE : E.ok) (hT : T.ok P) {ops : Array Oper} {K : AState → Prop} {d : List Deferred} {tl : List Nat} {Q : Exit → Act → World → Prop} (i m : Nat) (hm : i + m ≤ ops.size)
    (hQ : ∀ s σ a w, K s → Rel P E s σ ⟨a.tmps, []⟩ w → a.defers = d → wpOpsIn (WF ro) n P ops Q tl a w) {s : AState} {σ : Sig} {a : Act} {w : World} (hnd : ((ops.toList.drop i).take m).all notDefer = true) (hd : a.defers = d) (hR : Rel P E s σ ⟨a.tmps, []⟩ w)
    (h : arun P T E.nt ops.toList ((ops.toList.drop i).take m) s K) : wpOpsIn (WF ro) n P ops Q (List.range' i m ++ tl) a w := by
  have hl : ((ops.toList.drop i).take m).length = m := by simp; omega
  have := arun_soundIn (ro := ro) (n := n) (ops := ops) (tl := tl) (Q := Q) hE hT hQ ((ops.toList.drop i).take m) i s σ a w (fun j hj => by
    rw [hl] at hj
    rw [List.getElem?_take_of_lt hj, List.getElem?_drop, Array.getElem?_toList]) hnd hd hR h
  rwa [hl] at this
theorem wpOpsIn_go {F : Fence} {ops : Array Oper} {Q : Exit → Act → World → Prop} {i : Nat} {rest : List Nat} {o : Oper} {a : Act} {w : World} (h : ops[i]? = some o) (hg : o.guard = none) (h2 : o.wpIn F n P a w (wpOpsIn F n P ops Q rest) Q) : wpOpsIn F n P ops Q (i :: rest) a w := by
  simp only [wpOpsIn, h, Region.wanted, hg, if_true]
  exact h2
theorem yield_op {m l : Nat} {o : Oper} {a : Act} {w : World} {K : Act → World → Prop} {Q : Exit → Act → World → Prop} {fo : Operand} {args : Array Operand} {ts : Array TypeId} (ho : o.op = .call { callee := .value fo, args := args, argTypes := ts }) (hf : a.eval fo = .func (.yield l) #[] #[])
    {vals : Array Value} (hv : args.map a.eval = vals) {R : Ending → World → Prop} (hy : ∃ fn' tmps assign' body', (Instr.yield l vals).run P w = .ok (.round l fn' tmps assign' body') w ∧ RoundIn (WF none) m P l fn' tmps assign' body' w R)
    (hK : ∀ e w', R e w' → ∃ v, e = .returned v ∧ K (a.put o.dst v) w') : o.wpIn (WF none) (m + 1) P a w K Q := by
  subst hv
  obtain ⟨fn', tmps, assign', body', h1, h2⟩ := hy
  refine ⟨fun _ _ => trivial, ?_⟩
  have h3 : ((o.semAt (WF none).round a.eval).run P w) = .ok (.round l fn' tmps assign' body') w := by
    rw [Oper.semAt_eq _ _ _ (fun c e => by rw [ho] at e; cases e)]
    simp [execOp, ho, resolve, Deferred.ofValue, hf, invoke, h1]
  rw [h3]
  refine ⟨fun h => (by cases h), h2.mono fun e w' he => ?_⟩
  obtain ⟨v, rfl, hv⟩ := hK e w' he
  exact hv
end
theorem own_none (b : Nat) : ¬ owned (fun _ => none) b := fun ⟨_, _, h, _⟩ => by cases h
theorem inv_none {M : Nat → Prop} {W : World} (hM : ∀ b, M b → b < W.heap.size) (hg : Glob W M) : Inv (fun _ => False) M (fun _ => none) W :=
  ⟨fun _ _ _ _ _ e => (by cases e), fun b h => absurd h (own_none b), fun b h => ⟨hM b h, own_none b⟩, fun _ h => h.elim, hg.mono (Same.refl _ _) fun b _ h => h.elim id fun h => absurd h (own_none b)⟩
theorem rel_args {P : Program} {nt : Nat} {args : List AV} {vals : Array Value} {M : Nat → Prop} {W : World} (hl : vals.size = args.length) (hn : args.length ≤ nt) (hp : noRefs args = true)
    (hA : ∀ i x, args[i]? = some x → AR P W (fun _ => False) M (fun _ => none) x (vals.getD i undef)) : Rel P (reE nt M (fun _ => none) W) ⟨argTm 0 args, []⟩ (fun _ => none) ⟨vals ++ Array.replicate (nt - vals.size) undef, []⟩ W := by
  have hget : ∀ t x, getT (argTm 0 args) t = x → x = .junk ∨ args[t]? = some x := by
    intro t x e
    rw [argTm_get, if_neg (by omega)] at e
    cases ha : args[t - 0]? with
    | none => rw [ha] at e; exact .inl e.symm
    | some y => rw [ha] at e; simp at e ha; subst e; exact .inr rfl
  refine ⟨by simp; omega, rfl, fun t => ?_, fun l o e => by simp [getO] at e, fun _ _ => rfl, fun t l hl' => ?_, fun i o e => by simp [getO] at e, fun l l' loc loc' b e => (by cases e), fun b hb => .inl hb, FExt.refl _ _, fun l loc e => ?_⟩
  · rcases hget t _ rfl with e | e
    · rw [e]; exact .junk _
    · have hlt : t < args.length := (List.getElem?_eq_some_iff.1 e).1
      have h2 := hA t _ e
      rw [getD_append_left (by omega)]
      exact h2.mono (Same.refl _ _) (fun b _ h => h.elim id fun h => absurd h (own_none b)) (fun _ h => h.elim) (fun _ _ _ e => e)
  · rcases hget t _ rfl with e | e
    · rw [e] at hl'; simp [refs] at hl'
    · rw [noRefs_spec hp t _ e] at hl'; simp at hl'
  · have e : pinOf (fun _ => none) l = some loc := e
    unfold pinOf at e
    split at e <;> cases e
def endQ (K : AState → Prop) : AExit → AState → Prop
  | .exit _, _ => False
  | .normal, s => K s
  | .ret, s => K s
def exit0Q (K : AState → Prop) : AExit → AState → Prop
  | .exit 0, s => K s
  | _, _ => False
def fnQ (fn : Func) (g : FuncId) (caps : List PV) (s : AState) : Prop :=
  match s with
  | ⟨tm, ob⟩ => match fn.results.toList with
    | [.tmp t] => borrowV (getO ob) (getT tm t) = .fn g (caps.map .pv)
    | _ => False
def fnE (fn : Func) (g : FuncId) (caps : List PV) : AExit → AState → Prop
  | .exit _, _ => False
  | .normal, s => fnQ fn g caps s
  | .ret, s => fnQ fn g caps s
theorem AC.of_awp_fn {P : Program} {T : Tab} {f : FuncId} {fn : Func} {c : Code} {args : List AV} {g : FuncId} {caps : List PV} (hT : T.ok P) (hm : P.follows .mixedOrders = true) (hcall : ∀ (vals : Array Value) (w : World), (callFunc f vals).run P w = .ok (.enter f vals) w)
    (hf : P.funcs[f]? = some fn) (hb : fn.body = some c) (hn : Nat.ble args.length fn.ntmps = true) (hp : noRefs args = true) (h : awp P T fn.ntmps c ⟨argTm 0 args, []⟩ (fnE fn g caps)) : AC P f args [] (.fn g (caps.map .pv)) [] := by
  refine ⟨hcall, fun St M0 σ w vals hi hσ _ hl hA => ?_⟩
  have hσ' : σ = fun _ => none := funext fun l => hσ l rfl
  subst hσ'
  have hown : ∀ b, ¬ owned (fun _ => none) b := fun b ⟨l, loc, h, _⟩ => by cases h
  have hle := Nat.le_of_ble_eq_true hn
  have hE : FEnv.ok ⟨fn.ntmps, St, M0, fun _ => False, w, fun _ => none⟩ := ⟨fun b hb => ⟨(hi.m0 b hb).1, id⟩, fun b hb => ⟨(hi.st b hb).1, id⟩, hi.gl.mono (Same.refl _ w) (fun b _ hb => .inl (hb.elim id False.elim)), fun _ _ e => by cases e⟩
  have hget : ∀ t x, getT (argTm 0 args) t = x → x = .junk ∨ args[t]? = some x := by
    intro t x e
    rw [argTm_get, if_neg (by omega)] at e
    cases ha : args[t - 0]? with
    | none => rw [ha] at e; exact .inl e.symm
    | some y => rw [ha] at e; simp at e ha; subst e; exact .inr rfl
  have hR : Rel P ⟨fn.ntmps, St, M0, fun _ => False, w, fun _ => none⟩ ⟨argTm 0 args, []⟩ (fun _ => none) { tmps := vals ++ Array.replicate (fn.ntmps - vals.size) undef, defers := [] } w := by
    refine ⟨by simp; omega, rfl, fun t => ?_, fun l o e => by simp [getO] at e, fun _ _ => rfl, fun t l hl' => ?_, fun i o e => by simp [getO] at e, fun l l' loc loc' b e => (by cases e), fun b hb => absurd hb (hown b), FExt.refl _ w, fun _ _ e => by cases e⟩
    · rcases hget t _ rfl with e | e
      · rw [e]; exact .junk _
      · have := hA t _ e
        have hlt : t < args.length := (List.getElem?_eq_some_iff.1 e).1
        rw [getD_append_left (by omega)]
        exact this
    · rcases hget t _ rfl with e | e
      · rw [e] at hl'; simp [refs] at hl'
      · rw [noRefs_spec hp t _ e] at hl'; simp at hl'
  refine calls_of_wp hf hb (wp_mono (awp_sound hE hT hm c _ _ _ _ w hR h) (fun e a' w' he => ?_))
  have fin : (∃ s σ, fnQ fn g caps s ∧ Rel P ⟨fn.ntmps, St, M0, fun _ => False, w, fun _ => none⟩ s σ a' w') → a'.defers = [] ∧ ∃ v, (results fn a'.tmps).run P w' = .ok v w' ∧ ∃ v_1 σ', Ending.returned v = .returned v_1 ∧ Post P St M0 (fun _ => none) w [] (.fn g (caps.map .pv)) σ' v_1 w' := by
    rintro ⟨⟨tm, ob⟩, σ, hq, hR'⟩
    unfold fnQ at hq
    simp only at hq
    split at hq
    · rename_i t hr
      refine ⟨hR'.df, a'.tmps.getD t undef, by rw [results_eq hr]; simp [rvRun], _, fun _ => none, rfl, ?_⟩
      have hA := borrow_rel (ob := getO ob) (L := refs (getT tm t)) (hR'.inv hE) (hR'.tm t) (fun l hl => hl) (fun l _ obj e => hR'.ob l obj e)
      rw [hq] at hA
      refine ⟨?_, fun l o e => by simp [getO] at e, fun _ _ => rfl, fun l loc loc' e => (by cases e), fun l l' loc loc' b e => (by cases e), fun b hb => absurd hb (hown b), hR'.ext.mono (fun _ _ h => h.elim)⟩
      generalize a'.tmps.getD t undef = v at hA
      cases hA with
      | fn _ _ vs hl h =>
        refine .fn _ _ _ hl fun i c e => ?_
        have h2 := h i c e
        obtain ⟨p, hp, rfl⟩ : ∃ p, caps[i]? = some p ∧ .pv p = c := by simpa using e
        exact .pv _ _ ((arg_pv h2).mono (Same.refl _ w') (fun b _ hb => .inl (hb.elim id fun h => absurd h (hown b))))
    · exact hq.elim
  cases e with
  | normal => exact fin he
  | ret => exact fin he
  | exit i => obtain ⟨s, σ, hq, _⟩ := he; exact hq.elim
  | goto l => exact he.elim
  | panic c => exact he.elim
  | outgrown => exact he.elim
theorem marks_end {P : Program} {T : Tab} {nt n : Nat} {fn : Func} {St M0 M1 : Nat → Prop} {σ2 σ3 : Sig} {w W W' : World} {s : AState} {res : PV} {a' : Act} {D : Nat} (hT : T.ok P) (hiW : Inv (fun _ => False) M1 σ2 W) (hR : Rel P (reE nt M1 σ2 W) s σ3 ⟨a'.tmps, []⟩ W') (hbox : boxF s.ob = true)
    (hq : resQ T fn.results.toList res s) (hfl : flatP res = true) (hD : M1 D) (hDw : w.heap.size ≤ D) (hWD : W.heap[D]? = some (.deferred (some []))) (hd : a'.defers = [{ target := .collected D, args := #[] }]) (hx : FExt (fun b => w.heap.size ≤ b) w W) (hown : ∀ b, owned σ2 b → w.heap.size ≤ b) :
    LeavesInM (WF none) n P fn a'.tmps (fun e w' => ∃ v σ', e = .returned v ∧ Post P St M0 (fun _ => none) w [] (.pv res) σ' v w') a'.defers .returning W' := by
  have hE := reE_ok (nt := nt) hiW
  have hi3 := hR.inv hE
  have hD' : W'.heap[D]? = some (.deferred (some [])) := (hR.ext.block D (hiW.m0 D hD).1 (hiW.m0 D hD).2).trans hWD
  rw [hd]
  refine ⟨by simp, .inl ⟨D, _, rfl, run_takeDeferred hD', ?_⟩⟩
  have hput : FExt (fun b => b = D) W' (W'.putObj D (.deferred none)) := ext_put _
  have hs : Same (Mof M1 σ3) W' (W'.putObj D (.deferred none)) := hput.same.mono fun b _ e => .inl (e ▸ hD)
  have hR2 : Rel P (reE nt M1 σ3 (W'.putObj D (.deferred none))) ⟨s.tm, s.ob⟩ σ3 ⟨a'.tmps, []⟩ (W'.putObj D (.deferred none)) := Rel.to hR hi3 hs (fun _ => Iff.rfl) (fun i o e => by
    obtain ⟨cs, rfl, hc⟩ := boxF_get hbox e
    exact ⟨rfl, obj_at (hR.ob i _ e) hc (fun _ h => h) (fun b hb => World.putObj_heap_other (fun e => (hi3.m0 D hD).2 (e ▸ hb)))⟩)
  obtain ⟨v, hr, hv⟩ := results_run (reE_ok (inv_world hi3 hs)) hT hR2 hq
  refine ⟨v, hr, v, fun _ => none, rfl, .pv _ _ (hv.flat hfl), fun l o e => by simp [getO] at e, fun _ _ => rfl, fun l loc loc' e => (by cases e), fun l l' loc loc' b e => (by cases e), fun b hb => absurd hb (own_none b), ?_⟩
  have h := hx.trans ((hR.ext.mono (F' := fun b => w.heap.size ≤ b) fun b _ hb => hown b hb).trans (hput.mono fun b _ e => e ▸ hDw))
  exact h.mono fun b hb hh => absurd hh (by omega)
end Go.Abs

namespace Go.Abs
open Go.Proofs
set_option maxRecDepth 10000
theorem ac_eval_kids (v : Vw) (ks : List Ex) : AC Tryz.prog 120 [.pv (.agg (cVw v)), .pv (roL 11 cEx ks)] [] (.fn 163 ([.cell [roL 11 cEx ks], .cell (cVw v)].map .pv)) [] := by
  refine AC.of_awp_fn (T := T) T_ok hm Tryz.call120 Tryz.func120 rfl rfl rfl ?_
  conv => whnf
  rfl
def kidS (v : Vw) (ks : List Ex) (l k : Nat) : AState := ⟨[(0, .pv (.val (.func (.yield l) #[] #[]))), (2, .pv (.cell (cVw v))), (6, .pv (roL 11 cEx ks)), (7, .pv (vint ks.length)), (8, .pv (vint k))], []⟩
def kidX (v : Vw) (ks : List Ex) (k : Nat) : PV × PV := (.agg (cVal (fndV (evR v (ks.getD k default))).1), vbool (fndV (evR v (ks.getD k default))).2)
def slotN : Value → Nat
  | .int _ i => i.toNat
  | _ => 0
theorem kids_yields (v : Vw) (ks : List Ex) (hl : smallL ks) (ih : ∀ i, i < ks.length → AC Tryz.prog 45 [.pv (.agg (cVw v)), .pv (.agg (cEx (ks.getD i default)))] [] (.pv (.tup [.agg (cVal (fndV (evR v (ks.getD i default))).1), vbool (fndV (evR v (ks.getD i default))).2])) [])
    {M : Nat → Prop} {W : World} {c0 c1 : Value} (hM : ∀ b, M b → b < W.heap.size) (hg : Glob W M) (h0 : PR W M (.cell [roL 11 cEx ks]) c0) (h1 : PR W M (.cell (cVw v)) c1) : Yields Tryz.prog 163 #[c0, c1] M ks.length (kidX v ks) W := by
  have hl2 : ks.length ≤ 1048576 := hl
  intro l J Jx hJ0 hJ hJx hY
  refine (callsIn_wf (n := 1) (ro := none)).1 (callsIn_of_wp Tryz.func163 rfl trivial ?_)
  have hi0 := inv_none hM hg
  have hR0 : Rel Tryz.prog (reE 21 M (fun _ => none) W) ⟨argTm 0 [.pv (.val (.func (.yield l) #[] #[])), .pv (.cell [roL 11 cEx ks]), .pv (.cell (cVw v))], []⟩ (fun _ => none) ⟨#[.func (.yield l) #[] #[]] ++ #[c0, c1] ++ Array.replicate (21 - 3) undef, []⟩ W :=
    rel_args rfl (Nat.le_of_ble_eq_true rfl) rfl (fun i x e => by
      match i, e with
      | 0, e => simp at e; subst e; exact .pv _ _ (.val _)
      | 1, e => simp at e; subst e; exact .pv _ _ h0
      | 2, e => simp at e; subst e; exact .pv _ _ h1
      | i + 3, e => simp at e)
  refine wpIn_seq (wpIn_mono (awp_soundIn (ro := none) (n := 1) (d := []) (reE_ok hi0) T_ok _ _ (contQ fun s => ∃ r, entS r s (kidS v ks l 0)) _ _ _ rfl rfl hR0 ?_) ?_)
  · conv => whnf
    refine ⟨[], ?_⟩
    (repeat' (first | exact PSub.rfl | exact rfl | exact PSubs.rfl | exact trivial | exact PSub.lit_sb rfl | refine And.intro ?_ ?_))
  rintro e a1 w1 ⟨hd1, he⟩
  cases e with
  | normal =>
    obtain ⟨s1, σ1, ⟨r, hent⟩, hR1⟩ := he
    obtain ⟨σ1', hR1⟩ := entS_sound hent _ σ1 _ w1 (reE_ok hi0) hR1
    have hσ1 : σ1' = fun _ => none := funext fun i => hR1.nob i rfl
    subst hσ1
    have toR : ∀ {k : Nat} {a : Act} {w A : World} {S : AState}, S.ob = [] → Inv (fun _ => False) M (fun _ => none) A → Rel Tryz.prog (reE 21 M (fun _ => none) A) S (fun _ => none) ⟨a.tmps, []⟩ w → Inv (fun _ => False) M (fun _ => none) w ∧ Rel Tryz.prog (reE 21 M (fun _ => none) w) S (fun _ => none) ⟨a.tmps, []⟩ w ∧ FExt (fun _ => False) A w := by
      intro k a w A S hS hiA hR
      have hx : FExt (fun _ => False) A w := hR.ext.mono fun b _ h => absurd h (own_none b)
      have hiw := hR.inv (reE_ok hiA)
      refine ⟨hiw, ?_, hx⟩
      have := Rel.to (ob2 := S.ob) hR hiw (Same.refl _ w) (fun _ => Iff.rfl) (fun i o e => by rw [hS] at e; simp [getO] at e)
      exact this
    obtain ⟨hi1, hR1, hx1⟩ := toR (k := 0) rfl hi0 hR1
    have hJ1 := hJ 0 W w1 hJ0 hx1
    clear hR0 hent hx1
    refine wpIn_block (wpIn_loop (fun a w => ∃ k, k ≤ ks.length ∧ J k w ∧ a.defers = [] ∧ Inv (fun _ => False) M (fun _ => none) w ∧ Rel Tryz.prog (reE 21 M (fun _ => none) w) (kidS v ks l k) (fun _ => none) ⟨a.tmps, []⟩ w) (fun a _ => ks.length - slotN (a.tmps.getD 8 undef)) ⟨0, Nat.zero_le _, hJ1, hd1, hi1, hR1⟩ ?_)
    clear hR1 hi1 hJ1 hd1 hJ0 hi0 h0 h1 hg hM
    rintro a w ⟨k, hk, hJk, hd, hi, hR⟩
    have hE := reE_ok (nt := 21) hi
    have hμ : slotN (a.tmps.getD 8 undef) = k := by
      have h8 := hR.tm 8
      rw [show (⟨a.tmps, []⟩ : Act).tmps.getD 8 undef = .int .i64 (k : Int) from pr_val (arg_pv h8)] at *
      have := pr_val (arg_pv h8)
      rw [this]
      show (k : Int).toNat = k
      omega
    rcases Nat.lt_or_ge k ks.length with hlt | hge
    · -- one value is handed to yield
      refine wpIn_seq (wpIn_mono (awp_soundIn (ro := none) (n := 1) (d := []) hE T_ok _ _ (contQ fun s => ∃ r, entS r s ⟨(9, .pv (.val (.bool true))) :: (kidS v ks l k).tm, []⟩) _ _ _ rfl hd hR ?_) ?_)
      · conv => whnf
        refine ⟨[], ?_⟩
        refine And.intro ?_ ?_
        · exact PSub.sb_lit (decide_eq_true (by omega))
        · (repeat' (first | exact PSub.rfl | exact rfl | exact PSubs.rfl | exact trivial | exact PSub.lit_sb rfl | refine And.intro ?_ ?_))
      rintro e a2 w2 ⟨hd2, he⟩
      cases e with
      | normal =>
        obtain ⟨s2, σ2, ⟨r2, hent2⟩, hR2⟩ := he
        obtain ⟨σ3, hR2⟩ := entS_sound hent2 _ σ2 _ w2 hE hR2
        clear hent2
        refine wpIn_seq (wpIn_cond_true (pr_val (arg_pv (hR2.tm 9))) (wpIn_skip ?_))
        refine wpIn_seq (wpIn_block (wpIn_seq (wpIn_mono (awp_soundIn (ro := none) (n := 1) (d := []) hE T_ok _ _ (contQ fun s => ∃ r, entS r s ⟨(5, .ptr 5 0) :: (kidS v ks l k).tm, [(5, .pbox (cEx (ks.getD k default)))]⟩) _ _ _ rfl hd2 hR2 ?_) ?_)))
        · conv => whnf
          repeat (any_goals (first
            | (refine ⟨fun (h : (_ : Bool) = true) => ?_, fun (h : (_ : Bool) = false) => ?_⟩ <;> (try simp only [decide_eq_true_eq, decide_eq_false_iff_not, Bool.not_eq_true', Bool.not_eq_false', Int.toNat_natCast, beq_iff_eq, decide_eq_decide, beq_eq_false_iff_ne, ne_eq, reduceCtorEq] at h) <;> (conv => whnf))
            | (refine And.intro (by (try simp only [Int.toNat_natCast]); omega) ?_; conv => whnf)
            | (refine And.intro (show (_ : Bool) = true from by kernel_rfl) ?_; conv => whnf)
            | (refine .inl ⟨wrap64 (by omega), ?_⟩; conv => whnf)))
          refine ⟨[], ?_⟩
          (repeat' (first | exact PSub.rfl | exact rfl | exact PSubs.rfl | exact trivial | exact PSub.lit_sb rfl | refine And.intro ?_ ?_))
        rintro e a3 w3 ⟨hd3, he⟩
        cases e with
        | normal =>
          obtain ⟨s4, σ4, ⟨r4, hent4⟩, hR3⟩ := he
          obtain ⟨σ5, hR3⟩ := entS_sound hent4 _ σ4 _ w3 hE hR3
          clear hent4 hR2
          refine wpIn_seq (wpIn_region ?_)
          change wpOpsIn _ _ _ _ _ (List.range' 0 6 ++ [6, 7]) _ _
          refine arun_part (d := []) (K := fun s => ∃ r, entS r s ⟨(12, .pv (.val (.func (.yield l) #[] #[]))) :: (16, .pv (kidX v ks k).1) :: (17, .pv (kidX v ks k).2) :: (kidS v ks l k).tm, []⟩) hE T_ok 0 6 (Nat.le_of_ble_eq_true rfl) ?_ rfl hd3 hR3 ?_
          · intro s5 σ6 a4 w4 hent hR4 hd4
            obtain ⟨r5, hent⟩ := hent
            obtain ⟨σ7, hR4⟩ := entS_sound hent _ σ6 _ w4 hE hR4
            have hσ7 : σ7 = fun _ => none := funext fun i => hR4.nob i rfl
            subst hσ7
            clear hent hR3
            have hi4 := hR4.inv hE
            have hJ4 := hJ k w w4 hJk (hR4.ext.mono fun b _ h => absurd h (own_none b))
            have toM : ∀ {p : PV} {x : Value}, PR w4 (Mof M (fun _ => none)) p x → PR w4 M p x := fun h => h.mono (Same.refl _ _) fun b _ h => .inl h
            have h16 : PR w4 M (kidX v ks k).1 (a4.eval (.tmp 16)) := toM (arg_pv (hR4.tm 16))
            have h17 : PR w4 M (kidX v ks k).2 (a4.eval (.tmp 17)) := toM (arg_pv (hR4.tm 17))
            refine wpOpsIn_go rfl rfl (yield_op (m := 0) rfl (pr_val (arg_pv (hR4.tm 12))) (by simp) (hY k w4 #[a4.eval (.tmp 16), a4.eval (.tmp 17)] hlt hJ4 rfl h16 h17) ?_)
            rintro e5 w5 ⟨hs, he5⟩
            have hs' : Same (Mof M (fun _ => none)) w4 w5 := hs.mono fun b _ h => .inl h
            have hi5 := inv_world hi4 hs'
            have hE5 := reE_ok (nt := 21) hi5
            have hR5 : ∀ b, Rel Tryz.prog (reE 21 M (fun _ => none) w5) ⟨(18, .pv (.val (.bool b))) :: (12, .pv (.val (.func (.yield l) #[] #[]))) :: (16, .pv (kidX v ks k).1) :: (17, .pv (kidX v ks k).2) :: (kidS v ks l k).tm, []⟩ (fun _ => none) ⟨(a4.put (some 18) (.bool b)).tmps, []⟩ w5 := fun b =>
              Rel.putA (E := reE 21 M (fun _ => none) w5) (s := ⟨_, []⟩) (Rel.to (ob2 := []) hR4 hi4 hs' (fun _ => Iff.rfl) (fun i o e => by simp [getO] at e)) (Nat.le_of_ble_eq_true rfl) (.val _)
            rcases he5 with ⟨rfl, hJ5⟩ | ⟨rfl, hJx5⟩
            · refine ⟨_, rfl, ?_⟩
              change wpOpsIn _ _ _ _ _ (List.range' 7 1 ++ []) _ _
              refine arun_part (d := []) (K := fun s => ∃ r, entS r s ⟨(19, .pv (.val (.bool false))) :: (kidS v ks l k).tm, []⟩) hE5 T_ok 7 1 (Nat.le_of_ble_eq_true rfl) ?_ rfl hd4 (hR5 true) ?_
              · intro s6 σ8 a6 w6 hent hR6 hd6
                obtain ⟨r6, hent⟩ := hent
                obtain ⟨σ9, hR6⟩ := entS_sound hent _ σ8 _ w6 hE5 hR6
                refine wpIn_cond_false (pr_val (arg_pv (hR6.tm 19))) (wpIn_skip ?_)
                refine wpIn_mono (awp_soundIn (ro := none) (n := 1) (d := []) hE5 T_ok _ _ (contQ fun s => ∃ r, entS r s (kidS v ks l (k + 1))) _ _ _ rfl hd6 hR6 ?_) ?_
                · conv => whnf
                  repeat (any_goals (first
                    | (refine ⟨fun (h : (_ : Bool) = true) => ?_, fun (h : (_ : Bool) = false) => ?_⟩ <;> (try simp only [decide_eq_true_eq, decide_eq_false_iff_not, Bool.not_eq_true', Bool.not_eq_false', Int.toNat_natCast, beq_iff_eq, decide_eq_decide, beq_eq_false_iff_ne, ne_eq, reduceCtorEq] at h) <;> (conv => whnf))
                    | (refine And.intro (by (try simp only [Int.toNat_natCast]); omega) ?_; conv => whnf)
                    | (refine And.intro (show (_ : Bool) = true from by kernel_rfl) ?_; conv => whnf)
                    | (refine .inl ⟨wrap64 (by omega), ?_⟩; conv => whnf)))
                  refine ⟨[], ?_⟩
                  (repeat' (first | exact PSub.rfl | exact rfl | exact PSubs.rfl | exact trivial | exact PSub.lit_sb rfl | refine And.intro ?_ ?_))
                rintro e a7 w7 ⟨hd7, he⟩
                cases e with
                | normal =>
                  obtain ⟨s7, σ10, ⟨r7, hent7⟩, hR7⟩ := he
                  obtain ⟨σ11, hR7⟩ := entS_sound hent7 _ σ10 _ w7 hE5 hR7
                  have hσ11 : σ11 = fun _ => none := funext fun i => hR7.nob i rfl
                  subst hσ11
                  obtain ⟨hi7, hR7, hx7⟩ := toR (k := 0) rfl hi5 hR7
                  refine ⟨⟨k + 1, hlt, hJ _ _ _ hJ5 hx7, hd7, hi7, hR7⟩, ?_⟩
                  rw [hμ, show slotN (a7.tmps.getD 8 undef) = k + 1 from by
                    have := pr_val (arg_pv (hR7.tm 8))
                    rw [this]
                    show ((k + 1 : Nat) : Int).toNat = k + 1
                    omega]
                  omega
                | exit i => obtain ⟨_, _, h, _⟩ := he; exact h.elim
                | ret => obtain ⟨_, _, h, _⟩ := he; exact h.elim
                | goto t => exact he.elim
                | panic c => exact he.elim
                | outgrown => exact he.elim
              · conv => whnf
                refine ⟨[], ?_⟩
                refine And.intro (PSub.sb_lit rfl) ?_
                (repeat' (first | exact PSub.rfl | exact rfl | exact PSubs.rfl | exact trivial | exact PSub.lit_sb rfl | refine And.intro ?_ ?_))
            · refine ⟨_, rfl, ?_⟩
              change wpOpsIn _ _ _ _ _ (List.range' 7 1 ++ []) _ _
              refine arun_part (d := []) (K := fun s => ∃ r, entS r s ⟨(19, .pv (.val (.bool true))) :: (kidS v ks l k).tm, []⟩) hE5 T_ok 7 1 (Nat.le_of_ble_eq_true rfl) ?_ rfl hd4 (hR5 false) ?_
              · intro s6 σ8 a6 w6 hent hR6 hd6
                obtain ⟨r6, hent⟩ := hent
                obtain ⟨σ9, hR6⟩ := entS_sound hent _ σ8 _ w6 hE5 hR6
                refine wpIn_cond_true (pr_val (arg_pv (hR6.tm 19))) (wpIn_ret ?_)
                have hx6 : FExt (fun _ => False) w5 w6 := hR6.ext.mono fun b _ h => absurd h (own_none b)
                exact ⟨hd6, _, results_none rfl _ _ _, _, rfl, .inr (hJx _ _ hJx5 hx6)⟩
              · conv => whnf
                refine ⟨[], ?_⟩
                refine And.intro (PSub.sb_lit rfl) ?_
                (repeat' (first | exact PSub.rfl | exact rfl | exact PSubs.rfl | exact trivial | exact PSub.lit_sb rfl | refine And.intro ?_ ?_))
          · conv => whnf
            repeat (any_goals (first
              | (refine ⟨fun (h : (_ : Bool) = true) => ?_, fun (h : (_ : Bool) = false) => ?_⟩ <;> (try simp only [decide_eq_true_eq, decide_eq_false_iff_not, Bool.not_eq_true', Bool.not_eq_false', Int.toNat_natCast, beq_iff_eq, decide_eq_decide, beq_eq_false_iff_ne, ne_eq, reduceCtorEq] at h) <;> (conv => whnf))
              | (refine .inl ⟨_, ih k hlt, ?_⟩; conv => whnf)
              | (refine And.intro (by (try simp only [Int.toNat_natCast]); omega) ?_; conv => whnf)
              | (refine And.intro (show (_ : Bool) = true from by kernel_rfl) ?_; conv => whnf)
              | (refine .inl ⟨wrap64 (by omega), ?_⟩; conv => whnf)))
            refine ⟨[], ?_⟩
            (repeat' (first | exact PSub.rfl | exact rfl | exact PSubs.rfl | exact trivial | exact PSub.lit_sb rfl | refine And.intro ?_ ?_))
        | exit i => obtain ⟨_, _, h, _⟩ := he; exact h.elim
        | ret => obtain ⟨_, _, h, _⟩ := he; exact h.elim
        | goto t => exact he.elim
        | panic c => exact he.elim
        | outgrown => exact he.elim
      | exit i => obtain ⟨_, _, h, _⟩ := he; exact h.elim
      | ret => obtain ⟨_, _, h, _⟩ := he; exact h.elim
      | goto t => exact he.elim
      | panic c => exact he.elim
      | outgrown => exact he.elim
    · refine wpIn_mono (awp_soundIn (ro := none) (n := 1) (d := []) hE T_ok _ _ (exit0Q fun s => ∃ r, entS r s (kidS v ks l k)) _ _ _ rfl hd hR ?_) ?_
      · conv => whnf
        refine ⟨fun h => ?_, fun h => ?_⟩ <;> (try simp only [decide_eq_true_eq, decide_eq_false_iff_not, Bool.not_eq_true', Bool.not_eq_false', Int.toNat_natCast, beq_iff_eq, decide_eq_decide, beq_eq_false_iff_ne, ne_eq, reduceCtorEq] at h) <;> (conv => whnf)
        · exfalso; omega
        · refine ⟨[], ?_⟩
          (repeat' (first | exact PSub.rfl | exact rfl | exact PSubs.rfl | exact trivial | exact PSub.lit_sb rfl | refine And.intro ?_ ?_))
      · rintro e a2 w2 ⟨hd2, he⟩
        cases e with
        | exit i =>
          obtain ⟨s2, σ2, h2, hR2⟩ := he
          match i, h2 with
          | 0, ⟨r2, hent2⟩ =>
            obtain ⟨σ3, hR2⟩ := entS_sound hent2 _ σ2 _ w2 hE hR2
            have hJ2 := hJ k w w2 hJk (hR2.ext.mono fun b _ h => absurd h (own_none b))
            have hkN : k = ks.length := by omega
            subst hkN
            exact ⟨hd2, _, results_none rfl _ _ _, _, rfl, .inl hJ2⟩
        | normal => obtain ⟨_, _, h, _⟩ := he; exact h.elim
        | ret => obtain ⟨_, _, h, _⟩ := he; exact h.elim
        | goto t => exact he.elim
        | panic c => exact he.elim
        | outgrown => exact he.elim
  | exit i => obtain ⟨_, _, h, _⟩ := he; exact h.elim
  | ret => obtain ⟨_, _, h, _⟩ := he; exact h.elim
  | goto t => exact he.elim
  | panic c => exact he.elim
  | outgrown => exact he.elim
theorem jun_ok {x : Val} (h : (fndV x).2 = true) : (fndV x).1 = x ∧ x.kind ≠ 0 := by
  by_cases hk : x.kind = 0
  · rw [fndV_no hk] at h; cases h
  · rw [fndV_yes hk]; exact ⟨rfl, hk⟩
theorem jun_un {x : Val} (h : (fndV x).2 = false) : x.kind = 0 := by
  by_cases hk : x.kind = 0
  · exact hk
  · rw [fndV_yes hk] at h; cases h
def opnB (v : Vw) (ks : List Ex) (k : Nat) : Bool := !decide (∀ j, j < k → (evR v (ks.getD j default)).kind = 1)
def jTm (v : Vw) (ks : List Ex) : List (Nat × AV) := [(5, .ptr 900005 0), (6, .ptr 900006 0), (7, .ptr 900007 0), (8, .ptr 900008 0), (13, .fn 163 ([.cell [roL 11 cEx ks], .cell (cVw v)].map .pv))]
def jOb (v : Vw) (ks : List Ex) (d : Bool) (k : Nat) : List (Nat × AObj) := [(900005, .pbox [vint (if d = true then 1 else 0)]), (900006, .pbox (cVal noVal)), (900007, .pbox [.val (.bool false)]), (900008, .pbox [.sb (opnB v ks k)])]
def jOx (v : Vw) (ks : List Ex) (d : Bool) (k : Nat) : List (Nat × AObj) := [(900005, .pbox [vint (if d = true then 1 else 0)]), (900006, .pbox (cVal (truV d))), (900007, .pbox [.sb true]), (900008, .pbox [.sb (opnB v ks k)])]
def jSa (v : Vw) (ks : List Ex) (d : Bool) (k : Nat) : AState := ⟨[(9, .ptr 9 0), (10, .pv (kidX v ks k).2), (5, .ptr 900005 0), (6, .ptr 900006 0), (7, .ptr 900007 0), (8, .ptr 900008 0)], (9, .pbox (cVal (fndV (evR v (ks.getD k default))).1)) :: jOb v ks d k⟩
def jFin (v : Vw) (ks : List Ex) (d : Bool) (k : Nat) (r : Val × Bool) : AState := ⟨[(6, .ptr 900006 0), (7, .ptr 900007 0)], [(900005, .pbox [vint (if d = true then 1 else 0)]), (900006, .pbox (cVal r.1)), (900007, .pbox [.sb r.2]), (900008, .pbox [.sb (opnB v ks k)])]⟩
theorem ac_eval_junction (v : Vw) (ks : List Ex) (d : Bool) (hv : smallV2 v) (hl : smallL ks) (hok : ∀ i, i < ks.length → okN (ks.getD i default))
    (ih : ∀ i, i < ks.length → AC Tryz.prog 45 [.pv (.agg (cVw v)), .pv (.agg (cEx (ks.getD i default)))] [] (.pv (.tup [.agg (cVal (fndV (evR v (ks.getD i default))).1), vbool (fndV (evR v (ks.getD i default))).2])) []) :
    AC Tryz.prog 84 [.pv (.agg (cVw v)), .pv (roL 11 cEx ks), .pv (vint (if d = true then 1 else 0))] [] (.pv (.tup [.agg (cVal (fndV (chainV (evL v ks) d)).1), vbool (fndV (chainV (evL v ks) d)).2])) [] := by
  refine ⟨Tryz.call84, fun St M0 σ w vals hi hσ _ hlv hA => ?_⟩
  have hσ' : σ = fun _ => none := funext fun l => hσ l rfl
  subst hσ'
  have hM : ∀ b, M0 b → b < w.heap.size := fun b hb => (hi.m0 b hb).1
  have hg : Glob w M0 := hi.gl.mono (Same.refl _ _) (fun b _ h => .inl h)
  have hi0 := inv_none hM hg
  have hE0 := reE_ok (nt := 43) hi0
  have toM : ∀ {p : PV} {x : Value}, PR w (Mof M0 (fun _ => none)) p x → PR w M0 p x := fun h => h.mono (Same.refl _ _) fun b _ h => .inl h
  have hR0 : Rel Tryz.prog (reE 43 M0 (fun _ => none) w) ⟨argTm 0 [.pv (.agg (cVw v)), .pv (roL 11 cEx ks), .pv (vint (if d = true then 1 else 0))], []⟩ (fun _ => none) ⟨vals ++ Array.replicate (43 - vals.size) undef, []⟩ w :=
    rel_args hlv (Nat.le_of_ble_eq_true rfl) rfl (fun i x e => by
      match i, e with
      | 0, e => simp at e; subst e; exact .pv _ _ (toM (arg_pv (hA 0 _ rfl)))
      | 1, e => simp at e; subst e; exact .pv _ _ (toM (arg_pv (hA 1 _ rfl)))
      | 2, e => simp at e; subst e; exact .pv _ _ (toM (arg_pv (hA 2 _ rfl)))
      | i + 3, e => simp at e)
  refine (callsIn_wf (n := 1) (ro := none)).1 (callsIn_of_wp_marks Tryz.func84 rfl trivial ?_)
  refine pre3 (d := []) (K := fun s => ∃ r, entS r s ⟨jTm v ks, jOb v ks d 0⟩) hE0 T_ok rfl rfl hR0 ?_ ?_
  · conv => whnf
    repeat (any_goals (first
      | (refine ⟨fun (h : (_ : Bool) = true) => ?_, fun (h : (_ : Bool) = false) => ?_⟩ <;> (try simp only [decide_eq_true_eq, decide_eq_false_iff_not, Bool.not_eq_true', Bool.not_eq_false', Int.toNat_natCast, beq_iff_eq, decide_eq_decide, beq_eq_false_iff_ne, ne_eq, reduceCtorEq] at h) <;> (conv => whnf))
      | (refine .inr (.inr (.inr (.inr ⟨[], [], _, _, _, ac_eval_kids v ks, rfl, ?_⟩))); conv => whnf)
      | (refine And.intro (by (try simp only [Int.toNat_natCast]); omega) ?_; conv => whnf)
      | (refine And.intro (show (_ : Bool) = true from by kernel_rfl) ?_; conv => whnf)
      | (refine .inl ⟨wrap64 (by omega), ?_⟩; conv => whnf)))
    refine ⟨[(900005, 5), (900006, 6), (900007, 7), (900008, 8)], ?_⟩
    (repeat' (first | exact PSub.rfl | exact rfl | exact PSubs.rfl | exact trivial | exact PSub.lit_sb rfl | refine And.intro ?_ ?_))
  rintro s1 σ1 a1 w1 ⟨r, hent⟩ hd1 hR1
  obtain ⟨σ2, hR1⟩ := entS_sound hent _ σ1 _ w1 hE0 hR1
  clear hent hR0
  refine wpIn_block ?_
  obtain ⟨c0, c1, hc, hc0, hc1⟩ : ∃ c0 c1, a1.eval (.tmp 13) = .func (.func 163) #[] #[c0, c1] ∧ PR w1 (Mof M0 σ2) (.cell [roL 11 cEx ks]) c0 ∧ PR w1 (Mof M0 σ2) (.cell (cVw v)) c1 := by
    have h := hR1.tm 13
    change AR _ _ _ _ _ (.fn 163 ([.cell [roL 11 cEx ks], .cell (cVw v)].map .pv)) (a1.eval (.tmp 13)) at h
    generalize a1.eval (.tmp 13) = x at h ⊢
    cases h with
    | fn _ _ vs hl h =>
      have hl : vs.size = 2 := hl
      refine ⟨vs.getD 0 undef, vs.getD 1 undef, ?_, arg_pv (h 0 _ rfl), arg_pv (h 1 _ rfl)⟩
      congr 1
      apply Array.ext
      · simpa using hl
      · intro i h1 h2
        have : i = 0 ∨ i = 1 := by omega
        rcases this with rfl | rfl <;> simp [Array.getD, hl]
  have hw1 : FExt (fun b => w.heap.size ≤ b) w w1 := hR1.ext.mono fun b _ h => absurd h (own_none b)
  have hown : ∀ b, owned σ2 b → w.heap.size ≤ b := fun b hb => (hR1.own b hb).elim (fun h => absurd h (own_none b)) id
  have hkeys : ∀ k i, (getO (jOb v ks d k) i = none ↔ getO (jOb v ks d 0) i = none) := fun k i => getO_keys (l := jOb v ks d k) (l' := jOb v ks d 0) rfl i
  have hkx : ∀ k i, (getO (jOx v ks d k) i = none ↔ getO (jOb v ks d 0) i = none) := fun k i => getO_keys (l := jOx v ks d k) (l' := jOb v ks d 0) rfl i
  refine range_sound (d := []) (N := ks.length) (xs := kidX v ks) (ob := jOb v ks d) (Sa := jSa v ks d) (ox := jOx v ks d) (G := fun k => ∀ j, j < k → evR v (ks.getD j default) ≠ truV d) (C := fun k => evR v (ks.getD k default) = truV d) T_ok hE0 hd1 hR1 hc Tryz.call163
    (fun M W hMb hMs hgW hx => kids_yields v ks hl ih hMs hgW (hc0.mono (hx.same.mono fun _ _ h => h.elim) hMb) (hc1.mono (hx.same.mono fun _ _ h => h.elim) hMb))
    (fun _ _ => rfl) (fun _ _ => rfl) (fun _ _ => rfl) (fun j h => absurd h (by omega)) (fun i h => ?_) (fun k _ => hkeys k) (fun k _ i h => ?_) (fun k _ => hkx k) (Nat.le_of_ble_eq_true rfl) (Nat.le_of_ble_eq_true rfl) rfl rfl (fun k hk => ?_) (fun k hk hG => ?_) ?_ ?_
  · have := getO_some h
    simp [jOb] at this
    omega
  · have h1 := getO_some h
    intro h2
    have h2 := getO_none.1 h2
    simp [jSa, jOb] at h1 h2
    omega
  · conv => whnf
    refine ⟨[], ?_⟩
    (repeat' (first | exact PSub.rfl | exact rfl | exact PSubs.rfl | exact trivial | exact PSub.lit_sb rfl | refine And.intro ?_ ?_))
  · have hb := evR_ok v (hok k hk)
    have htr : AC Tryz.prog 79 [.pv (vbool (decide ((if d = true then (1 : Int) else 0) = 1)))] [] (.pv (.tup [.agg (cVal (truV d)), vbool true])) [] := by
      rw [show decide ((if d = true then (1 : Int) else 0) = 1) = d from by cases d <;> rfl]
      exact ac_eval_truth d
    have op1 : ∀ (h : (evR v (ks.getD k default)).kind ≠ 1), true = opnB v ks (k + 1) := fun h => by
      unfold opnB
      rw [decide_eq_false (fun h2 => h (h2 k (by omega)))]; rfl
    have op0 : ∀ (h : (evR v (ks.getD k default)).kind = 1), opnB v ks k = opnB v ks (k + 1) := fun h => by
      unfold opnB
      congr 1
      rw [decide_eq_decide]
      exact ⟨fun h2 j hj => (if e : j = k then e ▸ h else h2 j (by omega)), fun h2 j hj => h2 j (by omega)⟩
    have go1 : evR v (ks.getD k default) ≠ truV d → ∀ j, j < k + 1 → evR v (ks.getD j default) ≠ truV d := fun h j hj => by
      by_cases e : j = k
      · subst e; exact h
      · exact hG j (by omega)
    conv => whnf
    repeat (any_goals (first
      | (refine ⟨fun (h : (_ : Bool) = true) => ?_, fun (h : (_ : Bool) = false) => ?_⟩ <;> (try simp only [decide_eq_true_eq, decide_eq_false_iff_not, Bool.not_eq_true', Bool.not_eq_false', Int.toNat_natCast, beq_iff_eq, decide_eq_decide, beq_eq_false_iff_ne, ne_eq, reduceCtorEq] at h) <;> (conv => whnf))
      | (refine .inl ⟨_, htr, ?_⟩; conv => whnf)
      | (refine And.intro (by (try simp only [Int.toNat_natCast]); omega) ?_; conv => whnf)
      | (refine And.intro (show (_ : Bool) = true from by kernel_rfl) ?_; conv => whnf)
      | (refine .inl ⟨wrap64 (by omega), ?_⟩; conv => whnf)))
    · refine ⟨go1 fun e => ?_, [], ?_⟩
      · rw [e] at h; cases d <;> cases h
      · have h2 := jun_un h
        (repeat' (first | exact PSub.rfl | exact rfl | exact PSubs.rfl | exact trivial | exact PSub.lit_sb rfl | refine And.intro ?_ ?_))
        exact PSub.lit_sb (op1 (by omega))
    · have h2 := jun_ok (by assumption)
      rw [h2.1] at h
      refine ⟨go1 fun e => ?_, [], ?_⟩
      · rw [e] at h; exact h rfl
      · (repeat' (first | exact PSub.rfl | exact rfl | exact PSubs.rfl | exact trivial | exact PSub.lit_sb rfl | refine And.intro ?_ ?_))
        exact PSub.lit_sb (op1 h)
    · rename_i h1 h2
      have h3 := jun_ok h1
      rw [h3.1] at h h2
      refine ⟨?_, [], ?_⟩
      · rcases valE_bool hb h2 with e | e
        · rw [e] at h ⊢; cases d
          · cases h
          · rfl
        · rw [e] at h ⊢; cases d
          · rfl
          · cases h
      · (repeat' (first | exact PSub.rfl | exact rfl | exact PSubs.rfl | exact trivial | exact PSub.lit_sb rfl | refine And.intro ?_ ?_))
    · rename_i h1 h2
      have h3 := jun_ok h1
      rw [h3.1] at h h2
      refine ⟨go1 fun e => ?_, [], ?_⟩
      · rw [e] at h; exact h rfl
      · (repeat' (first | exact PSub.rfl | exact rfl | exact PSubs.rfl | exact trivial | exact PSub.lit_sb rfl | refine And.intro ?_ ?_))
        rw [← op0 h2]; exact PSub.rfl
  · -- behind the loop
    intro M1 D W hG hMM hD hDw hWD hiW hRW hx
    have hxW : FExt (fun b => w.heap.size ≤ b) w W := hw1.trans (hx.mono fun b _ hb => hown b hb)
    have hEW := reE_ok (nt := 43) hiW
    have htr : AC Tryz.prog 79 [.pv (vbool (decide ((if d = true then (1 : Int) else 0) = 0)))] [] (.pv (.tup [.agg (cVal (truV (!d))), vbool true])) [] := by
      rw [show decide ((if d = true then (1 : Int) else 0) = 0) = !d from by cases d <;> rfl]
      exact ac_eval_truth (!d)
    have hch : chainV (evL v ks) d = if opnB v ks ks.length = true then noVal else truV (!d) := by
      unfold chainV
      have hany : ((evL v ks).any fun x => decide (x = truV d)) = false := by
        rw [List.any_eq_false]
        intro x hx
        obtain ⟨i, hi, rfl⟩ := List.getElem_of_mem hx
        have hi2 : i < ks.length := by rw [evL_length] at hi; exact hi
        have := hG i hi2
        rw [← evL_getD v ks i hi2] at this
        simpa [List.getD, hi] using this
      rw [hany]
      have hall : ((evL v ks).all fun x => decide (x.kind = 1)) = !opnB v ks ks.length := by
        unfold opnB
        rw [Bool.not_not, Bool.eq_iff_iff, List.all_eq_true, decide_eq_true_iff]
        constructor
        · intro h j hj
          rw [← evL_getD v ks j hj]
          have hj2 : j < (evL v ks).length := by rw [evL_length]; exact hj
          have := h _ (List.getElem_mem hj2)
          simpa [List.getD, hj2] using this
        · intro h x hx
          obtain ⟨i, hi, rfl⟩ := List.getElem_of_mem hx
          have hi2 : i < ks.length := by rw [evL_length] at hi; exact hi
          have := h i hi2
          rw [← evL_getD v ks i hi2] at this
          simpa [List.getD, hi] using this
      rw [hall]
      cases opnB v ks ks.length <;> rfl
    refine wpIn_mono (awp_soundIn (ro := none) (n := 1) (d := [{ target := .collected D, args := #[] }]) hEW T_ok _ _ (endQ fun s => ∃ r, entS r s (jFin v ks d ks.length (fndV (chainV (evL v ks) d)))) σ2 _ W rfl rfl hRW ?_) ?_
    · conv => whnf
      repeat (any_goals (first
        | (refine ⟨fun (h : (_ : Bool) = true) => ?_, fun (h : (_ : Bool) = false) => ?_⟩ <;> (try simp only [decide_eq_true_eq, decide_eq_false_iff_not, Bool.not_eq_true', Bool.not_eq_false', Int.toNat_natCast, beq_iff_eq, decide_eq_decide, beq_eq_false_iff_ne, ne_eq, reduceCtorEq] at h) <;> (conv => whnf))
        | (refine .inl ⟨_, ac_eval_unknown, ?_⟩; conv => whnf)
        | (refine .inl ⟨_, htr, ?_⟩; conv => whnf)
        | (refine And.intro (by (try simp only [Int.toNat_natCast]); omega) ?_; conv => whnf)
        | (refine And.intro (show (_ : Bool) = true from by kernel_rfl) ?_; conv => whnf)
        | (refine .inl ⟨wrap64 (by omega), ?_⟩; conv => whnf)))
      · rw [hch, if_pos h, show fndV noVal = (noVal, false) from rfl]
        refine ⟨[], ?_⟩
        (repeat' (first | exact PSub.rfl | exact rfl | exact PSubs.rfl | exact trivial | exact PSub.lit_sb rfl | refine And.intro ?_ ?_))
      · rw [hch, if_neg (show ¬ opnB v ks ks.length = true from by rw [h]; decide), show fndV (truV (!d)) = (truV (!d), true) from rfl]
        refine ⟨[], ?_⟩
        (repeat' (first | exact PSub.rfl | exact rfl | exact PSubs.rfl | exact trivial | exact PSub.lit_sb rfl | refine And.intro ?_ ?_))
    · rintro e a3 W3 ⟨hd3, he⟩
      have fin : ∀ s σ3, (∃ r, entS r s (jFin v ks d ks.length (fndV (chainV (evL v ks) d)))) → Rel Tryz.prog (reE 43 M1 σ2 W) s σ3 ⟨a3.tmps, []⟩ W3 → LeavesInM (WF none) 1 Tryz.prog Tryz.f84 a3.tmps (fun e w' => ∃ x σ', e = .returned x ∧ Post Tryz.prog St M0 (fun _ => none) w [] (.pv (.tup [.agg (cVal (fndV (chainV (evL v ks) d)).1), vbool (fndV (chainV (evL v ks) d)).2])) σ' x w') a3.defers .returning W3 := by
        rintro s σ3 ⟨r, hent⟩ hR3
        obtain ⟨σ4, hR3⟩ := entS_sound hent _ σ3 _ W3 hEW hR3
        exact marks_end T_ok hiW hR3 rfl (by refine ⟨?_, ?_⟩ <;> exact PSub.rfl) rfl hD (Nat.le_trans hw1.size hDw) hWD hd3 hxW hown
      cases e with
      | normal => obtain ⟨s, σ3, h1, h2⟩ := he; exact fin s σ3 h1 h2
      | ret => obtain ⟨s, σ3, h1, h2⟩ := he; exact fin s σ3 h1 h2
      | exit i => obtain ⟨_, _, h, _⟩ := he; exact h.elim
      | goto t => exact he.elim
      | panic c => exact he.elim
      | outgrown => exact he.elim
  · intro M1 D W k hk hC hMM hD hDw hWD hiW hRW hx
    have hxW : FExt (fun b => w.heap.size ≤ b) w W := hw1.trans (hx.mono fun b _ hb => hown b hb)
    have hEW := reE_ok (nt := 43) hiW
    have hch : chainV (evL v ks) d = truV d := by
      unfold chainV
      rw [if_pos]
      rw [List.any_eq_true]
      have hk2 : k < (evL v ks).length := by rw [evL_length]; exact hk
      refine ⟨(evL v ks)[k], List.getElem_mem hk2, decide_eq_true ?_⟩
      have := evL_getD v ks k hk
      rw [hC] at this
      simpa [List.getD, hk2] using this
    have hent : entS [] ⟨jTm v ks, jOx v ks d k⟩ (jFin v ks d k (fndV (chainV (evL v ks) d))) := by
      rw [hch, show fndV (truV d) = (truV d, true) from rfl]
      (repeat' (first | exact PSub.rfl | exact rfl | exact PSubs.rfl | exact trivial | exact PSub.lit_sb rfl | refine And.intro ?_ ?_))
    obtain ⟨σ4, hR3⟩ := entS_sound hent _ σ2 _ W hEW hRW
    exact marks_end (a' := ⟨a1.tmps, [{ target := .collected D, args := #[] }]⟩) T_ok hiW hR3 rfl (by refine ⟨?_, ?_⟩ <;> exact PSub.rfl) rfl hD (Nat.le_trans hw1.size hDw) hWD rfl hxW hown
end Go.Abs
