/- YtgbhffppbdppaaaGreatY00: walks and contracts. -/
import Derived.Test.YtgbhffppbdppaaaGreatX06
import Derived.IntWalk

set_option linter.unusedVariables false
set_option linter.unusedSimpArgs false
set_option linter.unusedSectionVars false

namespace Go.Abs
open Go.RowKit
variable [Globals]
theorem PSub.nilL {α : Type} [Inhabited α] {size : Nat} {enc : α → List PV} {l : List α} (h : l = []) : PSub (.val (.slice none 0 0)) (roL size enc l) := by
  subst h; exact PSub.nil_ro _ _
end Go.Abs

namespace Go.Abs
open Go.RowKit
theorem cells_bool {P : Program} {w : World} {r : Go.Reach} {base : Nat} {t : TypeId} {v : Value} (ht : P.underlying t = some .bool) (h : Value.okWide P w r base t v) : v.cells.toList = [v] := by
  cases v <;> first | rfl | simp [Value.okWide, ht, Cell.okWide, Cell.ok] at h
theorem cells_string {P : Program} {w : World} {r : Go.Reach} {base : Nat} {t : TypeId} {v : Value} (ht : P.underlying t = some .string) (h : Value.okWide P w r base t v) : v.cells.toList = [v] := by
  cases v <;> first | rfl | simp [Value.okWide, ht, Cell.okWide, Cell.ok] at h
end Go.Abs

namespace Go.Abs
open Go.Proofs
set_option maxRecDepth 10000
theorem ixI_nonneg {n k : Nat} (h : ¬ ixI n k < 0) : k < n ∧ ixI n k = (k : Int) := by
  unfold ixI at *
  split <;> rename_i h2
  · exact ⟨h2, rfl⟩
  · rw [if_neg h2] at h; omega
end Go.Abs

namespace Go.Abs
theorem putS_length (l : List ByteArray) (k : ByteArray) : (putS l k).length ≤ l.length + 1 := by
  induction l with
  | nil => simp [putS]
  | cons y r ih =>
    unfold putS
    split
    · simp only [List.length_cons]; omega
    · simp only [List.length_cons]
      have := List.length_filter_le (fun z => decide (z ≠ k)) (y :: r)
      simp only [List.length_cons] at this
      omega
theorem foldl_putS_length {l acc : List ByteArray} : (l.foldl putS acc).length ≤ acc.length + l.length := by
  induction l generalizing acc with
  | nil => simp
  | cons y r ih =>
    have h1 := ih (acc := putS acc y)
    have h2 := putS_length acc y
    simp only [List.foldl_cons, List.length_cons]; omega
theorem sortS_length (l : List ByteArray) : (sortS l).length ≤ l.length := by
  have := foldl_putS_length (l := l) (acc := [])
  simpa [sortS] using this
def insL (m : List ByteArray) (x : ByteArray) (j : Nat) : List ByteArray := m.take j ++ x :: m.drop j
theorem insL_length {m : List ByteArray} {x : ByteArray} {j : Nat} (h : j ≤ m.length) : (insL m x j).length = m.length + 1 := by
  unfold insL
  rw [List.length_append, List.length_take, List.length_cons, List.length_drop]
  omega
theorem insL_getD {m : List ByteArray} {x : ByteArray} {j i : Nat} (h : j ≤ m.length) : (insL m x j).getD i default = if i < j then m.getD i default else if i = j then x else m.getD (i - 1) default := by
  unfold insL
  by_cases h1 : i < j
  · rw [if_pos h1]
    have h2 : i < (m.take j).length := by rw [List.length_take]; omega
    simp [List.getD, List.getElem?_append_left h2, List.getElem?_take, h1]
  · rw [if_neg h1]
    have h2 : (m.take j).length ≤ i := by rw [List.length_take]; omega
    have h3 : (m.take j).length = j := by rw [List.length_take]; omega
    by_cases h4 : i = j
    · rw [if_pos h4]
      subst h4
      simp [List.getD, List.getElem?_append_right h2, h3]
    · rw [if_neg h4]
      simp only [List.getD, List.getElem?_append_right h2, h3]
      obtain ⟨d, rfl⟩ : ∃ d, i = j + (d + 1) := ⟨i - j - 1, by omega⟩
      rw [show j + (d + 1) - j = d + 1 by omega, List.getElem?_cons_succ, List.getElem?_drop, show j + (d + 1) - 1 = j + d by omega]
theorem insL_putS {m : List ByteArray} {x : ByteArray} {j : Nat} (hA : AscS m) (hx : x ∉ m) (hj : j ≤ m.length) (h1 : ∀ i, j ≤ i → i < m.length → sLt x (m.getD i default) = true) (h2 : j = 0 ∨ sLt x (m.getD (j - 1) default) = false) : insL m x j = putS m x := by
  refine ascS_ext ?_ (ascS_putS hA) fun y => ?_
  · unfold insL
    refine List.pairwise_append.2 ⟨hA.sublist (List.take_sublist _ _), List.pairwise_cons.2 ⟨fun y hy => ?_, hA.sublist (List.drop_sublist _ _)⟩, fun a ha b hb => ?_⟩
    · obtain ⟨i, hi, rfl⟩ := List.getElem_of_mem hy
      have hi' : j + i < m.length := by rw [List.length_drop] at hi; omega
      have := h1 (j + i) (by omega) hi'
      rw [getD_getElem _ _ hi'] at this
      simpa using this
    · obtain ⟨i, hi, rfl⟩ := List.getElem_of_mem ha
      rw [List.length_take] at hi
      have him : i < m.length := by omega
      have hax : sLt m[i] x = true := by
        have h3 := h2.resolve_left (by omega)
        rw [getD_getElem _ _ (show j - 1 < m.length by omega)] at h3
        have hne : m[j - 1] ≠ x := fun e => hx (e ▸ List.getElem_mem (show j - 1 < m.length by omega))
        have h4 := (sLt_total hne).resolve_right (by rw [h3]; simp)
        by_cases e : i = j - 1
        · subst e; exact h4
        · exact sLt_trans (List.pairwise_iff_getElem.1 hA i (j - 1) him (by omega) (by omega)) h4
      rw [List.getElem_take]
      rcases List.mem_cons.1 hb with rfl | hb
      · exact hax
      · obtain ⟨q, hq, rfl⟩ := List.getElem_of_mem hb
        have hq' : j + q < m.length := by rw [List.length_drop] at hq; omega
        rw [List.getElem_drop]
        exact List.pairwise_iff_getElem.1 hA i (j + q) him hq' (by omega)
  · rw [mem_putS]
    unfold insL
    rw [List.mem_append, List.mem_cons]
    constructor
    · rintro (h | h | h)
      · exact .inr (List.mem_of_mem_take h)
      · exact .inl h
      · exact .inr (List.mem_of_mem_drop h)
    · rintro (h | h)
      · exact .inr (.inl h)
      · rw [← List.take_append_drop j m, List.mem_append] at h
        rcases h with h | h
        · exact .inl h
        · exact .inr (.inr h)
theorem sortS_snoc (l : List ByteArray) (x : ByteArray) : sortS (l ++ [x]) = putS (sortS l) x := by simp [sortS]
end Go.Abs

namespace Go.Abs
open Go.Proofs
set_option maxRecDepth 10000
theorem getD_set {α : Type} [Inhabited α] {l : List α} {i j : Nat} {x : α} : (l.set i x).getD j default = if j = i ∧ i < l.length then x else l.getD j default := by
  by_cases e : j = i
  · subst e
    by_cases h : j < l.length
    · rw [if_pos ⟨rfl, h⟩]; simp [List.getD, h]
    · rw [if_neg (by omega)]; simp [List.getD, Nat.le_of_not_lt h]
  · rw [if_neg (by omega)]
    simp [List.getD, List.getElem?_set_ne (Ne.symm e)]
end Go.Abs

namespace Go.Abs
open Go.Proofs
variable [Globals]
def arrL (l : List Mem) (name : ByteArray) (home : Bool) : List Mem := if mbrAt l name < l.length then l.set (mbrAt l name) { l.getD (mbrAt l name) default with home := home } else []
def arrE (l : List Mem) (name : ByteArray) : Int := if mbrAt l name < l.length then 0 else 8
end Go.Abs

namespace Go.Abs
open Go.Proofs
variable [Globals]
theorem arr_len {l : List Mem} {name : ByteArray} {b : Bool} (h : mbrAt l name < l.length) : (arrL l name b).length = l.length := by
  unfold arrL; rw [if_pos h, List.length_set]
theorem arr_get {l : List Mem} {name : ByteArray} {b : Bool} (h : mbrAt l name < l.length) {j : Nat} (hj : j < l.length) : (arrL l name b).getD j default = if j = mbrAt l name then { l.getD j default with home := b } else l.getD j default := by
  unfold arrL; rw [if_pos h]
  rw [getD_getElem _ _ (by rw [List.length_set]; exact hj), List.getElem_set, getD_getElem _ _ hj, getD_getElem _ _ h]
  by_cases e : j = mbrAt l name
  · rw [if_pos e, if_pos e.symm]; simp only [e]
  · rw [if_neg e, if_neg (fun x => e x.symm)]
end Go.Abs

namespace Go.Abs
open Go.Proofs
set_option maxRecDepth 10000
theorem ac_slices_Clone_Member (n : Nat) (g : Nat → List PV) (hn : n ≤ 1048576) : AC Tryz.prog 58 [.pv (.ro 5 n g)] [] (.own 0) [(0, .row 5 n g)] := by
  refine AC.nil_split (pre := []) (post := []) ?_ (fun h => ?_)
  · refine AC.of_awp_own (T := T) T_ok hm Tryz.call58 Tryz.func58 rfl rfl rfl ?_
    conv => whnf
    refine ⟨by omega, ?_⟩
    conv => whnf
    exact ⟨by omega, fun i hi => by simpa using PSubs.rfl⟩
  · refine AC.of_awp_own (T := T) T_ok hm Tryz.call58 Tryz.func58 rfl rfl rfl ?_
    conv => whnf
    exact h
end Go.Abs

namespace Go.Abs
open Go.Proofs
set_option maxRecDepth 10000
theorem ac_member_Arrive_1 (x : Mem) (s : ByteArray) : AC Tryz.prog 57 [.pv (.agg (cMem x)), .pv (.cell [vstr s])] [] (.pv (vbool (decide (x.name = s)))) [] := by
  refine AC.of_awp (T := T) T_ok hm Tryz.call57 Tryz.func57 rfl rfl rfl ?_
  conv => whnf
  exact .rfl
end Go.Abs

namespace Go.Abs
open Go.Proofs
set_option maxRecDepth 10000
theorem ac_r47_Find (l : List Mem) (s : ByteArray) (hg : goodM l) : AC Tryz.prog 25 [.pv (roL 5 cMem l), .pv (vstr s)] [] (.pv (.tup [.agg (cMem (mbrOf l s)), vbool (decide (mbrAt l s < l.length))])) [] := by
  have hl : l.length ≤ 1048576 := hg.1
  refine AC.of_awp (T := T) T_ok hm Tryz.call25 Tryz.func25 rfl rfl rfl ?_
  conv => whnf
  refine .inl ⟨_, ac_r47_index l l.length s hl, ?_⟩
  conv => whnf
  refine ⟨fun h => ?_, fun h => ?_⟩ <;> (try simp only [decide_eq_true_eq, decide_eq_false_iff_not, Bool.not_eq_true', Bool.not_eq_false', Int.toNat_natCast, beq_iff_eq, decide_eq_decide, beq_eq_false_iff_ne, ne_eq, reduceCtorEq] at h) <;> (conv => whnf)
  · have h1 : ¬ mbrAt l s < l.length := fun hh => by
      have : ixI l.length (mbrAt l s) < 0 := h
      rw [ixI, if_pos hh] at this; omega
    rw [mbrOf, if_neg h1]
    refine ⟨?_, ?_⟩ <;> (conv => whnf)
    · exact PSub.agg ⟨.rfl, .rfl, PSub.nil_ro _ _, PSub.nil_ro _ _, PSub.lit_sb rfl, trivial⟩
    · exact PSub.lit_sb (by simp [h1])
  · have h1 : mbrAt l s < l.length := (ixI_nonneg (k := mbrAt l s) (by have : ¬ ixI l.length (mbrAt l s) < 0 := h; omega)).1
    have h2 : ixI l.length (mbrAt l s) = (mbrAt l s : Int) := by rw [ixI, if_pos h1]
    have h3 : ixI l.length (firstI l.length fun i => decide ((l.getD i default).name = s)) = (mbrAt l s : Int) := h2
    rw [h3]
    rw [mbrOf, if_pos h1]
    refine And.intro (by omega) ?_
    conv => whnf
    refine ⟨?_, ?_⟩ <;> (conv => whnf)
    · exact .rfl
    · exact PSub.lit_sb (by simp [h1])
end Go.Abs

namespace Go.Abs
open Go.Proofs
set_option maxRecDepth 10000
theorem list_ext {l k : List ByteArray} (hl : l.length = k.length) (h : ∀ j, j < l.length → l.getD j default = k.getD j default) : l = k := by
  apply List.ext_getElem hl
  intro i h1 h2
  have := h i h1
  rwa [getD_getElem _ _ h1, getD_getElem _ _ h2] at this
theorem ac_r47_Texts (a b : List ByteArray) (hl : a.length ≤ 8388608) : AC Tryz.prog 26 [.pv (roL 1 cstr a), .pv (roL 1 cstr b)] [] (.pv (vbool (decide (a = b)))) [] := by
  refine AC.of_awp (T := T) T_ok hm Tryz.call26 Tryz.func26 rfl rfl rfl ?_
  conv => whnf
  refine ⟨fun h => ?_, fun h => ?_⟩ <;> (try simp only [decide_eq_true_eq, decide_eq_false_iff_not, Bool.not_eq_true', Bool.not_eq_false', Int.toNat_natCast, beq_iff_eq, decide_eq_decide, beq_eq_false_iff_ne, ne_eq, reduceCtorEq] at h) <;> (conv => whnf)
  · exact PSub.lit_sb (by symm; apply decide_eq_false; intro e; subst e; exact h rfl)
  have hab : a.length = b.length := by omega
  refine loop_k (ι := Nat) [0, 1] [] (fun k => k ≤ a.length ∧ (∀ j, j < k → a.getD j default = b.getD j default)) (fun k => a.length - k) 0 (fun k => [(5, .pv (vint k))]) (fun _ => []) [] ⟨Nat.zero_le _, fun j h => absurd h (by omega)⟩ ?_ (fun k hk => ?_)
  · (repeat' (first | exact PSub.rfl | exact rfl | exact PSubs.rfl | exact trivial | exact PSub.lit_sb rfl | refine And.intro ?_ ?_))
  obtain ⟨hkn, hinv⟩ := hk
  conv => whnf
  repeat (any_goals (first
    | (refine ⟨fun (h : (_ : Bool) = true) => ?_, fun (h : (_ : Bool) = false) => ?_⟩ <;> (try simp only [decide_eq_true_eq, decide_eq_false_iff_not, Bool.not_eq_true', Bool.not_eq_false', Int.toNat_natCast, beq_iff_eq, decide_eq_decide, beq_eq_false_iff_ne, ne_eq, reduceCtorEq] at h) <;> (conv => whnf))
    | (refine And.intro (by (try simp only [Int.toNat_natCast]); omega) ?_; conv => whnf)
    | (refine And.intro (show (_ : Bool) = true from by kernel_rfl) ?_; conv => whnf)
    | (refine .inl ⟨wrap64 (by omega), ?_⟩; conv => whnf)))
  · exact PSub.lit_sb (by symm; apply decide_eq_false; intro e; subst e; exact h rfl)
  · refine ⟨k + 1, [], ⟨by omega, ?_⟩, by first | omega | (dsimp only; omega), ?_⟩
    rotate_left
    · (repeat' (first | exact PSub.rfl | exact rfl | exact PSubs.rfl | exact trivial | exact PSub.lit_sb rfl | refine And.intro ?_ ?_))
    intro j hj
    by_cases e : j = k
    · subst e; simpa [-List.getD_eq_getElem?_getD] using h
    · exact hinv j (by omega)
  · exact PSub.lit_sb (by symm; exact decide_eq_true (list_ext hab fun j hj => hinv j (by omega)))
end Go.Abs

namespace Go.Abs
open Go.Proofs
set_option maxRecDepth 10000
theorem spn_eq (a b : Spn) : (decide (a.fr = b.fr) && (decide (a.to = b.to) && true)) = decide (a = b) := by
  obtain ⟨a1, a2⟩ := a
  obtain ⟨b1, b2⟩ := b
  rw [Bool.eq_iff_iff]; simp
theorem ac_r06_Same (a b : List Spn) (ha : smallL a) : AC Tryz.prog 61 [.pv (roL 2 cSpn a), .pv (roL 2 cSpn b)] [] (.pv (vbool (decide (a = b)))) [] := by
  have ha : a.length ≤ 1048576 := ha
  refine AC.of_awp (T := T) T_ok hm Tryz.call61 Tryz.func61 rfl rfl rfl ?_
  conv => whnf
  refine ⟨fun h => ?_, fun h => ?_⟩ <;> (try simp only [decide_eq_true_eq, decide_eq_false_iff_not, Bool.not_eq_true', Bool.not_eq_false', Int.toNat_natCast, beq_iff_eq, decide_eq_decide, beq_eq_false_iff_ne, ne_eq, reduceCtorEq] at h) <;> (conv => whnf)
  · exact PSub.lit_sb (by symm; simp only [decide_eq_false_iff_not]; intro e; exact h (by rw [e]))
  refine loop_k (ι := Nat) [0, 1, 12] [] (fun k => k ≤ a.length ∧ (∀ j, j < k → a.getD j default = b.getD j default)) (fun k => a.length - k) 0 (fun k => [(13, .pv (vint k))]) (fun _ => []) [] ⟨Nat.zero_le _, fun j h => absurd h (by omega)⟩ ?_ (fun k hk => ?_)
  · (repeat' (first | exact PSub.rfl | exact rfl | exact PSubs.rfl | exact trivial | exact PSub.lit_sb rfl | refine And.intro ?_ ?_))
  obtain ⟨hkn, hinv⟩ := hk
  conv => whnf
  repeat (any_goals (first
    | (refine ⟨fun (h : (_ : Bool) = true) => ?_, fun (h : (_ : Bool) = false) => ?_⟩ <;> (try simp only [decide_eq_true_eq, decide_eq_false_iff_not, Bool.not_eq_true', Bool.not_eq_false', Int.toNat_natCast, beq_iff_eq, decide_eq_decide, beq_eq_false_iff_ne, ne_eq, reduceCtorEq] at h) <;> (conv => whnf))
    | (refine And.intro (by (try simp only [Int.toNat_natCast]); omega) ?_; conv => whnf)
    | (refine And.intro (show (_ : Bool) = true from by kernel_rfl) ?_; conv => whnf)
    | (refine .inl ⟨wrap64 (by omega), ?_⟩; conv => whnf)))
  · have e := of_decide_eq_false ((spn_eq _ _).symm.trans h)
    exact PSub.lit_sb (by symm; rw [decide_eq_false_iff_not]; rintro rfl; exact e rfl)
  · have e := of_decide_eq_true ((spn_eq _ _).symm.trans h)
    refine ⟨k + 1, [], ⟨by omega, ?_⟩, by first | omega | (dsimp only; omega), ?_⟩
    rotate_left
    · (repeat' (first | exact PSub.rfl | exact rfl | exact PSubs.rfl | exact trivial | exact PSub.lit_sb rfl | refine And.intro ?_ ?_))
    intro j hj
    by_cases e2 : j = k
    · subst e2; exact e
    · exact hinv j (by omega)
  · exact PSub.lit_sb (by symm; rw [decide_eq_true_eq]; exact list_eq (by omega) fun i hi => hinv i (by omega))
theorem mem_split (a b : Mem) : decide (a = b) = (decide (a.name = b.name) && (decide (a.role = b.role) && (decide (a.home = b.home) && (decide (a.spans = b.spans) && decide (a.rooms = b.rooms))))) := by
  obtain ⟨a1, a2, a3, a4, a5⟩ := a
  obtain ⟨b1, b2, b3, b4, b5⟩ := b
  rw [Bool.eq_iff_iff]; simp
  intro _ _
  constructor
  · rintro ⟨h3, h4, h5⟩; exact ⟨h5, h3, h4⟩
  · rintro ⟨h3, h4, h5⟩; exact ⟨h4, h5, h3⟩
theorem ac_r47_Equal (a b : Mem) (h1 : smallL a.spans) (h2 : smallL a.rooms) : AC Tryz.prog 30 [.pv (.agg (cMem a)), .pv (.agg (cMem b))] [] (.pv (vbool (decide (a = b)))) [] := by
  have h3 : a.rooms.length ≤ 1048576 := h2
  refine AC.of_awp (T := T) T_ok hm Tryz.call30 Tryz.func30 rfl rfl rfl ?_
  conv => whnf
  repeat (any_goals (first
    | (refine ⟨fun (h : (_ : Bool) = true) => ?_, fun (h : (_ : Bool) = false) => ?_⟩ <;> (try simp only [decide_eq_true_eq, decide_eq_false_iff_not, Bool.not_eq_true', Bool.not_eq_false', Int.toNat_natCast, beq_iff_eq, decide_eq_decide, beq_eq_false_iff_ne, ne_eq, reduceCtorEq] at h) <;> (conv => whnf))
    | (refine .inl ⟨_, ac_r06_Same a.spans b.spans h1, ?_⟩; conv => whnf)
    | (refine .inl ⟨_, ac_r47_Texts a.rooms b.rooms (by omega), ?_⟩; conv => whnf)
    | (refine And.intro (by (try simp only [Int.toNat_natCast]); omega) ?_; conv => whnf)
    | (refine And.intro (show (_ : Bool) = true from by kernel_rfl) ?_; conv => whnf)
    | (refine .inl ⟨wrap64 (by omega), ?_⟩; conv => whnf)))
  all_goals rw [mem_split]
  all_goals first
    | (refine PSub.sb ?_; simp_all; done)
    | (refine PSub.lit_sb ?_; simp_all; done)
    | trace_state
theorem ac_r47_Same (a b : List Mem) (hg : goodM a) : AC Tryz.prog 29 [.pv (roL 5 cMem a), .pv (roL 5 cMem b)] [] (.pv (vbool (decide (a = b)))) [] := by
  have ha : a.length ≤ 1048576 := hg.1
  refine AC.of_awp (T := T) T_ok hm Tryz.call29 Tryz.func29 rfl rfl rfl ?_
  conv => whnf
  refine ⟨fun h => ?_, fun h => ?_⟩ <;> (try simp only [decide_eq_true_eq, decide_eq_false_iff_not, Bool.not_eq_true', Bool.not_eq_false', Int.toNat_natCast, beq_iff_eq, decide_eq_decide, beq_eq_false_iff_ne, ne_eq, reduceCtorEq] at h) <;> (conv => whnf)
  · exact PSub.lit_sb (by symm; simp only [decide_eq_false_iff_not]; intro e; exact h (by rw [e]))
  refine loop_k (ι := Nat) [0, 1] [] (fun k => k ≤ a.length ∧ (∀ j, j < k → a.getD j default = b.getD j default)) (fun k => a.length - k) 0 (fun k => [(5, .pv (vint k))]) (fun _ => []) [] ⟨Nat.zero_le _, fun j h => absurd h (by omega)⟩ ?_ (fun k hk => ?_)
  · (repeat' (first | exact PSub.rfl | exact rfl | exact PSubs.rfl | exact trivial | exact PSub.lit_sb rfl | refine And.intro ?_ ?_))
  obtain ⟨hkn, hinv⟩ := hk
  conv => whnf
  refine ⟨fun h => ?_, fun h => ?_⟩ <;> (try simp only [decide_eq_true_eq, decide_eq_false_iff_not, Bool.not_eq_true', Bool.not_eq_false', Int.toNat_natCast, beq_iff_eq, decide_eq_decide, beq_eq_false_iff_ne, ne_eq, reduceCtorEq] at h) <;> (conv => whnf)
  · have hk := hg.2 k (by omega)
    repeat (any_goals (first
      | (refine ⟨fun (h : (_ : Bool) = true) => ?_, fun (h : (_ : Bool) = false) => ?_⟩ <;> (try simp only [decide_eq_true_eq, decide_eq_false_iff_not, Bool.not_eq_true', Bool.not_eq_false', Int.toNat_natCast, beq_iff_eq, decide_eq_decide, beq_eq_false_iff_ne, ne_eq, reduceCtorEq] at h) <;> (conv => whnf))
      | (refine .inl ⟨_, ac_r47_Equal (a.getD k default) (b.getD k default) hk.1 hk.2, ?_⟩; conv => whnf)
      | (refine And.intro (by (try simp only [Int.toNat_natCast]); omega) ?_; conv => whnf)
      | (refine And.intro (show (_ : Bool) = true from by kernel_rfl) ?_; conv => whnf)
      | (refine .inl ⟨wrap64 (by omega), ?_⟩; conv => whnf)))
    · exact PSub.lit_sb (by symm; rw [decide_eq_false_iff_not]; rintro rfl; exact h rfl)
    · refine ⟨k + 1, [], ⟨by omega, ?_⟩, by first | omega | (dsimp only; omega), ?_⟩
      rotate_left
      · (repeat' (first | exact PSub.rfl | exact rfl | exact PSubs.rfl | exact trivial | exact PSub.lit_sb rfl | refine And.intro ?_ ?_))
      intro j hj
      by_cases e2 : j = k
      · subst e2; exact h
      · exact hinv j (by omega)
  · exact PSub.lit_sb (by symm; rw [decide_eq_true_eq]; exact list_eq (by omega) fun i hi => hinv i (by omega))
theorem ac_index_arrive (l : List Mem) (s : ByteArray) (hl : smallL l) : AC Tryz.prog 56 [.pv (roL 5 cMem l), .fn 57 [.pv (.cell [vstr s])]] [] (.pv (vint (ixI l.length (mbrAt l s)))) [] := by
  refine AC.with_fn (pre := [.pv (roL 5 cMem l)]) (post := []) (ac_slices_IndexFunc_Member l l.length (nameG s) (fun _ => 0) hl) Tryz.call57 rfl rfl rfl ?_
  rintro xs ⟨x, rfl⟩
  exact ac_member_Arrive_1 x s
theorem row_updM {l : List Mem} {k : Nat} {n : Nat} : ∀ j, j < n → PSubs (updAt (updAt (fun j => cMem (l.getD j default)) k 2 [roL 2 cSpn (l.getD k default).spans]) k 3 [roL 1 cstr (l.getD k default).rooms] j) (cMem (l.getD j default)) := by
  intro j _
  by_cases e : j = k
  · subst e; rw [updAt_same, updAt_same]; exact PSubs.rfl
  · rw [updAt_ne e, updAt_ne e]; exact PSubs.rfl
theorem row_updH {l : List Mem} {k : Nat} {b : Bool} {n : Nat} (hk : k < l.length) : ∀ j, j < n → PSubs (updAt (fun j => cMem (l.getD j default)) k 4 [vbool b] j) (cMem ((l.set k { l.getD k default with home := b }).getD j default)) := by
  intro j _
  rw [getD_set]
  by_cases e : j = k
  · subst e; rw [updAt_same, if_pos ⟨rfl, hk⟩]; exact PSubs.rfl
  · rw [updAt_ne e, if_neg (fun x => e x.1)]; exact PSubs.rfl
set_option maxHeartbeats 1000000 in
theorem ac_member_Arrive (l : List Mem) (s : ByteArray) (b : Bool) (hg : goodM l) : AC Tryz.prog 23 [.pv (roL 5 cMem l), .pv (vstr s), .pv (vbool b)] [] (.pv (.tup [roL 5 cMem (arrL l s b), vint (arrE l s)])) [] := by
  have hl : l.length ≤ 1048576 := hg.1
  refine AC.of_awp (T := T) T_ok hm Tryz.call23 Tryz.func23 rfl rfl rfl ?_
  conv => whnf
  refine .inl ⟨_, ac_index_arrive l s hg.1, ?_⟩
  conv => whnf
  refine ⟨fun h => ?_, fun h => ?_⟩ <;> (try simp only [decide_eq_true_eq, decide_eq_false_iff_not, Bool.not_eq_true', Bool.not_eq_false', Int.toNat_natCast, beq_iff_eq, decide_eq_decide, beq_eq_false_iff_ne, ne_eq, reduceCtorEq] at h) <;> (conv => whnf)
  · have h1 : ¬ mbrAt l s < l.length := fun hh => by rw [ixI, if_pos hh] at h; omega
    rw [arrL, arrE, if_neg h1, if_neg h1]
    refine ⟨?_, ?_⟩ <;> (conv => whnf)
    · exact PSub.nil_ro _ _
    · exact .rfl
  have h1 : mbrAt l s < l.length := (ixI_nonneg (k := mbrAt l s) (by omega)).1
  have h2 : ixI l.length (mbrAt l s) = (mbrAt l s : Int) := by rw [ixI, if_pos h1]
  rw [h2]
  rw [arrL, arrE, if_pos h1, if_pos h1]
  clear h h2
  generalize mbrAt l s = p at *
  refine .inr (.inl ⟨_, _, _, ac_slices_Clone_Member l.length (fun i => cMem (l.getD i default)) hl, ?_⟩)
  conv => whnf
  refine loop_k (ι := Nat) [2, 8, 9, 19, 20] [] (fun k => k ≤ l.length ∧ True) (fun k => l.length - k) 0 (fun k => [(21, .pv (vint k))]) (fun k => [(18, rowL 5 cMem l)]) [] ⟨Nat.zero_le _, trivial⟩ ?_ (fun k hk => ?_)
  · (repeat' (first | exact PSub.rfl | exact rfl | exact PSubs.rfl | exact trivial | exact PSub.lit_sb rfl | refine And.intro ?_ ?_)); all_goals ((intro i hi; exact PSubs.rfl))
  obtain ⟨hkn, hinv⟩ := hk
  conv => whnf
  refine ⟨fun h => ?_, fun h => ?_⟩ <;> (try simp only [decide_eq_true_eq, decide_eq_false_iff_not, Bool.not_eq_true', Bool.not_eq_false', Int.toNat_natCast, beq_iff_eq, decide_eq_decide, beq_eq_false_iff_ne, ne_eq, reduceCtorEq] at h) <;> (conv => whnf)
  · have hk := hg.2 k (by omega)
    have c1 := ac_slices_Clone_Span_p (l.getD k default).spans.length (fun i => cSpn ((l.getD k default).spans.getD i default)) hk.1
    have c2 := ac_slices_Clone_string_p (l.getD k default).rooms.length (fun i => cstr ((l.getD k default).rooms.getD i default)) hk.2
    repeat (any_goals (first
      | (refine ⟨fun (h : (_ : Bool) = true) => ?_, fun (h : (_ : Bool) = false) => ?_⟩ <;> (try simp only [decide_eq_true_eq, decide_eq_false_iff_not, Bool.not_eq_true', Bool.not_eq_false', Int.toNat_natCast, beq_iff_eq, decide_eq_decide, beq_eq_false_iff_ne, ne_eq, reduceCtorEq] at h) <;> (conv => whnf))
      | (refine .inl ⟨_, c1, ?_⟩; conv => whnf)
      | (refine .inl ⟨_, c2, ?_⟩; conv => whnf)
      | (refine And.intro (by (try simp only [Int.toNat_natCast]); omega) ?_; conv => whnf)
      | (refine And.intro (show (_ : Bool) = true from by kernel_rfl) ?_; conv => whnf)
      | (refine .inl ⟨wrap64 (by omega), ?_⟩; conv => whnf)))
    refine ⟨k + 1, [], ⟨by omega, trivial⟩, by omega, ?_⟩
    (repeat' (first | exact PSub.rfl | exact rfl | exact PSubs.rfl | exact trivial | exact PSub.lit_sb rfl | refine And.intro ?_ ?_))
    all_goals exact row_updM
  · repeat (any_goals (first
      | (refine ⟨fun (h : (_ : Bool) = true) => ?_, fun (h : (_ : Bool) = false) => ?_⟩ <;> (try simp only [decide_eq_true_eq, decide_eq_false_iff_not, Bool.not_eq_true', Bool.not_eq_false', Int.toNat_natCast, beq_iff_eq, decide_eq_decide, beq_eq_false_iff_ne, ne_eq, reduceCtorEq] at h) <;> (conv => whnf))
      | (refine And.intro (by (try simp only [Int.toNat_natCast]); omega) ?_; conv => whnf)
      | (refine And.intro (show (_ : Bool) = true from by kernel_rfl) ?_; conv => whnf)
      | (refine .inl ⟨wrap64 (by omega), ?_⟩; conv => whnf)))
    refine ⟨?_, ?_⟩ <;> (conv => whnf)
    · refine PSub.ro (by simp) (fun i hi => ?_)
      exact row_updH h1 i hi
    · exact .rfl
theorem ac_r47_Arrive (l : List Mem) (s : ByteArray) (b : Bool) (hg : goodM l) : AC Tryz.prog 24 [.pv (roL 5 cMem l), .pv (vstr s), .pv (vbool b)] [] (.pv (.tup [roL 5 cMem (arrL l s b), vint (arrE l s)])) [] := by
  have hl : l.length ≤ 1048576 := hg.1
  refine AC.of_awp (T := T) T_ok hm Tryz.call24 Tryz.func24 rfl rfl rfl ?_
  conv => whnf
  refine .inl ⟨_, ac_r47_index l l.length s hl, ?_⟩
  conv => whnf
  have e3 : ixI l.length (firstI l.length fun i => decide ((l.getD i default).name = s)) = ixI l.length (mbrAt l s) := rfl
  rw [e3]
  refine ⟨fun h => ?_, fun h => ?_⟩ <;> (try simp only [decide_eq_true_eq, decide_eq_false_iff_not, Bool.not_eq_true', Bool.not_eq_false', Int.toNat_natCast, beq_iff_eq, decide_eq_decide, beq_eq_false_iff_ne, ne_eq, reduceCtorEq] at h) <;> (conv => whnf)
  · have h1 : ¬ mbrAt l s < l.length := fun hh => by rw [ixI, if_pos hh] at h; omega
    rw [arrL, arrE, if_neg h1, if_neg h1]
    refine ⟨?_, ?_⟩ <;> (conv => whnf)
    · exact PSub.nil_ro _ _
    · exact .rfl
  have h1 : mbrAt l s < l.length := (ixI_nonneg (k := mbrAt l s) (by omega)).1
  have h2 : ixI l.length (mbrAt l s) = (mbrAt l s : Int) := by rw [ixI, if_pos h1]
  rw [h2]
  rw [arrL, arrE, if_pos h1, if_pos h1]
  clear h h2
  generalize mbrAt l s = p at *
  repeat (any_goals (first
    | (refine ⟨fun (h : (_ : Bool) = true) => ?_, fun (h : (_ : Bool) = false) => ?_⟩ <;> (try simp only [decide_eq_true_eq, decide_eq_false_iff_not, Bool.not_eq_true', Bool.not_eq_false', Int.toNat_natCast, beq_iff_eq, decide_eq_decide, beq_eq_false_iff_ne, ne_eq, reduceCtorEq] at h) <;> (conv => whnf))
    | (refine And.intro (by (try simp only [Int.toNat_natCast]); omega) ?_; conv => whnf)
    | (refine And.intro (show (_ : Bool) = true from by kernel_rfl) ?_; conv => whnf)
    | (refine .inl ⟨wrap64 (by omega), ?_⟩; conv => whnf)))
  refine ⟨?_, ?_⟩ <;> (conv => whnf)
  · refine PSub.ro (by simp) (fun i hi => ?_)
    have := row_updH (b := b) h1 i hi
    simp [-List.getD_eq_getElem?_getD]
    exact this
  · exact .rfl
end Go.Abs

namespace Go.Abs
open Go.Proofs
set_option maxRecDepth 10000
theorem put_at {m : List ByteArray} {x : ByteArray} {p : Nat} (hA : AscS m) (hp : p ≤ m.length) (h1 : ∀ j, j < p → sLt (m.getD j default) x = true) (h2 : p < m.length → sLt (m.getD p default) x = false ∧ m.getD p default ≠ x) : insL m x p = putS m x := by
  have h3 : ∀ i, p ≤ i → i < m.length → sLt x (m.getD i default) = true := fun i hi hl => by
    obtain ⟨a1, a2⟩ := h2 (by omega)
    have a3 : sLt x (m.getD p default) = true := (sLt_total a2).resolve_left (by rw [a1]; decide)
    by_cases e : i = p
    · subst e; exact a3
    · refine sLt_trans a3 ?_
      rw [getD_getElem _ _ hl, getD_getElem _ _ (show p < m.length by omega)]
      exact List.pairwise_iff_getElem.1 hA p i (by omega) hl (by omega)
  refine insL_putS hA (fun hx => ?_) hp h3 ?_
  · obtain ⟨i, hi, e⟩ := List.getElem_of_mem hx
    by_cases hip : i < p
    · have := h1 i hip
      rw [getD_getElem _ _ hi, e, sLt_irrefl] at this; cases this
    · have := h3 i (by omega) hi
      rw [getD_getElem _ _ hi, e, sLt_irrefl] at this; cases this
  · by_cases e : p = 0
    · exact .inl e
    · exact .inr (sLt_asymm (h1 (p - 1) (by omega)))
theorem put_seen {m : List ByteArray} {p : Nat} (hA : AscS m) (hp : p < m.length) : putS m (m.getD p default) = m := by
  refine ascS_ext (ascS_putS hA) hA fun y => ?_
  rw [mem_putS]
  constructor
  · rintro (h | h)
    · rw [h, getD_getElem _ _ hp]; exact List.getElem_mem hp
    · exact h
  · exact .inr
set_option maxHeartbeats 1000000 in
theorem ac_r47_Present (l : List Mem) (hl : smallL l) : AC Tryz.prog 28 [.pv (roL 5 cMem l)] [] (.pv (roL 1 cstr (presL l))) [] := by
  have hl : l.length ≤ 1048576 := hl
  refine AC.of_awp (T := T) T_ok hm Tryz.call28 Tryz.func28 rfl rfl rfl ?_
  conv => whnf
  refine loop_k (ι := Nat) [0] [] (fun k => k ≤ l.length ∧ True) (fun k => l.length - k) 0 (fun k => [(3, .pv (roL 1 cstr (presL (l.take k)))), (4, .pv (vint k))]) (fun k => []) [] ⟨Nat.zero_le _, trivial⟩ ?_ (fun k hk => ?_)
  · (repeat' (first | exact PSub.rfl | exact rfl | exact PSubs.rfl | exact trivial | exact PSub.lit_sb rfl | refine And.intro ?_ ?_)); all_goals (exact PSub.nilL rfl)
  obtain ⟨hkn, hinv⟩ := hk
  conv => whnf
  have hlen : (presL (l.take k)).length ≤ l.length := Nat.le_trans (sortS_length _) (homeN_length l k)
  have hA : AscS (presL (l.take k)) := ascS_sortS _
  refine ⟨fun h => ?_, fun h => ?_⟩ <;> (try simp only [decide_eq_true_eq, decide_eq_false_iff_not, Bool.not_eq_true', Bool.not_eq_false', Int.toNat_natCast, beq_iff_eq, decide_eq_decide, beq_eq_false_iff_ne, ne_eq, reduceCtorEq] at h) <;> (conv => whnf)
  · have hk : k < l.length := by omega
    have hs := homeN_take hk
    repeat (any_goals (first
      | (refine ⟨fun (h : (_ : Bool) = true) => ?_, fun (h : (_ : Bool) = false) => ?_⟩ <;> (try simp only [decide_eq_true_eq, decide_eq_false_iff_not, Bool.not_eq_true', Bool.not_eq_false', Int.toNat_natCast, beq_iff_eq, decide_eq_decide, beq_eq_false_iff_ne, ne_eq, reduceCtorEq] at h) <;> (conv => whnf))
      | (refine And.intro (by (try simp only [Int.toNat_natCast]); omega) ?_; conv => whnf)
      | (refine And.intro (show (_ : Bool) = true from by kernel_rfl) ?_; conv => whnf)
      | (refine .inl ⟨wrap64 (by omega), ?_⟩; conv => whnf)))
    · have hs2 : presL (l.take (k + 1)) = presL (l.take k) := by
        unfold presL
        rw [hs, if_neg (by rw [h]; decide), List.append_nil]
      refine ⟨k + 1, [], ⟨by omega, trivial⟩, by omega, ?_⟩
      rw [hs2]
      (repeat' (first | exact PSub.rfl | exact rfl | exact PSubs.rfl | exact trivial | exact PSub.lit_sb rfl | refine And.intro ?_ ?_))
    · have hs2 : presL (l.take (k + 1)) = putS (presL (l.take k)) (l.getD k default).name := by
        unfold presL
        rw [hs, if_pos h, sortS_snoc]
      generalize hx : (l.getD k default).name = x at *
      generalize presL (l.take k) = m at *
      refine loop_k (ι := Nat) [0, 3, 4] [] (fun p => p ≤ m.length ∧ ∀ j, j < p → sLt (m.getD j default) x = true) (fun p => m.length - p) 0 (fun p => [(5, .pv (vint p))]) (fun _ => []) [] ⟨Nat.zero_le _, fun j h => absurd h (by omega)⟩ ?_ (fun p hp => ?_)
      · (repeat' (first | exact PSub.rfl | exact rfl | exact PSubs.rfl | exact trivial | exact PSub.lit_sb rfl | refine And.intro ?_ ?_))
      obtain ⟨hpn, hinv⟩ := hp
      conv => whnf
      repeat (any_goals (first
        | (refine ⟨fun (h : (_ : Bool) = true) => ?_, fun (h : (_ : Bool) = false) => ?_⟩ <;> (try simp only [decide_eq_true_eq, decide_eq_false_iff_not, Bool.not_eq_true', Bool.not_eq_false', Int.toNat_natCast, beq_iff_eq, decide_eq_decide, beq_eq_false_iff_ne, ne_eq, reduceCtorEq] at h) <;> (conv => whnf))
        | (refine And.intro (by (try simp only [Int.toNat_natCast]); omega) ?_; conv => whnf)
        | (refine And.intro (show (_ : Bool) = true from by kernel_rfl) ?_; conv => whnf)
        | (refine .inl ⟨wrap64 (by omega), ?_⟩; conv => whnf)))
      · refine ⟨p + 1, [], ⟨by omega, fun j hj => ?_⟩, by omega, ?_⟩
        · by_cases e : j = p
          · subst e; rw [← hx]; exact h
          · exact hinv j (by omega)
        (repeat' (first | exact PSub.rfl | exact rfl | exact PSubs.rfl | exact trivial | exact PSub.lit_sb rfl | refine And.intro ?_ ?_))
      · have hp : putS m x = m := by rw [← hx, ← h]; exact put_seen hA (by omega)
        refine ⟨k + 1, [], ⟨by omega, trivial⟩, by omega, ?_⟩
        rw [hs2, hp]
        (repeat' (first | exact PSub.rfl | exact rfl | exact PSubs.rfl | exact trivial | exact PSub.lit_sb rfl | refine And.intro ?_ ?_))
      · have hp : insL m x p = putS m x := put_at hA hpn hinv (fun hlt => ⟨by rw [← hx]; first | assumption | (exfalso; omega), by rw [← hx]; first | assumption | (exfalso; omega)⟩)
        have hil := insL_length (x := x) hpn
        refine ⟨k + 1, [], ⟨by omega, trivial⟩, by omega, ?_⟩
        rw [hs2, ← hp]
        (repeat' (first | exact PSub.rfl | exact rfl | exact PSubs.rfl | exact trivial | exact PSub.lit_sb rfl | refine And.intro ?_ ?_))
        all_goals
          refine PSub.ro (by simp [-List.getD_eq_getElem?_getD]; omega) (fun j hj => ?_)
          dsimp only
          rw [insL_getD hpn]
          simp only [Int.toNat_natCast, Nat.zero_add]
          rw [← hx]
          by_cases h1 : j < p
          · have a1 : j < p + 1 := by omega
            simp only [if_pos h1, if_pos a1]; exact PSubs.rfl
          · by_cases h2 : j = p
            · have a1 : j < p + 1 := by omega
              simp only [if_neg h1, if_pos h2, if_pos a1]; rw [h2, Nat.sub_self]; exact PSubs.rfl
            · have a1 : ¬ j < p + 1 := by omega
              simp only [if_neg h1, if_neg h2, if_neg a1]; rw [show p + (j - (p + 1)) = j - 1 by omega]; exact PSubs.rfl
      · exfalso; omega
      · exfalso; omega
      · exfalso; omega
      · have hp : insL m x p = putS m x := put_at hA hpn hinv (fun hlt => ⟨by rw [← hx]; first | assumption | (exfalso; omega), by rw [← hx]; first | assumption | (exfalso; omega)⟩)
        have hil := insL_length (x := x) hpn
        refine ⟨k + 1, [], ⟨by omega, trivial⟩, by omega, ?_⟩
        rw [hs2, ← hp]
        (repeat' (first | exact PSub.rfl | exact rfl | exact PSubs.rfl | exact trivial | exact PSub.lit_sb rfl | refine And.intro ?_ ?_))
        all_goals
          refine PSub.ro (by simp [-List.getD_eq_getElem?_getD]; omega) (fun j hj => ?_)
          dsimp only
          rw [insL_getD hpn]
          simp only [Int.toNat_natCast, Nat.zero_add]
          rw [← hx]
          by_cases h1 : j < p
          · have a1 : j < p + 1 := by omega
            simp only [if_pos h1, if_pos a1]; exact PSubs.rfl
          · by_cases h2 : j = p
            · have a1 : j < p + 1 := by omega
              simp only [if_neg h1, if_pos h2, if_pos a1]; rw [h2, Nat.sub_self]; exact PSubs.rfl
            · have a1 : ¬ j < p + 1 := by omega
              simp only [if_neg h1, if_neg h2, if_neg a1]; rw [show p + (j - (p + 1)) = j - 1 by omega]; exact PSubs.rfl
  · have e : k = l.length := by omega
    subst e
    rw [List.take_length]
    exact .rfl
end Go.Abs

namespace Go.Abs
open Go.Proofs
set_option maxRecDepth 10000
theorem arr_good {l : List Mem} {s : ByteArray} {b : Bool} (hg : goodM l) : goodM (arrL l s b) := by
  by_cases h : mbrAt l s < l.length
  · refine ⟨by show _ ≤ _; rw [arr_len h]; exact hg.1, fun i hi => ?_⟩
    rw [arr_len h] at hi
    rw [arr_get h hi]
    split
    · exact hg.2 i hi
    · exact hg.2 i hi
  · rw [arrL, if_neg h]; exact ⟨Nat.zero_le _, fun i hi => absurd hi (by show ¬ i < 0; omega)⟩
theorem pres_len {l : List Mem} (hg : goodM l) : (presL l).length ≤ 8388608 := by
  have h1 : l.length ≤ 1048576 := hg.1
  have h2 := homeN_length l l.length
  rw [List.take_length] at h2
  have h3 := sortS_length (homeN l)
  unfold presL; omega
def noHom : Hom := ⟨[], []⟩
theorem small_noHom : smallH noHom := by
  refine ⟨⟨sl rfl, fun i => ?_⟩, sl rfl, fun i => ?_⟩
  · have : noHom.clusters.getD i default = default := rfl
    rw [this]; exact small_default
  · have : noHom.devices.getD i default = default := rfl
    rw [this]; exact ⟨Nat.zero_le _, by decide, by decide⟩
theorem ac_law47_MemberFinds (l : List Mem) (s : ByteArray) (b : Bool) (hg : goodM l) : AC Tryz.prog 8 [.pv (roL 5 cMem l), .pv (vstr s), .pv (vbool b)] [] (.pv (vbool true)) [] := by
  have ho := may_small (H := noHom) (s := s) hg
  have c0 := ac_law47_large noHom l small_noHom hg
  refine AC.of_awp (T := T) T_ok hm Tryz.call8 Tryz.func8 rfl rfl rfl ?_
  conv => whnf
  repeat (any_goals (first
    | (refine ⟨fun (h : (_ : Bool) = true) => ?_, fun (h : (_ : Bool) = false) => ?_⟩ <;> (try simp only [decide_eq_true_eq, decide_eq_false_iff_not, Bool.not_eq_true', Bool.not_eq_false', Int.toNat_natCast, beq_iff_eq, decide_eq_decide, beq_eq_false_iff_ne, ne_eq, reduceCtorEq] at h) <;> (conv => whnf))
    | (refine .inl ⟨_, AC.sub2 (c0) (by repeat' (first | exact PSub.rfl | exact PSub.nil_ro _ _ | exact PSub.lit_sb rfl | exact trivial | exact all_lt_zero | refine PSub.agg ?_ | refine PSub.ro rfl ?_ | refine all_lt_succ ?_ ?_ | refine And.intro ?_ ?_)) (by repeat' (first | exact PSub.rfl | exact PSub.nil_ro _ _ | exact PSub.lit_sb rfl | exact trivial | exact all_lt_zero | refine PSub.agg ?_ | refine PSub.ro rfl ?_ | refine all_lt_succ ?_ ?_ | refine And.intro ?_ ?_)), ?_⟩; conv => whnf)
    | (refine .inl ⟨_, ac_law47_awake, ?_⟩; conv => whnf)
    | (refine .inl ⟨_, ac_member_Arrive l s b hg, ?_⟩; conv => whnf)
    | (refine .inl ⟨_, ac_r47_Arrive l s b hg, ?_⟩; conv => whnf)
    | (refine .inl ⟨_, ac_member_Find l s hg, ?_⟩; conv => whnf)
    | (refine .inl ⟨_, ac_r47_Find l s hg, ?_⟩; conv => whnf)
    | (refine .inl ⟨_, ac_member_Present l hg.1, ?_⟩; conv => whnf)
    | (refine .inl ⟨_, ac_r47_Present l hg.1, ?_⟩; conv => whnf)
    | (refine .inl ⟨_, ac_r47_Texts (presL l) (presL l) (pres_len hg), ?_⟩; conv => whnf)
    | (refine .inl ⟨_, ac_r47_Same (arrL l s b) (arrL l s b) (arr_good hg), ?_⟩; conv => whnf)
    | (refine .inl ⟨_, ac_r47_Equal (mbrOf l s) (mbrOf l s) ho.1 ho.2, ?_⟩; conv => whnf)
    | (refine And.intro (by (try simp only [Int.toNat_natCast]); omega) ?_; conv => whnf)
    | (refine And.intro (show (_ : Bool) = true from by kernel_rfl) ?_; conv => whnf)
    | (refine .inl ⟨wrap64 (by omega), ?_⟩; conv => whnf)))
  all_goals first
    | exact .rfl
    | exact absurd trivial h
    | exact absurd rfl h
    | (exfalso; simp at h; done)
    | exact PSub.sb (by simp)
    | trace_state
end Go.Abs
