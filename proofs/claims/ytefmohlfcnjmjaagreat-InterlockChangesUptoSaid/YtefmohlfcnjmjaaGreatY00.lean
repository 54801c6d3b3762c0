/- YtefmohlfcnjmjaaGreatY00: walks and contracts. -/
import Derived.Test.YtefmohlfcnjmjaaGreatX07

set_option linter.unusedVariables false
set_option linter.unusedSimpArgs false
set_option linter.unusedSectionVars false

namespace Go.Abs
variable [Globals]
theorem updAt_same {f : Nat → List PV} {i j : Nat} {cs : List PV} : updAt f i j cs i = splice (f i) j cs := by simp [updAt, putAt]
theorem updAt_ne {f : Nat → List PV} {i j k : Nat} {cs : List PV} (h : k ≠ i) : updAt f i j cs k = f k := by
  unfold updAt putAt
  rw [show Nat.beq k i = false from by rw [← Bool.not_eq_true]; simpa [Nat.beq_eq] using h]
end Go.Abs

namespace Go.Abs
theorem putS_length (l : List ByteArray) (k : ByteArray) : (putS l k).length ≤ l.length + 1 := by
  induction l with
  | nil => simp [putS]
  | cons y r ih =>
    unfold putS
    split
    · simp only [List.length_cons]; omega
    · simp only [List.length_cons]
      have := List.length_filter_le (fun z => decide (z ≠ k)) (y :: r)
      simp only [List.length_cons] at this
      omega
theorem foldl_putS_length {l acc : List ByteArray} : (l.foldl putS acc).length ≤ acc.length + l.length := by
  induction l generalizing acc with
  | nil => simp
  | cons y r ih =>
    have h1 := ih (acc := putS acc y)
    have h2 := putS_length acc y
    simp only [List.foldl_cons, List.length_cons]; omega
theorem sortS_length (l : List ByteArray) : (sortS l).length ≤ l.length := by
  have := foldl_putS_length (l := l) (acc := [])
  simpa [sortS] using this
theorem memS_false {l : List ByteArray} {x : ByteArray} : memS l x = false ↔ x ∉ l := by rw [← Bool.not_eq_true, memS_iff]
def insL (m : List ByteArray) (x : ByteArray) (j : Nat) : List ByteArray := m.take j ++ x :: m.drop j
theorem insL_length {m : List ByteArray} {x : ByteArray} {j : Nat} (h : j ≤ m.length) : (insL m x j).length = m.length + 1 := by
  unfold insL
  rw [List.length_append, List.length_take, List.length_cons, List.length_drop]
  omega
theorem insL_getD {m : List ByteArray} {x : ByteArray} {j i : Nat} (h : j ≤ m.length) : (insL m x j).getD i default = if i < j then m.getD i default else if i = j then x else m.getD (i - 1) default := by
  unfold insL
  by_cases h1 : i < j
  · rw [if_pos h1]
    have h2 : i < (m.take j).length := by rw [List.length_take]; omega
    simp [List.getD, List.getElem?_append_left h2, List.getElem?_take, h1]
  · rw [if_neg h1]
    have h2 : (m.take j).length ≤ i := by rw [List.length_take]; omega
    have h3 : (m.take j).length = j := by rw [List.length_take]; omega
    by_cases h4 : i = j
    · rw [if_pos h4]
      subst h4
      simp [List.getD, List.getElem?_append_right h2, h3]
    · rw [if_neg h4]
      simp only [List.getD, List.getElem?_append_right h2, h3]
      obtain ⟨d, rfl⟩ : ∃ d, i = j + (d + 1) := ⟨i - j - 1, by omega⟩
      rw [show j + (d + 1) - j = d + 1 by omega, List.getElem?_cons_succ, List.getElem?_drop, show j + (d + 1) - 1 = j + d by omega]
theorem insL_putS {m : List ByteArray} {x : ByteArray} {j : Nat} (hA : AscS m) (hx : x ∉ m) (hj : j ≤ m.length) (h1 : ∀ i, j ≤ i → i < m.length → sLt x (m.getD i default) = true) (h2 : j = 0 ∨ sLt x (m.getD (j - 1) default) = false) : insL m x j = putS m x := by
  refine ascS_ext ?_ (ascS_putS hA) fun y => ?_
  · unfold insL
    refine List.pairwise_append.2 ⟨hA.sublist (List.take_sublist _ _), List.pairwise_cons.2 ⟨fun y hy => ?_, hA.sublist (List.drop_sublist _ _)⟩, fun a ha b hb => ?_⟩
    · obtain ⟨i, hi, rfl⟩ := List.getElem_of_mem hy
      have hi' : j + i < m.length := by rw [List.length_drop] at hi; omega
      have := h1 (j + i) (by omega) hi'
      rw [getD_getElem _ _ hi'] at this
      simpa using this
    · obtain ⟨i, hi, rfl⟩ := List.getElem_of_mem ha
      rw [List.length_take] at hi
      have him : i < m.length := by omega
      have hax : sLt m[i] x = true := by
        have h3 := h2.resolve_left (by omega)
        rw [getD_getElem _ _ (show j - 1 < m.length by omega)] at h3
        have hne : m[j - 1] ≠ x := fun e => hx (e ▸ List.getElem_mem (show j - 1 < m.length by omega))
        have h4 := (sLt_total hne).resolve_right (by rw [h3]; simp)
        by_cases e : i = j - 1
        · subst e; exact h4
        · exact sLt_trans (List.pairwise_iff_getElem.1 hA i (j - 1) him (by omega) (by omega)) h4
      rw [List.getElem_take]
      rcases List.mem_cons.1 hb with rfl | hb
      · exact hax
      · obtain ⟨q, hq, rfl⟩ := List.getElem_of_mem hb
        have hq' : j + q < m.length := by rw [List.length_drop] at hq; omega
        rw [List.getElem_drop]
        exact List.pairwise_iff_getElem.1 hA i (j + q) him hq' (by omega)
  · rw [mem_putS]
    unfold insL
    rw [List.mem_append, List.mem_cons]
    constructor
    · rintro (h | h | h)
      · exact .inr (List.mem_of_mem_take h)
      · exact .inl h
      · exact .inr (List.mem_of_mem_drop h)
    · rintro (h | h)
      · exact .inr (.inl h)
      · rw [← List.take_append_drop j m, List.mem_append] at h
        rcases h with h | h
        · exact .inl h
        · exact .inr (.inr h)
theorem sortS_snoc (l : List ByteArray) (x : ByteArray) : sortS (l ++ [x]) = putS (sortS l) x := by simp [sortS]
theorem sortS_seen {l : List ByteArray} {x : ByteArray} (h : x ∈ l) : sortS (l ++ [x]) = sortS l := sortS_congr fun y => by
  rw [List.mem_append, List.mem_singleton]
  exact ⟨fun h2 => h2.elim id (fun e => e ▸ h), .inl⟩
theorem idxOf_before {l : List ByteArray} {k : Nat} (hk : k < l.length) : idxOf l (l.getD k default) < (k : Int) ↔ l.getD k default ∈ l.take k := by
  rw [idxOf_lt hk]
  simp only [memN, List.any_eq_true, List.mem_range, decide_eq_true_eq]
  constructor
  · rintro ⟨j, hj, e⟩
    rw [← e]
    have hj2 : j < (l.take k).length := by rw [List.length_take]; omega
    have : l.getD j default = (l.take k)[j] := by simp [List.getD, show j < l.length by omega]
    rw [this]; exact List.getElem_mem hj2
  · intro h
    obtain ⟨j, hj, e⟩ := List.getElem_of_mem h
    rw [List.length_take] at hj
    refine ⟨j, by omega, ?_⟩
    rw [← e]; simp [List.getD, show j < l.length by omega]
end Go.Abs

namespace Go.Abs
variable [Globals]
def startL (a b : List ByteArray) : List ByteArray := sortS (b.filter fun n => !memS a n)
end Go.Abs

namespace Go.Abs
open Go.Proofs
set_option maxRecDepth 10000
theorem ac_r04_Sorted (l : List ByteArray) (hl : l.length ≤ 1048576) : AC Tryz.prog 27 [.pv (roL 1 cstr l)] [] (.pv (roL 1 cstr (sortS l))) [] := by
  refine AC.of_awp (T := T) T_ok hm Tryz.call27 Tryz.func27 rfl rfl rfl ?_
  conv => whnf
  refine loop_k (ι := Nat) [0] [] (fun k => k ≤ l.length ∧ True) (fun k => l.length - k) 0 (fun k => [(3, .own 500), (4, .pv (vint k))]) (fun k => [(500, rowL 1 cstr (sortS (l.take k)))]) [] ⟨Nat.zero_le _, trivial⟩ ?_ (fun k hk => ?_)
  · (repeat' (first | exact PSub.rfl | exact rfl | exact PSubs.rfl | exact trivial | exact PSub.lit_sb rfl | refine And.intro ?_ ?_)); all_goals ((intro i hi; exact absurd hi (by simp [sortS])))
  obtain ⟨hkn, hinv⟩ := hk
  conv => whnf
  have hlen := sortS_length (l.take k)
  rw [List.length_take] at hlen
  repeat (any_goals (first
    | (refine ⟨fun (h : (_ : Bool) = true) => ?_, fun (h : (_ : Bool) = false) => ?_⟩ <;> (try simp only [decide_eq_true_eq, decide_eq_false_iff_not, Bool.not_eq_true', Bool.not_eq_false', Int.toNat_natCast, beq_iff_eq, decide_eq_decide, beq_eq_false_iff_ne, ne_eq, reduceCtorEq] at h) <;> (conv => whnf))
    | (refine .inl ⟨_, ac_r04_Index l (l.getD k default) hl, ?_⟩; conv => whnf)
    | (refine And.intro (by (try simp only [Int.toNat_natCast]); omega) ?_; conv => whnf)
    | (refine And.intro (show (_ : Bool) = true from by kernel_rfl) ?_; conv => whnf)
    | (refine .inl ⟨wrap64 (by omega), ?_⟩; conv => whnf)))
  · have hk : k < l.length := by omega
    have hin := (idxOf_before hk).1 h
    refine ⟨k + 1, [], ⟨by omega, trivial⟩, by omega, ?_⟩
    rw [take_succ_getD hk, sortS_seen hin]
    (repeat' (first | exact PSub.rfl | exact rfl | exact PSubs.rfl | exact trivial | exact PSub.lit_sb rfl | refine And.intro ?_ ?_))
    intro i hi; exact PSubs.rfl
  · have hk : k < l.length := by omega
    have hin : ¬ l.getD k default ∈ l.take k := fun h2 => h ((idxOf_before hk).2 h2)
    have hx : l.getD k default ∉ sortS (l.take k) := fun h2 => hin (mem_sortS.1 h2)
    have hA := ascS_sortS (l.take k)
    have hS := sortS_snoc (l.take k) (l.getD k default)
    rw [← take_succ_getD hk] at hS
    obtain ⟨x, hxdef⟩ : ∃ x, x = l.getD k default := ⟨_, rfl⟩
    rw [← hxdef] at hin hx hS
    generalize sortS (l.take k) = m at *
    refine loop_k (ι := Nat) [0, 4] [] (fun j => j ≤ m.length ∧ ∀ i, j ≤ i → i < m.length → sLt x (m.getD i default) = true) (fun j => j) m.length (fun j => [(3, .own 501), (5, .pv (vint j))]) (fun j => [(501, rowL 1 cstr (insL m x j))]) [(501, 27)] ⟨Nat.le_refl _, fun i h1 h2 => absurd h2 (by omega)⟩ ?_ (fun j hj => ?_)
    · have hi := insL_length (x := x) (Nat.le_refl m.length)
      have he : insL m x m.length = m ++ [x] := by simp [insL]
      rw [he]
      (repeat' (first | exact PSub.rfl | exact rfl | exact PSubs.rfl | exact trivial | exact PSub.lit_sb rfl | refine And.intro ?_ ?_))
      · simp
      · refine rows_snocF (fun i hi => by simp only [if_pos hi]; exact PSubs.rfl) (by simp only [if_neg (Nat.lt_irrefl _), Nat.sub_self]; rw [hxdef]; exact PSubs.rfl)
      · exact PSub.int (by omega)
    obtain ⟨hjn, hinv⟩ := hj
    have hil := insL_length (x := x) hjn
    have hg : ∀ i, (insL m x j).getD i default = if i < j then m.getD i default else if i = j then x else m.getD (i - 1) default := fun i => insL_getD hjn
    have hxj : (insL m x j).getD j default = x := by rw [hg, if_neg (by omega), if_pos rfl]
    have hj1 : ((j : Int) - 1).toNat = j - 1 := by omega
    have hmj : 0 < j → (insL m x j).getD (j - 1) default = m.getD (j - 1) default := fun h => by rw [hg, if_pos (by omega)]
    conv => whnf
    repeat (any_goals (first
      | (refine ⟨fun (h : (_ : Bool) = true) => ?_, fun (h : (_ : Bool) = false) => ?_⟩ <;> (try simp only [decide_eq_true_eq, decide_eq_false_iff_not, Bool.not_eq_true', Bool.not_eq_false', Int.toNat_natCast, beq_iff_eq, decide_eq_decide, beq_eq_false_iff_ne, ne_eq, reduceCtorEq] at h) <;> (conv => whnf))
      | (refine And.intro (by (try simp only [Int.toNat_natCast]); omega) ?_; conv => whnf)
      | (refine And.intro (show (_ : Bool) = true from by kernel_rfl) ?_; conv => whnf)
      | (refine .inl ⟨wrap64 (by omega), ?_⟩; conv => whnf)))
    · have hpos : 0 < j := by omega
      rw [hj1, hxj, hmj hpos] at h
      refine ⟨j - 1, [], ⟨by omega, fun i h1 h2 => ?_⟩, by omega, ?_⟩
      · by_cases e : i = j - 1
        · subst e; exact h
        · exact hinv i (by omega) h2
      · have hil2 := insL_length (x := x) (show j - 1 ≤ m.length by omega)
        have hg2 : ∀ i, (insL m x (j - 1)).getD i default = if i < j - 1 then m.getD i default else if i = j - 1 then x else m.getD (i - 1) default := fun i => insL_getD (by omega)
        (repeat' (first | exact PSub.rfl | exact rfl | exact PSubs.rfl | exact trivial | exact PSub.lit_sb rfl | refine And.intro ?_ ?_))
        · rw [hil2, hil]
        · intro i hi
          simp only [Int.toNat_natCast, hj1]
          by_cases e1 : i = j - 1
          · subst e1
            rw [updAt_same, updAt_ne (by omega), hg2, if_neg (by omega), if_pos rfl]
            exact ⟨PSub.str hxj, trivial⟩
          · rw [updAt_ne e1]
            by_cases e2 : i = j
            · subst e2
              rw [updAt_same, hg2, if_neg (by omega), if_neg (by omega)]
              exact ⟨PSub.str (hmj hpos), trivial⟩
            · rw [updAt_ne e2, hg2]
              refine ⟨PSub.str ?_, trivial⟩
              rw [hg]
              by_cases e3 : i < j
              · rw [if_pos e3, if_pos (by omega)]
              · rw [if_neg e3, if_neg e2, if_neg (by omega), if_neg (by omega)]
        · exact PSub.int (by omega)
    · have hpos : 0 < j := by omega
      rw [hj1, hxj, hmj hpos] at h
      refine ⟨k + 1, [(500, 501)], ⟨by omega, trivial⟩, by omega, ?_⟩
      rw [hS, ← insL_putS hA hx hjn hinv (.inr h)]
      (repeat' (first | exact PSub.rfl | exact rfl | exact PSubs.rfl | exact trivial | exact PSub.lit_sb rfl | refine And.intro ?_ ?_))
      intro i hi; exact PSubs.rfl
    · have hz : j = 0 := by omega
      refine ⟨k + 1, [(500, 501)], ⟨by omega, trivial⟩, by omega, ?_⟩
      rw [hS, ← insL_putS hA hx hjn hinv (.inl hz)]
      (repeat' (first | exact PSub.rfl | exact rfl | exact PSubs.rfl | exact trivial | exact PSub.lit_sb rfl | refine And.intro ?_ ?_))
      intro i hi; exact PSubs.rfl
  · rw [List.take_of_length_le (by omega)]
    exact .rfl
end Go.Abs

namespace Go.Abs
open Go.Proofs
set_option maxRecDepth 10000
def leftS (a b : List ByteArray) (k : Nat) (s : ByteArray) : Bool := memS b s && !memS (a.take k) s
theorem ac_interlock_Started (a b : List ByteArray) (ha : smallL a) (hb : smallL b) : AC Tryz.prog 23 [.pv (roL 1 cstr a), .pv (roL 1 cstr b)] [] (.pv (roL 1 cstr (startL a b))) [] := by
  have ha2 : a.length ≤ 1048576 := ha
  have hb2 : b.length ≤ 1048576 := hb
  refine AC.of_awp (T := T) T_ok hm Tryz.call23 Tryz.func23 rfl rfl rfl ?_
  conv => whnf
  repeat (any_goals (first
    | (refine ⟨fun (h : (_ : Bool) = true) => ?_, fun (h : (_ : Bool) = false) => ?_⟩ <;> (try simp only [decide_eq_true_eq, decide_eq_false_iff_not, Bool.not_eq_true', Bool.not_eq_false', Int.toNat_natCast, beq_iff_eq, decide_eq_decide, beq_eq_false_iff_ne, ne_eq, reduceCtorEq] at h) <;> (conv => whnf))
    | (refine .inr (.inr (.inr (.inr ⟨[], [(1, 700)], _, _, _, ac_interlock_set b hb, rfl, ?_⟩))); conv => whnf)
    | (refine And.intro (by (try simp only [Int.toNat_natCast]); omega) ?_; conv => whnf)
    | (refine And.intro (show (_ : Bool) = true from by kernel_rfl) ?_; conv => whnf)
    | (refine .inl ⟨wrap64 (by omega), ?_⟩; conv => whnf)))
  refine loop_k (ι := Nat) [10, 11] [] (fun k => k ≤ a.length ∧ True) (fun k => a.length - k) 0 (fun k => [(5, .ref 700), (12, .pv (vint k))]) (fun k => [(700, .map (.one .str) (setLook (leftS a b k)))]) [] ⟨Nat.zero_le _, trivial⟩ ?_ (fun k hk => ?_)
  · (repeat' (first | exact PSub.rfl | exact rfl | exact PSubs.rfl | exact trivial | exact PSub.lit_sb rfl | refine And.intro ?_ ?_)); all_goals ((rintro _ ⟨s, rfl⟩; rw [setLook_str, setLook_str, leftS, show a.take 0 = [] from rfl, show memS [] s = false from rfl, Bool.not_false, Bool.and_true]))
  obtain ⟨hkn, hinv⟩ := hk
  conv => whnf
  repeat (any_goals (first
    | (refine ⟨fun (h : (_ : Bool) = true) => ?_, fun (h : (_ : Bool) = false) => ?_⟩ <;> (try simp only [decide_eq_true_eq, decide_eq_false_iff_not, Bool.not_eq_true', Bool.not_eq_false', Int.toNat_natCast, beq_iff_eq, decide_eq_decide, beq_eq_false_iff_ne, ne_eq, reduceCtorEq] at h) <;> (conv => whnf))
    | (refine And.intro (by (try simp only [Int.toNat_natCast]); omega) ?_; conv => whnf)
    | (refine And.intro (show (_ : Bool) = true from by kernel_rfl) ?_; conv => whnf)
    | (refine .inl ⟨wrap64 (by omega), ?_⟩; conv => whnf)))
  · have hk : k < a.length := by omega
    refine ⟨k + 1, [], ⟨by omega, trivial⟩, by omega, ?_⟩
    (repeat' (first | exact PSub.rfl | exact rfl | exact PSubs.rfl | exact trivial | exact PSub.lit_sb rfl | refine And.intro ?_ ?_))
    refine setLook_del fun s => ?_
    unfold leftS
    rw [memS_take a k hk]
    simp only [Int.toNat_natCast, Bool.not_or, Bool.and_assoc]
  · have hp : ∀ s, leftS a b k s = true ↔ s ∈ b.filter fun n => !memS a n := fun s => by
      unfold leftS
      rw [List.take_of_length_le (by omega), List.mem_filter, Bool.and_eq_true, memS_iff]
    repeat (any_goals (first
      | (refine ⟨fun (h : (_ : Bool) = true) => ?_, fun (h : (_ : Bool) = false) => ?_⟩ <;> (try simp only [decide_eq_true_eq, decide_eq_false_iff_not, Bool.not_eq_true', Bool.not_eq_false', Int.toNat_natCast, beq_iff_eq, decide_eq_decide, beq_eq_false_iff_ne, ne_eq, reduceCtorEq] at h) <;> (conv => whnf))
      | (refine .inl ⟨_, ac_interlock_ascending (leftS a b k) (b.filter fun n => !memS a n) hp (Nat.le_trans (List.length_filter_le _ _) (by omega)), ?_⟩; conv => whnf)
      | (refine And.intro (by (try simp only [Int.toNat_natCast]); omega) ?_; conv => whnf)
      | (refine And.intro (show (_ : Bool) = true from by kernel_rfl) ?_; conv => whnf)
      | (refine .inl ⟨wrap64 (by omega), ?_⟩; conv => whnf)))
    exact .rfl
theorem ac_interlock_Ended (a b : List ByteArray) (ha : smallL a) (hb : smallL b) : AC Tryz.prog 25 [.pv (roL 1 cstr a), .pv (roL 1 cstr b)] [] (.pv (roL 1 cstr (startL b a))) [] := by
  refine AC.of_awp (T := T) T_ok hm Tryz.call25 Tryz.func25 rfl rfl rfl ?_
  conv => whnf
  repeat (any_goals (first
    | (refine ⟨fun (h : (_ : Bool) = true) => ?_, fun (h : (_ : Bool) = false) => ?_⟩ <;> (try simp only [decide_eq_true_eq, decide_eq_false_iff_not, Bool.not_eq_true', Bool.not_eq_false', Int.toNat_natCast, beq_iff_eq, decide_eq_decide, beq_eq_false_iff_ne, ne_eq, reduceCtorEq] at h) <;> (conv => whnf))
    | (refine .inl ⟨_, ac_interlock_Started b a hb ha, ?_⟩; conv => whnf)
    | (refine And.intro (by (try simp only [Int.toNat_natCast]); omega) ?_; conv => whnf)
    | (refine And.intro (show (_ : Bool) = true from by kernel_rfl) ?_; conv => whnf)
    | (refine .inl ⟨wrap64 (by omega), ?_⟩; conv => whnf)))
  exact .rfl
theorem filt_take {l : List ByteArray} {k : Nat} {p : ByteArray → Bool} (hk : k < l.length) : (l.take (k + 1)).filter p = (l.take k).filter p ++ (if p (l.getD k default) = true then [l.getD k default] else []) := by
  rw [take_succ_getD hk, List.filter_append]
  congr 1
  by_cases e : p (l.getD k default) = true
  · rw [if_pos e]; simp only [List.filter_cons, List.filter_nil, e, if_true]
  · rw [if_neg e]; simp only [List.filter_cons, List.filter_nil, e, Bool.false_eq_true, if_false]
end Go.Abs

namespace Go.Abs
open Go.Proofs
set_option maxRecDepth 10000
theorem startL_small {a b : List ByteArray} (hb : smallL b) : smallL (startL a b) := Nat.le_trans (sortS_length _) (Nat.le_trans (List.length_filter_le _ _) hb)
end Go.Abs

namespace Go.Abs
open Go.Proofs
set_option maxRecDepth 10000
theorem mem_startL {a b : List ByteArray} {x : ByteArray} : x ∈ startL a b ↔ x ∈ b ∧ x ∉ a := by
  unfold startL
  rw [mem_sortS, List.mem_filter, Bool.not_eq_true', memS_false]
def wantL (a b : List ByteArray) (k : Nat) : List ByteArray := startL a b ++ (a.take k).filter fun n => !memS (startL b a) n
theorem wantL_sort (a b : List ByteArray) (h : smallL a) : sortS (wantL a b a.length) = sortS b := sortS_congr fun x => by
  unfold wantL
  rw [List.take_length, List.mem_append, mem_startL, List.mem_filter, Bool.not_eq_true', memS_false, mem_startL]
  by_cases h1 : x ∈ a <;> by_cases h2 : x ∈ b <;> simp [h1, h2]
theorem wantL_length (a b : List ByteArray) (k : Nat) : (wantL a b k).length ≤ b.length + a.length := by
  unfold wantL
  rw [List.length_append]
  have h1 : (startL a b).length ≤ b.length := Nat.le_trans (sortS_length _) (List.length_filter_le _ _)
  have h2 := List.length_filter_le (fun n => !memS (startL b a) n) (a.take k)
  rw [List.length_take] at h2
  omega
theorem ac_law45_InterlockChanges (a b : List ByteArray) (ha : smallL a) (hb : smallL b) : AC Tryz.prog 8 [.pv (roL 1 cstr a), .pv (roL 1 cstr b)] [] (.pv (vbool true)) [] := by
  have ha2 : a.length ≤ 1048576 := ha
  have hb2 : b.length ≤ 1048576 := hb
  refine AC.of_awp (T := T) T_ok hm Tryz.call8 Tryz.func8 rfl rfl rfl ?_
  conv => whnf
  repeat (any_goals (first
    | (refine ⟨fun (h : (_ : Bool) = true) => ?_, fun (h : (_ : Bool) = false) => ?_⟩ <;> (try simp only [decide_eq_true_eq, decide_eq_false_iff_not, Bool.not_eq_true', Bool.not_eq_false', Int.toNat_natCast, beq_iff_eq, decide_eq_decide, beq_eq_false_iff_ne, ne_eq, reduceCtorEq] at h) <;> (conv => whnf))
    | (refine .inl ⟨_, ac_law45_awake, ?_⟩; conv => whnf)
    | (refine .inl ⟨_, ac_interlock_Started a b ha hb, ?_⟩; conv => whnf)
    | (refine .inl ⟨_, ac_interlock_Ended a b ha hb, ?_⟩; conv => whnf)
    | (refine And.intro (by (try simp only [Int.toNat_natCast]); omega) ?_; conv => whnf)
    | (refine And.intro (show (_ : Bool) = true from by kernel_rfl) ?_; conv => whnf)
    | (refine .inl ⟨wrap64 (by omega), ?_⟩; conv => whnf)))
  all_goals try (exact PSub.rfl)
  rename_i g1
  have hsl : (startL a b).length ≤ 1048576 := startL_small hb
  have hel : (startL b a).length ≤ 1048576 := startL_small ha
  refine loop_k (ι := Nat) [0, 1, 5, 6, 27, 28] [] (fun k => k ≤ (startL a b).length ∧ True) (fun k => (startL a b).length - k) 0 (fun k => [(29, .pv (vint k))]) (fun _ => []) [] ⟨Nat.zero_le _, trivial⟩ ?_ (fun k hk => ?_)
  · (repeat' (first | exact PSub.rfl | exact rfl | exact PSubs.rfl | exact trivial | exact PSub.lit_sb rfl | refine And.intro ?_ ?_))
  obtain ⟨hkn, hinv⟩ := hk
  conv => whnf
  refine ⟨fun h => ?_, fun h => ?_⟩ <;> (try simp only [decide_eq_true_eq, decide_eq_false_iff_not, Bool.not_eq_true', Bool.not_eq_false', Int.toNat_natCast, beq_iff_eq, decide_eq_decide, beq_eq_false_iff_ne, ne_eq, reduceCtorEq] at h) <;> (conv => whnf)
  · have hk : k < (startL a b).length := by omega
    have hm : (startL a b).getD k default ∈ startL a b := by simp only [List.getD, List.getElem?_eq_getElem hk]; exact List.getElem_mem hk
    have hm2 := mem_startL.1 hm
    have hi1 : idxOf (startL b a) ((startL a b).getD k default) < 0 := by
      have : ¬ 0 ≤ idxOf (startL b a) ((startL a b).getD k default) := fun h => (mem_startL.1 (idxOf_in.1 h)).2 hm2.1
      omega
    have hi2 : idxOf a ((startL a b).getD k default) < 0 := by
      have : ¬ 0 ≤ idxOf a ((startL a b).getD k default) := fun h => hm2.2 (idxOf_in.1 h)
      omega
    repeat (any_goals (first
      | (refine ⟨fun (h : (_ : Bool) = true) => ?_, fun (h : (_ : Bool) = false) => ?_⟩ <;> (try simp only [decide_eq_true_eq, decide_eq_false_iff_not, Bool.not_eq_true', Bool.not_eq_false', Int.toNat_natCast, beq_iff_eq, decide_eq_decide, beq_eq_false_iff_ne, ne_eq, reduceCtorEq] at h) <;> (conv => whnf))
      | (refine .inl ⟨_, ac_r04_Index (startL b a) ((startL a b).getD k default) hel, ?_⟩; conv => whnf)
      | (refine .inl ⟨_, ac_r04_Index a ((startL a b).getD k default) ha2, ?_⟩; conv => whnf)
      | (refine And.intro (by (try simp only [Int.toNat_natCast]); omega) ?_; conv => whnf)
      | (refine And.intro (show (_ : Bool) = true from by kernel_rfl) ?_; conv => whnf)
      | (refine .inl ⟨wrap64 (by omega), ?_⟩; conv => whnf)))
    all_goals try (exfalso; omega)
    refine ⟨k + 1, [], ⟨by omega, ?_⟩, by first | omega | (dsimp only; omega), ?_⟩
    rotate_left
    · (repeat' (first | exact PSub.rfl | exact rfl | exact PSubs.rfl | exact trivial | exact PSub.lit_sb rfl | refine And.intro ?_ ?_))
    trivial
  · clear hinv hkn h
    repeat (any_goals (first
      | (refine ⟨fun (h : (_ : Bool) = true) => ?_, fun (h : (_ : Bool) = false) => ?_⟩ <;> (try simp only [decide_eq_true_eq, decide_eq_false_iff_not, Bool.not_eq_true', Bool.not_eq_false', Int.toNat_natCast, beq_iff_eq, decide_eq_decide, beq_eq_false_iff_ne, ne_eq, reduceCtorEq] at h) <;> (conv => whnf))
      | (refine And.intro (by (try simp only [Int.toNat_natCast]); omega) ?_; conv => whnf)
      | (refine And.intro (show (_ : Bool) = true from by kernel_rfl) ?_; conv => whnf)
      | (refine .inl ⟨wrap64 (by omega), ?_⟩; conv => whnf)))
    have hw0 : wantL a b 0 = startL a b := by unfold wantL; simp
    refine loop_k (ι := Nat) [1, 6, 47, 48] [] (fun q => q ≤ a.length) (fun q => a.length - q) 0 (fun q => [(9, .own 500), (49, .pv (vint q))]) (fun q => [(500, rowL 1 cstr (wantL a b q))]) [(500, 46)] (Nat.zero_le _) ?_ (fun q hq => ?_)
    · rw [hw0]
      (repeat' (first | exact PSub.rfl | exact rfl | exact PSubs.rfl | exact trivial | exact PSub.lit_sb rfl | refine And.intro ?_ ?_))
      · omega
      · intro i hi
        simp only [Nat.not_lt_zero, if_false, Nat.sub_zero]
        exact PSubs.rfl
    have hwl := wantL_length a b q
    conv => whnf
    repeat (any_goals (first
      | (refine ⟨fun (h : (_ : Bool) = true) => ?_, fun (h : (_ : Bool) = false) => ?_⟩ <;> (try simp only [decide_eq_true_eq, decide_eq_false_iff_not, Bool.not_eq_true', Bool.not_eq_false', Int.toNat_natCast, beq_iff_eq, decide_eq_decide, beq_eq_false_iff_ne, ne_eq, reduceCtorEq] at h) <;> (conv => whnf))
      | (refine .inl ⟨_, ac_r04_Index (startL b a) (a.getD q default) hel, ?_⟩; conv => whnf)
      | (refine .inl ⟨_, ac_r04_Sorted (wantL a b q) (by omega), ?_⟩; conv => whnf)
      | (refine .inl ⟨_, ac_r04_Sorted b (by omega), ?_⟩; conv => whnf)
      | (refine .inl ⟨_, ac_r04_Same (sortS (wantL a b q)) (sortS b) (Nat.le_trans (sortS_length _) (by omega)), ?_⟩; conv => whnf)
      | (refine .inl ⟨_, ac_law45_awake, ?_⟩; conv => whnf)
      | (refine And.intro (by (try simp only [Int.toNat_natCast]); omega) ?_; conv => whnf)
      | (refine And.intro (show (_ : Bool) = true from by kernel_rfl) ?_; conv => whnf)
      | (refine .inl ⟨wrap64 (by omega), ?_⟩; conv => whnf)))
    · have hk : q < a.length := by omega
      refine ⟨q + 1, [(500, 60)], by omega, by omega, ?_⟩
      rw [show wantL a b (q + 1) = wantL a b q ++ [a.getD q default] from by
        unfold wantL
        rw [filt_take hk, if_pos (by unfold memS; rw [decide_eq_false (by omega)]; rfl), List.append_assoc]]
      (repeat' (first | exact PSub.rfl | exact rfl | exact PSubs.rfl | exact trivial | exact PSub.lit_sb rfl | refine And.intro ?_ ?_))
      · simp
      · refine rows_snocF (fun i hi => by simp only [if_pos hi]; exact PSubs.rfl) (by simp only [if_neg (Nat.lt_irrefl _), Nat.sub_self]; exact PSubs.rfl)
    · have hk : q < a.length := by omega
      refine ⟨q + 1, [], by omega, by omega, ?_⟩
      rw [show wantL a b (q + 1) = wantL a b q from by
        unfold wantL
        rw [filt_take hk, if_neg (by unfold memS; rw [decide_eq_true (by omega)]; decide), List.append_nil]]
      (repeat' (first | exact PSub.rfl | exact rfl | exact PSubs.rfl | exact trivial | exact PSub.lit_sb rfl | refine And.intro ?_ ?_))
      intro i hi; exact PSubs.rfl
    · exact PSub.rfl
    · have hq2 : q = a.length := by omega
      subst hq2
      exact absurd (wantL_sort a b ha) h
end Go.Abs
