/- YtefmohlfcnjmjaaGreatY00: walks and contracts. -/
import Derived.Test.YtefmohlfcnjmjaaGreatX07

set_option linter.unusedVariables false
set_option linter.unusedSimpArgs false
set_option linter.unusedSectionVars false

namespace Go.Abs
variable [Globals]
theorem updAt_same {f : Nat → List PV} {i j : Nat} {cs : List PV} : updAt f i j cs i = splice (f i) j cs := by simp [updAt, putAt]
theorem updAt_ne {f : Nat → List PV} {i j k : Nat} {cs : List PV} (h : k ≠ i) : updAt f i j cs k = f k := by
  unfold updAt putAt
  rw [show Nat.beq k i = false from by rw [← Bool.not_eq_true]; simpa [Nat.beq_eq] using h]
end Go.Abs

namespace Go.Abs
open Go.RowKit
theorem cells_string {P : Program} {w : World} {r : Reach} {base : Nat} {t : TypeId} {v : Value} (ht : P.underlying t = some .string) (h : Value.okWide P w r base t v) : v.cells.toList = [v] := by
  cases v <;> first | rfl | simp [Value.okWide, ht, Cell.okWide, Cell.ok] at h
end Go.Abs

namespace Go.Abs
variable [Globals]
theorem evL_take (v : Vw) (l : List Ex) (k : Nat) (h : k < l.length) : (evL v l).take (k + 1) = (evL v l).take k ++ [evR v (l.getD k default)] := by
  rw [take_succ_getD (by rw [evL_length]; exact h), evL_getD v l k h]
theorem valE_none {v : Val} (h : valE v = 0) (hk : v.kind = 0) : v = noVal := by
  obtain ⟨k, n, s⟩ := v
  simp only at hk
  subst hk
  unfold valE at h
  dsimp only at h
  rw [if_neg (by omega)] at h
  by_cases h1 : n = 0
  · have h2 : s = ⟨#[]⟩ := by
      by_cases h3 : s = ⟨#[]⟩
      · exact h3
      · exfalso
        split at h
        · cases h
        · split at h
          · cases h
          · rw [if_pos ⟨h3, by omega⟩] at h; cases h
    subst h1; subst h2; rfl
  · exfalso
    rw [if_pos (by left; exact ⟨.inl rfl, h1⟩)] at h
    cases h
end Go.Abs

namespace Go.Abs
theorem putS_length (l : List ByteArray) (k : ByteArray) : (putS l k).length ≤ l.length + 1 := by
  induction l with
  | nil => simp [putS]
  | cons y r ih =>
    unfold putS
    split
    · simp only [List.length_cons]; omega
    · simp only [List.length_cons]
      have := List.length_filter_le (fun z => decide (z ≠ k)) (y :: r)
      simp only [List.length_cons] at this
      omega
theorem foldl_putS_length {l acc : List ByteArray} : (l.foldl putS acc).length ≤ acc.length + l.length := by
  induction l generalizing acc with
  | nil => simp
  | cons y r ih =>
    have h1 := ih (acc := putS acc y)
    have h2 := putS_length acc y
    simp only [List.foldl_cons, List.length_cons]; omega
theorem sortS_length (l : List ByteArray) : (sortS l).length ≤ l.length := by
  have := foldl_putS_length (l := l) (acc := [])
  simpa [sortS] using this
def insL (m : List ByteArray) (x : ByteArray) (j : Nat) : List ByteArray := m.take j ++ x :: m.drop j
theorem insL_length {m : List ByteArray} {x : ByteArray} {j : Nat} (h : j ≤ m.length) : (insL m x j).length = m.length + 1 := by
  unfold insL
  rw [List.length_append, List.length_take, List.length_cons, List.length_drop]
  omega
theorem insL_getD {m : List ByteArray} {x : ByteArray} {j i : Nat} (h : j ≤ m.length) : (insL m x j).getD i default = if i < j then m.getD i default else if i = j then x else m.getD (i - 1) default := by
  unfold insL
  by_cases h1 : i < j
  · rw [if_pos h1]
    have h2 : i < (m.take j).length := by rw [List.length_take]; omega
    simp [List.getD, List.getElem?_append_left h2, List.getElem?_take, h1]
  · rw [if_neg h1]
    have h2 : (m.take j).length ≤ i := by rw [List.length_take]; omega
    have h3 : (m.take j).length = j := by rw [List.length_take]; omega
    by_cases h4 : i = j
    · rw [if_pos h4]
      subst h4
      simp [List.getD, List.getElem?_append_right h2, h3]
    · rw [if_neg h4]
      simp only [List.getD, List.getElem?_append_right h2, h3]
      obtain ⟨d, rfl⟩ : ∃ d, i = j + (d + 1) := ⟨i - j - 1, by omega⟩
      rw [show j + (d + 1) - j = d + 1 by omega, List.getElem?_cons_succ, List.getElem?_drop, show j + (d + 1) - 1 = j + d by omega]
theorem insL_putS {m : List ByteArray} {x : ByteArray} {j : Nat} (hA : AscS m) (hx : x ∉ m) (hj : j ≤ m.length) (h1 : ∀ i, j ≤ i → i < m.length → sLt x (m.getD i default) = true) (h2 : j = 0 ∨ sLt x (m.getD (j - 1) default) = false) : insL m x j = putS m x := by
  refine ascS_ext ?_ (ascS_putS hA) fun y => ?_
  · unfold insL
    refine List.pairwise_append.2 ⟨hA.sublist (List.take_sublist _ _), List.pairwise_cons.2 ⟨fun y hy => ?_, hA.sublist (List.drop_sublist _ _)⟩, fun a ha b hb => ?_⟩
    · obtain ⟨i, hi, rfl⟩ := List.getElem_of_mem hy
      have hi' : j + i < m.length := by rw [List.length_drop] at hi; omega
      have := h1 (j + i) (by omega) hi'
      rw [getD_getElem _ _ hi'] at this
      simpa using this
    · obtain ⟨i, hi, rfl⟩ := List.getElem_of_mem ha
      rw [List.length_take] at hi
      have him : i < m.length := by omega
      have hax : sLt m[i] x = true := by
        have h3 := h2.resolve_left (by omega)
        rw [getD_getElem _ _ (show j - 1 < m.length by omega)] at h3
        have hne : m[j - 1] ≠ x := fun e => hx (e ▸ List.getElem_mem (show j - 1 < m.length by omega))
        have h4 := (sLt_total hne).resolve_right (by rw [h3]; simp)
        by_cases e : i = j - 1
        · subst e; exact h4
        · exact sLt_trans (List.pairwise_iff_getElem.1 hA i (j - 1) him (by omega) (by omega)) h4
      rw [List.getElem_take]
      rcases List.mem_cons.1 hb with rfl | hb
      · exact hax
      · obtain ⟨q, hq, rfl⟩ := List.getElem_of_mem hb
        have hq' : j + q < m.length := by rw [List.length_drop] at hq; omega
        rw [List.getElem_drop]
        exact List.pairwise_iff_getElem.1 hA i (j + q) him hq' (by omega)
  · rw [mem_putS]
    unfold insL
    rw [List.mem_append, List.mem_cons]
    constructor
    · rintro (h | h | h)
      · exact .inr (List.mem_of_mem_take h)
      · exact .inl h
      · exact .inr (List.mem_of_mem_drop h)
    · rintro (h | h)
      · exact .inr (.inl h)
      · rw [← List.take_append_drop j m, List.mem_append] at h
        rcases h with h | h
        · exact .inl h
        · exact .inr (.inr h)
theorem sortS_snoc (l : List ByteArray) (x : ByteArray) : sortS (l ++ [x]) = putS (sortS l) x := by simp [sortS]
theorem sortS_seen {l : List ByteArray} {x : ByteArray} (h : x ∈ l) : sortS (l ++ [x]) = sortS l := sortS_congr fun y => by
  rw [List.mem_append, List.mem_singleton]
  exact ⟨fun h2 => h2.elim id (fun e => e ▸ h), .inl⟩
theorem idxOf_before {l : List ByteArray} {k : Nat} (hk : k < l.length) : idxOf l (l.getD k default) < (k : Int) ↔ l.getD k default ∈ l.take k := by
  rw [idxOf_lt hk]
  simp only [memN, List.any_eq_true, List.mem_range, decide_eq_true_eq]
  constructor
  · rintro ⟨j, hj, e⟩
    rw [← e]
    have hj2 : j < (l.take k).length := by rw [List.length_take]; omega
    have : l.getD j default = (l.take k)[j] := by simp [List.getD, show j < l.length by omega]
    rw [this]; exact List.getElem_mem hj2
  · intro h
    obtain ⟨j, hj, e⟩ := List.getElem_of_mem h
    rw [List.length_take] at hj
    refine ⟨j, by omega, ?_⟩
    rw [← e]; simp [List.getD, show j < l.length by omega]
end Go.Abs

namespace Go.Abs
variable [Globals]
def startL (a b : List ByteArray) : List ByteArray := sortS (b.filter fun n => !memS a n)
end Go.Abs

namespace Go.Abs
open Go.Proofs Go.RowKit
set_option maxRecDepth 10000
section
variable {H : Type} {enc : TypeId × Value → H} {w : World} {bulk : DataW H → Nat}
theorem op_Span (hB : BulkOk bulk) : Opens enc Tryz.prog w bulk BB 248 cSpn (fun _ => True) :=
  (Opens.struct hB Tryz.underlying248 (by kernel_rfl) (.cons (size := 1) rfl (by kernel_rfl) op_int (.cons (size := 1) rfl (by kernel_rfl) op_int .nil))).imp (fun x => ⟨x.1, x.2.1⟩) (fun _ => rfl) (fun _ _ => trivial)
theorem op_l_Span (hB : BulkOk bulk) : Opens enc Tryz.prog w bulk BB 155 (fun l : List Spn => [roL 2 cSpn l]) smallL :=
  (Opens.slice hB Tryz.underlying155 (by kernel_rfl) (by decide) (op_Span hB)).imp id (fun _ => rfl) (fun _ h => h.1)
theorem op_Member (hB : BulkOk bulk) : Opens enc Tryz.prog w bulk BB 157 cMem (fun _ => True) :=
  (Opens.struct hB Tryz.underlying157 (by kernel_rfl) (.cons (size := 1) rfl (by kernel_rfl) (op_string hB) (.cons (size := 1) rfl (by kernel_rfl) op_int (.cons (size := 1) rfl (by kernel_rfl) (op_l_Span hB) (.cons (size := 1) rfl (by kernel_rfl) (op_l_string hB) (.cons (size := 1) rfl (by kernel_rfl) op_bool .nil)))))).imp
    (fun x => ⟨x.1, x.2.1, x.2.2.1, x.2.2.2.1, x.2.2.2.2.1⟩) (fun _ => rfl) (fun _ _ => trivial)
theorem op_l_Member (hB : BulkOk bulk) : Opens enc Tryz.prog w bulk BB 48 (fun l : List Mem => [roL 5 cMem l]) smallL :=
  (Opens.slice hB Tryz.underlying48 (by kernel_rfl) (by decide) (op_Member hB)).imp id (fun _ => rfl) (fun _ h => h.1)
theorem op_View (hB : BulkOk bulk) : Opens enc Tryz.prog w bulk BB 50 cVw smallV2 :=
  (Opens.struct hB Tryz.underlying50 (by kernel_rfl) (.cons (size := 1) rfl (by kernel_rfl) (op_l_Item hB) (.cons (size := 1) rfl (by kernel_rfl) (op_string hB) (.cons (size := 1) rfl (by kernel_rfl) op_int (.cons (size := 1) rfl (by kernel_rfl) (op_l_Member hB) .nil))))).imp
    (fun x => ⟨x.1, x.2.1, x.2.2.1, x.2.2.2.1⟩) (fun _ => rfl) (fun _ h => ⟨h.1.1, h.2.2.2.1⟩)
end
end Go.Abs

namespace Go.Abs
open Go.Proofs
set_option maxRecDepth 10000
theorem ac_r01_Clamp (n lo hi : Int) : AC Tryz.prog 219 [.pv (vint n), .pv (vint lo), .pv (vint hi)] [] (.pv (vint (clampI n lo hi))) [] := by
  refine AC.of_awp (T := T) T_ok hm Tryz.call219 Tryz.func219 rfl rfl rfl ?_
  conv => whnf
  repeat (any_goals (first
    | (refine ⟨fun (h : (_ : Bool) = true) => ?_, fun (h : (_ : Bool) = false) => ?_⟩ <;> (try simp only [decide_eq_true_eq, decide_eq_false_iff_not, Bool.not_eq_true', Bool.not_eq_false', Int.toNat_natCast, beq_iff_eq, decide_eq_decide, beq_eq_false_iff_ne, ne_eq, reduceCtorEq] at h) <;> (conv => whnf))
    | (refine And.intro (by (try simp only [Int.toNat_natCast]); omega) ?_; conv => whnf)
    | (refine And.intro (show (_ : Bool) = true from by kernel_rfl) ?_; conv => whnf)
    | (refine .inl ⟨wrap64 (by omega), ?_⟩; conv => whnf)))
  all_goals first
    | contradiction
    | (exfalso; omega)
    | exact PSub.rfl
    | (refine PSub.lit_sb ?_; (first | (simp [clampI, *]; done) | (simp_all [clampI]; done) | ((try simp only [clampI]); (repeat' split) <;> (try simp only [Bool.false_eq, Bool.true_eq, Bool.and_eq_false_iff, decide_eq_false_iff_not, Bool.and_eq_true, decide_eq_true_eq, decide_eq_decide]) <;> first | rfl | omega | (simp_all; done) | (simp_all; omega))))
    | (refine PSub.sb ?_; (first | (simp [clampI, *]; done) | (simp_all [clampI]; done) | ((try simp only [clampI]); (repeat' split) <;> (try simp only [Bool.false_eq, Bool.true_eq, Bool.and_eq_false_iff, decide_eq_false_iff_not, Bool.and_eq_true, decide_eq_true_eq, decide_eq_decide]) <;> first | rfl | omega | (simp_all; done) | (simp_all; omega))))
    | (refine PSub.sb_lit ?_; (first | (simp [clampI, *]; done) | (simp_all [clampI]; done) | ((try simp only [clampI]); (repeat' split) <;> (try simp only [Bool.false_eq, Bool.true_eq, Bool.and_eq_false_iff, decide_eq_false_iff_not, Bool.and_eq_true, decide_eq_true_eq, decide_eq_decide]) <;> first | rfl | omega | (simp_all; done) | (simp_all; omega))))
    | (refine PSub.int ?_; (first | (simp [clampI, *]; done) | (simp_all [clampI]; done) | ((try simp only [clampI]); (repeat' split) <;> (try simp only [Bool.false_eq, Bool.true_eq, Bool.and_eq_false_iff, decide_eq_false_iff_not, Bool.and_eq_true, decide_eq_true_eq, decide_eq_decide]) <;> first | rfl | omega | (simp_all; done) | (simp_all; omega))))
    | skip
theorem ac_r05_valid (m : Int) : AC Tryz.prog 205 [.pv (vint m)] [] (.pv (vint (clampI m 0 1073741824))) [] := by
  refine AC.of_awp (T := T) T_ok hm Tryz.call205 Tryz.func205 rfl rfl rfl ?_
  conv => whnf
  repeat (any_goals (first
    | (refine ⟨fun (h : (_ : Bool) = true) => ?_, fun (h : (_ : Bool) = false) => ?_⟩ <;> (try simp only [decide_eq_true_eq, decide_eq_false_iff_not, Bool.not_eq_true', Bool.not_eq_false', Int.toNat_natCast, beq_iff_eq, decide_eq_decide, beq_eq_false_iff_ne, ne_eq, reduceCtorEq] at h) <;> (conv => whnf))
    | (refine .inl ⟨_, ac_r01_Clamp m 0 1073741824, ?_⟩; conv => whnf)
    | (refine And.intro (by (try simp only [Int.toNat_natCast]); omega) ?_; conv => whnf)
    | (refine And.intro (show (_ : Bool) = true from by kernel_rfl) ?_; conv => whnf)
    | (refine .inl ⟨wrap64 (by omega), ?_⟩; conv => whnf)))
  all_goals exact PSub.rfl
theorem ac_r05_OfDay (m : Int) : AC Tryz.prog 172 [.pv (vint m)] [] (.pv (vint (ofDay m))) [] := by
  refine AC.of_awp (T := T) T_ok hm Tryz.call172 Tryz.func172 rfl rfl rfl ?_
  conv => whnf
  repeat (any_goals (first
    | (refine ⟨fun (h : (_ : Bool) = true) => ?_, fun (h : (_ : Bool) = false) => ?_⟩ <;> (try simp only [decide_eq_true_eq, decide_eq_false_iff_not, Bool.not_eq_true', Bool.not_eq_false', Int.toNat_natCast, beq_iff_eq, decide_eq_decide, beq_eq_false_iff_ne, ne_eq, reduceCtorEq] at h) <;> (conv => whnf))
    | (refine .inl ⟨_, ac_r05_valid m, ?_⟩; conv => whnf)
    | (refine And.intro (by (try simp only [Int.toNat_natCast]); omega) ?_; conv => whnf)
    | (refine And.intro (show (_ : Bool) = true from by kernel_rfl) ?_; conv => whnf)
    | (refine .inl ⟨wrap64 (by omega), ?_⟩; conv => whnf)))
  all_goals exact PSub.rfl
theorem ac_r05_Weekday (m : Int) : AC Tryz.prog 173 [.pv (vint m)] [] (.pv (vint (weekday m))) [] := by
  have hc := clamp_in m
  have hd := tdiv_in hc
  refine AC.of_awp (T := T) T_ok hm Tryz.call173 Tryz.func173 rfl rfl rfl ?_
  conv => whnf
  repeat (any_goals (first
    | (refine ⟨fun (h : (_ : Bool) = true) => ?_, fun (h : (_ : Bool) = false) => ?_⟩ <;> (try simp only [decide_eq_true_eq, decide_eq_false_iff_not, Bool.not_eq_true', Bool.not_eq_false', Int.toNat_natCast, beq_iff_eq, decide_eq_decide, beq_eq_false_iff_ne, ne_eq, reduceCtorEq] at h) <;> (conv => whnf))
    | (refine .inl ⟨_, ac_r05_valid m, ?_⟩; conv => whnf)
    | (refine And.intro (by (try simp only [Int.toNat_natCast]); omega) ?_; conv => whnf)
    | (refine And.intro (show (_ : Bool) = true from by kernel_rfl) ?_; conv => whnf)
    | (refine .inl ⟨wrap64 (by omega), ?_⟩; conv => whnf)))
  all_goals exact PSub.rfl
theorem satI_id {n : Int} (h : smallV n) : satI n = n := by
  obtain ⟨h1, h2⟩ := h
  unfold satI
  (repeat' split) <;> omega
theorem ac_r01_Sat (n : Int) : AC Tryz.prog 220 [.pv (vint n)] [] (.pv (vint (satI n))) [] := by
  refine AC.of_awp (T := T) T_ok hm Tryz.call220 Tryz.func220 rfl rfl rfl ?_
  conv => whnf
  repeat (any_goals (first
    | (refine ⟨fun (h : (_ : Bool) = true) => ?_, fun (h : (_ : Bool) = false) => ?_⟩ <;> (try simp only [decide_eq_true_eq, decide_eq_false_iff_not, Bool.not_eq_true', Bool.not_eq_false', Int.toNat_natCast, beq_iff_eq, decide_eq_decide, beq_eq_false_iff_ne, ne_eq, reduceCtorEq] at h) <;> (conv => whnf))
    | (refine And.intro (by (try simp only [Int.toNat_natCast]); omega) ?_; conv => whnf)
    | (refine And.intro (show (_ : Bool) = true from by kernel_rfl) ?_; conv => whnf)
    | (refine .inl ⟨wrap64 (by omega), ?_⟩; conv => whnf)))
  all_goals first
    | contradiction
    | (exfalso; omega)
    | exact PSub.rfl
    | (refine PSub.lit_sb ?_; (first | (simp [satI, *]; done) | (simp_all [satI]; done) | ((try simp only [satI]); (repeat' split) <;> (try simp only [Bool.false_eq, Bool.true_eq, Bool.and_eq_false_iff, decide_eq_false_iff_not, Bool.and_eq_true, decide_eq_true_eq, decide_eq_decide]) <;> first | rfl | omega | (simp_all; done) | (simp_all; omega))))
    | (refine PSub.sb ?_; (first | (simp [satI, *]; done) | (simp_all [satI]; done) | ((try simp only [satI]); (repeat' split) <;> (try simp only [Bool.false_eq, Bool.true_eq, Bool.and_eq_false_iff, decide_eq_false_iff_not, Bool.and_eq_true, decide_eq_true_eq, decide_eq_decide]) <;> first | rfl | omega | (simp_all; done) | (simp_all; omega))))
    | (refine PSub.sb_lit ?_; (first | (simp [satI, *]; done) | (simp_all [satI]; done) | ((try simp only [satI]); (repeat' split) <;> (try simp only [Bool.false_eq, Bool.true_eq, Bool.and_eq_false_iff, decide_eq_false_iff_not, Bool.and_eq_true, decide_eq_true_eq, decide_eq_decide]) <;> first | rfl | omega | (simp_all; done) | (simp_all; omega))))
    | (refine PSub.int ?_; (first | (simp [satI, *]; done) | (simp_all [satI]; done) | ((try simp only [satI]); (repeat' split) <;> (try simp only [Bool.false_eq, Bool.true_eq, Bool.and_eq_false_iff, decide_eq_false_iff_not, Bool.and_eq_true, decide_eq_true_eq, decide_eq_decide]) <;> first | rfl | omega | (simp_all; done) | (simp_all; omega))))
    | skip
theorem ac_r01_Add (a b : Int) (ha : smallV a) (hb : smallV b) : AC Tryz.prog 206 [.pv (vint a), .pv (vint b)] [] (.pv (vint (satI (a + b)))) [] := by
  obtain ⟨h1, h2⟩ := ha
  obtain ⟨h3, h4⟩ := hb
  refine AC.of_awp (T := T) T_ok hm Tryz.call206 Tryz.func206 rfl rfl rfl ?_
  conv => whnf
  repeat (any_goals (first
    | (refine ⟨fun (h : (_ : Bool) = true) => ?_, fun (h : (_ : Bool) = false) => ?_⟩ <;> (try simp only [decide_eq_true_eq, decide_eq_false_iff_not, Bool.not_eq_true', Bool.not_eq_false', Int.toNat_natCast, beq_iff_eq, decide_eq_decide, beq_eq_false_iff_ne, ne_eq, reduceCtorEq] at h) <;> (conv => whnf))
    | (refine .inl ⟨_, ac_r01_Sat (a + b), ?_⟩; conv => whnf)
    | (refine And.intro (by (try simp only [Int.toNat_natCast]); omega) ?_; conv => whnf)
    | (refine And.intro (show (_ : Bool) = true from by kernel_rfl) ?_; conv => whnf)
    | (refine .inl ⟨wrap64 (by omega), ?_⟩; conv => whnf)))
  all_goals first | exact PSub.rfl | (exfalso; omega)
theorem ac_r01_Sub (a b : Int) (ha : smallV a) (hb : smallV b) : AC Tryz.prog 207 [.pv (vint a), .pv (vint b)] [] (.pv (vint (satI (a - b)))) [] := by
  obtain ⟨h1, h2⟩ := ha
  obtain ⟨h3, h4⟩ := hb
  refine AC.of_awp (T := T) T_ok hm Tryz.call207 Tryz.func207 rfl rfl rfl ?_
  conv => whnf
  repeat (any_goals (first
    | (refine ⟨fun (h : (_ : Bool) = true) => ?_, fun (h : (_ : Bool) = false) => ?_⟩ <;> (try simp only [decide_eq_true_eq, decide_eq_false_iff_not, Bool.not_eq_true', Bool.not_eq_false', Int.toNat_natCast, beq_iff_eq, decide_eq_decide, beq_eq_false_iff_ne, ne_eq, reduceCtorEq] at h) <;> (conv => whnf))
    | (refine .inl ⟨_, ac_r01_Sat (a - b), ?_⟩; conv => whnf)
    | (refine And.intro (by (try simp only [Int.toNat_natCast]); omega) ?_; conv => whnf)
    | (refine And.intro (show (_ : Bool) = true from by kernel_rfl) ?_; conv => whnf)
    | (refine .inl ⟨wrap64 (by omega), ?_⟩; conv => whnf)))
  all_goals first | exact PSub.rfl | (exfalso; omega)
theorem ac_r01_abs (a : Int) (ha : smallV a) : AC Tryz.prog 221 [.pv (vint a)] [] (.pv (vint (sizeU a))) [] := by
  obtain ⟨h1, h2⟩ := ha
  have e0 : IntKind.i64.wrap (0 - a) = 0 - a := wrap64 (by omega)
  refine AC.of_awp (T := T) T_ok hm Tryz.call221 Tryz.func221 rfl rfl rfl ?_
  conv => whnf
  repeat (any_goals (first
    | (refine ⟨fun (h : (_ : Bool) = true) => ?_, fun (h : (_ : Bool) = false) => ?_⟩ <;> (try simp only [decide_eq_true_eq, decide_eq_false_iff_not, Bool.not_eq_true', Bool.not_eq_false', Int.toNat_natCast, beq_iff_eq, decide_eq_decide, beq_eq_false_iff_ne, ne_eq, reduceCtorEq] at h) <;> (conv => whnf))
    | (refine And.intro (by (try simp only [Int.toNat_natCast]); omega) ?_; conv => whnf)
    | (refine And.intro (show (_ : Bool) = true from by kernel_rfl) ?_; conv => whnf)
    | (refine .inl ⟨wrap64 (by omega), ?_⟩; conv => whnf)))
  · rw [e0]
    refine PSub.int ?_
    unfold sizeU
    rw [if_pos h]; omega
  · refine PSub.int ?_
    unfold sizeU
    rw [if_neg h]
theorem ac_r32_truth (b : Bool) : AC Tryz.prog 88 [.pv (vbool b)] [] (.pv (.agg (cVal (truV b)))) [] := by
  refine AC.of_awp (T := T) T_ok hm Tryz.call88 Tryz.func88 rfl rfl rfl ?_
  conv => whnf
  repeat (any_goals (first
    | (refine ⟨fun (h : (_ : Bool) = true) => ?_, fun (h : (_ : Bool) = false) => ?_⟩ <;> (try simp only [decide_eq_true_eq, decide_eq_false_iff_not, Bool.not_eq_true', Bool.not_eq_false', Int.toNat_natCast, beq_iff_eq, decide_eq_decide, beq_eq_false_iff_ne, ne_eq, reduceCtorEq] at h) <;> (conv => whnf))
    | (refine And.intro (by (try simp only [Int.toNat_natCast]); omega) ?_; conv => whnf)
    | (refine And.intro (show (_ : Bool) = true from by kernel_rfl) ?_; conv => whnf)
    | (refine .inl ⟨wrap64 (by omega), ?_⟩; conv => whnf)))
  · subst h
    repeat' (first | exact PSub.rfl | exact PSub.nil_ro _ _ | exact PSub.lit_sb rfl | exact trivial | exact all_lt_zero | refine PSub.agg ?_ | refine PSub.ro rfl ?_ | refine all_lt_succ ?_ ?_ | refine And.intro ?_ ?_)
  · subst h
    repeat' (first | exact PSub.rfl | exact PSub.nil_ro _ _ | exact PSub.lit_sb rfl | exact trivial | exact all_lt_zero | refine PSub.agg ?_ | refine PSub.ro rfl ?_ | refine all_lt_succ ?_ ?_ | refine And.intro ?_ ?_)
theorem ac_r32_within (t a b : Int) : AC Tryz.prog 171 [.pv (vint t), .pv (vint a), .pv (vint b)] [] (.pv (vbool (within t a b))) [] := by
  refine AC.of_awp (T := T) T_ok hm Tryz.call171 Tryz.func171 rfl rfl rfl ?_
  conv => whnf
  repeat (any_goals (first
    | (refine ⟨fun (h : (_ : Bool) = true) => ?_, fun (h : (_ : Bool) = false) => ?_⟩ <;> (try simp only [decide_eq_true_eq, decide_eq_false_iff_not, Bool.not_eq_true', Bool.not_eq_false', Int.toNat_natCast, beq_iff_eq, decide_eq_decide, beq_eq_false_iff_ne, ne_eq, reduceCtorEq] at h) <;> (conv => whnf))
    | (refine And.intro (by (try simp only [Int.toNat_natCast]); omega) ?_; conv => whnf)
    | (refine And.intro (show (_ : Bool) = true from by kernel_rfl) ?_; conv => whnf)
    | (refine .inl ⟨wrap64 (by omega), ?_⟩; conv => whnf)))
  all_goals first
    | contradiction
    | (exfalso; omega)
    | exact PSub.rfl
    | (refine PSub.lit_sb ?_; (first | (simp [within, *]; done) | (simp_all [within]; done) | ((try simp only [within]); (repeat' split) <;> (try simp only [Bool.false_eq, Bool.true_eq, Bool.and_eq_false_iff, decide_eq_false_iff_not, Bool.and_eq_true, decide_eq_true_eq, decide_eq_decide]) <;> first | rfl | omega | (simp_all; done) | (simp_all; omega))))
    | (refine PSub.sb ?_; (first | (simp [within, *]; done) | (simp_all [within]; done) | ((try simp only [within]); (repeat' split) <;> (try simp only [Bool.false_eq, Bool.true_eq, Bool.and_eq_false_iff, decide_eq_false_iff_not, Bool.and_eq_true, decide_eq_true_eq, decide_eq_decide]) <;> first | rfl | omega | (simp_all; done) | (simp_all; omega))))
    | (refine PSub.sb_lit ?_; (first | (simp [within, *]; done) | (simp_all [within]; done) | ((try simp only [within]); (repeat' split) <;> (try simp only [Bool.false_eq, Bool.true_eq, Bool.and_eq_false_iff, decide_eq_false_iff_not, Bool.and_eq_true, decide_eq_true_eq, decide_eq_decide]) <;> first | rfl | omega | (simp_all; done) | (simp_all; omega))))
    | (refine PSub.int ?_; (first | (simp [within, *]; done) | (simp_all [within]; done) | ((try simp only [within]); (repeat' split) <;> (try simp only [Bool.false_eq, Bool.true_eq, Bool.and_eq_false_iff, decide_eq_false_iff_not, Bool.and_eq_true, decide_eq_true_eq, decide_eq_decide]) <;> first | rfl | omega | (simp_all; done) | (simp_all; omega))))
    | skip
end Go.Abs

namespace Go.Abs
open Go.Proofs
set_option maxRecDepth 10000
theorem ac_r32_attr (v : Vw) (q : Key) (hv : smallV2 v) : AC Tryz.prog 170 [.pv (.agg (cVw v)), .pv (.agg (cKey q))] [] (.pv (.agg (cVal (atV v.items q)))) [] := by
  have hl : v.items.length ≤ 1048576 := hv.1
  refine AC.of_awp (T := T) T_ok hm Tryz.call170 Tryz.func170 rfl rfl rfl ?_
  conv => whnf
  refine loop_k (ι := Nat) [2, 3, 4] [2, 3, 4] (fun k => k ≤ v.items.length ∧ (∀ j, j < k → (v.items.getD j default).key ≠ q)) (fun k => v.items.length - k) 0 (fun k => [(5, .pv (vint k))]) (fun _ => []) [] ⟨Nat.zero_le _, fun j h => absurd h (by omega)⟩ ?_ (fun k hk => ?_)
  · (repeat' (first | exact PSub.rfl | exact rfl | exact PSubs.rfl | exact trivial | exact PSub.lit_sb rfl | refine And.intro ?_ ?_))
  obtain ⟨hkn, hinv⟩ := hk
  conv => whnf
  refine ⟨fun h => ?_, fun h => ?_⟩ <;> (try simp only [decide_eq_true_eq, decide_eq_false_iff_not, Bool.not_eq_true', Bool.not_eq_false', Int.toNat_natCast, beq_iff_eq, decide_eq_decide, beq_eq_false_iff_ne, ne_eq, reduceCtorEq] at h) <;> (conv => whnf)
  · have hk : k < v.items.length := by omega
    repeat (any_goals (first
      | (refine ⟨fun (h : (_ : Bool) = true) => ?_, fun (h : (_ : Bool) = false) => ?_⟩ <;> (try simp only [decide_eq_true_eq, decide_eq_false_iff_not, Bool.not_eq_true', Bool.not_eq_false', Int.toNat_natCast, beq_iff_eq, decide_eq_decide, beq_eq_false_iff_ne, ne_eq, reduceCtorEq] at h) <;> (conv => whnf))
      | (refine .inl ⟨_, ac_r20_Check (v.items.getD k default).value, ?_⟩; conv => whnf)
      | (refine And.intro (by (try simp only [Int.toNat_natCast]); omega) ?_; conv => whnf)
      | (refine And.intro (show (_ : Bool) = true from by kernel_rfl) ?_; conv => whnf)
      | (refine .inl ⟨wrap64 (by omega), ?_⟩; conv => whnf)))
    · rename_i h1
      have e1 := of_decide_eq_true ((key_eq _ _).symm.trans h1)
      have e2 : atV v.items q = noVal := by
        rw [atV_at hk e1 hinv]
        exact if_pos h
      rw [e2]
      repeat' (first | exact PSub.rfl | exact PSub.nil_ro _ _ | exact PSub.lit_sb rfl | exact trivial | exact all_lt_zero | refine PSub.agg ?_ | refine PSub.ro rfl ?_ | refine all_lt_succ ?_ ?_ | refine And.intro ?_ ?_)
    · rename_i h1
      have e1 := of_decide_eq_true ((key_eq _ _).symm.trans h1)
      have e2 : atV v.items q = (v.items.getD k default).value := by
        rw [atV_at hk e1 hinv]
        exact if_neg (fun x => x h)
      rw [e2]
      repeat' (first | exact PSub.rfl | exact PSub.nil_ro _ _ | exact PSub.lit_sb rfl | exact trivial | exact all_lt_zero | refine PSub.agg ?_ | refine PSub.ro rfl ?_ | refine all_lt_succ ?_ ?_ | refine And.intro ?_ ?_)
    · have e1 := of_decide_eq_false ((key_eq _ _).symm.trans h)
      refine ⟨k + 1, [], ⟨by omega, ?_⟩, by first | omega | (dsimp only; omega), ?_⟩
      rotate_left
      · (repeat' (first | exact PSub.rfl | exact rfl | exact PSubs.rfl | exact trivial | exact PSub.lit_sb rfl | refine And.intro ?_ ?_))
      intro j hj
      by_cases e : j = k
      · subst e; exact e1
      · exact hinv j (by omega)
  · have e2 : atV v.items q = noVal := by
      unfold atV
      rw [findI_no fun j hj => hinv j (by omega)]
    rw [e2]
    repeat' (first | exact PSub.rfl | exact PSub.nil_ro _ _ | exact PSub.lit_sb rfl | exact trivial | exact all_lt_zero | refine PSub.agg ?_ | refine PSub.ro rfl ?_ | refine all_lt_succ ?_ ?_ | refine And.intro ?_ ?_)
theorem ac_r32_home (v : Vw) (r : Int) (hv : smallV2 v) : AC Tryz.prog 174 [.pv (.agg (cVw v)), .pv (vint r)] [] (.pv (vbool (homeB v.members r))) [] := by
  have hl2 : v.members.length ≤ 1048576 := hv.2
  refine AC.of_awp (T := T) T_ok hm Tryz.call174 Tryz.func174 rfl rfl rfl ?_
  conv => whnf
  refine loop_k (ι := Nat) [1, 2] [2] (fun k => k ≤ v.members.length ∧ (∀ j, j < k → isHome (v.members.getD j default) r = false)) (fun k => v.members.length - k) 0 (fun k => [(5, .pv (vint k))]) (fun _ => []) [] ⟨Nat.zero_le _, fun j h => absurd h (by omega)⟩ ?_ (fun k hk => ?_)
  · (repeat' (first | exact PSub.rfl | exact rfl | exact PSubs.rfl | exact trivial | exact PSub.lit_sb rfl | refine And.intro ?_ ?_))
  obtain ⟨hkn, hinv⟩ := hk
  conv => whnf
  refine ⟨fun h => ?_, fun h => ?_⟩ <;> (try simp only [decide_eq_true_eq, decide_eq_false_iff_not, Bool.not_eq_true', Bool.not_eq_false', Int.toNat_natCast, beq_iff_eq, decide_eq_decide, beq_eq_false_iff_ne, ne_eq, reduceCtorEq] at h) <;> (conv => whnf)
  · have hk : k < v.members.length := by omega
    repeat (any_goals (first
      | (refine ⟨fun (h : (_ : Bool) = true) => ?_, fun (h : (_ : Bool) = false) => ?_⟩ <;> (try simp only [decide_eq_true_eq, decide_eq_false_iff_not, Bool.not_eq_true', Bool.not_eq_false', Int.toNat_natCast, beq_iff_eq, decide_eq_decide, beq_eq_false_iff_ne, ne_eq, reduceCtorEq] at h) <;> (conv => whnf))
      | (refine And.intro (by (try simp only [Int.toNat_natCast]); omega) ?_; conv => whnf)
      | (refine And.intro (show (_ : Bool) = true from by kernel_rfl) ?_; conv => whnf)
      | (refine .inl ⟨wrap64 (by omega), ?_⟩; conv => whnf)))
    all_goals first
      | exact PSub.lit_sb (any_at2 hk (by unfold isHome; simp_all)).symm
      | skip
    all_goals (refine ⟨k + 1, [], ⟨by omega, fun j hj => ?_⟩, by omega, ?_⟩)
    all_goals first
      | (by_cases e : j = k; · subst e; unfold isHome; simp_all
         exact hinv j (by omega))
      | skip
    all_goals (repeat' (first | exact PSub.rfl | exact rfl | exact PSubs.rfl | exact trivial | refine And.intro ?_ ?_))
  · exact PSub.lit_sb (any_no2 fun j hj => hinv j (by omega)).symm
theorem ac_r32_chain (l : List Val) (d : Bool) (hl : smallL l) : AC Tryz.prog 175 [.pv (roL 3 cVal l), .pv (vbool d)] [] (.pv (.agg (cVal (chainV l d)))) [] := by
  have hl2 : l.length ≤ 1048576 := hl
  refine AC.of_awp (T := T) T_ok hm Tryz.call175 Tryz.func175 rfl rfl rfl ?_
  conv => whnf
  refine loop_k (ι := Nat) [0, 1, 4] [4] (fun k => k ≤ l.length ∧ (∀ j, j < k → l.getD j default ≠ truV d)) (fun k => l.length - k) 0 (fun k => [(5, .pv (vbool ((l.take k).all fun x => decide (x.kind = 1)))), (6, .pv (vint k))]) (fun k => []) [] ⟨Nat.zero_le _, fun j h => absurd h (by omega)⟩ ?_ (fun k hk => ?_)
  · (repeat' (first | exact PSub.rfl | exact rfl | exact PSubs.rfl | exact trivial | exact PSub.lit_sb rfl | refine And.intro ?_ ?_)); all_goals (exact PSub.lit_sb rfl)
  obtain ⟨hkn, hinv⟩ := hk
  conv => whnf
  have hno : (∀ j, j < l.length → l.getD j default ≠ truV d) → chainV l d = if (l.all fun x => decide (x.kind = 1)) = true then truV (!d) else noVal := fun hf => by
    unfold chainV
    rw [if_neg]
    rw [Bool.not_eq_true, List.any_eq_false]
    intro x hx
    obtain ⟨j, hj, rfl⟩ := List.getElem_of_mem hx
    have := hf j hj
    rw [getD_getElem _ _ hj] at this
    simpa using this
  repeat (any_goals (first
    | (refine ⟨fun (h : (_ : Bool) = true) => ?_, fun (h : (_ : Bool) = false) => ?_⟩ <;> (try simp only [decide_eq_true_eq, decide_eq_false_iff_not, Bool.not_eq_true', Bool.not_eq_false', Int.toNat_natCast, beq_iff_eq, decide_eq_decide, beq_eq_false_iff_ne, ne_eq, reduceCtorEq] at h) <;> (conv => whnf))
    | (refine .inl ⟨_, ac_r32_truth d, ?_⟩; conv => whnf)
    | (refine .inl ⟨_, ac_r32_truth (!d), ?_⟩; conv => whnf)
    | (refine And.intro (by (try simp only [Int.toNat_natCast]); omega) ?_; conv => whnf)
    | (refine And.intro (show (_ : Bool) = true from by kernel_rfl) ?_; conv => whnf)
    | (refine .inl ⟨wrap64 (by omega), ?_⟩; conv => whnf)))
  · have hk : k < l.length := by omega
    have e1 := of_decide_eq_true ((val_eq _ _).symm.trans h)
    have e2 : chainV l d = l.getD k default := by
      unfold chainV
      rw [if_pos, e1]
      rw [List.any_eq_true]
      exact ⟨l[k], List.getElem_mem hk, decide_eq_true (by rw [← e1, getD_getElem _ _ hk])⟩
    rw [e2]
    repeat' (first | exact PSub.rfl | exact PSub.nil_ro _ _ | exact PSub.lit_sb rfl | exact trivial | exact all_lt_zero | refine PSub.agg ?_ | refine PSub.ro rfl ?_ | refine all_lt_succ ?_ ?_ | refine And.intro ?_ ?_)
  · rename_i h1
    have hk : k < l.length := by omega
    have e1 := of_decide_eq_false ((val_eq _ _).symm.trans h1)
    refine ⟨k + 1, [], ⟨by omega, fun j hj => ?_⟩, by omega, ?_⟩
    · by_cases e : j = k
      · subst e; exact e1
      · exact hinv j (by omega)
    · rw [take_succ_getD hk, List.all_append]
      (repeat' (first | exact PSub.rfl | exact rfl | exact PSubs.rfl | exact trivial | exact PSub.lit_sb rfl | refine And.intro ?_ ?_))
      exact PSub.lit_sb (by simp [h, -List.getD_eq_getElem?_getD])
  · rename_i h1
    have hk : k < l.length := by omega
    have e1 := of_decide_eq_false ((val_eq _ _).symm.trans h1)
    refine ⟨k + 1, [], ⟨by omega, fun j hj => ?_⟩, by omega, ?_⟩
    · by_cases e : j = k
      · subst e; exact e1
      · exact hinv j (by omega)
    · rw [take_succ_getD hk, List.all_append]
      (repeat' (first | exact PSub.rfl | exact rfl | exact PSubs.rfl | exact trivial | exact PSub.lit_sb rfl | refine And.intro ?_ ?_))
      exact PSub.sb (by simp [h, -List.getD_eq_getElem?_getD])
  · rw [List.take_of_length_le (by omega)] at h
    rw [hno fun j hj => hinv j (by omega), if_neg (by rw [h]; decide)]
    repeat' (first | exact PSub.rfl | exact PSub.nil_ro _ _ | exact PSub.lit_sb rfl | exact trivial | exact all_lt_zero | refine PSub.agg ?_ | refine PSub.ro rfl ?_ | refine all_lt_succ ?_ ?_ | refine And.intro ?_ ?_)
  · rw [List.take_of_length_le (by omega)] at h
    rw [hno fun j hj => hinv j (by omega), if_pos h]
    repeat' (first | exact PSub.rfl | exact PSub.nil_ro _ _ | exact PSub.lit_sb rfl | exact trivial | exact all_lt_zero | refine PSub.agg ?_ | refine PSub.ro rfl ?_ | refine all_lt_succ ?_ ?_ | refine And.intro ?_ ?_)
end Go.Abs

namespace Go.Abs
open Go.Proofs
set_option maxRecDepth 10000
theorem PSub.ofV {x : PV} {e e' : Val} (h : e = e') (k : PSub x (.agg (cVal e))) : PSub x (.agg (cVal e')) := h ▸ k
theorem neg_of {a b : Int} (h : ¬ (a < 0 ↔ b < 0)) : (!(decide (a < 0) == decide (b < 0))) = true := by
  rw [Bool.not_eq_true', beq_eq_false_iff_ne]
  exact fun e => h (decide_eq_decide.1 e)
theorem pos_of {a b : Int} (h : a < 0 ↔ b < 0) : (!(decide (a < 0) == decide (b < 0))) = false := by
  rw [Bool.not_eq_false', beq_iff_eq]
  exact decide_eq_decide.2 h
theorem mulI_zero {a b : Int} (h : a = 0 ∨ b = 0) : mulI a b = 0 := by
  have hs : ∀ c : Bool, signI 0 c = 0 := fun c => by unfold signI; rw [if_neg (by omega)]; cases c <;> rfl
  have hn : ∀ y : Int, 0 ≤ y → ¬ (1099511627776 : Int).tdiv y < 0 := fun y hy => by
    rw [Int.tdiv_eq_ediv_of_nonneg (by omega)]
    have := Int.ediv_nonneg (show (0 : Int) ≤ 1099511627776 by omega) hy
    omega
  have hp : 0 ≤ sizeU b := by unfold sizeU; split <;> omega
  unfold mulI
  rcases h with h | h
  · subst h
    rw [show sizeU 0 = 0 from rfl]
    unfold timesU
    rw [if_neg (fun x => hn _ hp x.2), Int.zero_mul, hs]
  · subst h
    rw [show sizeU 0 = 0 from rfl]
    unfold timesU
    rw [if_neg (fun x => x.1 rfl), Int.mul_zero, hs]
theorem sizeU_ne {a : Int} (h : a ≠ 0) : sizeU a ≠ 0 := by unfold sizeU; split <;> omega
theorem mul_small {x y : Int} (hx : 0 ≤ x) (hy : 0 < y) (h : ¬ (1099511627776 : Int).tdiv y < x) : 0 ≤ x * y ∧ x * y ≤ 1099511627776 := by
  refine ⟨Int.mul_nonneg hx (by omega), ?_⟩
  rw [Int.tdiv_eq_ediv_of_nonneg (by omega)] at h
  exact (Int.le_ediv_iff_mul_le hy).1 (by omega)
theorem mulI_big {a b : Int} (hb : b ≠ 0) (h : (1099511627776 : Int).tdiv (sizeU b) < sizeU a) : mulI a b = if (!(decide (a < 0) == decide (b < 0))) = true then -1099511627776 else 1099511627776 := by
  unfold mulI timesU
  rw [if_pos ⟨sizeU_ne hb, h⟩]
  unfold signI
  rw [if_pos (by omega)]
theorem mulI_ok {a b : Int} (ha : smallV a) (hb : smallV b) (hb0 : b ≠ 0) (h : ¬ (1099511627776 : Int).tdiv (sizeU b) < sizeU a) : mulI a b = if (!(decide (a < 0) == decide (b < 0))) = true then -(sizeU a * sizeU b) else sizeU a * sizeU b := by
  have h1 := sizeU_in ha
  have h2 := sizeU_in hb
  have h3 := sizeU_ne hb0
  have h4 := mul_small h1.1 (by omega) h
  unfold mulI timesU
  rw [if_neg (fun x => h x.2)]
  unfold signI
  rw [if_neg (by omega)]
theorem ac_r01_Mul (a b : Int) (ha : smallV a) (hb : smallV b) : AC Tryz.prog 208 [.pv (vint a), .pv (vint b)] [] (.pv (vint (mulI a b))) [] := by
  have h1 := sizeU_in ha
  have h2 := sizeU_in hb
  have hq : 0 ≤ (1099511627776 : Int).tdiv (sizeU b) ∧ (1099511627776 : Int).tdiv (sizeU b) ≤ 1099511627776 := by
    rw [Int.tdiv_eq_ediv_of_nonneg (by omega)]
    exact ⟨Int.ediv_nonneg (by omega) h2.1, Int.ediv_le_self _ (by omega)⟩
  have hnb : b ≠ 0 → sizeU b ≠ 0 := sizeU_ne
  have hbig := @mulI_big a b
  have hok := mulI_ok ha hb
  have hng := @neg_of a b
  have hps := @pos_of a b
  have hsm : b ≠ 0 → ¬ (1099511627776 : Int).tdiv (sizeU b) < sizeU a → 0 ≤ sizeU a * sizeU b ∧ sizeU a * sizeU b ≤ 1099511627776 := fun hb0 h => mul_small h1.1 (by have := hnb hb0; omega) h
  have ea := satI_id ha
  have eb := satI_id hb
  have ca := ac_r01_Sat a
  have cb := ac_r01_Sat b
  rw [ea] at ca
  rw [eb] at cb
  have l1 := ha.1
  have l2 := ha.2
  have l3 := hb.1
  have l4 := hb.2
  clear ea eb
  refine AC.of_awp (T := T) T_ok hm Tryz.call208 Tryz.func208 rfl rfl rfl ?_
  conv => whnf
  repeat (any_goals (first
    | (refine ⟨fun (h : (_ : Bool) = true) => ?_, fun (h : (_ : Bool) = false) => ?_⟩ <;> (try simp only [decide_eq_true_eq, decide_eq_false_iff_not, Bool.not_eq_true', Bool.not_eq_false', Int.toNat_natCast, beq_iff_eq, decide_eq_decide, beq_eq_false_iff_ne, ne_eq, reduceCtorEq] at h) <;> (conv => whnf))
    | (refine .inl ⟨_, ca, ?_⟩; conv => whnf)
    | (refine .inl ⟨_, cb, ?_⟩; conv => whnf)
    | (refine .inl ⟨_, ac_r01_abs a ha, ?_⟩; conv => whnf)
    | (refine .inl ⟨_, ac_r01_abs b hb, ?_⟩; conv => whnf)
    | (refine And.intro (by (try simp only [Int.toNat_natCast]); omega) ?_; conv => whnf)
    | (refine And.intro (show (_ : Bool) = true from by kernel_rfl) ?_; conv => whnf)
    | (refine .inl ⟨wrap64 (by omega), ?_⟩; conv => whnf)))
  all_goals first
    | (exfalso; omega)
    | exact PSub.int (mulI_zero (.inl (by assumption))).symm
    | exact PSub.int (mulI_zero (.inr (by assumption))).symm
    | skip
  · rename_i g1 g2 g3 g4 g5 g6 g7
    exact PSub.int (by rw [hbig g2 g7, if_pos (hng h)])
  · rename_i g1 g2 g3 g4 g5 g6 g7
    exact PSub.int (by rw [hbig g2 g7, if_neg (by rw [hps h]; decide)])
  · rename_i g1 g2 g3 g4 g5 g6 g7
    have h5 := hsm g2 g7
    have h6 : IntKind.i64.wrap (0 - sizeU a) = 0 - sizeU a := wrap64 (by omega)
    rw [h6, Int.sub_mul, Int.zero_mul]
    refine .inl ⟨wrap64 (by omega), ?_⟩
    conv => whnf
    exact PSub.int (by rw [hok g2 g7, if_pos (hng h)]; omega)
  · rename_i g1 g2 g3 g4 g5 g6 g7
    exact PSub.int (by rw [hok g2 g7, if_neg (by rw [hps h]; decide)])
theorem ac_r32_integers (k : Int) (a b : Val) (ha : valE a = 0) (hb : valE b = 0) : AC Tryz.prog 176 [.pv (vint k), .pv (.agg (cVal a)), .pv (.agg (cVal b))] [] (.pv (.agg (cVal (intV k a b)))) [] := by
  have hint : ¬ (a.kind ≠ 2 ∨ b.kind ≠ 2) → smallV a.n ∧ smallV b.n := fun h => ⟨small_of ha (by omega), small_of hb (by omega)⟩
  refine AC.of_awp (T := T) T_ok hm Tryz.call176 Tryz.func176 rfl rfl rfl ?_
  conv => whnf
  repeat (any_goals (first
    | (refine ⟨fun (h : (_ : Bool) = true) => ?_, fun (h : (_ : Bool) = false) => ?_⟩ <;> (try simp only [decide_eq_true_eq, decide_eq_false_iff_not, Bool.not_eq_true', Bool.not_eq_false', Int.toNat_natCast, beq_iff_eq, decide_eq_decide, beq_eq_false_iff_ne, ne_eq, reduceCtorEq] at h) <;> (conv => whnf))
    | (refine .inl ⟨_, ac_r32_truth (decide (a.n < b.n)), ?_⟩; conv => whnf)
    | (refine .inl ⟨_, ac_r01_Add a.n b.n (hint (by omega)).1 (hint (by omega)).2, ?_⟩; conv => whnf)
    | (refine .inl ⟨_, ac_r01_Sub a.n b.n (hint (by omega)).1 (hint (by omega)).2, ?_⟩; conv => whnf)
    | (refine .inl ⟨_, ac_r01_Mul a.n b.n (hint (by omega)).1 (hint (by omega)).2, ?_⟩; conv => whnf)
    | (refine And.intro (by (try simp only [Int.toNat_natCast]); omega) ?_; conv => whnf)
    | (refine And.intro (show (_ : Bool) = true from by kernel_rfl) ?_; conv => whnf)
    | (refine .inl ⟨wrap64 (by omega), ?_⟩; conv => whnf)))
  · refine PSub.ofV (e := noVal) (by unfold intV; rw [if_pos (.inl h)]) ?_
    repeat' (first | exact PSub.rfl | exact PSub.nil_ro _ _ | exact PSub.lit_sb rfl | exact trivial | exact all_lt_zero | refine PSub.agg ?_ | refine PSub.ro rfl ?_ | refine all_lt_succ ?_ ?_ | refine And.intro ?_ ?_)
  · refine PSub.ofV (e := noVal) (by unfold intV; rw [if_pos (.inr h)]) ?_
    repeat' (first | exact PSub.rfl | exact PSub.nil_ro _ _ | exact PSub.lit_sb rfl | exact trivial | exact all_lt_zero | refine PSub.agg ?_ | refine PSub.ro rfl ?_ | refine all_lt_succ ?_ ?_ | refine And.intro ?_ ?_)
  · rename_i h1 h2
    refine PSub.ofV (e := truV (decide (a.n < b.n))) (by unfold intV; rw [if_neg (by omega), if_pos h]) ?_
    repeat' (first | exact PSub.rfl | exact PSub.nil_ro _ _ | exact PSub.lit_sb rfl | exact trivial | exact all_lt_zero | refine PSub.agg ?_ | refine PSub.ro rfl ?_ | refine all_lt_succ ?_ ?_ | refine And.intro ?_ ?_)
  · rename_i h1 h2 h3
    refine PSub.ofV (e := ⟨2, satI (a.n + b.n), ⟨#[]⟩⟩) (by unfold intV; rw [if_neg (by omega), if_neg h3]; unfold binN; rw [if_pos h]) ?_
    repeat' (first | exact PSub.rfl | exact PSub.nil_ro _ _ | exact PSub.lit_sb rfl | exact trivial | exact all_lt_zero | refine PSub.agg ?_ | refine PSub.ro rfl ?_ | refine all_lt_succ ?_ ?_ | refine And.intro ?_ ?_)
  · rename_i h1 h2 h3 h4
    refine PSub.ofV (e := ⟨2, satI (a.n - b.n), ⟨#[]⟩⟩) (by unfold intV; rw [if_neg (by omega), if_neg h3]; unfold binN; rw [if_neg h4, if_pos h]) ?_
    repeat' (first | exact PSub.rfl | exact PSub.nil_ro _ _ | exact PSub.lit_sb rfl | exact trivial | exact all_lt_zero | refine PSub.agg ?_ | refine PSub.ro rfl ?_ | refine all_lt_succ ?_ ?_ | refine And.intro ?_ ?_)
  · rename_i h1 h2 h3 h4
    refine PSub.ofV (e := ⟨2, mulI a.n b.n, ⟨#[]⟩⟩) (by unfold intV; rw [if_neg (by omega), if_neg h3]; unfold binN; rw [if_neg h4, if_neg h]) ?_
    repeat' (first | exact PSub.rfl | exact PSub.nil_ro _ _ | exact PSub.lit_sb rfl | exact trivial | exact all_lt_zero | refine PSub.agg ?_ | refine PSub.ro rfl ?_ | refine all_lt_succ ?_ ?_ | refine And.intro ?_ ?_)
set_option maxHeartbeats 4000000 in
theorem ac_r32_node (v : Vw) (e : Ex) (hv : smallV2 v) (he : okN e) : AC Tryz.prog 125 [.pv (.agg (cVw v)), .pv (.agg (cEx e))] [] (.pv (.agg (cVal (evR v e)))) [] := by
  have hlen := nodeE_kids ((okN_iff e).1 he).1
  have ih : ∀ k, k < e.kids.length → AC Tryz.prog 125 [.pv (.agg (cVw v)), .pv (.agg (cEx (e.kids.getD k default)))] [] (.pv (.agg (cVal (evR v (e.kids.getD k default))))) [] := fun k hk =>
    have := Ex.kid_lt (Ex.kid_at hk)
    ac_r32_node v (e.kids.getD k default) hv ((okNL_iff _).1 ((okN_iff e).1 he).2 _ (Ex.kid_at hk))
  have hokk : ∀ k, k < e.kids.length → valE ((evL v e.kids).getD k default) = 0 := fun k hk => by
    rw [evL_getD v e.kids k hk]
    exact evR_ok v ((okNL_iff _).1 ((okN_iff e).1 he).2 _ (Ex.kid_at hk))
  have hL := evL_length v e.kids
  have hrg := range_node he
  have hkl := kids_len he
  have hki := okN_kind he
  have hw := weekday_in v.minute
  refine AC.ex2 ?_
  refine AC.of_awp (T := T) T_ok hm Tryz.call125 Tryz.func125 rfl rfl rfl ?_
  conv => whnf
  refine loop_k (ι := Nat) [2, 3, 4] [2, 3, 4] (fun k => k ≤ e.kids.length ∧ True) (fun k => e.kids.length - k) 0 (fun k => [(5, .own 500), (6, .pv (vint k))]) (fun k => [(500, rowL 3 cVal ((evL v e.kids).take k))]) [] ⟨Nat.zero_le _, trivial⟩ ?_ (fun k hk => ?_)
  · (repeat' (first | exact PSub.rfl | exact rfl | exact PSubs.rfl | exact trivial | exact PSub.lit_sb rfl | refine And.intro ?_ ?_)); all_goals (first | (intro i hi; exact absurd hi (by simp)) | (simp; done) | skip)
  obtain ⟨hkn, hinv⟩ := hk
  conv => whnf
  have hlk : ((evL v e.kids).take k).length = k := by rw [List.length_take]; omega
  refine ⟨fun h => ?_, fun h => ?_⟩ <;> (try simp only [decide_eq_true_eq, decide_eq_false_iff_not, Bool.not_eq_true', Bool.not_eq_false', Int.toNat_natCast, beq_iff_eq, decide_eq_decide, beq_eq_false_iff_ne, ne_eq, reduceCtorEq] at h) <;> (conv => whnf)
  · repeat (any_goals (first
      | (refine ⟨fun (h : (_ : Bool) = true) => ?_, fun (h : (_ : Bool) = false) => ?_⟩ <;> (try simp only [decide_eq_true_eq, decide_eq_false_iff_not, Bool.not_eq_true', Bool.not_eq_false', Int.toNat_natCast, beq_iff_eq, decide_eq_decide, beq_eq_false_iff_ne, ne_eq, reduceCtorEq] at h) <;> (conv => whnf))
      | (refine .inl ⟨_, ih k (by omega), ?_⟩; conv => whnf)
      | (refine And.intro (by (try simp only [Int.toNat_natCast]); omega) ?_; conv => whnf)
      | (refine And.intro (show (_ : Bool) = true from by kernel_rfl) ?_; conv => whnf)
      | (refine .inl ⟨wrap64 (by omega), ?_⟩; conv => whnf)))
    refine ⟨k + 1, [(500, 23)], ⟨by omega, trivial⟩, by omega, ?_⟩
    rw [evL_take v e.kids k (by omega)]
    (repeat' (first | exact PSub.rfl | exact rfl | exact PSubs.rfl | exact trivial | exact PSub.lit_sb rfl | refine And.intro ?_ ?_))
    · simp
    · refine rows_snocF (fun i hi => by simp only [if_pos hi]; exact PSubs.rfl) (by simp only [if_neg (Nat.lt_irrefl _), Nat.sub_self]; exact PSubs.rfl)
  rw [List.take_of_length_le (by omega)]
  rw [evR_eq]
  generalize evL v e.kids = l at *
  clear hlk ih hinv
  repeat (any_goals (first
    | (refine ⟨fun (h : (_ : Bool) = true) => ?_, fun (h : (_ : Bool) = false) => ?_⟩ <;> (try simp only [decide_eq_true_eq, decide_eq_false_iff_not, Bool.not_eq_true', Bool.not_eq_false', Int.toNat_natCast, beq_iff_eq, decide_eq_decide, beq_eq_false_iff_ne, ne_eq, reduceCtorEq] at h) <;> (conv => whnf))
    | (refine And.intro (by (try simp only [Int.toNat_natCast]); omega) ?_; conv => whnf)
    | (refine And.intro (show (_ : Bool) = true from by kernel_rfl) ?_; conv => whnf)
    | (refine .inl ⟨wrap64 (by omega), ?_⟩; conv => whnf)))
  all_goals (try contradiction)
  all_goals (try (exfalso; omega))
  · refine PSub.ofV (e := e.value) (by unfold nodV; rw [if_pos h]) ?_
    repeat' (first | exact PSub.rfl | exact PSub.nil_ro _ _ | exact PSub.lit_sb rfl | exact trivial | exact all_lt_zero | refine PSub.agg ?_ | refine PSub.ro rfl ?_ | refine all_lt_succ ?_ ?_ | refine And.intro ?_ ?_)
  · repeat (any_goals (first
      | (refine ⟨fun (h : (_ : Bool) = true) => ?_, fun (h : (_ : Bool) = false) => ?_⟩ <;> (try simp only [decide_eq_true_eq, decide_eq_false_iff_not, Bool.not_eq_true', Bool.not_eq_false', Int.toNat_natCast, beq_iff_eq, decide_eq_decide, beq_eq_false_iff_ne, ne_eq, reduceCtorEq] at h) <;> (conv => whnf))
      | (refine .inl ⟨_, ac_r32_attr v e.key hv, ?_⟩; conv => whnf)
      | (refine And.intro (by (try simp only [Int.toNat_natCast]); omega) ?_; conv => whnf)
      | (refine And.intro (show (_ : Bool) = true from by kernel_rfl) ?_; conv => whnf)
      | (refine .inl ⟨wrap64 (by omega), ?_⟩; conv => whnf)))
    refine PSub.ofV (e := atV v.items e.key) (by unfold nodV; rw [if_neg (by omega), if_pos h]) ?_
    repeat' (first | exact PSub.rfl | exact PSub.nil_ro _ _ | exact PSub.lit_sb rfl | exact trivial | exact all_lt_zero | refine PSub.agg ?_ | refine PSub.ro rfl ?_ | refine all_lt_succ ?_ ?_ | refine And.intro ?_ ?_)
  · repeat (any_goals (first
      | (refine ⟨fun (h : (_ : Bool) = true) => ?_, fun (h : (_ : Bool) = false) => ?_⟩ <;> (try simp only [decide_eq_true_eq, decide_eq_false_iff_not, Bool.not_eq_true', Bool.not_eq_false', Int.toNat_natCast, beq_iff_eq, decide_eq_decide, beq_eq_false_iff_ne, ne_eq, reduceCtorEq] at h) <;> (conv => whnf))
      | (refine .inl ⟨_, ac_r32_truth _, ?_⟩; conv => whnf)
      | (refine And.intro (by (try simp only [Int.toNat_natCast]); omega) ?_; conv => whnf)
      | (refine And.intro (show (_ : Bool) = true from by kernel_rfl) ?_; conv => whnf)
      | (refine .inl ⟨wrap64 (by omega), ?_⟩; conv => whnf)))
    refine PSub.ofV (e := truV (decide (v.mode = e.name))) (by unfold nodV; rw [if_neg (by omega), if_neg (by omega), if_pos h]) ?_
    repeat' (first | exact PSub.rfl | exact PSub.nil_ro _ _ | exact PSub.lit_sb rfl | exact trivial | exact all_lt_zero | refine PSub.agg ?_ | refine PSub.ro rfl ?_ | refine all_lt_succ ?_ ?_ | refine And.intro ?_ ?_)
  · refine PSub.ofV (e := noVal) (by unfold nodV; rw [if_neg (by omega), if_neg (by omega), if_neg (by omega), if_pos (by omega), if_pos h]) ?_
    repeat' (first | exact PSub.rfl | exact PSub.nil_ro _ _ | exact PSub.lit_sb rfl | exact trivial | exact all_lt_zero | refine PSub.agg ?_ | refine PSub.ro rfl ?_ | refine all_lt_succ ?_ ?_ | refine And.intro ?_ ?_)
  · repeat (any_goals (first
      | (refine ⟨fun (h : (_ : Bool) = true) => ?_, fun (h : (_ : Bool) = false) => ?_⟩ <;> (try simp only [decide_eq_true_eq, decide_eq_false_iff_not, Bool.not_eq_true', Bool.not_eq_false', Int.toNat_natCast, beq_iff_eq, decide_eq_decide, beq_eq_false_iff_ne, ne_eq, reduceCtorEq] at h) <;> (conv => whnf))
      | (refine .inl ⟨_, ac_r05_OfDay v.minute, ?_⟩; conv => whnf)
      | (refine .inl ⟨_, ac_r32_within (ofDay v.minute) e.n e.m, ?_⟩; conv => whnf)
      | (refine .inl ⟨_, ac_r32_truth _, ?_⟩; conv => whnf)
      | (refine And.intro (by (try simp only [Int.toNat_natCast]); omega) ?_; conv => whnf)
      | (refine And.intro (show (_ : Bool) = true from by kernel_rfl) ?_; conv => whnf)
      | (refine .inl ⟨wrap64 (by omega), ?_⟩; conv => whnf)))
    refine PSub.ofV (e := truV (within (ofDay v.minute) e.n e.m)) (by unfold nodV; rw [if_neg (by omega), if_neg (by omega), if_neg (by omega), if_pos (by omega), if_neg (by omega), if_pos (by omega)]) ?_
    repeat' (first | exact PSub.rfl | exact PSub.nil_ro _ _ | exact PSub.lit_sb rfl | exact trivial | exact all_lt_zero | refine PSub.agg ?_ | refine PSub.ro rfl ?_ | refine all_lt_succ ?_ ?_ | refine And.intro ?_ ?_)
  · refine PSub.ofV (e := noVal) (by unfold nodV; rw [if_neg (by omega), if_neg (by omega), if_neg (by omega), if_pos (by omega), if_pos h]) ?_
    repeat' (first | exact PSub.rfl | exact PSub.nil_ro _ _ | exact PSub.lit_sb rfl | exact trivial | exact all_lt_zero | refine PSub.agg ?_ | refine PSub.ro rfl ?_ | refine all_lt_succ ?_ ?_ | refine And.intro ?_ ?_)
  · repeat (any_goals (first
      | (refine ⟨fun (h : (_ : Bool) = true) => ?_, fun (h : (_ : Bool) = false) => ?_⟩ <;> (try simp only [decide_eq_true_eq, decide_eq_false_iff_not, Bool.not_eq_true', Bool.not_eq_false', Int.toNat_natCast, beq_iff_eq, decide_eq_decide, beq_eq_false_iff_ne, ne_eq, reduceCtorEq] at h) <;> (conv => whnf))
      | (refine .inl ⟨_, ac_r05_Weekday v.minute, ?_⟩; conv => whnf)
      | (refine .inl ⟨_, ac_r32_truth _, ?_⟩; conv => whnf)
      | (refine And.intro (by (try simp only [Int.toNat_natCast]); omega) ?_; conv => whnf)
      | (refine And.intro (show (_ : Bool) = true from by kernel_rfl) ?_; conv => whnf)
      | (refine .inl ⟨wrap64 (by omega), ?_⟩; conv => whnf)))
    refine PSub.ofV (e := truV (dayB e.n (weekday v.minute))) (by unfold nodV; rw [if_neg (by omega), if_neg (by omega), if_neg (by omega), if_pos (by omega), if_neg (by omega), if_neg (by omega)]) ?_
    repeat' (first | exact PSub.rfl | exact PSub.nil_ro _ _ | exact PSub.lit_sb rfl | exact trivial | exact all_lt_zero | refine PSub.agg ?_ | refine PSub.ro rfl ?_ | refine all_lt_succ ?_ ?_ | refine And.intro ?_ ?_)
  · repeat (any_goals (first
      | (refine ⟨fun (h : (_ : Bool) = true) => ?_, fun (h : (_ : Bool) = false) => ?_⟩ <;> (try simp only [decide_eq_true_eq, decide_eq_false_iff_not, Bool.not_eq_true', Bool.not_eq_false', Int.toNat_natCast, beq_iff_eq, decide_eq_decide, beq_eq_false_iff_ne, ne_eq, reduceCtorEq] at h) <;> (conv => whnf))
      | (refine .inl ⟨_, ac_r32_home v e.n hv, ?_⟩; conv => whnf)
      | (refine .inl ⟨_, ac_r32_truth _, ?_⟩; conv => whnf)
      | (refine And.intro (by (try simp only [Int.toNat_natCast]); omega) ?_; conv => whnf)
      | (refine And.intro (show (_ : Bool) = true from by kernel_rfl) ?_; conv => whnf)
      | (refine .inl ⟨wrap64 (by omega), ?_⟩; conv => whnf)))
    refine PSub.ofV (e := truV (homeB v.members e.n)) (by unfold nodV; rw [if_neg (by omega), if_neg (by omega), if_neg (by omega), if_neg (by omega), if_pos (by omega)]) ?_
    repeat' (first | exact PSub.rfl | exact PSub.nil_ro _ _ | exact PSub.lit_sb rfl | exact trivial | exact all_lt_zero | refine PSub.agg ?_ | refine PSub.ro rfl ?_ | refine all_lt_succ ?_ ?_ | refine And.intro ?_ ?_)
  · refine PSub.ofV (e := noVal) (by unfold nodV; rw [if_neg (by omega), if_neg (by omega), if_neg (by omega), if_neg (by omega), if_neg (by omega), if_pos (by omega), if_pos (by exact h)]) ?_
    repeat' (first | exact PSub.rfl | exact PSub.nil_ro _ _ | exact PSub.lit_sb rfl | exact trivial | exact all_lt_zero | refine PSub.agg ?_ | refine PSub.ro rfl ?_ | refine all_lt_succ ?_ ?_ | refine And.intro ?_ ?_)
  · repeat (any_goals (first
      | (refine ⟨fun (h : (_ : Bool) = true) => ?_, fun (h : (_ : Bool) = false) => ?_⟩ <;> (try simp only [decide_eq_true_eq, decide_eq_false_iff_not, Bool.not_eq_true', Bool.not_eq_false', Int.toNat_natCast, beq_iff_eq, decide_eq_decide, beq_eq_false_iff_ne, ne_eq, reduceCtorEq] at h) <;> (conv => whnf))
      | (refine .inl ⟨_, ac_r32_truth _, ?_⟩; conv => whnf)
      | (refine And.intro (by (try simp only [Int.toNat_natCast]); omega) ?_; conv => whnf)
      | (refine And.intro (show (_ : Bool) = true from by kernel_rfl) ?_; conv => whnf)
      | (refine .inl ⟨wrap64 (by omega), ?_⟩; conv => whnf)))
    refine PSub.ofV (e := truV (decide ((l.getD 0 default).n = 0))) (by unfold nodV; rw [if_neg (by omega), if_neg (by omega), if_neg (by omega), if_neg (by omega), if_neg (by omega), if_pos (by omega), if_neg (by exact fun x => x h)]) ?_
    repeat' (first | exact PSub.rfl | exact PSub.nil_ro _ _ | exact PSub.lit_sb rfl | exact trivial | exact all_lt_zero | refine PSub.agg ?_ | refine PSub.ro rfl ?_ | refine all_lt_succ ?_ ?_ | refine And.intro ?_ ?_)
  · repeat (any_goals (first
      | (refine ⟨fun (h : (_ : Bool) = true) => ?_, fun (h : (_ : Bool) = false) => ?_⟩ <;> (try simp only [decide_eq_true_eq, decide_eq_false_iff_not, Bool.not_eq_true', Bool.not_eq_false', Int.toNat_natCast, beq_iff_eq, decide_eq_decide, beq_eq_false_iff_ne, ne_eq, reduceCtorEq] at h) <;> (conv => whnf))
      | (refine .inl ⟨_, AC.sub2 (ac_r32_chain l false (by show _ ≤ _; omega)) .rfl (PSub.lit_sb rfl), ?_⟩; conv => whnf)
      | (refine And.intro (by (try simp only [Int.toNat_natCast]); omega) ?_; conv => whnf)
      | (refine And.intro (show (_ : Bool) = true from by kernel_rfl) ?_; conv => whnf)
      | (refine .inl ⟨wrap64 (by omega), ?_⟩; conv => whnf)))
    refine PSub.ofV (e := chainV l false) (by unfold nodV; rw [if_neg (by omega), if_neg (by omega), if_neg (by omega), if_neg (by omega), if_neg (by omega), if_neg (by omega), if_pos (by omega)]) ?_
    repeat' (first | exact PSub.rfl | exact PSub.nil_ro _ _ | exact PSub.lit_sb rfl | exact trivial | exact all_lt_zero | refine PSub.agg ?_ | refine PSub.ro rfl ?_ | refine all_lt_succ ?_ ?_ | refine And.intro ?_ ?_)
  · repeat (any_goals (first
      | (refine ⟨fun (h : (_ : Bool) = true) => ?_, fun (h : (_ : Bool) = false) => ?_⟩ <;> (try simp only [decide_eq_true_eq, decide_eq_false_iff_not, Bool.not_eq_true', Bool.not_eq_false', Int.toNat_natCast, beq_iff_eq, decide_eq_decide, beq_eq_false_iff_ne, ne_eq, reduceCtorEq] at h) <;> (conv => whnf))
      | (refine .inl ⟨_, AC.sub2 (ac_r32_chain l true (by show _ ≤ _; omega)) .rfl (PSub.lit_sb rfl), ?_⟩; conv => whnf)
      | (refine And.intro (by (try simp only [Int.toNat_natCast]); omega) ?_; conv => whnf)
      | (refine And.intro (show (_ : Bool) = true from by kernel_rfl) ?_; conv => whnf)
      | (refine .inl ⟨wrap64 (by omega), ?_⟩; conv => whnf)))
    refine PSub.ofV (e := chainV l true) (by unfold nodV; rw [if_neg (by omega), if_neg (by omega), if_neg (by omega), if_neg (by omega), if_neg (by omega), if_neg (by omega), if_neg (by omega), if_pos (by omega)]) ?_
    repeat' (first | exact PSub.rfl | exact PSub.nil_ro _ _ | exact PSub.lit_sb rfl | exact trivial | exact all_lt_zero | refine PSub.agg ?_ | refine PSub.ro rfl ?_ | refine all_lt_succ ?_ ?_ | refine And.intro ?_ ?_)
  · refine PSub.ofV (e := noVal) (by unfold nodV; rw [if_neg (by omega), if_neg (by omega), if_neg (by omega), if_neg (by omega), if_neg (by omega), if_neg (by omega), if_neg (by omega), if_neg (by omega), if_pos (by omega), if_pos (by exact .inl h)]) ?_
    repeat' (first | exact PSub.rfl | exact PSub.nil_ro _ _ | exact PSub.lit_sb rfl | exact trivial | exact all_lt_zero | refine PSub.agg ?_ | refine PSub.ro rfl ?_ | refine all_lt_succ ?_ ?_ | refine And.intro ?_ ?_)
  · refine PSub.ofV (e := noVal) (by unfold nodV; rw [if_neg (by omega), if_neg (by omega), if_neg (by omega), if_neg (by omega), if_neg (by omega), if_neg (by omega), if_neg (by omega), if_neg (by omega), if_pos (by omega), if_pos (by exact .inr h)]) ?_
    repeat' (first | exact PSub.rfl | exact PSub.nil_ro _ _ | exact PSub.lit_sb rfl | exact trivial | exact all_lt_zero | refine PSub.agg ?_ | refine PSub.ro rfl ?_ | refine all_lt_succ ?_ ?_ | refine And.intro ?_ ?_)
  · repeat (any_goals (first
      | (refine ⟨fun (h : (_ : Bool) = true) => ?_, fun (h : (_ : Bool) = false) => ?_⟩ <;> (try simp only [decide_eq_true_eq, decide_eq_false_iff_not, Bool.not_eq_true', Bool.not_eq_false', Int.toNat_natCast, beq_iff_eq, decide_eq_decide, beq_eq_false_iff_ne, ne_eq, reduceCtorEq] at h) <;> (conv => whnf))
      | (refine .inl ⟨_, ac_r32_truth _, ?_⟩; conv => whnf)
      | (refine And.intro (by (try simp only [Int.toNat_natCast]); omega) ?_; conv => whnf)
      | (refine And.intro (show (_ : Bool) = true from by kernel_rfl) ?_; conv => whnf)
      | (refine .inl ⟨wrap64 (by omega), ?_⟩; conv => whnf)))
    rw [val_eq]
    refine PSub.ofV (e := truV (decide ((l.getD 0 default) = (l.getD 1 default)))) (by unfold nodV; rw [if_neg (by omega), if_neg (by omega), if_neg (by omega), if_neg (by omega), if_neg (by omega), if_neg (by omega), if_neg (by omega), if_neg (by omega), if_pos (by omega), if_neg (by rename_i h1; exact fun x => x.elim h1 h)]) ?_
    repeat' (first | exact PSub.rfl | exact PSub.nil_ro _ _ | exact PSub.lit_sb rfl | exact trivial | exact all_lt_zero | refine PSub.agg ?_ | refine PSub.ro rfl ?_ | refine all_lt_succ ?_ ?_ | refine And.intro ?_ ?_)
  · refine PSub.ofV (e := noVal) (by unfold nodV; rw [if_neg (by omega), if_neg (by omega), if_neg (by omega), if_neg (by omega), if_neg (by omega), if_neg (by omega), if_neg (by omega), if_neg (by omega), if_neg (by omega), if_pos (by omega), if_pos (by exact h)]) ?_
    repeat' (first | exact PSub.rfl | exact PSub.nil_ro _ _ | exact PSub.lit_sb rfl | exact trivial | exact all_lt_zero | refine PSub.agg ?_ | refine PSub.ro rfl ?_ | refine all_lt_succ ?_ ?_ | refine And.intro ?_ ?_)
  · have hb := valE_bool (hokk 0 (by omega)) h
    have hn : 0 ≤ (l.getD (Int.toNat 0) default).n ∧ (l.getD (Int.toNat 0) default).n ≤ 1 := by
      show 0 ≤ (l.getD 0 default).n ∧ (l.getD 0 default).n ≤ 1
      rcases hb with hb | hb <;> (rw [hb]; decide)
    repeat (any_goals (first
      | (refine ⟨fun (h : (_ : Bool) = true) => ?_, fun (h : (_ : Bool) = false) => ?_⟩ <;> (try simp only [decide_eq_true_eq, decide_eq_false_iff_not, Bool.not_eq_true', Bool.not_eq_false', Int.toNat_natCast, beq_iff_eq, decide_eq_decide, beq_eq_false_iff_ne, ne_eq, reduceCtorEq] at h) <;> (conv => whnf))
      | (refine And.intro (by (try simp only [Int.toNat_natCast]); omega) ?_; conv => whnf)
      | (refine And.intro (show (_ : Bool) = true from by kernel_rfl) ?_; conv => whnf)
      | (refine .inl ⟨wrap64 (by omega), ?_⟩; conv => whnf)))
    refine PSub.ofV (e := l.getD (2 - (l.getD 0 default).n).toNat default) (by unfold nodV; rw [if_neg (by omega), if_neg (by omega), if_neg (by omega), if_neg (by omega), if_neg (by omega), if_neg (by omega), if_neg (by omega), if_neg (by omega), if_neg (by omega), if_pos (by omega), if_neg (by exact fun x => x h)]) ?_
    repeat' (first | exact PSub.rfl | exact PSub.nil_ro _ _ | exact PSub.lit_sb rfl | exact trivial | exact all_lt_zero | refine PSub.agg ?_ | refine PSub.ro rfl ?_ | refine all_lt_succ ?_ ?_ | refine And.intro ?_ ?_)
  · repeat (any_goals (first
      | (refine ⟨fun (h : (_ : Bool) = true) => ?_, fun (h : (_ : Bool) = false) => ?_⟩ <;> (try simp only [decide_eq_true_eq, decide_eq_false_iff_not, Bool.not_eq_true', Bool.not_eq_false', Int.toNat_natCast, beq_iff_eq, decide_eq_decide, beq_eq_false_iff_ne, ne_eq, reduceCtorEq] at h) <;> (conv => whnf))
      | (refine .inl ⟨_, ac_r32_integers e.kind (l.getD 0 default) (l.getD 1 default) (hokk 0 (by omega)) (hokk 1 (by omega)), ?_⟩; conv => whnf)
      | (refine And.intro (by (try simp only [Int.toNat_natCast]); omega) ?_; conv => whnf)
      | (refine And.intro (show (_ : Bool) = true from by kernel_rfl) ?_; conv => whnf)
      | (refine .inl ⟨wrap64 (by omega), ?_⟩; conv => whnf)))
    refine PSub.ofV (e := intV e.kind (l.getD 0 default) (l.getD 1 default)) (by unfold nodV; rw [if_neg (by omega), if_neg (by omega), if_neg (by omega), if_neg (by omega), if_neg (by omega), if_neg (by omega), if_neg (by omega), if_neg (by omega), if_neg (by omega), if_neg (by omega)]) ?_
    repeat' (first | exact PSub.rfl | exact PSub.nil_ro _ _ | exact PSub.lit_sb rfl | exact trivial | exact all_lt_zero | refine PSub.agg ?_ | refine PSub.ro rfl ?_ | refine all_lt_succ ?_ ?_ | refine And.intro ?_ ?_)
termination_by SizeOf.sizeOf e
end Go.Abs

namespace Go.Abs
open Go.Proofs
set_option maxRecDepth 10000
theorem ac_r32_Eval (v : Vw) (e : Ex) (hv : smallV2 v) : AC Tryz.prog 87 [.pv (.agg (cVw v)), .pv (.agg (cEx e))] [] (.pv (.tup [.agg (cVal (evlE v e).1), vbool (evlE v e).2])) [] := by
  have hok : exE e = 0 → okN e := fun h => ((exE_iff e).1 h).1
  refine AC.of_awp (T := T) T_ok hm Tryz.call87 Tryz.func87 rfl rfl rfl ?_
  conv => whnf
  repeat (any_goals (first
    | (refine ⟨fun (h : (_ : Bool) = true) => ?_, fun (h : (_ : Bool) = false) => ?_⟩ <;> (try simp only [decide_eq_true_eq, decide_eq_false_iff_not, Bool.not_eq_true', Bool.not_eq_false', Int.toNat_natCast, beq_iff_eq, decide_eq_decide, beq_eq_false_iff_ne, ne_eq, reduceCtorEq] at h) <;> (conv => whnf))
    | (refine .inl ⟨_, ac_r28_Check e, ?_⟩; conv => whnf)
    | (refine .inl ⟨_, ac_r32_node v e hv (hok (by assumption)), ?_⟩; conv => whnf)
    | (refine And.intro (by (try simp only [Int.toNat_natCast]); omega) ?_; conv => whnf)
    | (refine And.intro (show (_ : Bool) = true from by kernel_rfl) ?_; conv => whnf)
    | (refine .inl ⟨wrap64 (by omega), ?_⟩; conv => whnf)))
  · rw [show evlE v e = (noVal, false) from if_pos h]
    refine ⟨?_, ?_⟩ <;> (conv => whnf)
    · repeat' (first | exact PSub.rfl | exact PSub.nil_ro _ _ | exact PSub.lit_sb rfl | exact trivial | exact all_lt_zero | refine PSub.agg ?_ | refine PSub.ro rfl ?_ | refine all_lt_succ ?_ ?_ | refine And.intro ?_ ?_)
    · repeat' (first | exact PSub.rfl | exact PSub.nil_ro _ _ | exact PSub.lit_sb rfl | exact trivial | exact all_lt_zero | refine PSub.agg ?_ | refine PSub.ro rfl ?_ | refine all_lt_succ ?_ ?_ | refine And.intro ?_ ?_)
  · rw [show evlE v e = fndV (evR v e) from if_neg (fun x => x h)]
    have hz := evR_ok v (hok h)
    by_cases hk : (evR v e).kind = 0
    · rw [fndV_no hk, valE_none hz hk]
      refine ⟨?_, ?_⟩ <;> (conv => whnf)
      · repeat' (first | exact PSub.rfl | exact PSub.nil_ro _ _ | exact PSub.lit_sb rfl | exact trivial | exact all_lt_zero | refine PSub.agg ?_ | refine PSub.ro rfl ?_ | refine all_lt_succ ?_ ?_ | refine And.intro ?_ ?_)
      · exact PSub.sb rfl
    · rw [fndV_yes hk]
      refine ⟨?_, ?_⟩ <;> (conv => whnf)
      · repeat' (first | exact PSub.rfl | exact PSub.nil_ro _ _ | exact PSub.lit_sb rfl | exact trivial | exact all_lt_zero | refine PSub.agg ?_ | refine PSub.ro rfl ?_ | refine all_lt_succ ?_ ?_ | refine And.intro ?_ ?_)
      · exact PSub.sb (by simp [hk])
theorem ac_r32_True (v : Vw) (e : Ex) (hv : smallV2 v) : AC Tryz.prog 47 [.pv (.agg (cVw v)), .pv (.agg (cEx e))] [] (.pv (vbool (truE v e))) [] := by
  refine AC.of_awp (T := T) T_ok hm Tryz.call47 Tryz.func47 rfl rfl rfl ?_
  conv => whnf
  repeat (any_goals (first
    | (refine ⟨fun (h : (_ : Bool) = true) => ?_, fun (h : (_ : Bool) = false) => ?_⟩ <;> (try simp only [decide_eq_true_eq, decide_eq_false_iff_not, Bool.not_eq_true', Bool.not_eq_false', Int.toNat_natCast, beq_iff_eq, decide_eq_decide, beq_eq_false_iff_ne, ne_eq, reduceCtorEq] at h) <;> (conv => whnf))
    | (refine .inl ⟨_, ac_r32_Eval v e hv, ?_⟩; conv => whnf)
    | (refine .inl ⟨_, AC.sub1 (ac_r32_truth true) (PSub.lit_sb rfl), ?_⟩; conv => whnf)
    | (refine And.intro (by (try simp only [Int.toNat_natCast]); omega) ?_; conv => whnf)
    | (refine And.intro (show (_ : Bool) = true from by kernel_rfl) ?_; conv => whnf)
    | (refine .inl ⟨wrap64 (by omega), ?_⟩; conv => whnf)))
  · exact PSub.sb (by unfold truE; rw [h, Bool.true_and]; exact val_eq _ _)
  · exact PSub.lit_sb (by unfold truE; rw [h]; rfl)
theorem ac_r45_Unknown (v : Vw) (e : Ex) (hv : smallV2 v) : AC Tryz.prog 48 [.pv (.agg (cVw v)), .pv (.agg (cEx e))] [] (.pv (vbool (unkE v e))) [] := by
  refine AC.of_awp (T := T) T_ok hm Tryz.call48 Tryz.func48 rfl rfl rfl ?_
  conv => whnf
  repeat (any_goals (first
    | (refine ⟨fun (h : (_ : Bool) = true) => ?_, fun (h : (_ : Bool) = false) => ?_⟩ <;> (try simp only [decide_eq_true_eq, decide_eq_false_iff_not, Bool.not_eq_true', Bool.not_eq_false', Int.toNat_natCast, beq_iff_eq, decide_eq_decide, beq_eq_false_iff_ne, ne_eq, reduceCtorEq] at h) <;> (conv => whnf))
    | (refine .inl ⟨_, ac_r32_Eval v e hv, ?_⟩; conv => whnf)
    | (refine And.intro (by (try simp only [Int.toNat_natCast]); omega) ?_; conv => whnf)
    | (refine And.intro (show (_ : Bool) = true from by kernel_rfl) ?_; conv => whnf)
    | (refine .inl ⟨wrap64 (by omega), ?_⟩; conv => whnf)))
  all_goals exact PSub.rfl
end Go.Abs

namespace Go.Abs
open Go.Proofs
set_option maxRecDepth 10000
theorem ac_r04_Sorted (l : List ByteArray) (hl : l.length ≤ 1048576) : AC Tryz.prog 27 [.pv (roL 1 cstr l)] [] (.pv (roL 1 cstr (sortS l))) [] := by
  refine AC.of_awp (T := T) T_ok hm Tryz.call27 Tryz.func27 rfl rfl rfl ?_
  conv => whnf
  refine loop_k (ι := Nat) [0] [] (fun k => k ≤ l.length ∧ True) (fun k => l.length - k) 0 (fun k => [(3, .own 500), (4, .pv (vint k))]) (fun k => [(500, rowL 1 cstr (sortS (l.take k)))]) [] ⟨Nat.zero_le _, trivial⟩ ?_ (fun k hk => ?_)
  · (repeat' (first | exact PSub.rfl | exact rfl | exact PSubs.rfl | exact trivial | exact PSub.lit_sb rfl | refine And.intro ?_ ?_)); all_goals ((intro i hi; exact absurd hi (by simp [sortS])))
  obtain ⟨hkn, hinv⟩ := hk
  conv => whnf
  have hlen := sortS_length (l.take k)
  rw [List.length_take] at hlen
  repeat (any_goals (first
    | (refine ⟨fun (h : (_ : Bool) = true) => ?_, fun (h : (_ : Bool) = false) => ?_⟩ <;> (try simp only [decide_eq_true_eq, decide_eq_false_iff_not, Bool.not_eq_true', Bool.not_eq_false', Int.toNat_natCast, beq_iff_eq, decide_eq_decide, beq_eq_false_iff_ne, ne_eq, reduceCtorEq] at h) <;> (conv => whnf))
    | (refine .inl ⟨_, ac_r04_Index l (l.getD k default) hl, ?_⟩; conv => whnf)
    | (refine And.intro (by (try simp only [Int.toNat_natCast]); omega) ?_; conv => whnf)
    | (refine And.intro (show (_ : Bool) = true from by kernel_rfl) ?_; conv => whnf)
    | (refine .inl ⟨wrap64 (by omega), ?_⟩; conv => whnf)))
  · have hk : k < l.length := by omega
    have hin := (idxOf_before hk).1 h
    refine ⟨k + 1, [], ⟨by omega, trivial⟩, by omega, ?_⟩
    rw [take_succ_getD hk, sortS_seen hin]
    (repeat' (first | exact PSub.rfl | exact rfl | exact PSubs.rfl | exact trivial | exact PSub.lit_sb rfl | refine And.intro ?_ ?_))
    intro i hi; exact PSubs.rfl
  · have hk : k < l.length := by omega
    have hin : ¬ l.getD k default ∈ l.take k := fun h2 => h ((idxOf_before hk).2 h2)
    have hx : l.getD k default ∉ sortS (l.take k) := fun h2 => hin (mem_sortS.1 h2)
    have hA := ascS_sortS (l.take k)
    have hS := sortS_snoc (l.take k) (l.getD k default)
    rw [← take_succ_getD hk] at hS
    obtain ⟨x, hxdef⟩ : ∃ x, x = l.getD k default := ⟨_, rfl⟩
    rw [← hxdef] at hin hx hS
    generalize sortS (l.take k) = m at *
    refine loop_k (ι := Nat) [0, 4] [] (fun j => j ≤ m.length ∧ ∀ i, j ≤ i → i < m.length → sLt x (m.getD i default) = true) (fun j => j) m.length (fun j => [(3, .own 501), (5, .pv (vint j))]) (fun j => [(501, rowL 1 cstr (insL m x j))]) [(501, 27)] ⟨Nat.le_refl _, fun i h1 h2 => absurd h2 (by omega)⟩ ?_ (fun j hj => ?_)
    · have hi := insL_length (x := x) (Nat.le_refl m.length)
      have he : insL m x m.length = m ++ [x] := by simp [insL]
      rw [he]
      (repeat' (first | exact PSub.rfl | exact rfl | exact PSubs.rfl | exact trivial | exact PSub.lit_sb rfl | refine And.intro ?_ ?_))
      · simp
      · refine rows_snocF (fun i hi => by simp only [if_pos hi]; exact PSubs.rfl) (by simp only [if_neg (Nat.lt_irrefl _), Nat.sub_self]; rw [hxdef]; exact PSubs.rfl)
      · exact PSub.int (by omega)
    obtain ⟨hjn, hinv⟩ := hj
    have hil := insL_length (x := x) hjn
    have hg : ∀ i, (insL m x j).getD i default = if i < j then m.getD i default else if i = j then x else m.getD (i - 1) default := fun i => insL_getD hjn
    have hxj : (insL m x j).getD j default = x := by rw [hg, if_neg (by omega), if_pos rfl]
    have hj1 : ((j : Int) - 1).toNat = j - 1 := by omega
    have hmj : 0 < j → (insL m x j).getD (j - 1) default = m.getD (j - 1) default := fun h => by rw [hg, if_pos (by omega)]
    conv => whnf
    repeat (any_goals (first
      | (refine ⟨fun (h : (_ : Bool) = true) => ?_, fun (h : (_ : Bool) = false) => ?_⟩ <;> (try simp only [decide_eq_true_eq, decide_eq_false_iff_not, Bool.not_eq_true', Bool.not_eq_false', Int.toNat_natCast, beq_iff_eq, decide_eq_decide, beq_eq_false_iff_ne, ne_eq, reduceCtorEq] at h) <;> (conv => whnf))
      | (refine And.intro (by (try simp only [Int.toNat_natCast]); omega) ?_; conv => whnf)
      | (refine And.intro (show (_ : Bool) = true from by kernel_rfl) ?_; conv => whnf)
      | (refine .inl ⟨wrap64 (by omega), ?_⟩; conv => whnf)))
    · have hpos : 0 < j := by omega
      rw [hj1, hxj, hmj hpos] at h
      refine ⟨j - 1, [], ⟨by omega, fun i h1 h2 => ?_⟩, by omega, ?_⟩
      · by_cases e : i = j - 1
        · subst e; exact h
        · exact hinv i (by omega) h2
      · have hil2 := insL_length (x := x) (show j - 1 ≤ m.length by omega)
        have hg2 : ∀ i, (insL m x (j - 1)).getD i default = if i < j - 1 then m.getD i default else if i = j - 1 then x else m.getD (i - 1) default := fun i => insL_getD (by omega)
        (repeat' (first | exact PSub.rfl | exact rfl | exact PSubs.rfl | exact trivial | exact PSub.lit_sb rfl | refine And.intro ?_ ?_))
        · rw [hil2, hil]
        · intro i hi
          simp only [Int.toNat_natCast, hj1]
          by_cases e1 : i = j - 1
          · subst e1
            rw [updAt_same, updAt_ne (by omega), hg2, if_neg (by omega), if_pos rfl]
            exact ⟨PSub.str hxj, trivial⟩
          · rw [updAt_ne e1]
            by_cases e2 : i = j
            · subst e2
              rw [updAt_same, hg2, if_neg (by omega), if_neg (by omega)]
              exact ⟨PSub.str (hmj hpos), trivial⟩
            · rw [updAt_ne e2, hg2]
              refine ⟨PSub.str ?_, trivial⟩
              rw [hg]
              by_cases e3 : i < j
              · rw [if_pos e3, if_pos (by omega)]
              · rw [if_neg e3, if_neg e2, if_neg (by omega), if_neg (by omega)]
        · exact PSub.int (by omega)
    · have hpos : 0 < j := by omega
      rw [hj1, hxj, hmj hpos] at h
      refine ⟨k + 1, [(500, 501)], ⟨by omega, trivial⟩, by omega, ?_⟩
      rw [hS, ← insL_putS hA hx hjn hinv (.inr h)]
      (repeat' (first | exact PSub.rfl | exact rfl | exact PSubs.rfl | exact trivial | exact PSub.lit_sb rfl | refine And.intro ?_ ?_))
      intro i hi; exact PSubs.rfl
    · have hz : j = 0 := by omega
      refine ⟨k + 1, [(500, 501)], ⟨by omega, trivial⟩, by omega, ?_⟩
      rw [hS, ← insL_putS hA hx hjn hinv (.inl hz)]
      (repeat' (first | exact PSub.rfl | exact rfl | exact PSubs.rfl | exact trivial | exact PSub.lit_sb rfl | refine And.intro ?_ ?_))
      intro i hi; exact PSubs.rfl
  · rw [List.take_of_length_le (by omega)]
    exact .rfl
end Go.Abs

namespace Go.Abs
open Go.Proofs
set_option maxRecDepth 10000
def leftS (a b : List ByteArray) (k : Nat) (s : ByteArray) : Bool := memS b s && !memS (a.take k) s
theorem ac_interlock_Started (a b : List ByteArray) (ha : smallL a) (hb : smallL b) : AC Tryz.prog 23 [.pv (roL 1 cstr a), .pv (roL 1 cstr b)] [] (.pv (roL 1 cstr (startL a b))) [] := by
  have ha2 : a.length ≤ 1048576 := ha
  have hb2 : b.length ≤ 1048576 := hb
  refine AC.of_awp (T := T) T_ok hm Tryz.call23 Tryz.func23 rfl rfl rfl ?_
  conv => whnf
  repeat (any_goals (first
    | (refine ⟨fun (h : (_ : Bool) = true) => ?_, fun (h : (_ : Bool) = false) => ?_⟩ <;> (try simp only [decide_eq_true_eq, decide_eq_false_iff_not, Bool.not_eq_true', Bool.not_eq_false', Int.toNat_natCast, beq_iff_eq, decide_eq_decide, beq_eq_false_iff_ne, ne_eq, reduceCtorEq] at h) <;> (conv => whnf))
    | (refine .inr (.inr (.inr (.inr ⟨[], [(1, 700)], _, _, _, ac_interlock_set b hb, rfl, ?_⟩))); conv => whnf)
    | (refine And.intro (by (try simp only [Int.toNat_natCast]); omega) ?_; conv => whnf)
    | (refine And.intro (show (_ : Bool) = true from by kernel_rfl) ?_; conv => whnf)
    | (refine .inl ⟨wrap64 (by omega), ?_⟩; conv => whnf)))
  refine loop_k (ι := Nat) [10, 11] [] (fun k => k ≤ a.length ∧ True) (fun k => a.length - k) 0 (fun k => [(5, .ref 700), (12, .pv (vint k))]) (fun k => [(700, .map (.one .str) (setLook (leftS a b k)))]) [] ⟨Nat.zero_le _, trivial⟩ ?_ (fun k hk => ?_)
  · (repeat' (first | exact PSub.rfl | exact rfl | exact PSubs.rfl | exact trivial | exact PSub.lit_sb rfl | refine And.intro ?_ ?_)); all_goals ((rintro _ ⟨s, rfl⟩; rw [setLook_str, setLook_str, leftS, show a.take 0 = [] from rfl, show memS [] s = false from rfl, Bool.not_false, Bool.and_true]))
  obtain ⟨hkn, hinv⟩ := hk
  conv => whnf
  repeat (any_goals (first
    | (refine ⟨fun (h : (_ : Bool) = true) => ?_, fun (h : (_ : Bool) = false) => ?_⟩ <;> (try simp only [decide_eq_true_eq, decide_eq_false_iff_not, Bool.not_eq_true', Bool.not_eq_false', Int.toNat_natCast, beq_iff_eq, decide_eq_decide, beq_eq_false_iff_ne, ne_eq, reduceCtorEq] at h) <;> (conv => whnf))
    | (refine And.intro (by (try simp only [Int.toNat_natCast]); omega) ?_; conv => whnf)
    | (refine And.intro (show (_ : Bool) = true from by kernel_rfl) ?_; conv => whnf)
    | (refine .inl ⟨wrap64 (by omega), ?_⟩; conv => whnf)))
  · have hk : k < a.length := by omega
    refine ⟨k + 1, [], ⟨by omega, trivial⟩, by omega, ?_⟩
    (repeat' (first | exact PSub.rfl | exact rfl | exact PSubs.rfl | exact trivial | exact PSub.lit_sb rfl | refine And.intro ?_ ?_))
    refine setLook_del fun s => ?_
    unfold leftS
    rw [memS_take a k hk]
    simp only [Int.toNat_natCast, Bool.not_or, Bool.and_assoc]
  · have hp : ∀ s, leftS a b k s = true ↔ s ∈ b.filter fun n => !memS a n := fun s => by
      unfold leftS
      rw [List.take_of_length_le (by omega), List.mem_filter, Bool.and_eq_true, memS_iff]
    repeat (any_goals (first
      | (refine ⟨fun (h : (_ : Bool) = true) => ?_, fun (h : (_ : Bool) = false) => ?_⟩ <;> (try simp only [decide_eq_true_eq, decide_eq_false_iff_not, Bool.not_eq_true', Bool.not_eq_false', Int.toNat_natCast, beq_iff_eq, decide_eq_decide, beq_eq_false_iff_ne, ne_eq, reduceCtorEq] at h) <;> (conv => whnf))
      | (refine .inl ⟨_, ac_interlock_ascending (leftS a b k) (b.filter fun n => !memS a n) hp (Nat.le_trans (List.length_filter_le _ _) (by omega)), ?_⟩; conv => whnf)
      | (refine And.intro (by (try simp only [Int.toNat_natCast]); omega) ?_; conv => whnf)
      | (refine And.intro (show (_ : Bool) = true from by kernel_rfl) ?_; conv => whnf)
      | (refine .inl ⟨wrap64 (by omega), ?_⟩; conv => whnf)))
    exact .rfl
theorem ac_interlock_Ended (a b : List ByteArray) (ha : smallL a) (hb : smallL b) : AC Tryz.prog 25 [.pv (roL 1 cstr a), .pv (roL 1 cstr b)] [] (.pv (roL 1 cstr (startL b a))) [] := by
  refine AC.of_awp (T := T) T_ok hm Tryz.call25 Tryz.func25 rfl rfl rfl ?_
  conv => whnf
  repeat (any_goals (first
    | (refine ⟨fun (h : (_ : Bool) = true) => ?_, fun (h : (_ : Bool) = false) => ?_⟩ <;> (try simp only [decide_eq_true_eq, decide_eq_false_iff_not, Bool.not_eq_true', Bool.not_eq_false', Int.toNat_natCast, beq_iff_eq, decide_eq_decide, beq_eq_false_iff_ne, ne_eq, reduceCtorEq] at h) <;> (conv => whnf))
    | (refine .inl ⟨_, ac_interlock_Started b a hb ha, ?_⟩; conv => whnf)
    | (refine And.intro (by (try simp only [Int.toNat_natCast]); omega) ?_; conv => whnf)
    | (refine And.intro (show (_ : Bool) = true from by kernel_rfl) ?_; conv => whnf)
    | (refine .inl ⟨wrap64 (by omega), ?_⟩; conv => whnf)))
  exact .rfl
theorem filt_take {l : List ByteArray} {k : Nat} {p : ByteArray → Bool} (hk : k < l.length) : (l.take (k + 1)).filter p = (l.take k).filter p ++ (if p (l.getD k default) = true then [l.getD k default] else []) := by
  rw [take_succ_getD hk, List.filter_append]
  congr 1
  by_cases e : p (l.getD k default) = true
  · rw [if_pos e]; simp only [List.filter_cons, List.filter_nil, e, if_true]
  · rw [if_neg e]; simp only [List.filter_cons, List.filter_nil, e, Bool.false_eq_true, if_false]
theorem ac_r45_Started (a b : List ByteArray) (ha : smallL a) (hb : smallL b) : AC Tryz.prog 24 [.pv (roL 1 cstr a), .pv (roL 1 cstr b)] [] (.pv (roL 1 cstr (startL a b))) [] := by
  have ha2 : a.length ≤ 1048576 := ha
  have hb2 : b.length ≤ 1048576 := hb
  refine AC.of_awp (T := T) T_ok hm Tryz.call24 Tryz.func24 rfl rfl rfl ?_
  conv => whnf
  refine loop_k (ι := Nat) [0, 1, 8] [] (fun k => k ≤ b.length ∧ True) (fun k => b.length - k) 0 (fun k => [(5, .own 500), (9, .pv (vint k))]) (fun k => [(500, rowL 1 cstr ((b.take k).filter fun n => !memS a n))]) [] ⟨Nat.zero_le _, trivial⟩ ?_ (fun k hk => ?_)
  · (repeat' (first | exact PSub.rfl | exact rfl | exact PSubs.rfl | exact trivial | exact PSub.lit_sb rfl | refine And.intro ?_ ?_)); all_goals ((intro i hi; exact absurd hi (by simp)))
  obtain ⟨hkn, hinv⟩ := hk
  conv => whnf
  have hlen : ((b.take k).filter fun n => !memS a n).length ≤ k := by
    have := List.length_filter_le (fun n => !memS a n) (b.take k)
    rw [List.length_take] at this; omega
  repeat (any_goals (first
    | (refine ⟨fun (h : (_ : Bool) = true) => ?_, fun (h : (_ : Bool) = false) => ?_⟩ <;> (try simp only [decide_eq_true_eq, decide_eq_false_iff_not, Bool.not_eq_true', Bool.not_eq_false', Int.toNat_natCast, beq_iff_eq, decide_eq_decide, beq_eq_false_iff_ne, ne_eq, reduceCtorEq] at h) <;> (conv => whnf))
    | (refine .inl ⟨_, ac_r04_Index a (b.getD k default) ha2, ?_⟩; conv => whnf)
    | (refine .inl ⟨_, ac_r04_Sorted ((b.take k).filter fun n => !memS a n) (by omega), ?_⟩; conv => whnf)
    | (refine And.intro (by (try simp only [Int.toNat_natCast]); omega) ?_; conv => whnf)
    | (refine And.intro (show (_ : Bool) = true from by kernel_rfl) ?_; conv => whnf)
    | (refine .inl ⟨wrap64 (by omega), ?_⟩; conv => whnf)))
  · have hk : k < b.length := by omega
    refine ⟨k + 1, [(500, 25)], ⟨by omega, trivial⟩, by omega, ?_⟩
    rw [filt_take hk, if_pos (by unfold memS; rw [decide_eq_false (by omega)]; rfl)]
    (repeat' (first | exact PSub.rfl | exact rfl | exact PSubs.rfl | exact trivial | exact PSub.lit_sb rfl | refine And.intro ?_ ?_))
    · simp
    · refine rows_snocF (fun i hi => by simp only [if_pos hi]; exact PSubs.rfl) (by simp only [if_neg (Nat.lt_irrefl _), Nat.sub_self]; exact PSubs.rfl)
  · have hk : k < b.length := by omega
    refine ⟨k + 1, [], ⟨by omega, trivial⟩, by omega, ?_⟩
    rw [filt_take hk, if_neg (by unfold memS; rw [decide_eq_true (by omega)]; decide), List.append_nil]
    (repeat' (first | exact PSub.rfl | exact rfl | exact PSubs.rfl | exact trivial | exact PSub.lit_sb rfl | refine And.intro ?_ ?_))
    intro i hi; exact PSubs.rfl
  · rw [List.take_of_length_le (by omega)]
    exact .rfl
theorem ac_r45_Ended (a b : List ByteArray) (ha : smallL a) (hb : smallL b) : AC Tryz.prog 26 [.pv (roL 1 cstr a), .pv (roL 1 cstr b)] [] (.pv (roL 1 cstr (startL b a))) [] := by
  refine AC.of_awp (T := T) T_ok hm Tryz.call26 Tryz.func26 rfl rfl rfl ?_
  conv => whnf
  repeat (any_goals (first
    | (refine ⟨fun (h : (_ : Bool) = true) => ?_, fun (h : (_ : Bool) = false) => ?_⟩ <;> (try simp only [decide_eq_true_eq, decide_eq_false_iff_not, Bool.not_eq_true', Bool.not_eq_false', Int.toNat_natCast, beq_iff_eq, decide_eq_decide, beq_eq_false_iff_ne, ne_eq, reduceCtorEq] at h) <;> (conv => whnf))
    | (refine .inl ⟨_, ac_r45_Started b a hb ha, ?_⟩; conv => whnf)
    | (refine And.intro (by (try simp only [Int.toNat_natCast]); omega) ?_; conv => whnf)
    | (refine And.intro (show (_ : Bool) = true from by kernel_rfl) ?_; conv => whnf)
    | (refine .inl ⟨wrap64 (by omega), ?_⟩; conv => whnf)))
  exact .rfl
def lckAt (l : List Lck) (n : ByteArray) : Nat := firstI l.length fun i => decide ((l.getD i default).name = n)
theorem fstL_at (l : List Lck) (n : ByteArray) : fstL l n = if lckAt l n < l.length then some (l.getD (lckAt l n) default) else none := by
  unfold lckAt
  rcases firstI_cases (n := l.length) (p := fun i => decide ((l.getD i default).name = n)) with ⟨h1, h2, h3⟩ | ⟨h1, h2⟩
  · rw [if_pos h1]
    unfold fstL
    rw [List.find?_eq_some_iff_getElem]
    refine ⟨h2, _, h1, (getD_getElem _ _ h1).symm, fun j hj => ?_⟩
    have := h3 j hj
    rw [getD_getElem _ _ (show j < l.length by omega)] at this
    rw [this]; rfl
  · rw [h1, if_neg (Nat.lt_irrefl _)]
    unfold fstL
    rw [List.find?_eq_none]
    intro x hx
    obtain ⟨j, hj, rfl⟩ := List.getElem_of_mem hx
    have := h2 j hj
    rw [getD_getElem _ _ hj] at this
    rw [this]; decide
theorem ac_r45_Find (l : List Lck) (n : ByteArray) (hl : smallL l) : AC Tryz.prog 46 [.pv (roL 16 cLck l), .pv (vstr n)] [] (.pv (vint (ixI l.length (lckAt l n)))) [] := by
  have hl2 : l.length ≤ 1048576 := hl
  refine AC.of_awp (T := T) T_ok hm Tryz.call46 Tryz.func46 rfl rfl rfl ?_
  conv => whnf
  refine loop_k (ι := Nat) [0, 1, 7] [] (fun k => k ≤ l.length ∧ (∀ j, j < k → decide ((l.getD j default).name = n) = false)) (fun k => l.length - k) 0 (fun k => [(8, .pv (vint k))]) (fun _ => []) [] ⟨Nat.zero_le _, fun j h => absurd h (by omega)⟩ ?_ (fun k hk => ?_)
  · (repeat' (first | exact PSub.rfl | exact rfl | exact PSubs.rfl | exact trivial | exact PSub.lit_sb rfl | refine And.intro ?_ ?_))
  obtain ⟨hkn, hinv⟩ := hk
  conv => whnf
  repeat (any_goals (first
    | (refine ⟨fun (h : (_ : Bool) = true) => ?_, fun (h : (_ : Bool) = false) => ?_⟩ <;> (try simp only [decide_eq_true_eq, decide_eq_false_iff_not, Bool.not_eq_true', Bool.not_eq_false', Int.toNat_natCast, beq_iff_eq, decide_eq_decide, beq_eq_false_iff_ne, ne_eq, reduceCtorEq] at h) <;> (conv => whnf))
    | (refine And.intro (by (try simp only [Int.toNat_natCast]); omega) ?_; conv => whnf)
    | (refine And.intro (show (_ : Bool) = true from by kernel_rfl) ?_; conv => whnf)
    | (refine .inl ⟨wrap64 (by omega), ?_⟩; conv => whnf)))
  · have e : lckAt l n = k := firstI_at (by omega) (decide_eq_true h) hinv
    exact PSub.int (by rw [e, ixI, if_pos (by omega)])
  · refine ⟨k + 1, [], ⟨by omega, ?_⟩, by first | omega | (dsimp only; omega), ?_⟩
    rotate_left
    · (repeat' (first | exact PSub.rfl | exact rfl | exact PSubs.rfl | exact trivial | exact PSub.lit_sb rfl | refine And.intro ?_ ?_))
    intro j hj
    by_cases e : j = k
    · subst e; exact decide_eq_false h
    · exact hinv j (by omega)
  · have e : lckAt l n = l.length := firstI_none fun j hj => hinv j (by omega)
    exact PSub.int (by rw [e, ixI, if_neg (by omega)])
end Go.Abs

namespace Go.Abs
open Go.Proofs
set_option maxRecDepth 10000
theorem ixI_neg {n k : Nat} : ixI n k < 0 ↔ ¬ k < n := by
  unfold ixI
  split <;> omega
theorem fstL_find {l : List Lck} {n : ByteArray} : (fstL l n).isSome = decide (0 ≤ ixI l.length (lckAt l n)) := by
  rw [fstL_at]
  unfold ixI
  by_cases h : lckAt l n < l.length
  · rw [if_pos h, if_pos h]; exact (decide_eq_true (by omega)).symm
  · rw [if_neg h, if_neg h]; rfl
def restP (l : List Lck) (name n : ByteArray) : Bool := decide (n ≠ name) && (fstL l n).isSome
set_option maxHeartbeats 1000000 in
theorem ac_r45_Reset (l : List Lck) (v : Vw) (active : List ByteArray) (name : ByteArray) (hl : goodLcks l) (hv : smallV2 v) (ha : smallL active) : AC Tryz.prog 21 [.pv (roL 16 cLck l), .pv (.agg (cVw v)), .pv (roL 1 cstr active), .pv (vstr name)] []
    (.pv (.tup [roL 1 cstr (resetL l v active name), vint (resetE l v active name)])) [] := by
  have hl2 : l.length ≤ 1048576 := hl.1
  have ha2 : active.length ≤ 1048576 := ha
  have hbad : ∀ e, resetE l v active name = e → e ≠ 0 → resetL l v active name = [] := fun e h1 h2 => by unfold resetL; rw [if_neg (by rw [h1]; exact h2)]
  refine AC.of_awp (T := T) T_ok hm Tryz.call21 Tryz.func21 rfl rfl rfl ?_
  conv => whnf
  repeat (any_goals (first
    | (refine ⟨fun (h : (_ : Bool) = true) => ?_, fun (h : (_ : Bool) = false) => ?_⟩ <;> (try simp only [decide_eq_true_eq, decide_eq_false_iff_not, Bool.not_eq_true', Bool.not_eq_false', Int.toNat_natCast, beq_iff_eq, decide_eq_decide, beq_eq_false_iff_ne, ne_eq, reduceCtorEq] at h) <;> (conv => whnf))
    | (refine .inl ⟨_, ac_r45_Find l name hl.1, ?_⟩; conv => whnf)
    | (refine And.intro (by (try simp only [Int.toNat_natCast]); omega) ?_; conv => whnf)
    | (refine And.intro (show (_ : Bool) = true from by kernel_rfl) ?_; conv => whnf)
    | (refine .inl ⟨wrap64 (by omega), ?_⟩; conv => whnf)))
  · have hn : fstL l name = none := by rw [fstL_at, if_neg (ixI_neg.1 h)]
    have he : resetE l v active name = 8 := by unfold resetE; rw [hn]
    rw [hbad 8 he (by decide), he]
    refine ⟨?_, ?_⟩ <;> (conv => whnf)
    · exact PSub.nilL rfl
    · exact PSub.rfl
  · have hlt : lckAt l name < l.length := Classical.not_not.1 fun hn => h (ixI_neg.2 hn)
    have hix : ixI l.length (lckAt l name) = (lckAt l name : Int) := if_pos hlt
    have hn : fstL l name = some (l.getD (lckAt l name) default) := by rw [fstL_at, if_pos hlt]
    have he : resetE l v active name = if memS active name = false ∨ (l.getD (lckAt l name) default).latch = false ∨ (evlE v (l.getD (lckAt l name) default).cond).2 = false ∨ (evlE v (l.getD (lckAt l name) default).cond).1 = truV true then 15 else 0 := by
      unfold resetE; rw [hn]
    have htr : truE v (l.getD (lckAt l name) default).cond = true → (evlE v (l.getD (lckAt l name) default).cond).1 = truV true := fun h => by
      unfold truE at h
      rw [Bool.and_eq_true] at h
      exact of_decide_eq_true h.2
    rw [hix]
    generalize lckAt l name = at0 at *
    repeat (any_goals (first
      | (refine ⟨fun (h : (_ : Bool) = true) => ?_, fun (h : (_ : Bool) = false) => ?_⟩ <;> (try simp only [decide_eq_true_eq, decide_eq_false_iff_not, Bool.not_eq_true', Bool.not_eq_false', Int.toNat_natCast, beq_iff_eq, decide_eq_decide, beq_eq_false_iff_ne, ne_eq, reduceCtorEq] at h) <;> (conv => whnf))
      | (refine .inl ⟨_, ac_r04_Index active name ha2, ?_⟩; conv => whnf)
      | (refine .inl ⟨_, ac_r32_True v (l.getD at0 default).cond hv, ?_⟩; conv => whnf)
      | (refine .inl ⟨_, ac_r45_Unknown v (l.getD at0 default).cond hv, ?_⟩; conv => whnf)
      | (refine And.intro (by (try simp only [Int.toNat_natCast]); omega) ?_; conv => whnf)
      | (refine And.intro (show (_ : Bool) = true from by kernel_rfl) ?_; conv => whnf)
      | (refine .inl ⟨wrap64 (by omega), ?_⟩; conv => whnf)))
    · have e15 : resetE l v active name = 15 := by rw [he, if_pos (.inl (decide_eq_false (by omega)))]
      rw [hbad 15 e15 (by decide), e15]
      refine ⟨?_, ?_⟩ <;> (conv => whnf)
      · exact PSub.nilL rfl
      · exact PSub.rfl
    · have e15 : resetE l v active name = 15 := by rw [he, if_pos (.inr (.inl h))]
      rw [hbad 15 e15 (by decide), e15]
      refine ⟨?_, ?_⟩ <;> (conv => whnf)
      · exact PSub.nilL rfl
      · exact PSub.rfl
    · have e15 : resetE l v active name = 15 := by rw [he, if_pos (.inr (.inr (.inr (htr h))))]
      rw [hbad 15 e15 (by decide), e15]
      refine ⟨?_, ?_⟩ <;> (conv => whnf)
      · exact PSub.nilL rfl
      · exact PSub.rfl
    · have e15 : resetE l v active name = 15 := by rw [he, if_pos (.inr (.inr (.inl (by simpa [unkE] using h))))]
      rw [hbad 15 e15 (by decide), e15]
      refine ⟨?_, ?_⟩ <;> (conv => whnf)
      · exact PSub.nilL rfl
      · exact PSub.rfl
    · rename_i h1 h2 h3
      have hu : (evlE v (l.getD at0 default).cond).2 = true := by simpa [unkE] using h
      have e0 : resetE l v active name = 0 := by
        rw [he, if_neg]
        rintro (g | g | g | g)
        · exact h1 (by have := of_decide_eq_false g; omega)
        · rw [h2] at g; cases g
        · rw [hu] at g; cases g
        · rw [show truE v (l.getD at0 default).cond = true from by unfold truE; rw [hu, g]; rfl] at h3; cases h3
      rw [show resetL l v active name = restL l active name from if_pos e0, e0]
      clear h h1 h2 h3 hu e0 he htr hbad hn
      refine loop_k (ι := Nat) [0, 2, 3, 49] [] (fun k => k ≤ active.length ∧ True) (fun k => active.length - k) 0 (fun k => [(11, .own 500), (50, .pv (vint k))]) (fun k => [(500, rowL 1 cstr ((active.take k).filter (restP l name)))]) [] ⟨Nat.zero_le _, trivial⟩ ?_ (fun k hk => ?_)
      · (repeat' (first | exact PSub.rfl | exact rfl | exact PSubs.rfl | exact trivial | exact PSub.lit_sb rfl | refine And.intro ?_ ?_)); all_goals ((intro i hi; exact absurd hi (by simp)))
      obtain ⟨hkn, hinv⟩ := hk
      conv => whnf
      have hlen : ((active.take k).filter (restP l name)).length ≤ k := by
        have := List.length_filter_le (restP l name) (active.take k)
        rw [List.length_take] at this; omega
      repeat (any_goals (first
        | (refine ⟨fun (h : (_ : Bool) = true) => ?_, fun (h : (_ : Bool) = false) => ?_⟩ <;> (try simp only [decide_eq_true_eq, decide_eq_false_iff_not, Bool.not_eq_true', Bool.not_eq_false', Int.toNat_natCast, beq_iff_eq, decide_eq_decide, beq_eq_false_iff_ne, ne_eq, reduceCtorEq] at h) <;> (conv => whnf))
        | (refine .inl ⟨_, ac_r45_Find l (active.getD k default) hl.1, ?_⟩; conv => whnf)
        | (refine .inl ⟨_, ac_r04_Sorted ((active.take k).filter (restP l name)) (by omega), ?_⟩; conv => whnf)
        | (refine And.intro (by (try simp only [Int.toNat_natCast]); omega) ?_; conv => whnf)
        | (refine And.intro (show (_ : Bool) = true from by kernel_rfl) ?_; conv => whnf)
        | (refine .inl ⟨wrap64 (by omega), ?_⟩; conv => whnf)))
      · rename_i h1
        have hp : restP l name (active.getD k default) = true := by unfold restP; rw [decide_eq_true h1, fstL_find, decide_eq_true h]; rfl
        refine ⟨k + 1, [(500, 74)], ⟨by omega, trivial⟩, by omega, ?_⟩
        rw [filt_take (by omega), if_pos hp]
        (repeat' (first | exact PSub.rfl | exact rfl | exact PSubs.rfl | exact trivial | exact PSub.lit_sb rfl | refine And.intro ?_ ?_))
        · simp
        · refine rows_snocF (fun i hi => by simp only [if_pos hi]; exact PSubs.rfl) (by simp only [if_neg (Nat.lt_irrefl _), Nat.sub_self]; exact PSubs.rfl)
      · rename_i h1
        have hp : restP l name (active.getD k default) = false := by unfold restP; rw [decide_eq_true h1, fstL_find, decide_eq_false h]; rfl
        refine ⟨k + 1, [], ⟨by omega, trivial⟩, by omega, ?_⟩
        rw [filt_take (by omega), if_neg (by rw [hp]; decide), List.append_nil]
        (repeat' (first | exact PSub.rfl | exact rfl | exact PSubs.rfl | exact trivial | exact PSub.lit_sb rfl | refine And.intro ?_ ?_))
        intro i hi; exact PSubs.rfl
      · have hp : restP l name (active.getD k default) = false := by unfold restP; rw [decide_eq_false (fun x => x h)]; rfl
        refine ⟨k + 1, [], ⟨by omega, trivial⟩, by omega, ?_⟩
        rw [filt_take (by omega), if_neg (by rw [hp]; decide), List.append_nil]
        (repeat' (first | exact PSub.rfl | exact rfl | exact PSubs.rfl | exact trivial | exact PSub.lit_sb rfl | refine And.intro ?_ ?_))
        intro i hi; exact PSubs.rfl
      · rw [List.take_of_length_le (by omega)]
        refine ⟨?_, ?_⟩ <;> (conv => whnf)
        · exact .rfl
        · exact PSub.rfl
end Go.Abs

namespace Go.Abs
open Go.Proofs
set_option maxRecDepth 10000
def viewB (v : Vw) : Bool := decide (v.items.length ≤ 60) && decide (v.members.length ≤ 20)
theorem ac_law45_view (v : Vw) (hv : smallV2 v) : AC Tryz.prog 16 [.pv (.agg (cVw v))] [] (.pv (vbool (viewB v))) [] := by
  have h1 : v.items.length ≤ 1048576 := hv.1
  have h2 : v.members.length ≤ 1048576 := hv.2
  refine AC.of_awp (T := T) T_ok hm Tryz.call16 Tryz.func16 rfl rfl rfl ?_
  conv => whnf
  repeat (any_goals (first
    | (refine ⟨fun (h : (_ : Bool) = true) => ?_, fun (h : (_ : Bool) = false) => ?_⟩ <;> (try simp only [decide_eq_true_eq, decide_eq_false_iff_not, Bool.not_eq_true', Bool.not_eq_false', Int.toNat_natCast, beq_iff_eq, decide_eq_decide, beq_eq_false_iff_ne, ne_eq, reduceCtorEq] at h) <;> (conv => whnf))
    | (refine And.intro (by (try simp only [Int.toNat_natCast]); omega) ?_; conv => whnf)
    | (refine And.intro (show (_ : Bool) = true from by kernel_rfl) ?_; conv => whnf)
    | (refine .inl ⟨wrap64 (by omega), ?_⟩; conv => whnf)))
  · exact PSub.sb (by unfold viewB; rw [decide_eq_true (show v.items.length ≤ 60 by omega), Bool.true_and, decide_eq_decide]; omega)
  · exact PSub.lit_sb (by unfold viewB; rw [decide_eq_false (show ¬ v.items.length ≤ 60 by omega)]; rfl)
end Go.Abs

namespace Go.Abs
open Go.Proofs
set_option maxRecDepth 10000
theorem resetL_small {l : List Lck} {v : Vw} {a : List ByteArray} {n : ByteArray} (ha : smallL a) : smallL (resetL l v a n) := by
  unfold resetL restL
  split
  · exact Nat.le_trans (sortS_length _) (Nat.le_trans (List.length_filter_le _ _) ha)
  · exact sl rfl
theorem startL_small {a b : List ByteArray} (hb : smallL b) : smallL (startL a b) := Nat.le_trans (sortS_length _) (Nat.le_trans (List.length_filter_le _ _) hb)
theorem ac_law45_InterlockResets (l : List Lck) (v : Vw) (a o : List ByteArray) (n : ByteArray) (hl : smallL l) (hv : smallV2 v) (ha : smallL a) (ho : smallL o) : AC Tryz.prog 7 [.pv (roL 16 cLck l), .pv (.agg (cVw v)), .pv (roL 1 cstr a), .pv (roL 1 cstr o), .pv (vstr n)] [] (.pv (vbool true)) [] := by
  refine AC.of_awp (T := T) T_ok hm Tryz.call7 Tryz.func7 rfl rfl rfl ?_
  conv => whnf
  repeat (any_goals (first
    | (refine ⟨fun (h : (_ : Bool) = true) => ?_, fun (h : (_ : Bool) = false) => ?_⟩ <;> (try simp only [decide_eq_true_eq, decide_eq_false_iff_not, Bool.not_eq_true', Bool.not_eq_false', Int.toNat_natCast, beq_iff_eq, decide_eq_decide, beq_eq_false_iff_ne, ne_eq, reduceCtorEq] at h) <;> (conv => whnf))
    | (refine .inl ⟨_, ac_law45_few l hl, ?_⟩; conv => whnf)
    | (refine .inl ⟨_, ac_law45_view v hv, ?_⟩; conv => whnf)
    | (refine .inl ⟨_, ac_law45_awake, ?_⟩; conv => whnf)
    | (refine .inl ⟨_, ac_interlock_Reset l v a n (few_good hl (by assumption)) hv ha, ?_⟩; conv => whnf)
    | (refine .inl ⟨_, ac_r45_Reset l v a n (few_good hl (by assumption)) hv ha, ?_⟩; conv => whnf)
    | (refine .inl ⟨_, ac_r04_Same (resetL l v a n) (resetL l v a n) (resetL_small ha), ?_⟩; conv => whnf)
    | (refine .inl ⟨_, ac_interlock_Started a o ha ho, ?_⟩; conv => whnf)
    | (refine .inl ⟨_, ac_r45_Started a o ha ho, ?_⟩; conv => whnf)
    | (refine .inl ⟨_, ac_r04_Same (startL a o) (startL a o) (startL_small ho), ?_⟩; conv => whnf)
    | (refine .inl ⟨_, ac_interlock_Ended a o ha ho, ?_⟩; conv => whnf)
    | (refine .inl ⟨_, ac_r45_Ended a o ha ho, ?_⟩; conv => whnf)
    | (refine .inl ⟨_, ac_r04_Same (startL o a) (startL o a) (startL_small ha), ?_⟩; conv => whnf)
    | (refine And.intro (by (try simp only [Int.toNat_natCast]); omega) ?_; conv => whnf)
    | (refine And.intro (show (_ : Bool) = true from by kernel_rfl) ?_; conv => whnf)
    | (refine .inl ⟨wrap64 (by omega), ?_⟩; conv => whnf)))
  all_goals first | exact PSub.rfl | exact PSub.sb rfl | exact PSub.lit_sb rfl | exact absurd trivial h | (exfalso; exact h rfl)
end Go.Abs
