/- Contracts: scopes checked; the form of triggers. -/
import Derived.Test.YtbhnjopjhaebpaaGreatDoorX05
import Derived.Test.YtbhnjopjhaebpaaGreatDoorX06
import Derived.Test.YtbhnjopjhaebpaaGreatDoorX04
import Derived.Shelf.SlSortCmp.NoneTotal
import Derived.Test.YtbhnjopjhaebpaaGreatDoorProg

set_option linter.unusedVariables false
set_option linter.unusedSimpArgs false
set_option linter.unusedSectionVars false

namespace Go.Abs
open Go.Proofs
set_option maxRecDepth 10000

/-- the names among the first k -/
def nameLook (l : List ByteArray) (k : Nat) : Value → Option PV
  | .string s => if memN l k s = true then some (.val (.bool true)) else none
  | _ => none
theorem memN_succ {l : List ByteArray} {k : Nat} {s : ByteArray} : memN l (k + 1) s = (memN l k s || decide (l.getD k default = s)) := by
  unfold memN
  rw [List.range_succ, List.any_append]
  simp only [List.any_cons, List.any_nil, Bool.or_false]
theorem memN_idx {l : List ByteArray} {k : Nat} (hk : k < l.length) : (idxOf l (l.getD k default) < k) ↔ memN l k (l.getD k default) = true := by
  constructor
  · intro h
    rw [← Bool.not_eq_false]
    intro h2
    have : idxOf l (l.getD k default) = k := idxOf_some hk rfl fun j hj e => by rw [memN_true hj e] at h2; cases h2
    omega
  · intro h
    simp only [memN, List.any_eq_true, List.mem_range, decide_eq_true_eq] at h
    obtain ⟨j, hj, e⟩ := h
    have := exists_least (fun i => i < l.length ∧ l.getD i default = l.getD k default) ⟨j, by omega, e⟩
    obtain ⟨m, ⟨hm, hm2⟩, hmin⟩ := this
    have hle := hmin j ⟨by omega, e⟩
    have : idxOf l (l.getD k default) = m := idxOf_some hm hm2 fun i hi e2 => by
      have := hmin i ⟨by omega, e2⟩; omega
    omega

theorem ac_r31_listed (l : List ByteArray) (hl : smallL l) : AC Tryz.prog 32 [.pv (roL 1 cstr l)] [] (.pv (vint (wordsE l))) [] := by
  have hl2 : l.length ≤ 1048576 := hl
  refine AC.of_awp (T := T) T_ok hm Tryz.call32 Tryz.func32 rfl rfl rfl ?_
  conv => whnf
  refine loop_k (ι := Nat) [0] [] (fun k => k ≤ l.length ∧ ∀ j, j < k → (if validName (l.getD j default) = false then (10 : Int) else if idxOf l (l.getD j default) < j then 9 else 0) = 0) (fun k => l.length - k) 0 (fun k => [(3, .pv (vint k))]) (fun _ => []) [] ⟨Nat.zero_le _, fun j h => absurd h (by omega)⟩ ?_ (fun k hk => ?_)
  · (repeat' (first | exact PSub.rfl | exact rfl | exact PSubs.rfl | exact trivial | exact PSub.lit_sb rfl | refine And.intro ?_ ?_))
  obtain ⟨hkn, hinv⟩ := hk
  conv => whnf
  repeat (any_goals (first
    | (refine ⟨fun (h : (_ : Bool) = true) => ?_, fun (h : (_ : Bool) = false) => ?_⟩ <;> (try simp only [decide_eq_true_eq, decide_eq_false_iff_not, Bool.not_eq_true', Bool.not_eq_false', Int.toNat_natCast, beq_iff_eq, decide_eq_decide, beq_eq_false_iff_ne, ne_eq, reduceCtorEq] at h) <;> (conv => whnf))
    | (refine .inl ⟨_, ac_r04_Valid (l.getD k default), ?_⟩; conv => whnf)
    | (refine .inl ⟨_, ac_r04_Index l (l.getD k default) hl2, ?_⟩; conv => whnf)
    | (refine And.intro (by (try simp only [Int.toNat_natCast]); omega) ?_; conv => whnf)
    | (refine And.intro (show (_ : Bool) = true from by kernel_rfl) ?_; conv => whnf)
    | (refine .inl ⟨wrap64 (by omega), ?_⟩; conv => whnf)))
  · exact PSub.int (by unfold wordsE; rw [firstE_at (k := k) (by omega) (by rw [if_pos h]; decide) hinv, if_pos h])
  · rename_i h1
    exact PSub.int (by unfold wordsE; rw [firstE_at (k := k) (by omega) (by rw [if_neg (by rw [h1]; decide), if_pos h]; decide) hinv, if_neg (by rw [h1]; decide), if_pos h])
  · rename_i h1
    refine ⟨k + 1, [], ⟨by omega, ?_⟩, by first | omega | (dsimp only; omega), ?_⟩
    rotate_left
    · (repeat' (first | exact PSub.rfl | exact rfl | exact PSubs.rfl | exact trivial | exact PSub.lit_sb rfl | refine And.intro ?_ ?_))
    intro j hj
    by_cases e : j = k
    · subst e; rw [if_neg (by rw [h1]; decide), if_neg h]
    · exact hinv j (by omega)
  · exact PSub.int (by unfold wordsE; rw [firstE_none fun j hj => hinv j (by omega)])

theorem ac_typing_words (l : List ByteArray) (hl : smallL l) : AC Tryz.prog 30 [.pv (roL 1 cstr l)] [] (.pv (vint (wordsE l))) [] := by
  have hl2 : l.length ≤ 1048576 := hl
  refine AC.of_awp (T := T) T_ok hm Tryz.call30 Tryz.func30 rfl rfl rfl ?_
  conv => whnf
  refine loop_k (ι := Nat) [7, 8] [] (fun k => k ≤ l.length ∧ ∀ j, j < k → (if validName (l.getD j default) = false then (10 : Int) else if idxOf l (l.getD j default) < j then 9 else 0) = 0) (fun k => l.length - k) 0 (fun k => [(3, .ref 6), (9, .pv (vint k))]) (fun k => [(6, .map (.one .str) (nameLook l k))]) [] ⟨Nat.zero_le _, fun j h => absurd h (by omega)⟩ ?_ (fun k hk => ?_)
  · (repeat' (first | exact PSub.rfl | exact rfl | exact PSubs.rfl | exact trivial | exact PSub.lit_sb rfl | refine And.intro ?_ ?_)); all_goals (rintro _ ⟨s, rfl⟩; simp [nameLook, memN])
  obtain ⟨hkn, hinv⟩ := hk
  conv => whnf
  repeat (any_goals (first
    | (refine ⟨fun (h : (_ : Bool) = true) => ?_, fun (h : (_ : Bool) = false) => ?_⟩ <;> (try simp only [decide_eq_true_eq, decide_eq_false_iff_not, Bool.not_eq_true', Bool.not_eq_false', Int.toNat_natCast, beq_iff_eq, decide_eq_decide, beq_eq_false_iff_ne, ne_eq, reduceCtorEq] at h) <;> (conv => whnf))
    | (refine .inl ⟨_, ac_names_Valid (l.getD k default), ?_⟩; conv => whnf)
    | (refine And.intro (by (try simp only [Int.toNat_natCast]); omega) ?_; conv => whnf)
    | (refine And.intro (show (_ : Bool) = true from by kernel_rfl) ?_; conv => whnf)
    | (refine .inl ⟨wrap64 (by omega), ?_⟩; conv => whnf)))
  · exact PSub.int (by unfold wordsE; rw [firstE_at (k := k) (by omega) (by rw [if_pos h]; decide) hinv, if_pos h])
  · have hk : k < l.length := by omega
    have hix := memN_idx hk
    refine ⟨fun p hp => ?_, fun hp => ?_⟩
    · change (if memN l k (l.getD k default) = true then some (PV.val (.bool true)) else none) = some p at hp
      by_cases hm : memN l k (l.getD k default) = true
      · rw [if_pos hm] at hp; cases hp
        conv => whnf
        exact PSub.int (by unfold wordsE; rw [firstE_at (k := k) (by omega) (by rw [if_neg (by rw [h]; decide), if_pos (hix.2 hm)]; decide) hinv, if_neg (by rw [h]; decide), if_pos (hix.2 hm)])
      · rw [if_neg hm] at hp; cases hp
    · change (if memN l k (l.getD k default) = true then some (PV.val (.bool true)) else none) = none at hp
      have hm : ¬ memN l k (l.getD k default) = true := fun h => by rw [if_pos h] at hp; cases hp
      conv => whnf
      repeat (any_goals (first
        | (refine ⟨fun (h : (_ : Bool) = true) => ?_, fun (h : (_ : Bool) = false) => ?_⟩ <;> (try simp only [decide_eq_true_eq, decide_eq_false_iff_not, Bool.not_eq_true', Bool.not_eq_false', Int.toNat_natCast, beq_iff_eq, decide_eq_decide, beq_eq_false_iff_ne, ne_eq, reduceCtorEq] at h) <;> (conv => whnf))
        | (refine And.intro (by (try simp only [Int.toNat_natCast]); omega) ?_; conv => whnf)
        | (refine And.intro (show (_ : Bool) = true from by kernel_rfl) ?_; conv => whnf)
        | (refine .inl ⟨wrap64 (by omega), ?_⟩; conv => whnf)))
      refine ⟨k + 1, [], ⟨by omega, fun j hj => ?_⟩, by first | omega | (dsimp only; omega), ?_⟩
      (repeat' (first | exact PSub.rfl | exact rfl | exact PSubs.rfl | exact trivial | exact PSub.lit_sb rfl | refine And.intro ?_ ?_))
      · by_cases e : j = k
        · subst e; rw [if_neg (by rw [h]; decide), if_neg (fun x => hm (hix.1 x))]
        · exact hinv j (by omega)
      rintro _ ⟨s, rfl⟩
      simp only [Int.toNat_natCast, lookPut, nameLook, memN_succ, Value.string.injEq]
      by_cases e : s = l.getD k default
      · rw [if_pos e, if_pos (by rw [decide_eq_true e.symm, Bool.or_true])]; rfl
      · rw [if_neg e, decide_eq_false (fun x => e x.symm), Bool.or_false]
  · exact PSub.int (by unfold wordsE; rw [firstE_none fun j hj => hinv j (by omega)])

theorem ac_typing_Check (s : Sco) (hs : smallS s) : AC Tryz.prog 12 [.pv (.agg (cSco s))] [] (.pv (vint (scoE s))) [] := by
  refine AC.of_awp (T := T) T_ok hm Tryz.call12 Tryz.func12 rfl rfl rfl ?_
  conv => whnf
  repeat (any_goals (first
    | (refine ⟨fun (h : (_ : Bool) = true) => ?_, fun (h : (_ : Bool) = false) => ?_⟩ <;> (try simp only [decide_eq_true_eq, decide_eq_false_iff_not, Bool.not_eq_true', Bool.not_eq_false', Int.toNat_natCast, beq_iff_eq, decide_eq_decide, beq_eq_false_iff_ne, ne_eq, reduceCtorEq] at h) <;> (conv => whnf))
    | (refine .inl ⟨_, ac_device_Check s.home hs.1, ?_⟩; conv => whnf)
    | (refine .inl ⟨_, ac_typing_words s.modes hs.2.1, ?_⟩; conv => whnf)
    | (refine .inl ⟨_, ac_typing_words s.scenes hs.2.2, ?_⟩; conv => whnf)
    | (refine And.intro (by (try simp only [Int.toNat_natCast]); omega) ?_; conv => whnf)
    | (refine And.intro (show (_ : Bool) = true from by kernel_rfl) ?_; conv => whnf)
    | (refine .inl ⟨wrap64 (by omega), ?_⟩; conv => whnf)))
  all_goals first
    | contradiction
    | (exfalso; omega)
    | exact PSub.rfl
    | (refine PSub.lit_sb ?_; (first | (simp [scoE, *]; done) | (simp_all [scoE]; done) | ((try simp only [scoE]); (repeat' split) <;> (try simp only [Bool.false_eq, Bool.true_eq, Bool.and_eq_false_iff, decide_eq_false_iff_not, Bool.and_eq_true, decide_eq_true_eq, decide_eq_decide]) <;> first | rfl | omega | (simp_all; done) | (simp_all; omega))))
    | (refine PSub.sb ?_; (first | (simp [scoE, *]; done) | (simp_all [scoE]; done) | ((try simp only [scoE]); (repeat' split) <;> (try simp only [Bool.false_eq, Bool.true_eq, Bool.and_eq_false_iff, decide_eq_false_iff_not, Bool.and_eq_true, decide_eq_true_eq, decide_eq_decide]) <;> first | rfl | omega | (simp_all; done) | (simp_all; omega))))
    | (refine PSub.sb_lit ?_; (first | (simp [scoE, *]; done) | (simp_all [scoE]; done) | ((try simp only [scoE]); (repeat' split) <;> (try simp only [Bool.false_eq, Bool.true_eq, Bool.and_eq_false_iff, decide_eq_false_iff_not, Bool.and_eq_true, decide_eq_true_eq, decide_eq_decide]) <;> first | rfl | omega | (simp_all; done) | (simp_all; omega))))
    | (refine PSub.int ?_; (first | (simp [scoE, *]; done) | (simp_all [scoE]; done) | ((try simp only [scoE]); (repeat' split) <;> (try simp only [Bool.false_eq, Bool.true_eq, Bool.and_eq_false_iff, decide_eq_false_iff_not, Bool.and_eq_true, decide_eq_true_eq, decide_eq_decide]) <;> first | rfl | omega | (simp_all; done) | (simp_all; omega))))
    | skip
theorem ac_r31_Check (s : Sco) (hs : smallS s) : AC Tryz.prog 13 [.pv (.agg (cSco s))] [] (.pv (vint (scoE s))) [] := by
  refine AC.of_awp (T := T) T_ok hm Tryz.call13 Tryz.func13 rfl rfl rfl ?_
  conv => whnf
  repeat (any_goals (first
    | (refine ⟨fun (h : (_ : Bool) = true) => ?_, fun (h : (_ : Bool) = false) => ?_⟩ <;> (try simp only [decide_eq_true_eq, decide_eq_false_iff_not, Bool.not_eq_true', Bool.not_eq_false', Int.toNat_natCast, beq_iff_eq, decide_eq_decide, beq_eq_false_iff_ne, ne_eq, reduceCtorEq] at h) <;> (conv => whnf))
    | (refine .inl ⟨_, ac_r22_Check s.home hs.1, ?_⟩; conv => whnf)
    | (refine .inl ⟨_, ac_r31_listed s.modes hs.2.1, ?_⟩; conv => whnf)
    | (refine .inl ⟨_, ac_r31_listed s.scenes hs.2.2, ?_⟩; conv => whnf)
    | (refine And.intro (by (try simp only [Int.toNat_natCast]); omega) ?_; conv => whnf)
    | (refine And.intro (show (_ : Bool) = true from by kernel_rfl) ?_; conv => whnf)
    | (refine .inl ⟨wrap64 (by omega), ?_⟩; conv => whnf)))
  all_goals first
    | contradiction
    | (exfalso; omega)
    | exact PSub.rfl
    | (refine PSub.lit_sb ?_; (first | (simp [scoE, *]; done) | (simp_all [scoE]; done) | ((try simp only [scoE]); (repeat' split) <;> (try simp only [Bool.false_eq, Bool.true_eq, Bool.and_eq_false_iff, decide_eq_false_iff_not, Bool.and_eq_true, decide_eq_true_eq, decide_eq_decide]) <;> first | rfl | omega | (simp_all; done) | (simp_all; omega))))
    | (refine PSub.sb ?_; (first | (simp [scoE, *]; done) | (simp_all [scoE]; done) | ((try simp only [scoE]); (repeat' split) <;> (try simp only [Bool.false_eq, Bool.true_eq, Bool.and_eq_false_iff, decide_eq_false_iff_not, Bool.and_eq_true, decide_eq_true_eq, decide_eq_decide]) <;> first | rfl | omega | (simp_all; done) | (simp_all; omega))))
    | (refine PSub.sb_lit ?_; (first | (simp [scoE, *]; done) | (simp_all [scoE]; done) | ((try simp only [scoE]); (repeat' split) <;> (try simp only [Bool.false_eq, Bool.true_eq, Bool.and_eq_false_iff, decide_eq_false_iff_not, Bool.and_eq_true, decide_eq_true_eq, decide_eq_decide]) <;> first | rfl | omega | (simp_all; done) | (simp_all; omega))))
    | (refine PSub.int ?_; (first | (simp [scoE, *]; done) | (simp_all [scoE]; done) | ((try simp only [scoE]); (repeat' split) <;> (try simp only [Bool.false_eq, Bool.true_eq, Bool.and_eq_false_iff, decide_eq_false_iff_not, Bool.and_eq_true, decide_eq_true_eq, decide_eq_decide]) <;> first | rfl | omega | (simp_all; done) | (simp_all; omega))))
    | skip

/-! the zero Expr -/
theorem ac_expr_Same0 (e : Ex) : AC Tryz.prog 129 [.pv (.agg (cEx e)), .pv (.agg cEx0)] [] (.pv (vbool (zeroX e))) [] := by
  refine AC.ex ?_
  refine AC.of_awp (T := T) T_ok hm Tryz.call129 Tryz.func129 rfl rfl rfl ?_
  conv => whnf
  repeat (any_goals (first
    | (refine ⟨fun (h : (_ : Bool) = true) => ?_, fun (h : (_ : Bool) = false) => ?_⟩ <;> (try simp only [decide_eq_true_eq, decide_eq_false_iff_not, Bool.not_eq_true', Bool.not_eq_false', Int.toNat_natCast, beq_iff_eq, decide_eq_decide, beq_eq_false_iff_ne, ne_eq, reduceCtorEq] at h) <;> (conv => whnf))
    | (refine And.intro (by (try simp only [Int.toNat_natCast]); omega) ?_; conv => whnf)
    | (refine And.intro (show (_ : Bool) = true from by kernel_rfl) ?_; conv => whnf)
    | (refine .inl ⟨wrap64 (by omega), ?_⟩; conv => whnf)))
  all_goals (try simp only [val_eq0', key_eq0, decide_true, Bool.and_true, decide_eq_false_iff_not, decide_eq_true_eq] at *)
  all_goals first
    | contradiction
    | (exfalso; omega)
    | exact PSub.rfl
    | (refine PSub.lit_sb ?_; (first | (simp [zeroX, *]; done) | (simp_all [zeroX]; done) | ((try simp only [zeroX]); (repeat' split) <;> (try simp only [Bool.false_eq, Bool.true_eq, Bool.and_eq_false_iff, decide_eq_false_iff_not, Bool.and_eq_true, decide_eq_true_eq, decide_eq_decide]) <;> first | rfl | omega | (simp_all; done) | (simp_all; omega))))
    | (refine PSub.sb ?_; (first | (simp [zeroX, *]; done) | (simp_all [zeroX]; done) | ((try simp only [zeroX]); (repeat' split) <;> (try simp only [Bool.false_eq, Bool.true_eq, Bool.and_eq_false_iff, decide_eq_false_iff_not, Bool.and_eq_true, decide_eq_true_eq, decide_eq_decide]) <;> first | rfl | omega | (simp_all; done) | (simp_all; omega))))
    | (refine PSub.sb_lit ?_; (first | (simp [zeroX, *]; done) | (simp_all [zeroX]; done) | ((try simp only [zeroX]); (repeat' split) <;> (try simp only [Bool.false_eq, Bool.true_eq, Bool.and_eq_false_iff, decide_eq_false_iff_not, Bool.and_eq_true, decide_eq_true_eq, decide_eq_decide]) <;> first | rfl | omega | (simp_all; done) | (simp_all; omega))))
    | (refine PSub.int ?_; (first | (simp [zeroX, *]; done) | (simp_all [zeroX]; done) | ((try simp only [zeroX]); (repeat' split) <;> (try simp only [Bool.false_eq, Bool.true_eq, Bool.and_eq_false_iff, decide_eq_false_iff_not, Bool.and_eq_true, decide_eq_true_eq, decide_eq_decide]) <;> first | rfl | omega | (simp_all; done) | (simp_all; omega))))
    | skip
  refine loop_k (ι := Nat) [3, 57, 58] [3] (fun k => k = 0) (fun _ => 0) 0 (fun k => [(59, .pv (vint k))]) (fun _ => []) [] rfl ?_ (fun k hk => ?_)
  · (repeat' (first | exact PSub.rfl | exact rfl | exact PSubs.rfl | exact trivial | exact PSub.lit_sb rfl | refine And.intro ?_ ?_))
  subst hk
  conv => whnf
  refine ⟨fun h => ?_, fun h => ?_⟩ <;> (conv => whnf)
  · simp only [decide_eq_true_eq] at h
    exfalso
    omega
  all_goals first
    | contradiction
    | (exfalso; omega)
    | exact PSub.rfl
    | (refine PSub.lit_sb ?_; (first | (simp [zeroX, *]; done) | (simp_all [zeroX]; done) | ((try simp only [zeroX]); (repeat' split) <;> (try simp only [Bool.false_eq, Bool.true_eq, Bool.and_eq_false_iff, decide_eq_false_iff_not, Bool.and_eq_true, decide_eq_true_eq, decide_eq_decide]) <;> first | rfl | omega | (simp_all; done) | (simp_all; omega))))
    | (refine PSub.sb ?_; (first | (simp [zeroX, *]; done) | (simp_all [zeroX]; done) | ((try simp only [zeroX]); (repeat' split) <;> (try simp only [Bool.false_eq, Bool.true_eq, Bool.and_eq_false_iff, decide_eq_false_iff_not, Bool.and_eq_true, decide_eq_true_eq, decide_eq_decide]) <;> first | rfl | omega | (simp_all; done) | (simp_all; omega))))
    | (refine PSub.sb_lit ?_; (first | (simp [zeroX, *]; done) | (simp_all [zeroX]; done) | ((try simp only [zeroX]); (repeat' split) <;> (try simp only [Bool.false_eq, Bool.true_eq, Bool.and_eq_false_iff, decide_eq_false_iff_not, Bool.and_eq_true, decide_eq_true_eq, decide_eq_decide]) <;> first | rfl | omega | (simp_all; done) | (simp_all; omega))))
    | (refine PSub.int ?_; (first | (simp [zeroX, *]; done) | (simp_all [zeroX]; done) | ((try simp only [zeroX]); (repeat' split) <;> (try simp only [Bool.false_eq, Bool.true_eq, Bool.and_eq_false_iff, decide_eq_false_iff_not, Bool.and_eq_true, decide_eq_true_eq, decide_eq_decide]) <;> first | rfl | omega | (simp_all; done) | (simp_all; omega))))
    | skip

theorem ac_r28_Same0 (e : Ex) : AC Tryz.prog 92 [.pv (.agg (cEx e)), .pv (.agg cEx0)] [] (.pv (vbool (zeroX e))) [] := by
  refine AC.ex ?_
  refine AC.of_awp (T := T) T_ok hm Tryz.call92 Tryz.func92 rfl rfl rfl ?_
  conv => whnf
  repeat (any_goals (first
    | (refine ⟨fun (h : (_ : Bool) = true) => ?_, fun (h : (_ : Bool) = false) => ?_⟩ <;> (try simp only [decide_eq_true_eq, decide_eq_false_iff_not, Bool.not_eq_true', Bool.not_eq_false', Int.toNat_natCast, beq_iff_eq, decide_eq_decide, beq_eq_false_iff_ne, ne_eq, reduceCtorEq] at h) <;> (conv => whnf))
    | (refine And.intro (by (try simp only [Int.toNat_natCast]); omega) ?_; conv => whnf)
    | (refine And.intro (show (_ : Bool) = true from by kernel_rfl) ?_; conv => whnf)
    | (refine .inl ⟨wrap64 (by omega), ?_⟩; conv => whnf)))
  all_goals (try simp only [val_eq0', key_eq0, decide_true, Bool.and_true, decide_eq_false_iff_not, decide_eq_true_eq] at *)
  all_goals first
    | contradiction
    | (exfalso; omega)
    | exact PSub.rfl
    | (refine PSub.lit_sb ?_; (first | (simp [zeroX, *]; done) | (simp_all [zeroX]; done) | ((try simp only [zeroX]); (repeat' split) <;> (try simp only [Bool.false_eq, Bool.true_eq, Bool.and_eq_false_iff, decide_eq_false_iff_not, Bool.and_eq_true, decide_eq_true_eq, decide_eq_decide]) <;> first | rfl | omega | (simp_all; done) | (simp_all; omega))))
    | (refine PSub.sb ?_; (first | (simp [zeroX, *]; done) | (simp_all [zeroX]; done) | ((try simp only [zeroX]); (repeat' split) <;> (try simp only [Bool.false_eq, Bool.true_eq, Bool.and_eq_false_iff, decide_eq_false_iff_not, Bool.and_eq_true, decide_eq_true_eq, decide_eq_decide]) <;> first | rfl | omega | (simp_all; done) | (simp_all; omega))))
    | (refine PSub.sb_lit ?_; (first | (simp [zeroX, *]; done) | (simp_all [zeroX]; done) | ((try simp only [zeroX]); (repeat' split) <;> (try simp only [Bool.false_eq, Bool.true_eq, Bool.and_eq_false_iff, decide_eq_false_iff_not, Bool.and_eq_true, decide_eq_true_eq, decide_eq_decide]) <;> first | rfl | omega | (simp_all; done) | (simp_all; omega))))
    | (refine PSub.int ?_; (first | (simp [zeroX, *]; done) | (simp_all [zeroX]; done) | ((try simp only [zeroX]); (repeat' split) <;> (try simp only [Bool.false_eq, Bool.true_eq, Bool.and_eq_false_iff, decide_eq_false_iff_not, Bool.and_eq_true, decide_eq_true_eq, decide_eq_decide]) <;> first | rfl | omega | (simp_all; done) | (simp_all; omega))))
    | skip
  refine loop_k (ι := Nat) [2, 3] [2, 3] (fun k => k = 0) (fun _ => 0) 0 (fun k => [(5, .pv (vint k))]) (fun _ => []) [] rfl ?_ (fun k hk => ?_)
  · (repeat' (first | exact PSub.rfl | exact rfl | exact PSubs.rfl | exact trivial | exact PSub.lit_sb rfl | refine And.intro ?_ ?_))
  subst hk
  conv => whnf
  refine ⟨fun h => ?_, fun h => ?_⟩ <;> (conv => whnf)
  · simp only [decide_eq_true_eq] at h
    exfalso
    omega
  all_goals first
    | contradiction
    | (exfalso; omega)
    | exact PSub.rfl
    | (refine PSub.lit_sb ?_; (first | (simp [zeroX, *]; done) | (simp_all [zeroX]; done) | ((try simp only [zeroX]); (repeat' split) <;> (try simp only [Bool.false_eq, Bool.true_eq, Bool.and_eq_false_iff, decide_eq_false_iff_not, Bool.and_eq_true, decide_eq_true_eq, decide_eq_decide]) <;> first | rfl | omega | (simp_all; done) | (simp_all; omega))))
    | (refine PSub.sb ?_; (first | (simp [zeroX, *]; done) | (simp_all [zeroX]; done) | ((try simp only [zeroX]); (repeat' split) <;> (try simp only [Bool.false_eq, Bool.true_eq, Bool.and_eq_false_iff, decide_eq_false_iff_not, Bool.and_eq_true, decide_eq_true_eq, decide_eq_decide]) <;> first | rfl | omega | (simp_all; done) | (simp_all; omega))))
    | (refine PSub.sb_lit ?_; (first | (simp [zeroX, *]; done) | (simp_all [zeroX]; done) | ((try simp only [zeroX]); (repeat' split) <;> (try simp only [Bool.false_eq, Bool.true_eq, Bool.and_eq_false_iff, decide_eq_false_iff_not, Bool.and_eq_true, decide_eq_true_eq, decide_eq_decide]) <;> first | rfl | omega | (simp_all; done) | (simp_all; omega))))
    | (refine PSub.int ?_; (first | (simp [zeroX, *]; done) | (simp_all [zeroX]; done) | ((try simp only [zeroX]); (repeat' split) <;> (try simp only [Bool.false_eq, Bool.true_eq, Bool.and_eq_false_iff, decide_eq_false_iff_not, Bool.and_eq_true, decide_eq_true_eq, decide_eq_decide]) <;> first | rfl | omega | (simp_all; done) | (simp_all; omega))))
    | skip

theorem ac_print_none (e : Ex) : AC Tryz.prog 127 [.pv (.agg (cEx e))] [] (.pv (vbool (zeroX e))) [] := by
  refine AC.of_awp (T := T) T_ok hm Tryz.call127 Tryz.func127 rfl rfl rfl ?_
  conv => whnf
  repeat (any_goals (first
    | (refine ⟨fun (h : (_ : Bool) = true) => ?_, fun (h : (_ : Bool) = false) => ?_⟩ <;> (try simp only [decide_eq_true_eq, decide_eq_false_iff_not, Bool.not_eq_true', Bool.not_eq_false', Int.toNat_natCast, beq_iff_eq, decide_eq_decide, beq_eq_false_iff_ne, ne_eq, reduceCtorEq] at h) <;> (conv => whnf))
    | (refine .inl ⟨_, ac_expr_Same0 e, ?_⟩; conv => whnf)
    | (refine And.intro (by (try simp only [Int.toNat_natCast]); omega) ?_; conv => whnf)
    | (refine And.intro (show (_ : Bool) = true from by kernel_rfl) ?_; conv => whnf)
    | (refine .inl ⟨wrap64 (by omega), ?_⟩; conv => whnf)))
  exact PSub.rfl
theorem ac_r30_None (e : Ex) : AC Tryz.prog 133 [.pv (.agg (cEx e))] [] (.pv (vbool (zeroX e))) [] := by
  refine AC.of_awp (T := T) T_ok hm Tryz.call133 Tryz.func133 rfl rfl rfl ?_
  conv => whnf
  repeat (any_goals (first
    | (refine ⟨fun (h : (_ : Bool) = true) => ?_, fun (h : (_ : Bool) = false) => ?_⟩ <;> (try simp only [decide_eq_true_eq, decide_eq_false_iff_not, Bool.not_eq_true', Bool.not_eq_false', Int.toNat_natCast, beq_iff_eq, decide_eq_decide, beq_eq_false_iff_ne, ne_eq, reduceCtorEq] at h) <;> (conv => whnf))
    | (refine .inl ⟨_, ac_r28_Same0 e, ?_⟩; conv => whnf)
    | (refine And.intro (by (try simp only [Int.toNat_natCast]); omega) ?_; conv => whnf)
    | (refine And.intro (show (_ : Bool) = true from by kernel_rfl) ?_; conv => whnf)
    | (refine .inl ⟨wrap64 (by omega), ?_⟩; conv => whnf)))
  exact PSub.rfl

/-! forms -/
theorem ac_print_device (n : Int) : AC Tryz.prog 154 [.pv (vint n)] [] (.pv (vbool (decide (1 ≤ n ∧ n ≤ 250)))) [] := by
  refine AC.of_awp (T := T) T_ok hm Tryz.call154 Tryz.func154 rfl rfl rfl ?_
  conv => whnf
  repeat (any_goals (first
    | (refine ⟨fun (h : (_ : Bool) = true) => ?_, fun (h : (_ : Bool) = false) => ?_⟩ <;> (try simp only [decide_eq_true_eq, decide_eq_false_iff_not, Bool.not_eq_true', Bool.not_eq_false', Int.toNat_natCast, beq_iff_eq, decide_eq_decide, beq_eq_false_iff_ne, ne_eq, reduceCtorEq] at h) <;> (conv => whnf))
    | (refine And.intro (by (try simp only [Int.toNat_natCast]); omega) ?_; conv => whnf)
    | (refine And.intro (show (_ : Bool) = true from by kernel_rfl) ?_; conv => whnf)
    | (refine .inl ⟨wrap64 (by omega), ?_⟩; conv => whnf)))
  all_goals first
    | contradiction
    | (exfalso; omega)
    | exact PSub.rfl
    | (refine PSub.lit_sb ?_; (first | (simp [and_true, *]; done) | (simp_all [and_true]; done) | ((try simp only [and_true]); (repeat' split) <;> (try simp only [Bool.false_eq, Bool.true_eq, Bool.and_eq_false_iff, decide_eq_false_iff_not, Bool.and_eq_true, decide_eq_true_eq, decide_eq_decide]) <;> first | rfl | omega | (simp_all; done) | (simp_all; omega))))
    | (refine PSub.sb ?_; (first | (simp [and_true, *]; done) | (simp_all [and_true]; done) | ((try simp only [and_true]); (repeat' split) <;> (try simp only [Bool.false_eq, Bool.true_eq, Bool.and_eq_false_iff, decide_eq_false_iff_not, Bool.and_eq_true, decide_eq_true_eq, decide_eq_decide]) <;> first | rfl | omega | (simp_all; done) | (simp_all; omega))))
    | (refine PSub.sb_lit ?_; (first | (simp [and_true, *]; done) | (simp_all [and_true]; done) | ((try simp only [and_true]); (repeat' split) <;> (try simp only [Bool.false_eq, Bool.true_eq, Bool.and_eq_false_iff, decide_eq_false_iff_not, Bool.and_eq_true, decide_eq_true_eq, decide_eq_decide]) <;> first | rfl | omega | (simp_all; done) | (simp_all; omega))))
    | (refine PSub.int ?_; (first | (simp [and_true, *]; done) | (simp_all [and_true]; done) | ((try simp only [and_true]); (repeat' split) <;> (try simp only [Bool.false_eq, Bool.true_eq, Bool.and_eq_false_iff, decide_eq_false_iff_not, Bool.and_eq_true, decide_eq_true_eq, decide_eq_decide]) <;> first | rfl | omega | (simp_all; done) | (simp_all; omega))))
    | skip
theorem ac_r30_Address (n : Int) : AC Tryz.prog 131 [.pv (vint n)] [] (.pv (vbool (decide (1 ≤ n ∧ n ≤ 250)))) [] := by
  refine AC.of_awp (T := T) T_ok hm Tryz.call131 Tryz.func131 rfl rfl rfl ?_
  conv => whnf
  repeat (any_goals (first
    | (refine ⟨fun (h : (_ : Bool) = true) => ?_, fun (h : (_ : Bool) = false) => ?_⟩ <;> (try simp only [decide_eq_true_eq, decide_eq_false_iff_not, Bool.not_eq_true', Bool.not_eq_false', Int.toNat_natCast, beq_iff_eq, decide_eq_decide, beq_eq_false_iff_ne, ne_eq, reduceCtorEq] at h) <;> (conv => whnf))
    | (refine And.intro (by (try simp only [Int.toNat_natCast]); omega) ?_; conv => whnf)
    | (refine And.intro (show (_ : Bool) = true from by kernel_rfl) ?_; conv => whnf)
    | (refine .inl ⟨wrap64 (by omega), ?_⟩; conv => whnf)))
  all_goals first
    | contradiction
    | (exfalso; omega)
    | exact PSub.rfl
    | (refine PSub.lit_sb ?_; (first | (simp [and_true, *]; done) | (simp_all [and_true]; done) | ((try simp only [and_true]); (repeat' split) <;> (try simp only [Bool.false_eq, Bool.true_eq, Bool.and_eq_false_iff, decide_eq_false_iff_not, Bool.and_eq_true, decide_eq_true_eq, decide_eq_decide]) <;> first | rfl | omega | (simp_all; done) | (simp_all; omega))))
    | (refine PSub.sb ?_; (first | (simp [and_true, *]; done) | (simp_all [and_true]; done) | ((try simp only [and_true]); (repeat' split) <;> (try simp only [Bool.false_eq, Bool.true_eq, Bool.and_eq_false_iff, decide_eq_false_iff_not, Bool.and_eq_true, decide_eq_true_eq, decide_eq_decide]) <;> first | rfl | omega | (simp_all; done) | (simp_all; omega))))
    | (refine PSub.sb_lit ?_; (first | (simp [and_true, *]; done) | (simp_all [and_true]; done) | ((try simp only [and_true]); (repeat' split) <;> (try simp only [Bool.false_eq, Bool.true_eq, Bool.and_eq_false_iff, decide_eq_false_iff_not, Bool.and_eq_true, decide_eq_true_eq, decide_eq_decide]) <;> first | rfl | omega | (simp_all; done) | (simp_all; omega))))
    | (refine PSub.int ?_; (first | (simp [and_true, *]; done) | (simp_all [and_true]; done) | ((try simp only [and_true]); (repeat' split) <;> (try simp only [Bool.false_eq, Bool.true_eq, Bool.and_eq_false_iff, decide_eq_false_iff_not, Bool.and_eq_true, decide_eq_true_eq, decide_eq_decide]) <;> first | rfl | omega | (simp_all; done) | (simp_all; omega))))
    | skip
theorem ac_print_named (n : Int) (a b : ByteArray) : AC Tryz.prog 126 [.pv (vint n), .pv (vstr a), .pv (vstr b)] [] (.pv (vint (namedE n a b))) [] := by
  refine AC.of_awp (T := T) T_ok hm Tryz.call126 Tryz.func126 rfl rfl rfl ?_
  conv => whnf
  repeat (any_goals (first
    | (refine ⟨fun (h : (_ : Bool) = true) => ?_, fun (h : (_ : Bool) = false) => ?_⟩ <;> (try simp only [decide_eq_true_eq, decide_eq_false_iff_not, Bool.not_eq_true', Bool.not_eq_false', Int.toNat_natCast, beq_iff_eq, decide_eq_decide, beq_eq_false_iff_ne, ne_eq, reduceCtorEq] at h) <;> (conv => whnf))
    | (refine .inl ⟨_, ac_print_device n, ?_⟩; conv => whnf)
    | (refine .inl ⟨_, ac_names_Valid a, ?_⟩; conv => whnf)
    | (refine .inl ⟨_, ac_names_Valid b, ?_⟩; conv => whnf)
    | (refine And.intro (by (try simp only [Int.toNat_natCast]); omega) ?_; conv => whnf)
    | (refine And.intro (show (_ : Bool) = true from by kernel_rfl) ?_; conv => whnf)
    | (refine .inl ⟨wrap64 (by omega), ?_⟩; conv => whnf)))
  all_goals first
    | contradiction
    | (exfalso; omega)
    | exact PSub.rfl
    | (refine PSub.lit_sb ?_; (first | (simp [namedE, *]; done) | (simp_all [namedE]; done) | ((try simp only [namedE]); (repeat' split) <;> (try simp only [Bool.false_eq, Bool.true_eq, Bool.and_eq_false_iff, decide_eq_false_iff_not, Bool.and_eq_true, decide_eq_true_eq, decide_eq_decide]) <;> first | rfl | omega | (simp_all; done) | (simp_all; omega))))
    | (refine PSub.sb ?_; (first | (simp [namedE, *]; done) | (simp_all [namedE]; done) | ((try simp only [namedE]); (repeat' split) <;> (try simp only [Bool.false_eq, Bool.true_eq, Bool.and_eq_false_iff, decide_eq_false_iff_not, Bool.and_eq_true, decide_eq_true_eq, decide_eq_decide]) <;> first | rfl | omega | (simp_all; done) | (simp_all; omega))))
    | (refine PSub.sb_lit ?_; (first | (simp [namedE, *]; done) | (simp_all [namedE]; done) | ((try simp only [namedE]); (repeat' split) <;> (try simp only [Bool.false_eq, Bool.true_eq, Bool.and_eq_false_iff, decide_eq_false_iff_not, Bool.and_eq_true, decide_eq_true_eq, decide_eq_decide]) <;> first | rfl | omega | (simp_all; done) | (simp_all; omega))))
    | (refine PSub.int ?_; (first | (simp [namedE, *]; done) | (simp_all [namedE]; done) | ((try simp only [namedE]); (repeat' split) <;> (try simp only [Bool.false_eq, Bool.true_eq, Bool.and_eq_false_iff, decide_eq_false_iff_not, Bool.and_eq_true, decide_eq_true_eq, decide_eq_decide]) <;> first | rfl | omega | (simp_all; done) | (simp_all; omega))))
    | skip

theorem evt_eq (a b : Evt) : (decide (a.dev = b.dev) && (decide (a.cluster = b.cluster) && (decide (a.name = b.name) && true))) = decide (a = b) := by
  obtain ⟨a1, a2, a3⟩ := a
  obtain ⟨b1, b2, b3⟩ := b
  rw [Bool.eq_iff_iff]; simp
theorem evt_eq0 (a : Evt) : (decide (a.dev = 0) && (decide (a.cluster = ⟨#[]⟩) && decide (a.name = ⟨#[]⟩))) = decide (a = noEvt) := by have := evt_eq a noEvt; simp only [Bool.and_true] at this; exact this

set_option maxHeartbeats 1000000 in
theorem ac_print_spare (t : Trg) : AC Tryz.prog 125 [.pv (.agg (cTrg t))] [] (.pv (vbool (trgSpare t))) [] := by
  refine AC.of_awp (T := T) T_ok hm Tryz.call125 Tryz.func125 rfl rfl rfl ?_
  conv => whnf
  repeat (any_goals (first
    | (refine ⟨fun (h : (_ : Bool) = true) => ?_, fun (h : (_ : Bool) = false) => ?_⟩ <;> (try simp only [decide_eq_true_eq, decide_eq_false_iff_not, Bool.not_eq_true', Bool.not_eq_false', Int.toNat_natCast, beq_iff_eq, decide_eq_decide, beq_eq_false_iff_ne, ne_eq, reduceCtorEq] at h) <;> (conv => whnf))
    | (refine And.intro (by (try simp only [Int.toNat_natCast]); omega) ?_; conv => whnf)
    | (refine And.intro (show (_ : Bool) = true from by kernel_rfl) ?_; conv => whnf)
    | (refine .inl ⟨wrap64 (by omega), ?_⟩; conv => whnf)))
  all_goals
    refine PSub.sb ?_
    obtain ⟨k, ⟨k1, k2, k3⟩, ⟨e1, e2, e3⟩, nm, n, m⟩ := t
    dsimp only at *
    rw [Bool.eq_iff_iff]
    simp [trgSpare, *, @eq_comm Int 0, @eq_comm ByteArray ⟨#[]⟩, and_assoc]



set_option maxHeartbeats 1000000 in
theorem ac_r30_TriggerSpare (t : Trg) : AC Tryz.prog 130 [.pv (.agg (cTrg t))] [] (.pv (vbool (trgSpare t))) [] := by
  refine AC.of_awp (T := T) T_ok hm Tryz.call130 Tryz.func130 rfl rfl rfl ?_
  conv => whnf
  repeat (any_goals (first
    | (refine ⟨fun (h : (_ : Bool) = true) => ?_, fun (h : (_ : Bool) = false) => ?_⟩ <;> (try simp only [decide_eq_true_eq, decide_eq_false_iff_not, Bool.not_eq_true', Bool.not_eq_false', Int.toNat_natCast, beq_iff_eq, decide_eq_decide, beq_eq_false_iff_ne, ne_eq, reduceCtorEq] at h) <;> (conv => whnf))
    | (refine And.intro (by (try simp only [Int.toNat_natCast]); omega) ?_; conv => whnf)
    | (refine And.intro (show (_ : Bool) = true from by kernel_rfl) ?_; conv => whnf)
    | (refine .inl ⟨wrap64 (by omega), ?_⟩; conv => whnf)))
  all_goals (try simp only [val_eq0', key_eq0, evt_eq0, decide_true, Bool.and_true, decide_eq_false_iff_not, decide_eq_true_eq] at *)
  all_goals first
    | contradiction
    | (exfalso; omega)
    | exact PSub.rfl
    | (refine PSub.lit_sb ?_; (first | (simp [trgSpare, *]; done) | (simp_all [trgSpare]; done) | ((try simp only [trgSpare]); (repeat' split) <;> (try simp only [Bool.false_eq, Bool.true_eq, Bool.and_eq_false_iff, decide_eq_false_iff_not, Bool.and_eq_true, decide_eq_true_eq, decide_eq_decide]) <;> first | rfl | omega | (simp_all; done) | (simp_all; omega))))
    | (refine PSub.sb ?_; (first | (simp [trgSpare, *]; done) | (simp_all [trgSpare]; done) | ((try simp only [trgSpare]); (repeat' split) <;> (try simp only [Bool.false_eq, Bool.true_eq, Bool.and_eq_false_iff, decide_eq_false_iff_not, Bool.and_eq_true, decide_eq_true_eq, decide_eq_decide]) <;> first | rfl | omega | (simp_all; done) | (simp_all; omega))))
    | (refine PSub.sb_lit ?_; (first | (simp [trgSpare, *]; done) | (simp_all [trgSpare]; done) | ((try simp only [trgSpare]); (repeat' split) <;> (try simp only [Bool.false_eq, Bool.true_eq, Bool.and_eq_false_iff, decide_eq_false_iff_not, Bool.and_eq_true, decide_eq_true_eq, decide_eq_decide]) <;> first | rfl | omega | (simp_all; done) | (simp_all; omega))))
    | (refine PSub.int ?_; (first | (simp [trgSpare, *]; done) | (simp_all [trgSpare]; done) | ((try simp only [trgSpare]); (repeat' split) <;> (try simp only [Bool.false_eq, Bool.true_eq, Bool.and_eq_false_iff, decide_eq_false_iff_not, Bool.and_eq_true, decide_eq_true_eq, decide_eq_decide]) <;> first | rfl | omega | (simp_all; done) | (simp_all; omega))))
    | skip

set_option maxHeartbeats 1000000 in
theorem ac_print_trigger (t : Trg) : AC Tryz.prog 85 [.pv (.agg (cTrg t))] [] (.pv (vint (trgE t))) [] := by
  refine AC.of_awp (T := T) T_ok hm Tryz.call85 Tryz.func85 rfl rfl rfl ?_
  conv => whnf
  repeat (any_goals (first
    | (refine ⟨fun (h : (_ : Bool) = true) => ?_, fun (h : (_ : Bool) = false) => ?_⟩ <;> (try simp only [decide_eq_true_eq, decide_eq_false_iff_not, Bool.not_eq_true', Bool.not_eq_false', Int.toNat_natCast, beq_iff_eq, decide_eq_decide, beq_eq_false_iff_ne, ne_eq, reduceCtorEq] at h) <;> (conv => whnf))
    | (refine .inl ⟨_, ac_print_spare t, ?_⟩; conv => whnf)
    | (refine .inl ⟨_, ac_print_named t.key.dev t.key.cluster t.key.attr, ?_⟩; conv => whnf)
    | (refine .inl ⟨_, ac_print_named t.event.dev t.event.cluster t.event.name, ?_⟩; conv => whnf)
    | (refine .inl ⟨_, ac_names_Valid t.name, ?_⟩; conv => whnf)
    | (refine And.intro (by (try simp only [Int.toNat_natCast]); omega) ?_; conv => whnf)
    | (refine And.intro (show (_ : Bool) = true from by kernel_rfl) ?_; conv => whnf)
    | (refine .inl ⟨wrap64 (by omega), ?_⟩; conv => whnf)))
  all_goals first
    | contradiction
    | (exfalso; omega)
    | exact PSub.rfl
    | (refine PSub.lit_sb ?_; (first | (simp [trgE, *]; done) | (simp_all [trgE]; done) | ((try simp only [trgE]); (repeat' split) <;> (try simp only [Bool.false_eq, Bool.true_eq, Bool.and_eq_false_iff, decide_eq_false_iff_not, Bool.and_eq_true, decide_eq_true_eq, decide_eq_decide]) <;> first | rfl | omega | (simp_all; done) | (simp_all; omega))))
    | (refine PSub.sb ?_; (first | (simp [trgE, *]; done) | (simp_all [trgE]; done) | ((try simp only [trgE]); (repeat' split) <;> (try simp only [Bool.false_eq, Bool.true_eq, Bool.and_eq_false_iff, decide_eq_false_iff_not, Bool.and_eq_true, decide_eq_true_eq, decide_eq_decide]) <;> first | rfl | omega | (simp_all; done) | (simp_all; omega))))
    | (refine PSub.sb_lit ?_; (first | (simp [trgE, *]; done) | (simp_all [trgE]; done) | ((try simp only [trgE]); (repeat' split) <;> (try simp only [Bool.false_eq, Bool.true_eq, Bool.and_eq_false_iff, decide_eq_false_iff_not, Bool.and_eq_true, decide_eq_true_eq, decide_eq_decide]) <;> first | rfl | omega | (simp_all; done) | (simp_all; omega))))
    | (refine PSub.int ?_; (first | (simp [trgE, *]; done) | (simp_all [trgE]; done) | ((try simp only [trgE]); (repeat' split) <;> (try simp only [Bool.false_eq, Bool.true_eq, Bool.and_eq_false_iff, decide_eq_false_iff_not, Bool.and_eq_true, decide_eq_true_eq, decide_eq_decide]) <;> first | rfl | omega | (simp_all; done) | (simp_all; omega))))
    | skip
set_option maxHeartbeats 1000000 in
theorem ac_r30_Trigger (t : Trg) : AC Tryz.prog 89 [.pv (.agg (cTrg t))] [] (.pv (vint (trgE t))) [] := by
  refine AC.of_awp (T := T) T_ok hm Tryz.call89 Tryz.func89 rfl rfl rfl ?_
  conv => whnf
  repeat (any_goals (first
    | (refine ⟨fun (h : (_ : Bool) = true) => ?_, fun (h : (_ : Bool) = false) => ?_⟩ <;> (try simp only [decide_eq_true_eq, decide_eq_false_iff_not, Bool.not_eq_true', Bool.not_eq_false', Int.toNat_natCast, beq_iff_eq, decide_eq_decide, beq_eq_false_iff_ne, ne_eq, reduceCtorEq] at h) <;> (conv => whnf))
    | (refine .inl ⟨_, ac_r30_TriggerSpare t, ?_⟩; conv => whnf)
    | (refine .inl ⟨_, ac_r30_Address t.key.dev, ?_⟩; conv => whnf)
    | (refine .inl ⟨_, ac_r30_Address t.event.dev, ?_⟩; conv => whnf)
    | (refine .inl ⟨_, ac_r04_Valid t.key.cluster, ?_⟩; conv => whnf)
    | (refine .inl ⟨_, ac_r04_Valid t.key.attr, ?_⟩; conv => whnf)
    | (refine .inl ⟨_, ac_r04_Valid t.event.cluster, ?_⟩; conv => whnf)
    | (refine .inl ⟨_, ac_r04_Valid t.event.name, ?_⟩; conv => whnf)
    | (refine .inl ⟨_, ac_r04_Valid t.name, ?_⟩; conv => whnf)
    | (refine And.intro (by (try simp only [Int.toNat_natCast]); omega) ?_; conv => whnf)
    | (refine And.intro (show (_ : Bool) = true from by kernel_rfl) ?_; conv => whnf)
    | (refine .inl ⟨wrap64 (by omega), ?_⟩; conv => whnf)))
  all_goals first
    | contradiction
    | (exfalso; omega)
    | exact PSub.rfl
    | (refine PSub.lit_sb ?_; (first | (simp [trgE, namedE, *]; done) | (simp_all [trgE, namedE]; done) | ((try simp only [trgE, namedE]); (repeat' split) <;> (try simp only [Bool.false_eq, Bool.true_eq, Bool.and_eq_false_iff, decide_eq_false_iff_not, Bool.and_eq_true, decide_eq_true_eq, decide_eq_decide]) <;> first | rfl | omega | (simp_all; done) | (simp_all; omega))))
    | (refine PSub.sb ?_; (first | (simp [trgE, namedE, *]; done) | (simp_all [trgE, namedE]; done) | ((try simp only [trgE, namedE]); (repeat' split) <;> (try simp only [Bool.false_eq, Bool.true_eq, Bool.and_eq_false_iff, decide_eq_false_iff_not, Bool.and_eq_true, decide_eq_true_eq, decide_eq_decide]) <;> first | rfl | omega | (simp_all; done) | (simp_all; omega))))
    | (refine PSub.sb_lit ?_; (first | (simp [trgE, namedE, *]; done) | (simp_all [trgE, namedE]; done) | ((try simp only [trgE, namedE]); (repeat' split) <;> (try simp only [Bool.false_eq, Bool.true_eq, Bool.and_eq_false_iff, decide_eq_false_iff_not, Bool.and_eq_true, decide_eq_true_eq, decide_eq_decide]) <;> first | rfl | omega | (simp_all; done) | (simp_all; omega))))
    | (refine PSub.int ?_; (first | (simp [trgE, namedE, *]; done) | (simp_all [trgE, namedE]; done) | ((try simp only [trgE, namedE]); (repeat' split) <;> (try simp only [Bool.false_eq, Bool.true_eq, Bool.and_eq_false_iff, decide_eq_false_iff_not, Bool.and_eq_true, decide_eq_true_eq, decide_eq_decide]) <;> first | rfl | omega | (simp_all; done) | (simp_all; omega))))
    | skip

end Go.Abs

namespace Go.Abs
open Go.Proofs
set_option maxRecDepth 10000

set_option maxHeartbeats 1000000 in
theorem ac_print_step (x : Stp) : AC Tryz.prog 86 [.pv (.agg (cStp x))] [] (.pv (vint (stpE x))) [] := by
  refine AC.of_awp (T := T) T_ok hm Tryz.call86 Tryz.func86 rfl rfl rfl ?_
  conv => whnf
  repeat (any_goals (first
    | (refine ⟨fun (h : (_ : Bool) = true) => ?_, fun (h : (_ : Bool) = false) => ?_⟩ <;> (try simp only [decide_eq_true_eq, decide_eq_false_iff_not, Bool.not_eq_true', Bool.not_eq_false', Int.toNat_natCast, beq_iff_eq, decide_eq_decide, beq_eq_false_iff_ne, ne_eq, reduceCtorEq] at h) <;> (conv => whnf))
    | (refine .inl ⟨_, ac_print_named x.key.dev x.key.cluster x.key.attr, ?_⟩; conv => whnf)
    | (refine .inl ⟨_, ac_print_named x.key.dev x.key.cluster x.name, ?_⟩; conv => whnf)
    | (refine .inl ⟨_, ac_expr_Check x.expr, ?_⟩; conv => whnf)
    | (refine .inl ⟨_, ac_print_none x.expr, ?_⟩; conv => whnf)
    | (refine .inl ⟨_, ac_names_Valid x.name, ?_⟩; conv => whnf)
    | (refine And.intro (by (try simp only [Int.toNat_natCast]); omega) ?_; conv => whnf)
    | (refine And.intro (show (_ : Bool) = true from by kernel_rfl) ?_; conv => whnf)
    | (refine .inl ⟨wrap64 (by omega), ?_⟩; conv => whnf)))
  all_goals (try simp only [val_eq0', key_eq0, decide_true, Bool.and_true, decide_eq_false_iff_not, decide_eq_true_eq] at *)
  all_goals first
    | contradiction
    | (exfalso; omega)
    | exact PSub.rfl
    | (refine PSub.lit_sb ?_; (first | (simp [stpE, *]; done) | (simp_all [stpE]; done) | ((try simp only [stpE]); (repeat' split) <;> (try simp only [Bool.false_eq, Bool.true_eq, Bool.and_eq_false_iff, decide_eq_false_iff_not, Bool.and_eq_true, decide_eq_true_eq, decide_eq_decide]) <;> first | rfl | omega | (simp_all; done) | (simp_all; omega))))
    | (refine PSub.sb ?_; (first | (simp [stpE, *]; done) | (simp_all [stpE]; done) | ((try simp only [stpE]); (repeat' split) <;> (try simp only [Bool.false_eq, Bool.true_eq, Bool.and_eq_false_iff, decide_eq_false_iff_not, Bool.and_eq_true, decide_eq_true_eq, decide_eq_decide]) <;> first | rfl | omega | (simp_all; done) | (simp_all; omega))))
    | (refine PSub.sb_lit ?_; (first | (simp [stpE, *]; done) | (simp_all [stpE]; done) | ((try simp only [stpE]); (repeat' split) <;> (try simp only [Bool.false_eq, Bool.true_eq, Bool.and_eq_false_iff, decide_eq_false_iff_not, Bool.and_eq_true, decide_eq_true_eq, decide_eq_decide]) <;> first | rfl | omega | (simp_all; done) | (simp_all; omega))))
    | (refine PSub.int ?_; (first | (simp [stpE, *]; done) | (simp_all [stpE]; done) | ((try simp only [stpE]); (repeat' split) <;> (try simp only [Bool.false_eq, Bool.true_eq, Bool.and_eq_false_iff, decide_eq_false_iff_not, Bool.and_eq_true, decide_eq_true_eq, decide_eq_decide]) <;> first | rfl | omega | (simp_all; done) | (simp_all; omega))))
    | skip
theorem ac_r30_StepSpare (x : Stp) : AC Tryz.prog 132 [.pv (.agg (cStp x))] [] (.pv (vbool (if x.kind = 1 then decide (x.name = ⟨#[]⟩) else if x.kind = 2 then decide (x.key.attr = ⟨#[]⟩) else decide (x.key = noKey) && zeroX x.expr))) [] := by
  refine AC.of_awp (T := T) T_ok hm Tryz.call132 Tryz.func132 rfl rfl rfl ?_
  conv => whnf
  repeat (any_goals (first
    | (refine ⟨fun (h : (_ : Bool) = true) => ?_, fun (h : (_ : Bool) = false) => ?_⟩ <;> (try simp only [decide_eq_true_eq, decide_eq_false_iff_not, Bool.not_eq_true', Bool.not_eq_false', Int.toNat_natCast, beq_iff_eq, decide_eq_decide, beq_eq_false_iff_ne, ne_eq, reduceCtorEq] at h) <;> (conv => whnf))
    | (refine .inl ⟨_, ac_r30_None x.expr, ?_⟩; conv => whnf)
    | (refine And.intro (by (try simp only [Int.toNat_natCast]); omega) ?_; conv => whnf)
    | (refine And.intro (show (_ : Bool) = true from by kernel_rfl) ?_; conv => whnf)
    | (refine .inl ⟨wrap64 (by omega), ?_⟩; conv => whnf)))
  all_goals (try simp only [val_eq0', key_eq0, decide_true, Bool.and_true, decide_eq_false_iff_not, decide_eq_true_eq] at *)
  all_goals first
    | contradiction
    | (exfalso; omega)
    | exact PSub.rfl
    | (refine PSub.lit_sb ?_; (first | (simp [and_true, *]; done) | (simp_all [and_true]; done) | ((try simp only [and_true]); (repeat' split) <;> (try simp only [Bool.false_eq, Bool.true_eq, Bool.and_eq_false_iff, decide_eq_false_iff_not, Bool.and_eq_true, decide_eq_true_eq, decide_eq_decide]) <;> first | rfl | omega | (simp_all; done) | (simp_all; omega))))
    | (refine PSub.sb ?_; (first | (simp [and_true, *]; done) | (simp_all [and_true]; done) | ((try simp only [and_true]); (repeat' split) <;> (try simp only [Bool.false_eq, Bool.true_eq, Bool.and_eq_false_iff, decide_eq_false_iff_not, Bool.and_eq_true, decide_eq_true_eq, decide_eq_decide]) <;> first | rfl | omega | (simp_all; done) | (simp_all; omega))))
    | (refine PSub.sb_lit ?_; (first | (simp [and_true, *]; done) | (simp_all [and_true]; done) | ((try simp only [and_true]); (repeat' split) <;> (try simp only [Bool.false_eq, Bool.true_eq, Bool.and_eq_false_iff, decide_eq_false_iff_not, Bool.and_eq_true, decide_eq_true_eq, decide_eq_decide]) <;> first | rfl | omega | (simp_all; done) | (simp_all; omega))))
    | (refine PSub.int ?_; (first | (simp [and_true, *]; done) | (simp_all [and_true]; done) | ((try simp only [and_true]); (repeat' split) <;> (try simp only [Bool.false_eq, Bool.true_eq, Bool.and_eq_false_iff, decide_eq_false_iff_not, Bool.and_eq_true, decide_eq_true_eq, decide_eq_decide]) <;> first | rfl | omega | (simp_all; done) | (simp_all; omega))))
    | skip
set_option maxHeartbeats 1000000 in
theorem ac_r30_Step (x : Stp) : AC Tryz.prog 90 [.pv (.agg (cStp x))] [] (.pv (vint (stpE x))) [] := by
  refine AC.of_awp (T := T) T_ok hm Tryz.call90 Tryz.func90 rfl rfl rfl ?_
  conv => whnf
  repeat (any_goals (first
    | (refine ⟨fun (h : (_ : Bool) = true) => ?_, fun (h : (_ : Bool) = false) => ?_⟩ <;> (try simp only [decide_eq_true_eq, decide_eq_false_iff_not, Bool.not_eq_true', Bool.not_eq_false', Int.toNat_natCast, beq_iff_eq, decide_eq_decide, beq_eq_false_iff_ne, ne_eq, reduceCtorEq] at h) <;> (conv => whnf))
    | (refine .inl ⟨_, ac_r30_StepSpare x, ?_⟩; conv => whnf)
    | (refine .inl ⟨_, ac_r30_Address x.key.dev, ?_⟩; conv => whnf)
    | (refine .inl ⟨_, ac_r04_Valid x.key.cluster, ?_⟩; conv => whnf)
    | (refine .inl ⟨_, ac_r04_Valid x.key.attr, ?_⟩; conv => whnf)
    | (refine .inl ⟨_, ac_r04_Valid x.name, ?_⟩; conv => whnf)
    | (refine .inl ⟨_, ac_r30_None x.expr, ?_⟩; conv => whnf)
    | (refine .inl ⟨_, ac_r28_Check x.expr, ?_⟩; conv => whnf)
    | (refine And.intro (by (try simp only [Int.toNat_natCast]); omega) ?_; conv => whnf)
    | (refine And.intro (show (_ : Bool) = true from by kernel_rfl) ?_; conv => whnf)
    | (refine .inl ⟨wrap64 (by omega), ?_⟩; conv => whnf)))
  all_goals first
    | contradiction
    | (exfalso; omega)
    | exact PSub.rfl
    | (refine PSub.lit_sb ?_; (first | (simp [stpE, namedE, *]; done) | (simp_all [stpE, namedE]; done) | ((try simp only [stpE, namedE]); (repeat' split) <;> (try simp only [Bool.false_eq, Bool.true_eq, Bool.and_eq_false_iff, decide_eq_false_iff_not, Bool.and_eq_true, decide_eq_true_eq, decide_eq_decide]) <;> first | rfl | omega | (simp_all; done) | (simp_all; omega))))
    | (refine PSub.sb ?_; (first | (simp [stpE, namedE, *]; done) | (simp_all [stpE, namedE]; done) | ((try simp only [stpE, namedE]); (repeat' split) <;> (try simp only [Bool.false_eq, Bool.true_eq, Bool.and_eq_false_iff, decide_eq_false_iff_not, Bool.and_eq_true, decide_eq_true_eq, decide_eq_decide]) <;> first | rfl | omega | (simp_all; done) | (simp_all; omega))))
    | (refine PSub.sb_lit ?_; (first | (simp [stpE, namedE, *]; done) | (simp_all [stpE, namedE]; done) | ((try simp only [stpE, namedE]); (repeat' split) <;> (try simp only [Bool.false_eq, Bool.true_eq, Bool.and_eq_false_iff, decide_eq_false_iff_not, Bool.and_eq_true, decide_eq_true_eq, decide_eq_decide]) <;> first | rfl | omega | (simp_all; done) | (simp_all; omega))))
    | (refine PSub.int ?_; (first | (simp [stpE, namedE, *]; done) | (simp_all [stpE, namedE]; done) | ((try simp only [stpE, namedE]); (repeat' split) <;> (try simp only [Bool.false_eq, Bool.true_eq, Bool.and_eq_false_iff, decide_eq_false_iff_not, Bool.and_eq_true, decide_eq_true_eq, decide_eq_decide]) <;> first | rfl | omega | (simp_all; done) | (simp_all; omega))))
    | skip

theorem ac_print_Check (r : Rul) : AC Tryz.prog 41 [.pv (.agg (cRul r))] [] (.pv (vint (rulE r))) [] := by
  refine AC.of_awp (T := T) T_ok hm Tryz.call41 Tryz.func41 rfl rfl rfl ?_
  conv => whnf
  repeat (any_goals (first
    | (refine ⟨fun (h : (_ : Bool) = true) => ?_, fun (h : (_ : Bool) = false) => ?_⟩ <;> (try simp only [decide_eq_true_eq, decide_eq_false_iff_not, Bool.not_eq_true', Bool.not_eq_false', Int.toNat_natCast, beq_iff_eq, decide_eq_decide, beq_eq_false_iff_ne, ne_eq, reduceCtorEq] at h) <;> (conv => whnf))
    | (refine .inl ⟨_, ac_names_Valid r.name, ?_⟩; conv => whnf)
    | (refine And.intro (by (try simp only [Int.toNat_natCast]); omega) ?_; conv => whnf)
    | (refine And.intro (show (_ : Bool) = true from by kernel_rfl) ?_; conv => whnf)
    | (refine .inl ⟨wrap64 (by omega), ?_⟩; conv => whnf)))
  all_goals first
    | contradiction
    | (exfalso; omega)
    | exact PSub.rfl
    | (refine PSub.lit_sb ?_; (first | (simp [rulE, *]; done) | (simp_all [rulE]; done) | ((try simp only [rulE]); (repeat' split) <;> (try simp only [Bool.false_eq, Bool.true_eq, Bool.and_eq_false_iff, decide_eq_false_iff_not, Bool.and_eq_true, decide_eq_true_eq, decide_eq_decide]) <;> first | rfl | omega | (simp_all; done) | (simp_all; omega))))
    | (refine PSub.sb ?_; (first | (simp [rulE, *]; done) | (simp_all [rulE]; done) | ((try simp only [rulE]); (repeat' split) <;> (try simp only [Bool.false_eq, Bool.true_eq, Bool.and_eq_false_iff, decide_eq_false_iff_not, Bool.and_eq_true, decide_eq_true_eq, decide_eq_decide]) <;> first | rfl | omega | (simp_all; done) | (simp_all; omega))))
    | (refine PSub.sb_lit ?_; (first | (simp [rulE, *]; done) | (simp_all [rulE]; done) | ((try simp only [rulE]); (repeat' split) <;> (try simp only [Bool.false_eq, Bool.true_eq, Bool.and_eq_false_iff, decide_eq_false_iff_not, Bool.and_eq_true, decide_eq_true_eq, decide_eq_decide]) <;> first | rfl | omega | (simp_all; done) | (simp_all; omega))))
    | (refine PSub.int ?_; (first | (simp [rulE, *]; done) | (simp_all [rulE]; done) | ((try simp only [rulE]); (repeat' split) <;> (try simp only [Bool.false_eq, Bool.true_eq, Bool.and_eq_false_iff, decide_eq_false_iff_not, Bool.and_eq_true, decide_eq_true_eq, decide_eq_decide]) <;> first | rfl | omega | (simp_all; done) | (simp_all; omega))))
    | skip
  rename_i hv hp0 hp1 ho1 ho8 hd1
  have hcut : rulE r = if firstE r.on.length (fun i => trgE (r.on.getD i default)) ≠ 0 then firstE r.on.length (fun i => trgE (r.on.getD i default)) else if exE r.cond ≠ 0 then exE r.cond else firstE r.steps.length fun i => stpE (r.steps.getD i default) := by
    unfold rulE
    rw [if_neg (by rw [hv]; decide), if_neg (by omega), if_neg (by omega)]
  refine loop_k (ι := Nat) [1, 45, 46] [1] (fun k => k ≤ r.on.length ∧ ∀ j, j < k → trgE (r.on.getD j default) = 0) (fun k => r.on.length - k) 0 (fun k => [(47, .pv (vint k))]) (fun _ => []) [] ⟨Nat.zero_le _, fun j h => absurd h (by omega)⟩ ?_ (fun k hk => ?_)
  · (repeat' (first | exact PSub.rfl | exact rfl | exact PSubs.rfl | exact trivial | exact PSub.lit_sb rfl | refine And.intro ?_ ?_))
  obtain ⟨hkn, hinv⟩ := hk
  conv => whnf
  repeat (any_goals (first
    | (refine ⟨fun (h : (_ : Bool) = true) => ?_, fun (h : (_ : Bool) = false) => ?_⟩ <;> (try simp only [decide_eq_true_eq, decide_eq_false_iff_not, Bool.not_eq_true', Bool.not_eq_false', Int.toNat_natCast, beq_iff_eq, decide_eq_decide, beq_eq_false_iff_ne, ne_eq, reduceCtorEq] at h) <;> (conv => whnf))
    | (refine .inl ⟨_, ac_print_trigger (r.on.getD k default), ?_⟩; conv => whnf)
    | (refine And.intro (by (try simp only [Int.toNat_natCast]); omega) ?_; conv => whnf)
    | (refine And.intro (show (_ : Bool) = true from by kernel_rfl) ?_; conv => whnf)
    | (refine .inl ⟨wrap64 (by omega), ?_⟩; conv => whnf)))
  · have e := firstE_at (n := r.on.length) (f := fun i => trgE (r.on.getD i default)) (by omega) h hinv
    rw [hcut, e, if_pos h]
    exact PSub.rfl
  · refine ⟨k + 1, [], ⟨by omega, ?_⟩, by first | omega | (dsimp only; omega), ?_⟩
    rotate_left
    · (repeat' (first | exact PSub.rfl | exact rfl | exact PSubs.rfl | exact trivial | exact PSub.lit_sb rfl | refine And.intro ?_ ?_))
    intro j hj
    by_cases e : j = k
    · subst e; first | exact h | simpa [-List.getD_eq_getElem?_getD] using h | simp_all [-List.getD_eq_getElem?_getD]
    · exact hinv j (by omega)
  have e1 := firstE_none (n := r.on.length) (f := fun i => trgE (r.on.getD i default)) (fun j hj => hinv j (by omega))
  rw [e1, if_neg (by simp)] at hcut
  clear hkn hinv
  repeat (any_goals (first
    | (refine ⟨fun (h : (_ : Bool) = true) => ?_, fun (h : (_ : Bool) = false) => ?_⟩ <;> (try simp only [decide_eq_true_eq, decide_eq_false_iff_not, Bool.not_eq_true', Bool.not_eq_false', Int.toNat_natCast, beq_iff_eq, decide_eq_decide, beq_eq_false_iff_ne, ne_eq, reduceCtorEq] at h) <;> (conv => whnf))
    | (refine .inl ⟨_, ac_expr_Check r.cond, ?_⟩; conv => whnf)
    | (refine And.intro (by (try simp only [Int.toNat_natCast]); omega) ?_; conv => whnf)
    | (refine And.intro (show (_ : Bool) = true from by kernel_rfl) ?_; conv => whnf)
    | (refine .inl ⟨wrap64 (by omega), ?_⟩; conv => whnf)))
  · rw [hcut, if_pos h]; exact PSub.rfl
  rw [if_neg (by simpa using h)] at hcut
  refine loop_k (ι := Nat) [1, 64, 65] [1] (fun q => q ≤ r.steps.length ∧ ∀ j, j < q → stpE (r.steps.getD j default) = 0) (fun q => r.steps.length - q) 0 (fun q => [(66, .pv (vint q))]) (fun _ => []) [] ⟨Nat.zero_le _, fun j h => absurd h (by omega)⟩ ?_ (fun q hk => ?_)
  · (repeat' (first | exact PSub.rfl | exact rfl | exact PSubs.rfl | exact trivial | exact PSub.lit_sb rfl | refine And.intro ?_ ?_))
  obtain ⟨hkn, hinv⟩ := hk
  conv => whnf
  repeat (any_goals (first
    | (refine ⟨fun (h : (_ : Bool) = true) => ?_, fun (h : (_ : Bool) = false) => ?_⟩ <;> (try simp only [decide_eq_true_eq, decide_eq_false_iff_not, Bool.not_eq_true', Bool.not_eq_false', Int.toNat_natCast, beq_iff_eq, decide_eq_decide, beq_eq_false_iff_ne, ne_eq, reduceCtorEq] at h) <;> (conv => whnf))
    | (refine .inl ⟨_, ac_print_step (r.steps.getD q default), ?_⟩; conv => whnf)
    | (refine And.intro (by (try simp only [Int.toNat_natCast]); omega) ?_; conv => whnf)
    | (refine And.intro (show (_ : Bool) = true from by kernel_rfl) ?_; conv => whnf)
    | (refine .inl ⟨wrap64 (by omega), ?_⟩; conv => whnf)))
  · have e := firstE_at (n := r.steps.length) (f := fun i => stpE (r.steps.getD i default)) (by omega) h hinv
    rw [hcut, e]
    exact PSub.rfl
  · refine ⟨q + 1, [], ⟨by omega, ?_⟩, by first | omega | (dsimp only; omega), ?_⟩
    rotate_left
    · (repeat' (first | exact PSub.rfl | exact rfl | exact PSubs.rfl | exact trivial | exact PSub.lit_sb rfl | refine And.intro ?_ ?_))
    intro j hj
    by_cases e : j = q
    · subst e; first | exact h | simpa [-List.getD_eq_getElem?_getD] using h | simp_all [-List.getD_eq_getElem?_getD]
    · exact hinv j (by omega)
  · rw [hcut, firstE_none (fun j hj => hinv j (by omega))]
    exact PSub.rfl

theorem ac_r30_Check (r : Rul) : AC Tryz.prog 45 [.pv (.agg (cRul r))] [] (.pv (vint (rulE r))) [] := by
  refine AC.of_awp (T := T) T_ok hm Tryz.call45 Tryz.func45 rfl rfl rfl ?_
  conv => whnf
  repeat (any_goals (first
    | (refine ⟨fun (h : (_ : Bool) = true) => ?_, fun (h : (_ : Bool) = false) => ?_⟩ <;> (try simp only [decide_eq_true_eq, decide_eq_false_iff_not, Bool.not_eq_true', Bool.not_eq_false', Int.toNat_natCast, beq_iff_eq, decide_eq_decide, beq_eq_false_iff_ne, ne_eq, reduceCtorEq] at h) <;> (conv => whnf))
    | (refine .inl ⟨_, ac_r04_Valid r.name, ?_⟩; conv => whnf)
    | (refine And.intro (by (try simp only [Int.toNat_natCast]); omega) ?_; conv => whnf)
    | (refine And.intro (show (_ : Bool) = true from by kernel_rfl) ?_; conv => whnf)
    | (refine .inl ⟨wrap64 (by omega), ?_⟩; conv => whnf)))
  all_goals first
    | contradiction
    | (exfalso; omega)
    | exact PSub.rfl
    | (refine PSub.lit_sb ?_; (first | (simp [rulE, *]; done) | (simp_all [rulE]; done) | ((try simp only [rulE]); (repeat' split) <;> (try simp only [Bool.false_eq, Bool.true_eq, Bool.and_eq_false_iff, decide_eq_false_iff_not, Bool.and_eq_true, decide_eq_true_eq, decide_eq_decide]) <;> first | rfl | omega | (simp_all; done) | (simp_all; omega))))
    | (refine PSub.sb ?_; (first | (simp [rulE, *]; done) | (simp_all [rulE]; done) | ((try simp only [rulE]); (repeat' split) <;> (try simp only [Bool.false_eq, Bool.true_eq, Bool.and_eq_false_iff, decide_eq_false_iff_not, Bool.and_eq_true, decide_eq_true_eq, decide_eq_decide]) <;> first | rfl | omega | (simp_all; done) | (simp_all; omega))))
    | (refine PSub.sb_lit ?_; (first | (simp [rulE, *]; done) | (simp_all [rulE]; done) | ((try simp only [rulE]); (repeat' split) <;> (try simp only [Bool.false_eq, Bool.true_eq, Bool.and_eq_false_iff, decide_eq_false_iff_not, Bool.and_eq_true, decide_eq_true_eq, decide_eq_decide]) <;> first | rfl | omega | (simp_all; done) | (simp_all; omega))))
    | (refine PSub.int ?_; (first | (simp [rulE, *]; done) | (simp_all [rulE]; done) | ((try simp only [rulE]); (repeat' split) <;> (try simp only [Bool.false_eq, Bool.true_eq, Bool.and_eq_false_iff, decide_eq_false_iff_not, Bool.and_eq_true, decide_eq_true_eq, decide_eq_decide]) <;> first | rfl | omega | (simp_all; done) | (simp_all; omega))))
    | skip
  rename_i hv hp0 hp1 ho1 ho8 hd1
  have hcut : rulE r = if firstE r.on.length (fun i => trgE (r.on.getD i default)) ≠ 0 then firstE r.on.length (fun i => trgE (r.on.getD i default)) else if exE r.cond ≠ 0 then exE r.cond else firstE r.steps.length fun i => stpE (r.steps.getD i default) := by
    unfold rulE
    rw [if_neg (by rw [hv]; decide), if_neg (by omega), if_neg (by omega)]
  refine loop_k (ι := Nat) [1, 43] [1] (fun k => k ≤ r.on.length ∧ ∀ j, j < k → trgE (r.on.getD j default) = 0) (fun k => r.on.length - k) 0 (fun k => [(44, .pv (vint k))]) (fun _ => []) [] ⟨Nat.zero_le _, fun j h => absurd h (by omega)⟩ ?_ (fun k hk => ?_)
  · (repeat' (first | exact PSub.rfl | exact rfl | exact PSubs.rfl | exact trivial | exact PSub.lit_sb rfl | refine And.intro ?_ ?_))
  obtain ⟨hkn, hinv⟩ := hk
  conv => whnf
  repeat (any_goals (first
    | (refine ⟨fun (h : (_ : Bool) = true) => ?_, fun (h : (_ : Bool) = false) => ?_⟩ <;> (try simp only [decide_eq_true_eq, decide_eq_false_iff_not, Bool.not_eq_true', Bool.not_eq_false', Int.toNat_natCast, beq_iff_eq, decide_eq_decide, beq_eq_false_iff_ne, ne_eq, reduceCtorEq] at h) <;> (conv => whnf))
    | (refine .inl ⟨_, ac_r30_Trigger (r.on.getD k default), ?_⟩; conv => whnf)
    | (refine And.intro (by (try simp only [Int.toNat_natCast]); omega) ?_; conv => whnf)
    | (refine And.intro (show (_ : Bool) = true from by kernel_rfl) ?_; conv => whnf)
    | (refine .inl ⟨wrap64 (by omega), ?_⟩; conv => whnf)))
  · have e := firstE_at (n := r.on.length) (f := fun i => trgE (r.on.getD i default)) (by omega) h hinv
    rw [hcut, e, if_pos h]
    exact PSub.rfl
  · refine ⟨k + 1, [], ⟨by omega, ?_⟩, by first | omega | (dsimp only; omega), ?_⟩
    rotate_left
    · (repeat' (first | exact PSub.rfl | exact rfl | exact PSubs.rfl | exact trivial | exact PSub.lit_sb rfl | refine And.intro ?_ ?_))
    intro j hj
    by_cases e : j = k
    · subst e; first | exact h | simpa [-List.getD_eq_getElem?_getD] using h | simp_all [-List.getD_eq_getElem?_getD]
    · exact hinv j (by omega)
  have e1 := firstE_none (n := r.on.length) (f := fun i => trgE (r.on.getD i default)) (fun j hj => hinv j (by omega))
  rw [e1, if_neg (by simp)] at hcut
  clear hkn hinv
  repeat (any_goals (first
    | (refine ⟨fun (h : (_ : Bool) = true) => ?_, fun (h : (_ : Bool) = false) => ?_⟩ <;> (try simp only [decide_eq_true_eq, decide_eq_false_iff_not, Bool.not_eq_true', Bool.not_eq_false', Int.toNat_natCast, beq_iff_eq, decide_eq_decide, beq_eq_false_iff_ne, ne_eq, reduceCtorEq] at h) <;> (conv => whnf))
    | (refine .inl ⟨_, ac_r28_Check r.cond, ?_⟩; conv => whnf)
    | (refine And.intro (by (try simp only [Int.toNat_natCast]); omega) ?_; conv => whnf)
    | (refine And.intro (show (_ : Bool) = true from by kernel_rfl) ?_; conv => whnf)
    | (refine .inl ⟨wrap64 (by omega), ?_⟩; conv => whnf)))
  · rw [hcut, if_pos h]; exact PSub.rfl
  rw [if_neg (by simpa using h)] at hcut
  refine loop_k (ι := Nat) [1, 65] [1] (fun q => q ≤ r.steps.length ∧ ∀ j, j < q → stpE (r.steps.getD j default) = 0) (fun q => r.steps.length - q) 0 (fun q => [(66, .pv (vint q))]) (fun _ => []) [] ⟨Nat.zero_le _, fun j h => absurd h (by omega)⟩ ?_ (fun q hk => ?_)
  · (repeat' (first | exact PSub.rfl | exact rfl | exact PSubs.rfl | exact trivial | exact PSub.lit_sb rfl | refine And.intro ?_ ?_))
  obtain ⟨hkn, hinv⟩ := hk
  conv => whnf
  repeat (any_goals (first
    | (refine ⟨fun (h : (_ : Bool) = true) => ?_, fun (h : (_ : Bool) = false) => ?_⟩ <;> (try simp only [decide_eq_true_eq, decide_eq_false_iff_not, Bool.not_eq_true', Bool.not_eq_false', Int.toNat_natCast, beq_iff_eq, decide_eq_decide, beq_eq_false_iff_ne, ne_eq, reduceCtorEq] at h) <;> (conv => whnf))
    | (refine .inl ⟨_, ac_r30_Step (r.steps.getD q default), ?_⟩; conv => whnf)
    | (refine And.intro (by (try simp only [Int.toNat_natCast]); omega) ?_; conv => whnf)
    | (refine And.intro (show (_ : Bool) = true from by kernel_rfl) ?_; conv => whnf)
    | (refine .inl ⟨wrap64 (by omega), ?_⟩; conv => whnf)))
  · have e := firstE_at (n := r.steps.length) (f := fun i => stpE (r.steps.getD i default)) (by omega) h hinv
    rw [hcut, e]
    exact PSub.rfl
  · refine ⟨q + 1, [], ⟨by omega, ?_⟩, by first | omega | (dsimp only; omega), ?_⟩
    rotate_left
    · (repeat' (first | exact PSub.rfl | exact rfl | exact PSubs.rfl | exact trivial | exact PSub.lit_sb rfl | refine And.intro ?_ ?_))
    intro j hj
    by_cases e : j = q
    · subst e; first | exact h | simpa [-List.getD_eq_getElem?_getD] using h | simp_all [-List.getD_eq_getElem?_getD]
    · exact hinv j (by omega)
  · rw [hcut, firstE_none (fun j hj => hinv j (by omega))]
    exact PSub.rfl

theorem firstI_lt {n : Nat} {p : Nat → Bool} (h : firstI n p < n) : p (firstI n p) = true := by
  unfold firstI at h ⊢
  cases hf : (List.range n).find? p with
  | none => rw [hf] at h; exact absurd h (Nat.lt_irrefl _)
  | some i => exact List.find?_some hf

theorem homE_ids {H : Hom} (h : homE H = 0) : ∀ (j i : Nat), i < j → j < H.devices.length → (H.devices.getD i default).id < (H.devices.getD j default).id := by
  intro j
  induction j with
  | zero => intro i hi; omega
  | succ j ih =>
    intro i hi hj
    have hd := homE_dev h hj
    have h1 : (H.devices.getD j default).id < (H.devices.getD (j + 1) default).id := by
      unfold devE at hd
      split at hd
      · cases hd
      · split at hd
        · cases hd
        · rename_i h2
          have : ¬ (H.devices.getD (j + 1) default).id ≤ (H.devices.getD j default).id := fun x => h2 ⟨by omega, x⟩
          omega
    rcases Nat.lt_or_ge i j with h2 | h2
    · have := ih i h2 (by omega); omega
    · have : i = j := by omega
      subst this; exact h1
theorem devAt_uniq {H : Hom} (h : homE H = 0) {k : Nat} (hk : k < H.devices.length) : devAt H.devices (H.devices.getD k default).id = k :=
  firstI_at hk (by simp) fun j hj => by have := homE_ids h k j hj hk; simp only [decide_eq_false_iff_not]; omega
theorem firstC_at {l : List Clu} {s : ByteArray} {q : Nat} (hq : q < l.length) (h : (l.getD q default).name = s) (hf : ∀ j, j < q → (l.getD j default).name ≠ s) : firstC l s = some (l.getD q default) := by
  have : cluAt l s = q := by
    unfold cluAt
    exact firstI_at hq (by simpa using h) fun j hj => by simpa using hf j hj
  rw [firstC_eq, this, if_pos hq]

theorem ac_typing_capability (H : Hom) (id : Int) (s : ByteArray) (hH : smallH H) : AC Tryz.prog 63 [.pv (.agg (cHom H)), .pv (vint id), .pv (vstr s)] [] (.pv (.tup [.agg (cClu ((partO H id s).getD noClu)), vbool (partO H id s).isSome])) [] := by
  have hl : H.clusters.length ≤ 1048576 := hH.1.1
  have hdl : H.devices.length ≤ 1048576 := hH.2.1
  refine AC.of_awp (T := T) T_ok hm Tryz.call63 Tryz.func63 rfl rfl rfl ?_
  conv => whnf
  repeat (any_goals (first
    | (refine ⟨fun (h : (_ : Bool) = true) => ?_, fun (h : (_ : Bool) = false) => ?_⟩ <;> (try simp only [decide_eq_true_eq, decide_eq_false_iff_not, Bool.not_eq_true', Bool.not_eq_false', Int.toNat_natCast, beq_iff_eq, decide_eq_decide, beq_eq_false_iff_ne, ne_eq, reduceCtorEq] at h) <;> (conv => whnf))
    | (refine .inl ⟨_, ac_device_Check H hH, ?_⟩; conv => whnf)
    | (refine And.intro (by (try simp only [Int.toNat_natCast]); omega) ?_; conv => whnf)
    | (refine And.intro (show (_ : Bool) = true from by kernel_rfl) ?_; conv => whnf)
    | (refine .inl ⟨wrap64 (by omega), ?_⟩; conv => whnf)))
  · have e : partO H id s = none := by rw [partO, if_neg]; intro x; have := x.1; simp [findB, h] at this
    rw [e]
    refine ⟨?_, ?_⟩ <;> (conv => whnf)
    · exact noClu_cells
    · exact PSub.lit_sb rfl
  have h0 : homE H = 0 := by simpa using h
  refine loop_k (ι := Nat) [1, 2, 3, 6, 17, 18] [3, 6] (fun k => k ≤ H.devices.length ∧ ∀ j, j < k → ¬ ((H.devices.getD j default).id = id ∧ 0 ≤ idxOf (H.devices.getD j default).clusters s)) (fun k => H.devices.length - k) 0 (fun k => [(19, .pv (vint k))]) (fun _ => []) [] ⟨Nat.zero_le _, fun j h => absurd h (by omega)⟩ ?_ (fun k hk => ?_)
  · (repeat' (first | exact PSub.rfl | exact rfl | exact PSubs.rfl | exact trivial | exact PSub.lit_sb rfl | refine And.intro ?_ ?_))
  obtain ⟨hkn, hinv⟩ := hk
  conv => whnf
  have hdc : (H.devices.getD k default).clusters.length ≤ 1048576 := (hH.2.2 k).1
  repeat (any_goals (first
    | (refine ⟨fun (h : (_ : Bool) = true) => ?_, fun (h : (_ : Bool) = false) => ?_⟩ <;> (try simp only [decide_eq_true_eq, decide_eq_false_iff_not, Bool.not_eq_true', Bool.not_eq_false', Int.toNat_natCast, beq_iff_eq, decide_eq_decide, beq_eq_false_iff_ne, ne_eq, reduceCtorEq] at h) <;> (conv => whnf))
    | (refine .inl ⟨_, ac_slices_Contains_string (H.devices.getD k default).clusters 0 s hdc, ?_⟩; conv => whnf)
    | (refine And.intro (by (try simp only [Int.toNat_natCast]); omega) ?_; conv => whnf)
    | (refine And.intro (show (_ : Bool) = true from by kernel_rfl) ?_; conv => whnf)
    | (refine .inl ⟨wrap64 (by omega), ?_⟩; conv => whnf)))
  · refine ⟨k + 1, [], ⟨by omega, ?_⟩, by first | omega | (dsimp only; omega), ?_⟩
    rotate_left
    · (repeat' (first | exact PSub.rfl | exact rfl | exact PSubs.rfl | exact trivial | exact PSub.lit_sb rfl | refine And.intro ?_ ?_))
    intro j hj
    by_cases e : j = k
    · subst e; exact fun x => h x.1
    · exact hinv j (by omega)
  · refine ⟨k + 1, [], ⟨by omega, ?_⟩, by first | omega | (dsimp only; omega), ?_⟩
    rotate_left
    · (repeat' (first | exact PSub.rfl | exact rfl | exact PSubs.rfl | exact trivial | exact PSub.lit_sb rfl | refine And.intro ?_ ?_))
    intro j hj
    by_cases e : j = k
    · subst e; exact fun x => absurd x.2 (by omega)
    · exact hinv j (by omega)
  · rename_i hid
    have hk : k < H.devices.length := by omega
    have hat : devAt H.devices id = k := by rw [← hid]; exact devAt_uniq h0 hk
    have hfb : findB H id = true := by simp only [findB, Bool.and_eq_true, decide_eq_true_eq, hat]; exact ⟨h0, hk⟩
    have hfd : findD H id = H.devices.getD k default := by rw [findD, if_pos hfb, hat]
    have hp : partO H id s = firstC H.clusters s := by rw [partO, if_pos ⟨hfb, by rw [hfd]; exact h⟩]
    refine loop_k (ι := Nat) [1, 2, 3, 6, 9, 17, 18, 19, 35, 36] [3, 6, 9] (fun q => q ≤ H.clusters.length ∧ ∀ j, j < q → (H.clusters.getD j default).name ≠ s) (fun q => H.clusters.length - q) 0 (fun q => [(37, .pv (vint q))]) (fun _ => []) [] ⟨Nat.zero_le _, fun j h => absurd h (by omega)⟩ ?_ (fun q hq => ?_)
    · (repeat' (first | exact PSub.rfl | exact rfl | exact PSubs.rfl | exact trivial | exact PSub.lit_sb rfl | refine And.intro ?_ ?_))
    obtain ⟨hqn, hinq⟩ := hq
    conv => whnf
    repeat (any_goals (first
      | (refine ⟨fun (h : (_ : Bool) = true) => ?_, fun (h : (_ : Bool) = false) => ?_⟩ <;> (try simp only [decide_eq_true_eq, decide_eq_false_iff_not, Bool.not_eq_true', Bool.not_eq_false', Int.toNat_natCast, beq_iff_eq, decide_eq_decide, beq_eq_false_iff_ne, ne_eq, reduceCtorEq] at h) <;> (conv => whnf))
      | (refine And.intro (by (try simp only [Int.toNat_natCast]); omega) ?_; conv => whnf)
      | (refine And.intro (show (_ : Bool) = true from by kernel_rfl) ?_; conv => whnf)
      | (refine .inl ⟨wrap64 (by omega), ?_⟩; conv => whnf)))
    · rename_i hql
      have e := firstC_at (l := H.clusters) (s := s) (q := q) (by omega) h hinq
      rw [hp, e]
      refine ⟨?_, ?_⟩ <;> (conv => whnf)
      · exact PSub.rfl
      · exact PSub.lit_sb rfl
    · refine ⟨q + 1, [], ⟨by omega, ?_⟩, by first | omega | (dsimp only; omega), ?_⟩
      rotate_left
      · (repeat' (first | exact PSub.rfl | exact rfl | exact PSubs.rfl | exact trivial | exact PSub.lit_sb rfl | refine And.intro ?_ ?_))
      intro j hj
      by_cases e : j = q
      · subst e; exact h
      · exact hinq j (by omega)
    · exfalso
      obtain ⟨i, hi, he⟩ := idxOf_mem (l := (findD H id).clusters) (s := s) (by rw [hfd]; assumption)
      obtain ⟨c, hc⟩ := capE_some (findD_cap hfb) hi
      rw [he, firstC_eq] at hc
      split at hc
      · rename_i hlt
        have := firstI_lt hlt
        exact hinq (cluAt H.clusters s) (by omega) (of_decide_eq_true this)
      · cases hc
  · have e : partO H id s = none := by
      rw [partO, if_neg]
      intro x
      have hb := x.1
      have hx := x.2
      rw [findD, if_pos hb] at hx
      simp only [findB, Bool.and_eq_true, decide_eq_true_eq] at hb
      have hid : (H.devices.getD (devAt H.devices id) default).id = id := by
        exact of_decide_eq_true (firstI_lt hb.2)
      exact hinv _ (by omega) ⟨hid, hx⟩
    rw [e]
    refine ⟨?_, ?_⟩ <;> (conv => whnf)
    · exact noClu_cells
    · exact PSub.lit_sb rfl

end Go.Abs

namespace Go.Abs
open Go.Proofs
set_option maxRecDepth 10000

theorem part_small {H : Hom} (hH : smallH H) {id : Int} {s : ByteArray} : smallK ((partO H id s).getD noClu) := by
  cases h : partO H id s with
  | none => exact smallK_noClu
  | some c =>
    unfold partO at h
    split at h
    · exact firstC_small hH.1 h
    · cases h

theorem ac_typing_fires (s : Sco) (t : Trg) (hs : smallS s) : AC Tryz.prog 42 [.pv (.agg (cSco s)), .pv (.agg (cTrg t))] [] (.pv (vint (fireE s t))) [] := by
  have hk := part_small hs.1 (id := t.event.dev) (s := t.event.cluster)
  refine AC.of_awp (T := T) T_ok hm Tryz.call42 Tryz.func42 rfl rfl rfl ?_
  conv => whnf
  repeat (any_goals (first
    | (refine ⟨fun (h : (_ : Bool) = true) => ?_, fun (h : (_ : Bool) = false) => ?_⟩ <;> (try simp only [decide_eq_true_eq, decide_eq_false_iff_not, Bool.not_eq_true', Bool.not_eq_false', Int.toNat_natCast, beq_iff_eq, decide_eq_decide, beq_eq_false_iff_ne, ne_eq, reduceCtorEq] at h) <;> (conv => whnf))
    | (refine .inl ⟨_, ac_device_Find s.home t.key hs.1, ?_⟩; conv => whnf)
    | (refine .inl ⟨_, ac_typing_capability s.home t.event.dev t.event.cluster hs.1, ?_⟩; conv => whnf)
    | (refine .inl ⟨_, ac_slices_Contains_string ((partO s.home t.event.dev t.event.cluster).getD noClu).events 0 t.event.name hk.2.2.2.2, ?_⟩; conv => whnf)
    | (refine .inl ⟨_, ac_slices_Contains_string s.modes 0 t.name hs.2.1, ?_⟩; conv => whnf)
    | (refine And.intro (by (try simp only [Int.toNat_natCast]); omega) ?_; conv => whnf)
    | (refine And.intro (show (_ : Bool) = true from by kernel_rfl) ?_; conv => whnf)
    | (refine .inl ⟨wrap64 (by omega), ?_⟩; conv => whnf)))
  all_goals first
    | contradiction
    | (exfalso; omega)
    | exact PSub.rfl
    | (refine PSub.lit_sb ?_; (first | (simp [fireE, *]; done) | (simp_all [fireE]; done) | ((try simp only [fireE]); (repeat' split) <;> (try simp only [Bool.false_eq, Bool.true_eq, Bool.and_eq_false_iff, decide_eq_false_iff_not, Bool.and_eq_true, decide_eq_true_eq, decide_eq_decide]) <;> first | rfl | omega | (simp_all; done) | (simp_all; omega))))
    | (refine PSub.sb ?_; (first | (simp [fireE, *]; done) | (simp_all [fireE]; done) | ((try simp only [fireE]); (repeat' split) <;> (try simp only [Bool.false_eq, Bool.true_eq, Bool.and_eq_false_iff, decide_eq_false_iff_not, Bool.and_eq_true, decide_eq_true_eq, decide_eq_decide]) <;> first | rfl | omega | (simp_all; done) | (simp_all; omega))))
    | (refine PSub.sb_lit ?_; (first | (simp [fireE, *]; done) | (simp_all [fireE]; done) | ((try simp only [fireE]); (repeat' split) <;> (try simp only [Bool.false_eq, Bool.true_eq, Bool.and_eq_false_iff, decide_eq_false_iff_not, Bool.and_eq_true, decide_eq_true_eq, decide_eq_decide]) <;> first | rfl | omega | (simp_all; done) | (simp_all; omega))))
    | (refine PSub.int ?_; (first | (simp [fireE, *]; done) | (simp_all [fireE]; done) | ((try simp only [fireE]); (repeat' split) <;> (try simp only [Bool.false_eq, Bool.true_eq, Bool.and_eq_false_iff, decide_eq_false_iff_not, Bool.and_eq_true, decide_eq_true_eq, decide_eq_decide]) <;> first | rfl | omega | (simp_all; done) | (simp_all; omega))))
    | skip
theorem ac_r31_trigger (s : Sco) (t : Trg) (hs : smallS s) : AC Tryz.prog 46 [.pv (.agg (cSco s)), .pv (.agg (cTrg t))] [] (.pv (vint (fireE s t))) [] := by
  have hk := part_small hs.1 (id := t.event.dev) (s := t.event.cluster)
  refine AC.of_awp (T := T) T_ok hm Tryz.call46 Tryz.func46 rfl rfl rfl ?_
  conv => whnf
  repeat (any_goals (first
    | (refine ⟨fun (h : (_ : Bool) = true) => ?_, fun (h : (_ : Bool) = false) => ?_⟩ <;> (try simp only [decide_eq_true_eq, decide_eq_false_iff_not, Bool.not_eq_true', Bool.not_eq_false', Int.toNat_natCast, beq_iff_eq, decide_eq_decide, beq_eq_false_iff_ne, ne_eq, reduceCtorEq] at h) <;> (conv => whnf))
    | (refine .inl ⟨_, ac_r22_Find s.home t.key hs.1, ?_⟩; conv => whnf)
    | (refine .inl ⟨_, ac_r22_Part s.home t.event.dev t.event.cluster hs.1, ?_⟩; conv => whnf)
    | (refine .inl ⟨_, ac_r04_Index ((partO s.home t.event.dev t.event.cluster).getD noClu).events t.event.name hk.2.2.2.2, ?_⟩; conv => whnf)
    | (refine .inl ⟨_, ac_r04_Index s.modes t.name hs.2.1, ?_⟩; conv => whnf)
    | (refine And.intro (by (try simp only [Int.toNat_natCast]); omega) ?_; conv => whnf)
    | (refine And.intro (show (_ : Bool) = true from by kernel_rfl) ?_; conv => whnf)
    | (refine .inl ⟨wrap64 (by omega), ?_⟩; conv => whnf)))
  all_goals first
    | contradiction
    | (exfalso; omega)
    | exact PSub.rfl
    | (refine PSub.lit_sb ?_; (first | (simp [fireE, *]; done) | (simp_all [fireE]; done) | ((try simp only [fireE]); (repeat' split) <;> (try simp only [Bool.false_eq, Bool.true_eq, Bool.and_eq_false_iff, decide_eq_false_iff_not, Bool.and_eq_true, decide_eq_true_eq, decide_eq_decide]) <;> first | rfl | omega | (simp_all; done) | (simp_all; omega))))
    | (refine PSub.sb ?_; (first | (simp [fireE, *]; done) | (simp_all [fireE]; done) | ((try simp only [fireE]); (repeat' split) <;> (try simp only [Bool.false_eq, Bool.true_eq, Bool.and_eq_false_iff, decide_eq_false_iff_not, Bool.and_eq_true, decide_eq_true_eq, decide_eq_decide]) <;> first | rfl | omega | (simp_all; done) | (simp_all; omega))))
    | (refine PSub.sb_lit ?_; (first | (simp [fireE, *]; done) | (simp_all [fireE]; done) | ((try simp only [fireE]); (repeat' split) <;> (try simp only [Bool.false_eq, Bool.true_eq, Bool.and_eq_false_iff, decide_eq_false_iff_not, Bool.and_eq_true, decide_eq_true_eq, decide_eq_decide]) <;> first | rfl | omega | (simp_all; done) | (simp_all; omega))))
    | (refine PSub.int ?_; (first | (simp [fireE, *]; done) | (simp_all [fireE]; done) | ((try simp only [fireE]); (repeat' split) <;> (try simp only [Bool.false_eq, Bool.true_eq, Bool.and_eq_false_iff, decide_eq_false_iff_not, Bool.and_eq_true, decide_eq_true_eq, decide_eq_decide]) <;> first | rfl | omega | (simp_all; done) | (simp_all; omega))))
    | skip

theorem comO_none {s : Sco} {x : Stp} (h : (partO s.home x.key.dev x.key.cluster).isSome = false) : comO s x = none := by
  unfold comO
  cases hp : partO s.home x.key.dev x.key.cluster with
  | none => rfl
  | some c => rw [hp] at h; cases h
theorem comO_some {s : Sco} {x : Stp} (h : (partO s.home x.key.dev x.key.cluster).isSome = true) : comO s x = if cmdAt ((partO s.home x.key.dev x.key.cluster).getD noClu).commands x.name < ((partO s.home x.key.dev x.key.cluster).getD noClu).commands.length then some (cmdOf ((partO s.home x.key.dev x.key.cluster).getD noClu).commands x.name) else none := by
  unfold comO
  cases hp : partO s.home x.key.dev x.key.cluster with
  | none => rw [hp] at h; cases h
  | some c => rfl

theorem ac_typing_command (s : Sco) (x : Stp) (hs : smallS s) : AC Tryz.prog 88 [.pv (.agg (cSco s)), .pv (.agg (cStp x))] [] (.pv (vint (comE s x))) [] := by
  have hk := part_small hs.1 (id := x.key.dev) (s := x.key.cluster)
  refine AC.of_awp (T := T) T_ok hm Tryz.call88 Tryz.func88 rfl rfl rfl ?_
  conv => whnf
  repeat (any_goals (first
    | (refine ⟨fun (h : (_ : Bool) = true) => ?_, fun (h : (_ : Bool) = false) => ?_⟩ <;> (try simp only [decide_eq_true_eq, decide_eq_false_iff_not, Bool.not_eq_true', Bool.not_eq_false', Int.toNat_natCast, beq_iff_eq, decide_eq_decide, beq_eq_false_iff_ne, ne_eq, reduceCtorEq] at h) <;> (conv => whnf))
    | (refine .inl ⟨_, ac_typing_capability s.home x.key.dev x.key.cluster hs.1, ?_⟩; conv => whnf)
    | (refine .inl ⟨_, ac_cluster_Command ((partO s.home x.key.dev x.key.cluster).getD noClu) x.name hk, ?_⟩; conv => whnf)
    | (refine .inl ⟨_, ac_typing_typed s x.expr (cmdOf ((partO s.home x.key.dev x.key.cluster).getD noClu).commands x.name).param.kind hs, ?_⟩; conv => whnf)
    | (refine .inl ⟨_, ac_expr_Same0 x.expr, ?_⟩; conv => whnf)
    | (refine And.intro (by (try simp only [Int.toNat_natCast]); omega) ?_; conv => whnf)
    | (refine And.intro (show (_ : Bool) = true from by kernel_rfl) ?_; conv => whnf)
    | (refine .inl ⟨wrap64 (by omega), ?_⟩; conv => whnf)))
  · rw [comE, comO_none h]; exact PSub.rfl
  · rename_i h1
    rw [comE, comO_some h1, if_neg h]; exact PSub.rfl
  · rename_i h1 h2
    rw [comE, comO_some h1, if_pos h2]
    dsimp only
    rw [if_pos h]; exact PSub.rfl
  · rename_i h1 h2 h3
    rw [comE, comO_some h1, if_pos h2]
    dsimp only
    rw [if_neg (by simpa using h3), if_neg (by rw [h]; decide)]; exact PSub.rfl
  · rename_i h1 h2 h3
    rw [comE, comO_some h1, if_pos h2]
    dsimp only
    rw [if_neg (by simpa using h3), if_pos h]; exact PSub.rfl

set_option maxHeartbeats 1000000 in
theorem ac_typing_does (s : Sco) (x : Stp) (hs : smallS s) : AC Tryz.prog 44 [.pv (.agg (cSco s)), .pv (.agg (cStp x))] [] (.pv (vint (doE s x))) [] := by
  refine AC.of_awp (T := T) T_ok hm Tryz.call44 Tryz.func44 rfl rfl rfl ?_
  conv => whnf
  repeat (any_goals (first
    | (refine ⟨fun (h : (_ : Bool) = true) => ?_, fun (h : (_ : Bool) = false) => ?_⟩ <;> (try simp only [decide_eq_true_eq, decide_eq_false_iff_not, Bool.not_eq_true', Bool.not_eq_false', Int.toNat_natCast, beq_iff_eq, decide_eq_decide, beq_eq_false_iff_ne, ne_eq, reduceCtorEq] at h) <;> (conv => whnf))
    | (refine .inl ⟨_, ac_device_Find s.home x.key hs.1, ?_⟩; conv => whnf)
    | (refine .inl ⟨_, ac_typing_typed s x.expr ((findA s.home x.key).getD noAttr).kind hs, ?_⟩; conv => whnf)
    | (refine .inl ⟨_, ac_typing_command s x hs, ?_⟩; conv => whnf)
    | (refine .inl ⟨_, ac_slices_Contains_string s.scenes 0 x.name hs.2.2, ?_⟩; conv => whnf)
    | (refine .inl ⟨_, ac_slices_Contains_string s.modes 0 x.name hs.2.1, ?_⟩; conv => whnf)
    | (refine And.intro (by (try simp only [Int.toNat_natCast]); omega) ?_; conv => whnf)
    | (refine And.intro (show (_ : Bool) = true from by kernel_rfl) ?_; conv => whnf)
    | (refine .inl ⟨wrap64 (by omega), ?_⟩; conv => whnf)))
  all_goals first
    | contradiction
    | (exfalso; omega)
    | exact PSub.rfl
    | (refine PSub.lit_sb ?_; (first | (simp [doE, *]; done) | (simp_all [doE]; done) | ((try simp only [doE]); (repeat' split) <;> (try simp only [Bool.false_eq, Bool.true_eq, Bool.and_eq_false_iff, decide_eq_false_iff_not, Bool.and_eq_true, decide_eq_true_eq, decide_eq_decide]) <;> first | rfl | omega | (simp_all; done) | (simp_all; omega))))
    | (refine PSub.sb ?_; (first | (simp [doE, *]; done) | (simp_all [doE]; done) | ((try simp only [doE]); (repeat' split) <;> (try simp only [Bool.false_eq, Bool.true_eq, Bool.and_eq_false_iff, decide_eq_false_iff_not, Bool.and_eq_true, decide_eq_true_eq, decide_eq_decide]) <;> first | rfl | omega | (simp_all; done) | (simp_all; omega))))
    | (refine PSub.sb_lit ?_; (first | (simp [doE, *]; done) | (simp_all [doE]; done) | ((try simp only [doE]); (repeat' split) <;> (try simp only [Bool.false_eq, Bool.true_eq, Bool.and_eq_false_iff, decide_eq_false_iff_not, Bool.and_eq_true, decide_eq_true_eq, decide_eq_decide]) <;> first | rfl | omega | (simp_all; done) | (simp_all; omega))))
    | (refine PSub.int ?_; (first | (simp [doE, *]; done) | (simp_all [doE]; done) | ((try simp only [doE]); (repeat' split) <;> (try simp only [Bool.false_eq, Bool.true_eq, Bool.and_eq_false_iff, decide_eq_false_iff_not, Bool.and_eq_true, decide_eq_true_eq, decide_eq_decide]) <;> first | rfl | omega | (simp_all; done) | (simp_all; omega))))
    | skip

theorem ac_r31_command (s : Sco) (x : Stp) (hs : smallS s) : AC Tryz.prog 91 [.pv (.agg (cSco s)), .pv (.agg (cStp x))] [] (.pv (.tup [.agg (cCmd ((comO s x).getD noCmd)), vbool (comO s x).isSome])) [] := by
  have hk := part_small hs.1 (id := x.key.dev) (s := x.key.cluster)
  refine AC.of_awp (T := T) T_ok hm Tryz.call91 Tryz.func91 rfl rfl rfl ?_
  conv => whnf
  repeat (any_goals (first
    | (refine ⟨fun (h : (_ : Bool) = true) => ?_, fun (h : (_ : Bool) = false) => ?_⟩ <;> (try simp only [decide_eq_true_eq, decide_eq_false_iff_not, Bool.not_eq_true', Bool.not_eq_false', Int.toNat_natCast, beq_iff_eq, decide_eq_decide, beq_eq_false_iff_ne, ne_eq, reduceCtorEq] at h) <;> (conv => whnf))
    | (refine .inl ⟨_, ac_r22_Part s.home x.key.dev x.key.cluster hs.1, ?_⟩; conv => whnf)
    | (refine .inl ⟨_, ac_r21_Command ((partO s.home x.key.dev x.key.cluster).getD noClu) x.name hk, ?_⟩; conv => whnf)
    | (refine And.intro (by (try simp only [Int.toNat_natCast]); omega) ?_; conv => whnf)
    | (refine And.intro (show (_ : Bool) = true from by kernel_rfl) ?_; conv => whnf)
    | (refine .inl ⟨wrap64 (by omega), ?_⟩; conv => whnf)))
  · rw [comO_none h]
    refine ⟨?_, ?_⟩ <;> (conv => whnf)
    · refine PSub.agg ?_
      repeat' (first | exact PSub.rfl | exact PSub.nil_ro _ _ | exact PSub.lit_sb rfl | exact trivial | exact all_lt_zero | refine PSub.agg ?_ | refine PSub.ro rfl ?_ | refine all_lt_succ ?_ ?_ | refine And.intro ?_ ?_)
    · exact PSub.lit_sb rfl
  · rw [comO_some h]
    by_cases c : cmdAt ((partO s.home x.key.dev x.key.cluster).getD noClu).commands x.name < ((partO s.home x.key.dev x.key.cluster).getD noClu).commands.length
    · rw [if_pos c]
      refine ⟨?_, ?_⟩ <;> (conv => whnf)
      · exact PSub.rfl
      · exact PSub.sb (decide_eq_true c)
    · rw [if_neg c]
      refine ⟨?_, ?_⟩ <;> (conv => whnf)
      · rw [show cmdOf ((partO s.home x.key.dev x.key.cluster).getD noClu).commands x.name = noCmd from if_neg c]; exact PSub.rfl
      · exact PSub.sb (decide_eq_false c)

set_option maxHeartbeats 1000000 in
theorem ac_r31_step (s : Sco) (x : Stp) (hs : smallS s) : AC Tryz.prog 48 [.pv (.agg (cSco s)), .pv (.agg (cStp x))] [] (.pv (vint (doE s x))) [] := by
  have hcom : comE s x = if (comO s x).isSome = false then 8 else if ((comO s x).getD noCmd).param.kind ≠ 0 then wantK s x.expr ((comO s x).getD noCmd).param.kind else if zeroX x.expr = true then 0 else 1 := by
    unfold comE
    cases comO s x <;> rfl
  refine AC.of_awp (T := T) T_ok hm Tryz.call48 Tryz.func48 rfl rfl rfl ?_
  conv => whnf
  repeat (any_goals (first
    | (refine ⟨fun (h : (_ : Bool) = true) => ?_, fun (h : (_ : Bool) = false) => ?_⟩ <;> (try simp only [decide_eq_true_eq, decide_eq_false_iff_not, Bool.not_eq_true', Bool.not_eq_false', Int.toNat_natCast, beq_iff_eq, decide_eq_decide, beq_eq_false_iff_ne, ne_eq, reduceCtorEq] at h) <;> (conv => whnf))
    | (refine .inl ⟨_, ac_r22_Find s.home x.key hs.1, ?_⟩; conv => whnf)
    | (refine .inl ⟨_, ac_r31_wants s x.expr ((findA s.home x.key).getD noAttr).kind hs, ?_⟩; conv => whnf)
    | (refine .inl ⟨_, ac_r31_command s x hs, ?_⟩; conv => whnf)
    | (refine .inl ⟨_, ac_r31_wants s x.expr ((comO s x).getD noCmd).param.kind hs, ?_⟩; conv => whnf)
    | (refine .inl ⟨_, ac_r28_Same0 x.expr, ?_⟩; conv => whnf)
    | (refine .inl ⟨_, ac_r04_Index s.scenes x.name hs.2.2, ?_⟩; conv => whnf)
    | (refine .inl ⟨_, ac_r04_Index s.modes x.name hs.2.1, ?_⟩; conv => whnf)
    | (refine And.intro (by (try simp only [Int.toNat_natCast]); omega) ?_; conv => whnf)
    | (refine And.intro (show (_ : Bool) = true from by kernel_rfl) ?_; conv => whnf)
    | (refine .inl ⟨wrap64 (by omega), ?_⟩; conv => whnf)))
  all_goals first
    | contradiction
    | (exfalso; omega)
    | exact PSub.rfl
    | (refine PSub.lit_sb ?_; (first | (simp [doE, hcom, *]; done) | (simp_all [doE, hcom]; done) | ((try simp only [doE, hcom]); (repeat' split) <;> (try simp only [Bool.false_eq, Bool.true_eq, Bool.and_eq_false_iff, decide_eq_false_iff_not, Bool.and_eq_true, decide_eq_true_eq, decide_eq_decide]) <;> first | rfl | omega | (simp_all; done) | (simp_all; omega))))
    | (refine PSub.sb ?_; (first | (simp [doE, hcom, *]; done) | (simp_all [doE, hcom]; done) | ((try simp only [doE, hcom]); (repeat' split) <;> (try simp only [Bool.false_eq, Bool.true_eq, Bool.and_eq_false_iff, decide_eq_false_iff_not, Bool.and_eq_true, decide_eq_true_eq, decide_eq_decide]) <;> first | rfl | omega | (simp_all; done) | (simp_all; omega))))
    | (refine PSub.sb_lit ?_; (first | (simp [doE, hcom, *]; done) | (simp_all [doE, hcom]; done) | ((try simp only [doE, hcom]); (repeat' split) <;> (try simp only [Bool.false_eq, Bool.true_eq, Bool.and_eq_false_iff, decide_eq_false_iff_not, Bool.and_eq_true, decide_eq_true_eq, decide_eq_decide]) <;> first | rfl | omega | (simp_all; done) | (simp_all; omega))))
    | (refine PSub.int ?_; (first | (simp [doE, hcom, *]; done) | (simp_all [doE, hcom]; done) | ((try simp only [doE, hcom]); (repeat' split) <;> (try simp only [Bool.false_eq, Bool.true_eq, Bool.and_eq_false_iff, decide_eq_false_iff_not, Bool.and_eq_true, decide_eq_true_eq, decide_eq_decide]) <;> first | rfl | omega | (simp_all; done) | (simp_all; omega))))
    | skip

theorem rulE_lens {r : Rul} (h : rulE r = 0) : r.on.length ≤ 8 ∧ r.steps.length ≤ 8 := by
  unfold rulE at h
  split at h
  · cases h
  · split at h
    · cases h
    · split at h
      · cases h
      · omega

theorem ac_typing_Rule (s : Sco) (r : Rul) (hs : smallS s) : AC Tryz.prog 18 [.pv (.agg (cSco s)), .pv (.agg (cRul r))] [] (.pv (vint (ruleE s r))) [] := by
  refine AC.of_awp (T := T) T_ok hm Tryz.call18 Tryz.func18 rfl rfl rfl ?_
  conv => whnf
  repeat (any_goals (first
    | (refine ⟨fun (h : (_ : Bool) = true) => ?_, fun (h : (_ : Bool) = false) => ?_⟩ <;> (try simp only [decide_eq_true_eq, decide_eq_false_iff_not, Bool.not_eq_true', Bool.not_eq_false', Int.toNat_natCast, beq_iff_eq, decide_eq_decide, beq_eq_false_iff_ne, ne_eq, reduceCtorEq] at h) <;> (conv => whnf))
    | (refine .inl ⟨_, ac_print_Check r, ?_⟩; conv => whnf)
    | (refine And.intro (by (try simp only [Int.toNat_natCast]); omega) ?_; conv => whnf)
    | (refine And.intro (show (_ : Bool) = true from by kernel_rfl) ?_; conv => whnf)
    | (refine .inl ⟨wrap64 (by omega), ?_⟩; conv => whnf)))
  · rw [ruleE, if_pos h]; exact PSub.rfl
  have hr0 : rulE r = 0 := by simpa using h
  have h8 : r.on.length ≤ 8 ∧ r.steps.length ≤ 8 := rulE_lens hr0
  have hcut : ruleE s r = if firstE r.on.length (fun i => fireE s (r.on.getD i default)) ≠ 0 then firstE r.on.length (fun i => fireE s (r.on.getD i default)) else if wantK s r.cond 1 ≠ 0 then wantK s r.cond 1 else firstE r.steps.length fun i => doE s (r.steps.getD i default) := by
    unfold ruleE
    rw [if_neg (by simpa using h)]
  clear h
  refine loop_k (ι := Nat) [2, 3, 19, 20] [2, 3] (fun k => k ≤ r.on.length ∧ ∀ j, j < k → fireE s (r.on.getD j default) = 0) (fun k => r.on.length - k) 0 (fun k => [(21, .pv (vint k))]) (fun _ => []) [] ⟨Nat.zero_le _, fun j h => absurd h (by omega)⟩ ?_ (fun k hk => ?_)
  · (repeat' (first | exact PSub.rfl | exact rfl | exact PSubs.rfl | exact trivial | exact PSub.lit_sb rfl | refine And.intro ?_ ?_))
  obtain ⟨hkn, hinv⟩ := hk
  conv => whnf
  repeat (any_goals (first
    | (refine ⟨fun (h : (_ : Bool) = true) => ?_, fun (h : (_ : Bool) = false) => ?_⟩ <;> (try simp only [decide_eq_true_eq, decide_eq_false_iff_not, Bool.not_eq_true', Bool.not_eq_false', Int.toNat_natCast, beq_iff_eq, decide_eq_decide, beq_eq_false_iff_ne, ne_eq, reduceCtorEq] at h) <;> (conv => whnf))
    | (refine .inl ⟨_, ac_typing_fires s (r.on.getD k default) hs, ?_⟩; conv => whnf)
    | (refine And.intro (by (try simp only [Int.toNat_natCast]); omega) ?_; conv => whnf)
    | (refine And.intro (show (_ : Bool) = true from by kernel_rfl) ?_; conv => whnf)
    | (refine .inl ⟨wrap64 (by omega), ?_⟩; conv => whnf)))
  · have e := firstE_at (n := r.on.length) (f := fun i => fireE s (r.on.getD i default)) (by omega) h hinv
    rw [hcut, e, if_pos h]
    exact PSub.rfl
  · refine ⟨k + 1, [], ⟨by omega, ?_⟩, by first | omega | (dsimp only; omega), ?_⟩
    rotate_left
    · (repeat' (first | exact PSub.rfl | exact rfl | exact PSubs.rfl | exact trivial | exact PSub.lit_sb rfl | refine And.intro ?_ ?_))
    intro j hj
    by_cases e : j = k
    · subst e; first | exact h | simpa [-List.getD_eq_getElem?_getD] using h | simp_all [-List.getD_eq_getElem?_getD]
    · exact hinv j (by omega)
  have e1 := firstE_none (n := r.on.length) (f := fun i => fireE s (r.on.getD i default)) (fun j hj => hinv j (by omega))
  rw [e1, if_neg (by simp)] at hcut
  clear hkn hinv
  repeat (any_goals (first
    | (refine ⟨fun (h : (_ : Bool) = true) => ?_, fun (h : (_ : Bool) = false) => ?_⟩ <;> (try simp only [decide_eq_true_eq, decide_eq_false_iff_not, Bool.not_eq_true', Bool.not_eq_false', Int.toNat_natCast, beq_iff_eq, decide_eq_decide, beq_eq_false_iff_ne, ne_eq, reduceCtorEq] at h) <;> (conv => whnf))
    | (refine .inl ⟨_, ac_typing_typed s r.cond 1 hs, ?_⟩; conv => whnf)
    | (refine And.intro (by (try simp only [Int.toNat_natCast]); omega) ?_; conv => whnf)
    | (refine And.intro (show (_ : Bool) = true from by kernel_rfl) ?_; conv => whnf)
    | (refine .inl ⟨wrap64 (by omega), ?_⟩; conv => whnf)))
  · rw [hcut, if_pos h]; exact PSub.rfl
  rw [if_neg (by simpa using h)] at hcut
  refine loop_k (ι := Nat) [2, 3, 40, 41] [2, 3] (fun q => q ≤ r.steps.length ∧ ∀ j, j < q → doE s (r.steps.getD j default) = 0) (fun q => r.steps.length - q) 0 (fun q => [(42, .pv (vint q))]) (fun _ => []) [] ⟨Nat.zero_le _, fun j h => absurd h (by omega)⟩ ?_ (fun q hk => ?_)
  · (repeat' (first | exact PSub.rfl | exact rfl | exact PSubs.rfl | exact trivial | exact PSub.lit_sb rfl | refine And.intro ?_ ?_))
  obtain ⟨hkn, hinv⟩ := hk
  conv => whnf
  repeat (any_goals (first
    | (refine ⟨fun (h : (_ : Bool) = true) => ?_, fun (h : (_ : Bool) = false) => ?_⟩ <;> (try simp only [decide_eq_true_eq, decide_eq_false_iff_not, Bool.not_eq_true', Bool.not_eq_false', Int.toNat_natCast, beq_iff_eq, decide_eq_decide, beq_eq_false_iff_ne, ne_eq, reduceCtorEq] at h) <;> (conv => whnf))
    | (refine .inl ⟨_, ac_typing_does s (r.steps.getD q default) hs, ?_⟩; conv => whnf)
    | (refine And.intro (by (try simp only [Int.toNat_natCast]); omega) ?_; conv => whnf)
    | (refine And.intro (show (_ : Bool) = true from by kernel_rfl) ?_; conv => whnf)
    | (refine .inl ⟨wrap64 (by omega), ?_⟩; conv => whnf)))
  · have e := firstE_at (n := r.steps.length) (f := fun i => doE s (r.steps.getD i default)) (by omega) h hinv
    rw [hcut, e]
    exact PSub.rfl
  · refine ⟨q + 1, [], ⟨by omega, ?_⟩, by first | omega | (dsimp only; omega), ?_⟩
    rotate_left
    · (repeat' (first | exact PSub.rfl | exact rfl | exact PSubs.rfl | exact trivial | exact PSub.lit_sb rfl | refine And.intro ?_ ?_))
    intro j hj
    by_cases e : j = q
    · subst e; first | exact h | simpa [-List.getD_eq_getElem?_getD] using h | simp_all [-List.getD_eq_getElem?_getD]
    · exact hinv j (by omega)
  · rw [hcut, firstE_none (fun j hj => hinv j (by omega))]
    exact PSub.rfl

theorem ac_r31_Rule (s : Sco) (r : Rul) (hs : smallS s) : AC Tryz.prog 19 [.pv (.agg (cSco s)), .pv (.agg (cRul r))] [] (.pv (vint (ruleE s r))) [] := by
  refine AC.of_awp (T := T) T_ok hm Tryz.call19 Tryz.func19 rfl rfl rfl ?_
  conv => whnf
  repeat (any_goals (first
    | (refine ⟨fun (h : (_ : Bool) = true) => ?_, fun (h : (_ : Bool) = false) => ?_⟩ <;> (try simp only [decide_eq_true_eq, decide_eq_false_iff_not, Bool.not_eq_true', Bool.not_eq_false', Int.toNat_natCast, beq_iff_eq, decide_eq_decide, beq_eq_false_iff_ne, ne_eq, reduceCtorEq] at h) <;> (conv => whnf))
    | (refine .inl ⟨_, ac_r30_Check r, ?_⟩; conv => whnf)
    | (refine And.intro (by (try simp only [Int.toNat_natCast]); omega) ?_; conv => whnf)
    | (refine And.intro (show (_ : Bool) = true from by kernel_rfl) ?_; conv => whnf)
    | (refine .inl ⟨wrap64 (by omega), ?_⟩; conv => whnf)))
  · rw [ruleE, if_pos h]; exact PSub.rfl
  have hr0 : rulE r = 0 := by simpa using h
  have h8 : r.on.length ≤ 8 ∧ r.steps.length ≤ 8 := rulE_lens hr0
  have hcut : ruleE s r = if firstE r.on.length (fun i => fireE s (r.on.getD i default)) ≠ 0 then firstE r.on.length (fun i => fireE s (r.on.getD i default)) else if wantK s r.cond 1 ≠ 0 then wantK s r.cond 1 else firstE r.steps.length fun i => doE s (r.steps.getD i default) := by
    unfold ruleE
    rw [if_neg (by simpa using h)]
  clear h
  refine loop_k (ι := Nat) [2, 3] [2, 3] (fun k => k ≤ r.on.length ∧ ∀ j, j < k → fireE s (r.on.getD j default) = 0) (fun k => r.on.length - k) 0 (fun k => [(6, .pv (vint k))]) (fun _ => []) [] ⟨Nat.zero_le _, fun j h => absurd h (by omega)⟩ ?_ (fun k hk => ?_)
  · (repeat' (first | exact PSub.rfl | exact rfl | exact PSubs.rfl | exact trivial | exact PSub.lit_sb rfl | refine And.intro ?_ ?_))
  obtain ⟨hkn, hinv⟩ := hk
  conv => whnf
  repeat (any_goals (first
    | (refine ⟨fun (h : (_ : Bool) = true) => ?_, fun (h : (_ : Bool) = false) => ?_⟩ <;> (try simp only [decide_eq_true_eq, decide_eq_false_iff_not, Bool.not_eq_true', Bool.not_eq_false', Int.toNat_natCast, beq_iff_eq, decide_eq_decide, beq_eq_false_iff_ne, ne_eq, reduceCtorEq] at h) <;> (conv => whnf))
    | (refine .inl ⟨_, ac_r31_trigger s (r.on.getD k default) hs, ?_⟩; conv => whnf)
    | (refine And.intro (by (try simp only [Int.toNat_natCast]); omega) ?_; conv => whnf)
    | (refine And.intro (show (_ : Bool) = true from by kernel_rfl) ?_; conv => whnf)
    | (refine .inl ⟨wrap64 (by omega), ?_⟩; conv => whnf)))
  · have e := firstE_at (n := r.on.length) (f := fun i => fireE s (r.on.getD i default)) (by omega) h hinv
    rw [hcut, e, if_pos h]
    exact PSub.rfl
  · refine ⟨k + 1, [], ⟨by omega, ?_⟩, by first | omega | (dsimp only; omega), ?_⟩
    rotate_left
    · (repeat' (first | exact PSub.rfl | exact rfl | exact PSubs.rfl | exact trivial | exact PSub.lit_sb rfl | refine And.intro ?_ ?_))
    intro j hj
    by_cases e : j = k
    · subst e; first | exact h | simpa [-List.getD_eq_getElem?_getD] using h | simp_all [-List.getD_eq_getElem?_getD]
    · exact hinv j (by omega)
  have e1 := firstE_none (n := r.on.length) (f := fun i => fireE s (r.on.getD i default)) (fun j hj => hinv j (by omega))
  rw [e1, if_neg (by simp)] at hcut
  clear hkn hinv
  repeat (any_goals (first
    | (refine ⟨fun (h : (_ : Bool) = true) => ?_, fun (h : (_ : Bool) = false) => ?_⟩ <;> (try simp only [decide_eq_true_eq, decide_eq_false_iff_not, Bool.not_eq_true', Bool.not_eq_false', Int.toNat_natCast, beq_iff_eq, decide_eq_decide, beq_eq_false_iff_ne, ne_eq, reduceCtorEq] at h) <;> (conv => whnf))
    | (refine .inl ⟨_, ac_r31_wants s r.cond 1 hs, ?_⟩; conv => whnf)
    | (refine And.intro (by (try simp only [Int.toNat_natCast]); omega) ?_; conv => whnf)
    | (refine And.intro (show (_ : Bool) = true from by kernel_rfl) ?_; conv => whnf)
    | (refine .inl ⟨wrap64 (by omega), ?_⟩; conv => whnf)))
  · rw [hcut, if_pos h]; exact PSub.rfl
  rw [if_neg (by simpa using h)] at hcut
  refine loop_k (ι := Nat) [2, 3] [2, 3] (fun q => q ≤ r.steps.length ∧ ∀ j, j < q → doE s (r.steps.getD j default) = 0) (fun q => r.steps.length - q) 0 (fun q => [(9, .pv (vint q))]) (fun _ => []) [] ⟨Nat.zero_le _, fun j h => absurd h (by omega)⟩ ?_ (fun q hk => ?_)
  · (repeat' (first | exact PSub.rfl | exact rfl | exact PSubs.rfl | exact trivial | exact PSub.lit_sb rfl | refine And.intro ?_ ?_))
  obtain ⟨hkn, hinv⟩ := hk
  conv => whnf
  repeat (any_goals (first
    | (refine ⟨fun (h : (_ : Bool) = true) => ?_, fun (h : (_ : Bool) = false) => ?_⟩ <;> (try simp only [decide_eq_true_eq, decide_eq_false_iff_not, Bool.not_eq_true', Bool.not_eq_false', Int.toNat_natCast, beq_iff_eq, decide_eq_decide, beq_eq_false_iff_ne, ne_eq, reduceCtorEq] at h) <;> (conv => whnf))
    | (refine .inl ⟨_, ac_r31_step s (r.steps.getD q default) hs, ?_⟩; conv => whnf)
    | (refine And.intro (by (try simp only [Int.toNat_natCast]); omega) ?_; conv => whnf)
    | (refine And.intro (show (_ : Bool) = true from by kernel_rfl) ?_; conv => whnf)
    | (refine .inl ⟨wrap64 (by omega), ?_⟩; conv => whnf)))
  · have e := firstE_at (n := r.steps.length) (f := fun i => doE s (r.steps.getD i default)) (by omega) h hinv
    rw [hcut, e]
    exact PSub.rfl
  · refine ⟨q + 1, [], ⟨by omega, ?_⟩, by first | omega | (dsimp only; omega), ?_⟩
    rotate_left
    · (repeat' (first | exact PSub.rfl | exact rfl | exact PSubs.rfl | exact trivial | exact PSub.lit_sb rfl | refine And.intro ?_ ?_))
    intro j hj
    by_cases e : j = q
    · subst e; first | exact h | simpa [-List.getD_eq_getElem?_getD] using h | simp_all [-List.getD_eq_getElem?_getD]
    · exact hinv j (by omega)
  · rw [hcut, firstE_none (fun j hj => hinv j (by omega))]
    exact PSub.rfl

theorem rname_getD {l : List Rul} {k : Nat} (h : k < l.length) : (l.map Rul.name).getD k default = (l.getD k default).name := by
  simp [List.getD, h]
theorem atE_dup {s : Sco} {l : List Rul} {k : Nat} (hk : k < l.length) (h : ruleE s (l.getD k default) = 0) : atE s l k = if memN (l.map Rul.name) k (l.getD k default).name = true then 9 else 0 := by
  have := memN_idx (l := l.map Rul.name) (k := k) (by simpa using hk)
  rw [rname_getD hk] at this
  rw [atE, if_neg (by simpa using h)]
  by_cases c : memN (l.map Rul.name) k (l.getD k default).name = true
  · rw [if_pos c, if_pos (this.2 c)]
  · rw [if_neg c, if_neg (fun x => c (this.1 x))]

set_option maxHeartbeats 1000000 in
theorem ac_typing_Rules (s : Sco) (l : List Rul) (hs : smallS s) : AC Tryz.prog 20 [.pv (.agg (cSco s)), .pv (roL 15 cRul l)] [] (.pv (.tup [vint (rulesE s l).1, vint (rulesE s l).2])) [] := by
  refine AC.of_awp (T := T) T_ok hm Tryz.call20 Tryz.func20 rfl rfl rfl ?_
  conv => whnf
  refine ⟨fun h => ?_, fun h => ?_⟩ <;> (try simp only [decide_eq_true_eq, decide_eq_false_iff_not, Bool.not_eq_true', Bool.not_eq_false', Int.toNat_natCast, beq_iff_eq, decide_eq_decide, beq_eq_false_iff_ne, ne_eq, reduceCtorEq] at h) <;> (conv => whnf)
  · rw [rulesE, if_pos (by omega)]
    repeat (any_goals (first
      | (refine ⟨fun (h : (_ : Bool) = true) => ?_, fun (h : (_ : Bool) = false) => ?_⟩ <;> (try simp only [decide_eq_true_eq, decide_eq_false_iff_not, Bool.not_eq_true', Bool.not_eq_false', Int.toNat_natCast, beq_iff_eq, decide_eq_decide, beq_eq_false_iff_ne, ne_eq, reduceCtorEq] at h) <;> (conv => whnf))
      | (refine And.intro (by (try simp only [Int.toNat_natCast]); omega) ?_; conv => whnf)
      | (refine And.intro (show (_ : Bool) = true from by kernel_rfl) ?_; conv => whnf)
      | (refine .inl ⟨wrap64 (by omega), ?_⟩; conv => whnf)))
    refine ⟨?_, ?_⟩ <;> (conv => whnf)
    all_goals exact PSub.rfl
  have h40 : ¬ 40 < l.length := by omega
  refine loop_k (ι := Nat) [2, 14, 15] [2] (fun k => k ≤ l.length ∧ ∀ j, j < k → atE s l j = 0) (fun k => l.length - k) 0 (fun k => [(6, .ref 13), (16, .pv (vint k))]) (fun k => [(13, .map (.one .str) (nameLook (l.map Rul.name) k))]) [] ⟨Nat.zero_le _, fun j h => absurd h (by omega)⟩ ?_ (fun k hk => ?_)
  · (repeat' (first | exact PSub.rfl | exact rfl | exact PSubs.rfl | exact trivial | exact PSub.lit_sb rfl | refine And.intro ?_ ?_)); all_goals (rintro _ ⟨s, rfl⟩; simp [nameLook, memN])
  obtain ⟨hkn, hinv⟩ := hk
  conv => whnf
  repeat (any_goals (first
    | (refine ⟨fun (h : (_ : Bool) = true) => ?_, fun (h : (_ : Bool) = false) => ?_⟩ <;> (try simp only [decide_eq_true_eq, decide_eq_false_iff_not, Bool.not_eq_true', Bool.not_eq_false', Int.toNat_natCast, beq_iff_eq, decide_eq_decide, beq_eq_false_iff_ne, ne_eq, reduceCtorEq] at h) <;> (conv => whnf))
    | (refine .inl ⟨_, ac_typing_Rule s (l.getD k default) hs, ?_⟩; conv => whnf)
    | (refine And.intro (by (try simp only [Int.toNat_natCast]); omega) ?_; conv => whnf)
    | (refine And.intro (show (_ : Bool) = true from by kernel_rfl) ?_; conv => whnf)
    | (refine .inl ⟨wrap64 (by omega), ?_⟩; conv => whnf)))
  · have e : atE s l k = ruleE s (l.getD k default) := by rw [atE, if_pos h]
    rw [rulesE_at (k := k) h40 (by omega) (by rw [e]; exact h) hinv, e]
    refine ⟨?_, ?_⟩ <;> (conv => whnf)
    all_goals exact PSub.rfl
  · have hk : k < l.length := by omega
    have hat := atE_dup (s := s) hk h
    refine ⟨fun p hp => ?_, fun hp => ?_⟩
    · change (if memN (l.map Rul.name) k (l.getD k default).name = true then some (PV.val (.bool true)) else none) = some p at hp
      by_cases hm : memN (l.map Rul.name) k (l.getD k default).name = true
      · rw [if_pos hm] at hp; cases hp
        rw [if_pos hm] at hat
        conv => whnf
        rw [rulesE_at (k := k) h40 hk (by rw [hat]; decide) hinv, hat]
        repeat (any_goals (first
          | (refine ⟨fun (h : (_ : Bool) = true) => ?_, fun (h : (_ : Bool) = false) => ?_⟩ <;> (try simp only [decide_eq_true_eq, decide_eq_false_iff_not, Bool.not_eq_true', Bool.not_eq_false', Int.toNat_natCast, beq_iff_eq, decide_eq_decide, beq_eq_false_iff_ne, ne_eq, reduceCtorEq] at h) <;> (conv => whnf))
          | (refine And.intro (by (try simp only [Int.toNat_natCast]); omega) ?_; conv => whnf)
          | (refine And.intro (show (_ : Bool) = true from by kernel_rfl) ?_; conv => whnf)
          | (refine .inl ⟨wrap64 (by omega), ?_⟩; conv => whnf)))
        refine ⟨?_, ?_⟩ <;> (conv => whnf)
        all_goals exact PSub.rfl
      · rw [if_neg hm] at hp; cases hp
    · change (if memN (l.map Rul.name) k (l.getD k default).name = true then some (PV.val (.bool true)) else none) = none at hp
      have hm : ¬ memN (l.map Rul.name) k (l.getD k default).name = true := fun h => by rw [if_pos h] at hp; cases hp
      rw [if_neg hm] at hat
      conv => whnf
      repeat (any_goals (first
        | (refine ⟨fun (h : (_ : Bool) = true) => ?_, fun (h : (_ : Bool) = false) => ?_⟩ <;> (try simp only [decide_eq_true_eq, decide_eq_false_iff_not, Bool.not_eq_true', Bool.not_eq_false', Int.toNat_natCast, beq_iff_eq, decide_eq_decide, beq_eq_false_iff_ne, ne_eq, reduceCtorEq] at h) <;> (conv => whnf))
        | (refine And.intro (by (try simp only [Int.toNat_natCast]); omega) ?_; conv => whnf)
        | (refine And.intro (show (_ : Bool) = true from by kernel_rfl) ?_; conv => whnf)
        | (refine .inl ⟨wrap64 (by omega), ?_⟩; conv => whnf)))
      refine ⟨k + 1, [], ⟨by omega, fun j hj => ?_⟩, by first | omega | (dsimp only; omega), ?_⟩
      (repeat' (first | exact PSub.rfl | exact rfl | exact PSubs.rfl | exact trivial | exact PSub.lit_sb rfl | refine And.intro ?_ ?_))
      · by_cases e : j = k
        · subst e; exact hat
        · exact hinv j (by omega)
      rintro _ ⟨s, rfl⟩
      simp only [Int.toNat_natCast, lookPut, nameLook, memN_succ, Value.string.injEq, rname_getD hk]
      by_cases e : s = (l.getD k default).name
      · rw [if_pos e, if_pos (by rw [decide_eq_true e.symm, Bool.or_true])]; rfl
      · rw [if_neg e, decide_eq_false (fun x => e x.symm), Bool.or_false]
  · rw [rulesE_none h40 fun j hj => hinv j (by omega)]
    refine ⟨?_, ?_⟩ <;> (conv => whnf)
    all_goals exact PSub.rfl

set_option maxHeartbeats 1000000 in
theorem ac_r31_Rules (s : Sco) (l : List Rul) (hs : smallS s) : AC Tryz.prog 21 [.pv (.agg (cSco s)), .pv (roL 15 cRul l)] [] (.pv (.tup [vint (rulesE s l).1, vint (rulesE s l).2])) [] := by
  refine AC.of_awp (T := T) T_ok hm Tryz.call21 Tryz.func21 rfl rfl rfl ?_
  conv => whnf
  refine ⟨fun h => ?_, fun h => ?_⟩ <;> (try simp only [decide_eq_true_eq, decide_eq_false_iff_not, Bool.not_eq_true', Bool.not_eq_false', Int.toNat_natCast, beq_iff_eq, decide_eq_decide, beq_eq_false_iff_ne, ne_eq, reduceCtorEq] at h) <;> (conv => whnf)
  · rw [rulesE, if_pos (by omega)]
    repeat (any_goals (first
      | (refine ⟨fun (h : (_ : Bool) = true) => ?_, fun (h : (_ : Bool) = false) => ?_⟩ <;> (try simp only [decide_eq_true_eq, decide_eq_false_iff_not, Bool.not_eq_true', Bool.not_eq_false', Int.toNat_natCast, beq_iff_eq, decide_eq_decide, beq_eq_false_iff_ne, ne_eq, reduceCtorEq] at h) <;> (conv => whnf))
      | (refine And.intro (by (try simp only [Int.toNat_natCast]); omega) ?_; conv => whnf)
      | (refine And.intro (show (_ : Bool) = true from by kernel_rfl) ?_; conv => whnf)
      | (refine .inl ⟨wrap64 (by omega), ?_⟩; conv => whnf)))
    refine ⟨?_, ?_⟩ <;> (conv => whnf)
    all_goals exact PSub.rfl
  have h40 : ¬ 40 < l.length := by omega
  refine loop_k (ι := Nat) [1, 2] [2] (fun k => k ≤ l.length ∧ ∀ j, j < k → atE s l j = 0) (fun k => l.length - k) 0 (fun k => [(6, .pv (vint k))]) (fun _ => []) [] ⟨Nat.zero_le _, fun j h => absurd h (by omega)⟩ ?_ (fun k hk => ?_)
  · (repeat' (first | exact PSub.rfl | exact rfl | exact PSubs.rfl | exact trivial | exact PSub.lit_sb rfl | refine And.intro ?_ ?_))
  obtain ⟨hkn, hinv⟩ := hk
  conv => whnf
  repeat (any_goals (first
    | (refine ⟨fun (h : (_ : Bool) = true) => ?_, fun (h : (_ : Bool) = false) => ?_⟩ <;> (try simp only [decide_eq_true_eq, decide_eq_false_iff_not, Bool.not_eq_true', Bool.not_eq_false', Int.toNat_natCast, beq_iff_eq, decide_eq_decide, beq_eq_false_iff_ne, ne_eq, reduceCtorEq] at h) <;> (conv => whnf))
    | (refine .inl ⟨_, ac_r31_Rule s (l.getD k default) hs, ?_⟩; conv => whnf)
    | (refine And.intro (by (try simp only [Int.toNat_natCast]); omega) ?_; conv => whnf)
    | (refine And.intro (show (_ : Bool) = true from by kernel_rfl) ?_; conv => whnf)
    | (refine .inl ⟨wrap64 (by omega), ?_⟩; conv => whnf)))
  · have e : atE s l k = ruleE s (l.getD k default) := by rw [atE, if_pos h]
    rw [rulesE_at (k := k) h40 (by omega) (by rw [e]; exact h) hinv, e]
    refine ⟨?_, ?_⟩ <;> (conv => whnf)
    all_goals exact PSub.rfl
  · have hk : k < l.length := by omega
    have hat := atE_dup (s := s) hk h
    refine loop_k (ι := Nat) [1, 2, 6] [2] (fun q => q ≤ k ∧ ∀ j, j < q → (l.getD j default).name ≠ (l.getD k default).name) (fun q => k - q) 0 (fun q => [(8, .pv (vint q))]) (fun _ => []) [] ⟨Nat.zero_le _, fun j h => absurd h (by omega)⟩ ?_ (fun q hk => ?_)
    · (repeat' (first | exact PSub.rfl | exact rfl | exact PSubs.rfl | exact trivial | exact PSub.lit_sb rfl | refine And.intro ?_ ?_))
    obtain ⟨hkn, hinv⟩ := hk
    conv => whnf
    rename_i hinv0 hkn0
    repeat (any_goals (first
      | (refine ⟨fun (h : (_ : Bool) = true) => ?_, fun (h : (_ : Bool) = false) => ?_⟩ <;> (try simp only [decide_eq_true_eq, decide_eq_false_iff_not, Bool.not_eq_true', Bool.not_eq_false', Int.toNat_natCast, beq_iff_eq, decide_eq_decide, beq_eq_false_iff_ne, ne_eq, reduceCtorEq] at h) <;> (conv => whnf))
      | (refine And.intro (by (try simp only [Int.toNat_natCast]); omega) ?_; conv => whnf)
      | (refine And.intro (show (_ : Bool) = true from by kernel_rfl) ?_; conv => whnf)
      | (refine .inl ⟨wrap64 (by omega), ?_⟩; conv => whnf)))
    · have hm : memN (l.map Rul.name) k (l.getD k default).name = true := memN_true (k := q) (by omega) (by rw [rname_getD (by omega)]; exact h)
      rw [if_pos hm] at hat
      rw [rulesE_at (k := k) h40 hk (by rw [hat]; decide) hinv0, hat]
      refine ⟨?_, ?_⟩ <;> (conv => whnf)
      all_goals exact PSub.rfl
    · refine ⟨q + 1, [], ⟨by omega, ?_⟩, by first | omega | (dsimp only; omega), ?_⟩
      rotate_left
      · (repeat' (first | exact PSub.rfl | exact rfl | exact PSubs.rfl | exact trivial | exact PSub.lit_sb rfl | refine And.intro ?_ ?_))
      intro j hj
      by_cases e : j = q
      · subst e; first | exact h | simpa [-List.getD_eq_getElem?_getD] using h | simp_all [-List.getD_eq_getElem?_getD]
      · exact hinv j (by omega)
    · have hm : ¬ memN (l.map Rul.name) k (l.getD k default).name = true := by
        rw [memN_false fun j hj => by rw [rname_getD (by omega)]; exact hinv j (by omega)]
        decide
      rw [if_neg hm] at hat
      refine ⟨k + 1, [], ⟨by omega, ?_⟩, by first | omega | (dsimp only; omega), ?_⟩
      rotate_left
      · (repeat' (first | exact PSub.rfl | exact rfl | exact PSubs.rfl | exact trivial | exact PSub.lit_sb rfl | refine And.intro ?_ ?_))
      intro j hj
      by_cases e : j = k
      · subst e; exact hat
      · exact hinv0 j (by omega)
  · rw [rulesE_none h40 fun j hj => hinv j (by omega)]
    refine ⟨?_, ?_⟩ <;> (conv => whnf)
    all_goals exact PSub.rfl

end Go.Abs

namespace Go.Proofs
open Go.Shelf
def Tryz.sortKey_ren : Go.Shelf.Ren := ⟨fun | 6 => 100 | 15 => 143 | 14 => 142 | 28 => 164 | 29 => 165 | 20 => 156 | 21 => 157 | 22 => 158 | 23 => 159 | 24 => 160 | 25 => 161 | 26 => 162 | 27 => 163 | 46 => 173 | 47 => 174 | 48 => 175 | 49 => 176 | 50 => 177 | 57 => 181 | n => n, fun | 22 => 55 | 24 => 37 | 25 => 132 | 3 => 3 | 39 => 162 | 0 => 0 | 53 => 177 | 55 => 108 | 4 => 4 | 46 => 170 | 45 => 169 | 50 => 174 | 5 => 5 | 9 => 9 | 66 => 183 | 70 => 187 | 76 => 191 | 77 => 166 | n => n, fun | n => n⟩
theorem Tryz.sortKey : Go.Proofs.SlLaysF0.n6 Tryz.prog Tryz.sortKey_ren := {
  mixed := by kernel_rfl
  f6 := ⟨Tryz.f100.name, by decide, Tryz.func100.trans (congrArg some (by kernel_rfl))⟩
  f14 := ⟨Tryz.f142.name, by decide, Tryz.func142.trans (congrArg some (by kernel_rfl))⟩
  f15 := Tryz.func143.trans (congrArg some (by kernel_rfl))
  f20 := ⟨Tryz.f156.name, by decide, Tryz.func156.trans (congrArg some (by kernel_rfl))⟩
  f21 := ⟨Tryz.f157.name, by decide, Tryz.func157.trans (congrArg some (by kernel_rfl))⟩
  f22 := ⟨Tryz.f158.name, by decide, Tryz.func158.trans (congrArg some (by kernel_rfl))⟩
  f23 := ⟨Tryz.f159.name, by decide, Tryz.func159.trans (congrArg some (by kernel_rfl))⟩
  f24 := ⟨Tryz.f160.name, by decide, Tryz.func160.trans (congrArg some (by kernel_rfl))⟩
  f25 := ⟨Tryz.f161.name, by decide, Tryz.func161.trans (congrArg some (by kernel_rfl))⟩
  f26 := ⟨Tryz.f162.name, by decide, Tryz.func162.trans (congrArg some (by kernel_rfl))⟩
  f27 := ⟨Tryz.f163.name, by decide, Tryz.func163.trans (congrArg some (by kernel_rfl))⟩
  f28 := Tryz.func164.trans (congrArg some (by kernel_rfl))
  f29 := Tryz.func165.trans (congrArg some (by kernel_rfl))
  f46 := ⟨Tryz.f173.name, by decide, Tryz.func173.trans (congrArg some (by kernel_rfl))⟩
  f47 := Tryz.func174.trans (congrArg some (by kernel_rfl))
  f48 := Tryz.func175.trans (congrArg some (by kernel_rfl))
  f49 := ⟨Tryz.f176.name, by decide, Tryz.func176.trans (congrArg some (by kernel_rfl))⟩
  f50 := ⟨Tryz.f177.name, by decide, Tryz.func177.trans (congrArg some (by kernel_rfl))⟩
  f57 := ⟨Tryz.f181.name, by decide, Tryz.func181.trans (congrArg some (by kernel_rfl))⟩
  t0 := Tryz.underlying0
  a0 := Tryz.isAgg0
  z0 := Tryz.sizeOf0
  v0 := Tryz.zeroValue0
  t3 := Tryz.underlying3
  a3 := Tryz.isAgg3
  z3 := Tryz.sizeOf3
  v3 := Tryz.zeroValue3
  t4 := Tryz.underlying4
  a4 := Tryz.isAgg4
  z4 := Tryz.sizeOf4
  v4 := Tryz.zeroValue4
  t5 := Tryz.underlying5
  a5 := Tryz.isAgg5
  z5 := Tryz.sizeOf5
  v5 := Tryz.zeroValue5
  t9 := Tryz.underlying9
  a9 := Tryz.isAgg9
  z9 := Tryz.sizeOf9
  v9 := Tryz.zeroValue9
  t22 := Tryz.underlying55
  a22 := Tryz.isAgg55
  z22 := Tryz.sizeOf55
  v22 := Tryz.zeroValue55
  t25 := Tryz.underlying132
  a25 := Tryz.isAgg132
  z25 := Tryz.sizeOf132
  v25 := Tryz.zeroValue132
  t39 := Tryz.underlying162
  a39 := Tryz.isAgg162
  z39 := Tryz.sizeOf162
  v39 := Tryz.zeroValue162
  t45 := Tryz.underlying169
  a45 := Tryz.isAgg169
  z45 := Tryz.sizeOf169
  v45 := Tryz.zeroValue169
  t46 := Tryz.underlying170
  a46 := Tryz.isAgg170
  z46 := Tryz.sizeOf170
  v46 := Tryz.zeroValue170
  t50 := Tryz.underlying174
  a50 := Tryz.isAgg174
  z50 := Tryz.sizeOf174
  v50 := Tryz.zeroValue174
  t53 := Tryz.underlying177
  a53 := Tryz.isAgg177
  z53 := Tryz.sizeOf177
  v53 := Tryz.zeroValue177
  t55 := Tryz.underlying108
  a55 := Tryz.isAgg108
  z55 := Tryz.sizeOf108
  v55 := Tryz.zeroValue108
  t66 := Tryz.underlying183
  a66 := Tryz.isAgg183
  z66 := Tryz.sizeOf183
  v66 := Tryz.zeroValue183
  t70 := Tryz.underlying187
  a70 := Tryz.isAgg187
  z70 := Tryz.sizeOf187
  v70 := Tryz.zeroValue187
  t76 := Tryz.underlying191
  a76 := Tryz.isAgg191
  z76 := Tryz.sizeOf191
  v76 := Tryz.zeroValue191
  t77 := Tryz.underlying166
  a77 := Tryz.isAgg166
  z77 := Tryz.sizeOf166
  v77 := Tryz.zeroValue166 }
end Go.Proofs

namespace Go.Abs
open Go.Proofs
set_option maxRecDepth 10000

theorem ac_slices_SortFunc_Key (g : FuncId) (hg : ∀ a b, AC Tryz.prog g [.pv (.agg (cKey a)), .pv (.agg (cKey b))] [] (.pv (vint (cmpK a b))) []) (l : List Key) (hl : l.length ≤ 8388608) :
    AC Tryz.prog 100 [.own 0, .fn g []] [(0, rowL 3 cKey l)] (.pv (.tup [])) [(0, rowL 3 cKey (sortedK l))] := by
  have := AC.sortFunc (α := Key) Tryz.sortKey 3 Tryz.isAgg37 Tryz.sizeOf37 vKey (fun _ => rfl) (fun x v hv => by simp [vKey] at hv; rcases hv with rfl | rfl | rfl <;> rfl) cmpK swo_cmpK g hg parts_cmpK Tryz.call100 l (by omega)
  rw [sortedK_eq] at this
  unfold rowL
  rw [sortedK_length]
  exact this

theorem row_upd {G : Nat → Key} {i : Nat} {x : Key} {n : Nat} : ∀ j, j < n → PSubs (updAt (fun j => cKey (G j)) i 0 (cKey x) j) (cKey (if j = i then x else G j)) := by
  intro j _
  by_cases e : j = i
  · subst e; rw [updAt_same, if_pos rfl]; exact PSubs.rfl
  · rw [updAt_ne e, if_neg e]; exact PSubs.rfl

end Go.Abs

namespace Go.Abs
variable [Globals]

structure Scene where
  name : ByteArray
  items : List Item
  deriving Inhabited, DecidableEq
structure Cause where
  kind : Int
  name : ByteArray
  prio : Int
  deriving Inhabited, DecidableEq
structure Write where
  key : Key
  value : Val
  cause : Cause
  order : Int
  deriving Inhabited, DecidableEq

def cSce (s : Scene) : List PV := [vstr s.name, roL 7 cItem s.items]
def cCause (c : Cause) : List PV := [vint c.kind, vstr c.name, vint c.prio]
def cWrite (w : Write) : List PV := cKey w.key ++ (cVal w.value ++ (cCause w.cause ++ [vint w.order]))
def noScene : Scene := ⟨⟨#[]⟩, []⟩

theorem firstI_cases {n : Nat} {p : Nat → Bool} : (firstI n p < n ∧ p (firstI n p) = true ∧ ∀ j, j < firstI n p → p j = false) ∨ (firstI n p = n ∧ ∀ j, j < n → p j = false) := by
  unfold firstI
  split
  · rename_i i e
    rw [List.find?_range_eq_some] at e
    exact .inl ⟨by simpa using e.2.1, e.1, fun j hj => by simpa using e.2.2 j hj⟩
  · rename_i e
    rw [List.find?_eq_none] at e
    exact .inr ⟨rfl, fun j hj => by simpa using e j (by simpa using hj)⟩

/-- the first item with a key -/
def findI (l : List Item) (q : Key) : Option Item := l.find? fun x => decide (x.key = q)

theorem findI_eq (l : List Item) (q : Key) : findI l q = if itemAt l q < l.length then some (l.getD (itemAt l q) default) else none := by
  unfold findI itemAt
  rcases firstI_cases (n := l.length) (p := fun i => decide ((l.getD i default).key = q)) with ⟨h1, h2, h3⟩ | ⟨h1, h2⟩
  · rw [if_pos h1, getD_getElem _ _ h1, List.find?_eq_some_iff_getElem]
    rw [getD_getElem _ _ h1] at h2
    refine ⟨h2, _, h1, rfl, fun j hj => ?_⟩
    have := h3 j hj
    rw [getD_getElem _ _ (by omega)] at this
    simpa using this
  · rw [if_neg (by omega), List.find?_eq_none]
    intro x hx
    obtain ⟨i, hi, rfl⟩ := List.getElem_of_mem hx
    have := h2 i hi
    rw [getD_getElem _ _ hi] at this
    simpa using this

theorem itemAt_isSome (l : List Item) (q : Key) : decide (itemAt l q < l.length) = (findI l q).isSome := by
  rw [findI_eq]; split <;> simp_all
theorem getI_find (l : List Item) (q : Key) : getI l q = (findI l q).getD noItem := by
  rw [getI, findI_eq]; split <;> rfl

theorem findI_take {l : List Item} {k : Nat} {q : Key} (hk : k < l.length) : findI (l.take (k + 1)) q = match findI (l.take k) q with | some x => some x | none => if (l.getD k default).key = q then some (l.getD k default) else none := by
  unfold findI
  rw [take_succ_getD hk, List.find?_append]
  cases (l.take k).find? fun x => decide (x.key = q) with
  | some x => rfl
  | none =>
    simp only [List.find?_cons, List.find?_nil, Option.none_or]
    by_cases e : (l.getD k default).key = q
    · simp [e, -List.getD_eq_getElem?_getD]
    · simp [e, -List.getD_eq_getElem?_getD]

theorem findI_key {l : List Item} {q : Key} {x : Item} (h : findI l q = some x) : x.key = q := by
  unfold findI at h
  have := List.find?_some h
  simpa using this
theorem findI_mem {l : List Item} {q : Key} {x : Item} (h : findI l q = some x) : x ∈ l := List.mem_of_find?_eq_some h
theorem findI_some {l : List Item} {q : Key} : (findI l q).isSome = true ↔ ∃ x ∈ l, x.key = q := by
  unfold findI
  rw [List.find?_isSome]
  simp
theorem findI_none {l : List Item} {q : Key} : findI l q = none ↔ ∀ x ∈ l, x.key ≠ q := by
  unfold findI
  rw [List.find?_eq_none]
  simp

/-! Maps from keys to items. -/
abbrev KKey : KK := .agg [.int .i64, .str, .str]

theorem has_key {v : Value} (h : KKey.has v) : ∃ k : Key, v = .agg ⟨vKey k⟩ := by
  obtain ⟨vs, rfl, hs, hl⟩ := h
  obtain ⟨d, h0⟩ := hl 0 (.int .i64) rfl
  obtain ⟨c, h1⟩ := hl 1 .str rfl
  obtain ⟨a, h2⟩ := hl 2 .str rfl
  refine ⟨⟨d, c, a⟩, ?_⟩
  congr 1
  apply Array.ext
  · simpa [vKey] using hs
  · intro i hi1 hi2
    have h3 : i = 0 ∨ i = 1 ∨ i = 2 := by simp at hs; omega
    rcases h3 with rfl | rfl | rfl
    · simpa [Array.getD, hi1, vKey] using h0
    · simpa [Array.getD, hi1, vKey] using h1
    · simpa [Array.getD, hi1, vKey] using h2

def kOf : Value → Key
  | .agg ⟨[.int _ d, .string c, .string a]⟩ => ⟨d, c, a⟩
  | _ => default
theorem kOf_key (k : Key) : kOf (.agg ⟨vKey k⟩) = k := rfl
theorem vKey_inj {a b : Key} : (Value.agg ⟨vKey a⟩ = Value.agg ⟨vKey b⟩) ↔ a = b := by
  constructor
  · intro h
    have := congrArg kOf h
    simpa [kOf_key] using this
  · rintro rfl; rfl

def itemLook (f : Key → Option Item) : Value → Option PV := fun v => (f (kOf v)).map fun x => .agg (cItem x)
theorem itemLook_key (f : Key → Option Item) (k : Key) : itemLook f (.agg ⟨vKey k⟩) = (f k).map fun x => .agg (cItem x) := rfl

theorem lookPut_yes {look : Value → Option PV} {k k' : Value} {p : PV} (h : k' = k) : lookPut look k p k' = some p := by unfold lookPut; rw [if_pos h]
theorem lookPut_no {look : Value → Option PV} {k k' : Value} {p : PV} (h : k' ≠ k) : lookPut look k p k' = look k' := by unfold lookPut; rw [if_neg h]

/-! scene.Check -/
def sceE (H : Hom) (l : List Item) (i : Nat) : Int :=
  if (findA H (l.getD i default).key).isSome = false then 8 else if ((findA H (l.getD i default).key).getD noAttr).writable = false then 24
  else if fitsE ((findA H (l.getD i default).key).getD noAttr) (l.getD i default).value ≠ 0 then fitsE ((findA H (l.getD i default).key).getD noAttr) (l.getD i default).value
  else if (l.getD i default).version ≠ 0 then 2 else if 0 < i ∧ keyLess (l.getD (i - 1) default).key (l.getD i default).key = false then 14 else 0
def checkS (H : Hom) (s : Scene) : Int :=
  if homE H ≠ 0 then homE H else if validName s.name = false then 10 else if 256 < s.items.length then 3 else firstE s.items.length (sceE H s.items)

/-! scene.Capture -/
def capI (H : Hom) (l : List Item) (k : Key) : Option Item := match findA H k, findI l k with
  | some a, some x => if a.writable = true ∧ fitsE a x.value = 0 then some ⟨k, x.value, 0⟩ else none
  | _, _ => none
def capTo (H : Hom) (l : List Item) (ks : List Key) : List Item := ks.filterMap (capI H l)
def capSE (H : Hom) (name : ByteArray) : Int := if homE H ≠ 0 then homE H else if validName name = false then 10 else 0
def capS (H : Hom) (l : List Item) (name : ByteArray) (keys : List Key) : Scene := if capSE H name ≠ 0 then noScene else ⟨name, capTo H l (sortK keys)⟩

/-! scene.Apply -/
def applyS (s : Scene) (c : Cause) (n : Nat) : List Write := (List.range n).map fun i => ⟨(s.items.getD i default).key, (s.items.getD i default).value, c, i⟩

/-! scene.Differs, Undo, Join, Find -/
def difB (a b : Option Item) : Bool := match b with
  | none => true
  | some y => decide (y.value ≠ (a.getD noItem).value)
def difS (s l : List Item) : List Key := (sortK (s.map Item.key)).filter fun k => difB (findI s k) (findI l k)
def undoI (l : List Item) (x : Item) : Option Item := (findI l x.key).map fun y => ⟨y.key, y.value, 0⟩
def undoS (s : Scene) (l : List Item) : Scene := ⟨s.name, s.items.filterMap (undoI l)⟩
def joinI (a b : List Item) (k : Key) : Item := ((findI b k).getD ((findI a k).getD noItem))
def joinS (a b : Scene) : Scene := ⟨a.name, (sortK (a.items.map Item.key ++ b.items.map Item.key)).map (joinI a.items b.items)⟩
def sceAt (l : List Scene) (s : ByteArray) : Nat := firstI l.length fun i => decide ((l.getD i default).name = s)
def findS (l : List Scene) (s : ByteArray) : Scene := if sceAt l s < l.length then l.getD (sceAt l s) default else noScene

end Go.Abs

namespace Go.Abs
open Go.Proofs
set_option maxRecDepth 10000

end Go.Abs

namespace Go.Abs
open Go.Proofs
set_option maxRecDepth 10000

/-- what is still to come of Put -/
def putRest (l : List Key) (k : Key) (done : Bool) : List Key := if done = true then l.filter (fun y => decide (y ≠ k)) else putK l k

theorem putRest_cons {l : List Key} {x k : Key} {done : Bool} : putRest (x :: l) k done =
    (if done = false ∧ keyLess x k = false then [k] else []) ++ (if x ≠ k then [x] else []) ++ putRest l k (done || !keyLess x k) := by
  cases done with
  | true =>
    simp only [putRest, Bool.true_or, if_true, List.filter_cons]
    by_cases e : x = k
    · simp [e]
    · simp [e]
  | false =>
    simp only [putRest, Bool.false_or, Bool.false_eq_true, if_false]
    rw [show putK (x :: l) k = if keyLess x k = true then x :: putK l k else k :: (x :: l).filter fun y => decide (y ≠ k) from rfl]
    cases h : keyLess x k with
    | true =>
      have hne : x ≠ k := fun e => by rw [e, keyLess_irrefl] at h; cases h
      simp [hne]
    | false =>
      by_cases e : x = k
      · simp [e]
      · simp [e]

theorem ac_r22_Put (l : List Key) (q : Key) (hl : l.length ≤ 8388608) : AC Tryz.prog 60 [.pv (roL 3 cKey l), .pv (.agg (cKey q))] [] (.pv (roL 3 cKey (putK l q))) [] := by
  refine AC.of_awp (T := T) T_ok hm Tryz.call60 Tryz.func60 rfl rfl rfl ?_
  conv => whnf
  refine loop_k (ι := Nat × List Key × Bool) [0, 3] [3] (fun x => x.1 ≤ l.length ∧ x.2.1.length ≤ x.1 + x.2.2.toNat ∧ putK l q = x.2.1 ++ putRest (l.drop x.1) q x.2.2) (fun x => l.length - x.1) (0, [], false) (fun x => [(5, .own 500), (6, .pv (.sb x.2.2)), (7, .pv (vint x.1))]) (fun x => [(500, rowL 3 cKey x.2.1)]) [] ⟨Nat.zero_le _, by simp, by simp [putRest]⟩ ?_ (fun x hx => ?_)
  · (repeat' (first | exact PSub.rfl | exact rfl | exact PSubs.rfl | exact trivial | exact PSub.lit_sb rfl | refine And.intro ?_ ?_))
    all_goals exact PSub.lit_sb rfl
  obtain ⟨k, acc, done⟩ := x
  obtain ⟨hkn, hacc, hinv⟩ := hx
  simp only at hkn hacc hinv
  dsimp only
  have hb : done.toNat ≤ 1 := by cases done <;> decide
  have hd : k < l.length → l.drop k = l.getD k default :: l.drop (k + 1) := fun h => by rw [getD_getElem _ _ h]; exact List.drop_eq_getElem_cons h
  have row2 : ∀ (F G : Nat → List PV) (x : Key), (∀ i, i < (acc ++ [q]).length → PSubs (F i) (cKey ((acc ++ [q]).getD i default))) → (∀ i, i < acc.length + 1 → G i = F i) → PSubs (G (acc.length + 1)) (cKey x) → ∀ i, i < (acc ++ [q] ++ [x]).length → PSubs (G i) (cKey ((acc ++ [q] ++ [x]).getD i default)) := by
    intro F G x h1 h2 h3
    refine rows_snocF (fun i hi => ?_) (by simpa using h3)
    rw [h2 i (by simpa using hi)]
    exact h1 i hi
  conv => whnf
  repeat (any_goals (first
    | (refine ⟨fun (h : (_ : Bool) = true) => ?_, fun (h : (_ : Bool) = false) => ?_⟩ <;> (try simp only [decide_eq_true_eq, decide_eq_false_iff_not, Bool.not_eq_true', Bool.not_eq_false', Int.toNat_natCast, beq_iff_eq, decide_eq_decide, beq_eq_false_iff_ne, ne_eq, reduceCtorEq] at h) <;> (conv => whnf))
    | (refine .inl ⟨_, ac_r22_Less (l.getD k default) q, ?_⟩; conv => whnf)
    | (refine And.intro (by (try simp only [Int.toNat_natCast]); omega) ?_; conv => whnf)
    | (refine And.intro (show (_ : Bool) = true from by kernel_rfl) ?_; conv => whnf)
    | (refine .inl ⟨wrap64 (by omega), ?_⟩; conv => whnf)))
  · rename_i hlt hdn hless
    rw [key_eq] at h
    simp only [decide_eq_false_iff_not] at h
    rw [hdn] at hacc
    rw [hd (by omega), putRest_cons, hdn, hless, if_pos ⟨rfl, rfl⟩, if_pos h] at hinv
    refine ⟨(k + 1, acc ++ [q] ++ [l.getD k default], true), [(500, 41)], ⟨by dsimp only; omega, by simp at *; omega, by rw [hinv]; simp⟩, by dsimp only; omega, ?_⟩
    dsimp only
    (repeat' (first | exact PSub.rfl | exact rfl | exact PSubs.rfl | exact trivial | exact PSub.lit_sb rfl | refine And.intro ?_ ?_))
    · simp
    · refine row2 (fun i => if i < acc.length then cKey (acc.getD i default) else cKey q) _ _ ?_ (fun i hi => ?_) ?_
      · refine rows_snocF (fun i hi => by simp only [if_pos hi]; exact PSubs.rfl) (by simp only [if_neg (Nat.lt_irrefl _), Nat.sub_self]; exact PSubs.rfl)
      · simp only [if_pos hi]
        by_cases e : i < acc.length
        · simp only [if_pos e]
        · simp only [if_neg e, show i - acc.length = 0 from by omega]; rfl
      · simp only [if_neg (Nat.lt_irrefl _), Nat.sub_self]; exact PSubs.rfl
    all_goals exact PSub.lit_sb rfl
  · rename_i hlt hdn hless
    rw [key_eq] at h
    simp only [decide_eq_true_eq] at h
    rw [hdn] at hacc
    rw [hd (by omega), putRest_cons, hdn, hless, if_pos ⟨rfl, rfl⟩, if_neg (fun hn => hn h)] at hinv
    refine ⟨(k + 1, acc ++ [q], true), [(500, 28)], ⟨by dsimp only; omega, by simp at *; omega, by rw [hinv]; simp⟩, by dsimp only; omega, ?_⟩
    dsimp only
    (repeat' (first | exact PSub.rfl | exact rfl | exact PSubs.rfl | exact trivial | exact PSub.lit_sb rfl | refine And.intro ?_ ?_))
    · simp
    · refine rows_snocF (fun i hi => by simp only [if_pos hi]; exact PSubs.rfl) (by simp only [if_neg (Nat.lt_irrefl _), Nat.sub_self]; exact PSubs.rfl)
    all_goals exact PSub.lit_sb rfl
  · rename_i hlt hdn hless
    rw [key_eq] at h
    simp only [decide_eq_false_iff_not] at h
    rw [hd (by omega), putRest_cons, hless, if_neg (fun hn => by cases hn.2), if_pos h] at hinv
    refine ⟨(k + 1, acc ++ [l.getD k default], done), [(500, 41)], ⟨by dsimp only; omega, by simp at *; omega, by rw [hinv]; simp⟩, by dsimp only; omega, ?_⟩
    dsimp only
    (repeat' (first | exact PSub.rfl | exact rfl | exact PSubs.rfl | exact trivial | exact PSub.lit_sb rfl | refine And.intro ?_ ?_))
    · simp
    · refine rows_snocF (fun i hi => by simp only [if_pos hi]; exact PSubs.rfl) (by simp only [if_neg (Nat.lt_irrefl _), Nat.sub_self]; exact PSubs.rfl)
  · rename_i hlt hdn hless
    rw [key_eq] at h
    simp only [decide_eq_true_eq] at h
    rw [h, keyLess_irrefl] at hless; cases hless
  · rename_i hlt hdn
    rw [key_eq] at h
    simp only [decide_eq_false_iff_not] at h
    rw [hd (by omega), putRest_cons, hdn, if_neg (fun hn => by cases hn.1), if_pos h] at hinv
    refine ⟨(k + 1, acc ++ [l.getD k default], done), [(500, 41)], ⟨by dsimp only; omega, by simp at *; omega, by rw [hinv, hdn]; simp⟩, by dsimp only; omega, ?_⟩
    dsimp only
    (repeat' (first | exact PSub.rfl | exact rfl | exact PSubs.rfl | exact trivial | exact PSub.lit_sb rfl | refine And.intro ?_ ?_))
    · simp
    · refine rows_snocF (fun i hi => by simp only [if_pos hi]; exact PSubs.rfl) (by simp only [if_neg (Nat.lt_irrefl _), Nat.sub_self]; exact PSubs.rfl)
  · rename_i hlt hdn
    rw [key_eq] at h
    simp only [decide_eq_true_eq] at h
    rw [hd (by omega), putRest_cons, hdn, if_neg (fun hn => by cases hn.1), if_neg (fun hn => hn h)] at hinv
    refine ⟨(k + 1, acc, done), [], ⟨by dsimp only; omega, by simp at *; omega, by rw [hinv, hdn]; simp⟩, by dsimp only; omega, ?_⟩
    dsimp only
    (repeat' (first | exact PSub.rfl | exact rfl | exact PSubs.rfl | exact trivial | exact PSub.lit_sb rfl | refine And.intro ?_ ?_))
    intro i hi; exact PSubs.rfl
  · rw [List.drop_eq_nil_of_le (by omega), h] at hinv
    have hinv : putK l q = acc ++ [q] := hinv
    rw [hinv]
    refine PSub.ro (by simp) (fun i hi => ?_)
    revert i
    rw [show acc.length + 1 = (acc ++ [q]).length from by simp]
    refine rows_snocF (fun i hi => by simp only [if_pos hi]; exact PSubs.rfl) (by simp only [if_neg (Nat.lt_irrefl _), Nat.sub_self]; exact PSubs.rfl)
  · rw [List.drop_eq_nil_of_le (by omega), h] at hinv
    have hinv : putK l q = acc ++ [] := hinv
    rw [hinv, List.append_nil]
    exact .rfl

theorem sce_split (a b : Scene) : decide (a = b) = (decide (a.name = b.name) && decide (a.items = b.items)) := by
  obtain ⟨a1, a2⟩ := a
  obtain ⟨b1, b2⟩ := b
  rw [Bool.eq_iff_iff]; simp

theorem write_eq (a b : Write) : (decide (a.key.dev = b.key.dev) && (decide (a.key.cluster = b.key.cluster) && (decide (a.key.attr = b.key.attr) && (decide (a.value.kind = b.value.kind) && (decide (a.value.n = b.value.n) && (decide (a.value.s = b.value.s) &&
    (decide (a.cause.kind = b.cause.kind) && (decide (a.cause.name = b.cause.name) && (decide (a.cause.prio = b.cause.prio) && (decide (a.order = b.order) && true)))))))))) = decide (a = b) := by
  obtain ⟨⟨a1, a2, a3⟩, ⟨a4, a5, a6⟩, ⟨a7, a8, a9⟩, a0⟩ := a
  obtain ⟨⟨b1, b2, b3⟩, ⟨b4, b5, b6⟩, ⟨b7, b8, b9⟩, b0⟩ := b
  rw [Bool.eq_iff_iff]; simp [and_assoc]

theorem applyS_succ {s : Scene} {c : Cause} {k : Nat} : applyS s c (k + 1) = applyS s c k ++ [⟨(s.items.getD k default).key, (s.items.getD k default).value, c, k⟩] := by
  unfold applyS; rw [List.range_succ]; simp

end Go.Abs

namespace Go.Abs
open Go.Proofs
set_option maxRecDepth 10000

theorem nodup_sub_length {l : List Key} : ∀ {m : List Key}, l.Nodup → (∀ x ∈ l, x ∈ m) → l.length ≤ m.length := by
  induction l with
  | nil => intro m _ _; simp
  | cons a l ih =>
    intro m hn hs
    obtain ⟨h1, h2⟩ := List.nodup_cons.1 hn
    have ha : a ∈ m := hs a (by simp)
    have := ih (m := m.erase a) h2 (fun x hx => (List.mem_erase_of_ne (fun e => h1 (by rw [← e]; exact hx))).2 (hs x (by simp [hx])))
    rw [List.length_erase_of_mem ha] at this
    have : 0 < m.length := List.length_pos_of_mem ha
    simp only [List.length_cons]; omega

theorem difB_eq (s l : List Item) (k : Key) : difB (findI s k) (findI l k) = (!decide (itemAt l k < l.length) || decide ((getI l k).value ≠ (getI s k).value)) := by
  rw [itemAt_isSome, getI_find, getI_find]
  cases findI l k <;> simp [difB]

theorem asc_filter {l : List Key} {p : Key → Bool} (h : Asc l) : Asc (l.filter p) := h.sublist List.filter_sublist

theorem sortK_filter (l m : List Key) (p : Key → Bool) (h : ∀ x, x ∈ m ↔ x ∈ l) : sortK (m.filter p) = (sortK l).filter p := by
  refine asc_ext (asc_sortK _) (asc_filter (asc_sortK _)) fun x => ?_
  rw [mem_sortK, List.mem_filter, List.mem_filter, mem_sortK, h]

theorem filt_succ {ks : List Key} {k : Nat} {p : Key → Bool} (hk : k < ks.length) : (ks.take (k + 1)).filter p = (ks.take k).filter p ++ (if p (ks.getD k default) = true then [ks.getD k default] else []) := by
  rw [take_succ_getD hk, List.filter_append]
  congr 1
  by_cases e : p (ks.getD k default) = true
  · rw [if_pos e]; simp only [List.filter_cons, List.filter_nil, e, if_true]
  · rw [if_neg e]; simp only [List.filter_cons, List.filter_nil, e, Bool.false_eq_true, if_false]

end Go.Abs

namespace Go.Abs
open Go.Proofs
set_option maxRecDepth 10000

def seenLook (f : Key → Bool) : Value → Option PV := fun v => if f (kOf v) = true then some (.val (.bool true)) else none
theorem seenLook_key (f : Key → Bool) (q : Key) : seenLook f (.agg ⟨vKey q⟩) = if f q = true then some (.val (.bool true)) else none := rfl

theorem ac_typing_ascending_1 (a b : Key) : AC Tryz.prog 101 [.pv (.agg (cKey a)), .pv (.agg (cKey b))] [] (.pv (vint (cmpK a b))) [] := by
  refine AC.of_awp (T := T) T_ok hm Tryz.call101 Tryz.func101 rfl rfl rfl ?_
  conv => whnf
  repeat (any_goals (first
    | (refine ⟨fun (h : (_ : Bool) = true) => ?_, fun (h : (_ : Bool) = false) => ?_⟩ <;> (try simp only [decide_eq_true_eq, decide_eq_false_iff_not, Bool.not_eq_true', Bool.not_eq_false', Int.toNat_natCast, beq_iff_eq, decide_eq_decide, beq_eq_false_iff_ne, ne_eq, reduceCtorEq] at h) <;> (conv => whnf))
    | (refine .inl ⟨_, ac_device_Less a b, ?_⟩; conv => whnf)
    | (refine .inl ⟨_, ac_device_Less b a, ?_⟩; conv => whnf)
    | (refine And.intro (by (try simp only [Int.toNat_natCast]); omega) ?_; conv => whnf)
    | (refine And.intro (show (_ : Bool) = true from by kernel_rfl) ?_; conv => whnf)
    | (refine .inl ⟨wrap64 (by omega), ?_⟩; conv => whnf)))
  all_goals (try simp only [decide_eq_true_eq, decide_eq_false_iff_not, Bool.not_eq_true', Bool.not_eq_false', Int.toNat_natCast, beq_iff_eq, decide_eq_decide, beq_eq_false_iff_ne, ne_eq, reduceCtorEq] at *)
  all_goals first
    | contradiction
    | (exfalso; omega)
    | exact PSub.rfl
    | (refine PSub.int ?_; simp only [cmpK]; (repeat' split) <;> first | rfl | omega | (simp_all [-List.getD_eq_getElem?_getD]; done) | (simp_all [-List.getD_eq_getElem?_getD]; omega))
    | (refine PSub.sb ?_; simp_all [cmpK, -List.getD_eq_getElem?_getD]; done)
    | (refine PSub.lit_sb ?_; simp_all [cmpK, -List.getD_eq_getElem?_getD]; done)
    | (refine PSub.sb_lit ?_; simp_all [cmpK, -List.getD_eq_getElem?_getD]; done)
    | (refine PSub.sb ?_; rw [Bool.eq_iff_iff]; simp_all [cmpK, -List.getD_eq_getElem?_getD]; done)
    | (refine PSub.lit_sb ?_; rw [Bool.eq_iff_iff]; simp_all [cmpK, -List.getD_eq_getElem?_getD]; done)
    | (refine PSub.sb_lit ?_; rw [Bool.eq_iff_iff]; simp_all [cmpK, -List.getD_eq_getElem?_getD]; done)
    | skip

theorem key_has (q : Key) : KKey.has (.agg ⟨vKey q⟩) := ⟨_, rfl, rfl, fun i lf hi => by
  match i, hi with
  | 0, hi => cases hi; exact ⟨_, rfl⟩
  | 1, hi => cases hi; exact ⟨_, rfl⟩
  | 2, hi => cases hi; exact ⟨_, rfl⟩
  | i + 3, hi => simp at hi⟩

theorem ac_typing_ascending (ks : List Key) (hk : ks.length ≤ 8388607) : AC Tryz.prog 58 [.pv (.map KKey (seenLook fun q => decide (q ∈ ks)))] [] (.pv (roL 3 cKey (sortK ks))) [] := by
  refine AC.of_awp (T := T) T_ok hm Tryz.call58 Tryz.func58 rfl rfl rfl ?_
  conv => whnf
  refine loop_k (ι := List Key) [] [] (fun x => x.Nodup ∧ ∀ q ∈ x, q ∈ ks) (fun x => ks.length + 1 - x.length) [] (fun x => [(3, .own 500), (6, .ref 6)])
    (fun x => [(500, rowL 3 cKey x.reverse), (6, .miter KKey (seenLook fun q => decide (q ∈ ks)) (x.map fun q => .agg ⟨vKey q⟩))]) [] ⟨List.nodup_nil, fun q hq => by simp at hq⟩ ?_ (fun x hx => ?_)
  · (repeat' (first | exact PSub.rfl | exact rfl | exact PSubs.rfl | exact trivial | exact PSub.lit_sb rfl | refine And.intro ?_ ?_))
  obtain ⟨hn, hx⟩ := hx
  have hlen := nodup_sub_length hn hx
  have hrev : x.reverse.length = x.length := List.length_reverse
  conv => whnf
  refine ⟨fun v p hv hp hns => ?_, fun hall => ?_⟩
  · obtain ⟨q, rfl⟩ := has_key hv
    have hp0 := hp
    rw [seenLook_key] at hp
    by_cases hq : decide (q ∈ ks) = true
    · rw [if_pos hq] at hp
      cases hp
      have hq := of_decide_eq_true hq
      have hnx : q ∉ x := fun h => hns (List.mem_map.2 ⟨q, h, rfl⟩)
      have hJ : (q :: x).Nodup ∧ ∀ r ∈ q :: x, r ∈ ks := ⟨List.nodup_cons.2 ⟨hnx, hn⟩, fun r hr => by
        rcases List.mem_cons.1 hr with rfl | hr
        · exact hq
        · exact hx r hr⟩
      have hlq := nodup_sub_length hJ.1 hJ.2
      rw [List.length_cons] at hlq
      conv => whnf
      refine ⟨_, hp0, ?_⟩
      conv => whnf
      repeat (any_goals (first
        | (refine ⟨fun (h : (_ : Bool) = true) => ?_, fun (h : (_ : Bool) = false) => ?_⟩ <;> (try simp only [decide_eq_true_eq, decide_eq_false_iff_not, Bool.not_eq_true', Bool.not_eq_false', Int.toNat_natCast, beq_iff_eq, decide_eq_decide, beq_eq_false_iff_ne, ne_eq, reduceCtorEq] at h) <;> (conv => whnf))
        | (refine And.intro (by (try simp only [Int.toNat_natCast]); omega) ?_; conv => whnf)
        | (refine And.intro (show (_ : Bool) = true from by kernel_rfl) ?_; conv => whnf)
        | (refine .inl ⟨wrap64 (by omega), ?_⟩; conv => whnf)))
      refine ⟨q :: x, [(500, 14)], hJ, by simp only [List.length_cons]; omega, ?_⟩
      rw [List.reverse_cons]
      (repeat' (first | exact PSub.rfl | exact rfl | exact PSubs.rfl | exact trivial | exact PSub.lit_sb rfl | refine And.intro ?_ ?_))
      · simp
      · refine rows_snocF (fun i hi => by simp only [if_pos hi]; exact PSubs.rfl) (by simp only [if_neg (Nat.lt_irrefl _), Nat.sub_self]; exact PSubs.rfl)
    · rw [if_neg hq] at hp; cases hp
  · conv => whnf
    refine .inr (.inr (.inl ⟨_, _, ac_slices_SortFunc_Key 101 ac_typing_ascending_1 x.reverse (by omega), ?_⟩))
    conv => whnf
    have hs : sortedK x.reverse = sortK ks := by
      rw [sortedK_asc ((List.reverse_perm x).nodup_iff.2 hn)]
      refine sortK_congr fun q => ?_
      rw [List.mem_reverse]
      refine ⟨hx q, fun hq => ?_⟩
      have h2 := hall (.agg ⟨vKey q⟩) (.val (.bool true)) (key_has q) (by rw [seenLook_key, if_pos (decide_eq_true hq)])
      obtain ⟨r, hr, e2⟩ := List.mem_map.1 h2
      rw [← vKey_inj.1 e2]; exact hr
    rw [hs]
    exact .rfl

/-- a key more -/
theorem seen_add {acc : List Key} {k : Key} : ∀ v, KKey.has v → lookPut (seenLook fun q => decide (q ∈ acc)) (.agg ⟨vKey k⟩) (.val (.bool true)) v = seenLook (fun q => decide (q ∈ acc ++ [k])) v := by
  intro v hv
  obtain ⟨q, rfl⟩ := has_key hv
  rw [seenLook_key]
  by_cases e : q = k
  · subst e
    rw [if_pos (decide_eq_true (by simp)), lookPut_yes rfl]
  · rw [lookPut_no (fun h => e (vKey_inj.1 h)), seenLook_key]
    have : decide (q ∈ acc ++ [k]) = decide (q ∈ acc) := by rw [decide_eq_decide]; simp [e]
    rw [this]

theorem ac_typing_Writes_1 (s : Sco) (k : Key) (acc : List Key) (hs : smallS s) : AC Tryz.prog 61 [.pv (.agg (cKey k)), .ptr 900000 0, .ptr 900001 0] [(900000, .pbox (cSco s)), (900001, .box [.ref 900002]), (900002, .map KKey (seenLook fun q => decide (q ∈ acc)))]
    (.pv (.tup [])) [(900000, .pbox (cSco s)), (900001, .box [.ref 900002]), (900002, .map KKey (seenLook fun q => decide (q ∈ acc ++ (if foundB s k = true then [k] else []))))] := by
  refine AC.of_awp_gen (T := T) T_ok hm Tryz.call61 Tryz.func61 rfl rfl rfl rfl rfl rfl ?_
  conv => whnf
  repeat (any_goals (first
    | (refine ⟨fun (h : (_ : Bool) = true) => ?_, fun (h : (_ : Bool) = false) => ?_⟩ <;> (try simp only [decide_eq_true_eq, decide_eq_false_iff_not, Bool.not_eq_true', Bool.not_eq_false', Int.toNat_natCast, beq_iff_eq, decide_eq_decide, beq_eq_false_iff_ne, ne_eq, reduceCtorEq] at h) <;> (conv => whnf))
    | (refine .inl ⟨_, ac_device_Find s.home k hs.1, ?_⟩; conv => whnf)
    | (refine And.intro (by (try simp only [Int.toNat_natCast]); omega) ?_; conv => whnf)
    | (refine And.intro (show (_ : Bool) = true from by kernel_rfl) ?_; conv => whnf)
    | (refine .inl ⟨wrap64 (by omega), ?_⟩; conv => whnf)))
  · rw [if_pos (show foundB s k = true from h)]
    refine ⟨rfl, [], ?_⟩
    conv => whnf
    (repeat' (first | exact PSub.rfl | exact rfl | exact PSubs.rfl | exact trivial | exact PSub.lit_sb rfl | refine And.intro ?_ ?_))
    exact seen_add
  · rw [if_neg (show ¬ foundB s k = true from fun x => by rw [foundB, h] at x; cases x), List.append_nil]
    refine ⟨rfl, [], ?_⟩
    conv => whnf
    (repeat' (first | exact PSub.rfl | exact rfl | exact PSubs.rfl | exact trivial | exact PSub.lit_sb rfl | refine And.intro ?_ ?_))
    all_goals (intro v hv; rfl)

def tKey (x : Stp) (f : Eff) : Key := ⟨x.key.dev, x.key.cluster, f.attr⟩
theorem filt1 {p : Key → Bool} {k : Key} : [k].filter p = if p k = true then [k] else [] := by
  by_cases h : p k = true
  · rw [if_pos h]; simp [h]
  · rw [if_neg h]; simp [h]
theorem flat_succ {α β : Type} [Inhabited α] {f : α → List β} {l : List α} {k : Nat} (h : k < l.length) : (l.take (k + 1)).flatMap f = (l.take k).flatMap f ++ f (l.getD k default) := by
  rw [take_succ_getD h, List.flatMap_append]; simp

theorem com_eq (s : Sco) (x : Stp) : (comO s x).getD noCmd = cmdOf ((partO s.home x.key.dev x.key.cluster).getD noClu).commands x.name := by
  unfold comO
  cases hp : partO s.home x.key.dev x.key.cluster with
  | none => rfl
  | some c =>
    dsimp only [Option.getD_some]
    by_cases h : cmdAt c.commands x.name < c.commands.length
    · rw [if_pos h]; rfl
    · rw [if_neg h, cmdOf, if_neg h]; rfl

set_option maxHeartbeats 1000000 in
theorem ac_typing_Writes (s : Sco) (l : List Rul) (hs : smallS s) (hl : fewR l) : AC Tryz.prog 26 [.pv (.agg (cSco s)), .pv (roL 15 cRul l)] [] (.pv (roL 3 cKey (writesL s l))) [] := by
  have hl60 := hl.1
  refine AC.of_awp (T := T) T_ok hm Tryz.call26 Tryz.func26 rfl rfl rfl ?_
  conv => whnf
  refine loop_k (ι := Nat) [2, 5, 6, 19, 20] [2, 5] (fun k => k ≤ l.length ∧ True) (fun k => l.length - k) 0 (fun k => [(21, .pv (vint k))]) (fun k => [(17, .map KKey (seenLook fun q => decide (q ∈ (allT s (l.take k)).filter (foundB s))))]) [] ⟨Nat.zero_le _, trivial⟩ ?_ (fun k hk => ?_)
  · (repeat' (first | exact PSub.rfl | exact rfl | exact PSubs.rfl | exact trivial | exact PSub.lit_sb rfl | refine And.intro ?_ ?_)); all_goals (intro v hv; obtain ⟨q, rfl⟩ := has_key hv; simp [seenLook_key, allT])
  obtain ⟨hkn, hinv⟩ := hk
  conv => whnf
  repeat (any_goals (first
    | (refine ⟨fun (h : (_ : Bool) = true) => ?_, fun (h : (_ : Bool) = false) => ?_⟩ <;> (try simp only [decide_eq_true_eq, decide_eq_false_iff_not, Bool.not_eq_true', Bool.not_eq_false', Int.toNat_natCast, beq_iff_eq, decide_eq_decide, beq_eq_false_iff_ne, ne_eq, reduceCtorEq] at h) <;> (conv => whnf))
    | (refine And.intro (by (try simp only [Int.toNat_natCast]); omega) ?_; conv => whnf)
    | (refine And.intro (show (_ : Bool) = true from by kernel_rfl) ?_; conv => whnf)
    | (refine .inl ⟨wrap64 (by omega), ?_⟩; conv => whnf)))
  · have hk : k < l.length := by omega
    have hst : (l.getD k default).steps.length ≤ 20 := hl.2 _ (by rw [getD_getElem _ _ hk]; exact List.getElem_mem hk)
    have hfs := flat_succ (f := fun r : Rul => r.steps.flatMap (targL s)) hk
    refine loop_k (ι := Nat) [2, 5, 6, 19, 20, 21, 26, 27] [2, 5] (fun q => q ≤ (l.getD k default).steps.length ∧ True) (fun q => (l.getD k default).steps.length - q) 0 (fun q => [(28, .pv (vint q))]) (fun q => [(17, .map KKey (seenLook fun x => decide (x ∈ (allT s (l.take k) ++ ((l.getD k default).steps.take q).flatMap (targL s)).filter (foundB s))))]) [] ⟨Nat.zero_le _, trivial⟩ ?_ (fun q hk => ?_)
    · (repeat' (first | exact PSub.rfl | exact rfl | exact PSubs.rfl | exact trivial | exact PSub.lit_sb rfl | refine And.intro ?_ ?_)); all_goals (intro v hv; simp)
    obtain ⟨hkn, hinv⟩ := hk
    conv => whnf
    rename_i hkn0 hinv0
    refine ⟨fun h => ?_, fun h => ?_⟩ <;> (try simp only [decide_eq_true_eq, decide_eq_false_iff_not, Bool.not_eq_true', Bool.not_eq_false', Int.toNat_natCast, beq_iff_eq, decide_eq_decide, beq_eq_false_iff_ne, ne_eq, reduceCtorEq] at h) <;> (conv => whnf)
    · have hq : q < (l.getD k default).steps.length := by omega
      have hfq := flat_succ (f := targL s) hq
      have hk1 := part_small hs.1 (id := ((l.getD k default).steps.getD q default).key.dev) (s := ((l.getD k default).steps.getD q default).key.cluster)
      repeat (any_goals (first
        | (refine ⟨fun (h : (_ : Bool) = true) => ?_, fun (h : (_ : Bool) = false) => ?_⟩ <;> (try simp only [decide_eq_true_eq, decide_eq_false_iff_not, Bool.not_eq_true', Bool.not_eq_false', Int.toNat_natCast, beq_iff_eq, decide_eq_decide, beq_eq_false_iff_ne, ne_eq, reduceCtorEq] at h) <;> (conv => whnf))
        | (refine .inr (.inr (.inr (.inr ⟨[(900000, 2), (900001, 5), (900002, 17)], [], _, _, _, (ac_typing_Writes_1 s ((l.getD k default).steps.getD q default).key ((allT s (l.take k) ++ ((l.getD k default).steps.take q).flatMap (targL s)).filter (foundB s)) hs), rfl, ?_⟩))); conv => whnf)
        | (refine .inl ⟨_, ac_typing_capability s.home ((l.getD k default).steps.getD q default).key.dev ((l.getD k default).steps.getD q default).key.cluster hs.1, ?_⟩; conv => whnf)
        | (refine .inl ⟨_, ac_cluster_Command ((partO s.home ((l.getD k default).steps.getD q default).key.dev ((l.getD k default).steps.getD q default).key.cluster).getD noClu) ((l.getD k default).steps.getD q default).name hk1, ?_⟩; conv => whnf)
        | (refine And.intro (by (try simp only [Int.toNat_natCast]); omega) ?_; conv => whnf)
        | (refine And.intro (show (_ : Bool) = true from by kernel_rfl) ?_; conv => whnf)
        | (refine .inl ⟨wrap64 (by omega), ?_⟩; conv => whnf)))
      · rename_i hk1'
        refine ⟨q + 1, [], ⟨by omega, trivial⟩, by first | omega | (dsimp only; omega), ?_⟩
        (repeat' (first | exact PSub.rfl | exact rfl | exact PSubs.rfl | exact trivial | exact PSub.lit_sb rfl | refine And.intro ?_ ?_))
        intro v hv
        rw [hfq, ← List.append_assoc, List.filter_append (l₁ := allT s (l.take k) ++ ((l.getD k default).steps.take q).flatMap (targL s)), targL, if_pos hk1', filt1]
      · exfalso
        omega
      · rename_i hk1'
        refine ⟨q + 1, [], ⟨by omega, trivial⟩, by first | omega | (dsimp only; omega), ?_⟩
        (repeat' (first | exact PSub.rfl | exact rfl | exact PSubs.rfl | exact trivial | exact PSub.lit_sb rfl | refine And.intro ?_ ?_))
        intro v hv
        rw [hfq, targL, if_neg hk1', if_neg h, List.append_nil]
      · rename_i hk1'
        have hce := com_eq s ((l.getD k default).steps.getD q default)
        have hsmd := cmdOf_small hk1 (s := ((l.getD k default).steps.getD q default).name)
        refine loop_k (ι := Nat) [2, 5, 6, 10, 19, 20, 21, 26, 27, 28, 62, 63] [2, 5, 10] (fun j => j ≤ (cmdOf ((partO s.home ((l.getD k default).steps.getD q default).key.dev ((l.getD k default).steps.getD q default).key.cluster).getD noClu).commands ((l.getD k default).steps.getD q default).name).effects.length ∧ True) (fun j => (cmdOf ((partO s.home ((l.getD k default).steps.getD q default).key.dev ((l.getD k default).steps.getD q default).key.cluster).getD noClu).commands ((l.getD k default).steps.getD q default).name).effects.length - j) 0 (fun j => [(64, .pv (vint j))]) (fun j => [(17, .map KKey (seenLook fun x => decide (x ∈ (allT s (l.take k) ++ ((l.getD k default).steps.take q).flatMap (targL s)).filter (foundB s) ++ (((cmdOf ((partO s.home ((l.getD k default).steps.getD q default).key.dev ((l.getD k default).steps.getD q default).key.cluster).getD noClu).commands ((l.getD k default).steps.getD q default).name).effects.take j).map (tKey ((l.getD k default).steps.getD q default))).filter (foundB s))))]) [] ⟨Nat.zero_le _, trivial⟩ ?_ (fun j hk => ?_)
        · (repeat' (first | exact PSub.rfl | exact rfl | exact PSubs.rfl | exact trivial | exact PSub.lit_sb rfl | refine And.intro ?_ ?_)); all_goals (intro v hv; simp)
        obtain ⟨hkn, hinv⟩ := hk
        conv => whnf
        rename_i hkn1 hinv1
        generalize hD : (cmdOf ((partO s.home ((l.getD k default).steps.getD q default).key.dev ((l.getD k default).steps.getD q default).key.cluster).getD noClu).commands ((l.getD k default).steps.getD q default).name).effects = D at hkn
        have hD2 : D.length ≤ 1048576 := by rw [← hD]; exact hsmd.2
        have h2k : ((l.getD k default).steps.getD q default).kind = 2 := by assumption
        refine ⟨fun h => ?_, fun h => ?_⟩ <;> (try simp only [decide_eq_true_eq, decide_eq_false_iff_not, Bool.not_eq_true', Bool.not_eq_false', Int.toNat_natCast, beq_iff_eq, decide_eq_decide, beq_eq_false_iff_ne, ne_eq, reduceCtorEq] at h) <;> (conv => whnf)
        · have hj : j < D.length := by omega
          have hacc : ∀ A : List Key, A ++ ((D.take (j + 1)).map (tKey ((l.getD k default).steps.getD q default))).filter (foundB s) = (A ++ ((D.take j).map (tKey ((l.getD k default).steps.getD q default))).filter (foundB s)) ++ (if foundB s (tKey ((l.getD k default).steps.getD q default) (D.getD j default)) = true then [tKey ((l.getD k default).steps.getD q default) (D.getD j default)] else []) := by
            intro A
            rw [take_succ_getD hj, List.map_append, List.filter_append, List.append_assoc, List.map_cons, List.map_nil, filt1]
          repeat (any_goals (first
            | (refine ⟨fun (h : (_ : Bool) = true) => ?_, fun (h : (_ : Bool) = false) => ?_⟩ <;> (try simp only [decide_eq_true_eq, decide_eq_false_iff_not, Bool.not_eq_true', Bool.not_eq_false', Int.toNat_natCast, beq_iff_eq, decide_eq_decide, beq_eq_false_iff_ne, ne_eq, reduceCtorEq] at h) <;> (conv => whnf))
            | (refine .inr (.inr (.inr (.inr ⟨[(900000, 2), (900001, 5), (900002, 17)], [], _, _, _, (ac_typing_Writes_1 s (tKey ((l.getD k default).steps.getD q default) (D.getD j default)) ((allT s (l.take k) ++ ((l.getD k default).steps.take q).flatMap (targL s)).filter (foundB s) ++ ((D.take j).map (tKey ((l.getD k default).steps.getD q default))).filter (foundB s)) hs), rfl, ?_⟩))); conv => whnf)
            | (refine And.intro (by (try simp only [Int.toNat_natCast]); omega) ?_; conv => whnf)
            | (refine And.intro (show (_ : Bool) = true from by kernel_rfl) ?_; conv => whnf)
            | (refine .inl ⟨wrap64 (by omega), ?_⟩; conv => whnf)))
          refine ⟨j + 1, [], ⟨by omega, trivial⟩, by first | omega | (dsimp only; omega), ?_⟩
          (repeat' (first | exact PSub.rfl | exact rfl | exact PSubs.rfl | exact trivial | exact PSub.lit_sb rfl | refine And.intro ?_ ?_))
          intro v hv
          rw [hacc]
        · refine .inl ⟨wrap64 (by omega), ?_⟩
          conv => whnf
          refine ⟨q + 1, [], ⟨by omega, trivial⟩, by first | omega | (dsimp only; omega), ?_⟩
          (repeat' (first | exact PSub.rfl | exact rfl | exact PSubs.rfl | exact trivial | exact PSub.lit_sb rfl | refine And.intro ?_ ?_))
          intro v hv
          rw [List.take_of_length_le (l := D) (by omega), hfq, ← List.append_assoc, List.filter_append (l₁ := allT s (l.take k) ++ ((l.getD k default).steps.take q).flatMap (targL s)), targL, if_neg hk1', if_pos h2k, effKeys, hce, hD]
          rfl
    · refine .inl ⟨wrap64 (by omega), ?_⟩
      conv => whnf
      refine ⟨k + 1, [], ⟨by omega, trivial⟩, by first | omega | (dsimp only; omega), ?_⟩
      (repeat' (first | exact PSub.rfl | exact rfl | exact PSubs.rfl | exact trivial | exact PSub.lit_sb rfl | refine And.intro ?_ ?_))
      intro v hv
      have e : allT s (l.take (k + 1)) = allT s (l.take k) ++ ((l.getD k default).steps.take q).flatMap (targL s) := by
        rw [List.take_of_length_le (l := (l.getD k default).steps) (by omega)]
        exact hfs
      rw [e]
  · have ek : k = l.length := by omega
    subst ek
    have hlen := allT_length (s := s) hl
    rw [List.take_length]
    refine .inl ⟨_, ac_typing_ascending ((allT s l).filter (foundB s)) (by omega), ?_⟩
    conv => whnf
    exact PSub.rfl

end Go.Abs

namespace Go.Abs
open Go.Proofs
set_option maxRecDepth 10000

theorem com_small {s : Sco} (hs : smallS s) {x : Stp} : smallC ((comO s x).getD noCmd) := by
  rw [com_eq]; exact cmdOf_small (part_small hs.1)

theorem ac_r31_targets (s : Sco) (x : Stp) (hs : smallS s) : AC Tryz.prog 65 [.pv (.agg (cSco s)), .pv (.agg (cStp x))] [] (.pv (roL 3 cKey (targL s x))) [] := by
  have hc : ((comO s x).getD noCmd).effects.length ≤ 1048576 := (com_small hs).2
  refine AC.of_awp (T := T) T_ok hm Tryz.call65 Tryz.func65 rfl rfl rfl ?_
  conv => whnf
  refine ⟨fun h => ?_, fun h => ?_⟩ <;> (try simp only [decide_eq_true_eq, decide_eq_false_iff_not, Bool.not_eq_true', Bool.not_eq_false', Int.toNat_natCast, beq_iff_eq, decide_eq_decide, beq_eq_false_iff_ne, ne_eq, reduceCtorEq] at h) <;> (conv => whnf)
  · repeat (any_goals (first
      | (refine ⟨fun (h : (_ : Bool) = true) => ?_, fun (h : (_ : Bool) = false) => ?_⟩ <;> (try simp only [decide_eq_true_eq, decide_eq_false_iff_not, Bool.not_eq_true', Bool.not_eq_false', Int.toNat_natCast, beq_iff_eq, decide_eq_decide, beq_eq_false_iff_ne, ne_eq, reduceCtorEq] at h) <;> (conv => whnf))
      | (refine And.intro (by (try simp only [Int.toNat_natCast]); omega) ?_; conv => whnf)
      | (refine And.intro (show (_ : Bool) = true from by kernel_rfl) ?_; conv => whnf)
      | (refine .inl ⟨wrap64 (by omega), ?_⟩; conv => whnf)))
    rw [targL, if_pos h]
    refine PSub.ro rfl fun i hi => ?_
    have : i = 0 := by simpa using hi
    subst this
    exact PSubs.rfl
  repeat (any_goals (first
    | (refine ⟨fun (h : (_ : Bool) = true) => ?_, fun (h : (_ : Bool) = false) => ?_⟩ <;> (try simp only [decide_eq_true_eq, decide_eq_false_iff_not, Bool.not_eq_true', Bool.not_eq_false', Int.toNat_natCast, beq_iff_eq, decide_eq_decide, beq_eq_false_iff_ne, ne_eq, reduceCtorEq] at h) <;> (conv => whnf))
    | (refine .inl ⟨_, ac_r31_command s x hs, ?_⟩; conv => whnf)
    | (refine And.intro (by (try simp only [Int.toNat_natCast]); omega) ?_; conv => whnf)
    | (refine And.intro (show (_ : Bool) = true from by kernel_rfl) ?_; conv => whnf)
    | (refine .inl ⟨wrap64 (by omega), ?_⟩; conv => whnf)))
  · rename_i h1
    rw [targL, if_neg h1, if_neg h]
    exact PSub.nilL rfl
  · rename_i h1 h2
    rw [targL, if_neg h1, if_pos h2]
    have : (comO s x).getD noCmd = noCmd := by
      cases hx : comO s x with
      | none => rfl
      | some d => rw [hx] at h; cases h
    rw [this]
    exact PSub.nilL rfl
  rename_i h1 h2
  rw [targL, if_neg h1, if_pos h2]
  unfold effKeys
  refine loop_k (ι := Nat) [3, 5] [3, 5] (fun k => k ≤ ((comO s x).getD noCmd).effects.length ∧ True) (fun k => ((comO s x).getD noCmd).effects.length - k) 0 (fun k => [(7, .own 500), (8, .pv (vint k))]) (fun k => [(500, rowL 3 cKey ((((comO s x).getD noCmd).effects.take k).map (tKey x)))]) [] ⟨Nat.zero_le _, trivial⟩ ?_ (fun k hk => ?_)
  · (repeat' (first | exact PSub.rfl | exact rfl | exact PSubs.rfl | exact trivial | exact PSub.lit_sb rfl | refine And.intro ?_ ?_)); all_goals (skip)
  obtain ⟨hkn, hinv⟩ := hk
  conv => whnf
  have hmk : ((((comO s x).getD noCmd).effects.take k).map (tKey x)).length = k := by simp; omega
  repeat (any_goals (first
    | (refine ⟨fun (h : (_ : Bool) = true) => ?_, fun (h : (_ : Bool) = false) => ?_⟩ <;> (try simp only [decide_eq_true_eq, decide_eq_false_iff_not, Bool.not_eq_true', Bool.not_eq_false', Int.toNat_natCast, beq_iff_eq, decide_eq_decide, beq_eq_false_iff_ne, ne_eq, reduceCtorEq] at h) <;> (conv => whnf))
    | (refine And.intro (by (try simp only [Int.toNat_natCast]); omega) ?_; conv => whnf)
    | (refine And.intro (show (_ : Bool) = true from by kernel_rfl) ?_; conv => whnf)
    | (refine .inl ⟨wrap64 (by omega), ?_⟩; conv => whnf)))
  · refine ⟨k + 1, [(500, 50)], ⟨by omega, trivial⟩, by omega, ?_⟩
    rw [take_succ_getD (by omega), List.map_append]
    (repeat' (first | exact PSub.rfl | exact rfl | exact PSubs.rfl | exact trivial | exact PSub.lit_sb rfl | refine And.intro ?_ ?_))
    · simp
    · refine rows_snocF (fun i hi => by simp only [if_pos hi]; exact PSubs.rfl) (by simp only [if_neg (Nat.lt_irrefl _), Nat.sub_self]; exact PSubs.rfl)
  · rw [List.take_of_length_le (by omega)]
    exact .rfl

theorem found_bound {s : Sco} {l : List Rul} (hl : fewR l) {k q j : Nat} {x : Stp} {r : Rul} (hr : r.steps.length ≤ 20) : ((allT s (l.take k) ++ (r.steps.take q).flatMap (targL s) ++ (targL s x).take j).filter (foundB s)).length ≤ 20000 := by
  by_cases h : homE s.home = 0
  · have h1 : (allT s (l.take k)).length ≤ (l.take k).length * 240 := flat_length _ fun r hr => by
      have h2 := flat_length (f := targL s) (m := 12) r.steps (fun x _ => targL_length h)
      have := hl.2 r (List.mem_of_mem_take hr)
      omega
    have h2 := flat_length (f := targL s) (m := 12) (r.steps.take q) (fun x _ => targL_length h)
    have h3 := targL_length (s := s) (x := x) h
    have h4 := List.length_filter_le (foundB s) (allT s (l.take k) ++ (r.steps.take q).flatMap (targL s) ++ (targL s x).take j)
    have := hl.1
    simp only [List.length_append, List.length_take] at h1 h2 h4
    omega
  · have : ∀ L : List Key, L.filter (foundB s) = [] := fun L => by
      rw [List.filter_eq_nil_iff]
      intro k _
      have : findA s.home k = none := by
        rw [findA, partO, if_neg]
        · rfl
        · intro x; have := x.1; simp [findB, h] at this
      simp [foundB, this]
    rw [this]; exact Nat.zero_le _
theorem targL_small {s : Sco} (hs : smallS s) {x : Stp} : (targL s x).length ≤ 1048576 := by
  unfold targL
  split
  · simp
  · split
    · unfold effKeys; rw [List.length_map]; exact (com_small hs).2
    · exact Nat.zero_le _

set_option maxHeartbeats 1000000 in
theorem ac_r31_Writes (s : Sco) (l : List Rul) (hs : smallS s) (hl : fewR l) : AC Tryz.prog 27 [.pv (.agg (cSco s)), .pv (roL 15 cRul l)] [] (.pv (roL 3 cKey (writesL s l))) [] := by
  have hl60 := hl.1
  refine AC.of_awp (T := T) T_ok hm Tryz.call27 Tryz.func27 rfl rfl rfl ?_
  conv => whnf
  refine loop_k (ι := Nat) [1, 2] [2] (fun k => k ≤ l.length ∧ True) (fun k => l.length - k) 0 (fun k => [(5, .pv (roL 3 cKey (sortK ((allT s (l.take k)).filter (foundB s))))), (6, .pv (vint k))]) (fun k => []) [] ⟨Nat.zero_le _, trivial⟩ ?_ (fun k hk => ?_)
  · (repeat' (first | exact PSub.rfl | exact rfl | exact PSubs.rfl | exact trivial | exact PSub.lit_sb rfl | refine And.intro ?_ ?_)); all_goals (exact PSub.nilL rfl)
  obtain ⟨hkn, hinv⟩ := hk
  conv => whnf
  refine ⟨fun h => ?_, fun h => ?_⟩ <;> (try simp only [decide_eq_true_eq, decide_eq_false_iff_not, Bool.not_eq_true', Bool.not_eq_false', Int.toNat_natCast, beq_iff_eq, decide_eq_decide, beq_eq_false_iff_ne, ne_eq, reduceCtorEq] at h) <;> (conv => whnf)
  · have hk : k < l.length := by omega
    have hst : (l.getD k default).steps.length ≤ 20 := hl.2 _ (by rw [getD_getElem _ _ hk]; exact List.getElem_mem hk)
    have hfs := flat_succ (f := fun r : Rul => r.steps.flatMap (targL s)) hk
    repeat (any_goals (first
      | (refine ⟨fun (h : (_ : Bool) = true) => ?_, fun (h : (_ : Bool) = false) => ?_⟩ <;> (try simp only [decide_eq_true_eq, decide_eq_false_iff_not, Bool.not_eq_true', Bool.not_eq_false', Int.toNat_natCast, beq_iff_eq, decide_eq_decide, beq_eq_false_iff_ne, ne_eq, reduceCtorEq] at h) <;> (conv => whnf))
      | (refine And.intro (by (try simp only [Int.toNat_natCast]); omega) ?_; conv => whnf)
      | (refine And.intro (show (_ : Bool) = true from by kernel_rfl) ?_; conv => whnf)
      | (refine .inl ⟨wrap64 (by omega), ?_⟩; conv => whnf)))
    refine loop_k (ι := Nat) [1, 2, 6] [2] (fun q => q ≤ (l.getD k default).steps.length ∧ True) (fun q => (l.getD k default).steps.length - q) 0 (fun q => [(5, .pv (roL 3 cKey (sortK ((allT s (l.take k) ++ ((l.getD k default).steps.take q).flatMap (targL s)).filter (foundB s))))), (7, .pv (vint q))]) (fun q => []) [] ⟨Nat.zero_le _, trivial⟩ ?_ (fun q hk => ?_)
    · (repeat' (first | exact PSub.rfl | exact rfl | exact PSubs.rfl | exact trivial | exact PSub.lit_sb rfl | refine And.intro ?_ ?_)); all_goals (exact PSub.lst (by simp))
    obtain ⟨hkn, hinv⟩ := hk
    conv => whnf
    rename_i hkn0 hinv0
    repeat (any_goals (first
      | (refine ⟨fun (h : (_ : Bool) = true) => ?_, fun (h : (_ : Bool) = false) => ?_⟩ <;> (try simp only [decide_eq_true_eq, decide_eq_false_iff_not, Bool.not_eq_true', Bool.not_eq_false', Int.toNat_natCast, beq_iff_eq, decide_eq_decide, beq_eq_false_iff_ne, ne_eq, reduceCtorEq] at h) <;> (conv => whnf))
      | (refine .inl ⟨_, ac_r31_targets s ((l.getD k default).steps.getD q default) hs, ?_⟩; conv => whnf)
      | (refine And.intro (by (try simp only [Int.toNat_natCast]); omega) ?_; conv => whnf)
      | (refine And.intro (show (_ : Bool) = true from by kernel_rfl) ?_; conv => whnf)
      | (refine .inl ⟨wrap64 (by omega), ?_⟩; conv => whnf)))
    · have hq : q < (l.getD k default).steps.length := by omega
      have hfq := flat_succ (f := targL s) hq
      have htl := targL_small hs (x := (l.getD k default).steps.getD q default)
      have hfb := fun j => found_bound (s := s) hl (k := k) (q := q) (j := j) (x := (l.getD k default).steps.getD q default) hst
      refine loop_k (ι := Nat) [1, 2, 6, 7, 8] [2] (fun j => j ≤ (targL s ((l.getD k default).steps.getD q default)).length ∧ True) (fun j => (targL s ((l.getD k default).steps.getD q default)).length - j) 0 (fun j => [(5, .pv (roL 3 cKey (sortK ((allT s (l.take k) ++ ((l.getD k default).steps.take q).flatMap (targL s) ++ (targL s ((l.getD k default).steps.getD q default)).take j).filter (foundB s))))), (9, .pv (vint j))]) (fun j => []) [] ⟨Nat.zero_le _, trivial⟩ ?_ (fun j hk => ?_)
      · (repeat' (first | exact PSub.rfl | exact rfl | exact PSubs.rfl | exact trivial | exact PSub.lit_sb rfl | refine And.intro ?_ ?_)); all_goals (exact PSub.lst (by simp))
      obtain ⟨hkn, hinv⟩ := hk
      conv => whnf
      rename_i hkn1 hinv1
      have hsl := sortK_length ((allT s (l.take k) ++ ((l.getD k default).steps.take q).flatMap (targL s) ++ (targL s ((l.getD k default).steps.getD q default)).take j).filter (foundB s))
      have hsl2 := hfb j
      repeat (any_goals (first
        | (refine ⟨fun (h : (_ : Bool) = true) => ?_, fun (h : (_ : Bool) = false) => ?_⟩ <;> (try simp only [decide_eq_true_eq, decide_eq_false_iff_not, Bool.not_eq_true', Bool.not_eq_false', Int.toNat_natCast, beq_iff_eq, decide_eq_decide, beq_eq_false_iff_ne, ne_eq, reduceCtorEq] at h) <;> (conv => whnf))
        | (refine .inl ⟨_, ac_r22_Find s.home ((targL s ((l.getD k default).steps.getD q default)).getD j default) hs.1, ?_⟩; conv => whnf)
        | (refine .inl ⟨_, ac_r22_Put (sortK ((allT s (l.take k) ++ ((l.getD k default).steps.take q).flatMap (targL s) ++ (targL s ((l.getD k default).steps.getD q default)).take j).filter (foundB s))) ((targL s ((l.getD k default).steps.getD q default)).getD j default) (by omega), ?_⟩; conv => whnf)
        | (refine And.intro (by (try simp only [Int.toNat_natCast]); omega) ?_; conv => whnf)
        | (refine And.intro (show (_ : Bool) = true from by kernel_rfl) ?_; conv => whnf)
        | (refine .inl ⟨wrap64 (by omega), ?_⟩; conv => whnf)))
      · have hj : j < (targL s ((l.getD k default).steps.getD q default)).length := by omega
        refine ⟨j + 1, [], ⟨by omega, trivial⟩, by first | omega | (dsimp only; omega), ?_⟩
        (repeat' (first | exact PSub.rfl | exact rfl | exact PSubs.rfl | exact trivial | exact PSub.lit_sb rfl | refine And.intro ?_ ?_))
        refine PSub.lst ?_
        rw [take_succ_getD hj, ← List.append_assoc, filt_snoc, if_pos (show foundB s _ = true from h), sortK_snoc]
      · have hj : j < (targL s ((l.getD k default).steps.getD q default)).length := by omega
        refine ⟨j + 1, [], ⟨by omega, trivial⟩, by first | omega | (dsimp only; omega), ?_⟩
        (repeat' (first | exact PSub.rfl | exact rfl | exact PSubs.rfl | exact trivial | exact PSub.lit_sb rfl | refine And.intro ?_ ?_))
        refine PSub.lst ?_
        rw [take_succ_getD hj, ← List.append_assoc, filt_snoc, if_neg (show ¬ foundB s _ = true from fun x => by rw [foundB, h] at x; cases x)]
      · refine ⟨q + 1, [], ⟨by omega, trivial⟩, by first | omega | (dsimp only; omega), ?_⟩
        (repeat' (first | exact PSub.rfl | exact rfl | exact PSubs.rfl | exact trivial | exact PSub.lit_sb rfl | refine And.intro ?_ ?_))
        refine PSub.lst ?_
        rw [List.take_of_length_le (l := targL s _) (by omega), hfq, List.append_assoc]
    · refine ⟨k + 1, [], ⟨by omega, trivial⟩, by first | omega | (dsimp only; omega), ?_⟩
      (repeat' (first | exact PSub.rfl | exact rfl | exact PSubs.rfl | exact trivial | exact PSub.lit_sb rfl | refine And.intro ?_ ?_))
      refine PSub.lst ?_
      rw [List.take_of_length_le (l := (l.getD k default).steps) (by omega)]
      exact congrArg (fun L => sortK (L.filter (foundB s))) hfs.symm
  · have ek : k = l.length := by omega
    subst ek
    rw [List.take_length]
    exact PSub.rfl

end Go.Abs
