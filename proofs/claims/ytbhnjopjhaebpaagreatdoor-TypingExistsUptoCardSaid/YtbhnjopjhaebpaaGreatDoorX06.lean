/- Contracts: walks over expressions. -/
import Derived.Test.YtbhnjopjhaebpaaGreatDoorX05
import Derived.Test.YtbhnjopjhaebpaaGreatDoorX04
import Derived.Test.YtbhnjopjhaebpaaGreatDoorX03
import Derived.Shelf.SlSortCmp.NoneTotal

set_option linter.unusedVariables false
set_option linter.unusedSimpArgs false
set_option linter.unusedSectionVars false

namespace Go.Abs
open Go.Proofs
set_option maxRecDepth 10000

theorem ac_r28_Size (e : Ex) (he : sizeE e ≤ 1073741824) : AC Tryz.prog 15 [.pv (.agg (cEx e))] [] (.pv (vint (sizeE e))) [] := by
  have hsz := sizeE_eq e
  have hkl := sizeL_length (l := e.kids)
  have ih : ∀ k, k < e.kids.length → AC Tryz.prog 15 [.pv (.agg (cEx (e.kids.getD k default)))] [] (.pv (vint (sizeE (e.kids.getD k default)))) [] := fun k hk =>
    have := Ex.kid_lt (Ex.kid_at hk)
    ac_r28_Size (e.kids.getD k default) (by have := sizeL_mem (Ex.kid_at hk); omega)
  refine AC.ex ?_
  refine AC.of_awp (T := T) T_ok hm Tryz.call15 Tryz.func15 rfl rfl rfl ?_
  conv => whnf
  refine loop_k (ι := Nat) [1] [1] (fun k => k ≤ e.kids.length ∧ True) (fun k => e.kids.length - k) 0 (fun k => [(3, .pv (vint (1 + sizeL (e.kids.take k)))), (4, .pv (vint k))]) (fun _ => []) [] ⟨Nat.zero_le _, trivial⟩ ?_ (fun k hk => ?_)
  · (repeat' (first | exact PSub.rfl | exact rfl | exact PSubs.rfl | exact trivial | exact PSub.lit_sb rfl | refine And.intro ?_ ?_))
  obtain ⟨hkn, -⟩ := hk
  conv => whnf
  have hle := sizeL_le_take (l := e.kids) (k := k)
  repeat (any_goals (first
    | (refine ⟨fun (h : (_ : Bool) = true) => ?_, fun (h : (_ : Bool) = false) => ?_⟩ <;> (try simp only [decide_eq_true_eq, decide_eq_false_iff_not, Bool.not_eq_true', Bool.not_eq_false', Int.toNat_natCast, beq_iff_eq, decide_eq_decide, beq_eq_false_iff_ne, ne_eq, reduceCtorEq] at h) <;> (conv => whnf))
    | (refine .inl ⟨_, ih k (by omega), ?_⟩; conv => whnf)
    | (refine And.intro (by (try simp only [Int.toNat_natCast]); omega) ?_; conv => whnf)
    | (refine And.intro (show (_ : Bool) = true from by kernel_rfl) ?_; conv => whnf)
    | (refine .inl ⟨wrap64 (by omega), ?_⟩; conv => whnf)))
  · have h1 : k < e.kids.length := by omega
    have hst := sizeL_take e.kids k h1
    have hmem := sizeL_le_take (l := e.kids) (k := k + 1)
    refine .inl ⟨wrap64 (by omega), ?_⟩
    conv => whnf
    refine .inl ⟨wrap64 (by omega), ?_⟩
    conv => whnf
    refine ⟨k + 1, [], ⟨by omega, trivial⟩, by first | omega | (dsimp only; omega), ?_⟩
    (repeat' (first | exact PSub.rfl | exact rfl | exact PSubs.rfl | exact trivial | exact PSub.lit_sb rfl | refine And.intro ?_ ?_))
    refine PSub.int ?_
    omega
  · refine PSub.int ?_
    rw [List.take_of_length_le (by omega)]
    omega
termination_by SizeOf.sizeOf e

theorem ac_r28_walk (e : Ex) (l c : Int) (hl : 0 ≤ l ∧ l ≤ 25) (hc : 0 ≤ c ∧ c ≤ 200) : AC Tryz.prog 83 [.pv (.agg (cEx e)), .pv (vint l), .pv (vint c)] [] (.pv (.tup [vint (wlkE e l c).1, vint (wlkE e l c).2])) [] := by
  have ih : ∀ k l c, k < e.kids.length → 0 ≤ l ∧ l ≤ 25 → 0 ≤ c ∧ c ≤ 200 → AC Tryz.prog 83 [.pv (.agg (cEx (e.kids.getD k default))), .pv (vint l), .pv (vint c)] [] (.pv (.tup [vint (wlkE (e.kids.getD k default) l c).1, vint (wlkE (e.kids.getD k default) l c).2])) [] := fun k l c hk hl hc =>
    have := Ex.kid_lt (Ex.kid_at hk)
    ac_r28_walk (e.kids.getD k default) l c hl hc
  have heq := wlkE_eq e l c
  refine AC.ex ?_
  refine AC.of_awp (T := T) T_ok hm Tryz.call83 Tryz.func83 rfl rfl rfl ?_
  conv => whnf
  repeat (any_goals (first
    | (refine ⟨fun (h : (_ : Bool) = true) => ?_, fun (h : (_ : Bool) = false) => ?_⟩ <;> (try simp only [decide_eq_true_eq, decide_eq_false_iff_not, Bool.not_eq_true', Bool.not_eq_false', Int.toNat_natCast, beq_iff_eq, decide_eq_decide, beq_eq_false_iff_ne, ne_eq, reduceCtorEq] at h) <;> (conv => whnf))
    | (refine .inl ⟨_, (ac_r28_node e).ex', ?_⟩; conv => whnf)
    | (refine And.intro (by (try simp only [Int.toNat_natCast]); omega) ?_; conv => whnf)
    | (refine And.intro (show (_ : Bool) = true from by kernel_rfl) ?_; conv => whnf)
    | (refine .inl ⟨wrap64 (by omega), ?_⟩; conv => whnf)))
  · rw [heq, if_pos h]
    refine ⟨?_, ?_⟩ <;> (conv => whnf)
    all_goals exact PSub.rfl
  · rename_i h1
    rw [heq, if_neg h1, if_pos h]
    refine ⟨?_, ?_⟩ <;> (conv => whnf)
    all_goals exact PSub.rfl
  · rename_i h1 h2
    rw [heq, if_neg h1, if_neg (by omega), if_pos h]
    refine ⟨?_, ?_⟩ <;> (conv => whnf)
    all_goals exact PSub.rfl
  rename_i h1 h2
  rw [if_neg h1, if_neg (by omega), if_neg (by simpa using h)] at heq
  have hk8 := nodeE_kids (e := e) (by simpa using h)
  refine loop_k (ι := Nat × Int) [1, 3] [3] (fun x => x.1 ≤ e.kids.length ∧ (0 ≤ x.2 ∧ x.2 ≤ 200) ∧ wlkL (e.kids.drop x.1) (l + 1) x.2 = wlkE e l c) (fun x => e.kids.length - x.1) (0, c + 1) (fun x => [(9, .pv (vint x.2)), (10, .pv (vint x.1))]) (fun _ => []) [] ⟨Nat.zero_le _, ⟨by omega, by omega⟩, by rw [heq]; rfl⟩ ?_ (fun x hk => ?_)
  · (repeat' (first | exact PSub.rfl | exact rfl | exact PSubs.rfl | exact trivial | exact PSub.lit_sb rfl | refine And.intro ?_ ?_))
  obtain ⟨k, n⟩ := x
  obtain ⟨hkn, hn, hinv⟩ := hk
  dsimp only at hkn hn hinv
  conv => whnf
  repeat (any_goals (first
    | (refine ⟨fun (h : (_ : Bool) = true) => ?_, fun (h : (_ : Bool) = false) => ?_⟩ <;> (try simp only [decide_eq_true_eq, decide_eq_false_iff_not, Bool.not_eq_true', Bool.not_eq_false', Int.toNat_natCast, beq_iff_eq, decide_eq_decide, beq_eq_false_iff_ne, ne_eq, reduceCtorEq] at h) <;> (conv => whnf))
    | (refine .inl ⟨_, ih k (l + 1) n (by omega) (by omega) (by omega), ?_⟩; conv => whnf)
    | (refine And.intro (by (try simp only [Int.toNat_natCast]); omega) ?_; conv => whnf)
    | (refine And.intro (show (_ : Bool) = true from by kernel_rfl) ?_; conv => whnf)
    | (refine .inl ⟨wrap64 (by omega), ?_⟩; conv => whnf)))
  · have hx := drop_getD (l := e.kids) (k := k) (by omega)
    rw [hx, wlkL, if_pos h] at hinv
    rw [hinv]
    refine ⟨?_, ?_⟩ <;> (conv => whnf)
    all_goals exact PSub.rfl
  · have hx := drop_getD (l := e.kids) (k := k) (by omega)
    rw [hx, wlkL, if_neg (by simpa using h)] at hinv
    have hb := wlkE_b (e.kids.getD k default) (l + 1) n (by omega) (by omega)
    refine ⟨(k + 1, (wlkE (e.kids.getD k default) (l + 1) n).1), [], ⟨by dsimp only; omega, hb, hinv⟩, by first | omega | (dsimp only; omega), ?_⟩
    (repeat' (first | exact PSub.rfl | exact rfl | exact PSubs.rfl | exact trivial | exact PSub.lit_sb rfl | refine And.intro ?_ ?_))
  · rw [List.drop_of_length_le (by omega), wlkL] at hinv
    rw [← hinv]
    refine ⟨?_, ?_⟩ <;> (conv => whnf)
    all_goals exact PSub.rfl
termination_by SizeOf.sizeOf e

/-- homehubref28.Check -/
theorem exE_wlk (e : Ex) : (wlkE e 1 0).2 = exE e := (wlk_chk e 1 0).1
theorem ac_r28_Check (e : Ex) : AC Tryz.prog 39 [.pv (.agg (cEx e))] [] (.pv (vint (exE e))) [] := by
  refine AC.of_awp (T := T) T_ok hm Tryz.call39 Tryz.func39 rfl rfl rfl ?_
  conv => whnf
  repeat (any_goals (first
    | (refine ⟨fun (h : (_ : Bool) = true) => ?_, fun (h : (_ : Bool) = false) => ?_⟩ <;> (try simp only [decide_eq_true_eq, decide_eq_false_iff_not, Bool.not_eq_true', Bool.not_eq_false', Int.toNat_natCast, beq_iff_eq, decide_eq_decide, beq_eq_false_iff_ne, ne_eq, reduceCtorEq] at h) <;> (conv => whnf))
    | (refine .inl ⟨_, ac_r28_walk e 1 0 (by omega) (by omega), ?_⟩; conv => whnf)
    | (refine And.intro (by (try simp only [Int.toNat_natCast]); omega) ?_; conv => whnf)
    | (refine And.intro (show (_ : Bool) = true from by kernel_rfl) ?_; conv => whnf)
    | (refine .inl ⟨wrap64 (by omega), ?_⟩; conv => whnf)))
  exact PSub.int (exE_wlk e)

end Go.Abs

namespace Go.Abs
open Go.Proofs
set_option maxRecDepth 10000

/-- what expr.Check's visit finds at a node -/
def visE (e : Ex) (l c : Int) : Int := if 24 < l then 22 else if 200 < c + 1 then 3 else nodeE e

theorem ac_expr_Check_1 (e : Ex) (l c f : Int) (hc : 0 ≤ c ∧ c ≤ 200) : AC Tryz.prog 79 [.pv (.agg (cEx e)), .pv (vint l), .ptr 900000 0, .ptr 900001 0] [(900000, .pbox [vint c]), (900001, .pbox [vint f])]
    (.pv (vbool (decide (visE e l c = 0)))) [(900000, .pbox [vint (c + 1)]), (900001, .pbox [vint (visE e l c)])] := by
  refine AC.of_awp_gen (T := T) T_ok hm Tryz.call79 Tryz.func79 rfl rfl rfl rfl rfl rfl ?_
  conv => whnf
  refine .inl ⟨wrap64 (by omega), ?_⟩
  conv => whnf
  repeat (any_goals (first
    | (refine ⟨fun (h : (_ : Bool) = true) => ?_, fun (h : (_ : Bool) = false) => ?_⟩ <;> (try simp only [decide_eq_true_eq, decide_eq_false_iff_not, Bool.not_eq_true', Bool.not_eq_false', Int.toNat_natCast, beq_iff_eq, decide_eq_decide, beq_eq_false_iff_ne, ne_eq, reduceCtorEq] at h) <;> (conv => whnf))
    | (refine .inl ⟨_, ac_expr_node e, ?_⟩; conv => whnf)
    | (refine And.intro (by (try simp only [Int.toNat_natCast]); omega) ?_; conv => whnf)
    | (refine And.intro (show (_ : Bool) = true from by kernel_rfl) ?_; conv => whnf)
    | (refine .inl ⟨wrap64 (by omega), ?_⟩; conv => whnf)))
  · rw [show visE e l c = 22 from by simp [visE, h]]
    refine ⟨[], ?_⟩
    conv => whnf
    (repeat' (first | exact PSub.rfl | exact rfl | exact PSubs.rfl | exact trivial | exact PSub.lit_sb rfl | refine And.intro ?_ ?_))
  · rename_i h1
    rw [show visE e l c = 3 from by simp only [visE, if_neg h1, if_pos h]]
    refine ⟨[], ?_⟩
    conv => whnf
    (repeat' (first | exact PSub.rfl | exact rfl | exact PSubs.rfl | exact trivial | exact PSub.lit_sb rfl | refine And.intro ?_ ?_))
  · rename_i h1
    rw [show visE e l c = nodeE e from by simp only [visE, if_neg h1, if_neg h]]
    refine ⟨[], ?_⟩
    conv => whnf
    (repeat' (first | exact PSub.rfl | exact rfl | exact PSubs.rfl | exact trivial | exact PSub.lit_sb rfl | refine And.intro ?_ ?_))

theorem chk_vis (e : Ex) (l c : Int) : chkE e l c = if visE e l c = 0 then chkL e.kids (l + 1) (c + 1) else (c + 1, visE e l c) := by
  rw [chkE_eq, visE]
  by_cases h1 : 24 < l
  · simp [h1]
  · by_cases h2 : 200 < c + 1
    · simp [h1, h2]
    · simp only [if_neg h1, if_neg h2]
      by_cases h3 : nodeE e = 0
      · simp [h3]
      · simp [h3]

/-- what expr.Check's walk is handed: the visit, the walk itself, the count and the error -/
abbrev chkO (c f : Int) : Upd := [(900000, .box [.fn 79 [.ptr 900002 0, .ptr 900003 0]]), (900001, .box [.fn 119 [.ptr 900000 0, .ptr 900001 0]]), (900002, .pbox [vint c]), (900003, .pbox [vint f])]

theorem ac_expr_walk_1_chk (e : Ex) (l c f : Int) (hl : 0 ≤ l ∧ l ≤ 25) (hc : 0 ≤ c ∧ c ≤ 200) : AC Tryz.prog 119 [.pv (.agg (cEx e)), .pv (vint l), .ptr 900000 0, .ptr 900001 0] (chkO c f) (.pv (vbool (decide ((chkE e l c).2 = 0)))) (chkO (chkE e l c).1 (chkE e l c).2) := by
  have ih : ∀ k l c f, k < e.kids.length → 0 ≤ l ∧ l ≤ 25 → 0 ≤ c ∧ c ≤ 200 → AC Tryz.prog 119 [.pv (.agg (cEx (e.kids.getD k default))), .pv (vint l), .ptr 900000 0, .ptr 900001 0] (chkO c f) (.pv (vbool (decide ((chkE (e.kids.getD k default) l c).2 = 0)))) (chkO (chkE (e.kids.getD k default) l c).1 (chkE (e.kids.getD k default) l c).2) := fun k l c f hk hl hc =>
    have := Ex.kid_lt (Ex.kid_at hk)
    ac_expr_walk_1_chk (e.kids.getD k default) l c f hl hc
  have heq := chk_vis e l c
  refine AC.ex ?_
  refine AC.of_awp_gen (T := T) T_ok hm Tryz.call119 Tryz.func119 rfl rfl rfl rfl rfl rfl ?_
  conv => whnf
  refine .inr (.inr (.inr (.inr ⟨[(900000, 900002), (900001, 900003)], [], _, _, _, (ac_expr_Check_1 e l c f hc).ex', rfl, ?_⟩)))
  conv => whnf
  refine ⟨fun h => ?_, fun h => ?_⟩ <;> (try simp only [decide_eq_true_eq, decide_eq_false_iff_not, Bool.not_eq_true', Bool.not_eq_false', Int.toNat_natCast, beq_iff_eq, decide_eq_decide, beq_eq_false_iff_ne, ne_eq, reduceCtorEq] at h) <;> (conv => whnf)
  · rw [if_neg h] at heq
    refine ⟨[], ?_⟩
    rw [heq, decide_eq_false h]
    conv => whnf
    (repeat' (first | exact PSub.rfl | exact rfl | exact PSubs.rfl | exact trivial | exact PSub.lit_sb rfl | refine And.intro ?_ ?_))
  rw [if_pos h] at heq
  have hk8 := nodeE_kids (e := e) (by
    unfold visE at h
    split at h
    · cases h
    · split at h
      · cases h
      · exact h)
  have hc2 : c + 1 ≤ 200 := by
    unfold visE at h
    split at h
    · cases h
    · split at h
      · cases h
      · omega
  have hl2 : l ≤ 24 := by
    unfold visE at h
    split at h
    · cases h
    · omega
  refine loop_k (ι := Nat × Int) [1, 2, 3, 15, 16] [900000, 900001] (fun x => x.1 ≤ e.kids.length ∧ (0 ≤ x.2 ∧ x.2 ≤ 200) ∧ chkL (e.kids.drop x.1) (l + 1) x.2 = chkE e l c) (fun x => e.kids.length - x.1) (0, c + 1) (fun x => [(17, .pv (vint x.1))]) (fun x => [(900002, .pbox [vint x.2]), (900003, .pbox [vint 0])]) [] ⟨Nat.zero_le _, ⟨by omega, by omega⟩, by rw [heq]; rfl⟩ ?_ (fun x hk => ?_)
  · (repeat' (first | exact PSub.rfl | exact rfl | exact PSubs.rfl | exact trivial | exact PSub.lit_sb rfl | refine And.intro ?_ ?_))
    exact PSub.int h
  obtain ⟨k, n⟩ := x
  obtain ⟨hkn, hn, hinv⟩ := hk
  dsimp only at hkn hn hinv
  conv => whnf
  repeat (any_goals (first
    | (refine ⟨fun (h : (_ : Bool) = true) => ?_, fun (h : (_ : Bool) = false) => ?_⟩ <;> (try simp only [decide_eq_true_eq, decide_eq_false_iff_not, Bool.not_eq_true', Bool.not_eq_false', Int.toNat_natCast, beq_iff_eq, decide_eq_decide, beq_eq_false_iff_ne, ne_eq, reduceCtorEq] at h) <;> (conv => whnf))
    | (refine .inr (.inr (.inr (.inr ⟨[(900000, 900000), (900001, 900001), (900002, 900002), (900003, 900003)], [], _, _, _, ih k (l + 1) n 0 (by omega) (by omega) (by omega), rfl, ?_⟩))); conv => whnf)
    | (refine And.intro (by (try simp only [Int.toNat_natCast]); omega) ?_; conv => whnf)
    | (refine And.intro (show (_ : Bool) = true from by kernel_rfl) ?_; conv => whnf)
    | (refine .inl ⟨wrap64 (by omega), ?_⟩; conv => whnf)))
  · have hx := drop_getD (l := e.kids) (k := k) (by omega)
    rw [hx, chkL, if_pos h] at hinv
    refine ⟨[], ?_⟩
    rw [← hinv, decide_eq_false h]
    conv => whnf
    (repeat' (first | exact PSub.rfl | exact rfl | exact PSubs.rfl | exact trivial | exact PSub.lit_sb rfl | refine And.intro ?_ ?_))
  · have hx := drop_getD (l := e.kids) (k := k) (by omega)
    rw [hx, chkL, if_neg (by simpa using h)] at hinv
    have hb := chkE_b (e.kids.getD k default) (l + 1) n (by omega) (by omega)
    refine ⟨(k + 1, (chkE (e.kids.getD k default) (l + 1) n).1), [], ⟨by dsimp only; omega, ⟨hb.1, hb.2.2 h⟩, hinv⟩, by first | omega | (dsimp only; omega), ?_⟩
    (repeat' (first | exact PSub.rfl | exact rfl | exact PSubs.rfl | exact trivial | exact PSub.lit_sb rfl | refine And.intro ?_ ?_))
    exact PSub.int h
  · rw [List.drop_of_length_le (by omega), chkL] at hinv
    refine ⟨[], ?_⟩
    rw [← hinv]
    conv => whnf
    (repeat' (first | exact PSub.rfl | exact rfl | exact PSubs.rfl | exact trivial | exact PSub.lit_sb rfl | refine And.intro ?_ ?_))
termination_by SizeOf.sizeOf e

theorem ac_expr_walk_chk (e : Ex) (f : Int) : AC Tryz.prog 78 [.pv (.agg (cEx e)), .fn 79 [.ptr 900002 0, .ptr 900003 0]] [(900002, .pbox [vint 0]), (900003, .pbox [vint f])] (.pv (vbool (decide (exE e = 0))))
    [(900002, .pbox [vint (chkE e 1 0).1]), (900003, .pbox [vint (exE e)])] := by
  refine AC.of_awp_gen (T := T) T_ok hm Tryz.call78 Tryz.func78 rfl rfl rfl rfl rfl rfl ?_
  conv => whnf
  refine .inr (.inr (.inr (.inr ⟨[(900000, 3), (900001, 5), (900002, 900002), (900003, 900003)], [], _, _, _, (ac_expr_walk_1_chk e 1 0 f (by omega) (by omega)), rfl, ?_⟩)))
  conv => whnf
  refine ⟨[], ?_⟩
  conv => whnf
  (repeat' (first | exact PSub.rfl | exact rfl | exact PSubs.rfl | exact trivial | exact PSub.lit_sb rfl | refine And.intro ?_ ?_))

theorem ac_expr_Check (e : Ex) : AC Tryz.prog 37 [.pv (.agg (cEx e))] [] (.pv (vint (exE e))) [] := by
  refine AC.of_awp (T := T) T_ok hm Tryz.call37 Tryz.func37 rfl rfl rfl ?_
  conv => whnf
  refine .inr (.inr (.inr (.inr ⟨[(900002, 4), (900003, 3)], [], _, _, _, (ac_expr_walk_chk e 0), rfl, ?_⟩)))
  conv => whnf
  exact PSub.rfl

end Go.Abs

namespace Go.Abs
open Go.Proofs
set_option maxRecDepth 10000

theorem ac_typing_leaf (s : Sco) (e : Ex) (hs : smallS s) : AC Tryz.prog 81 [.pv (.agg (cSco s)), .pv (.agg (cEx e))] [] (.pv (.tup [vint (leafK s e.kind e.name e.value e.key).1, vint (leafK s e.kind e.name e.value e.key).2])) [] := by
  refine AC.of_awp (T := T) T_ok hm Tryz.call81 Tryz.func81 rfl rfl rfl ?_
  conv => whnf
  repeat (any_goals (first
    | (refine ⟨fun (h : (_ : Bool) = true) => ?_, fun (h : (_ : Bool) = false) => ?_⟩ <;> (try simp only [decide_eq_true_eq, decide_eq_false_iff_not, Bool.not_eq_true', Bool.not_eq_false', Int.toNat_natCast, beq_iff_eq, decide_eq_decide, beq_eq_false_iff_ne, ne_eq, reduceCtorEq] at h) <;> (conv => whnf))
    | (refine .inl ⟨_, ac_device_Find s.home e.key hs.1, ?_⟩; conv => whnf)
    | (refine .inl ⟨_, ac_slices_Contains_string s.modes 0 e.name hs.2.1, ?_⟩; conv => whnf)
    | (refine And.intro (by (try simp only [Int.toNat_natCast]); omega) ?_; conv => whnf)
    | (refine And.intro (show (_ : Bool) = true from by kernel_rfl) ?_; conv => whnf)
    | (refine .inl ⟨wrap64 (by omega), ?_⟩; conv => whnf)))
  all_goals (try (refine And.intro ?_ ?_ <;> (conv => whnf)))
  all_goals first
    | contradiction
    | (exfalso; omega)
    | exact PSub.rfl
    | (refine PSub.lit_sb ?_; (first | (simp [leafK, *]; done) | (simp_all [leafK]; done) | ((try simp only [leafK]); (repeat' split) <;> (try simp only [Bool.false_eq, Bool.true_eq, Bool.and_eq_false_iff, decide_eq_false_iff_not, Bool.and_eq_true, decide_eq_true_eq, decide_eq_decide]) <;> first | rfl | omega | (simp_all; done) | (simp_all; omega))))
    | (refine PSub.sb ?_; (first | (simp [leafK, *]; done) | (simp_all [leafK]; done) | ((try simp only [leafK]); (repeat' split) <;> (try simp only [Bool.false_eq, Bool.true_eq, Bool.and_eq_false_iff, decide_eq_false_iff_not, Bool.and_eq_true, decide_eq_true_eq, decide_eq_decide]) <;> first | rfl | omega | (simp_all; done) | (simp_all; omega))))
    | (refine PSub.sb_lit ?_; (first | (simp [leafK, *]; done) | (simp_all [leafK]; done) | ((try simp only [leafK]); (repeat' split) <;> (try simp only [Bool.false_eq, Bool.true_eq, Bool.and_eq_false_iff, decide_eq_false_iff_not, Bool.and_eq_true, decide_eq_true_eq, decide_eq_decide]) <;> first | rfl | omega | (simp_all; done) | (simp_all; omega))))
    | (refine PSub.int ?_; (first | (simp [leafK, *]; done) | (simp_all [leafK]; done) | ((try simp only [leafK]); (repeat' split) <;> (try simp only [Bool.false_eq, Bool.true_eq, Bool.and_eq_false_iff, decide_eq_false_iff_not, Bool.and_eq_true, decide_eq_true_eq, decide_eq_decide]) <;> first | rfl | omega | (simp_all; done) | (simp_all; omega))))
    | skip

theorem ac_typing_all (l : List Int) (k : Int) (hl : smallL l) : AC Tryz.prog 82 [.pv (roL 1 cint l), .pv (vint k)] [] (.pv (vbool (allI l k))) [] := by
  have hl2 : l.length ≤ 1048576 := hl
  refine AC.of_awp (T := T) T_ok hm Tryz.call82 Tryz.func82 rfl rfl rfl ?_
  conv => whnf
  refine loop_k (ι := Nat) [1, 7, 8] [] (fun q => q ≤ l.length ∧ ∀ i, i < q → l.getD i default = k) (fun q => l.length - q) 0 (fun q => [(9, .pv (vint q))]) (fun _ => []) [] ⟨Nat.zero_le _, fun i h => absurd h (by omega)⟩ ?_ (fun q hk => ?_)
  · (repeat' (first | exact PSub.rfl | exact rfl | exact PSubs.rfl | exact trivial | exact PSub.lit_sb rfl | refine And.intro ?_ ?_))
  obtain ⟨hkn, hinv⟩ := hk
  conv => whnf
  repeat (any_goals (first
    | (refine ⟨fun (h : (_ : Bool) = true) => ?_, fun (h : (_ : Bool) = false) => ?_⟩ <;> (try simp only [decide_eq_true_eq, decide_eq_false_iff_not, Bool.not_eq_true', Bool.not_eq_false', Int.toNat_natCast, beq_iff_eq, decide_eq_decide, beq_eq_false_iff_ne, ne_eq, reduceCtorEq] at h) <;> (conv => whnf))
    | (refine And.intro (by (try simp only [Int.toNat_natCast]); omega) ?_; conv => whnf)
    | (refine And.intro (show (_ : Bool) = true from by kernel_rfl) ?_; conv => whnf)
    | (refine .inl ⟨wrap64 (by omega), ?_⟩; conv => whnf)))
  · refine PSub.lit_sb ?_
    symm
    rw [← Bool.not_eq_true]
    intro h2
    simp only [allI, List.all_eq_true, decide_eq_true_eq] at h2
    exact h (h2 _ (by simp [List.getD, show q < l.length from by omega]))
  · refine ⟨q + 1, [], ⟨by omega, ?_⟩, by first | omega | (dsimp only; omega), ?_⟩
    rotate_left
    · (repeat' (first | exact PSub.rfl | exact rfl | exact PSubs.rfl | exact trivial | exact PSub.lit_sb rfl | refine And.intro ?_ ?_))
    intro j hj
    by_cases e : j = q
    · subst e; first | exact h | simpa [-List.getD_eq_getElem?_getD] using h | simp_all [-List.getD_eq_getElem?_getD]
    · exact hinv j (by omega)
  · refine PSub.lit_sb ?_
    symm
    simp only [allI, List.all_eq_true, decide_eq_true_eq]
    intro x hx
    obtain ⟨i, hi, rfl⟩ := List.getElem_of_mem hx
    have := hinv i (by omega)
    simpa [List.getD, hi] using this

theorem kidsB_lens {k n : Int} (h : kidsB k n = true) (h0 : 0 < n) : (k = 6 ∧ n = 1) ∨ ((k = 7 ∨ k = 8) ∧ 2 ≤ n ∧ n ≤ 8) ∨ (9 ≤ k ∧ k ≤ 13 ∧ n = 2) ∨ (k = 14 ∧ n = 3) := by
  unfold kidsB at h
  (repeat' split at h) <;> simp only [decide_eq_true_eq, Bool.and_eq_true] at h <;> omega

theorem allI_two {l : List Int} {k : Int} (h : l.length = 2) : allI l k = decide (l.getD 0 default = k ∧ l.getD 1 default = k) := by
  obtain ⟨a, b, rfl⟩ : ∃ a b, l = [a, b] := by
    match l, h with
    | [a, b], _ => exact ⟨a, b, rfl⟩
  simp [allI]

set_option maxHeartbeats 1000000 in
theorem ac_typing_kind (s : Sco) (hs : smallS s) (e : Ex) (he : okE e) : AC Tryz.prog 38 [.pv (.agg (cSco s)), .pv (.agg (cEx e))] [] (.pv (.tup [vint (kindE s e).1, vint (kindE s e).2])) [] := by
  obtain ⟨hk1, hk2, hk3⟩ := (okE_iff e).1 he
  have ih : ∀ k, k < e.kids.length → AC Tryz.prog 38 [.pv (.agg (cSco s)), .pv (.agg (cEx (e.kids.getD k default)))] [] (.pv (.tup [vint (kindE s (e.kids.getD k default)).1, vint (kindE s (e.kids.getD k default)).2])) [] := fun k hk =>
    have := Ex.kid_lt (Ex.kid_at hk)
    ac_typing_kind s hs (e.kids.getD k default) (okL_at hk3 hk)
  refine AC.ex2 ?_
  refine AC.of_awp (T := T) T_ok hm Tryz.call38 Tryz.func38 rfl rfl rfl ?_
  conv => whnf
  refine ⟨fun h => ?_, fun h => ?_⟩ <;> (try simp only [decide_eq_true_eq, decide_eq_false_iff_not, Bool.not_eq_true', Bool.not_eq_false', Int.toNat_natCast, beq_iff_eq, decide_eq_decide, beq_eq_false_iff_ne, ne_eq, reduceCtorEq] at h) <;> (conv => whnf)
  · have hz := kindE_leaf (s := s) (e := e) (by omega)
    repeat (any_goals (first
      | (refine ⟨fun (h : (_ : Bool) = true) => ?_, fun (h : (_ : Bool) = false) => ?_⟩ <;> (try simp only [decide_eq_true_eq, decide_eq_false_iff_not, Bool.not_eq_true', Bool.not_eq_false', Int.toNat_natCast, beq_iff_eq, decide_eq_decide, beq_eq_false_iff_ne, ne_eq, reduceCtorEq] at h) <;> (conv => whnf))
      | (refine .inl ⟨_, (ac_typing_leaf s e hs).ex2', ?_⟩; conv => whnf)
      | (refine And.intro (by (try simp only [Int.toNat_natCast]); omega) ?_; conv => whnf)
      | (refine And.intro (show (_ : Bool) = true from by kernel_rfl) ?_; conv => whnf)
      | (refine .inl ⟨wrap64 (by omega), ?_⟩; conv => whnf)))
    rw [hz]
    refine ⟨?_, ?_⟩ <;> (conv => whnf)
    all_goals exact PSub.rfl
  have hop := kindE_op (s := s) (e := e) (by omega)
  have hlen := kidsB_lens hk2 (by omega)
  refine loop_k (ι := Nat × List Int) [2, 3, 23, 24] [2, 3] (fun x => x.1 ≤ e.kids.length ∧ KTo s e.kids x.1 x.2) (fun x => e.kids.length - x.1) (0, []) (fun x => [(6, .own 500), (25, .pv (vint x.1))]) (fun x => [(500, rowL 1 cint x.2)]) [] ⟨Nat.zero_le _, KTo.zero s e.kids⟩ ?_ (fun x hk => ?_)
  · (repeat' (first | exact PSub.rfl | exact rfl | exact PSubs.rfl | exact trivial | exact PSub.lit_sb rfl | refine And.intro ?_ ?_))
  obtain ⟨k, acc⟩ := x
  obtain ⟨hkn, hinv⟩ := hk
  dsimp only at hkn hinv
  have hacc := hinv.1
  conv => whnf
  have hsm : smallL acc := show acc.length ≤ 1048576 from by omega
  repeat (any_goals (first
    | (refine ⟨fun (h : (_ : Bool) = true) => ?_, fun (h : (_ : Bool) = false) => ?_⟩ <;> (try simp only [decide_eq_true_eq, decide_eq_false_iff_not, Bool.not_eq_true', Bool.not_eq_false', Int.toNat_natCast, beq_iff_eq, decide_eq_decide, beq_eq_false_iff_ne, ne_eq, reduceCtorEq] at h) <;> (conv => whnf))
    | (refine .inl ⟨_, ih k (by omega), ?_⟩; conv => whnf)
    | (refine .inl ⟨_, ac_typing_all acc 1 hsm, ?_⟩; conv => whnf)
    | (refine .inl ⟨_, ac_typing_all acc 2 hsm, ?_⟩; conv => whnf)
    | (refine And.intro (by (try simp only [Int.toNat_natCast]); omega) ?_; conv => whnf)
    | (refine And.intro (show (_ : Bool) = true from by kernel_rfl) ?_; conv => whnf)
    | (refine .inl ⟨wrap64 (by omega), ?_⟩; conv => whnf)))
  · have := hinv.err (by omega) h
    rw [this] at hop
    rw [hop]
    refine ⟨?_, ?_⟩ <;> (conv => whnf)
    all_goals exact PSub.rfl
  · refine ⟨(k + 1, acc ++ [(kindE s (e.kids.getD k default)).1]), [(500, 41)], ⟨by dsimp only; omega, hinv.next (by omega) h⟩, by dsimp only; omega, ?_⟩
    (repeat' (first | exact PSub.rfl | exact rfl | exact PSubs.rfl | exact trivial | exact PSub.lit_sb rfl | refine And.intro ?_ ?_))
    · dsimp only; rw [List.length_append]; simp [hacc]
    · refine rows_snocF (fun i hi => by simp only [if_pos hi]; exact PSubs.rfl) (by simp only [if_neg (Nat.lt_irrefl _), Nat.sub_self]; exact PSubs.rfl)
  all_goals have hdn := hinv.done (by omega)
  all_goals rw [hdn] at hop
  all_goals dsimp only at hop
  all_goals (try (exfalso; omega))
  all_goals rw [hop]
  all_goals (try (refine And.intro ?_ ?_ <;> (conv => whnf)))
  all_goals first
    | contradiction
    | (exfalso; omega)
    | exact PSub.rfl
    | (refine PSub.lit_sb ?_; (first | (simp [opK, *]; done) | (simp_all [opK]; done) | ((try simp only [opK]); (repeat' split) <;> (try simp only [Bool.false_eq, Bool.true_eq, Bool.and_eq_false_iff, decide_eq_false_iff_not, Bool.and_eq_true, decide_eq_true_eq, decide_eq_decide]) <;> first | rfl | omega | (simp_all; done) | (simp_all; omega))))
    | (refine PSub.sb ?_; (first | (simp [opK, *]; done) | (simp_all [opK]; done) | ((try simp only [opK]); (repeat' split) <;> (try simp only [Bool.false_eq, Bool.true_eq, Bool.and_eq_false_iff, decide_eq_false_iff_not, Bool.and_eq_true, decide_eq_true_eq, decide_eq_decide]) <;> first | rfl | omega | (simp_all; done) | (simp_all; omega))))
    | (refine PSub.sb_lit ?_; (first | (simp [opK, *]; done) | (simp_all [opK]; done) | ((try simp only [opK]); (repeat' split) <;> (try simp only [Bool.false_eq, Bool.true_eq, Bool.and_eq_false_iff, decide_eq_false_iff_not, Bool.and_eq_true, decide_eq_true_eq, decide_eq_decide]) <;> first | rfl | omega | (simp_all; done) | (simp_all; omega))))
    | (refine PSub.int ?_; (first | (simp [opK, *]; done) | (simp_all [opK]; done) | ((try simp only [opK]); (repeat' split) <;> (try simp only [Bool.false_eq, Bool.true_eq, Bool.and_eq_false_iff, decide_eq_false_iff_not, Bool.and_eq_true, decide_eq_true_eq, decide_eq_decide]) <;> first | rfl | omega | (simp_all; done) | (simp_all; omega))))
    | skip
termination_by SizeOf.sizeOf e

end Go.Abs

namespace Go.Abs
open Go.Proofs
set_option maxRecDepth 10000

theorem allI_false {l : List Int} {k : Int} {q : Nat} (hq : q < l.length) (h : ¬ l.getD q default = k) : allI l k = false := by
  rw [← Bool.not_eq_true]
  intro h2
  simp only [allI, List.all_eq_true, decide_eq_true_eq] at h2
  exact h (h2 _ (by simp [List.getD, hq]))
theorem allI_true {l : List Int} {k : Int} (h : ∀ i, i < l.length → l.getD i default = k) : allI l k = true := by
  simp only [allI, List.all_eq_true, decide_eq_true_eq]
  intro x hx
  obtain ⟨i, hi, rfl⟩ := List.getElem_of_mem hx
  have := h i hi
  simpa [List.getD, hi] using this

set_option maxHeartbeats 1000000 in
theorem ac_r31_operation (k : Int) (l : List Int) (h0 : 6 ≤ k ∧ k ≤ 14) (hl : kidsB k l.length = true) : AC Tryz.prog 84 [.pv (vint k), .pv (roL 1 cint l)] [] (.pv (.tup [vint (opK k l).1, vint (opK k l).2])) [] := by
  have hlen : (k = 6 ∧ l.length = 1) ∨ ((k = 7 ∨ k = 8) ∧ 2 ≤ l.length ∧ l.length ≤ 8) ∨ (9 ≤ k ∧ k ≤ 13 ∧ l.length = 2) ∨ (k = 14 ∧ l.length = 3) := by
    unfold kidsB at hl
    (repeat' split at hl) <;> simp only [decide_eq_true_eq, Bool.and_eq_true] at hl <;> omega
  refine AC.of_awp (T := T) T_ok hm Tryz.call84 Tryz.func84 rfl rfl rfl ?_
  conv => whnf
  by_cases hb : k = 6 ∨ k = 7 ∨ k = 8
  · have hop : opK k l = if allI l 1 = true then (1, 0) else (0, 11) := by unfold opK; rw [if_pos hb]
    repeat (any_goals (first
      | (refine ⟨fun (h : (_ : Bool) = true) => ?_, fun (h : (_ : Bool) = false) => ?_⟩ <;> (try simp only [decide_eq_true_eq, decide_eq_false_iff_not, Bool.not_eq_true', Bool.not_eq_false', Int.toNat_natCast, beq_iff_eq, decide_eq_decide, beq_eq_false_iff_ne, ne_eq, reduceCtorEq] at h) <;> (conv => whnf))
      | (refine And.intro (by (try simp only [Int.toNat_natCast]); omega) ?_; conv => whnf)
      | (refine And.intro (show (_ : Bool) = true from by kernel_rfl) ?_; conv => whnf)
      | (refine .inl ⟨wrap64 (by omega), ?_⟩; conv => whnf)))
    all_goals (try (exfalso; omega))
    · refine loop_k (ι := Nat) [0, 1] [] (fun q => q ≤ l.length ∧ ∀ i, i < q → l.getD i default = 1) (fun q => l.length - q) 0 (fun q => [(6, .pv (vint q))]) (fun _ => []) [] ⟨Nat.zero_le _, fun i h => absurd h (by omega)⟩ ?_ (fun q hk => ?_)
      · (repeat' (first | exact PSub.rfl | exact rfl | exact PSubs.rfl | exact trivial | exact PSub.lit_sb rfl | refine And.intro ?_ ?_))
      obtain ⟨hkn, hinv⟩ := hk
      conv => whnf
      repeat (any_goals (first
        | (refine ⟨fun (h : (_ : Bool) = true) => ?_, fun (h : (_ : Bool) = false) => ?_⟩ <;> (try simp only [decide_eq_true_eq, decide_eq_false_iff_not, Bool.not_eq_true', Bool.not_eq_false', Int.toNat_natCast, beq_iff_eq, decide_eq_decide, beq_eq_false_iff_ne, ne_eq, reduceCtorEq] at h) <;> (conv => whnf))
        | (refine And.intro (by (try simp only [Int.toNat_natCast]); omega) ?_; conv => whnf)
        | (refine And.intro (show (_ : Bool) = true from by kernel_rfl) ?_; conv => whnf)
        | (refine .inl ⟨wrap64 (by omega), ?_⟩; conv => whnf)))
      · rw [hop, allI_false (by omega) h, if_neg (by simp)]
        refine ⟨?_, ?_⟩ <;> (conv => whnf)
        all_goals exact PSub.rfl
      · refine ⟨q + 1, [], ⟨by omega, ?_⟩, by first | omega | (dsimp only; omega), ?_⟩
        rotate_left
        · (repeat' (first | exact PSub.rfl | exact rfl | exact PSubs.rfl | exact trivial | exact PSub.lit_sb rfl | refine And.intro ?_ ?_))
        intro j hj
        by_cases e : j = q
        · subst e; first | exact h | simpa [-List.getD_eq_getElem?_getD] using h | simp_all [-List.getD_eq_getElem?_getD]
        · exact hinv j (by omega)
      · rw [hop, allI_true fun i hi => hinv i (by omega), if_pos rfl]
        refine ⟨?_, ?_⟩ <;> (conv => whnf)
        all_goals exact PSub.rfl
    · refine loop_k (ι := Nat) [0, 1] [] (fun q => q ≤ l.length ∧ ∀ i, i < q → l.getD i default = 1) (fun q => l.length - q) 0 (fun q => [(6, .pv (vint q))]) (fun _ => []) [] ⟨Nat.zero_le _, fun i h => absurd h (by omega)⟩ ?_ (fun q hk => ?_)
      · (repeat' (first | exact PSub.rfl | exact rfl | exact PSubs.rfl | exact trivial | exact PSub.lit_sb rfl | refine And.intro ?_ ?_))
      obtain ⟨hkn, hinv⟩ := hk
      conv => whnf
      repeat (any_goals (first
        | (refine ⟨fun (h : (_ : Bool) = true) => ?_, fun (h : (_ : Bool) = false) => ?_⟩ <;> (try simp only [decide_eq_true_eq, decide_eq_false_iff_not, Bool.not_eq_true', Bool.not_eq_false', Int.toNat_natCast, beq_iff_eq, decide_eq_decide, beq_eq_false_iff_ne, ne_eq, reduceCtorEq] at h) <;> (conv => whnf))
        | (refine And.intro (by (try simp only [Int.toNat_natCast]); omega) ?_; conv => whnf)
        | (refine And.intro (show (_ : Bool) = true from by kernel_rfl) ?_; conv => whnf)
        | (refine .inl ⟨wrap64 (by omega), ?_⟩; conv => whnf)))
      · rw [hop, allI_false (by omega) h, if_neg (by simp)]
        refine ⟨?_, ?_⟩ <;> (conv => whnf)
        all_goals exact PSub.rfl
      · refine ⟨q + 1, [], ⟨by omega, ?_⟩, by first | omega | (dsimp only; omega), ?_⟩
        rotate_left
        · (repeat' (first | exact PSub.rfl | exact rfl | exact PSubs.rfl | exact trivial | exact PSub.lit_sb rfl | refine And.intro ?_ ?_))
        intro j hj
        by_cases e : j = q
        · subst e; first | exact h | simpa [-List.getD_eq_getElem?_getD] using h | simp_all [-List.getD_eq_getElem?_getD]
        · exact hinv j (by omega)
      · rw [hop, allI_true fun i hi => hinv i (by omega), if_pos rfl]
        refine ⟨?_, ?_⟩ <;> (conv => whnf)
        all_goals exact PSub.rfl
    · refine loop_k (ι := Nat) [0, 1] [] (fun q => q ≤ l.length ∧ ∀ i, i < q → l.getD i default = 1) (fun q => l.length - q) 0 (fun q => [(6, .pv (vint q))]) (fun _ => []) [] ⟨Nat.zero_le _, fun i h => absurd h (by omega)⟩ ?_ (fun q hk => ?_)
      · (repeat' (first | exact PSub.rfl | exact rfl | exact PSubs.rfl | exact trivial | exact PSub.lit_sb rfl | refine And.intro ?_ ?_))
      obtain ⟨hkn, hinv⟩ := hk
      conv => whnf
      repeat (any_goals (first
        | (refine ⟨fun (h : (_ : Bool) = true) => ?_, fun (h : (_ : Bool) = false) => ?_⟩ <;> (try simp only [decide_eq_true_eq, decide_eq_false_iff_not, Bool.not_eq_true', Bool.not_eq_false', Int.toNat_natCast, beq_iff_eq, decide_eq_decide, beq_eq_false_iff_ne, ne_eq, reduceCtorEq] at h) <;> (conv => whnf))
        | (refine And.intro (by (try simp only [Int.toNat_natCast]); omega) ?_; conv => whnf)
        | (refine And.intro (show (_ : Bool) = true from by kernel_rfl) ?_; conv => whnf)
        | (refine .inl ⟨wrap64 (by omega), ?_⟩; conv => whnf)))
      · rw [hop, allI_false (by omega) h, if_neg (by simp)]
        refine ⟨?_, ?_⟩ <;> (conv => whnf)
        all_goals exact PSub.rfl
      · refine ⟨q + 1, [], ⟨by omega, ?_⟩, by first | omega | (dsimp only; omega), ?_⟩
        rotate_left
        · (repeat' (first | exact PSub.rfl | exact rfl | exact PSubs.rfl | exact trivial | exact PSub.lit_sb rfl | refine And.intro ?_ ?_))
        intro j hj
        by_cases e : j = q
        · subst e; first | exact h | simpa [-List.getD_eq_getElem?_getD] using h | simp_all [-List.getD_eq_getElem?_getD]
        · exact hinv j (by omega)
      · rw [hop, allI_true fun i hi => hinv i (by omega), if_pos rfl]
        refine ⟨?_, ?_⟩ <;> (conv => whnf)
        all_goals exact PSub.rfl
  · have ht : 9 ≤ k → k ≠ 14 → allI l 2 = decide (l.getD 0 default = 2 ∧ l.getD 1 default = 2) := fun h1 h2 => allI_two (by omega)
    repeat (any_goals (first
      | (refine ⟨fun (h : (_ : Bool) = true) => ?_, fun (h : (_ : Bool) = false) => ?_⟩ <;> (try simp only [decide_eq_true_eq, decide_eq_false_iff_not, Bool.not_eq_true', Bool.not_eq_false', Int.toNat_natCast, beq_iff_eq, decide_eq_decide, beq_eq_false_iff_ne, ne_eq, reduceCtorEq] at h) <;> (conv => whnf))
      | (refine And.intro (by (try simp only [Int.toNat_natCast]); omega) ?_; conv => whnf)
      | (refine And.intro (show (_ : Bool) = true from by kernel_rfl) ?_; conv => whnf)
      | (refine .inl ⟨wrap64 (by omega), ?_⟩; conv => whnf)))
    all_goals (try (exfalso; omega))
    all_goals (try (refine And.intro ?_ ?_ <;> (conv => whnf)))
    all_goals first
      | contradiction
      | (exfalso; omega)
      | exact PSub.rfl
      | (refine PSub.lit_sb ?_; (first | (simp [opK, *]; done) | (simp_all [opK]; done) | ((try simp only [opK]); (repeat' split) <;> (try simp only [Bool.false_eq, Bool.true_eq, Bool.and_eq_false_iff, decide_eq_false_iff_not, Bool.and_eq_true, decide_eq_true_eq, decide_eq_decide]) <;> first | rfl | omega | (simp_all; done) | (simp_all; omega))))
      | (refine PSub.sb ?_; (first | (simp [opK, *]; done) | (simp_all [opK]; done) | ((try simp only [opK]); (repeat' split) <;> (try simp only [Bool.false_eq, Bool.true_eq, Bool.and_eq_false_iff, decide_eq_false_iff_not, Bool.and_eq_true, decide_eq_true_eq, decide_eq_decide]) <;> first | rfl | omega | (simp_all; done) | (simp_all; omega))))
      | (refine PSub.sb_lit ?_; (first | (simp [opK, *]; done) | (simp_all [opK]; done) | ((try simp only [opK]); (repeat' split) <;> (try simp only [Bool.false_eq, Bool.true_eq, Bool.and_eq_false_iff, decide_eq_false_iff_not, Bool.and_eq_true, decide_eq_true_eq, decide_eq_decide]) <;> first | rfl | omega | (simp_all; done) | (simp_all; omega))))
      | (refine PSub.int ?_; (first | (simp [opK, *]; done) | (simp_all [opK]; done) | ((try simp only [opK]); (repeat' split) <;> (try simp only [Bool.false_eq, Bool.true_eq, Bool.and_eq_false_iff, decide_eq_false_iff_not, Bool.and_eq_true, decide_eq_true_eq, decide_eq_decide]) <;> first | rfl | omega | (simp_all; done) | (simp_all; omega))))
      | skip

set_option maxHeartbeats 1000000 in
theorem ac_r31_kind (s : Sco) (hs : smallS s) (e : Ex) (he : okE e) : AC Tryz.prog 40 [.pv (.agg (cSco s)), .pv (.agg (cEx e))] [] (.pv (.tup [vint (kindE s e).1, vint (kindE s e).2])) [] := by
  obtain ⟨hk1, hk2, hk3⟩ := (okE_iff e).1 he
  have ih : ∀ k, k < e.kids.length → AC Tryz.prog 40 [.pv (.agg (cSco s)), .pv (.agg (cEx (e.kids.getD k default)))] [] (.pv (.tup [vint (kindE s (e.kids.getD k default)).1, vint (kindE s (e.kids.getD k default)).2])) [] := fun k hk =>
    have := Ex.kid_lt (Ex.kid_at hk)
    ac_r31_kind s hs (e.kids.getD k default) (okL_at hk3 hk)
  have hlen := kidsB_lens hk2
  have hk8 : e.kids.length ≤ 8 := by
    by_cases h : 0 < (e.kids.length : Int)
    · have := hlen h; omega
    · omega
  refine AC.ex2 ?_
  refine AC.of_awp (T := T) T_ok hm Tryz.call40 Tryz.func40 rfl rfl rfl ?_
  conv => whnf
  refine loop_k (ι := Nat × List Int) [2, 3] [2, 3] (fun x => x.1 ≤ e.kids.length ∧ KTo s e.kids x.1 x.2) (fun x => e.kids.length - x.1) (0, []) (fun x => [(6, .own 500), (7, .pv (vint x.1))]) (fun x => [(500, rowL 1 cint x.2)]) [] ⟨Nat.zero_le _, KTo.zero s e.kids⟩ ?_ (fun x hk => ?_)
  · (repeat' (first | exact PSub.rfl | exact rfl | exact PSubs.rfl | exact trivial | exact PSub.lit_sb rfl | refine And.intro ?_ ?_))
  obtain ⟨k, acc⟩ := x
  obtain ⟨hkn, hinv⟩ := hk
  dsimp only at hkn hinv
  have hacc := hinv.1
  have hsm : smallL acc := show acc.length ≤ 1048576 from by omega
  conv => whnf
  refine ⟨fun h => ?_, fun h => ?_⟩ <;> (try simp only [decide_eq_true_eq, decide_eq_false_iff_not, Bool.not_eq_true', Bool.not_eq_false', Int.toNat_natCast, beq_iff_eq, decide_eq_decide, beq_eq_false_iff_ne, ne_eq, reduceCtorEq] at h) <;> (conv => whnf)
  · repeat (any_goals (first
      | (refine ⟨fun (h : (_ : Bool) = true) => ?_, fun (h : (_ : Bool) = false) => ?_⟩ <;> (try simp only [decide_eq_true_eq, decide_eq_false_iff_not, Bool.not_eq_true', Bool.not_eq_false', Int.toNat_natCast, beq_iff_eq, decide_eq_decide, beq_eq_false_iff_ne, ne_eq, reduceCtorEq] at h) <;> (conv => whnf))
      | (refine .inl ⟨_, ih k (by omega), ?_⟩; conv => whnf)
      | (refine And.intro (by (try simp only [Int.toNat_natCast]); omega) ?_; conv => whnf)
      | (refine And.intro (show (_ : Bool) = true from by kernel_rfl) ?_; conv => whnf)
      | (refine .inl ⟨wrap64 (by omega), ?_⟩; conv => whnf)))
    · have := hinv.err (by omega) h
      have hop := kindE_op (s := s) (e := e) (by omega)
      rw [this] at hop
      rw [hop]
      refine ⟨?_, ?_⟩ <;> (conv => whnf)
      all_goals exact PSub.rfl
    · refine ⟨(k + 1, acc ++ [(kindE s (e.kids.getD k default)).1]), [(500, 35)], ⟨by dsimp only; omega, hinv.next (by omega) h⟩, by dsimp only; omega, ?_⟩
      (repeat' (first | exact PSub.rfl | exact rfl | exact PSubs.rfl | exact trivial | exact PSub.lit_sb rfl | refine And.intro ?_ ?_))
      · dsimp only; rw [List.length_append]; simp [hacc]
      · refine rows_snocF (fun i hi => by simp only [if_pos hi]; exact PSubs.rfl) (by simp only [if_neg (Nat.lt_irrefl _), Nat.sub_self]; exact PSubs.rfl)
  have hdn := hinv.done (by omega)
  have hke : k = e.kids.length := by omega
  by_cases hz : e.kids.length = 0
  · have hlf := kindE_leaf (s := s) (e := e) hz
    have hk0 : e.kind ≤ 5 ∨ e.kind = 15 := by
      unfold kidsB at hk2
      (repeat' split at hk2) <;> simp only [decide_eq_true_eq, Bool.and_eq_true] at hk2 <;> omega
    rw [hlf]
    repeat (any_goals (first
      | (refine ⟨fun (h : (_ : Bool) = true) => ?_, fun (h : (_ : Bool) = false) => ?_⟩ <;> (try simp only [decide_eq_true_eq, decide_eq_false_iff_not, Bool.not_eq_true', Bool.not_eq_false', Int.toNat_natCast, beq_iff_eq, decide_eq_decide, beq_eq_false_iff_ne, ne_eq, reduceCtorEq] at h) <;> (conv => whnf))
      | (refine .inl ⟨_, ac_r22_Find s.home e.key hs.1, ?_⟩; conv => whnf)
      | (refine .inl ⟨_, ac_r04_Index s.modes e.name hs.2.1, ?_⟩; conv => whnf)
      | (refine And.intro (by (try simp only [Int.toNat_natCast]); omega) ?_; conv => whnf)
      | (refine And.intro (show (_ : Bool) = true from by kernel_rfl) ?_; conv => whnf)
      | (refine .inl ⟨wrap64 (by omega), ?_⟩; conv => whnf)))
    all_goals (try (exfalso; omega))
    all_goals (try (refine And.intro ?_ ?_ <;> (conv => whnf)))
    all_goals first
      | contradiction
      | (exfalso; omega)
      | exact PSub.rfl
      | (refine PSub.lit_sb ?_; (first | (simp [leafK, *]; done) | (simp_all [leafK]; done) | ((try simp only [leafK]); (repeat' split) <;> (try simp only [Bool.false_eq, Bool.true_eq, Bool.and_eq_false_iff, decide_eq_false_iff_not, Bool.and_eq_true, decide_eq_true_eq, decide_eq_decide]) <;> first | rfl | omega | (simp_all; done) | (simp_all; omega))))
      | (refine PSub.sb ?_; (first | (simp [leafK, *]; done) | (simp_all [leafK]; done) | ((try simp only [leafK]); (repeat' split) <;> (try simp only [Bool.false_eq, Bool.true_eq, Bool.and_eq_false_iff, decide_eq_false_iff_not, Bool.and_eq_true, decide_eq_true_eq, decide_eq_decide]) <;> first | rfl | omega | (simp_all; done) | (simp_all; omega))))
      | (refine PSub.sb_lit ?_; (first | (simp [leafK, *]; done) | (simp_all [leafK]; done) | ((try simp only [leafK]); (repeat' split) <;> (try simp only [Bool.false_eq, Bool.true_eq, Bool.and_eq_false_iff, decide_eq_false_iff_not, Bool.and_eq_true, decide_eq_true_eq, decide_eq_decide]) <;> first | rfl | omega | (simp_all; done) | (simp_all; omega))))
      | (refine PSub.int ?_; (first | (simp [leafK, *]; done) | (simp_all [leafK]; done) | ((try simp only [leafK]); (repeat' split) <;> (try simp only [Bool.false_eq, Bool.true_eq, Bool.and_eq_false_iff, decide_eq_false_iff_not, Bool.and_eq_true, decide_eq_true_eq, decide_eq_decide]) <;> first | rfl | omega | (simp_all; done) | (simp_all; omega))))
      | skip
  · have hop := kindE_op (s := s) (e := e) hz
    rw [hdn] at hop
    dsimp only at hop
    have hl2 := hlen (by omega)
    rw [hop]
    repeat (any_goals (first
      | (refine ⟨fun (h : (_ : Bool) = true) => ?_, fun (h : (_ : Bool) = false) => ?_⟩ <;> (try simp only [decide_eq_true_eq, decide_eq_false_iff_not, Bool.not_eq_true', Bool.not_eq_false', Int.toNat_natCast, beq_iff_eq, decide_eq_decide, beq_eq_false_iff_ne, ne_eq, reduceCtorEq] at h) <;> (conv => whnf))
      | (refine .inl ⟨_, ac_r31_operation e.kind acc (by omega) (by rw [hacc, hke]; exact hk2), ?_⟩; conv => whnf)
      | (refine And.intro (by (try simp only [Int.toNat_natCast]); omega) ?_; conv => whnf)
      | (refine And.intro (show (_ : Bool) = true from by kernel_rfl) ?_; conv => whnf)
      | (refine .inl ⟨wrap64 (by omega), ?_⟩; conv => whnf)))
    all_goals (try (exfalso; omega))
    all_goals (try (refine And.intro ?_ ?_ <;> (conv => whnf)))
    all_goals exact PSub.rfl
termination_by SizeOf.sizeOf e

theorem ac_typing_Expr (s : Sco) (e : Ex) (hs : smallS s) : AC Tryz.prog 16 [.pv (.agg (cSco s)), .pv (.agg (cEx e))] [] (.pv (.tup [vint (exprK s e).1, vint (exprK s e).2])) [] := by
  refine AC.of_awp (T := T) T_ok hm Tryz.call16 Tryz.func16 rfl rfl rfl ?_
  conv => whnf
  repeat (any_goals (first
    | (refine ⟨fun (h : (_ : Bool) = true) => ?_, fun (h : (_ : Bool) = false) => ?_⟩ <;> (try simp only [decide_eq_true_eq, decide_eq_false_iff_not, Bool.not_eq_true', Bool.not_eq_false', Int.toNat_natCast, beq_iff_eq, decide_eq_decide, beq_eq_false_iff_ne, ne_eq, reduceCtorEq] at h) <;> (conv => whnf))
    | (refine .inl ⟨_, ac_expr_Check e, ?_⟩; conv => whnf)
    | (refine And.intro (by (try simp only [Int.toNat_natCast]); omega) ?_; conv => whnf)
    | (refine And.intro (show (_ : Bool) = true from by kernel_rfl) ?_; conv => whnf)
    | (refine .inl ⟨wrap64 (by omega), ?_⟩; conv => whnf)))
  · rw [exprK, if_pos h]
    refine ⟨?_, ?_⟩ <;> (conv => whnf)
    all_goals exact PSub.rfl
  · rw [exprK, if_neg (by simpa using h)]
    repeat (any_goals (first
      | (refine ⟨fun (h : (_ : Bool) = true) => ?_, fun (h : (_ : Bool) = false) => ?_⟩ <;> (try simp only [decide_eq_true_eq, decide_eq_false_iff_not, Bool.not_eq_true', Bool.not_eq_false', Int.toNat_natCast, beq_iff_eq, decide_eq_decide, beq_eq_false_iff_ne, ne_eq, reduceCtorEq] at h) <;> (conv => whnf))
      | (refine .inl ⟨_, ac_typing_kind s hs e (exE_ok h), ?_⟩; conv => whnf)
      | (refine And.intro (by (try simp only [Int.toNat_natCast]); omega) ?_; conv => whnf)
      | (refine And.intro (show (_ : Bool) = true from by kernel_rfl) ?_; conv => whnf)
      | (refine .inl ⟨wrap64 (by omega), ?_⟩; conv => whnf)))
    refine ⟨?_, ?_⟩ <;> (conv => whnf)
    all_goals exact PSub.rfl
theorem ac_r31_Expr (s : Sco) (e : Ex) (hs : smallS s) : AC Tryz.prog 17 [.pv (.agg (cSco s)), .pv (.agg (cEx e))] [] (.pv (.tup [vint (exprK s e).1, vint (exprK s e).2])) [] := by
  refine AC.of_awp (T := T) T_ok hm Tryz.call17 Tryz.func17 rfl rfl rfl ?_
  conv => whnf
  repeat (any_goals (first
    | (refine ⟨fun (h : (_ : Bool) = true) => ?_, fun (h : (_ : Bool) = false) => ?_⟩ <;> (try simp only [decide_eq_true_eq, decide_eq_false_iff_not, Bool.not_eq_true', Bool.not_eq_false', Int.toNat_natCast, beq_iff_eq, decide_eq_decide, beq_eq_false_iff_ne, ne_eq, reduceCtorEq] at h) <;> (conv => whnf))
    | (refine .inl ⟨_, ac_r28_Check e, ?_⟩; conv => whnf)
    | (refine And.intro (by (try simp only [Int.toNat_natCast]); omega) ?_; conv => whnf)
    | (refine And.intro (show (_ : Bool) = true from by kernel_rfl) ?_; conv => whnf)
    | (refine .inl ⟨wrap64 (by omega), ?_⟩; conv => whnf)))
  · rw [exprK, if_pos h]
    refine ⟨?_, ?_⟩ <;> (conv => whnf)
    all_goals exact PSub.rfl
  · rw [exprK, if_neg (by simpa using h)]
    repeat (any_goals (first
      | (refine ⟨fun (h : (_ : Bool) = true) => ?_, fun (h : (_ : Bool) = false) => ?_⟩ <;> (try simp only [decide_eq_true_eq, decide_eq_false_iff_not, Bool.not_eq_true', Bool.not_eq_false', Int.toNat_natCast, beq_iff_eq, decide_eq_decide, beq_eq_false_iff_ne, ne_eq, reduceCtorEq] at h) <;> (conv => whnf))
      | (refine .inl ⟨_, ac_r31_kind s hs e (exE_ok h), ?_⟩; conv => whnf)
      | (refine And.intro (by (try simp only [Int.toNat_natCast]); omega) ?_; conv => whnf)
      | (refine And.intro (show (_ : Bool) = true from by kernel_rfl) ?_; conv => whnf)
      | (refine .inl ⟨wrap64 (by omega), ?_⟩; conv => whnf)))
    refine ⟨?_, ?_⟩ <;> (conv => whnf)
    all_goals exact PSub.rfl

/-- typing.typed -/
def wantK (s : Sco) (e : Ex) (k : Int) : Int := if (exprK s e).2 ≠ 0 then (exprK s e).2 else if (exprK s e).1 ≠ k then 11 else 0
theorem ac_typing_typed (s : Sco) (e : Ex) (k : Int) (hs : smallS s) : AC Tryz.prog 43 [.pv (.agg (cSco s)), .pv (.agg (cEx e)), .pv (vint k)] [] (.pv (vint (wantK s e k))) [] := by
  refine AC.of_awp (T := T) T_ok hm Tryz.call43 Tryz.func43 rfl rfl rfl ?_
  conv => whnf
  repeat (any_goals (first
    | (refine ⟨fun (h : (_ : Bool) = true) => ?_, fun (h : (_ : Bool) = false) => ?_⟩ <;> (try simp only [decide_eq_true_eq, decide_eq_false_iff_not, Bool.not_eq_true', Bool.not_eq_false', Int.toNat_natCast, beq_iff_eq, decide_eq_decide, beq_eq_false_iff_ne, ne_eq, reduceCtorEq] at h) <;> (conv => whnf))
    | (refine .inl ⟨_, ac_typing_Expr s e hs, ?_⟩; conv => whnf)
    | (refine And.intro (by (try simp only [Int.toNat_natCast]); omega) ?_; conv => whnf)
    | (refine And.intro (show (_ : Bool) = true from by kernel_rfl) ?_; conv => whnf)
    | (refine .inl ⟨wrap64 (by omega), ?_⟩; conv => whnf)))
  all_goals first
    | contradiction
    | (exfalso; omega)
    | exact PSub.rfl
    | (refine PSub.lit_sb ?_; (first | (simp [wantK, *]; done) | (simp_all [wantK]; done) | ((try simp only [wantK]); (repeat' split) <;> (try simp only [Bool.false_eq, Bool.true_eq, Bool.and_eq_false_iff, decide_eq_false_iff_not, Bool.and_eq_true, decide_eq_true_eq, decide_eq_decide]) <;> first | rfl | omega | (simp_all; done) | (simp_all; omega))))
    | (refine PSub.sb ?_; (first | (simp [wantK, *]; done) | (simp_all [wantK]; done) | ((try simp only [wantK]); (repeat' split) <;> (try simp only [Bool.false_eq, Bool.true_eq, Bool.and_eq_false_iff, decide_eq_false_iff_not, Bool.and_eq_true, decide_eq_true_eq, decide_eq_decide]) <;> first | rfl | omega | (simp_all; done) | (simp_all; omega))))
    | (refine PSub.sb_lit ?_; (first | (simp [wantK, *]; done) | (simp_all [wantK]; done) | ((try simp only [wantK]); (repeat' split) <;> (try simp only [Bool.false_eq, Bool.true_eq, Bool.and_eq_false_iff, decide_eq_false_iff_not, Bool.and_eq_true, decide_eq_true_eq, decide_eq_decide]) <;> first | rfl | omega | (simp_all; done) | (simp_all; omega))))
    | (refine PSub.int ?_; (first | (simp [wantK, *]; done) | (simp_all [wantK]; done) | ((try simp only [wantK]); (repeat' split) <;> (try simp only [Bool.false_eq, Bool.true_eq, Bool.and_eq_false_iff, decide_eq_false_iff_not, Bool.and_eq_true, decide_eq_true_eq, decide_eq_decide]) <;> first | rfl | omega | (simp_all; done) | (simp_all; omega))))
    | skip
theorem ac_r31_wants (s : Sco) (e : Ex) (k : Int) (hs : smallS s) : AC Tryz.prog 47 [.pv (.agg (cSco s)), .pv (.agg (cEx e)), .pv (vint k)] [] (.pv (vint (wantK s e k))) [] := by
  refine AC.of_awp (T := T) T_ok hm Tryz.call47 Tryz.func47 rfl rfl rfl ?_
  conv => whnf
  repeat (any_goals (first
    | (refine ⟨fun (h : (_ : Bool) = true) => ?_, fun (h : (_ : Bool) = false) => ?_⟩ <;> (try simp only [decide_eq_true_eq, decide_eq_false_iff_not, Bool.not_eq_true', Bool.not_eq_false', Int.toNat_natCast, beq_iff_eq, decide_eq_decide, beq_eq_false_iff_ne, ne_eq, reduceCtorEq] at h) <;> (conv => whnf))
    | (refine .inl ⟨_, ac_r31_Expr s e hs, ?_⟩; conv => whnf)
    | (refine And.intro (by (try simp only [Int.toNat_natCast]); omega) ?_; conv => whnf)
    | (refine And.intro (show (_ : Bool) = true from by kernel_rfl) ?_; conv => whnf)
    | (refine .inl ⟨wrap64 (by omega), ?_⟩; conv => whnf)))
  all_goals first
    | contradiction
    | (exfalso; omega)
    | exact PSub.rfl
    | (refine PSub.lit_sb ?_; (first | (simp [wantK, *]; done) | (simp_all [wantK]; done) | ((try simp only [wantK]); (repeat' split) <;> (try simp only [Bool.false_eq, Bool.true_eq, Bool.and_eq_false_iff, decide_eq_false_iff_not, Bool.and_eq_true, decide_eq_true_eq, decide_eq_decide]) <;> first | rfl | omega | (simp_all; done) | (simp_all; omega))))
    | (refine PSub.sb ?_; (first | (simp [wantK, *]; done) | (simp_all [wantK]; done) | ((try simp only [wantK]); (repeat' split) <;> (try simp only [Bool.false_eq, Bool.true_eq, Bool.and_eq_false_iff, decide_eq_false_iff_not, Bool.and_eq_true, decide_eq_true_eq, decide_eq_decide]) <;> first | rfl | omega | (simp_all; done) | (simp_all; omega))))
    | (refine PSub.sb_lit ?_; (first | (simp [wantK, *]; done) | (simp_all [wantK]; done) | ((try simp only [wantK]); (repeat' split) <;> (try simp only [Bool.false_eq, Bool.true_eq, Bool.and_eq_false_iff, decide_eq_false_iff_not, Bool.and_eq_true, decide_eq_true_eq, decide_eq_decide]) <;> first | rfl | omega | (simp_all; done) | (simp_all; omega))))
    | (refine PSub.int ?_; (first | (simp [wantK, *]; done) | (simp_all [wantK]; done) | ((try simp only [wantK]); (repeat' split) <;> (try simp only [Bool.false_eq, Bool.true_eq, Bool.and_eq_false_iff, decide_eq_false_iff_not, Bool.and_eq_true, decide_eq_true_eq, decide_eq_decide]) <;> first | rfl | omega | (simp_all; done) | (simp_all; omega))))
    | skip

end Go.Abs

namespace Go.Abs

/-- typing.fires -/
def fireE (s : Sco) (t : Trg) : Int :=
  if t.kind = 1 then (if (findA s.home t.key).isSome = true then 0 else 8)
  else if t.kind = 2 then (if (partO s.home t.event.dev t.event.cluster).isSome = true ∧ 0 ≤ idxOf ((partO s.home t.event.dev t.event.cluster).getD noClu).events t.event.name then 0 else 8)
  else if t.kind = 4 then (if t.name = ⟨#[]⟩ ∨ 0 ≤ idxOf s.modes t.name then 0 else 8) else 0

/-- the command that a step calls -/
def comO (s : Sco) (x : Stp) : Option Cmd :=
  match partO s.home x.key.dev x.key.cluster with
  | none => none
  | some c => if cmdAt c.commands x.name < c.commands.length then some (cmdOf c.commands x.name) else none

def comE (s : Sco) (x : Stp) : Int :=
  match comO s x with
  | none => 8
  | some d => if d.param.kind ≠ 0 then wantK s x.expr d.param.kind else if zeroX x.expr = true then 0 else 1

/-- typing.does -/
def doE (s : Sco) (x : Stp) : Int :=
  if x.kind = 1 then (if (findA s.home x.key).isSome = false then 8 else if ((findA s.home x.key).getD noAttr).writable = false then 24 else wantK s x.expr ((findA s.home x.key).getD noAttr).kind)
  else if x.kind = 2 then comE s x
  else if x.kind = 3 then (if 0 ≤ idxOf s.scenes x.name then 0 else 8)
  else if x.kind = 4 then (if 0 ≤ idxOf s.modes x.name then 0 else 8) else 0

/-- typing.Rule -/
def ruleE (s : Sco) (r : Rul) : Int :=
  if rulE r ≠ 0 then rulE r else if firstE r.on.length (fun i => fireE s (r.on.getD i default)) ≠ 0 then firstE r.on.length fun i => fireE s (r.on.getD i default)
  else if wantK s r.cond 1 ≠ 0 then wantK s r.cond 1 else firstE r.steps.length fun i => doE s (r.steps.getD i default)

/-- the error of the rule i among l -/
def atE (s : Sco) (l : List Rul) (i : Nat) : Int := if ruleE s (l.getD i default) ≠ 0 then ruleE s (l.getD i default) else if idxOf (l.map Rul.name) (l.getD i default).name < i then 9 else 0
/-- typing.Rules -/
def rulesE (s : Sco) (l : List Rul) : Int × Int :=
  if 40 < l.length then (40, 3) else match (List.range l.length).find? (fun i => decide (atE s l i ≠ 0)) with
    | some i => (i, atE s l i)
    | none => (-1, 0)
theorem rulesE_at {s : Sco} {l : List Rul} {k : Nat} (h40 : ¬ 40 < l.length) (hk : k < l.length) (h : atE s l k ≠ 0) (hf : ∀ j, j < k → atE s l j = 0) : rulesE s l = ((k : Int), atE s l k) := by
  have : (List.range l.length).find? (fun i => decide (atE s l i ≠ 0)) = some k := by
    rw [List.find?_range_eq_some]
    exact ⟨by simpa using h, by simpa using hk, fun j hj => by simpa using hf j hj⟩
  unfold rulesE
  rw [if_neg h40, this]
theorem rulesE_none {s : Sco} {l : List Rul} (h40 : ¬ 40 < l.length) (hf : ∀ j, j < l.length → atE s l j = 0) : rulesE s l = (-1, 0) := by
  have : (List.range l.length).find? (fun i => decide (atE s l i ≠ 0)) = none := by
    rw [List.find?_eq_none]
    intro x hx
    simpa using hf x (by simpa using hx)
  unfold rulesE
  rw [if_neg h40, this]
end Go.Abs

namespace Go.Abs
open Go.RowKit

theorem sum_range_le {β : Type} : ∀ (l : List β) (f : Nat → Nat) (h : β → Nat), (∀ (i : Nat) (x : β), l[i]? = some x → f i ≤ h x) → ((List.range l.length).map f).sum ≤ (l.map h).sum
  | [], _, _, _ => by simp
  | x :: l, f, h, hf => by
    rw [List.length_cons, List.range_succ_eq_map]
    simp only [List.map_cons, List.map_map, List.sum_cons]
    have h0 := hf 0 x rfl
    have h1 := sum_range_le l (fun i => f (i + 1)) h (fun i y e => hf (i + 1) y (by simpa using e))
    have e : (f ∘ Nat.succ) = fun i => f (i + 1) := rfl
    rw [e]
    omega

structure BulkSum {H : Type} (bulk : DataW H → Nat) : Prop where
  slice : ∀ e s, (e.map bulk).sum ≤ bulk (.slice e s)
  agg : ∀ l, (l.map bulk).sum + 1 ≤ bulk (.agg l)

section
variable {H : Type} (enc : TypeId × Value → H) (P : Program) (w : World) (bulk : DataW H → Nat) (B : Nat)

/-- .. with at most N of fuel, the measure being at most the bulk. -/
def OpensU (N : Nat) (t : TypeId) {α : Type} (cs : α → List PV) (good : α → Prop) (me : α → Nat) : Prop :=
  ∀ (sp : Nat → Bool) (fuel : Nat) (vs : List Value) (x : DataW H × List MemPlace), fuel ≤ N → DataW.trod enc P w 0 sp true fuel t vs = some x → bulk x.1 ≤ B → ∃ a : α, good a ∧ me a ≤ bulk x.1 ∧ Reads w vs (cs a)

def FOpensU (N : Nat) (fs : List Field) (off : Nat) {α : Type} (cs : α → List PV) (good : α → Prop) (me : α → Nat) : Prop :=
  ∀ (sp : Nat → Bool) (n : Nat) (vs : List Value) (xs : List (DataW H × List MemPlace)), n ≤ N → xs.length = fs.length → (∀ (i : Nat) (f : Field), fs[i]? = some f → DataW.trod enc P w 0 sp true n f.type ((vs.drop f.offset).take (P.cellsOf f.type)) = xs[i]?) →
    (∀ y ∈ xs, bulk y.1 ≤ B) → off ≤ vs.length → vs.length = off + (fs.map fun f => P.cellsOf f.type).sum → ∃ a : α, good a ∧ me a ≤ (xs.map fun y => bulk y.1).sum ∧ Reads w (vs.drop off) (cs a)
end

section
variable {H : Type} {enc : TypeId × Value → H} {P : Program} {w : World} {bulk : DataW H → Nat} {B : Nat}

theorem Opens.toU {t : TypeId} {α : Type} {cs : α → List PV} {good : α → Prop} {N : Nat} (h : Opens enc P w bulk B t cs good) : OpensU enc P w bulk B N t cs good (fun _ => 0) := by
  intro sp fuel vs x _ hx hb
  obtain ⟨a, h1, h2⟩ := h sp fuel vs x hx hb
  exact ⟨a, h1, Nat.zero_le _, h2⟩
theorem OpensU.all {t : TypeId} {α : Type} {cs : α → List PV} {good : α → Prop} {me : α → Nat} (h : ∀ N, OpensU enc P w bulk B N t cs good me) : Opens enc P w bulk B t cs (fun a => good a ∧ me a ≤ B) := by
  intro sp fuel vs x hx hb
  obtain ⟨a, h1, h2, h3⟩ := h fuel sp fuel vs x (Nat.le_refl _) hx hb
  exact ⟨a, ⟨h1, Nat.le_trans h2 hb⟩, h3⟩
theorem OpensU.imp {t : TypeId} {α β : Type} {cs : α → List PV} {good : α → Prop} {me : α → Nat} {cs' : β → List PV} {good' : β → Prop} {me' : β → Nat} {N : Nat} (h : OpensU enc P w bulk B N t cs good me) (f : α → β) (he : ∀ a, good a → ∀ vs, Reads w vs (cs a) → Reads w vs (cs' (f a))) (hg : ∀ a, good a → good' (f a)) (hm : ∀ a, me' (f a) ≤ me a) : OpensU enc P w bulk B N t cs' good' me' := by
  intro sp fuel vs x hf hx hb
  obtain ⟨a, h1, h2, h3⟩ := h sp fuel vs x hf hx hb
  exact ⟨f a, hg a h1, Nat.le_trans (hm a) h2, he a h1 vs h3⟩

theorem OpensU.slice (hB : BulkOk bulk) (hS : BulkSum bulk) {t e : TypeId} {α : Type} [Inhabited α] {cs : α → List PV} {good : α → Prop} {me : α → Nat} {N : Nat} {size : Nat} (ht : P.underlying t = some (.slice e)) (hsz : P.cellsOf e = size) (hpos : 0 < size) (he : OpensU enc P w bulk B N e cs good me) :
    OpensU enc P w bulk B (N + 1) t (fun l : List α => [roL size cs l]) (fun l => l.length ≤ B ∧ ∀ i, i < l.length → good (l.getD i default)) (fun l => (l.map me).sum) := by
  intro sp fuel vs x hfu hx hb
  rcases DataW.trod_slice ht hx with ⟨rfl, rfl⟩ | ⟨a, len, cap, elems, rest, n, rfl, rfl, rfl, _, hlc, hcm, hel, hcell, _, _⟩
  · exact ⟨[], ⟨Nat.zero_le _, fun i h => absurd h (by simp)⟩, Nat.zero_le _, Reads.single ((PSub.nil_ro size _).to _ _ _ (.val _)) rfl⟩
  · simp only at hb
    have hlen : len ≤ B := by
      have := hB.len (elems.map (·.1)) (rest.map (·.1))
      simp only [List.length_map] at this
      omega
    have hone : ∀ i, i < len → ∃ y, (good y ∧ ∀ z, elems[i]? = some z → me y ≤ bulk z.1) ∧ ∃ cl, w.cells? 0 (a.add (i * size)) size = some cl ∧ Reads w cl (cs y) := by
      intro i hi
      have h1 := hcell i hi
      rw [hsz] at h1
      have hi2 : i < elems.length := by omega
      rw [List.getElem?_eq_getElem hi2] at h1
      cases hc : w.cells? 0 (a.add (i * size)) size with
      | none => rw [hc] at h1; cases h1
      | some cl =>
        rw [hc] at h1
        simp only [Option.bind_some] at h1
        have hb2 : bulk (elems[i]).1 ≤ B := Nat.le_trans (hB.elem (elems.map (·.1)) (rest.map (·.1)) _ (List.mem_map_of_mem (List.getElem_mem hi2))) hb
        obtain ⟨y, hg, hme, hr⟩ := he sp n cl _ (by omega) h1 hb2
        exact ⟨y, ⟨hg, fun z hz => by rw [List.getElem?_eq_getElem hi2] at hz; cases hz; exact hme⟩, cl, rfl, hr⟩
    have hex : ∃ f : Nat → α, ∀ i, i < len → (good (f i) ∧ ∀ z, elems[i]? = some z → me (f i) ≤ bulk z.1) ∧ ∃ cl, w.cells? 0 (a.add (i * size)) size = some cl ∧ Reads w cl (cs (f i)) :=
      ⟨fun i => if h : i < len then Classical.choose (hone i h) else default, fun i hi => by simp only [dif_pos hi]; exact Classical.choose_spec (hone i hi)⟩
    obtain ⟨f, hf⟩ := hex
    have hget : ∀ i, i < len → ((List.range len).map f).getD i default = f i := fun i hi => by simp [List.getD, hi]
    refine ⟨(List.range len).map f, ⟨by simpa using hlen, fun i hi => ?_⟩, ?_, Reads.single ?_ rfl⟩
    · have hi : i < len := by simpa using hi
      rw [hget i hi]; exact (hf i hi).1.1
    · have h1 := sum_range_le elems (fun i => me (f i)) (fun z => bulk z.1) (fun i z hz => (hf i (by have := (List.getElem?_eq_some_iff.1 hz).1; omega)).1.2 z hz)
      have h2 := hS.slice (elems.map (·.1)) (rest.map (·.1))
      rw [List.map_map] at h2
      dsimp only
      rw [List.map_map]
      rw [show elems.length = len from by omega] at h1
      exact Nat.le_trans h1 h2
    · have key : ∀ i, i < len → ∀ j, j < size → ∃ v, w.cell? (a.add (i * size + j)) = some v ∧ v.oneCell' = true ∧ (a.add (i * size + j)).block < w.heap.size ∧ ∀ p, (cs (f i))[j]? = some p → PR w (fun _ => False) p v := by
        intro i hi j hj
        obtain ⟨_, cl, hc, hr⟩ := hf i hi
        obtain ⟨_, hl, hall⟩ := World.cells?_some hc
        have hj2 : j < cl.length := by omega
        have h1 := hall j hj
        rw [add_add, List.getElem?_eq_getElem hj2] at h1
        have hg : cl.getD j undef = cl[j] := by simp [List.getD, hj2]
        refine ⟨cl[j], h1, by rw [← hg]; exact hr.one j hj2, ?_, fun p hp => by rw [← hg]; exact hr.pr j p hp⟩
        have hb := World.cells?_block hc hpos
        simpa [block_add] using hb
      have hn : ((List.range len).map f).length = len := by simp
      unfold roL
      rw [hn]
      refine .ro size len _ (some a) cap (fun i j => (w.cell? (a.add (i * size + j))).getD undef) hlc hcm (fun h => by cases h) (fun i hi => ?_) (fun h0 => ⟨a, rfl, ?_, fun h => h.elim, fun i hi j hj => ?_⟩) (fun i hi j p hp => ?_)
      · rw [hget i hi]
        obtain ⟨_, cl, hc, hr⟩ := hf i hi
        obtain ⟨_, hl, _⟩ := World.cells?_some hc
        rw [← hr.len]; exact hl
      · obtain ⟨v, _, _, hb, _⟩ := key 0 h0 0 hpos
        simpa [block_add] using hb
      · obtain ⟨v, e, h1, _, _⟩ := key i hi j hj
        rw [e]; exact ⟨rfl, h1⟩
      · rw [hget i hi] at hp
        have hj : j < size := by
          obtain ⟨_, cl, hc, hr⟩ := hf i hi
          obtain ⟨_, hl, _⟩ := World.cells?_some hc
          have := (List.getElem?_eq_some_iff.1 hp).1
          rw [← hr.len, hl] at this; exact this
        obtain ⟨v, e, _, _, hpv⟩ := key i hi j hj
        simp only [e, Option.getD_some]
        exact hpv p hp

theorem FOpensU.nil {N : Nat} {off : Nat} : FOpensU enc P w bulk B N [] off (fun _ : Unit => []) (fun _ => True) (fun _ => 0) := by
  intro sp n vs xs _ _ _ _ _ hl
  simp at hl
  exact ⟨(), trivial, Nat.zero_le _, by rw [List.drop_of_length_le (by omega)]; exact Reads.nil⟩

theorem FOpensU.cons {N : Nat} {f : Field} {fs : List Field} {off : Nat} {α β : Type} {cs : α → List PV} {good : α → Prop} {me : α → Nat} {me' : β → Nat} {cs' : β → List PV} {good' : β → Prop} {size : Nat} (ho : f.offset = off) (hsz : P.cellsOf f.type = size) (h : OpensU enc P w bulk B N f.type cs good me) (k : FOpensU enc P w bulk B N fs (off + size) cs' good' me') :
    FOpensU enc P w bulk B N (f :: fs) off (fun x : α × β => cs x.1 ++ cs' x.2) (fun x => good x.1 ∧ good' x.2) (fun x => me x.1 + me' x.2) := by
  subst ho; subst hsz
  intro sp n vs xs hnN hxl hx hb hoff hl
  cases xs with
  | nil => simp at hxl
  | cons y ys =>
    have h0 := hx 0 f rfl
    simp only [List.getElem?_cons_zero] at h0
    obtain ⟨a, ha, ma, ra⟩ := h sp n _ _ hnN h0 (hb y (by simp))
    simp only [List.map_cons, List.sum_cons] at hl
    obtain ⟨b, hb2, mb, rb⟩ := k sp n vs ys hnN (by simpa using hxl) (fun i g hg => by simpa using hx (i + 1) g (by simpa using hg)) (fun z hz => hb z (by simp [hz])) (by omega) (by omega)
    refine ⟨(a, b), ⟨ha, hb2⟩, by simp only [List.map_cons, List.sum_cons]; omega, ?_⟩
    have e : vs.drop f.offset = (vs.drop f.offset).take (P.cellsOf f.type) ++ vs.drop (f.offset + P.cellsOf f.type) := by
      rw [← List.drop_drop, List.take_append_drop]
    rw [e]
    exact ra.append rb

theorem OpensU.struct (hB : BulkOk bulk) (hS : BulkSum bulk) {N : Nat} {t : TypeId} {fs : Array Field} {α : Type} {cs : α → List PV} {good : α → Prop} {me : α → Nat} (ht : P.underlying t = some (.struct fs)) (hc : P.cellsOf t = (fs.toList.map fun f => P.cellsOf f.type).sum) (h : FOpensU enc P w bulk B N fs.toList 0 cs good me) :
    OpensU enc P w bulk B (N + 1) t cs good (fun a => me a + 1) := by
  intro sp fuel vs x hfu hx hb
  obtain ⟨xs, n, rfl, rfl, hl, hxl, hall⟩ := DataW.trod_struct ht hx
  obtain ⟨a, ha, hma, hr⟩ := h sp n vs xs (by omega) (by simpa using hxl) (fun i f hf => hall i f (by simpa using hf)) (fun y hy => Nat.le_trans (hB.part _ _ (List.mem_map_of_mem hy)) hb) (Nat.zero_le _) (by rw [hl, hc]; simp)
  refine ⟨a, ha, ?_, by simpa using hr⟩
  have := hS.agg (xs.map (·.1))
  rw [List.map_map] at this
  exact Nat.le_trans (Nat.add_le_add_right hma 1) this

end

end Go.Abs

namespace Go.Abs
open Go.Proofs Go.RowKit
set_option maxRecDepth 10000

section
variable {H : Type} {enc : TypeId × Value → H} {w : World} {bulk : DataW H → Nat}

theorem Reads.sub {vs : List Value} {ps qs : List PV} (h : Reads w vs ps) (hs : PSubs ps qs) : Reads w vs qs :=
  ⟨h.len.trans hs.length, fun i x e => by obtain ⟨p, hp, hpq⟩ := hs.get i x e; exact hpq.to _ _ _ (h.pr i p hp), h.one⟩

theorem sizeL_sum : ∀ l : List Ex, (l.map sizeE).sum = sizeL l
  | [] => rfl
  | e :: l => by rw [List.map_cons, List.sum_cons, sizeL, sizeL_sum l]

/-- expressions, by the reader's fuel -/
theorem op_ExprU (hB : BulkOk bulk) (hS : BulkSum bulk) : ∀ N, OpensU enc Tryz.prog w bulk BB N 40 cEx (fun _ => True) sizeE := by
  have step : ∀ N, OpensU enc Tryz.prog w bulk BB N 40 cEx (fun _ => True) sizeE → OpensU enc Tryz.prog w bulk BB (N + 1 + 1) 40 cEx (fun _ => True) sizeE := by
    intro N ih
    have hk := OpensU.slice hB hS (t := 38) Tryz.underlying38 (size := 11) (by kernel_rfl) (by decide) ih
    refine (OpensU.struct hB hS Tryz.underlying40 (by kernel_rfl) (.cons (size := 1) rfl (by kernel_rfl) op_int.toU (.cons (size := 1) rfl (by kernel_rfl) op_int.toU (.cons (size := 1) rfl (by kernel_rfl) op_int.toU (.cons (size := 1) rfl (by kernel_rfl) (op_string hB).toU
      (.cons (size := 3) rfl (by kernel_rfl) (op_Value hB).toU (.cons (size := 3) rfl (by kernel_rfl) (op_Key hB).toU (.cons (size := 1) rfl (by kernel_rfl) hk .nil)))))))).imp (fun x => .mk x.1 x.2.1 x.2.2.1 x.2.2.2.1 x.2.2.2.2.1 x.2.2.2.2.2.1 x.2.2.2.2.2.2.1) (fun a _ vs hr => ?_) (fun _ _ => trivial) (fun a => ?_)
    · exact Reads.sub hr ⟨.rfl, .rfl, .rfl, .rfl, .rfl, .rfl, .rfl, .rfl, .rfl, .rfl, PSub.kids', trivial⟩
    · rw [sizeE_eq, ← sizeL_sum]
      dsimp only [Ex.kids]
      omega
  intro N
  induction N using Nat.strongRecOn with
  | _ N ih =>
    match N with
    | 0 => 
      intro sp fuel vs x hf hx hb
      exact step 0 (fun sp fuel vs x hf hx hb => by
        obtain rfl : fuel = 0 := by omega
        simp [DataW.trod] at hx) sp fuel vs x (by omega) hx hb
    | 1 =>
      intro sp fuel vs x hf hx hb
      exact step 0 (ih 0 (by omega)) sp fuel vs x (by omega) hx hb
    | N + 2 => exact step N (ih N (by omega))

theorem op_Expr (hB : BulkOk bulk) (hS : BulkSum bulk) : Opens enc Tryz.prog w bulk BB 40 cEx (fun e => sizeE e ≤ 1048576) :=
  (OpensU.all (op_ExprU hB hS)).imp id (fun _ => rfl) (fun _ h => h.2)

theorem op_Scope (hB : BulkOk bulk) : Opens enc Tryz.prog w bulk BB 28 cSco smallS :=
  (Opens.struct hB Tryz.underlying28 (by kernel_rfl) (.cons (size := 2) rfl (by kernel_rfl) (op_Home hB) (.cons (size := 1) rfl (by kernel_rfl) (op_l_string hB) (.cons (size := 1) rfl (by kernel_rfl) (op_l_string hB) .nil)))).imp (fun x => ⟨x.1, x.2.1, x.2.2.1⟩) (fun _ => rfl) (fun _ h => ⟨h.1, h.2.1, h.2.2.1⟩)

theorem op_Event (hB : BulkOk bulk) : Opens enc Tryz.prog w bulk BB 70 (fun x : Evt => [vint x.dev, vstr x.cluster, vstr x.name]) (fun _ => True) :=
  (Opens.struct hB Tryz.underlying70 (by kernel_rfl) (.cons (size := 1) rfl (by kernel_rfl) op_int (.cons (size := 1) rfl (by kernel_rfl) (op_string hB) (.cons (size := 1) rfl (by kernel_rfl) (op_string hB) .nil)))).imp (fun x => ⟨x.1, x.2.1, x.2.2.1⟩) (fun _ => rfl) (fun _ _ => trivial)
theorem op_Trigger (hB : BulkOk bulk) : Opens enc Tryz.prog w bulk BB 72 cTrg (fun _ => True) :=
  (Opens.struct hB Tryz.underlying72 (by kernel_rfl) (.cons (size := 1) rfl (by kernel_rfl) op_int (.cons (size := 3) rfl (by kernel_rfl) (op_Key hB) (.cons (size := 3) rfl (by kernel_rfl) (op_Event hB) (.cons (size := 1) rfl (by kernel_rfl) (op_string hB) (.cons (size := 1) rfl (by kernel_rfl) op_int (.cons (size := 1) rfl (by kernel_rfl) op_int .nil))))))).imp
    (fun x => ⟨x.1, x.2.1, x.2.2.1, x.2.2.2.1, x.2.2.2.2.1, x.2.2.2.2.2.1⟩) (fun _ => rfl) (fun _ _ => trivial)
theorem op_l_Trigger (hB : BulkOk bulk) : Opens enc Tryz.prog w bulk BB 45 (fun l : List Trg => [roL 10 cTrg l]) smallL :=
  (Opens.slice hB Tryz.underlying45 (by kernel_rfl) (by decide) (op_Trigger hB)).imp id (fun _ => rfl) (fun _ h => h.1)
theorem op_Step (hB : BulkOk bulk) (hS : BulkSum bulk) : Opens enc Tryz.prog w bulk BB 63 cStp (fun x => sizeE x.expr ≤ 1048576) :=
  (Opens.struct hB Tryz.underlying63 (by kernel_rfl) (.cons (size := 1) rfl (by kernel_rfl) op_int (.cons (size := 3) rfl (by kernel_rfl) (op_Key hB) (.cons (size := 1) rfl (by kernel_rfl) (op_string hB) (.cons (size := 11) rfl (by kernel_rfl) (op_Expr hB hS) .nil))))).imp (fun x => ⟨x.1, x.2.1, x.2.2.1, x.2.2.2.1⟩) (fun _ => rfl) (fun _ h => h.2.2.2.1)
theorem op_l_Step (hB : BulkOk bulk) (hS : BulkSum bulk) : Opens enc Tryz.prog w bulk BB 46 (fun l : List Stp => [roL 16 cStp l]) (fun l => smallL l ∧ ∀ i, i < l.length → sizeE (l.getD i default).expr ≤ 1048576) :=
  (Opens.slice hB Tryz.underlying46 (by kernel_rfl) (by decide) (op_Step hB hS)).imp id (fun _ => rfl) (fun _ h => h)

def goodRulO (r : Rul) : Prop := sizeE r.cond ≤ 1073741824 ∧ ∀ i, i < r.steps.length → sizeE (r.steps.getD i default).expr ≤ 1073741824
theorem op_Rule (hB : BulkOk bulk) (hS : BulkSum bulk) : Opens enc Tryz.prog w bulk BB 48 cRul goodRulO :=
  (Opens.struct hB Tryz.underlying48 (by kernel_rfl) (.cons (size := 1) rfl (by kernel_rfl) (op_string hB) (.cons (size := 1) rfl (by kernel_rfl) op_int (.cons (size := 1) rfl (by kernel_rfl) (op_l_Trigger hB) (.cons (size := 11) rfl (by kernel_rfl) (op_Expr hB hS) (.cons (size := 1) rfl (by kernel_rfl) (op_l_Step hB hS) .nil)))))).imp
    (fun x => ⟨x.1, x.2.1, x.2.2.1, x.2.2.2.1, x.2.2.2.2.1⟩) (fun _ => rfl) (fun _ h => ⟨Nat.le_trans h.2.2.2.1 (by decide), fun i hi => Nat.le_trans (h.2.2.2.2.1.2 i hi) (by decide)⟩)
theorem op_l_Rule (hB : BulkOk bulk) (hS : BulkSum bulk) : Opens enc Tryz.prog w bulk BB 49 (fun l : List Rul => [roL 15 cRul l]) (fun l => smallL l ∧ ∀ i, i < l.length → goodRulO (l.getD i default)) :=
  (Opens.slice hB Tryz.underlying49 (by kernel_rfl) (by decide) (op_Rule hB hS)).imp id (fun _ => rfl) (fun _ h => h)
end
end Go.Abs

namespace Go.Proofs.YtbhnjopjhaebpaaGreatDoor
open Go.ChangeShapes Go.WideShapes Go.ChangeAt Go.RowKit Go.Abs

theorem bulkSum {H : Type} : BulkSum (Rows.uptoBulk (H := H)) := by
  have all : ∀ l : List (DataW H), Rows.uptoBulkAll l = (l.map Rows.uptoBulk).sum := by
    intro l
    induction l with
    | nil => rfl
    | cons x r ih => simp only [Rows.uptoBulkAll, List.map_cons, List.sum_cons, ih]
  refine ⟨fun e s => ?_, fun l => ?_⟩
  · simp only [Rows.uptoBulk, all]; omega
  · simp only [Rows.uptoBulk, all]; omega

end Go.Proofs.YtbhnjopjhaebpaaGreatDoor

namespace Go.Abs
open Go.RowKit Go.Shelf Go.Sort
variable [Globals]

theorem grown_of_ext {w w' : World} (ho : w'.os = w.os) (ht : w'.tape = w.tape) (hp : w'.output = w.output) (hs : w.heap.size ≤ w'.heap.size) (hb : ∀ b, b < w.heap.size → w'.heap[b]? = w.heap[b]?) (hd : w.drawn ≤ w'.drawn) :
    ∃ q os', w' = grow (w.drewN q) os' := by
  refine ⟨w'.drawn - w.drawn, w'.heap.extract w.heap.size w'.heap.size, ?_⟩
  obtain ⟨heap, tape, drawn, os, output⟩ := w
  obtain ⟨heap', tape', drawn', os', output'⟩ := w'
  simp only at *
  subst ho; subst ht; subst hp
  simp only [grow, World.drewN, World.mk.injEq, true_and, and_true]
  refine ⟨?_, by omega⟩
  apply Array.ext_getElem?
  intro i
  rw [Array.getElem?_append]
  split
  · rename_i h; exact hb i h
  · rename_i h
    by_cases h2 : i < heap'.size
    · rw [Array.getElem?_extract]
      rw [if_pos (by omega)]
      congr 1; omega
    · rw [Array.getElem?_eq_none (by omega), Array.getElem?_eq_none (by simp; omega)]

section
variable {P : Program} {ρ : Ren} {α : Type} [Inhabited α]

theorem sortWorld_same {encV : α → List Value} {k : Nat} {M : Nat → Prop} {w : World} {b m : Nat} {dk : Array α} {os : Array Obj} (hb : M b) : Same M w (Proofs.sortWorldK encV k w b 0 m dk os) := by
  unfold Proofs.sortWorldK grow
  refine ⟨by simp [putRowK, Sort.ahead], fun c hc hm => ?_⟩
  have hne : b ≠ c := fun e => hm (e ▸ hb)
  show ((putRowK encV k (Sort.ahead w m) b 0 dk).heap ++ os)[c]? = _
  rw [Array.getElem?_append_left (by simp [putRowK, Sort.ahead]; exact hc)]
  simp only [putRowK, putRow, mapBlock, Sort.ahead]
  rw [Array.getElem?_modify]
  simp [hne]

theorem agg_vals {W : World} {M : Nat → Prop} {l : List Value} (h1 : ∀ v ∈ l, v.oneCell' = true) : PR W M (.agg (l.map .val)) (.agg l.toArray) := by
  refine .agg _ _ (by simp) (fun i p e => ?_) (fun i hi' => ?_)
  · rw [List.getElem?_map] at e
    cases hq : l[i]? with
    | none => rw [hq] at e; cases e
    | some q =>
      rw [hq] at e; cases e
      have : l.toArray.getD i undef = q := by simp [Array.getD_eq_getD_getElem?, hq]
      rw [this]; exact .val q
  · have hlt : i < l.length := by simpa using hi'
    have := h1 l[i] (List.getElem_mem hlt)
    simpa [Array.getD, hlt] using this

theorem two_args {W : World} {St M : Nat → Prop} {σ : Sig} {p q : PV} {u v : Value} (hu : PR W M p u) (hv : PR W M q v) : ∀ (i : Nat) (z : AV), [AV.pv p, AV.pv q][i]? = some z → AR P W St M σ z (#[u, v].getD i undef) := by
  intro i z e
  match i, e with
  | 0, e => cases e; exact .pv _ _ hu
  | 1, e => cases e; exact .pv _ _ hv
  | i + 2, e => simp at e

theorem ac_grown {g : FuncId} {p q : PV} {n : Int} (h : AC P g [.pv p, .pv q] [] (.pv (.val (.int .i64 n))) []) {M : Nat → Prop} {W : World} {u v : Value} (hM : ∀ b, M b → b < W.heap.size) (hG : Glob W M) (hu : PR W M p u) (hv : PR W M q v) :
    Calls P g #[u, v] W fun e w' => e = .returned (.int .i64 n) ∧ ∃ r os', w' = grow (W.drewN r) os' := by
  have hMo : ∀ b, Mof M (fun _ => none) b ↔ M b := fun b => ⟨fun h => h.elim id (fun ⟨l, loc, e, _⟩ => (by cases e)), fun h => .inl h⟩
  have hMe : Mof M (fun _ => none) = M := funext fun b => propext (hMo b)
  have hinv : Inv (fun _ => False) M (fun _ => none) W := by
    refine ⟨fun l l' loc loc' c e => (by cases e), fun c ⟨l, loc, e, _⟩ => (by cases e), fun c h => ⟨hM c h, fun ⟨l, loc, e, _⟩ => by cases e⟩, fun c h => h.elim, ?_⟩
    rw [hMe]; exact hG
  refine (h.2 (fun _ => False) M (fun _ => none) W #[u, v] hinv (fun _ _ => rfl) (fun l o e => by simp [getO] at e) rfl (two_args (by rw [hMe]; exact hu) (by rw [hMe]; exact hv))).mono (fun e w' he => ?_)
  obtain ⟨v, σ', rfl, hp⟩ := he
  have hv := pr_val (arg_pv hp.val)
  subst hv
  refine ⟨rfl, grown_of_ext hp.ext.os hp.ext.tape hp.ext.output hp.ext.size (fun c hc => hp.ext.block c hc ?_) hp.ext.drawn⟩
  rintro ⟨l, loc, h, _⟩
  exact h rfl

theorem cmpLays_of_ac {g : FuncId} {encV : α → List Value} {k : Nat} {cf : α → α → Int} (h1 : ∀ x, ∀ v ∈ encV x, v.oneCell' = true)
    (hg : ∀ x y, AC P g [.pv (.agg ((encV x).map .val)), .pv (.agg ((encV y).map .val))] [] (.pv (.val (.int .i64 (cf x y)))) [])
    {St M0 : Nat → Prop} {σ : Sig} {w : World} (hi : Inv St M0 σ w) {b size : Nat} (hb : owned σ b) : Proofs.CmpLays P g #[] encV k cf b 0 size w := by
  intro m os dk hdk x y
  have hsame : Same (Mof M0 σ) w (Proofs.sortWorldK encV k w b 0 m dk os) := sortWorld_same (.inr hb)
  rw [Array.append_empty]
  exact ac_grown (hg x y) (M := Mof M0 σ) (fun c h => Nat.lt_of_lt_of_le (h.elim (fun h => (hi.m0 c h).1) (hi.lt c)) hsame.1) (hi.gl.mono hsame (fun c _ h => h)) (agg_vals (h1 x)) (agg_vals (h1 y))

theorem sortWorld_ext {encV : α → List Value} {k : Nat} {w : World} {b n : Nat} {d : Array α} {os : Array Obj} : FExt (fun c => c = b) w (Proofs.sortWorldK encV k w b 0 n d os) := by
  refine ⟨rfl, rfl, rfl, by simp [Proofs.sortWorldK, grow, putRowK, Sort.ahead], fun c hc hne => ?_, by simp [Proofs.sortWorldK, grow, putRowK, putRow, mapBlock, Sort.ahead]⟩
  show ((putRowK encV k (Sort.ahead w n) b 0 d).heap ++ os)[c]? = _
  rw [Array.getElem?_append_left (by simp [putRowK, Sort.ahead]; exact hc)]
  simp only [putRowK, putRow, mapBlock, Sort.ahead]
  rw [Array.getElem?_modify]
  simp [Ne.symm hne]

theorem sortWorld_row {encV : α → List Value} {k : Nat} {w : World} {b n : Nat} {d : Array α} {os : Array Obj} {vs : Array Value} {t : TypeId} (hb : w.heap[b]? = some (.cells vs t (0, 0))) :
    (Proofs.sortWorldK encV k w b 0 n d os).heap[b]? = some (.cells (Sort.putCells id 0 (flatK encV k d) vs) t (0, 0)) := by
  have hlt := lt_of_block hb
  show ((putRowK encV k (Sort.ahead w n) b 0 d).heap ++ os)[b]? = _
  rw [Array.getElem?_append_left (by simp [putRowK, Sort.ahead]; exact hlt)]
  simp only [putRowK, putRow, mapBlock, Sort.ahead]
  rw [Array.getElem?_modify]
  simp [hb, onCells]

theorem AC.sortFunc (L : Proofs.SlLaysF0.n6 P ρ) (k : Nat) (aE : ∀ w, (isAgg (ρ.t 24)).run P w = .ok true w) (zE : ∀ w, (Go.sizeOf (ρ.t 24)).run P w = .ok k w) (encV : α → List Value) (hk : ∀ x, (encV x).length = k) (h1 : ∀ x, ∀ v ∈ encV x, v.oneCell' = true) (cf : α → α → Int) (hO : SWO (Proofs.ltOf cf)) (g : FuncId)
    (hg : ∀ x y, AC P g [.pv (.agg ((encV x).map .val)), .pv (.agg ((encV y).map .val))] [] (.pv (.val (.int .i64 (cf x y)))) []) (hT : ∀ x y, Proofs.ltOf cf x y = false → Proofs.ltOf cf y x = false → x = y)
    (hcall : ∀ (vals : Array Value) (w : World), (callFunc (ρ.f 6) vals).run P w = .ok (.enter (ρ.f 6) vals) w) (l : List α) (hl : l.length < 4611686018427387904) :
    AC P (ρ.f 6) [.own 0, .fn g []] [(0, .row k l.length fun i => (encV (l.getD i default)).map .val)] (.pv (.tup [])) [(0, .row k l.length fun i => (encV ((l.mergeSort fun x y => !(Proofs.ltOf cf) y x).getD i default)).map .val)] := by
  refine ⟨hcall, fun St M0 σ w vals hi hσ hos hsz hA => ?_⟩
  obtain ⟨loc, hloc, hor⟩ := hos 0 _ (by simp [getO]; rfl)
  have hv0 := arg_own (hA 0 (.own 0) rfl) hloc
  have hv1 := hA 1 (.fn g []) rfl
  have hvals : vals = #[vals.getD 0 undef, vals.getD 1 undef] := by
    have hs2 : vals.size = 2 := hsz
    apply Array.ext
    · simpa using hs2
    · intro i h2 h3
      have : i = 0 ∨ i = 1 := by omega
      rcases this with rfl | rfl <;> simp [Array.getD, hs2]
  have hfv : vals.getD 1 undef = .func (.func g) #[] #[] := by
    generalize vals.getD 1 undef = v at hv1
    cases hv1 with
    | fn f caps vs hlc _ =>
      have : vs = #[] := by simpa using hlc
      rw [this]
  rw [hvals, hv0, hfv]
  have done : ∀ w' : World, w' = w → l.length = 0 → ∃ v σ', Ending.returned (.tuple #[]) = .returned v ∧ Post P St M0 σ w [(0, .row k l.length fun i => (encV ((l.mergeSort fun x y => !(Proofs.ltOf cf) y x).getD i default)).map .val)] (.pv (.tup [])) σ' v w' := by
    rintro w' rfl hl0
    refine ⟨_, σ, rfl, Post.redo hi ⟨loc, hloc, ?_⟩ (.pv _ _ (.tup _ _ rfl fun i p e => by simp at e))⟩
    have h0 : l = [] := List.length_eq_zero_iff.1 hl0
    subst h0
    simpa using hor
  generalize hn0 : l.length = n0 at hor
  cases hor with
  | row0 _ _ a =>
    refine (Proofs.AnyF.slices_SortFunc_none L a 0 _ w).mono (fun e w' h => ?_)
    obtain ⟨rfl, hw⟩ := h
    have h5 := done w' hw hn0
    rw [hn0] at h5
    exact h5
  | row _ _ _ b cap vs t hb hn hmax hsz' hs hh hone =>
    subst hn0
    by_cases h0 : l.length = 0
    · have none' : ∀ n, n = 0 → Calls P (ρ.f 6) #[.slice (some ⟨b, 0, none⟩) n cap, .func (.func g) #[] #[]] w fun e w' => e = .returned (.tuple #[]) ∧ w' = w := by
        intro n hn
        rw [hn]
        exact Proofs.AnyF.slices_SortFunc_none L (some ⟨b, 0, none⟩) cap (.func (.func g) #[] #[]) w
      have := none' l.length h0
      refine this.mono (fun e w' h => ?_)
      obtain ⟨rfl, hw⟩ := h
      exact done w' hw h0
    · have hblk := lt_of_block hb
      have hget : ∀ j, j < l.length * k → vs.getD j undef = (flatK encV k l.toArray)[j]! := by
        intro j hj
        have k0 : 0 < k := by rcases Nat.eq_zero_or_pos k with h | h; · subst h; simp at hj
                              · exact h
        have hd : j / k < l.length := (Nat.div_lt_iff_lt_mul k0).2 hj
        have hm : j % k < (encV (l.getD (j / k) default)).length := by rw [hk]; exact Nat.mod_lt _ k0
        have hp := hh (j / k) hd (j % k) (.val ((encV (l.getD (j / k) default))[j % k]'hm)) (by simp [hm])
        have hp := pr_val hp
        rw [show j / k * k + j % k = j from by rw [Nat.mul_comm]; exact Nat.div_add_mod j k] at hp
        rw [hp, get_flatK _ _ _ _ (by simpa using hj)]
        have e1 : l.toArray[j / k]! = l.getD (j / k) default := by simp [List.getD, hd]
        rw [e1, getElem!_pos (encV (l.getD (j / k) default)) (j % k) hm]
      have hH : HoldsK encV k w b 0 l.toArray := by
        intro j hj
        have hj' : j < l.length * k := by simpa using hj
        have hlt : j < vs.size := by rw [hsz']; exact Nat.lt_of_lt_of_le hj' (Nat.mul_le_mul_right _ hn)
        refine ⟨?_, ?_⟩
        · rw [Nat.zero_add, id, ← hget j hj']
          simp [World.cell?, hb, Array.getD, hlt]
        · simp [World.frozen?, hb]
      have hown : owned σ b := ⟨0, _, hloc, rfl⟩
      have := Proofs.AnyQ.slices_SortFunc_total L k aE zE encV hk h1 cf hO g #[] b 0 cap l.toArray w (hg default default).1 (cmpLays_of_ac h1 hg hi hown) hH hblk (by simpa using hl) hT
      have e0 : (l.toArray).size = l.length := by simp
      rw [e0] at this
      refine this.mono ?_
      rintro e w' ⟨rfl, n, os, rfl⟩
      have hx := sortWorld_ext (encV := encV) (k := k) (w := w) (b := b) (n := n) (d := (l.toArray.toList.mergeSort fun x y => !(Proofs.ltOf cf) y x).toArray) (os := os)
      have hrow := sortWorld_row (encV := encV) (k := k) (w := w) (b := b) (n := n) (d := (l.toArray.toList.mergeSort fun x y => !(Proofs.ltOf cf) y x).toArray) (os := os) hb
      have hlm : (l.mergeSort fun x y => !(Proofs.ltOf cf) y x).length = l.length := List.length_mergeSort _
      refine ⟨_, σ, rfl, Post.upd hi hloc rfl hx (by simp) (.row _ _ _ b cap _ t hrow hn hmax (by simp [Sort.putCells, hsz']) (fun i hi' => by simp [hk]) (fun i hi' j p e => ?_) (fun i hi' => ?_)) (.pv _ _ (.tup _ _ rfl fun i p e => by simp at e))⟩
      · rw [List.getElem?_map] at e
        cases hq : (encV ((l.mergeSort fun x y => !(Proofs.ltOf cf) y x).getD i default))[j]? with
        | none => rw [hq] at e; cases e
        | some q =>
          rw [hq] at e; cases e
          have hj : j < k := by have := (List.getElem?_eq_some_iff.1 hq).1; rwa [hk] at this
          have hlt : i * k + j < l.length * k := idx_lt hi' hj
          have hltv : i * k + j < vs.size := by rw [hsz']; exact Nat.lt_of_lt_of_le hlt (Nat.mul_le_mul_right _ hn)
          have : (Sort.putCells id 0 (flatK encV k (l.toArray.toList.mergeSort fun x y => !(Proofs.ltOf cf) y x).toArray) vs).getD (i * k + j) undef = q := by
            simp only [Sort.putCells, Array.getD, Array.size_mapIdx, hltv, dif_pos, Array.getInternal_eq_getElem, Array.getElem_mapIdx]
            rw [if_pos (by simp [hlm]; exact hlt)]
            rw [Nat.sub_zero, id, get_flatK _ _ _ _ (by simp [hlm]; exact hlt)]
            have e1 : (i * k + j) / k = i := by rw [Nat.add_comm, Nat.add_mul_div_right _ _ (by omega), Nat.div_eq_of_lt hj, Nat.zero_add]
            have e2 : (i * k + j) % k = j := by rw [Nat.add_comm, Nat.add_mul_mod_self_right, Nat.mod_eq_of_lt hj]
            rw [e1, e2]
            have e3 : (l.toArray.toList.mergeSort fun x y => !(Proofs.ltOf cf) y x).toArray[i]! = (l.mergeSort fun x y => !(Proofs.ltOf cf) y x).getD i default := by
              have : i < (l.mergeSort fun x y => !(Proofs.ltOf cf) y x).length := by omega
              simp [List.getD, this]
            rw [e3]
            have hj2 := (List.getElem?_eq_some_iff.1 hq)
            obtain ⟨h3, h4⟩ := hj2
            rw [getElem!_pos (encV ((l.mergeSort fun x y => !(Proofs.ltOf cf) y x).getD i default)) j h3, h4]
          rw [this]; exact .val q
      · have hltv : i < vs.size := by simpa [Sort.putCells] using hi'
        simp only [Sort.putCells, Array.getD, Array.size_mapIdx, hltv, dif_pos, Array.getInternal_eq_getElem, Array.getElem_mapIdx]
        split
        · rename_i hc
          have hf : i - 0 < (flatK encV k (l.toArray.toList.mergeSort fun x y => !(Proofs.ltOf cf) y x).toArray).size := by
            have := hc.2
            simp only [Nat.zero_add, Nat.sub_zero] at this ⊢
            exact this
          have k0 : 0 < k := by rcases Nat.eq_zero_or_pos k with h | h; · subst h; simp at hf
                                · exact h
          rw [id, get_flatK _ _ _ _ (by simpa using hf)]
          have hm : (i - 0) % k < (encV (l.toArray.toList.mergeSort fun x y => !(Proofs.ltOf cf) y x).toArray[(i - 0) / k]!).length := by rw [hk]; exact Nat.mod_lt _ k0
          rw [getElem!_pos (encV (l.toArray.toList.mergeSort fun x y => !(Proofs.ltOf cf) y x).toArray[(i - 0) / k]!) ((i - 0) % k) hm]
          exact h1 _ _ (List.getElem_mem hm)
        · have := hone i hltv
          simpa [Array.getD, hltv] using this
end

end Go.Abs

namespace Go.Abs

theorem getD_getElem {α : Type} (l : List α) {i : Nat} (d : α) (h : i < l.length) : l.getD i d = l[i] := by simp [List.getD, h]

def Asc (l : List Key) : Prop := l.Pairwise fun a b => keyLess a b = true

theorem asc_ext : ∀ {l k : List Key}, Asc l → Asc k → (∀ x, x ∈ l ↔ x ∈ k) → l = k
  | [], [], _, _, _ => rfl
  | [], b :: k, _, _, h => by have := (h b).2 (by simp); simp at this
  | a :: l, [], _, _, h => by have := (h a).1 (by simp); simp at this
  | a :: l, b :: k, hl, hk, h => by
    obtain ⟨hl1, hl2⟩ := List.pairwise_cons.1 hl
    obtain ⟨hk1, hk2⟩ := List.pairwise_cons.1 hk
    have e : a = b := by
      have h1 := (h a).1 (by simp)
      have h2 := (h b).2 (by simp)
      rcases List.mem_cons.1 h1 with e | h1
      · exact e
      · rcases List.mem_cons.1 h2 with e | h2
        · exact e.symm
        · have := keyLess_asymm (hl1 b h2)
          rw [hk1 a h1] at this; cases this
    subst e
    congr 1
    refine asc_ext hl2 hk2 fun x => ⟨fun hx => ?_, fun hx => ?_⟩
    · rcases List.mem_cons.1 ((h x).1 (by simp [hx])) with e | h1
      · subst e; have := hl1 x hx; rw [keyLess_irrefl] at this; cases this
      · exact h1
    · rcases List.mem_cons.1 ((h x).2 (by simp [hx])) with e | h1
      · subst e; have := hk1 x hx; rw [keyLess_irrefl] at this; cases this
      · exact h1

/-- homehubref22.Put -/
def putK : List Key → Key → List Key
  | [], k => [k]
  | x :: r, k => if keyLess x k = true then x :: putK r k else k :: (x :: r).filter fun y => decide (y ≠ k)

theorem mem_putK {l : List Key} {k x : Key} : x ∈ putK l k ↔ x = k ∨ x ∈ l := by
  induction l with
  | nil => simp [putK]
  | cons y r ih =>
    unfold putK
    split
    · simp only [List.mem_cons, ih]
      constructor
      · rintro (h | h | h)
        · exact .inr (.inl h)
        · exact .inl h
        · exact .inr (.inr h)
      · rintro (h | h | h)
        · exact .inr (.inl h)
        · exact .inl h
        · exact .inr (.inr h)
    · simp only [List.mem_cons, List.mem_filter, decide_eq_true_eq]
      constructor
      · rintro (h | ⟨h, _⟩)
        · exact .inl h
        · exact .inr h
      · rintro (h | h)
        · exact .inl h
        · by_cases e : x = k
          · exact .inl e
          · exact .inr ⟨h, e⟩

theorem asc_putK {l : List Key} {k : Key} (h : Asc l) : Asc (putK l k) := by
  induction l with
  | nil => simp [putK, Asc]
  | cons y r ih =>
    obtain ⟨h1, h2⟩ := List.pairwise_cons.1 h
    unfold putK
    split
    · rename_i hy
      refine List.pairwise_cons.2 ⟨fun x hx => ?_, ih h2⟩
      rcases mem_putK.1 hx with rfl | hx
      · exact hy
      · exact h1 x hx
    · rename_i hy
      refine List.pairwise_cons.2 ⟨fun x hx => ?_, h.sublist (List.filter_sublist)⟩
      rw [List.mem_filter, decide_eq_true_eq] at hx
      obtain ⟨hx, hne⟩ := hx
      rcases List.mem_cons.1 hx with rfl | hx
      · exact (keyLess_total hne).resolve_left hy
      · have h3 := h1 x hx
        rcases keyLess_total hne with h4 | h4
        · exact absurd (keyLess_trans h3 h4) hy
        · exact h4

/-- keys in ascending order, each once -/
def sortK (l : List Key) : List Key := l.foldl putK []

theorem foldl_putK_mem {l acc : List Key} {x : Key} : x ∈ l.foldl putK acc ↔ x ∈ acc ∨ x ∈ l := by
  induction l generalizing acc with
  | nil => simp
  | cons y r ih =>
    simp only [List.foldl_cons, ih, mem_putK, List.mem_cons]
    constructor
    · rintro ((h | h) | h)
      · exact .inr (.inl h)
      · exact .inl h
      · exact .inr (.inr h)
    · rintro (h | h | h)
      · exact .inl (.inr h)
      · exact .inl (.inl h)
      · exact .inr h

theorem foldl_putK_asc {l acc : List Key} (h : Asc acc) : Asc (l.foldl putK acc) := by
  induction l generalizing acc with
  | nil => exact h
  | cons y r ih => exact ih (asc_putK h)

theorem mem_sortK {l : List Key} {x : Key} : x ∈ sortK l ↔ x ∈ l := by unfold sortK; rw [foldl_putK_mem]; simp
theorem asc_sortK (l : List Key) : Asc (sortK l) := foldl_putK_asc List.Pairwise.nil
theorem sortK_congr {l k : List Key} (h : ∀ x, x ∈ l ↔ x ∈ k) : sortK l = sortK k := asc_ext (asc_sortK l) (asc_sortK k) fun x => by rw [mem_sortK, mem_sortK, h]
theorem sortK_asc {l : List Key} (h : Asc l) : sortK l = l := asc_ext (asc_sortK l) h fun x => mem_sortK
theorem Asc.nodup {l : List Key} (h : Asc l) : l.Nodup := by
  refine List.Pairwise.imp (fun {a b} hab => ?_) h
  intro e; subst e; rw [keyLess_irrefl] at hab; cases hab
theorem putK_length (l : List Key) (k : Key) : (putK l k).length ≤ l.length + 1 := by
  induction l with
  | nil => simp [putK]
  | cons y r ih =>
    unfold putK
    split
    · simp only [List.length_cons]; omega
    · simp only [List.length_cons]
      have := List.length_filter_le (fun z => decide (z ≠ k)) (y :: r)
      simp only [List.length_cons] at this
      omega
theorem foldl_putK_length {l acc : List Key} : (l.foldl putK acc).length ≤ acc.length + l.length := by
  induction l generalizing acc with
  | nil => simp
  | cons y r ih =>
    have h1 := ih (acc := putK acc y)
    have h2 := putK_length acc y
    simp only [List.foldl_cons, List.length_cons]; omega
theorem sortK_length (l : List Key) : (sortK l).length ≤ l.length := by
  have := foldl_putK_length (l := l) (acc := [])
  simpa [sortK] using this

/-- one of each run of equal ones, of the first m -/
def compTo (l : List Key) : Nat → List Key
  | 0 => []
  | m + 1 => if m = 0 ∨ l.getD m default ≠ l.getD (m - 1) default then compTo l m ++ [l.getD m default] else compTo l m

theorem compTo_length (l : List Key) : ∀ m, (compTo l m).length ≤ m
  | 0 => Nat.le_refl _
  | m + 1 => by
    have := compTo_length l m
    unfold compTo
    split
    · simp; omega
    · omega

theorem compTo_take {l : List Key} : ∀ {m : Nat}, m ≤ l.length → (∀ j, 1 ≤ j → j < m → l.getD j default ≠ l.getD (j - 1) default) → compTo l m = l.take m
  | 0, _, _ => by simp [compTo]
  | m + 1, hm, h => by
    have ih := compTo_take (l := l) (m := m) (by omega) (fun j h1 h2 => h j h1 (by omega))
    unfold compTo
    rw [if_pos, ih, take_succ_getD (by omega)]
    by_cases e : m = 0
    · exact .inl e
    · exact .inr (h m (by omega) (by omega))

/-- in order, equal ones allowed -/
def Ord (l : List Key) : Prop := ∀ i j, i < j → j < l.length → keyLess (l.getD j default) (l.getD i default) = false

theorem compTo_spec {s : List Key} (hs : Ord s) : ∀ m, m ≤ s.length → Asc (compTo s m) ∧ ∀ x, x ∈ compTo s m ↔ ∃ i, i < m ∧ s.getD i default = x
  | 0, _ => ⟨List.Pairwise.nil, fun x => by simp [compTo]⟩
  | m + 1, hm => by
    obtain ⟨h1, h2⟩ := compTo_spec hs m (by omega)
    unfold compTo
    split
    · rename_i hne
      refine ⟨List.pairwise_append.2 ⟨h1, by simp, fun a ha b hb => ?_⟩, fun x => ?_⟩
      · simp only [List.mem_singleton] at hb
        subst hb
        obtain ⟨i, hi, rfl⟩ := (h2 a).1 ha
        have hle := hs i m hi (by omega)
        by_cases e : s.getD i default = s.getD m default
        · exfalso
          have hne := hne.resolve_left (by omega)
          have h3 := hs (m - 1) m (by omega) (by omega)
          have h4 : keyLess (s.getD (m - 1) default) (s.getD m default) = false := by
            by_cases ei : i = m - 1
            · subst ei; rw [e]; exact keyLess_irrefl _
            · rw [← e]; exact hs i (m - 1) (by omega) (by omega)
          rcases keyLess_total hne with h5 | h5
          · rw [h5] at h3; cases h3
          · rw [h5] at h4; cases h4
        · rcases keyLess_total e with h5 | h5
          · exact h5
          · rw [h5] at hle; cases hle
      · rw [List.mem_append, h2, List.mem_singleton]
        constructor
        · rintro (⟨i, hi, e⟩ | e)
          · exact ⟨i, by omega, e⟩
          · exact ⟨m, by omega, e.symm⟩
        · rintro ⟨i, hi, e⟩
          by_cases ei : i = m
          · subst ei; exact .inr e.symm
          · exact .inl ⟨i, by omega, e⟩
    · rename_i hne
      have hne := not_or.1 hne
      have heq := Classical.not_not.1 hne.2
      refine ⟨h1, fun x => ?_⟩
      rw [h2]
      constructor
      · rintro ⟨i, hi, e⟩; exact ⟨i, by omega, e⟩
      · rintro ⟨i, hi, e⟩
        by_cases ei : i = m
        · subst ei; exact ⟨i - 1, by omega, by rw [← heq]; exact e⟩
        · exact ⟨i, by omega, e⟩

def sortedK (l : List Key) : List Key := l.mergeSort fun x y => !keyLess y x

theorem sortedK_ord (l : List Key) : Ord (sortedK l) := by
  have hp := List.pairwise_mergeSort (le := fun x y : Key => !keyLess y x) (fun a b c h1 h2 => by
    simp only [Bool.not_eq_true'] at *
    cases h3 : keyLess c a with
    | false => rfl
    | true =>
      exfalso
      by_cases e : a = b
      · subst e; rw [h3] at h2; cases h2
      · rcases keyLess_total e with h4 | h4
        · have := keyLess_trans h3 h4; rw [this] at h2; cases h2
        · rw [h4] at h1; cases h1) (fun a b => by
    simp only [Bool.or_eq_true, Bool.not_eq_true']
    cases h : keyLess b a with
    | false => exact .inl rfl
    | true => exact .inr (keyLess_asymm h)) l
  intro i j hij hj
  have hj' : j < (l.mergeSort fun x y => !keyLess y x).length := hj
  have := List.pairwise_iff_getElem.1 hp i j (by omega) hj' hij
  simp only [Bool.not_eq_true'] at this
  unfold sortedK
  rw [getD_getElem _ _ hj', getD_getElem _ _ (show i < (l.mergeSort fun x y => !keyLess y x).length from by omega)]
  exact this

theorem sortedK_length (l : List Key) : (sortedK l).length = l.length := List.length_mergeSort _

theorem comp_sorted (l : List Key) : compTo (sortedK l) l.length = sortK l := by
  obtain ⟨h1, h2⟩ := compTo_spec (sortedK_ord l) l.length (by rw [sortedK_length]; exact Nat.le_refl _)
  refine asc_ext h1 (asc_sortK l) fun x => ?_
  rw [h2, mem_sortK, ← List.mem_mergeSort (le := fun x y => !keyLess y x)]
  show _ ↔ x ∈ sortedK l
  rw [List.mem_iff_getElem]
  constructor
  · rintro ⟨i, hi, e⟩
    exact ⟨i, by rw [sortedK_length]; exact hi, by simpa [List.getD, show i < (sortedK l).length from by rw [sortedK_length]; exact hi] using e⟩
  · rintro ⟨i, hi, e⟩
    exact ⟨i, by rwa [sortedK_length] at hi, by simp [List.getD, hi, e]⟩

theorem sortedK_asc {l : List Key} (h : l.Nodup) : sortedK l = sortK l := by
  have hn : (sortedK l).Nodup := (List.mergeSort_perm l _).nodup_iff.2 h
  rw [← comp_sorted l, compTo_take (by rw [sortedK_length]; exact Nat.le_refl _), ← sortedK_length l, List.take_length]
  intro j h1 h2
  have h3 : j < (sortedK l).length := by rw [sortedK_length]; exact h2
  intro e
  have h5 : j - 1 < (sortedK l).length := by omega
  rw [getD_getElem _ _ h3, getD_getElem _ _ h5] at e
  have := List.pairwise_iff_getElem.1 hn (j - 1) j h5 h3 (by omega)
  exact this e.symm

/-! How slices.SortFunc compares. -/
def cmpK (a b : Key) : Int := if keyLess a b = true then -1 else if keyLess b a = true then 1 else 0

theorem ltOf_cmpK (a b : Key) : Proofs.ltOf cmpK a b = keyLess a b := by
  unfold Proofs.ltOf cmpK
  by_cases h : keyLess a b = true
  · simp [h]
  · by_cases h2 : keyLess b a = true <;> simp [h, h2]

theorem swo_cmpK : Sort.SWO (Proofs.ltOf cmpK) := by
  refine ⟨fun x => by rw [ltOf_cmpK]; exact keyLess_irrefl x, fun x y z h1 h2 => ?_, fun x y z h1 h2 => ?_⟩
  · rw [ltOf_cmpK] at *; exact keyLess_trans h1 h2
  · rw [ltOf_cmpK] at *
    cases h3 : keyLess x z with
    | false => rfl
    | true =>
      exfalso
      by_cases e : y = x
      · subst e; rw [h3] at h2; cases h2
      · rcases keyLess_total e with h4 | h4
        · have := keyLess_trans h4 h3; rw [this] at h2; cases h2
        · rw [h4] at h1; cases h1

theorem parts_cmpK (a b : Key) (h1 : Proofs.ltOf cmpK a b = false) (h2 : Proofs.ltOf cmpK b a = false) : a = b := by
  rw [ltOf_cmpK] at *
  rcases Classical.em (a = b) with e | e
  · exact e
  · rcases keyLess_total e with h | h
    · rw [h] at h1; cases h1
    · rw [h] at h2; cases h2

def vKey (k : Key) : List Value := [.int .i64 k.dev, .string k.cluster, .string k.attr]
theorem vKey_cells (k : Key) : (vKey k).map .val = cKey k := rfl
theorem sortedK_eq (l : List Key) : (l.mergeSort fun x y => !(Proofs.ltOf cmpK) y x) = sortedK l := by
  have : (fun x y : Key => !(Proofs.ltOf cmpK) y x) = fun x y => !keyLess y x := funext fun x => funext fun y => by rw [ltOf_cmpK]
  rw [sortedK, this]

end Go.Abs

namespace Go.Abs
open Go.Proofs
set_option maxRecDepth 10000

theorem item_eq (a b : Item) : (decide (a.key.dev = b.key.dev) && (decide (a.key.cluster = b.key.cluster) && (decide (a.key.attr = b.key.attr) && (decide (a.value.kind = b.value.kind) && (decide (a.value.n = b.value.n) && (decide (a.value.s = b.value.s) && (decide (a.version = b.version) && true))))))) = decide (a = b) := by
  obtain ⟨⟨a1, a2, a3⟩, ⟨a4, a5, a6⟩, a7⟩ := a
  obtain ⟨⟨b1, b2, b3⟩, ⟨b4, b5, b6⟩, b7⟩ := b
  rw [Bool.eq_iff_iff]; simp [and_assoc]

theorem ac_r22_SameKeys (a b : List Key) (ha : a.length ≤ 4194304) : AC Tryz.prog 23 [.pv (roL 3 cKey a), .pv (roL 3 cKey b)] [] (.pv (vbool (decide (a = b)))) [] := by
  refine AC.of_awp (T := T) T_ok hm Tryz.call23 Tryz.func23 rfl rfl rfl ?_
  conv => whnf
  refine ⟨fun h => ?_, fun h => ?_⟩ <;> (try simp only [decide_eq_true_eq, decide_eq_false_iff_not, Bool.not_eq_true', Bool.not_eq_false', Int.toNat_natCast, beq_iff_eq, decide_eq_decide, beq_eq_false_iff_ne, ne_eq, reduceCtorEq] at h) <;> (conv => whnf)
  · exact PSub.lit_sb (by symm; simp only [decide_eq_false_iff_not]; intro e; exact h (by rw [e]))
  have hl := h
  refine loop_k (ι := Nat) [0, 1] [] (fun k => k ≤ a.length ∧ (∀ j, j < k → a.getD j default = b.getD j default)) (fun k => a.length - k) 0 (fun k => [(5, .pv (vint k))]) (fun _ => []) [] ⟨Nat.zero_le _, fun j h => absurd h (by omega)⟩ ?_ (fun k hk => ?_)
  · (repeat' (first | exact PSub.rfl | exact rfl | exact PSubs.rfl | exact trivial | exact PSub.lit_sb rfl | refine And.intro ?_ ?_))
  obtain ⟨hkn, hinv⟩ := hk
  conv => whnf
  repeat (any_goals (first
    | (refine ⟨fun (h : (_ : Bool) = true) => ?_, fun (h : (_ : Bool) = false) => ?_⟩ <;> (try simp only [decide_eq_true_eq, decide_eq_false_iff_not, Bool.not_eq_true', Bool.not_eq_false', Int.toNat_natCast, beq_iff_eq, decide_eq_decide, beq_eq_false_iff_ne, ne_eq, reduceCtorEq] at h) <;> (conv => whnf))
    | (refine And.intro (by (try simp only [Int.toNat_natCast]); omega) ?_; conv => whnf)
    | (refine And.intro (show (_ : Bool) = true from by kernel_rfl) ?_; conv => whnf)
    | (refine .inl ⟨wrap64 (by omega), ?_⟩; conv => whnf)))
  all_goals try rw [key_eq] at h
  all_goals try simp only [decide_eq_true_eq, decide_eq_false_iff_not] at h
  · exact PSub.lit_sb (by symm; simp only [decide_eq_false_iff_not]; intro e; exact h (by rw [e]))
  · refine ⟨k + 1, [], ⟨by omega, ?_⟩, by first | omega | (dsimp only; omega), ?_⟩
    rotate_left
    · (repeat' (first | exact PSub.rfl | exact rfl | exact PSubs.rfl | exact trivial | exact PSub.lit_sb rfl | refine And.intro ?_ ?_))
    intro j hj
    by_cases e : j = k
    · subst e; first | exact h | simpa [-List.getD_eq_getElem?_getD] using h | simp_all [-List.getD_eq_getElem?_getD]
    · exact hinv j (by omega)
  · exact PSub.lit_sb (by symm; simp only [decide_eq_true_eq]; exact list_eq (by omega) fun i hi => hinv i (by omega))

structure Op where
  H : Hom
  L : List Item
  K : Key
  V : Val
  deriving Inhabited
def cOp (x : Op) : List PV := cHom x.H ++ (roL 7 cItem x.L :: (cKey x.K ++ cVal x.V))

theorem getI_eq (a b : Item) : a = b → decide (a = b) = true := fun h => by simp [h]

theorem initL_length {H : Hom} {id : Int} : (initL H id).length = (keysL H id).length := by simp [initL]

section
variable {H : Type} {enc : TypeId × Value → H} {w : World} {bulk : DataW H → Nat}
end

end Go.Abs

namespace Go.Abs
open Go.Proofs
set_option maxRecDepth 10000

/-- cluster.after -/
def afterV (x : Eff) (a : Attr) (p v : Val) : Val :=
  limitV a (if x.kind = 1 then ⟨a.kind, x.n, ⟨#[]⟩⟩ else if x.kind = 2 then p else if x.kind = 3 then ⟨v.kind, satI (v.n + x.n), v.s⟩ else if x.kind = 4 then ⟨v.kind, 1 - v.n, v.s⟩ else v)
/-- R21.Done -/
def doneV (x : Eff) (a : Attr) (p v : Val) : Val :=
  limitV a (if x.kind = 1 then ⟨v.kind, x.n, v.s⟩ else if x.kind = 2 then p else if x.kind = 3 then ⟨v.kind, v.n + x.n, v.s⟩ else if x.kind = 4 then ⟨v.kind, 1 - v.n, v.s⟩ else v)

theorem fits_iff {a : Attr} {v : Val} : fitsE a v = 0 ↔ (defE a = 0 ∧ valE v = 0 ∧ v.kind = a.kind ∧ ¬ ((v.kind = 2 ∧ (v.n < a.min ∨ a.max < v.n)) ∨ (v.kind = 3 ∧ (a.enum.length : Int) ≤ v.n))) := by
  unfold fitsE
  constructor
  · intro h
    split at h
    · contradiction
    · split at h
      · contradiction
      · split at h
        · cases h
        · split at h
          · cases h
          · refine ⟨by omega, by omega, by omega, by assumption⟩
  · rintro ⟨h1, h2, h3, h4⟩
    rw [if_neg (by omega), if_neg (by omega), if_neg (by omega), if_neg h4]

theorem val_iff {v : Val} : valE v = 0 ↔ (0 ≤ v.kind ∧ v.kind ≤ 4 ∧ ((v.kind = 0 ∨ v.kind = 4) → v.n = 0) ∧ (v.kind = 1 → v.n = 0 ∨ v.n = 1) ∧ (v.kind = 2 → inRange v.n = true) ∧ (v.kind = 3 → 0 ≤ v.n ∧ v.n ≤ 63) ∧ v.s.size ≤ 60 ∧ (v.s = ⟨#[]⟩ ∨ v.kind = 4)) := by
  unfold valE
  constructor
  · intro h
    split at h
    · cases h
    · rename_i h1
      split at h
      · cases h
      · rename_i h2
        split at h
        · cases h
        · rename_i h3
          split at h
          · cases h
          · rename_i h4
            refine ⟨by omega, by omega, by omega, by omega, fun hk => ?_, by omega, by omega, ?_⟩
            · cases hi : inRange v.n with
              | true => rfl
              | false => exact absurd (.inr (.inr (.inl ⟨hk, hi⟩))) h2
            · by_cases hs : v.s = ⟨#[]⟩
              · exact .inl hs
              · exact .inr (Classical.not_not.1 fun hk => h4 ⟨hs, hk⟩)
  · rintro ⟨h1, h2, h3, h4, h5, h6, h7, h8⟩
    rw [if_neg (by omega), if_neg, if_neg (by omega), if_neg]
    · rintro ⟨hs, hk⟩; rcases h8 with h | h
      · exact hs h
      · exact hk h
    · rintro (h | h | h | h)
      · omega
      · omega
      · rw [h5 h.1] at h; cases h.2
      · omega

theorem def_int {a : Attr} (h : defE a = 0) (hk : a.kind = 2) : inRange a.min = true ∧ inRange a.max = true ∧ a.min ≤ a.max := by
  unfold defE at h
  split at h
  · cases h
  · split at h
    · cases h
    · split at h
      · cases h
      · rename_i h1
        have h2 : ¬ (inRange a.min = false ∨ inRange a.max = false ∨ a.max < a.min) := fun x => h1 ⟨hk, x⟩
        refine ⟨?_, ?_, ?_⟩
        · cases e : inRange a.min with
          | true => rfl
          | false => exact absurd (.inl e) h2
        · cases e : inRange a.max with
          | true => rfl
          | false => exact absurd (.inr (.inl e)) h2
        · exact Int.not_lt.1 fun x => h2 (.inr (.inr x))

theorem inRange_iff {n : Int} : inRange n = true ↔ -1099511627776 ≤ n ∧ n ≤ 1099511627776 := by simp [inRange]

theorem limit_fits {a : Attr} {v : Val} (h : fitsE a v = 0) : limitV a v = v := by
  rw [fits_iff] at h
  unfold limitV
  split
  · rename_i hh
    obtain ⟨k, n, s⟩ := v
    simp only at *
    congr 1
    unfold clampI
    have := def_int h.1 hh.2.1
    rw [if_neg (by omega), if_neg (by omega)]
  · rfl

/-- An integer value, limited, fits. -/
theorem limit_int {a : Attr} {n : Int} {s : ByteArray} (hd : defE a = 0) (hk : a.kind = 2) (hs : s = ⟨#[]⟩) : limitV a ⟨2, n, s⟩ = ⟨2, clampI n a.min a.max, s⟩ ∧ fitsE a (limitV a ⟨2, n, s⟩) = 0 := by
  have e : limitV a ⟨2, n, s⟩ = ⟨2, clampI n a.min a.max, s⟩ := by
    unfold limitV; rw [if_pos ⟨hd, hk, rfl⟩]
  refine ⟨e, ?_⟩
  rw [e, fits_iff, val_iff]
  obtain ⟨h1, h2, h3⟩ := def_int hd hk
  rw [inRange_iff] at h1 h2
  have hc : a.min ≤ clampI n a.min a.max ∧ clampI n a.min a.max ≤ a.max := by unfold clampI; (repeat' split) <;> omega
  simp only [inRange_iff]
  subst hs
  refine ⟨hd, ⟨by omega, by omega, by omega, by omega, by omega, by omega, by decide, .inl rfl⟩, by omega, by omega⟩

theorem suits_cases {x : Eff} {a p : Attr} (h : suitsB x a p = true) : (x.kind = 1 ∧ a.kind ≠ 4 ∧ fitsE a ⟨a.kind, x.n, ⟨#[]⟩⟩ = 0) ∨ (x.kind = 2 ∧ a.kind = p.kind ∧ a.enum = p.enum) ∨ (x.kind = 3 ∧ a.kind = 2) ∨ (x.kind ≠ 1 ∧ x.kind ≠ 2 ∧ x.kind ≠ 3 ∧ a.kind = 1) := by
  unfold suitsB at h
  split at h
  · rename_i hk; simp only [Bool.and_eq_true, decide_eq_true_eq] at h; exact .inl ⟨hk, h⟩
  · split at h
    · rename_i hk; simp only [alikeB, Bool.and_eq_true, decide_eq_true_eq] at h; exact .inr (.inl ⟨hk, h⟩)
    · split at h
      · rename_i hk; simp only [decide_eq_true_eq] at h; exact .inr (.inr (.inl ⟨hk, h⟩))
      · simp only [decide_eq_true_eq] at h; exact .inr (.inr (.inr ⟨by assumption, by assumption, by assumption, h⟩))

/-- cluster.accepts -/
def acceptsE (d : Cmd) (p : Val) : Int := if d.param.kind ≠ 0 then fitsE d.param p else if p ≠ noVal then 11 else 0

/-- An effect that suits its attribute: what it leaves fits, and both texts leave the same. -/
theorem after_ok {x : Eff} {a : Attr} {d : Cmd} {p v : Val} (hk : 1 ≤ x.kind ∧ x.kind ≤ 4) (hs : suitsB x a d.param = true) (hp : acceptsE d p = 0) (hv : fitsE a v = 0) (hn : x.kind = 3 → satI x.n = x.n) :
    fitsE a (afterV x a p v) = 0 ∧ doneV x a p v = afterV x a p v := by
  obtain ⟨hd, hval, hvk, hvb⟩ := fits_iff.1 hv
  have hv2 := val_iff.1 hval
  rcases suits_cases hs with ⟨h1, h2, h3⟩ | ⟨h1, h2, h3⟩ | ⟨h1, h2⟩ | ⟨h1, h2, h3, h4⟩
  · have hvs : v.s = ⟨#[]⟩ := by rcases hv2.2.2.2.2.2.2.2 with h | h; exact h; omega
    unfold afterV doneV
    rw [if_pos h1, if_pos h1, hvk, hvs]
    exact ⟨by rw [limit_fits h3]; exact h3, rfl⟩
  · unfold afterV doneV
    rw [if_neg (by omega), if_pos h1, if_neg (by omega), if_pos h1]
    refine ⟨?_, rfl⟩
    have hak : 1 ≤ a.kind := by
      unfold defE at hd
      split at hd
      · cases hd
      · split at hd
        · cases hd
        · omega
    have hpf : fitsE d.param p = 0 := by
      unfold acceptsE at hp; rw [if_pos (by omega)] at hp; exact hp
    obtain ⟨hpd, hpv, hpk, hpb⟩ := fits_iff.1 hpf
    have hp2 := val_iff.1 hpv
    by_cases hk2 : a.kind = 2
    · have e : p = ⟨2, p.n, p.s⟩ := by cases p; simp only at *; congr 1; omega
      rw [e]
      refine (limit_int hd hk2 ?_).2
      rcases hp2.2.2.2.2.2.2.2 with h | h; exact h; omega
    · have e : limitV a p = p := by unfold limitV; rw [if_neg (by omega)]
      rw [e, fits_iff]
      refine ⟨hd, hpv, by omega, ?_⟩
      rw [h3]; omega
  · have hvs : v.s = ⟨#[]⟩ := by rcases hv2.2.2.2.2.2.2.2 with h | h; exact h; omega
    have hvk2 : v.kind = 2 := by omega
    unfold afterV doneV
    rw [if_neg (by omega), if_neg (by omega), if_pos h1, if_neg (by omega), if_neg (by omega), if_pos h1, hvk2]
    have e1 := limit_int (n := satI (v.n + x.n)) hd h2 hvs
    have e2 := limit_int (n := v.n + x.n) hd h2 hvs
    refine ⟨e1.2, ?_⟩
    rw [e1.1, e2.1]
    congr 1
    obtain ⟨h3, h4, h5⟩ := def_int hd h2
    rw [inRange_iff] at h3 h4
    unfold clampI satI
    (repeat' split) <;> omega
  · have h5 : x.kind = 4 := by omega
    unfold afterV doneV
    simp only [h5, if_true, if_false, reduceIte, Int.reduceEq]
    have e : limitV a ⟨v.kind, 1 - v.n, v.s⟩ = ⟨v.kind, 1 - v.n, v.s⟩ := by unfold limitV; rw [if_neg (by omega)]
    rw [e, fits_iff, val_iff]
    simp only
    refine ⟨⟨hd, ⟨by omega, by omega, ?_, ?_, ?_, ?_, by omega, hv2.2.2.2.2.2.2.2⟩, hvk, ?_⟩, trivial⟩
    all_goals first | omega | (intro h; omega)

theorem fits_small {a : Attr} {v : Val} (h : fitsE a v = 0) : smallN v.n := by
  have h2 := val_iff.1 (fits_iff.1 h).2.1
  have : v.kind = 0 ∨ v.kind = 1 ∨ v.kind = 2 ∨ v.kind = 3 ∨ v.kind = 4 := by omega
  unfold smallN
  rcases this with e | e | e | e | e
  · have := h2.2.2.1 (.inl e); omega
  · have := h2.2.2.2.1 e; omega
  · have := inRange_iff.1 (h2.2.2.2.2.1 e); omega
  · have := h2.2.2.2.2.2.1 e; omega
  · have := h2.2.2.1 (.inr e); omega

end Go.Abs

namespace Go.Abs
open Go.Proofs
set_option maxRecDepth 10000

theorem firstI_spec {n : Nat} {p : Nat → Bool} : (firstI n p < n ∧ p (firstI n p) = true ∧ ∀ j, j < firstI n p → p j = false) ∨ (firstI n p = n ∧ ∀ j, j < n → p j = false) := by
  unfold firstI
  split
  · rename_i i e
    rw [List.find?_range_eq_some] at e
    exact .inl ⟨by simpa using e.2.1, e.1, fun j hj => by simpa using e.2.2 j hj⟩
  · rename_i e
    rw [List.find?_eq_none] at e
    exact .inr ⟨rfl, fun j hj => by simpa using e j (by simpa using hj)⟩

/-- What a checked cluster is. -/
structure Checked (c : Clu) : Prop where
  distinct : ∀ i j, i < j → j < c.attrs.length → (c.attrs.getD i default).name ≠ (c.attrs.getD j default).name
  attrs : c.attrs.length ≤ 12
  cmds : ∀ i, i < c.commands.length → cmdE c i = 0
  defs : ∀ i, i < c.attrs.length → defE (c.attrs.getD i default) = 0

theorem checkE_ok {c : Clu} (h : checkE c = 0) : Checked c := by
  unfold checkE at h
  split at h
  · cases h
  split at h
  · cases h
  rename_i hw
  split at h
  · contradiction
  rename_i ha
  split at h
  · contradiction
  rename_i hc
  have ha := firstE_zero (Classical.not_not.1 ha)
  refine ⟨fun i j hi hj e => ?_, ?_, firstE_zero (Classical.not_not.1 hc), fun i hi => ?_⟩
  · have := ha j hj
    unfold attrE at this
    split at this
    · contradiction
    · rw [if_pos (anyN_true hi (by simpa [-List.getD_eq_getElem?_getD] using e))] at this
      cases this
  · rw [Bool.not_eq_true] at hw
    simp only [wideB, Bool.or_eq_false_iff, decide_eq_false_iff_not] at hw
    omega
  · have := ha i hi
    unfold attrE at this
    split at this
    · contradiction
    · rename_i h0; exact Classical.not_not.1 h0

theorem cmdE_effects {c : Clu} {i : Nat} (h : cmdE c i = 0) : ∀ j, j < (c.commands.getD i default).effects.length → effE c (c.commands.getD i default).param ((c.commands.getD i default).effects.getD j default) = 0 := by
  unfold cmdE at h
  split at h
  · cases h
  split at h
  · cases h
  split at h
  · cases h
  split at h
  · omega
  exact firstE_zero h

theorem effE_ok {c : Clu} {p : Attr} {x : Eff} (h : effE c p x = 0) : (1 ≤ x.kind ∧ x.kind ≤ 4) ∧ attrAt c.attrs x.attr < c.attrs.length ∧ suitsB x (c.attrs.getD (attrAt c.attrs x.attr) default) p = true ∧ (x.kind = 3 → satI x.n = x.n) := by
  unfold effE at h
  split at h
  · cases h
  split at h
  · cases h
  rename_i h1 h2
  have h2 := Classical.not_not.1 h2
  have e : attrOf c.attrs x.attr = c.attrs.getD (attrAt c.attrs x.attr) default := by rw [attrOf, if_pos h2]
  rw [e] at h
  split at h
  · cases h
  split at h
  · cases h
  rename_i h3 h4
  split at h
  · cases h
  rename_i h5
  refine ⟨by omega, h2, by simpa using h4, fun hk => Classical.not_not.1 fun hn => h5 ⟨hk, hn⟩⟩

theorem attrAt_name {l : List Attr} {s : ByteArray} (h : attrAt l s < l.length) : (l.getD (attrAt l s) default).name = s := by
  unfold attrAt at *
  rcases firstI_spec (n := l.length) (p := fun i => decide ((l.getD i default).name = s)) with ⟨_, h2, _⟩ | ⟨h1, _⟩
  · simpa [-List.getD_eq_getElem?_getD] using h2
  · omega

theorem attrAt_eq {c : Clu} (hc : Checked c) {s : ByteArray} {j : Nat} (hj : j < c.attrs.length) (h : (c.attrs.getD j default).name = s) : attrAt c.attrs s = j := by
  have hlt : attrAt c.attrs s < c.attrs.length := by
    unfold attrAt
    rcases firstI_spec (n := c.attrs.length) (p := fun i => decide ((c.attrs.getD i default).name = s)) with ⟨h1, _⟩ | ⟨_, h2⟩
    · exact h1
    · have := h2 j hj; simp [h, -List.getD_eq_getElem?_getD] at this
  have hn := attrAt_name hlt
  rcases Nat.lt_trichotomy (attrAt c.attrs s) j with h1 | h1 | h1
  · exact absurd (hn.trans h.symm) (hc.distinct _ _ h1 hj)
  · exact h1
  · exact absurd (h.trans hn.symm) (hc.distinct _ _ h1 hlt)

/-- one effect on the values -/
def stepL (c : Clu) (p : Val) (x : Eff) (out : List Val) : List Val := out.set (attrAt c.attrs x.attr) (afterV x (c.attrs.getD (attrAt c.attrs x.attr) default) p (out.getD (attrAt c.attrs x.attr) default))
/-- the first k effects -/
def applyTo (c : Clu) (d : Cmd) (p : Val) (vals : List Val) : Nat → List Val
  | 0 => vals
  | k + 1 => stepL c p (d.effects.getD k default) (applyTo c d p vals k)

def fitsAll (c : Clu) (vals : List Val) : Prop := vals.length = c.attrs.length ∧ ∀ i, i < c.attrs.length → fitsE (c.attrs.getD i default) (vals.getD i default) = 0

theorem getD_set {α : Type} [Inhabited α] {l : List α} {i j : Nat} {x : α} : (l.set i x).getD j default = if j = i ∧ i < l.length then x else l.getD j default := by
  by_cases e : j = i
  · subst e
    by_cases h : j < l.length
    · rw [if_pos ⟨rfl, h⟩]; simp [List.getD, h]
    · rw [if_neg (by omega)]; simp [List.getD, Nat.le_of_not_lt h]
  · rw [if_neg (by omega)]
    simp [List.getD, List.getElem?_set_ne (Ne.symm e)]

theorem stepL_fits {c : Clu} {d : Cmd} {p : Val} {x : Eff} {out : List Val} (hx : effE c d.param x = 0) (hp : acceptsE d p = 0) (h : fitsAll c out) : fitsAll c (stepL c p x out) := by
  obtain ⟨h1, h2, h3, h4⟩ := effE_ok hx
  refine ⟨by rw [stepL, List.length_set]; exact h.1, fun i hi => ?_⟩
  rw [stepL, getD_set]
  split
  · rename_i e
    rw [e.1]
    exact (after_ok h1 h3 hp (h.2 _ h2) h4).1
  · exact h.2 i hi

theorem applyTo_fits {c : Clu} {d : Cmd} {p : Val} {vals : List Val} (hd : ∀ j, j < d.effects.length → effE c d.param (d.effects.getD j default) = 0) (hp : acceptsE d p = 0) (h : fitsAll c vals) : ∀ k, k ≤ d.effects.length → fitsAll c (applyTo c d p vals k)
  | 0, _ => h
  | k + 1, hk => stepL_fits (hd k (by omega)) hp (applyTo_fits hd hp h k (by omega))

def badV (c : Clu) (vals : List Val) (i : Nat) : Bool := decide (fitsE (c.attrs.getD i default) (vals.getD i default) ≠ 0)
/-- cluster.Apply: its error -/
def applyE (c : Clu) (s : ByteArray) (p : Val) (vals : List Val) : Int :=
  if checkE c ≠ 0 then checkE c else if ¬ cmdAt c.commands s < c.commands.length then 8 else if acceptsE (cmdOf c.commands s) p ≠ 0 then acceptsE (cmdOf c.commands s) p
  else if vals.length ≠ c.attrs.length then 1 else if anyN vals.length (badV c vals) = true then 1 else 0
def applyL (c : Clu) (s : ByteArray) (p : Val) (vals : List Val) : List Val := if applyE c s p vals = 0 then applyTo c (cmdOf c.commands s) p vals (cmdOf c.commands s).effects.length else []

theorem cmdOf_small {c : Clu} (hc : smallK c) {s : ByteArray} : smallC (cmdOf c.commands s) := by
  unfold cmdOf
  split
  · exact hc.2.2.2.1 _
  · exact ⟨Nat.zero_le _, Nat.zero_le _⟩

theorem cmdOf_effects {c : Clu} (hc : Checked c) {s : ByteArray} (h : cmdAt c.commands s < c.commands.length) : ∀ j, j < (cmdOf c.commands s).effects.length → effE c (cmdOf c.commands s).param ((cmdOf c.commands s).effects.getD j default) = 0 := by
  rw [cmdOf, if_pos h]
  exact cmdE_effects (hc.cmds _ h)

theorem satI_small {n : Int} (h : satI n = n) : smallN n := by unfold satI at h; unfold smallN; omega

end Go.Abs

namespace Go.Abs
open Go.Proofs
set_option maxRecDepth 10000

theorem placeI_eq {l : List Attr} {s : ByteArray} (h : attrAt l s < l.length) : placeI l s = (attrAt l s : Int) := by rw [placeI, if_pos h]

theorem val_eq0 (a : Val) : (decide (a.kind = 0) && (decide (a.n = 0) && (decide (a.s = ⟨#[]⟩) && true))) = decide (a = noVal) := val_eq a noVal

end Go.Abs

namespace Go.Abs
open Go.Proofs
set_option maxRecDepth 10000

def keyI (dev : Int) (cn : ByteArray) (l : List Attr) (i : Nat) : Key := ⟨dev, cn, (l.getD i default).name⟩
def atI (l : List Item) (dev : Int) (cn : ByteArray) (ats : List Attr) (i : Nat) : Nat := itemAt l (keyI dev cn ats i)
def atTo (l : List Item) (dev : Int) (cn : ByteArray) (ats : List Attr) (k : Nat) : List Int := (List.range k).map fun i => (atI l dev cn ats i : Int)
def valsTo (l : List Item) (dev : Int) (cn : ByteArray) (ats : List Attr) (k : Nat) : List Val := (List.range k).map fun i => (l.getD (atI l dev cn ats i) default).value
theorem atTo_succ {l : List Item} {dev : Int} {cn : ByteArray} {ats : List Attr} {k : Nat} : atTo l dev cn ats (k + 1) = atTo l dev cn ats k ++ [(atI l dev cn ats k : Int)] := by simp [atTo, List.range_succ]
theorem valsTo_succ {l : List Item} {dev : Int} {cn : ByteArray} {ats : List Attr} {k : Nat} : valsTo l dev cn ats (k + 1) = valsTo l dev cn ats k ++ [(l.getD (atI l dev cn ats k) default).value] := by simp [valsTo, List.range_succ, -List.getD_eq_getElem?_getD]
theorem atTo_length {l : List Item} {dev : Int} {cn : ByteArray} {ats : List Attr} {k : Nat} : (atTo l dev cn ats k).length = k := by simp [atTo]
theorem valsTo_length {l : List Item} {dev : Int} {cn : ByteArray} {ats : List Attr} {k : Nat} : (valsTo l dev cn ats k).length = k := by simp [valsTo]
theorem atTo_get {l : List Item} {dev : Int} {cn : ByteArray} {ats : List Attr} {k i : Nat} (h : i < k) : (atTo l dev cn ats k).getD i default = (atI l dev cn ats i : Int) := by simp [atTo, List.getD, h]

def lostB (l : List Item) (dev : Int) (cn : ByteArray) (ats : List Attr) (i : Nat) : Bool := decide (¬ atI l dev cn ats i < l.length)
/-- device.Command: its error -/
def commandE (H : Hom) (l : List Item) (dev : Int) (cn s : ByteArray) (p : Val) : Int :=
  if homE H ≠ 0 then homE H else match partO H dev cn with
  | none => 8
  | some x => if anyN x.attrs.length (lostB l dev cn x.attrs) = true then 8 else applyE x s p (valsTo l dev cn x.attrs x.attrs.length)
def putTo (l : List Item) (at_ : Nat → Nat) (vals : List Val) : Nat → List Item
  | 0 => l
  | k + 1 => putL (putTo l at_ vals k) (at_ k) (vals.getD k default)
def commandL (H : Hom) (l : List Item) (dev : Int) (cn s : ByteArray) (p : Val) : List Item :=
  match partO H dev cn with
  | none => []
  | some x => if commandE H l dev cn s p = 0 then putTo l (atI l dev cn x.attrs) (applyL x s p (valsTo l dev cn x.attrs x.attrs.length)) x.attrs.length else []

theorem putTo_length {l : List Item} {at_ : Nat → Nat} {vals : List Val} : ∀ {k : Nat}, (putTo l at_ vals k).length = l.length
  | 0 => rfl
  | k + 1 => by rw [putTo, putL_length, putTo_length]

theorem putL_key {l : List Item} {i j : Nat} {v : Val} : ((putL l i v).getD j default).key = (l.getD j default).key := by
  unfold putL
  split
  · rw [getD_set]
    split
    · rename_i e; rw [e.1]
    · rfl
  · rfl
theorem itemAt_put {l : List Item} {i : Nat} {v : Val} {k : Key} : itemAt (putL l i v) k = itemAt l k := by
  unfold itemAt
  rw [putL_length]
  congr 1
  funext j
  rw [putL_key]
theorem itemAt_putTo {l : List Item} {at_ : Nat → Nat} {vals : List Val} {q : Key} : ∀ {k : Nat}, itemAt (putTo l at_ vals k) q = itemAt l q
  | 0 => rfl
  | k + 1 => by rw [putTo, itemAt_put, itemAt_putTo]

end Go.Abs

namespace Go.Abs
open Go.Proofs
set_option maxRecDepth 10000

/-- withL over the keys -/
theorem with_putTo {l : List Item} {dev : Int} {cn : ByteArray} {ats : List Attr} {vals : List Val} {k : Nat} {v : Val} (h : atI l dev cn ats k < l.length) : withL (putTo l (atI l dev cn ats) vals k) (keyI dev cn ats k) v = putL (putTo l (atI l dev cn ats) vals k) (atI l dev cn ats k) v := by
  have e : itemAt (putTo l (atI l dev cn ats) vals k) (keyI dev cn ats k) = atI l dev cn ats k := itemAt_putTo
  rw [withL, e, if_pos (by rw [putTo_length]; exact h)]

theorem applyL_length {x : Clu} {s : ByteArray} {p : Val} {vals : List Val} (h : applyE x s p vals = 0) : (applyL x s p vals).length = x.attrs.length := by
  rw [applyL, if_pos h]
  unfold applyE at h
  split at h
  · contradiction
  split at h
  · cases h
  split at h
  · contradiction
  split at h
  · cases h
  split at h
  · cases h
  rename_i c1 c2 c3 c4 c5
  refine (applyTo_fits (cmdOf_effects (checkE_ok (Classical.not_not.1 c1)) (Classical.not_not.1 c2)) (Classical.not_not.1 c3) ⟨Classical.not_not.1 c4, fun i hi => ?_⟩ _ (Nat.le_refl _)).1
  rw [Bool.not_eq_true] at c5
  have : badV x vals i = false := by
    cases hb : badV x vals i with
    | false => rfl
    | true => rw [anyN_true (k := i) (by omega) hb] at c5; cases c5
  simpa [badV, -List.getD_eq_getElem?_getD] using this

structure Call where
  H : Hom
  L : List Item
  Dev : Int
  C : ByteArray
  Name : ByteArray
  Param : Val
  deriving Inhabited
def cCall (x : Call) : List PV := cHom x.H ++ (roL 7 cItem x.L :: vint x.Dev :: vstr x.C :: vstr x.Name :: cVal x.Param)

theorem commandL_length {H : Hom} {l : List Item} {dev : Int} {cn s : ByteArray} {p : Val} : (commandL H l dev cn s p).length = if commandE H l dev cn s p = 0 then l.length else 0 := by
  unfold commandL
  cases hp : partO H dev cn with
  | none =>
    have : commandE H l dev cn s p ≠ 0 := by
      unfold commandE
      split
      · assumption
      · rw [hp]; exact (by decide : (8 : Int) ≠ 0)
    rw [if_neg this]; rfl
  | some x =>
    simp only
    split
    · rw [putTo_length]
    · rfl

theorem initL_get {H : Hom} {id : Int} {k : Nat} (h : k < (keysL H id).length) : (initL H id).getD k default = ⟨(keysL H id).getD k default, zeroV ((findA H ((keysL H id).getD k default)).getD noAttr), (k : Int) + 1⟩ := by
  simp [initL, List.getD, h]

theorem firstC_checked {H : Hom} (h : homE H = 0) {s : ByteArray} {c : Clu} (hc : firstC H.clusters s = some c) : Checked c := by
  have hm := List.mem_of_find?_eq_some hc
  obtain ⟨i, hi, rfl⟩ := List.getElem_of_mem hm
  have := allE_distinct (homE_all h) i hi
  unfold cluE at this
  split at this
  · contradiction
  · rename_i h0
    have e : H.clusters.getD i default = H.clusters[i] := by simp [List.getD, hi]
    rw [← e]
    exact checkE_ok (Classical.not_not.1 h0)

theorem keysL_48 {H : Hom} {id : Int} : (keysL H id).length ≤ 48 := by
  cases hb : findB H id with
  | false => rw [keysL, findD_none hb]; exact Nat.zero_le _
  | true =>
    have hv : homE H = 0 := by simp only [findB, Bool.and_eq_true, decide_eq_true_eq] at hb; exact hb.1
    have key : ∀ k, k ≤ (findD H id).clusters.length → (keysTo (firstC H.clusters) id (findD H id).clusters k).length ≤ k * 12 := by
      intro k
      induction k with
      | zero => intro _; simp [keysTo]
      | succ k ih =>
        intro hk
        rw [keysTo_succ (by omega), List.length_append]
        have := ih (by omega)
        have : (keysOf1 (firstC H.clusters) id ((findD H id).clusters.getD k default)).length ≤ 12 := by
          simp only [keysOf1, attrsOf, List.length_map]
          split
          · rename_i c e; exact (firstC_checked hv e).attrs
          · exact Nat.zero_le _
        omega
    have h4 := @findD_length H id
    have := key _ (Nat.le_refl _)
    rw [keysTo, List.take_length] at this
    have e : keysL H id = (findD H id).clusters.flatMap (keysOf1 (firstC H.clusters) id) := rfl
    rw [← e] at this
    omega

section
variable {H : Type} {enc : TypeId × Value → H} {w : World} {bulk : DataW H → Nat}
end

end Go.Abs

namespace Go.Abs
open Go.Proofs

def effKeys (x : Stp) (d : Cmd) : List Key := d.effects.map fun f => ⟨x.key.dev, x.key.cluster, f.attr⟩
/-- the keys that a step can write, whether or not they exist -/
def targL (s : Sco) (x : Stp) : List Key := if x.kind = 1 then [x.key] else if x.kind = 2 then effKeys x ((comO s x).getD noCmd) else []
def foundB (s : Sco) (k : Key) : Bool := (findA s.home k).isSome
def allT (s : Sco) (l : List Rul) : List Key := l.flatMap fun r => r.steps.flatMap (targL s)
/-- typing.Writes -/
def writesL (s : Sco) (l : List Rul) : List Key := sortK ((allT s l).filter (foundB s))

theorem sortK_snoc (l : List Key) (k : Key) : sortK (l ++ [k]) = putK (sortK l) k := by unfold sortK; rw [List.foldl_append]; rfl
theorem filt_snoc {p : Key → Bool} {l : List Key} {k : Key} : (l ++ [k]).filter p = if p k = true then l.filter p ++ [k] else l.filter p := by
  rw [List.filter_append]
  by_cases h : p k = true
  · rw [if_pos h]; simp [h]
  · rw [if_neg h]; simp [h]

theorem firstC_wide {H : Hom} (h : homE H = 0) {s : ByteArray} {c : Clu} (hc : firstC H.clusters s = some c) : manyE c.commands = false := by
  have hm := List.mem_of_find?_eq_some hc
  obtain ⟨i, hi, rfl⟩ := List.getElem_of_mem hm
  have := allE_distinct (homE_all h) i hi
  unfold cluE at this
  split at this
  · contradiction
  · rename_i h0
    have e : H.clusters.getD i default = H.clusters[i] := by simp [List.getD, hi]
    rw [← e]
    have h0 := Classical.not_not.1 h0
    have hw : wideB (H.clusters.getD i default) = false := by
      rw [← Bool.not_eq_true]
      intro hw
      unfold checkE at h0
      (repeat' split at h0) <;> simp_all [-List.getD_eq_getElem?_getD]
    unfold wideB at hw
    simp only [Bool.or_eq_false_iff] at hw
    exact hw.2

theorem comO_effects {s : Sco} {x : Stp} (h : homE s.home = 0) : ((comO s x).getD noCmd).effects.length ≤ 12 := by
  unfold comO
  cases hp : partO s.home x.key.dev x.key.cluster with
  | none => exact Nat.zero_le _
  | some c =>
    dsimp only
    split
    · rename_i hlt
      unfold partO at hp
      split at hp
      · have hc := firstC_checked h hp
        have hw := firstC_wide h hp
        rw [cmdOf, if_pos hlt]
        have := hw
        rw [← Bool.not_eq_true] at this
        rcases Nat.lt_or_ge 12 (c.commands.getD (cmdAt c.commands x.name) default).effects.length with h2 | h2
        · exact absurd (manyE_true hlt h2) this
        · exact h2
      · cases hp
    · exact Nat.zero_le _

theorem targL_length {s : Sco} {x : Stp} (h : homE s.home = 0) : (targL s x).length ≤ 12 := by
  unfold targL
  split
  · simp
  · split
    · unfold effKeys; rw [List.length_map]; exact comO_effects h
    · exact Nat.zero_le _
theorem flat_length {α β : Type} {f : α → List β} {m : Nat} : ∀ (l : List α), (∀ x ∈ l, (f x).length ≤ m) → (l.flatMap f).length ≤ l.length * m
  | [], _ => by simp
  | a :: l, h => by
    rw [List.flatMap_cons, List.length_append, List.length_cons, Nat.add_mul]
    have := flat_length l (fun x hx => h x (by simp [hx]))
    have := h a (by simp)
    omega

/-- at most 60 rules of 20 steps -/
def fewR (l : List Rul) : Prop := l.length ≤ 60 ∧ ∀ r ∈ l, r.steps.length ≤ 20
theorem allT_length {s : Sco} {l : List Rul} (hl : fewR l) : ((allT s l).filter (foundB s)).length ≤ 14400 := by
  by_cases h : homE s.home = 0
  · have h1 : (allT s l).length ≤ l.length * 240 := flat_length l fun r hr => by
      have h2 := flat_length (f := targL s) (m := 12) r.steps (fun x _ => targL_length h)
      have := hl.2 r hr
      omega
    have := List.length_filter_le (foundB s) (allT s l)
    have := hl.1
    omega
  · have : (allT s l).filter (foundB s) = [] := by
      rw [List.filter_eq_nil_iff]
      intro k _
      have : findA s.home k = none := by
        rw [findA, partO, if_neg]
        · rfl
        · intro x; have := x.1; simp [findB, h] at this
      simp [foundB, this]
    rw [this]; exact Nat.zero_le _
end Go.Abs
