/- YtefmohlfcnjmjaaGreatX07: walks and contracts. -/
import Derived.Test.YtefmohlfcnjmjaaGreatX06
import Derived.Shelf.Sort.Plain
import Derived.Ground.NamesProg
import Derived.Test.YtefmohlfcnjmjaaGreatProg
import Derived.Shelf.GgSortFunc.InsertionK
import Derived.Shelf.Slices.In.SortNone
import Derived.Shelf.Spec.SlicesGrow

set_option linter.unusedVariables false
set_option linter.unusedSimpArgs false
set_option linter.unusedSectionVars false

namespace Go.Abs
open Go.Proofs
set_option maxRecDepth 10000
theorem fnd_ok {x : Val} (h : (fndV x).2 = true) : (fndV x).1 = x ∧ x.kind ≠ 0 := by
  by_cases hk : x.kind = 0
  · rw [fndV_no hk] at h; cases h
  · rw [fndV_yes hk]; exact ⟨rfl, hk⟩
theorem fnd_un {x : Val} (h : (fndV x).2 = false) : x.kind = 0 := by
  by_cases hk : x.kind = 0
  · exact hk
  · rw [fndV_yes hk] at h; cases h
theorem and_one {x : Int} (h : 0 ≤ x ∧ x ≤ 1000000) : abits .and .i64 x 1 = x.tmod 2 := by
  obtain ⟨n, rfl⟩ : ∃ n : Nat, x = n := ⟨x.toNat, by omega⟩
  show IntKind.i64.wrap (((BitVec.ofInt IntKind.i64.bits (n : Int) &&& BitVec.ofInt IntKind.i64.bits 1).toNat : Nat) : Int) = _
  have h1 : (BitVec.ofInt IntKind.i64.bits (n : Int) &&& BitVec.ofInt IntKind.i64.bits 1).toNat = n % 2 := by
    rw [BitVec.toNat_and]
    have e1 : (BitVec.ofInt IntKind.i64.bits (n : Int)).toNat = n := by
      rw [BitVec.ofInt_natCast, BitVec.toNat_ofNat]
      exact Nat.mod_eq_of_lt (by show n < 2 ^ 64; omega)
    have e2 : (BitVec.ofInt IntKind.i64.bits 1).toNat = 1 := by decide
    rw [e1, e2, Nat.and_one_is_mod]
  rw [h1, wrap64 (by omega), Int.tmod_eq_emod_of_nonneg (by omega)]
  omega
theorem day_in {n w : Int} (h : 1 ≤ n ∧ n ≤ 127) : 0 ≤ n.fdiv (2 ^ min w.toNat 64) ∧ n.fdiv (2 ^ min w.toNat 64) ≤ 1000000 := by
  have hm : (0 : Int) < 2 ^ min w.toNat 64 := Int.pow_pos (by decide)
  rw [Int.fdiv_eq_ediv_of_nonneg _ (Int.le_of_lt hm)]
  exact ⟨Int.ediv_nonneg (by omega) (by omega), Int.le_trans (Int.ediv_le_self _ (by omega)) (by omega)⟩
def iteV (l : List Val) : Val := if (l.getD 0 default).kind ≠ 1 then noVal else l.getD (2 - (l.getD 0 default).n).toNat default
theorem ac_eval_choice (v : Vw) (ks : List Ex) (h3 : ks.length = 3) (hok : ∀ i, i < ks.length → okN (ks.getD i default))
    (ih : ∀ i, i < ks.length → AC Tryz.prog 45 [.pv (.agg (cVw v)), .pv (.agg (cEx (ks.getD i default)))] [] (.pv (.tup [.agg (cVal (fndV (evR v (ks.getD i default))).1), vbool (fndV (evR v (ks.getD i default))).2])) []) :
    AC Tryz.prog 85 [.pv (.agg (cVw v)), .pv (roL 11 cEx ks)] [] (.pv (.tup [.agg (cVal (fndV (iteV (evL v ks))).1), vbool (fndV (iteV (evL v ks))).2])) [] := by
  have g : ∀ i, i < 3 → (evL v ks).getD i default = evR v (ks.getD i default) := fun i hi => evL_getD v ks i (by omega)
  have hb := evR_ok v (hok 0 (by omega))
  unfold iteV
  rw [g 0 (by omega)]
  refine AC.of_awp (T := T) T_ok hm Tryz.call85 Tryz.func85 rfl rfl rfl ?_
  conv => whnf
  repeat (any_goals (first
    | (refine ⟨fun (h : (_ : Bool) = true) => ?_, fun (h : (_ : Bool) = false) => ?_⟩ <;> (try simp only [decide_eq_true_eq, decide_eq_false_iff_not, Bool.not_eq_true', Bool.not_eq_false', Int.toNat_natCast, beq_iff_eq, decide_eq_decide, beq_eq_false_iff_ne, ne_eq, reduceCtorEq] at h) <;> (conv => whnf))
    | (refine .inl ⟨_, ih 0 (by omega), ?_⟩; conv => whnf)
    | (refine .inl ⟨_, ih 1 (by omega), ?_⟩; conv => whnf)
    | (refine .inl ⟨_, ih 2 (by omega), ?_⟩; conv => whnf)
    | (refine .inl ⟨_, ac_eval_unknown, ?_⟩; conv => whnf)
    | (refine And.intro (by (try simp only [Int.toNat_natCast]); omega) ?_; conv => whnf)
    | (refine And.intro (show (_ : Bool) = true from by kernel_rfl) ?_; conv => whnf)
    | (refine .inl ⟨wrap64 (by omega), ?_⟩; conv => whnf)))
  · rw [show fndV (if (evR v (ks.getD 0 default)).kind ≠ 1 then noVal else (evL v ks).getD (2 - (evR v (ks.getD 0 default)).n).toNat default) = (noVal, false) from by
      rw [if_pos (by have := fnd_un h; omega)]; rfl]
    refine ⟨?_, ?_⟩ <;> (conv => whnf)
    · repeat' (first | exact PSub.rfl | exact PSub.nil_ro _ _ | exact PSub.lit_sb rfl | exact trivial | exact all_lt_zero | refine PSub.agg ?_ | refine PSub.ro rfl ?_ | refine all_lt_succ ?_ ?_ | refine And.intro ?_ ?_)
    · repeat' (first | exact PSub.rfl | exact PSub.nil_ro _ _ | exact PSub.lit_sb rfl | exact trivial | exact all_lt_zero | refine PSub.agg ?_ | refine PSub.ro rfl ?_ | refine all_lt_succ ?_ ?_ | refine And.intro ?_ ?_)
  · rename_i h1
    have hf := fnd_ok h1
    rw [hf.1] at h
    rw [show fndV (if (evR v (ks.getD 0 default)).kind ≠ 1 then noVal else (evL v ks).getD (2 - (evR v (ks.getD 0 default)).n).toNat default) = (noVal, false) from by
      rw [if_pos h]; rfl]
    refine ⟨?_, ?_⟩ <;> (conv => whnf)
    · repeat' (first | exact PSub.rfl | exact PSub.nil_ro _ _ | exact PSub.lit_sb rfl | exact trivial | exact all_lt_zero | refine PSub.agg ?_ | refine PSub.ro rfl ?_ | refine all_lt_succ ?_ ?_ | refine And.intro ?_ ?_)
    · repeat' (first | exact PSub.rfl | exact PSub.nil_ro _ _ | exact PSub.lit_sb rfl | exact trivial | exact all_lt_zero | refine PSub.agg ?_ | refine PSub.ro rfl ?_ | refine all_lt_succ ?_ ?_ | refine And.intro ?_ ?_)
  · rename_i h1 h2
    have hf := fnd_ok h1
    rw [hf.1] at h h2
    rw [show (if (evR v (ks.getD 0 default)).kind ≠ 1 then noVal else (evL v ks).getD (2 - (evR v (ks.getD 0 default)).n).toNat default) = evR v (ks.getD 1 default) from by
      rw [if_neg (fun x => x h2), h]; exact g 1 (by omega)]
    refine ⟨?_, ?_⟩ <;> (conv => whnf)
    · repeat' (first | exact PSub.rfl | exact PSub.nil_ro _ _ | exact PSub.lit_sb rfl | exact trivial | exact all_lt_zero | refine PSub.agg ?_ | refine PSub.ro rfl ?_ | refine all_lt_succ ?_ ?_ | refine And.intro ?_ ?_)
    · repeat' (first | exact PSub.rfl | exact PSub.nil_ro _ _ | exact PSub.lit_sb rfl | exact trivial | exact all_lt_zero | refine PSub.agg ?_ | refine PSub.ro rfl ?_ | refine all_lt_succ ?_ ?_ | refine And.intro ?_ ?_)
  · rename_i h1 h2
    have hf := fnd_ok h1
    rw [hf.1] at h h2
    have hz : (evR v (ks.getD 0 default)).n = 0 := by
      rcases valE_bool hb h2 with e | e
      · rw [e] at h; exact absurd rfl h
      · rw [e]; rfl
    rw [show (if (evR v (ks.getD 0 default)).kind ≠ 1 then noVal else (evL v ks).getD (2 - (evR v (ks.getD 0 default)).n).toNat default) = evR v (ks.getD 2 default) from by
      rw [if_neg (fun x => x h2), hz]; exact g 2 (by omega)]
    refine ⟨?_, ?_⟩ <;> (conv => whnf)
    · repeat' (first | exact PSub.rfl | exact PSub.nil_ro _ _ | exact PSub.lit_sb rfl | exact trivial | exact all_lt_zero | refine PSub.agg ?_ | refine PSub.ro rfl ?_ | refine all_lt_succ ?_ ?_ | refine And.intro ?_ ?_)
    · repeat' (first | exact PSub.rfl | exact PSub.nil_ro _ _ | exact PSub.lit_sb rfl | exact trivial | exact all_lt_zero | refine PSub.agg ?_ | refine PSub.ro rfl ?_ | refine all_lt_succ ?_ ?_ | refine And.intro ?_ ?_)
set_option maxHeartbeats 4000000 in
theorem ac_eval_find (v : Vw) (e : Ex) (hv : smallV2 v) (he : okN e) : AC Tryz.prog 45 [.pv (.agg (cVw v)), .pv (.agg (cEx e))] [] (.pv (.tup [.agg (cVal (fndV (evR v e)).1), vbool (fndV (evR v e)).2])) [] := by
  have hlen := nodeE_kids ((okN_iff e).1 he).1
  have ih : ∀ k, k < e.kids.length → AC Tryz.prog 45 [.pv (.agg (cVw v)), .pv (.agg (cEx (e.kids.getD k default)))] [] (.pv (.tup [.agg (cVal (fndV (evR v (e.kids.getD k default))).1), vbool (fndV (evR v (e.kids.getD k default))).2])) [] := fun k hk =>
    have := Ex.kid_lt (Ex.kid_at hk)
    ac_eval_find v (e.kids.getD k default) hv ((okNL_iff _).1 ((okN_iff e).1 he).2 _ (Ex.kid_at hk))
  have hok : ∀ k, k < e.kids.length → okN (e.kids.getD k default) := fun k hk => (okNL_iff _).1 ((okN_iff e).1 he).2 _ (Ex.kid_at hk)
  have hokk : ∀ k, k < e.kids.length → valE (evR v (e.kids.getD k default)) = 0 := fun k hk => evR_ok v (hok k hk)
  have g : ∀ i, i < e.kids.length → (evL v e.kids).getD i default = evR v (e.kids.getD i default) := fun i hi => evL_getD v e.kids i hi
  have hrg := range_node he
  have hkl := kids_len he
  have hki := okN_kind he
  have hw := weekday_in v.minute
  have hlit := fun hk : e.kind = 1 => nodeE_lit ((okN_iff e).1 he).1 hk
  have hj7 := ac_eval_junction v e.kids false hv (Nat.le_trans hlen (by decide)) hok ih
  have hj8 := ac_eval_junction v e.kids true hv (Nat.le_trans hlen (by decide)) hok ih
  have hch := fun h3 => ac_eval_choice v e.kids h3 hok ih
  rw [evR_eq]
  refine AC.ex2 ?_
  refine AC.of_awp (T := T) T_ok hm Tryz.call45 Tryz.func45 rfl rfl rfl ?_
  conv => whnf
  repeat (any_goals (first
    | (refine ⟨fun (h : (_ : Bool) = true) => ?_, fun (h : (_ : Bool) = false) => ?_⟩ <;> (try simp only [decide_eq_true_eq, decide_eq_false_iff_not, Bool.not_eq_true', Bool.not_eq_false', Int.toNat_natCast, beq_iff_eq, decide_eq_decide, beq_eq_false_iff_ne, ne_eq, reduceCtorEq] at h) <;> (conv => whnf))
    | (refine And.intro (by (try simp only [Int.toNat_natCast]); omega) ?_; conv => whnf)
    | (refine And.intro (show (_ : Bool) = true from by kernel_rfl) ?_; conv => whnf)
    | (refine .inl ⟨wrap64 (by omega), ?_⟩; conv => whnf)))
  all_goals (try contradiction)
  all_goals (try (exfalso; omega))
  · rw [show fndV (nodV v e.kind e.n e.m e.name e.value e.key (evL v e.kids)) = (e.value, true) from by
      unfold nodV
      rw [if_pos h]
      exact fndV_yes (hlit h).2]
    refine ⟨?_, ?_⟩ <;> (conv => whnf)
    · repeat' (first | exact PSub.rfl | exact PSub.nil_ro _ _ | exact PSub.lit_sb rfl | exact trivial | exact all_lt_zero | refine PSub.agg ?_ | refine PSub.ro rfl ?_ | refine all_lt_succ ?_ ?_ | refine And.intro ?_ ?_)
    · repeat' (first | exact PSub.rfl | exact PSub.nil_ro _ _ | exact PSub.lit_sb rfl | exact trivial | exact all_lt_zero | refine PSub.agg ?_ | refine PSub.ro rfl ?_ | refine all_lt_succ ?_ ?_ | refine And.intro ?_ ?_)
  · repeat (any_goals (first
      | (refine ⟨fun (h : (_ : Bool) = true) => ?_, fun (h : (_ : Bool) = false) => ?_⟩ <;> (try simp only [decide_eq_true_eq, decide_eq_false_iff_not, Bool.not_eq_true', Bool.not_eq_false', Int.toNat_natCast, beq_iff_eq, decide_eq_decide, beq_eq_false_iff_ne, ne_eq, reduceCtorEq] at h) <;> (conv => whnf))
      | (refine .inl ⟨_, ac_eval_attribute v e.key hv, ?_⟩; conv => whnf)
      | (refine And.intro (by (try simp only [Int.toNat_natCast]); omega) ?_; conv => whnf)
      | (refine And.intro (show (_ : Bool) = true from by kernel_rfl) ?_; conv => whnf)
      | (refine .inl ⟨wrap64 (by omega), ?_⟩; conv => whnf)))
    rw [show nodV v e.kind e.n e.m e.name e.value e.key (evL v e.kids) = atV v.items e.key from by
      unfold nodV
      rw [if_neg (by omega), if_pos h]]
    refine ⟨?_, ?_⟩ <;> (conv => whnf)
    · repeat' (first | exact PSub.rfl | exact PSub.nil_ro _ _ | exact PSub.lit_sb rfl | exact trivial | exact all_lt_zero | refine PSub.agg ?_ | refine PSub.ro rfl ?_ | refine all_lt_succ ?_ ?_ | refine And.intro ?_ ?_)
    · repeat' (first | exact PSub.rfl | exact PSub.nil_ro _ _ | exact PSub.lit_sb rfl | exact trivial | exact all_lt_zero | refine PSub.agg ?_ | refine PSub.ro rfl ?_ | refine all_lt_succ ?_ ?_ | refine And.intro ?_ ?_)
  · repeat (any_goals (first
      | (refine ⟨fun (h : (_ : Bool) = true) => ?_, fun (h : (_ : Bool) = false) => ?_⟩ <;> (try simp only [decide_eq_true_eq, decide_eq_false_iff_not, Bool.not_eq_true', Bool.not_eq_false', Int.toNat_natCast, beq_iff_eq, decide_eq_decide, beq_eq_false_iff_ne, ne_eq, reduceCtorEq] at h) <;> (conv => whnf))
      | (refine .inl ⟨_, ac_eval_truth _, ?_⟩; conv => whnf)
      | (refine And.intro (by (try simp only [Int.toNat_natCast]); omega) ?_; conv => whnf)
      | (refine And.intro (show (_ : Bool) = true from by kernel_rfl) ?_; conv => whnf)
      | (refine .inl ⟨wrap64 (by omega), ?_⟩; conv => whnf)))
    rw [show fndV (nodV v e.kind e.n e.m e.name e.value e.key (evL v e.kids)) = (truV (decide (v.mode = e.name)), true) from by
      unfold nodV
      rw [if_neg (by omega), if_neg (by omega), if_pos h]
      exact fndV_tru _]
    refine ⟨?_, ?_⟩ <;> (conv => whnf)
    · repeat' (first | exact PSub.rfl | exact PSub.nil_ro _ _ | exact PSub.lit_sb rfl | exact trivial | exact all_lt_zero | refine PSub.agg ?_ | refine PSub.ro rfl ?_ | refine all_lt_succ ?_ ?_ | refine And.intro ?_ ?_)
    · repeat' (first | exact PSub.rfl | exact PSub.nil_ro _ _ | exact PSub.lit_sb rfl | exact trivial | exact all_lt_zero | refine PSub.agg ?_ | refine PSub.ro rfl ?_ | refine all_lt_succ ?_ ?_ | refine And.intro ?_ ?_)
  · repeat (any_goals (first
      | (refine ⟨fun (h : (_ : Bool) = true) => ?_, fun (h : (_ : Bool) = false) => ?_⟩ <;> (try simp only [decide_eq_true_eq, decide_eq_false_iff_not, Bool.not_eq_true', Bool.not_eq_false', Int.toNat_natCast, beq_iff_eq, decide_eq_decide, beq_eq_false_iff_ne, ne_eq, reduceCtorEq] at h) <;> (conv => whnf))
      | (refine .inl ⟨_, ac_eval_unknown, ?_⟩; conv => whnf)
      | (refine And.intro (by (try simp only [Int.toNat_natCast]); omega) ?_; conv => whnf)
      | (refine And.intro (show (_ : Bool) = true from by kernel_rfl) ?_; conv => whnf)
      | (refine .inl ⟨wrap64 (by omega), ?_⟩; conv => whnf)))
    rw [show fndV (nodV v e.kind e.n e.m e.name e.value e.key (evL v e.kids)) = (noVal, false) from by
      unfold nodV
      rw [if_neg (by omega), if_neg (by omega), if_neg (by omega), if_pos (by omega), if_pos (by omega)]
      rfl]
    refine ⟨?_, ?_⟩ <;> (conv => whnf)
    · repeat' (first | exact PSub.rfl | exact PSub.nil_ro _ _ | exact PSub.lit_sb rfl | exact trivial | exact all_lt_zero | refine PSub.agg ?_ | refine PSub.ro rfl ?_ | refine all_lt_succ ?_ ?_ | refine And.intro ?_ ?_)
    · repeat' (first | exact PSub.rfl | exact PSub.nil_ro _ _ | exact PSub.lit_sb rfl | exact trivial | exact all_lt_zero | refine PSub.agg ?_ | refine PSub.ro rfl ?_ | refine all_lt_succ ?_ ?_ | refine And.intro ?_ ?_)
  · repeat (any_goals (first
      | (refine ⟨fun (h : (_ : Bool) = true) => ?_, fun (h : (_ : Bool) = false) => ?_⟩ <;> (try simp only [decide_eq_true_eq, decide_eq_false_iff_not, Bool.not_eq_true', Bool.not_eq_false', Int.toNat_natCast, beq_iff_eq, decide_eq_decide, beq_eq_false_iff_ne, ne_eq, reduceCtorEq] at h) <;> (conv => whnf))
      | (refine .inl ⟨_, ac_clock_OfDay v.minute, ?_⟩; conv => whnf)
      | (refine .inl ⟨_, ac_eval_during (ofDay v.minute) e.n e.m, ?_⟩; conv => whnf)
      | (refine .inl ⟨_, ac_eval_truth _, ?_⟩; conv => whnf)
      | (refine And.intro (by (try simp only [Int.toNat_natCast]); omega) ?_; conv => whnf)
      | (refine And.intro (show (_ : Bool) = true from by kernel_rfl) ?_; conv => whnf)
      | (refine .inl ⟨wrap64 (by omega), ?_⟩; conv => whnf)))
    rw [show fndV (nodV v e.kind e.n e.m e.name e.value e.key (evL v e.kids)) = (truV (within (ofDay v.minute) e.n e.m), true) from by
      unfold nodV
      rw [if_neg (by omega), if_neg (by omega), if_neg (by omega), if_pos (by omega), if_neg (by omega), if_pos (by omega)]
      exact fndV_tru _]
    refine ⟨?_, ?_⟩ <;> (conv => whnf)
    · repeat' (first | exact PSub.rfl | exact PSub.nil_ro _ _ | exact PSub.lit_sb rfl | exact trivial | exact all_lt_zero | refine PSub.agg ?_ | refine PSub.ro rfl ?_ | refine all_lt_succ ?_ ?_ | refine And.intro ?_ ?_)
    · repeat' (first | exact PSub.rfl | exact PSub.nil_ro _ _ | exact PSub.lit_sb rfl | exact trivial | exact all_lt_zero | refine PSub.agg ?_ | refine PSub.ro rfl ?_ | refine all_lt_succ ?_ ?_ | refine And.intro ?_ ?_)
  · repeat (any_goals (first
      | (refine ⟨fun (h : (_ : Bool) = true) => ?_, fun (h : (_ : Bool) = false) => ?_⟩ <;> (try simp only [decide_eq_true_eq, decide_eq_false_iff_not, Bool.not_eq_true', Bool.not_eq_false', Int.toNat_natCast, beq_iff_eq, decide_eq_decide, beq_eq_false_iff_ne, ne_eq, reduceCtorEq] at h) <;> (conv => whnf))
      | (refine .inl ⟨_, ac_eval_unknown, ?_⟩; conv => whnf)
      | (refine And.intro (by (try simp only [Int.toNat_natCast]); omega) ?_; conv => whnf)
      | (refine And.intro (show (_ : Bool) = true from by kernel_rfl) ?_; conv => whnf)
      | (refine .inl ⟨wrap64 (by omega), ?_⟩; conv => whnf)))
    rw [show fndV (nodV v e.kind e.n e.m e.name e.value e.key (evL v e.kids)) = (noVal, false) from by
      unfold nodV
      rw [if_neg (by omega), if_neg (by omega), if_neg (by omega), if_pos (by omega), if_pos (by omega)]
      rfl]
    refine ⟨?_, ?_⟩ <;> (conv => whnf)
    · repeat' (first | exact PSub.rfl | exact PSub.nil_ro _ _ | exact PSub.lit_sb rfl | exact trivial | exact all_lt_zero | refine PSub.agg ?_ | refine PSub.ro rfl ?_ | refine all_lt_succ ?_ ?_ | refine And.intro ?_ ?_)
    · repeat' (first | exact PSub.rfl | exact PSub.nil_ro _ _ | exact PSub.lit_sb rfl | exact trivial | exact all_lt_zero | refine PSub.agg ?_ | refine PSub.ro rfl ?_ | refine all_lt_succ ?_ ?_ | refine And.intro ?_ ?_)
  · repeat (any_goals (first
      | (refine ⟨fun (h : (_ : Bool) = true) => ?_, fun (h : (_ : Bool) = false) => ?_⟩ <;> (try simp only [decide_eq_true_eq, decide_eq_false_iff_not, Bool.not_eq_true', Bool.not_eq_false', Int.toNat_natCast, beq_iff_eq, decide_eq_decide, beq_eq_false_iff_ne, ne_eq, reduceCtorEq] at h) <;> (conv => whnf))
      | (refine .inl ⟨_, ac_clock_Weekday v.minute, ?_⟩; conv => whnf)
      | (refine .inl ⟨_, ac_eval_truth _, ?_⟩; conv => whnf)
      | (refine And.intro (by (try simp only [Int.toNat_natCast]); omega) ?_; conv => whnf)
      | (refine And.intro (show (_ : Bool) = true from by kernel_rfl) ?_; conv => whnf)
      | (refine .inl ⟨wrap64 (by omega), ?_⟩; conv => whnf)))
    rw [show abits .and .i64 (e.n.fdiv (2 ^ min (weekday v.minute).toNat IntKind.i64.bits)) 1 = (e.n.fdiv (2 ^ min (weekday v.minute).toNat 64)).tmod 2 from and_one (day_in (hrg.2 (by omega)))]
    rw [show fndV (nodV v e.kind e.n e.m e.name e.value e.key (evL v e.kids)) = (truV (dayB e.n (weekday v.minute)), true) from by
      unfold nodV
      rw [if_neg (by omega), if_neg (by omega), if_neg (by omega), if_pos (by omega), if_neg (by omega), if_neg (by omega)]
      exact fndV_tru _]
    refine ⟨?_, ?_⟩ <;> (conv => whnf)
    · repeat' (first | exact PSub.rfl | exact PSub.nil_ro _ _ | exact PSub.lit_sb rfl | exact trivial | exact all_lt_zero | refine PSub.agg ?_ | refine PSub.ro rfl ?_ | refine all_lt_succ ?_ ?_ | refine And.intro ?_ ?_)
    · repeat' (first | exact PSub.rfl | exact PSub.nil_ro _ _ | exact PSub.lit_sb rfl | exact trivial | exact all_lt_zero | refine PSub.agg ?_ | refine PSub.ro rfl ?_ | refine all_lt_succ ?_ ?_ | refine And.intro ?_ ?_)
  · repeat (any_goals (first
      | (refine ⟨fun (h : (_ : Bool) = true) => ?_, fun (h : (_ : Bool) = false) => ?_⟩ <;> (try simp only [decide_eq_true_eq, decide_eq_false_iff_not, Bool.not_eq_true', Bool.not_eq_false', Int.toNat_natCast, beq_iff_eq, decide_eq_decide, beq_eq_false_iff_ne, ne_eq, reduceCtorEq] at h) <;> (conv => whnf))
      | (refine .inl ⟨_, ac_eval_home v.members e.n hv.2, ?_⟩; conv => whnf)
      | (refine .inl ⟨_, ac_eval_truth _, ?_⟩; conv => whnf)
      | (refine And.intro (by (try simp only [Int.toNat_natCast]); omega) ?_; conv => whnf)
      | (refine And.intro (show (_ : Bool) = true from by kernel_rfl) ?_; conv => whnf)
      | (refine .inl ⟨wrap64 (by omega), ?_⟩; conv => whnf)))
    rw [show fndV (nodV v e.kind e.n e.m e.name e.value e.key (evL v e.kids)) = (truV (homeB v.members e.n), true) from by
      unfold nodV
      rw [if_neg (by omega), if_neg (by omega), if_neg (by omega), if_neg (by omega), if_pos (by omega)]
      exact fndV_tru _]
    refine ⟨?_, ?_⟩ <;> (conv => whnf)
    · repeat' (first | exact PSub.rfl | exact PSub.nil_ro _ _ | exact PSub.lit_sb rfl | exact trivial | exact all_lt_zero | refine PSub.agg ?_ | refine PSub.ro rfl ?_ | refine all_lt_succ ?_ ?_ | refine And.intro ?_ ?_)
    · repeat' (first | exact PSub.rfl | exact PSub.nil_ro _ _ | exact PSub.lit_sb rfl | exact trivial | exact all_lt_zero | refine PSub.agg ?_ | refine PSub.ro rfl ?_ | refine all_lt_succ ?_ ?_ | refine And.intro ?_ ?_)
  · have h1 := hkl.1 h
    rw [show nodV v e.kind e.n e.m e.name e.value e.key (evL v e.kids) = if (evR v (e.kids.getD 0 default)).kind ≠ 1 then noVal else truV (decide ((evR v (e.kids.getD 0 default)).n = 0)) from by
      unfold nodV
      rw [if_neg (by omega), if_neg (by omega), if_neg (by omega), if_neg (by omega), if_neg (by omega), if_pos h, g 0 (by omega)]]
    repeat (any_goals (first
      | (refine ⟨fun (h : (_ : Bool) = true) => ?_, fun (h : (_ : Bool) = false) => ?_⟩ <;> (try simp only [decide_eq_true_eq, decide_eq_false_iff_not, Bool.not_eq_true', Bool.not_eq_false', Int.toNat_natCast, beq_iff_eq, decide_eq_decide, beq_eq_false_iff_ne, ne_eq, reduceCtorEq] at h) <;> (conv => whnf))
      | (refine .inl ⟨_, ih 0 (by omega), ?_⟩; conv => whnf)
      | (refine .inl ⟨_, ac_eval_unknown, ?_⟩; conv => whnf)
      | (refine .inl ⟨_, ac_eval_truth _, ?_⟩; conv => whnf)
      | (refine And.intro (by (try simp only [Int.toNat_natCast]); omega) ?_; conv => whnf)
      | (refine And.intro (show (_ : Bool) = true from by kernel_rfl) ?_; conv => whnf)
      | (refine .inl ⟨wrap64 (by omega), ?_⟩; conv => whnf)))
    · rw [if_pos (by have := fnd_un h; omega), show fndV noVal = (noVal, false) from rfl]
      refine ⟨?_, ?_⟩ <;> (conv => whnf)
      · repeat' (first | exact PSub.rfl | exact PSub.nil_ro _ _ | exact PSub.lit_sb rfl | exact trivial | exact all_lt_zero | refine PSub.agg ?_ | refine PSub.ro rfl ?_ | refine all_lt_succ ?_ ?_ | refine And.intro ?_ ?_)
      · repeat' (first | exact PSub.rfl | exact PSub.nil_ro _ _ | exact PSub.lit_sb rfl | exact trivial | exact all_lt_zero | refine PSub.agg ?_ | refine PSub.ro rfl ?_ | refine all_lt_succ ?_ ?_ | refine And.intro ?_ ?_)
    · rename_i h2
      have hf := fnd_ok h2
      rw [hf.1] at h
      rw [if_pos h, show fndV noVal = (noVal, false) from rfl]
      refine ⟨?_, ?_⟩ <;> (conv => whnf)
      · repeat' (first | exact PSub.rfl | exact PSub.nil_ro _ _ | exact PSub.lit_sb rfl | exact trivial | exact all_lt_zero | refine PSub.agg ?_ | refine PSub.ro rfl ?_ | refine all_lt_succ ?_ ?_ | refine And.intro ?_ ?_)
      · repeat' (first | exact PSub.rfl | exact PSub.nil_ro _ _ | exact PSub.lit_sb rfl | exact trivial | exact all_lt_zero | refine PSub.agg ?_ | refine PSub.ro rfl ?_ | refine all_lt_succ ?_ ?_ | refine And.intro ?_ ?_)
    · rename_i h2
      have hf := fnd_ok h2
      rw [hf.1] at h ⊢
      rw [if_neg (fun x => x h), fndV_tru]
      refine ⟨?_, ?_⟩ <;> (conv => whnf)
      · repeat' (first | exact PSub.rfl | exact PSub.nil_ro _ _ | exact PSub.lit_sb rfl | exact trivial | exact all_lt_zero | refine PSub.agg ?_ | refine PSub.ro rfl ?_ | refine all_lt_succ ?_ ?_ | refine And.intro ?_ ?_)
      · repeat' (first | exact PSub.rfl | exact PSub.nil_ro _ _ | exact PSub.lit_sb rfl | exact trivial | exact all_lt_zero | refine PSub.agg ?_ | refine PSub.ro rfl ?_ | refine all_lt_succ ?_ ?_ | refine And.intro ?_ ?_)
  · repeat (any_goals (first
      | (refine ⟨fun (h : (_ : Bool) = true) => ?_, fun (h : (_ : Bool) = false) => ?_⟩ <;> (try simp only [decide_eq_true_eq, decide_eq_false_iff_not, Bool.not_eq_true', Bool.not_eq_false', Int.toNat_natCast, beq_iff_eq, decide_eq_decide, beq_eq_false_iff_ne, ne_eq, reduceCtorEq] at h) <;> (conv => whnf))
      | (refine .inl ⟨_, hj7, ?_⟩; conv => whnf)
      | (refine And.intro (by (try simp only [Int.toNat_natCast]); omega) ?_; conv => whnf)
      | (refine And.intro (show (_ : Bool) = true from by kernel_rfl) ?_; conv => whnf)
      | (refine .inl ⟨wrap64 (by omega), ?_⟩; conv => whnf)))
    rw [show nodV v e.kind e.n e.m e.name e.value e.key (evL v e.kids) = chainV (evL v e.kids) false from by
      unfold nodV
      rw [if_neg (by omega), if_neg (by omega), if_neg (by omega), if_neg (by omega), if_neg (by omega), if_neg (by omega), if_pos (by omega)]]
    refine ⟨?_, ?_⟩ <;> (conv => whnf)
    · repeat' (first | exact PSub.rfl | exact PSub.nil_ro _ _ | exact PSub.lit_sb rfl | exact trivial | exact all_lt_zero | refine PSub.agg ?_ | refine PSub.ro rfl ?_ | refine all_lt_succ ?_ ?_ | refine And.intro ?_ ?_)
    · repeat' (first | exact PSub.rfl | exact PSub.nil_ro _ _ | exact PSub.lit_sb rfl | exact trivial | exact all_lt_zero | refine PSub.agg ?_ | refine PSub.ro rfl ?_ | refine all_lt_succ ?_ ?_ | refine And.intro ?_ ?_)
  · repeat (any_goals (first
      | (refine ⟨fun (h : (_ : Bool) = true) => ?_, fun (h : (_ : Bool) = false) => ?_⟩ <;> (try simp only [decide_eq_true_eq, decide_eq_false_iff_not, Bool.not_eq_true', Bool.not_eq_false', Int.toNat_natCast, beq_iff_eq, decide_eq_decide, beq_eq_false_iff_ne, ne_eq, reduceCtorEq] at h) <;> (conv => whnf))
      | (refine .inl ⟨_, hj8, ?_⟩; conv => whnf)
      | (refine And.intro (by (try simp only [Int.toNat_natCast]); omega) ?_; conv => whnf)
      | (refine And.intro (show (_ : Bool) = true from by kernel_rfl) ?_; conv => whnf)
      | (refine .inl ⟨wrap64 (by omega), ?_⟩; conv => whnf)))
    rw [show nodV v e.kind e.n e.m e.name e.value e.key (evL v e.kids) = chainV (evL v e.kids) true from by
      unfold nodV
      rw [if_neg (by omega), if_neg (by omega), if_neg (by omega), if_neg (by omega), if_neg (by omega), if_neg (by omega), if_neg (by omega), if_pos (by omega)]]
    refine ⟨?_, ?_⟩ <;> (conv => whnf)
    · repeat' (first | exact PSub.rfl | exact PSub.nil_ro _ _ | exact PSub.lit_sb rfl | exact trivial | exact all_lt_zero | refine PSub.agg ?_ | refine PSub.ro rfl ?_ | refine all_lt_succ ?_ ?_ | refine And.intro ?_ ?_)
    · repeat' (first | exact PSub.rfl | exact PSub.nil_ro _ _ | exact PSub.lit_sb rfl | exact trivial | exact all_lt_zero | refine PSub.agg ?_ | refine PSub.ro rfl ?_ | refine all_lt_succ ?_ ?_ | refine And.intro ?_ ?_)
  · repeat (any_goals (first
      | (refine ⟨fun (h : (_ : Bool) = true) => ?_, fun (h : (_ : Bool) = false) => ?_⟩ <;> (try simp only [decide_eq_true_eq, decide_eq_false_iff_not, Bool.not_eq_true', Bool.not_eq_false', Int.toNat_natCast, beq_iff_eq, decide_eq_decide, beq_eq_false_iff_ne, ne_eq, reduceCtorEq] at h) <;> (conv => whnf))
      | (refine .inl ⟨_, hch (hkl.2.2 h), ?_⟩; conv => whnf)
      | (refine And.intro (by (try simp only [Int.toNat_natCast]); omega) ?_; conv => whnf)
      | (refine And.intro (show (_ : Bool) = true from by kernel_rfl) ?_; conv => whnf)
      | (refine .inl ⟨wrap64 (by omega), ?_⟩; conv => whnf)))
    rw [show nodV v e.kind e.n e.m e.name e.value e.key (evL v e.kids) = iteV (evL v e.kids) from by
      unfold nodV
      rw [if_neg (by omega), if_neg (by omega), if_neg (by omega), if_neg (by omega), if_neg (by omega), if_neg (by omega), if_neg (by omega), if_neg (by omega), if_neg (by omega), if_pos (by omega)]; rfl]
    refine ⟨?_, ?_⟩ <;> (conv => whnf)
    · repeat' (first | exact PSub.rfl | exact PSub.nil_ro _ _ | exact PSub.lit_sb rfl | exact trivial | exact all_lt_zero | refine PSub.agg ?_ | refine PSub.ro rfl ?_ | refine all_lt_succ ?_ ?_ | refine And.intro ?_ ?_)
    · repeat' (first | exact PSub.rfl | exact PSub.nil_ro _ _ | exact PSub.lit_sb rfl | exact trivial | exact all_lt_zero | refine PSub.agg ?_ | refine PSub.ro rfl ?_ | refine all_lt_succ ?_ ?_ | refine And.intro ?_ ?_)
  · have h2 := hkl.2.1 (by omega)
    rw [show nodV v e.kind e.n e.m e.name e.value e.key (evL v e.kids) = if (evR v (e.kids.getD 0 default)).kind = 0 ∨ (evR v (e.kids.getD 1 default)).kind = 0 then noVal
        else if e.kind = 9 then truV (decide (evR v (e.kids.getD 0 default) = evR v (e.kids.getD 1 default))) else intV e.kind (evR v (e.kids.getD 0 default)) (evR v (e.kids.getD 1 default)) from by
      unfold nodV
      rw [if_neg (by omega), if_neg (by omega), if_neg (by omega), if_neg (by omega), if_neg (by omega), if_neg (by omega), if_neg (by omega), if_neg (by omega), g 0 (by omega), g 1 (by omega)]
      by_cases h9 : e.kind = 9
      · rw [if_pos h9, if_pos h9]
      · rw [if_neg h9, if_neg (by omega), if_neg h9]
        by_cases h0 : (evR v (e.kids.getD 0 default)).kind = 0 ∨ (evR v (e.kids.getD 1 default)).kind = 0
        · rw [if_pos h0]; unfold intV; rw [if_pos (by omega)]
        · rw [if_neg h0]]
    repeat (any_goals (first
      | (refine ⟨fun (h : (_ : Bool) = true) => ?_, fun (h : (_ : Bool) = false) => ?_⟩ <;> (try simp only [decide_eq_true_eq, decide_eq_false_iff_not, Bool.not_eq_true', Bool.not_eq_false', Int.toNat_natCast, beq_iff_eq, decide_eq_decide, beq_eq_false_iff_ne, ne_eq, reduceCtorEq] at h) <;> (conv => whnf))
      | (refine .inl ⟨_, ih 0 (by omega), ?_⟩; conv => whnf)
      | (refine .inl ⟨_, ih 1 (by omega), ?_⟩; conv => whnf)
      | (refine .inl ⟨_, ac_eval_unknown, ?_⟩; conv => whnf)
      | (refine And.intro (by (try simp only [Int.toNat_natCast]); omega) ?_; conv => whnf)
      | (refine And.intro (show (_ : Bool) = true from by kernel_rfl) ?_; conv => whnf)
      | (refine .inl ⟨wrap64 (by omega), ?_⟩; conv => whnf)))
    · rw [if_pos (.inl (fnd_un h)), show fndV noVal = (noVal, false) from rfl]
      refine ⟨?_, ?_⟩ <;> (conv => whnf)
      · repeat' (first | exact PSub.rfl | exact PSub.nil_ro _ _ | exact PSub.lit_sb rfl | exact trivial | exact all_lt_zero | refine PSub.agg ?_ | refine PSub.ro rfl ?_ | refine all_lt_succ ?_ ?_ | refine And.intro ?_ ?_)
      · repeat' (first | exact PSub.rfl | exact PSub.nil_ro _ _ | exact PSub.lit_sb rfl | exact trivial | exact all_lt_zero | refine PSub.agg ?_ | refine PSub.ro rfl ?_ | refine all_lt_succ ?_ ?_ | refine And.intro ?_ ?_)
    · rw [if_pos (.inr (fnd_un h)), show fndV noVal = (noVal, false) from rfl]
      refine ⟨?_, ?_⟩ <;> (conv => whnf)
      · repeat' (first | exact PSub.rfl | exact PSub.nil_ro _ _ | exact PSub.lit_sb rfl | exact trivial | exact all_lt_zero | refine PSub.agg ?_ | refine PSub.ro rfl ?_ | refine all_lt_succ ?_ ?_ | refine And.intro ?_ ?_)
      · repeat' (first | exact PSub.rfl | exact PSub.nil_ro _ _ | exact PSub.lit_sb rfl | exact trivial | exact all_lt_zero | refine PSub.agg ?_ | refine PSub.ro rfl ?_ | refine all_lt_succ ?_ ?_ | refine And.intro ?_ ?_)
    · rename_i h1
      have f0 := fnd_ok h1
      have f1 := fnd_ok h
      rw [f0.1, f1.1]
      rw [if_neg (fun x => x.elim f0.2 f1.2)]
      repeat (any_goals (first
        | (refine ⟨fun (h : (_ : Bool) = true) => ?_, fun (h : (_ : Bool) = false) => ?_⟩ <;> (try simp only [decide_eq_true_eq, decide_eq_false_iff_not, Bool.not_eq_true', Bool.not_eq_false', Int.toNat_natCast, beq_iff_eq, decide_eq_decide, beq_eq_false_iff_ne, ne_eq, reduceCtorEq] at h) <;> (conv => whnf))
        | (refine .inl ⟨_, ac_eval_operation e.kind (evR v (e.kids.getD 0 default)) (evR v (e.kids.getD 1 default)) (hokk 0 (by omega)) (hokk 1 (by omega)), ?_⟩; conv => whnf)
        | (refine And.intro (by (try simp only [Int.toNat_natCast]); omega) ?_; conv => whnf)
        | (refine And.intro (show (_ : Bool) = true from by kernel_rfl) ?_; conv => whnf)
        | (refine .inl ⟨wrap64 (by omega), ?_⟩; conv => whnf)))
      refine ⟨?_, ?_⟩ <;> (conv => whnf)
      · repeat' (first | exact PSub.rfl | exact PSub.nil_ro _ _ | exact PSub.lit_sb rfl | exact trivial | exact all_lt_zero | refine PSub.agg ?_ | refine PSub.ro rfl ?_ | refine all_lt_succ ?_ ?_ | refine And.intro ?_ ?_)
      · repeat' (first | exact PSub.rfl | exact PSub.nil_ro _ _ | exact PSub.lit_sb rfl | exact trivial | exact all_lt_zero | refine PSub.agg ?_ | refine PSub.ro rfl ?_ | refine all_lt_succ ?_ ?_ | refine And.intro ?_ ?_)
termination_by SizeOf.sizeOf e
theorem ac_eval_Eval (v : Vw) (e : Ex) (hv : smallV2 v) : AC Tryz.prog 18 [.pv (.agg (cVw v)), .pv (.agg (cEx e))] [] (.pv (.tup [.agg (cVal (evlE v e).1), vbool (evlE v e).2])) [] := by
  have hok : exE e = 0 → okN e := fun h => ((exE_iff e).1 h).1
  refine AC.of_awp (T := T) T_ok hm Tryz.call18 Tryz.func18 rfl rfl rfl ?_
  conv => whnf
  repeat (any_goals (first
    | (refine ⟨fun (h : (_ : Bool) = true) => ?_, fun (h : (_ : Bool) = false) => ?_⟩ <;> (try simp only [decide_eq_true_eq, decide_eq_false_iff_not, Bool.not_eq_true', Bool.not_eq_false', Int.toNat_natCast, beq_iff_eq, decide_eq_decide, beq_eq_false_iff_ne, ne_eq, reduceCtorEq] at h) <;> (conv => whnf))
    | (refine .inl ⟨_, ac_expr_Check e, ?_⟩; conv => whnf)
    | (refine .inl ⟨_, ac_eval_unknown, ?_⟩; conv => whnf)
    | (refine .inl ⟨_, ac_eval_find v e hv (hok (by assumption)), ?_⟩; conv => whnf)
    | (refine And.intro (by (try simp only [Int.toNat_natCast]); omega) ?_; conv => whnf)
    | (refine And.intro (show (_ : Bool) = true from by kernel_rfl) ?_; conv => whnf)
    | (refine .inl ⟨wrap64 (by omega), ?_⟩; conv => whnf)))
  · rw [show evlE v e = (noVal, false) from if_pos h]
    refine ⟨?_, ?_⟩ <;> (conv => whnf)
    · repeat' (first | exact PSub.rfl | exact PSub.nil_ro _ _ | exact PSub.lit_sb rfl | exact trivial | exact all_lt_zero | refine PSub.agg ?_ | refine PSub.ro rfl ?_ | refine all_lt_succ ?_ ?_ | refine And.intro ?_ ?_)
    · repeat' (first | exact PSub.rfl | exact PSub.nil_ro _ _ | exact PSub.lit_sb rfl | exact trivial | exact all_lt_zero | refine PSub.agg ?_ | refine PSub.ro rfl ?_ | refine all_lt_succ ?_ ?_ | refine And.intro ?_ ?_)
  · rw [show evlE v e = fndV (evR v e) from if_neg (fun x => x h)]
    refine ⟨?_, ?_⟩ <;> (conv => whnf)
    · repeat' (first | exact PSub.rfl | exact PSub.nil_ro _ _ | exact PSub.lit_sb rfl | exact trivial | exact all_lt_zero | refine PSub.agg ?_ | refine PSub.ro rfl ?_ | refine all_lt_succ ?_ ?_ | refine And.intro ?_ ?_)
    · repeat' (first | exact PSub.rfl | exact PSub.nil_ro _ _ | exact PSub.lit_sb rfl | exact trivial | exact all_lt_zero | refine PSub.agg ?_ | refine PSub.ro rfl ?_ | refine all_lt_succ ?_ ?_ | refine And.intro ?_ ?_)
end Go.Abs

namespace Go.Proofs
open Go.Shelf
def Tryz.sortStr_ren : Go.Shelf.Ren := ⟨fun | 190 => 74 | 125 => 91 | 258 => 113 | 128 => 134 | 129 => 135 | 302 => 152 | 303 => 153 | 304 => 154 | 305 => 155 | 306 => 156 | 307 => 157 | 308 => 158 | 309 => 159 | 310 => 160 | 333 => 200 | 329 => 178 | 330 => 179 | 334 => 201 | 335 => 202 | 336 => 203 | 344 => 216 | n => n, fun | 31 => 26 | 9 => 9 | 3 => 3 | 46 => 133 | 0 => 0 | 51 => 171 | 53 => 71 | 4 => 4 | 183 => 164 | 182 => 163 | 131 => 168 | 5 => 5 | 218 => 204 | 222 => 208 | 228 => 223 | 229 => 224 | n => n, fun | n => n⟩
theorem Tryz.sortStr : Go.Proofs.Lays.n190 Tryz.prog Tryz.sortStr_ren := {
  mixed := by kernel_rfl
  f125 := Tryz.func91.trans (congrArg some (by kernel_rfl))
  f128 := Tryz.func134.trans (congrArg some (by kernel_rfl))
  f129 := Tryz.func135.trans (congrArg some (by kernel_rfl))
  f190 := Tryz.func74.trans (congrArg some (by kernel_rfl))
  f258 := Tryz.func113.trans (congrArg some (by kernel_rfl))
  f302 := Tryz.func152.trans (congrArg some (by kernel_rfl))
  f303 := Tryz.func153.trans (congrArg some (by kernel_rfl))
  f304 := Tryz.func154.trans (congrArg some (by kernel_rfl))
  f305 := Tryz.func155.trans (congrArg some (by kernel_rfl))
  f306 := Tryz.func156.trans (congrArg some (by kernel_rfl))
  f307 := Tryz.func157.trans (congrArg some (by kernel_rfl))
  f308 := Tryz.func158.trans (congrArg some (by kernel_rfl))
  f309 := Tryz.func159.trans (congrArg some (by kernel_rfl))
  f310 := Tryz.func160.trans (congrArg some (by kernel_rfl))
  f329 := Tryz.func178.trans (congrArg some (by kernel_rfl))
  f330 := Tryz.func179.trans (congrArg some (by kernel_rfl))
  f333 := Tryz.func200.trans (congrArg some (by kernel_rfl))
  f334 := Tryz.func201.trans (congrArg some (by kernel_rfl))
  f335 := Tryz.func202.trans (congrArg some (by kernel_rfl))
  f336 := Tryz.func203.trans (congrArg some (by kernel_rfl))
  f344 := Tryz.func216.trans (congrArg some (by kernel_rfl))
  t0 := Tryz.underlying0
  a0 := Tryz.isAgg0
  z0 := Tryz.sizeOf0
  v0 := Tryz.zeroValue0
  t3 := Tryz.underlying3
  a3 := Tryz.isAgg3
  z3 := Tryz.sizeOf3
  v3 := Tryz.zeroValue3
  t4 := Tryz.underlying4
  a4 := Tryz.isAgg4
  z4 := Tryz.sizeOf4
  v4 := Tryz.zeroValue4
  t5 := Tryz.underlying5
  a5 := Tryz.isAgg5
  z5 := Tryz.sizeOf5
  v5 := Tryz.zeroValue5
  t9 := Tryz.underlying9
  a9 := Tryz.isAgg9
  z9 := Tryz.sizeOf9
  v9 := Tryz.zeroValue9
  t31 := Tryz.underlying26
  a31 := Tryz.isAgg26
  z31 := Tryz.sizeOf26
  v31 := Tryz.zeroValue26
  t46 := Tryz.underlying133
  a46 := Tryz.isAgg133
  z46 := Tryz.sizeOf133
  v46 := Tryz.zeroValue133
  t51 := Tryz.underlying171
  a51 := Tryz.isAgg171
  z51 := Tryz.sizeOf171
  v51 := Tryz.zeroValue171
  t53 := Tryz.underlying71
  a53 := Tryz.isAgg71
  z53 := Tryz.sizeOf71
  v53 := Tryz.zeroValue71
  t131 := Tryz.underlying168
  a131 := Tryz.isAgg168
  z131 := Tryz.sizeOf168
  v131 := Tryz.zeroValue168
  t182 := Tryz.underlying163
  a182 := Tryz.isAgg163
  z182 := Tryz.sizeOf163
  v182 := Tryz.zeroValue163
  t183 := Tryz.underlying164
  a183 := Tryz.isAgg164
  z183 := Tryz.sizeOf164
  v183 := Tryz.zeroValue164
  t218 := Tryz.underlying204
  a218 := Tryz.isAgg204
  z218 := Tryz.sizeOf204
  v218 := Tryz.zeroValue204
  t222 := Tryz.underlying208
  a222 := Tryz.isAgg208
  z222 := Tryz.sizeOf208
  v222 := Tryz.zeroValue208
  t228 := Tryz.underlying223
  a228 := Tryz.isAgg223
  z228 := Tryz.sizeOf223
  v228 := Tryz.zeroValue223
  t229 := Tryz.underlying224
  a229 := Tryz.isAgg224
  z229 := Tryz.sizeOf224
  v229 := Tryz.zeroValue224 }
end Go.Proofs

namespace Go.Abs
open Go.RowKit Go.Shelf Go.Sort
variable [Globals]
section
variable {P : Program} {ρ : Ren} {α : Type} [Inhabited α]
theorem sortWorld_ext {encV : α → List Value} {k : Nat} {w : World} {b n : Nat} {d : Array α} {os : Array Obj} : FExt (fun c => c = b) w (Proofs.sortWorldK encV k w b 0 n d os) := by
  refine ⟨rfl, rfl, rfl, by simp [Proofs.sortWorldK, grow, putRowK, Sort.ahead], fun c hc hne => ?_, by simp [Proofs.sortWorldK, grow, putRowK, putRow, mapBlock, Sort.ahead]⟩
  show ((putRowK encV k (Sort.ahead w n) b 0 d).heap ++ os)[c]? = _
  rw [Array.getElem?_append_left (by simp [putRowK, Sort.ahead]; exact hc)]
  simp only [putRowK, putRow, mapBlock, Sort.ahead]
  rw [Array.getElem?_modify]
  simp [Ne.symm hne]
theorem sortWorld_row {encV : α → List Value} {k : Nat} {w : World} {b n : Nat} {d : Array α} {os : Array Obj} {vs : Array Value} {t : TypeId} (hb : w.heap[b]? = some (.cells vs t (0, 0))) :
    (Proofs.sortWorldK encV k w b 0 n d os).heap[b]? = some (.cells (Sort.putCells id 0 (flatK encV k d) vs) t (0, 0)) := by
  have hlt := lt_of_block hb
  show ((putRowK encV k (Sort.ahead w n) b 0 d).heap ++ os)[b]? = _
  rw [Array.getElem?_append_left (by simp [putRowK, Sort.ahead]; exact hlt)]
  simp only [putRowK, putRow, mapBlock, Sort.ahead]
  rw [Array.getElem?_modify]
  simp [hb, onCells]
end
end Go.Abs

namespace Go.Abs
open Go.RowKit Go.Shelf Go.Sort
variable [Globals]
section
variable {P : Program} {ρ : Ren} {α : Type} [Inhabited α]
theorem AC.inPlace {f : FuncId} (k : Nat) (encV : α → List Value) (hk : ∀ x, (encV x).length = k) (h1 : ∀ x, ∀ v ∈ encV x, v.oneCell' = true)
    (hcall : ∀ (vals : Array Value) (w : World), (callFunc f vals).run P w = .ok (.enter f vals) w) (l l' : List α) (hl' : l'.length = l.length)
    (hnone : ∀ (a : Option Addr) (cap : Nat) (w : World), Calls P f #[.slice a 0 cap] w fun e w' => e = .returned (.tuple #[]) ∧ w' = w)
    (hsome : ∀ (b cap : Nat) (w : World), HoldsK encV k w b 0 l.toArray → b < w.heap.size → Calls P f #[.slice (some ⟨b, 0, none⟩) l.length cap] w fun e w' => e = .returned (.tuple #[]) ∧ ∃ n os, w' = Proofs.sortWorldK encV k w b 0 n l'.toArray os) :
    AC P f [.own 0] [(0, .row k l.length fun i => (encV (l.getD i default)).map .val)] (.pv (.tup [])) [(0, .row k l.length fun i => (encV (l'.getD i default)).map .val)] := by
  refine ⟨hcall, fun St M0 σ w vals hi hσ hos hsz hA => ?_⟩
  obtain ⟨loc, hloc, hor⟩ := hos 0 _ (by simp [getO]; rfl)
  have hv0 := arg_own (hA 0 (.own 0) rfl) hloc
  have hvals : vals = #[vals.getD 0 undef] := by
    have hs2 : vals.size = 1 := hsz
    apply Array.ext
    · simpa using hs2
    · intro i h2 h3
      have : i = 0 := by omega
      subst this; simp [Array.getD, hs2]
  rw [hvals, hv0]
  have done : ∀ w' : World, w' = w → l.length = 0 → ∃ v σ', Ending.returned (.tuple #[]) = .returned v ∧ Post P St M0 σ w [(0, .row k l.length fun i => (encV (l'.getD i default)).map .val)] (.pv (.tup [])) σ' v w' := by
    rintro w' rfl hl0
    refine ⟨_, σ, rfl, Post.redo hi ⟨loc, hloc, ?_⟩ (.pv _ _ (.tup _ _ rfl fun i p e => by simp at e))⟩
    have h0 : l = [] := List.length_eq_zero_iff.1 hl0
    subst h0
    have h1 : l' = [] := List.length_eq_zero_iff.1 (by simpa using hl')
    subst h1
    simpa using hor
  generalize hn0 : l.length = n0 at hor
  cases hor with
  | row0 _ _ a =>
    refine (hnone a 0 w).mono (fun e w' h => ?_)
    obtain ⟨rfl, hw⟩ := h
    have h5 := done w' hw hn0
    rw [hn0] at h5
    exact h5
  | row _ _ _ b cap vs t hb hn hmax hsz' hs hh hone =>
    subst hn0
    by_cases h0 : l.length = 0
    · have none' : ∀ n, n = 0 → Calls P f #[.slice (some ⟨b, 0, none⟩) n cap] w fun e w' => e = .returned (.tuple #[]) ∧ w' = w := by
        intro n hn
        rw [hn]
        exact hnone (some ⟨b, 0, none⟩) cap w
      have := none' l.length h0
      refine this.mono (fun e w' h => ?_)
      obtain ⟨rfl, hw⟩ := h
      exact done w' hw h0
    · have hblk := lt_of_block hb
      have hget : ∀ j, j < l.length * k → vs.getD j undef = (flatK encV k l.toArray)[j]! := by
        intro j hj
        have k0 : 0 < k := by rcases Nat.eq_zero_or_pos k with h | h; · subst h; simp at hj
                              · exact h
        have hd : j / k < l.length := (Nat.div_lt_iff_lt_mul k0).2 hj
        have hm : j % k < (encV (l.getD (j / k) default)).length := by rw [hk]; exact Nat.mod_lt _ k0
        have hp := hh (j / k) hd (j % k) (.val ((encV (l.getD (j / k) default))[j % k]'hm)) (by simp [hm])
        have hp := pr_val hp
        rw [show j / k * k + j % k = j from by rw [Nat.mul_comm]; exact Nat.div_add_mod j k] at hp
        rw [hp, get_flatK _ _ _ _ (by simpa using hj)]
        have e1 : l.toArray[j / k]! = l.getD (j / k) default := by simp [List.getD, hd]
        rw [e1, getElem!_pos (encV (l.getD (j / k) default)) (j % k) hm]
      have hH : HoldsK encV k w b 0 l.toArray := by
        intro j hj
        have hj' : j < l.length * k := by simpa using hj
        have hlt : j < vs.size := by rw [hsz']; exact Nat.lt_of_lt_of_le hj' (Nat.mul_le_mul_right _ hn)
        refine ⟨?_, ?_⟩
        · rw [Nat.zero_add, id, ← hget j hj']
          simp [World.cell?, hb, Array.getD, hlt]
        · simp [World.frozen?, hb]
      have := hsome b cap w hH hblk
      refine this.mono ?_
      rintro e w' ⟨rfl, n, os, rfl⟩
      have hx := sortWorld_ext (encV := encV) (k := k) (w := w) (b := b) (n := n) (d := l'.toArray) (os := os)
      have hrow := sortWorld_row (encV := encV) (k := k) (w := w) (b := b) (n := n) (d := l'.toArray) (os := os) hb
      have hlm : l'.length = l.length := hl'
      refine ⟨_, σ, rfl, Post.upd hi hloc rfl hx (by simp) (.row _ _ _ b cap _ t hrow hn hmax (by simp [Sort.putCells, hsz']) (fun i hi' => by simp [hk]) (fun i hi' j p e => ?_) (fun i hi' => ?_)) (.pv _ _ (.tup _ _ rfl fun i p e => by simp at e))⟩
      · rw [List.getElem?_map] at e
        cases hq : (encV (l'.getD i default))[j]? with
        | none => rw [hq] at e; cases e
        | some q =>
          rw [hq] at e; cases e
          have hj : j < k := by have := (List.getElem?_eq_some_iff.1 hq).1; rwa [hk] at this
          have hlt : i * k + j < l.length * k := idx_lt hi' hj
          have hltv : i * k + j < vs.size := by rw [hsz']; exact Nat.lt_of_lt_of_le hlt (Nat.mul_le_mul_right _ hn)
          have : (Sort.putCells id 0 (flatK encV k l'.toArray) vs).getD (i * k + j) undef = q := by
            simp only [Sort.putCells, Array.getD, Array.size_mapIdx, hltv, dif_pos, Array.getInternal_eq_getElem, Array.getElem_mapIdx]
            rw [if_pos (by simp [hlm]; exact hlt)]
            rw [Nat.sub_zero, id, get_flatK _ _ _ _ (by simp [hlm]; exact hlt)]
            have e1 : (i * k + j) / k = i := by rw [Nat.add_comm, Nat.add_mul_div_right _ _ (by omega), Nat.div_eq_of_lt hj, Nat.zero_add]
            have e2 : (i * k + j) % k = j := by rw [Nat.add_comm, Nat.add_mul_mod_self_right, Nat.mod_eq_of_lt hj]
            rw [e1, e2]
            have e3 : l'.toArray[i]! = l'.getD i default := by
              have : i < l'.length := by omega
              simp [List.getD, this]
            rw [e3]
            have hj2 := (List.getElem?_eq_some_iff.1 hq)
            obtain ⟨h3, h4⟩ := hj2
            rw [getElem!_pos (encV (l'.getD i default)) j h3, h4]
          rw [this]; exact .val q
      · have hltv : i < vs.size := by simpa [Sort.putCells] using hi'
        simp only [Sort.putCells, Array.getD, Array.size_mapIdx, hltv, dif_pos, Array.getInternal_eq_getElem, Array.getElem_mapIdx]
        split
        · rename_i hc
          have hf : i - 0 < (flatK encV k l'.toArray).size := by
            have := hc.2
            simp only [Nat.zero_add, Nat.sub_zero] at this ⊢
            exact this
          have k0 : 0 < k := by rcases Nat.eq_zero_or_pos k with h | h; · subst h; simp at hf
                                · exact h
          rw [id, get_flatK _ _ _ _ (by simpa using hf)]
          have hm : (i - 0) % k < (encV l'.toArray[(i - 0) / k]!).length := by rw [hk]; exact Nat.mod_lt _ k0
          rw [getElem!_pos (encV l'.toArray[(i - 0) / k]!) ((i - 0) % k) hm]
          exact h1 _ _ (List.getElem_mem hm)
        · have := hone i hltv
          simpa [Array.getD, hltv] using this
end
theorem map_getB {α β : Type} [Inhabited α] [Inhabited β] (f : α → β) (d : Array α) {i : Nat} (hi : i < d.size) : (d.map f)[i]! = f d[i]! := by
  rw [getElem!_pos (d.map f) i (by simpa using hi), getElem!_pos d i hi, Array.getElem_map]
theorem flatK_one {d : Array (List UInt8)} : flatK (fun s => [Proofs.encStr s]) 1 d = d.map Proofs.encStr := by
  apply Array.ext
  · simp [flatK]
  · intro i h1 h2
    have hi : i < d.size := by simpa using h2
    simp [flatK, Nat.div_one, Nat.mod_one, hi]
theorem putRow_one {w : World} {b : Nat} {d : Array (List UInt8)} : putRow Proofs.encStr w b 0 d = putRowK (fun s => [Proofs.encStr s]) 1 w b 0 d := by
  unfold putRowK putRow
  rw [flatK_one]
  congr 1
  funext c
  unfold Sort.putCells
  congr 1
  funext i x
  simp only [Array.size_map]
  split
  · rename_i h
    have hi : i - 0 < d.size := by omega
    exact (map_getB Proofs.encStr d hi).symm
  · rfl
section
variable {P : Program} {ρ : Ren}
theorem AC.sortStr (L : Proofs.Lays.n190 P ρ) (hcall : ∀ (vals : Array Value) (w : World), (callFunc (ρ.f 190) vals).run P w = .ok (.enter (ρ.f 190) vals) w) (l : List ByteArray) (hl : l.length < 4611686018427387904) :
    AC P (ρ.f 190) [.own 0] [(0, .row 1 l.length fun i => [.val (.string (l.getD i default))])] (.pv (.tup [])) [(0, .row 1 l.length fun i => [.val (.string ((l.mergeSort fun x y => !sLt y x).getD i default))])] := by
  have hmap : ((l.mergeSort fun x y => !sLt y x).map fun s => s.data.toList) = (l.map fun s : ByteArray => s.data.toList).mergeSort fun x y => decide (x ≤ y) := by
    refine List.map_mergeSort fun a _ b _ => ?_
    rw [Bool.eq_iff_iff]
    simp only [Bool.not_eq_true', decide_eq_true_eq]
    rw [← Bool.not_eq_true, sLt_iff]
    exact List.not_lt
  have key := AC.inPlace (P := P) (f := ρ.f 190) (α := List UInt8) 1 (fun s => [Proofs.encStr s]) (fun _ => rfl) (fun x v hv => by simp only [List.mem_singleton] at hv; subst hv; rfl) hcall
    (l.map fun s : ByteArray => s.data.toList) ((l.mergeSort fun x y => !sLt y x).map fun s => s.data.toList) (by simp)
    (fun a cap w => Proofs.Any.slices_Sort_string_none L a cap w)
    (fun b cap w hH hb => by
      have hH' : Holds Proofs.encStr w b 0 (l.map fun s : ByteArray => s.data.toList).toArray := by
        intro j hj
        have := hH j (by rw [flatK_one]; simpa using hj)
        rw [flatK_one] at this
        rw [map_getB Proofs.encStr _ hj] at this
        exact this
      refine (Proofs.Any.slices_Sort_string L b 0 cap _ w hH' hb (by simpa using hl)).mono ?_
      rintro e w' ⟨rfl, n, os, rfl⟩
      refine ⟨rfl, n, os, ?_⟩
      rw [hmap, putRow_one]
      rfl)
  have e1 : ∀ m : List ByteArray, (fun i => ((fun s => [Proofs.encStr s]) ((m.map fun s : ByteArray => s.data.toList).getD i default)).map PV.val) = fun i => [PV.val (.string (m.getD i default))] := by
    intro m
    funext i
    by_cases hi : i < m.length
    · simp [List.getD, hi, Proofs.encStr]
    · simp [List.getD, hi, Proofs.encStr]
      rfl
  rw [e1, e1, List.length_map] at key
  exact key
end
end Go.Abs

namespace Go.Abs
open Go.Proofs
set_option maxRecDepth 10000
theorem ac_slices_Sort_string (l : List ByteArray) (hl : l.length ≤ 8388608) : AC Tryz.prog 74 [.own 0] [(0, rowL 1 cstr l)] (.pv (.tup [])) [(0, rowL 1 cstr (sortedS l))] := by
  have := AC.sortStr Tryz.sortStr Tryz.call74 l (by omega)
  unfold rowL
  rw [sortedS_length]
  exact this
theorem lookPutS_yes {f : Value → Option PV} {k : Value} {p : PV} : lookPut f k p k = some p := by unfold lookPut; rw [if_pos rfl]
theorem lookPutS_no {f : Value → Option PV} {k v : Value} {p : PV} (h : v ≠ k) : lookPut f k p v = f v := by unfold lookPut; rw [if_neg h]
def setLook (p : ByteArray → Bool) : Value → Option PV
  | .string s => if p s = true then some (.val (.bool true)) else none
  | _ => none
theorem setLook_str (p : ByteArray → Bool) (s : ByteArray) : setLook p (.string s) = if p s = true then some (.val (.bool true)) else none := rfl
theorem has_str {v : Value} (h : (KK.one .str).has v) : ∃ s, v = .string s := h
theorem str_has (s : ByteArray) : (KK.one .str).has (.string s) := ⟨s, rfl⟩
theorem setLook_put {p q : ByteArray → Bool} {x : ByteArray} (h : ∀ s, q s = (p s || decide (s = x))) : ∀ v, (KK.one .str).has v → lookPut (setLook p) (.string x) (.val (.bool true)) v = setLook q v := by
  rintro _ ⟨s, rfl⟩
  rw [setLook_str, h]
  by_cases e : s = x
  · subst e; rw [lookPutS_yes, if_pos (by simp)]
  · rw [lookPutS_no (fun h => e (Value.string.inj h)), setLook_str, decide_eq_false e, Bool.or_false]
theorem setLook_del {p q : ByteArray → Bool} {x : ByteArray} (h : ∀ s, q s = (p s && !decide (s = x))) : ∀ v, (KK.one .str).has v → lookDel (setLook p) (.string x) v = setLook q v := by
  rintro _ ⟨s, rfl⟩
  rw [setLook_str, h]
  unfold lookDel
  by_cases e : s = x
  · subst e; rw [if_pos rfl, if_neg (by simp)]
  · rw [if_neg (fun h => e (Value.string.inj h)), setLook_str, decide_eq_false e, Bool.not_false, Bool.and_true]
end Go.Abs

namespace Go.Abs
open Go.Proofs
set_option maxRecDepth 10000
def lckLook (f : ByteArray → Option Lck) : Value → Option PV
  | .string s => (f s).map fun c => .agg (cLck c)
  | _ => none
theorem lckLook_str (f : ByteArray → Option Lck) (s : ByteArray) : lckLook f (.string s) = (f s).map fun c => .agg (cLck c) := rfl
theorem memS_snoc {l : List ByteArray} {x : ByteArray} (s : ByteArray) : memS (l ++ [x]) s = (memS l s || decide (s = x)) := by
  rw [Bool.eq_iff_iff, memS_iff, Bool.or_eq_true, memS_iff, decide_eq_true_eq, List.mem_append, List.mem_singleton]
theorem ac_interlock_set (l : List ByteArray) (hl : smallL l) : AC Tryz.prog 40 [.pv (roL 1 cstr l)] [] (.ref 1) [(1, .map (.one .str) (setLook fun s => memS l s))] := by
  have hl2 : l.length ≤ 1048576 := hl
  refine AC.of_awp_gen (T := T) T_ok hm Tryz.call40 Tryz.func40 rfl rfl rfl rfl rfl rfl ?_
  conv => whnf
  refine loop_k (ι := Nat) [7, 8] [] (fun k => k ≤ l.length ∧ True) (fun k => l.length - k) 0 (fun k => [(3, .ref 6), (9, .pv (vint k))]) (fun k => [(6, .map (.one .str) (setLook fun s => memS (l.take k) s))]) [] ⟨Nat.zero_le _, trivial⟩ ?_ (fun k hk => ?_)
  · (repeat' (first | exact PSub.rfl | exact rfl | exact PSubs.rfl | exact trivial | exact PSub.lit_sb rfl | refine And.intro ?_ ?_)); all_goals ((rintro _ ⟨s, rfl⟩; rfl))
  obtain ⟨hkn, hinv⟩ := hk
  conv => whnf
  repeat (any_goals (first
    | (refine ⟨fun (h : (_ : Bool) = true) => ?_, fun (h : (_ : Bool) = false) => ?_⟩ <;> (try simp only [decide_eq_true_eq, decide_eq_false_iff_not, Bool.not_eq_true', Bool.not_eq_false', Int.toNat_natCast, beq_iff_eq, decide_eq_decide, beq_eq_false_iff_ne, ne_eq, reduceCtorEq] at h) <;> (conv => whnf))
    | (refine And.intro (by (try simp only [Int.toNat_natCast]); omega) ?_; conv => whnf)
    | (refine And.intro (show (_ : Bool) = true from by kernel_rfl) ?_; conv => whnf)
    | (refine .inl ⟨wrap64 (by omega), ?_⟩; conv => whnf)))
  · refine ⟨k + 1, [], ⟨by omega, trivial⟩, by omega, ?_⟩
    rw [take_succ_getD (by omega)]
    (repeat' (first | exact PSub.rfl | exact rfl | exact PSubs.rfl | exact trivial | exact PSub.lit_sb rfl | refine And.intro ?_ ?_))
    exact setLook_put memS_snoc
  · rw [List.take_of_length_le (by omega)]
    refine ⟨[(1, 6)], ?_⟩
    conv => whnf
    (repeat' (first | exact PSub.rfl | exact rfl | exact PSubs.rfl | exact trivial | exact PSub.lit_sb rfl | refine And.intro ?_ ?_))
    all_goals (rintro _ ⟨s, rfl⟩; rfl)
theorem fstL_cons {x : Lck} {l : List Lck} {n : ByteArray} : fstL (x :: l) n = if x.name = n then some x else fstL l n := by
  unfold fstL
  rw [List.find?_cons]
  by_cases h : x.name = n <;> simp [h]
theorem ac_interlock_known (l : List Lck) (hl : smallL l) : AC Tryz.prog 41 [.pv (roL 16 cLck l)] [] (.pv (.map (.one .str) (lckLook (fstL l)))) [] := by
  have hl2 : l.length ≤ 1048576 := hl
  refine AC.of_awp (T := T) T_ok hm Tryz.call41 Tryz.func41 rfl rfl rfl ?_
  conv => whnf
  repeat (any_goals (first
    | (refine ⟨fun (h : (_ : Bool) = true) => ?_, fun (h : (_ : Bool) = false) => ?_⟩ <;> (try simp only [decide_eq_true_eq, decide_eq_false_iff_not, Bool.not_eq_true', Bool.not_eq_false', Int.toNat_natCast, beq_iff_eq, decide_eq_decide, beq_eq_false_iff_ne, ne_eq, reduceCtorEq] at h) <;> (conv => whnf))
    | (refine And.intro (by (try simp only [Int.toNat_natCast]); omega) ?_; conv => whnf)
    | (refine And.intro (show (_ : Bool) = true from by kernel_rfl) ?_; conv => whnf)
    | (refine .inl ⟨wrap64 (by omega), ?_⟩; conv => whnf)))
  refine loop_k (ι := Nat) [0] [] (fun k => k ≤ l.length) (fun k => l.length - k) 0 (fun k => [(3, .ref 5), (4, .pv (vint ((l.length : Int) - 1 - k)))]) (fun k => [(5, .map (.one .str) (lckLook (fstL (l.drop (l.length - k)))))]) [] (Nat.zero_le _) ?_ (fun k hkn => ?_)
  · (repeat' (first | exact PSub.rfl | exact rfl | exact PSubs.rfl | exact trivial | exact PSub.lit_sb rfl | refine And.intro ?_ ?_))
    · rintro _ ⟨s, rfl⟩
      rw [show l.drop (l.length - 0) = [] from by simp]
      rfl
    · exact PSub.int (by omega)
  conv => whnf
  repeat (any_goals (first
    | (refine ⟨fun (h : (_ : Bool) = true) => ?_, fun (h : (_ : Bool) = false) => ?_⟩ <;> (try simp only [decide_eq_true_eq, decide_eq_false_iff_not, Bool.not_eq_true', Bool.not_eq_false', Int.toNat_natCast, beq_iff_eq, decide_eq_decide, beq_eq_false_iff_ne, ne_eq, reduceCtorEq] at h) <;> (conv => whnf))
    | (refine And.intro (by (try simp only [Int.toNat_natCast]); omega) ?_; conv => whnf)
    | (refine And.intro (show (_ : Bool) = true from by kernel_rfl) ?_; conv => whnf)
    | (refine .inl ⟨wrap64 (by omega), ?_⟩; conv => whnf)))
  · have hk : k < l.length := by omega
    have hix : ((l.length : Int) - 1 - k).toNat = l.length - 1 - k := by omega
    refine ⟨k + 1, [], by omega, by omega, ?_⟩
    have hd : l.drop (l.length - (k + 1)) = l.getD (l.length - 1 - k) default :: l.drop (l.length - k) := by
      rw [show l.length - (k + 1) = l.length - 1 - k by omega, drop_getD (l := l) (show l.length - 1 - k < l.length by omega), show l.length - 1 - k + 1 = l.length - k by omega]
    (repeat' (first | exact PSub.rfl | exact rfl | exact PSubs.rfl | exact trivial | exact PSub.lit_sb rfl | refine And.intro ?_ ?_))
    · rintro _ ⟨s, rfl⟩
      rw [hd, lckLook_str, fstL_cons, hix]
      by_cases e : (l.getD (l.length - 1 - k) default).name = s
      · rw [if_pos e, ← e, lookPutS_yes]; rfl
      · rw [if_neg e, lookPutS_no (fun h => e (Value.string.inj h).symm), lckLook_str]
    · exact PSub.int (by omega)
  · have hk : k = l.length := by omega
    subst hk
    rw [show l.length - l.length = 0 by omega, List.drop_zero]
    exact PSub.rfl
theorem ac_interlock_ascending (p : ByteArray → Bool) (ks : List ByteArray) (hp : ∀ s, p s = true ↔ s ∈ ks) (hk : ks.length ≤ 8388607) : AC Tryz.prog 42 [.pv (.map (.one .str) (setLook p))] [] (.pv (roL 1 cstr (sortS ks))) [] := by
  refine AC.of_awp (T := T) T_ok hm Tryz.call42 Tryz.func42 rfl rfl rfl ?_
  conv => whnf
  refine loop_k (ι := List ByteArray) [] [] (fun x => x.Nodup ∧ ∀ q ∈ x, q ∈ ks) (fun x => ks.length + 1 - x.length) [] (fun x => [(3, .own 500), (6, .ref 6)])
    (fun x => [(500, rowL 1 cstr x.reverse), (6, .miter (.one .str) (setLook p) (x.map fun q => .string q))]) [] ⟨List.nodup_nil, fun q hq => by simp at hq⟩ ?_ (fun x hx => ?_)
  · (repeat' (first | exact PSub.rfl | exact rfl | exact PSubs.rfl | exact trivial | exact PSub.lit_sb rfl | refine And.intro ?_ ?_))
  obtain ⟨hn, hx⟩ := hx
  have hlen := nodup_sub_lengthS hn hx
  have hrev : x.reverse.length = x.length := List.length_reverse
  conv => whnf
  refine ⟨fun v pp hv hpp hns => ?_, fun hall => ?_⟩
  · obtain ⟨q, rfl⟩ := has_str hv
    have hp0 := hpp
    rw [setLook_str] at hpp
    by_cases hq : p q = true
    · rw [if_pos hq] at hpp
      cases hpp
      have hq := (hp q).1 hq
      have hnx : q ∉ x := fun h => hns (List.mem_map.2 ⟨q, h, rfl⟩)
      have hJ : (q :: x).Nodup ∧ ∀ r ∈ q :: x, r ∈ ks := ⟨List.nodup_cons.2 ⟨hnx, hn⟩, fun r hr => by
        rcases List.mem_cons.1 hr with rfl | hr
        · exact hq
        · exact hx r hr⟩
      have hlq := nodup_sub_lengthS hJ.1 hJ.2
      rw [List.length_cons] at hlq
      conv => whnf
      refine ⟨_, hp0, ?_⟩
      conv => whnf
      repeat (any_goals (first
        | (refine ⟨fun (h : (_ : Bool) = true) => ?_, fun (h : (_ : Bool) = false) => ?_⟩ <;> (try simp only [decide_eq_true_eq, decide_eq_false_iff_not, Bool.not_eq_true', Bool.not_eq_false', Int.toNat_natCast, beq_iff_eq, decide_eq_decide, beq_eq_false_iff_ne, ne_eq, reduceCtorEq] at h) <;> (conv => whnf))
        | (refine And.intro (by (try simp only [Int.toNat_natCast]); omega) ?_; conv => whnf)
        | (refine And.intro (show (_ : Bool) = true from by kernel_rfl) ?_; conv => whnf)
        | (refine .inl ⟨wrap64 (by omega), ?_⟩; conv => whnf)))
      refine ⟨q :: x, [(500, 14)], hJ, by simp only [List.length_cons]; omega, ?_⟩
      rw [List.reverse_cons]
      (repeat' (first | exact PSub.rfl | exact rfl | exact PSubs.rfl | exact trivial | exact PSub.lit_sb rfl | refine And.intro ?_ ?_))
      · simp
      · refine rows_snocF (fun i hi => by simp only [if_pos hi]; exact PSubs.rfl) (by simp only [if_neg (Nat.lt_irrefl _), Nat.sub_self]; exact PSubs.rfl)
    · rw [if_neg hq] at hpp; cases hpp
  · conv => whnf
    refine .inr (.inr (.inl ⟨_, _, ac_slices_Sort_string x.reverse (by omega), ?_⟩))
    conv => whnf
    have hs : sortedS x.reverse = sortS ks := by
      rw [sortedS_asc ((List.reverse_perm x).nodup_iff.2 hn)]
      refine sortS_congr fun q => ?_
      rw [List.mem_reverse]
      refine ⟨hx q, fun hq => ?_⟩
      have h2 := hall (.string q) (.val (.bool true)) (str_has q) (by rw [setLook_str, if_pos ((hp q).2 hq)])
      obtain ⟨r, hr, e2⟩ := List.mem_map.1 h2
      rw [← Value.string.inj e2]; exact hr
    rw [hs]
    exact .rfl
end Go.Abs

namespace Go.Abs
open Go.Proofs
set_option maxRecDepth 10000
theorem memS_take (l : List ByteArray) (k : Nat) (hk : k < l.length) (s : ByteArray) : memS (l.take (k + 1)) s = (memS (l.take k) s || decide (s = l.getD k default)) := by
  rw [take_succ_getD hk]; exact memS_snoc s
set_option maxHeartbeats 1000000 in
theorem ac_interlock_Active (l : List Lck) (v : Vw) (before : List ByteArray) (hl : goodLcks l) (hv : smallV2 v) (hb : smallL before) : AC Tryz.prog 17 [.pv (roL 16 cLck l), .pv (.agg (cVw v)), .pv (roL 1 cstr before)] [] (.pv (roL 1 cstr (actL l v before))) [] := by
  have hl2 : l.length ≤ 1048576 := hl.1
  refine AC.of_awp (T := T) T_ok hm Tryz.call17 Tryz.func17 rfl rfl rfl ?_
  conv => whnf
  repeat (any_goals (first
    | (refine ⟨fun (h : (_ : Bool) = true) => ?_, fun (h : (_ : Bool) = false) => ?_⟩ <;> (try simp only [decide_eq_true_eq, decide_eq_false_iff_not, Bool.not_eq_true', Bool.not_eq_false', Int.toNat_natCast, beq_iff_eq, decide_eq_decide, beq_eq_false_iff_ne, ne_eq, reduceCtorEq] at h) <;> (conv => whnf))
    | (refine .inr (.inr (.inr (.inr ⟨[], [(1, 700)], _, _, _, ac_interlock_set before hb, rfl, ?_⟩))); conv => whnf)
    | (refine .inl ⟨_, ac_interlock_known l hl.1, ?_⟩; conv => whnf)
    | (refine And.intro (by (try simp only [Int.toNat_natCast]); omega) ?_; conv => whnf)
    | (refine And.intro (show (_ : Bool) = true from by kernel_rfl) ?_; conv => whnf)
    | (refine .inl ⟨wrap64 (by omega), ?_⟩; conv => whnf)))
  refine loop_k (ι := List ByteArray) [4, 7, 8, 18] [4, 700] (fun x => x.Nodup ∧ ∀ q ∈ x, q ∈ l.map Lck.name) (fun x => l.length + 1 - x.length) [] (fun x => [])
    (fun x => [(15, .map (.one .str) (setLook fun s => memS x s && actN l v before s)), (18, .miter (.one .str) (lckLook (fstL l)) (x.map fun q => .string q))]) [] ⟨List.nodup_nil, fun q hq => by simp at hq⟩ ?_ (fun x hx => ?_)
  · (repeat' (first | exact PSub.rfl | exact rfl | exact PSubs.rfl | exact trivial | exact PSub.lit_sb rfl | refine And.intro ?_ ?_))
    all_goals (rintro _ ⟨s, rfl⟩; rfl)
  obtain ⟨hn, hx⟩ := hx
  have hlen := nodup_sub_lengthS hn hx
  rw [List.length_map] at hlen
  conv => whnf
  refine ⟨fun w pp hw hpp hns => ?_, fun hall => ?_⟩
  · obtain ⟨q, rfl⟩ := has_str hw
    have hp0 := hpp
    rw [lckLook_str] at hpp
    cases hf : fstL l q with
    | none => rw [hf] at hpp; cases hpp
    | some k =>
      rw [hf] at hpp
      cases hpp
      have hnx : q ∉ x := fun h => hns (List.mem_map.2 ⟨q, h, rfl⟩)
      have hkn := (fstL_some hf).2
      have hkm := (fstL_some hf).1
      have hJ : (q :: x).Nodup ∧ ∀ r ∈ q :: x, r ∈ l.map Lck.name := ⟨List.nodup_cons.2 ⟨hnx, hn⟩, fun r hr => by
        rcases List.mem_cons.1 hr with rfl | hr
        · exact fstL_isSome.1 (by rw [hf]; rfl)
        · exact hx r hr⟩
      have hlq := nodup_sub_lengthS hJ.1 hJ.2
      rw [List.length_cons, List.length_map] at hlq
      have hact : actN l v before q = (truE v k.cond || (memS before q && (k.latch || unkE v k.cond))) := by
        unfold actN
        rw [hf, ← hkn]; rfl
      have hput : ∀ s, (memS (q :: x) s && actN l v before s) = ((memS x s && actN l v before s) || (decide (s = q) && actN l v before q)) := fun s => by
        have h1 : memS (q :: x) s = (decide (s = q) || memS x s) := by
          rw [Bool.eq_iff_iff, memS_iff, Bool.or_eq_true, memS_iff, decide_eq_true_eq, List.mem_cons]
        rw [h1]
        by_cases e : s = q
        · subst e; cases memS x s <;> cases actN l v before s <;> simp
        · rw [decide_eq_false e]; cases memS x s <;> cases actN l v before s <;> simp
      have hyes : actN l v before q = true → ∀ w, (KK.one .str).has w → lookPut (setLook fun s => memS x s && actN l v before s) (.string q) (.val (.bool true)) w = setLook (fun s => memS (q :: x) s && actN l v before s) w := fun ha => setLook_put fun s => by rw [hput, ha, Bool.and_true]
      have hnot : actN l v before q = false → ∀ w, (KK.one .str).has w → setLook (fun s => memS x s && actN l v before s) w = setLook (fun s => memS (q :: x) s && actN l v before s) w := fun ha => by
        rintro _ ⟨s, rfl⟩
        rw [setLook_str, setLook_str, hput, ha, Bool.and_false, Bool.or_false]
      conv => whnf
      refine ⟨_, by rw [lckLook_str, hf]; rfl, ?_⟩
      conv => whnf
      repeat (any_goals (first
        | (refine ⟨fun (h : (_ : Bool) = true) => ?_, fun (h : (_ : Bool) = false) => ?_⟩ <;> (try simp only [decide_eq_true_eq, decide_eq_false_iff_not, Bool.not_eq_true', Bool.not_eq_false', Int.toNat_natCast, beq_iff_eq, decide_eq_decide, beq_eq_false_iff_ne, ne_eq, reduceCtorEq] at h) <;> (conv => whnf))
        | (refine .inl ⟨_, ac_eval_Eval v k.cond hv, ?_⟩; conv => whnf)
        | (refine And.intro (by (try simp only [Int.toNat_natCast]); omega) ?_; conv => whnf)
        | (refine And.intro (show (_ : Bool) = true from by kernel_rfl) ?_; conv => whnf)
        | (refine .inl ⟨wrap64 (by omega), ?_⟩; conv => whnf)))
      · rename_i h1
        have e1 := of_decide_eq_true ((val_eq _ (truV true)).symm.trans h)
        have hA : actN l v before q = true := by rw [hact, show truE v k.cond = true from by unfold truE; rw [h1, e1]; rfl]; rfl
        refine ⟨q :: x, [], hJ, by simp only [List.length_cons]; omega, ?_⟩
        (repeat' (first | exact PSub.rfl | exact rfl | exact PSubs.rfl | exact trivial | exact PSub.lit_sb rfl | refine And.intro ?_ ?_))
        all_goals first | exact hyes hA | (intro _ _; rfl)
      · rename_i h1
        have e1 := of_decide_eq_false ((val_eq _ (truV true)).symm.trans h)
        have ht : truE v k.cond = false := by unfold truE; rw [h1, decide_eq_false e1]; rfl
        have hu : unkE v k.cond = false := by unfold unkE; rw [h1]; rfl
        refine ⟨fun p hp => ?_, fun hp => ?_⟩
        · rw [setLook_str] at hp
          by_cases hm : memS before q = true
          · rw [if_pos hm] at hp
            cases hp
            conv => whnf
            repeat (any_goals (first
              | (refine ⟨fun (h : (_ : Bool) = true) => ?_, fun (h : (_ : Bool) = false) => ?_⟩ <;> (try simp only [decide_eq_true_eq, decide_eq_false_iff_not, Bool.not_eq_true', Bool.not_eq_false', Int.toNat_natCast, beq_iff_eq, decide_eq_decide, beq_eq_false_iff_ne, ne_eq, reduceCtorEq] at h) <;> (conv => whnf))
              | (refine And.intro (by (try simp only [Int.toNat_natCast]); omega) ?_; conv => whnf)
              | (refine And.intro (show (_ : Bool) = true from by kernel_rfl) ?_; conv => whnf)
              | (refine .inl ⟨wrap64 (by omega), ?_⟩; conv => whnf)))
            · have hA : actN l v before q = true := by rw [hact, ht, hm, h]; rfl
              refine ⟨q :: x, [], hJ, by simp only [List.length_cons]; omega, ?_⟩
              (repeat' (first | exact PSub.rfl | exact rfl | exact PSubs.rfl | exact trivial | exact PSub.lit_sb rfl | refine And.intro ?_ ?_))
              all_goals first | exact hyes hA | (intro _ _; rfl)
            · rw [h1] at h; cases h
            · rename_i h2
              have hA : actN l v before q = false := by rw [hact, ht, hm, h2, hu]; rfl
              refine ⟨q :: x, [], hJ, by simp only [List.length_cons]; omega, ?_⟩
              (repeat' (first | exact PSub.rfl | exact rfl | exact PSubs.rfl | exact trivial | exact PSub.lit_sb rfl | refine And.intro ?_ ?_))
              all_goals first | exact hnot hA | (intro _ _; rfl)
          · rw [if_neg hm] at hp; cases hp
        · rw [setLook_str] at hp
          have hm : memS before q = false := by
            cases hm : memS before q with
            | false => rfl
            | true => rw [if_pos hm] at hp; cases hp
          have hA : actN l v before q = false := by rw [hact, ht, hm]; rfl
          conv => whnf
          repeat (any_goals (first
            | (refine ⟨fun (h : (_ : Bool) = true) => ?_, fun (h : (_ : Bool) = false) => ?_⟩ <;> (try simp only [decide_eq_true_eq, decide_eq_false_iff_not, Bool.not_eq_true', Bool.not_eq_false', Int.toNat_natCast, beq_iff_eq, decide_eq_decide, beq_eq_false_iff_ne, ne_eq, reduceCtorEq] at h) <;> (conv => whnf))
            | (refine And.intro (by (try simp only [Int.toNat_natCast]); omega) ?_; conv => whnf)
            | (refine And.intro (show (_ : Bool) = true from by kernel_rfl) ?_; conv => whnf)
            | (refine .inl ⟨wrap64 (by omega), ?_⟩; conv => whnf)))
          refine ⟨q :: x, [], hJ, by simp only [List.length_cons]; omega, ?_⟩
          (repeat' (first | exact PSub.rfl | exact rfl | exact PSubs.rfl | exact trivial | exact PSub.lit_sb rfl | refine And.intro ?_ ?_))
          all_goals first | exact hnot hA | (intro _ _; rfl)
      · have ht : truE v k.cond = false := by unfold truE; rw [h]; rfl
        have hu : unkE v k.cond = true := by unfold unkE; rw [h]; rfl
        have h0 := h
        refine ⟨fun p hp => ?_, fun hp => ?_⟩
        · rw [setLook_str] at hp
          by_cases hm : memS before q = true
          · rw [if_pos hm] at hp
            cases hp
            have hA : actN l v before q = true := by rw [hact, ht, hm, hu]; simp
            conv => whnf
            repeat (any_goals (first
              | (refine ⟨fun (h : (_ : Bool) = true) => ?_, fun (h : (_ : Bool) = false) => ?_⟩ <;> (try simp only [decide_eq_true_eq, decide_eq_false_iff_not, Bool.not_eq_true', Bool.not_eq_false', Int.toNat_natCast, beq_iff_eq, decide_eq_decide, beq_eq_false_iff_ne, ne_eq, reduceCtorEq] at h) <;> (conv => whnf))
              | (refine And.intro (by (try simp only [Int.toNat_natCast]); omega) ?_; conv => whnf)
              | (refine And.intro (show (_ : Bool) = true from by kernel_rfl) ?_; conv => whnf)
              | (refine .inl ⟨wrap64 (by omega), ?_⟩; conv => whnf)))
            all_goals (refine ⟨q :: x, [], hJ, by simp only [List.length_cons]; omega, ?_⟩)
            all_goals (repeat' (first | exact PSub.rfl | exact rfl | exact PSubs.rfl | exact trivial | refine And.intro ?_ ?_))
            all_goals first | exact hyes hA | (intro _ _; rfl) | (exfalso; rw [h0] at h; cases h; done)
          · rw [if_neg hm] at hp; cases hp
        · rw [setLook_str] at hp
          have hm : memS before q = false := by
            cases hm : memS before q with
            | false => rfl
            | true => rw [if_pos hm] at hp; cases hp
          have hA : actN l v before q = false := by rw [hact, ht, hm]; rfl
          conv => whnf
          repeat (any_goals (first
            | (refine ⟨fun (h : (_ : Bool) = true) => ?_, fun (h : (_ : Bool) = false) => ?_⟩ <;> (try simp only [decide_eq_true_eq, decide_eq_false_iff_not, Bool.not_eq_true', Bool.not_eq_false', Int.toNat_natCast, beq_iff_eq, decide_eq_decide, beq_eq_false_iff_ne, ne_eq, reduceCtorEq] at h) <;> (conv => whnf))
            | (refine And.intro (by (try simp only [Int.toNat_natCast]); omega) ?_; conv => whnf)
            | (refine And.intro (show (_ : Bool) = true from by kernel_rfl) ?_; conv => whnf)
            | (refine .inl ⟨wrap64 (by omega), ?_⟩; conv => whnf)))
          refine ⟨q :: x, [], hJ, by simp only [List.length_cons]; omega, ?_⟩
          (repeat' (first | exact PSub.rfl | exact rfl | exact PSubs.rfl | exact trivial | exact PSub.lit_sb rfl | refine And.intro ?_ ?_))
          all_goals first | exact hnot hA | (intro _ _; rfl)
  · have hp : ∀ s, (memS x s && actN l v before s) = true ↔ s ∈ (l.map Lck.name).filter (actN l v before) := fun s => by
      rw [List.mem_filter, Bool.and_eq_true, memS_iff]
      refine ⟨fun h => ⟨hx s h.1, h.2⟩, fun h => ⟨?_, h.2⟩⟩
      cases hf : fstL l s with
      | none =>
        have := fstL_isSome.2 h.1
        rw [hf] at this; cases this
      | some k =>
        have h2 := hall (.string s) (.agg (cLck k)) (str_has s) (by rw [lckLook_str, hf]; rfl)
        obtain ⟨r, hr, e2⟩ := List.mem_map.1 h2
        rw [← Value.string.inj e2]; exact hr
    have hlf := List.length_filter_le (actN l v before) (l.map Lck.name)
    rw [List.length_map] at hlf
    conv => whnf
    repeat (any_goals (first
      | (refine ⟨fun (h : (_ : Bool) = true) => ?_, fun (h : (_ : Bool) = false) => ?_⟩ <;> (try simp only [decide_eq_true_eq, decide_eq_false_iff_not, Bool.not_eq_true', Bool.not_eq_false', Int.toNat_natCast, beq_iff_eq, decide_eq_decide, beq_eq_false_iff_ne, ne_eq, reduceCtorEq] at h) <;> (conv => whnf))
      | (refine .inl ⟨_, ac_interlock_ascending _ ((l.map Lck.name).filter (actN l v before)) hp (by omega), ?_⟩; conv => whnf)
      | (refine And.intro (by (try simp only [Int.toNat_natCast]); omega) ?_; conv => whnf)
      | (refine And.intro (show (_ : Bool) = true from by kernel_rfl) ?_; conv => whnf)
      | (refine .inl ⟨wrap64 (by omega), ?_⟩; conv => whnf)))
    exact .rfl
end Go.Abs

namespace Go.Abs
open Go.Proofs
set_option maxRecDepth 10000
def leftR (l : List Lck) (active : List ByteArray) (name : ByteArray) (k : Nat) (s : ByteArray) : Bool := memS active s && !decide (s = name) && !(memS (active.take k) s && !(fstL l s).isSome)
set_option maxHeartbeats 1000000 in
theorem ac_interlock_Reset (l : List Lck) (v : Vw) (active : List ByteArray) (name : ByteArray) (hl : goodLcks l) (hv : smallV2 v) (ha : smallL active) : AC Tryz.prog 20 [.pv (roL 16 cLck l), .pv (.agg (cVw v)), .pv (roL 1 cstr active), .pv (vstr name)] []
    (.pv (.tup [roL 1 cstr (resetL l v active name), vint (resetE l v active name)])) [] := by
  have hl2 : l.length ≤ 1048576 := hl.1
  have ha2 : active.length ≤ 1048576 := ha
  have hbad : ∀ e, resetE l v active name = e → e ≠ 0 → resetL l v active name = [] := fun e h1 h2 => by unfold resetL; rw [if_neg (by rw [h1]; exact h2)]
  refine AC.of_awp (T := T) T_ok hm Tryz.call20 Tryz.func20 rfl rfl rfl ?_
  conv => whnf
  repeat (any_goals (first
    | (refine ⟨fun (h : (_ : Bool) = true) => ?_, fun (h : (_ : Bool) = false) => ?_⟩ <;> (try simp only [decide_eq_true_eq, decide_eq_false_iff_not, Bool.not_eq_true', Bool.not_eq_false', Int.toNat_natCast, beq_iff_eq, decide_eq_decide, beq_eq_false_iff_ne, ne_eq, reduceCtorEq] at h) <;> (conv => whnf))
    | (refine .inl ⟨_, ac_interlock_known l hl.1, ?_⟩; conv => whnf)
    | (refine .inr (.inr (.inr (.inr ⟨[], [(1, 700)], _, _, _, ac_interlock_set active ha, rfl, ?_⟩))); conv => whnf)
    | (refine And.intro (by (try simp only [Int.toNat_natCast]); omega) ?_; conv => whnf)
    | (refine And.intro (show (_ : Bool) = true from by kernel_rfl) ?_; conv => whnf)
    | (refine .inl ⟨wrap64 (by omega), ?_⟩; conv => whnf)))
  refine ⟨fun p hp => ?_, fun hp => ?_⟩
  · rw [lckLook_str] at hp
    cases hf : fstL l name with
    | none => rw [hf] at hp; cases hp
    | some k0 =>
      rw [hf] at hp
      cases hp
      have he : resetE l v active name = if memS active name = false ∨ k0.latch = false ∨ (evlE v k0.cond).2 = false ∨ (evlE v k0.cond).1 = truV true then 15 else 0 := by
        unfold resetE; rw [hf]
      have fin15 : (memS active name = false ∨ k0.latch = false ∨ (evlE v k0.cond).2 = false ∨ (evlE v k0.cond).1 = truV true) → resetE l v active name = 15 ∧ resetL l v active name = [] := fun h => by
        have e15 : resetE l v active name = 15 := by rw [he, if_pos h]
        exact ⟨e15, hbad 15 e15 (by decide)⟩
      conv => whnf
      repeat (any_goals (first
        | (refine ⟨fun (h : (_ : Bool) = true) => ?_, fun (h : (_ : Bool) = false) => ?_⟩ <;> (try simp only [decide_eq_true_eq, decide_eq_false_iff_not, Bool.not_eq_true', Bool.not_eq_false', Int.toNat_natCast, beq_iff_eq, decide_eq_decide, beq_eq_false_iff_ne, ne_eq, reduceCtorEq] at h) <;> (conv => whnf))
        | (refine .inl ⟨_, ac_eval_Eval v k0.cond hv, ?_⟩; conv => whnf)
        | (refine And.intro (by (try simp only [Int.toNat_natCast]); omega) ?_; conv => whnf)
        | (refine And.intro (show (_ : Bool) = true from by kernel_rfl) ?_; conv => whnf)
        | (refine .inl ⟨wrap64 (by omega), ?_⟩; conv => whnf)))
      refine ⟨fun p hp => ?_, fun hp => ?_⟩
      · rw [setLook_str] at hp
        by_cases hm : memS active name = true
        · rw [if_pos hm] at hp
          cases hp
          conv => whnf
          repeat (any_goals (first
            | (refine ⟨fun (h : (_ : Bool) = true) => ?_, fun (h : (_ : Bool) = false) => ?_⟩ <;> (try simp only [decide_eq_true_eq, decide_eq_false_iff_not, Bool.not_eq_true', Bool.not_eq_false', Int.toNat_natCast, beq_iff_eq, decide_eq_decide, beq_eq_false_iff_ne, ne_eq, reduceCtorEq] at h) <;> (conv => whnf))
            | (refine And.intro (by (try simp only [Int.toNat_natCast]); omega) ?_; conv => whnf)
            | (refine And.intro (show (_ : Bool) = true from by kernel_rfl) ?_; conv => whnf)
            | (refine .inl ⟨wrap64 (by omega), ?_⟩; conv => whnf)))
          · have h15 := fin15 (.inr (.inl h))
            rw [h15.1, h15.2]
            refine ⟨?_, ?_⟩ <;> (conv => whnf)
            · exact PSub.nilL rfl
            · exact PSub.rfl
          · have h15 := fin15 (.inr (.inr (.inl h)))
            rw [h15.1, h15.2]
            refine ⟨?_, ?_⟩ <;> (conv => whnf)
            · exact PSub.nilL rfl
            · exact PSub.rfl
          · have h15 := fin15 (.inr (.inr (.inr (of_decide_eq_true ((val_eq _ (truV true)).symm.trans h)))))
            rw [h15.1, h15.2]
            refine ⟨?_, ?_⟩ <;> (conv => whnf)
            · exact PSub.nilL rfl
            · exact PSub.rfl
          · rename_i h1 h2 h3
            have e1 := of_decide_eq_false ((val_eq _ (truV true)).symm.trans h)
            have e0 : resetE l v active name = 0 := by
              rw [he, if_neg]
              rintro (g | g | g | g)
              · rw [hm] at g; cases g
              · rw [h2] at g; cases g
              · rw [h3] at g; cases g
              · exact e1 g
            rw [show resetL l v active name = restL l active name from if_pos e0, e0]
            clear h h1 h2 h3 e0 he hbad fin15 e1
            refine loop_k (ι := Nat) [10, 11, 59, 60] [] (fun k => k ≤ active.length ∧ True) (fun k => active.length - k) 0 (fun k => [(61, .pv (vint k))]) (fun k => [(700, .map (.one .str) (setLook (leftR l active name k)))]) [] ⟨Nat.zero_le _, trivial⟩ ?_ (fun k hk => ?_)
            · (repeat' (first | exact PSub.rfl | exact rfl | exact PSubs.rfl | exact trivial | exact PSub.lit_sb rfl | refine And.intro ?_ ?_)); all_goals (exact setLook_del fun s => by unfold leftR; rw [show active.take 0 = [] from rfl, show memS [] s = false from rfl, Bool.false_and, Bool.not_false, Bool.and_true])
            obtain ⟨hkn, hinv⟩ := hk
            conv => whnf
            repeat (any_goals (first
              | (refine ⟨fun (h : (_ : Bool) = true) => ?_, fun (h : (_ : Bool) = false) => ?_⟩ <;> (try simp only [decide_eq_true_eq, decide_eq_false_iff_not, Bool.not_eq_true', Bool.not_eq_false', Int.toNat_natCast, beq_iff_eq, decide_eq_decide, beq_eq_false_iff_ne, ne_eq, reduceCtorEq] at h) <;> (conv => whnf))
              | (refine And.intro (by (try simp only [Int.toNat_natCast]); omega) ?_; conv => whnf)
              | (refine And.intro (show (_ : Bool) = true from by kernel_rfl) ?_; conv => whnf)
              | (refine .inl ⟨wrap64 (by omega), ?_⟩; conv => whnf)))
            · have hk : k < active.length := by omega
              have htk := memS_take active k hk
              refine ⟨fun p hp => ?_, fun hp => ?_⟩
              · have hp2 : lckLook (fstL l) (.string (active.getD k default)) = some p := hp
                rw [lckLook_str] at hp2
                cases hf2 : fstL l (active.getD k default) with
                | none => rw [hf2] at hp2; cases hp2
                | some k2 =>
                  rw [hf2] at hp2
                  cases hp2
                  conv => whnf
                  repeat (any_goals (first
                    | (refine ⟨fun (h : (_ : Bool) = true) => ?_, fun (h : (_ : Bool) = false) => ?_⟩ <;> (try simp only [decide_eq_true_eq, decide_eq_false_iff_not, Bool.not_eq_true', Bool.not_eq_false', Int.toNat_natCast, beq_iff_eq, decide_eq_decide, beq_eq_false_iff_ne, ne_eq, reduceCtorEq] at h) <;> (conv => whnf))
                    | (refine And.intro (by (try simp only [Int.toNat_natCast]); omega) ?_; conv => whnf)
                    | (refine And.intro (show (_ : Bool) = true from by kernel_rfl) ?_; conv => whnf)
                    | (refine .inl ⟨wrap64 (by omega), ?_⟩; conv => whnf)))
                  refine ⟨k + 1, [], ⟨by omega, trivial⟩, by omega, ?_⟩
                  have hsame : ∀ s, leftR l active name k s = leftR l active name (k + 1) s := fun s => by
                    unfold leftR
                    rw [htk]
                    by_cases e : s = active.getD k default
                    · subst e
                      rw [hf2]; simp
                    · rw [decide_eq_false e, Bool.or_false]
                  (repeat' (first | exact PSub.rfl | exact rfl | exact PSubs.rfl | exact trivial | exact PSub.lit_sb rfl | refine And.intro ?_ ?_))
                  rintro _ ⟨s, rfl⟩
                  rw [setLook_str, setLook_str, hsame]
              · have hp2 : lckLook (fstL l) (.string (active.getD k default)) = none := hp
                rw [lckLook_str] at hp2
                have hf2 : fstL l (active.getD k default) = none := by
                  cases hf2 : fstL l (active.getD k default) with
                  | none => rfl
                  | some k2 => rw [hf2] at hp2; cases hp2
                conv => whnf
                repeat (any_goals (first
                  | (refine ⟨fun (h : (_ : Bool) = true) => ?_, fun (h : (_ : Bool) = false) => ?_⟩ <;> (try simp only [decide_eq_true_eq, decide_eq_false_iff_not, Bool.not_eq_true', Bool.not_eq_false', Int.toNat_natCast, beq_iff_eq, decide_eq_decide, beq_eq_false_iff_ne, ne_eq, reduceCtorEq] at h) <;> (conv => whnf))
                  | (refine And.intro (by (try simp only [Int.toNat_natCast]); omega) ?_; conv => whnf)
                  | (refine And.intro (show (_ : Bool) = true from by kernel_rfl) ?_; conv => whnf)
                  | (refine .inl ⟨wrap64 (by omega), ?_⟩; conv => whnf)))
                refine ⟨k + 1, [], ⟨by omega, trivial⟩, by omega, ?_⟩
                (repeat' (first | exact PSub.rfl | exact rfl | exact PSubs.rfl | exact trivial | exact PSub.lit_sb rfl | refine And.intro ?_ ?_))
                refine setLook_del fun s => ?_
                show leftR l active name (k + 1) s = (leftR l active name k s && !decide (s = active.getD k default))
                unfold leftR
                rw [htk]
                by_cases e : s = active.getD k default
                · subst e
                  rw [hf2]; simp
                · rw [decide_eq_false e]; simp
            · have hp : ∀ s, leftR l active name k s = true ↔ s ∈ active.filter fun n => decide (n ≠ name) && (fstL l n).isSome := fun s => by
                unfold leftR
                rw [List.take_of_length_le (by omega), List.mem_filter, ← memS_iff]
                cases memS active s <;> cases (fstL l s).isSome <;> simp
              have hlf := List.length_filter_le (fun n => decide (n ≠ name) && (fstL l n).isSome) active
              repeat (any_goals (first
                | (refine ⟨fun (h : (_ : Bool) = true) => ?_, fun (h : (_ : Bool) = false) => ?_⟩ <;> (try simp only [decide_eq_true_eq, decide_eq_false_iff_not, Bool.not_eq_true', Bool.not_eq_false', Int.toNat_natCast, beq_iff_eq, decide_eq_decide, beq_eq_false_iff_ne, ne_eq, reduceCtorEq] at h) <;> (conv => whnf))
                | (refine .inl ⟨_, ac_interlock_ascending (leftR l active name k) _ hp (by omega), ?_⟩; conv => whnf)
                | (refine And.intro (by (try simp only [Int.toNat_natCast]); omega) ?_; conv => whnf)
                | (refine And.intro (show (_ : Bool) = true from by kernel_rfl) ?_; conv => whnf)
                | (refine .inl ⟨wrap64 (by omega), ?_⟩; conv => whnf)))
              refine ⟨?_, ?_⟩ <;> (conv => whnf)
              · exact .rfl
              · exact PSub.rfl
        · rw [if_neg hm] at hp; cases hp
      · rw [setLook_str] at hp
        have hm : memS active name = false := by
          cases hm : memS active name with
          | false => rfl
          | true => rw [if_pos hm] at hp; cases hp
        have h15 := fin15 (.inl hm)
        rw [h15.1, h15.2]
        conv => whnf
        repeat (any_goals (first
          | (refine ⟨fun (h : (_ : Bool) = true) => ?_, fun (h : (_ : Bool) = false) => ?_⟩ <;> (try simp only [decide_eq_true_eq, decide_eq_false_iff_not, Bool.not_eq_true', Bool.not_eq_false', Int.toNat_natCast, beq_iff_eq, decide_eq_decide, beq_eq_false_iff_ne, ne_eq, reduceCtorEq] at h) <;> (conv => whnf))
          | (refine And.intro (by (try simp only [Int.toNat_natCast]); omega) ?_; conv => whnf)
          | (refine And.intro (show (_ : Bool) = true from by kernel_rfl) ?_; conv => whnf)
          | (refine .inl ⟨wrap64 (by omega), ?_⟩; conv => whnf)))
        refine ⟨?_, ?_⟩ <;> (conv => whnf)
        · exact PSub.nilL rfl
        · exact PSub.rfl
  · rw [lckLook_str] at hp
    have hf : fstL l name = none := by
      cases hf : fstL l name with
      | none => rfl
      | some k => rw [hf] at hp; cases hp
    have he : resetE l v active name = 8 := by unfold resetE; rw [hf]
    rw [hbad 8 he (by decide), he]
    conv => whnf
    repeat (any_goals (first
      | (refine ⟨fun (h : (_ : Bool) = true) => ?_, fun (h : (_ : Bool) = false) => ?_⟩ <;> (try simp only [decide_eq_true_eq, decide_eq_false_iff_not, Bool.not_eq_true', Bool.not_eq_false', Int.toNat_natCast, beq_iff_eq, decide_eq_decide, beq_eq_false_iff_ne, ne_eq, reduceCtorEq] at h) <;> (conv => whnf))
      | (refine And.intro (by (try simp only [Int.toNat_natCast]); omega) ?_; conv => whnf)
      | (refine And.intro (show (_ : Bool) = true from by kernel_rfl) ?_; conv => whnf)
      | (refine .inl ⟨wrap64 (by omega), ?_⟩; conv => whnf)))
    refine ⟨?_, ?_⟩ <;> (conv => whnf)
    · exact PSub.nilL rfl
    · exact PSub.rfl
end Go.Abs

namespace Go.Abs
open Go.RowKit Go.Shelf Go.Lib
variable [Globals]
section
variable {P : Program} {ρ : Ren}
theorem AC.grow (L : Proofs.Lays8.n4 P ρ) {t : TypeId} {i : TypeInfo} {z : Value} (hE : ElemOf P t (ρ.t 25) i z) (n : Nat) (hbig : n * i.bytes ≤ 140737488355328) (h63 : n ≤ 8388608) (f : Nat → List PV)
    (hcall : ∀ (vals : Array Value) (w : World), (callFunc (ρ.f 4) vals).run P w = .ok (.enter (ρ.f 4) vals) w) :
    AC P (ρ.f 4) [.pv (.val (.slice none 0 0)), .pv (.val (.int .i64 n))] [] (.own 0) [(0, .row i.size 0 f)] := by
  refine ⟨hcall, fun St M0 σ w vals hi hσ hos hsz hA => ?_⟩
  have hv0 := pr_val (arg_pv (hA 0 _ rfl))
  have hv1 := pr_val (arg_pv (hA 1 _ rfl))
  have hvals : vals = #[vals.getD 0 undef, vals.getD 1 undef] := by
    have hs2 : vals.size = 2 := hsz
    apply Array.ext
    · simpa using hs2
    · intro i h2 h3
      have : i = 0 ∨ i = 1 := by omega
      rcases this with rfl | rfl <;> simp [Array.getD, hs2]
  rw [hvals, hv0, hv1]
  have hf0 : σ 0 = none := hσ 0 rfl
  by_cases h0 : n = 0
  · subst h0
    refine (Proofs.Any8.slices_Grow_room L none 0 0 0 w (Nat.le_refl _) (by decide) (by decide) (Nat.le_refl _)).mono (fun e w' h => ?_)
    obtain ⟨rfl, rfl⟩ := h
    exact ⟨_, _, rfl, Post.made (loc := ⟨.slice none 0 0, none⟩) hi hf0 (fun b h => by cases h) (FExt.refl _ _) (by intro h; cases h) (.row0 _ _ _)⟩
  · refine (Proofs.Any8.slices_Grow_grow L i z hE.hi hE.hz hE.pos none 0 0 n [] w (Nat.le_refl _) (by omega) (by simpa using hbig) (by omega) (by simp) (fun _ => rfl) (fun a h => by cases h)).mono (fun e w' h => ?_)
    obtain ⟨rfl, rfl⟩ := h
    have hge := grownCap_ge w (0 + n) 0 (ρ.t 25)
    have hle := grownCap_le_maxLen w (0 + n) 0 (ρ.t 25) (by unfold maxLen; omega)
    generalize grownCap w (0 + n) 0 (ρ.t 25) = c at *
    refine ⟨_, _, rfl, Post.made (loc := ⟨.slice (some ⟨w.heap.size, 0, none⟩) 0 c, some w.heap.size⟩) hi hf0 (fun b h => by cases h; exact Nat.le_refl _)
      ⟨rfl, rfl, rfl, (same_alloc (fun _ => False) w.drew _).1, fun b hlt _ => alloc_old w.drew _ b hlt, Nat.le_succ _⟩ (by intro h; cases h)
      (.row i.size 0 f w.heap.size c _ (ρ.t 25) (alloc_new w.drew _) (Nat.zero_le _) hle ?_ (fun k h => absurd h (by omega)) (fun k h => absurd h (by omega)) (fun k hk => ?_))⟩
    · rw [Array.size_append, Array.size_append, size_zeroCells, size_zeroCells, hE.zs, List.size_toArray, List.length_nil, Nat.zero_add, ← Nat.add_mul]
      congr 1; omega
    · have hz0 : ∀ m : Nat, (Builtin.zeroCells z.cells m).size = m * z.cells.size := fun m => size_zeroCells ..
      have e0 : (([] : List Value).toArray ++ Builtin.zeroCells z.cells (0 + n - 0)) = Builtin.zeroCells z.cells (0 + n - 0) := by simp
      rw [e0] at hk ⊢
      by_cases hlt : k < (Builtin.zeroCells z.cells (0 + n - 0)).size
      · rw [getD_append_left hlt]
        exact zeroCells_get (by rw [hz0] at hlt; exact hlt) hE.z1
      · have e1 : (Builtin.zeroCells z.cells (0 + n - 0) ++ Builtin.zeroCells z.cells (c - (0 + n))).getD k undef = (Builtin.zeroCells z.cells (c - (0 + n))).getD (k - (Builtin.zeroCells z.cells (0 + n - 0)).size) undef := by
          simp only [Array.getD_eq_getD_getElem?]
          rw [Array.getElem?_append_right (Nat.le_of_not_lt hlt)]
        rw [e1]
        rw [Array.size_append] at hk
        have q1 := hz0 (c - (0 + n))
        have q2 := hz0 (0 + n - 0)
        exact zeroCells_get (by omega) hE.z1
end
end Go.Abs

namespace Go.Abs
open Go.Proofs
set_option maxRecDepth 10000
theorem ac_r28_Lit (v : Val) : AC Tryz.prog 58 [.pv (.agg (cVal v))] [] (.pv (.agg (cEx (.mk 1 0 0 ⟨#[]⟩ v noKey [])))) [] := by
  refine AC.of_awp (T := T) T_ok hm Tryz.call58 Tryz.func58 rfl rfl rfl ?_
  conv => whnf
  repeat' (first | exact PSub.rfl | exact PSub.nil_ro _ _ | exact PSub.lit_sb rfl | exact trivial | exact all_lt_zero | refine PSub.agg ?_ | refine PSub.ro rfl ?_ | refine all_lt_succ ?_ ?_ | refine And.intro ?_ ?_)
theorem ac_r28_Flag (b : Bool) : AC Tryz.prog 34 [.pv (vbool b)] [] (.pv (.agg (cEx (.mk 1 0 0 ⟨#[]⟩ ⟨1, if b = true then 1 else 0, ⟨#[]⟩⟩ noKey [])))) [] := by
  refine AC.of_awp (T := T) T_ok hm Tryz.call34 Tryz.func34 rfl rfl rfl ?_
  conv => whnf
  repeat (any_goals (first
    | (refine ⟨fun (h : (_ : Bool) = true) => ?_, fun (h : (_ : Bool) = false) => ?_⟩ <;> (try simp only [decide_eq_true_eq, decide_eq_false_iff_not, Bool.not_eq_true', Bool.not_eq_false', Int.toNat_natCast, beq_iff_eq, decide_eq_decide, beq_eq_false_iff_ne, ne_eq, reduceCtorEq] at h) <;> (conv => whnf))
    | (refine .inl ⟨_, ac_r28_Lit ⟨1, 1, ⟨#[]⟩⟩, ?_⟩; conv => whnf)
    | (refine .inl ⟨_, ac_r28_Lit ⟨1, 0, ⟨#[]⟩⟩, ?_⟩; conv => whnf)
    | (refine And.intro (by (try simp only [Int.toNat_natCast]); omega) ?_; conv => whnf)
    | (refine And.intro (show (_ : Bool) = true from by kernel_rfl) ?_; conv => whnf)
    | (refine .inl ⟨wrap64 (by omega), ?_⟩; conv => whnf)))
  · subst h
    rw [if_pos rfl]
    exact PSub.rfl
  · subst h
    rw [if_neg (by decide)]
    exact PSub.rfl
end Go.Abs

namespace Go.Abs
open Go.RowKit
variable [Globals]
def opSI (P : Program) (T : Tab) (nt : Nat) (o : Oper) (s : AState) (K : AState → Prop) : Prop :=
  match s with
  | ⟨tm, ob⟩ => match o with
    | ⟨none, op, ty, pos, after, guard⟩ => aopcN P T ⟨none, op, ty, pos, after, guard⟩ 0 (evO tm) (getO ob) fun v u => iceB op v u fun v u => nextS nt none ⟨tm, ob⟩ v u K
    | ⟨some d, op, ty, pos, after, guard⟩ => aopcN P T ⟨some d, op, ty, pos, after, guard⟩ d (evO tm) (getO ob) fun v u => iceB op v u fun v u => nextS nt (some d) ⟨tm, ob⟩ v u K
def arunI (P : Program) (T : Tab) (nt : Nat) (ops : List Oper) : List Oper → AState → (AState → Prop) → Prop
  | [], s, K => K s
  | o :: r, s, K => guardK ops o.guard s fun b s => match b with
    | true => opSI P T nt o s fun s => arunI P T nt ops r s K
    | false => nextS nt o.dst s skipV [] fun s => arunI P T nt ops r s K
section
variable {P : Program} {T : Tab} {E : FEnv}
theorem opSI_sound (hE : E.ok) (hT : T.ok P) {o : Oper} {s : AState} {K : AState → Prop} {σ : Sig} {a : Act} {w : World} {Q : Exit → Act → World → Prop} (hR : Rel P E s σ a w) (h : opSI P T E.nt o s K) :
    o.wp P a w (fun a' w' => ∃ s' σ', K s' ∧ Rel P E s' σ' a' w') Q := by
  obtain ⟨tm, ob⟩ := s
  have h2 : aopcN P T o (idOf o.dst) (evO tm) (getO ob) fun v u => iceB o.op v u fun v u => nextS E.nt o.dst ⟨tm, ob⟩ v u K := by
    obtain ⟨d, op, ty, pos, after, guard⟩ := o
    cases d <;> exact h
  have hi := hR.inv hE
  have wrap : ∀ (v : AV) (u : Upd), nextS E.nt o.dst ⟨tm, ob⟩ v u K → K ⟨putT tm o.dst v, u ++ ob⟩ ∧ ∀ t, o.dst = some t → t < E.nt := by
    intro v u hK
    refine ⟨?_, fun t ht => ?_⟩
    · cases hd' : o.dst with
      | none =>
        rw [hd'] at hK
        unfold nextS at hK
        simp only at hK
        match u, hK with
        | [], hK => exact hK
        | [x], hK => exact hK
        | x :: y :: r, hK => exact hK
      | some t =>
        rw [hd'] at hK
        unfold nextS at hK
        have hK := (chk_true hK).2
        match u, hK with
        | [], hK => exact hK
        | [x], hK => exact hK
        | x :: y :: r, hK => exact hK
    · rw [ht] at hK
      unfold nextS at hK
      exact Nat.le_of_ble_eq_true (chk_true hK).1
  obtain ⟨v0, u0, hK0, hS0⟩ := aopcN_sound hT h2
  obtain ⟨v, u, hK, hS⟩ := iceB_sound hK0 hS0
  have hnear : ∀ k, near o (evO tm) (getO ob) k → getO ob k ≠ none := by
    rintro k (⟨x, hx, hk⟩ | ⟨x, hx, l, hl, obj, hob, hk⟩ | ⟨x, hx, m, hm, obj', hob', l, hl, obj, hob, hk⟩)
    · exact evO_refs hR x k hk
    · exact hR.wo l obj hob k hk
    · exact hR.wo l obj hob k hk
  obtain ⟨hK', hd⟩ := wrap v u hK
  refine (hS.runs E.St E.M0 σ w a.eval hi (fun x _ => evO_rel hE hR x) (fun k _ obj e => hR.ob k obj e) hnear (fun l _ h1 => hR.nob l h1)).wp (fun v' w' ⟨σ', hp⟩ => ?_)
  refine ⟨_, σ', hK', RelF.post (tmf' := getT (putT tm o.dst v)) (obf' := getO (u ++ ob)) hE hR hp hd (fun l obj e => (hS.lv l obj e).2) (fun l hl => (hS.rv l hl).imp (hnear l) id) (fun i obj e l hl => (hS.ro i obj e l hl).imp (hnear l) id) (fun t => ?_) (fun l => ?_)⟩
  · cases hd' : o.dst with
    | none => exact .inr ⟨by simp, by simp [putT]⟩
    | some d =>
      simp only [putT, getT_cons, Option.some.injEq]
      by_cases e : d = t
      · exact .inl ⟨e, by rw [if_pos e]⟩
      · exact .inr ⟨fun h => e (Option.some.inj h), by rw [if_neg e]⟩
  · simp only [getO_append]
    cases e : getO u l with
    | none => exact .inr ⟨rfl, rfl⟩
    | some x => exact .inl ⟨x, rfl, rfl⟩
theorem arunI_sound (hE : E.ok) (hT : T.ok P) {ops : Array Oper} {K : AState → Prop} {Q : Exit → Act → World → Prop} (hQ : ∀ s σ a w, K s → Rel P E s σ a w → Q .normal a w) :
    ∀ (l : List Oper) (i : Nat) (s : AState) (σ : Sig) (a : Act) (w : World), (∀ j, l[j]? = ops[i + j]?) → Rel P E s σ a w → arunI P T E.nt ops.toList l s K → wpOps P ops Q (List.range' i l.length) a w
  | [], i, s, σ, a, w, _, hR, h => by simpa [wpOps] using hQ s σ a w h hR
  | o :: l, i, s, σ, a, w, hl, hR, h => by
    have ho : ops[i]? = some o := by simpa using (hl 0).symm
    have hl' : ∀ j, l[j]? = ops[i + 1 + j]? := fun j => by have := hl (j + 1); simpa [Nat.add_assoc, Nat.add_comm 1 j] using this
    simp only [List.length_cons, List.range'_succ, wpOps, ho]
    unfold arunI at h
    obtain ⟨s', hK, hR'⟩ := guardK_sound (ops := ops) hR h
    cases hw : Region.wanted o (yielded ops a.tmps) with
    | true =>
      rw [hw] at hK
      simp only [if_true]
      exact .inl (Oper.wp_mono (fun a' w' ⟨s2, σ2, hs2, hR2⟩ => arunI_sound hE hT hQ l (i + 1) s2 σ2 a' w' hl' hR2 hs2) (opSI_sound hE hT hR' hK))
    | false =>
      rw [hw] at hK
      simp only [Bool.false_eq_true, if_false]
      obtain ⟨tm, ob⟩ := s'
      have hd : ∀ t, o.dst = some t → t < E.nt := by
        intro t ht
        simp only [ht] at hK
        unfold nextS at hK
        exact Nat.le_of_ble_eq_true (chk_true hK).1
      have h2 := hR'.skip o.dst hd
      refine arunI_sound hE hT hQ l (i + 1) _ σ _ w hl' h2 ?_
      cases hd' : o.dst with
      | none => rw [hd'] at hK; exact hK
      | some t => rw [hd'] at hK; exact (chk_true hK).2
end
def awpI (P : Program) (T : Tab) (nt : Nat) : Code → AState → (AExit → AState → Prop) → Prop
  | .skip, s, Q => Q .normal s
  | .region _ ops false, s, Q => arunI P T nt ops.toList ops.toList s (Q .normal)
  | .region _ ops true, s, Q => drawOk ops.toList = true ∧ arunD P T nt ops.toList ops.toList s [] (fun s log => logOk ops.toList log = true ∧ Q .normal s)
  | .seq x y, s, Q => awpI P T nt x s (thenK (fun s => awpI P T nt y s Q) Q)
  | .cond c x y, s, Q => match s with
    | ⟨tm, ob⟩ => match evO tm c with
      | .pv (.val (.bool b)) => (match b with | true => awpI P T nt x ⟨tm, ob⟩ Q | false => awpI P T nt y ⟨tm, ob⟩ Q)
      | .pv (.sb b) => (b = true → awpI P T nt x ⟨tm, ob⟩ Q) ∧ (b = false → awpI P T nt y ⟨tm, ob⟩ Q)
      | _ => False
  | .block id c, s, Q => awpI P T nt c s (blockK id Q)
  | .loop c, s, Q => ∃ (ι : Type) (J : ι → Prop) (I : ι → AState) (m : ι → Nat) (i0 : ι) (r : List (Nat × Nat)), J i0 ∧ entS r s (I i0) ∧
      ∀ i, J i → awpI P T nt c (I i) (thenK (fun s' => ∃ (j : ι) (r : List (Nat × Nat)), J j ∧ m j < m i ∧ entS r s' (I j)) Q)
  | .exit id, s, Q => Q (.exit id) s
  | .ret, s, Q => Q .ret s
  | _, _, _ => False
section
variable {P : Program} {T : Tab} {E : FEnv}
theorem awpI_sound (hE : E.ok) (hT : T.ok P) (hm : P.follows .mixedOrders = true) : ∀ (c : Code) (s : AState) (Q : AExit → AState → Prop) (σ : Sig) (a : Act) (w : World), Rel P E s σ a w → awpI P T E.nt c s Q → c.wp P (exitQ P E Q) a w
  | .skip, s, Q, σ, a, w, hR, h => wp_skip ⟨s, σ, h, hR⟩
  | .region id ops dr, s, Q, σ, a, w, hR, h => by
    cases dr with
    | false =>
      refine wp_region ?_
      have := arunI_sound hE hT (Q := exitQ P E Q) (fun s σ a w hs hR => ⟨s, σ, hs, hR⟩) ops.toList 0 s σ a w (fun j => by simp) hR h
      rw [List.range_eq_range']
      simpa using this
    | true =>
      obtain ⟨h1, h2⟩ := h
      exact wp_region_any hm (arunD_sound hE hT h1 (fun s σ a w hs hR => ⟨s, σ, hs, hR⟩) (RelF.drew hR _ (Nat.le_succ _)) h2)
  | .seq x y, s, Q, σ, a, w, hR, h => by
    refine wp_seq (wp_mono (awpI_sound hE hT hm x s _ σ a w hR h) (fun e a' w' he => ?_))
    cases e with
    | normal => obtain ⟨s', σ', hq, hR'⟩ := he; exact awpI_sound hE hT hm y s' Q σ' a' w' hR' hq
    | exit i => exact he
    | ret => exact he
    | goto l => exact he.elim
    | panic c => exact he.elim
    | outgrown => exact he.elim
  | .cond c x y, s, Q, σ, a, w, hR, h => by
    obtain ⟨tm, ob⟩ := s
    have hc := evO_rel hE hR c
    unfold awpI at h
    simp only at h
    split at h
    · rename_i b hb
      rw [show evO tm c = .pv (.val (.bool b)) from hb] at hc
      have hv := pr_val (arg_pv hc)
      refine wp_cond hv ?_
      cases b with
      | true => exact awpI_sound hE hT hm x _ Q σ a w hR h
      | false => exact awpI_sound hE hT hm y _ Q σ a w hR h
    · rename_i b hb
      rw [show evO tm c = .pv (.sb b) from hb] at hc
      have hv := pr_sb (arg_pv hc)
      refine wp_cond hv ?_
      cases b with
      | true => exact awpI_sound hE hT hm x _ Q σ a w hR (h.1 rfl)
      | false => exact awpI_sound hE hT hm y _ Q σ a w hR (h.2 rfl)
    · exact h.elim
  | .block id c, s, Q, σ, a, w, hR, h => by
    refine wp_block (wp_mono (awpI_sound hE hT hm c s _ σ a w hR h) (fun e a' w' he => ?_))
    cases e with
    | normal => exact he
    | exit i =>
      obtain ⟨s', σ', hq, hR'⟩ := he
      have hq : (match Nat.beq i id with | true => Q .normal s' | false => Q (.exit i) s') := hq
      simp only [Exit.inBlock]
      cases hb : Nat.beq i id with
      | true =>
        rw [hb] at hq
        rw [if_pos (Nat.eq_of_beq_eq_true hb)]
        exact ⟨s', σ', hq, hR'⟩
      | false =>
        rw [hb] at hq
        rw [if_neg (fun e => by rw [e] at hb; simp at hb)]
        exact ⟨s', σ', hq, hR'⟩
    | ret => exact he
    | goto l => exact he.elim
    | panic c => exact he.elim
    | outgrown => exact he.elim
  | .loop c, s, Q, σ, a, w, hR, h => by
    obtain ⟨ι, J, I, m, i0, r0, hJ, hent, hround⟩ := h
    obtain ⟨σ0, hR0⟩ := entS_sound hent E σ a w hE hR
    refine wp_loop_ix (I := fun i a w => J i ∧ ∃ σ, Rel P E (I i) σ a w) m (i0 := i0) ⟨hJ, σ0, hR0⟩ (fun i a w ⟨hj, σ, hr⟩ => ?_)
    refine wp_mono (awpI_sound hE hT hm c (I i) _ σ a w hr (hround i hj)) (fun e a' w' he => ?_)
    cases e with
    | normal =>
      obtain ⟨s', σ', ⟨j, r', hj', hlt, hent'⟩, hR'⟩ := he
      obtain ⟨σ2, hR2⟩ := entS_sound hent' E σ' a' w' hE hR'
      exact ⟨j, ⟨hj', σ2, hR2⟩, hlt⟩
    | exit i => exact he
    | ret => exact he
    | goto l => exact he.elim
    | panic c => exact he.elim
    | outgrown => exact he.elim
  | .exit id, s, Q, σ, a, w, hR, h => wp_exit ⟨s, σ, h, hR⟩
  | .ret, s, Q, σ, a, w, hR, h => wp_ret ⟨s, σ, h, hR⟩
  | .rangeFunc .., s, Q, σ, a, w, hR, h => h.elim
  | .scope _, s, Q, σ, a, w, hR, h => h.elim
  | .label _, s, Q, σ, a, w, hR, h => h.elim
  | .goto _, s, Q, σ, a, w, hR, h => h.elim
  | .refuse _, s, Q, σ, a, w, hR, h => h.elim
end
theorem AC.of_awp_ice {P : Program} {T : Tab} {f : FuncId} {fn : Func} {c : Code} {args : List AV} {res : PV} (hT : T.ok P) (hm : P.follows .mixedOrders = true) (hcall : ∀ (vals : Array Value) (w : World), (callFunc f vals).run P w = .ok (.enter f vals) w)
    (hf : P.funcs[f]? = some fn) (hb : fn.body = some c) (hn : Nat.ble args.length fn.ntmps = true) (hp : noRefs args = true) (h : awpI P T fn.ntmps c ⟨argTm 0 args, []⟩ (pureQ T fn res)) : AC P f args [] (.pv res) [] := by
  refine ⟨hcall, fun St M0 σ w vals hi hσ _ hl hA => ?_⟩
  have hσ' : σ = fun _ => none := funext fun l => hσ l rfl
  subst hσ'
  have hown : ∀ b, ¬ owned (fun _ => none) b := fun b ⟨l, loc, h, _⟩ => by cases h
  have hle := Nat.le_of_ble_eq_true hn
  have hE : FEnv.ok ⟨fn.ntmps, St, M0, fun _ => False, w, fun _ => none⟩ := ⟨fun b hb => ⟨(hi.m0 b hb).1, id⟩, fun b hb => ⟨(hi.st b hb).1, id⟩, hi.gl.mono (Same.refl _ w) (fun b _ hb => .inl (hb.elim id False.elim)), fun _ _ e => by cases e⟩
  have hget : ∀ t x, getT (argTm 0 args) t = x → x = .junk ∨ args[t]? = some x := by
    intro t x e
    rw [argTm_get, if_neg (by omega)] at e
    cases ha : args[t - 0]? with
    | none => rw [ha] at e; exact .inl e.symm
    | some y => rw [ha] at e; simp at e ha; subst e; exact .inr rfl
  have hR : Rel P ⟨fn.ntmps, St, M0, fun _ => False, w, fun _ => none⟩ ⟨argTm 0 args, []⟩ (fun _ => none) { tmps := vals ++ Array.replicate (fn.ntmps - vals.size) undef, defers := [] } w := by
    refine ⟨by simp; omega, rfl, fun t => ?_, fun l o e => by simp [getO] at e, fun _ _ => rfl, fun t l hl' => ?_, fun i o e => by simp [getO] at e, fun l l' loc loc' b e => (by cases e), fun b hb => absurd hb (hown b), FExt.refl _ w, fun _ _ e => by cases e⟩
    · rcases hget t _ rfl with e | e
      · rw [e]; exact .junk _
      · have := hA t _ e
        have hlt : t < args.length := (List.getElem?_eq_some_iff.1 e).1
        rw [getD_append_left (by omega)]
        exact this
    · rcases hget t _ rfl with e | e
      · rw [e] at hl'; simp [refs] at hl'
      · rw [noRefs_spec hp t _ e] at hl'; simp at hl'
  refine calls_of_wp hf hb (wp_mono (awpI_sound hE hT hm c _ _ _ _ w hR h) (fun e a' w' he => ?_))
  have fin : (∃ s σ, resQ T fn.results.toList res s ∧ Rel P ⟨fn.ntmps, St, M0, fun _ => False, w, fun _ => none⟩ s σ a' w') → a'.defers = [] ∧ ∃ v, (results fn a'.tmps).run P w' = .ok v w' ∧ ∃ v_1 σ', Ending.returned v = .returned v_1 ∧ Post P St M0 (fun _ => none) w [] (.pv res) σ' v_1 w' := by
    rintro ⟨s, σ, hq, hR'⟩
    obtain ⟨v, hr, hpv⟩ := results_run hE hT hR' hq
    refine ⟨hR'.df, v, hr, v, fun _ => none, rfl, ?_⟩
    refine ⟨.pv _ _ (hpv.mono (Same.refl _ w') (fun b _ hb => ?_)), fun l o e => by simp [getO] at e, fun _ _ => rfl, fun l loc loc' e => (by cases e), fun l l' loc loc' b e => (by cases e), fun b hb => absurd hb (hown b), hR'.ext.mono (fun _ _ h => h.elim)⟩
    rcases hb with hb | hb
    · exact hb
    · exact absurd hb (hown b)
  cases e with
  | normal => exact fin he
  | ret => exact fin he
  | exit i => obtain ⟨s, σ, hq, _⟩ := he; exact hq.elim
  | goto l => exact he.elim
  | panic c => exact he.elim
  | outgrown => exact he.elim
end Go.Abs

namespace Go.Abs
open Go.Proofs
set_option maxRecDepth 10000
mutual
/-- homehublaw45.nodes -/
def nodesE : Ex → Int → Int
  | .mk _ _ _ _ _ _ ks, n => if n - 1 < 0 ∨ 60 < ks.length then -1 else nodesL ks (n - 1)
def nodesL : List Ex → Int → Int
  | [], n => n
  | e :: es, n => if nodesE e n < 0 then -1 else nodesL es (nodesE e n)
end
theorem nodesE_eq (e : Ex) (n : Int) : nodesE e n = if n - 1 < 0 ∨ 60 < e.kids.length then -1 else nodesL e.kids (n - 1) := by cases e; rw [nodesE]; rfl
mutual
theorem nodesE_le : ∀ (e : Ex) (n : Int), nodesE e n ≤ n ∨ nodesE e n = -1
  | .mk a b c d f g ks, n => by
    rw [nodesE]
    split
    · exact .inr rfl
    · rcases nodesL_le ks (n - 1) with h | h
      · exact .inl (by omega)
      · exact .inr h
theorem nodesL_le : ∀ (ks : List Ex) (n : Int), nodesL ks n ≤ n ∨ nodesL ks n = -1
  | [], n => .inl (by rw [nodesL]; omega)
  | e :: es, n => by
    rw [nodesL]
    split
    · exact .inr rfl
    · rename_i h
      rcases nodesE_le e n with h1 | h1
      · rcases nodesL_le es (nodesE e n) with h2 | h2
        · exact .inl (by omega)
        · exact .inr h2
      · omega
end
theorem ac_law45_nodes (e : Ex) (n : Int) (hn : -1 ≤ n ∧ n ≤ 1000) : AC Tryz.prog 32 [.pv (.agg (cEx e)), .pv (vint n)] [] (.pv (vint (nodesE e n))) [] := by
  have ih : ∀ k n, k < e.kids.length → -1 ≤ n ∧ n ≤ 1000 → AC Tryz.prog 32 [.pv (.agg (cEx (e.kids.getD k default))), .pv (vint n)] [] (.pv (vint (nodesE (e.kids.getD k default) n))) [] := fun k n hk hn =>
    have := Ex.kid_lt (Ex.kid_at hk)
    ac_law45_nodes (e.kids.getD k default) n hn
  have heq := nodesE_eq e n
  refine AC.ex ?_
  refine AC.of_awp (T := T) T_ok hm Tryz.call32 Tryz.func32 rfl rfl rfl ?_
  conv => whnf
  repeat (any_goals (first
    | (refine ⟨fun (h : (_ : Bool) = true) => ?_, fun (h : (_ : Bool) = false) => ?_⟩ <;> (try simp only [decide_eq_true_eq, decide_eq_false_iff_not, Bool.not_eq_true', Bool.not_eq_false', Int.toNat_natCast, beq_iff_eq, decide_eq_decide, beq_eq_false_iff_ne, ne_eq, reduceCtorEq] at h) <;> (conv => whnf))
    | (refine And.intro (by (try simp only [Int.toNat_natCast]); omega) ?_; conv => whnf)
    | (refine And.intro (show (_ : Bool) = true from by kernel_rfl) ?_; conv => whnf)
    | (refine .inl ⟨wrap64 (by omega), ?_⟩; conv => whnf)))
  · exact PSub.int (by rw [heq, if_pos (.inl h)])
  · exact PSub.int (by rw [heq, if_pos (.inr (by omega))])
  rename_i h1
  rw [if_neg (by omega)] at heq
  have hk60 : e.kids.length ≤ 60 := by omega
  refine loop_k (ι := Nat × Int) [18, 19] [] (fun x => x.1 ≤ e.kids.length ∧ (0 ≤ x.2 ∧ x.2 ≤ n) ∧ nodesL (e.kids.drop x.1) x.2 = nodesE e n) (fun x => e.kids.length - x.1) (0, n - 1) (fun x => [(1, .pv (vint x.2)), (20, .pv (vint x.1))]) (fun _ => []) [] ⟨Nat.zero_le _, ⟨by omega, by omega⟩, by rw [heq]; rfl⟩ ?_ (fun x hk => ?_)
  · (repeat' (first | exact PSub.rfl | exact rfl | exact PSubs.rfl | exact trivial | exact PSub.lit_sb rfl | refine And.intro ?_ ?_))
  obtain ⟨k, m⟩ := x
  obtain ⟨hkn, hm2, hinv⟩ := hk
  dsimp only at hkn hm2 hinv
  conv => whnf
  repeat (any_goals (first
    | (refine ⟨fun (h : (_ : Bool) = true) => ?_, fun (h : (_ : Bool) = false) => ?_⟩ <;> (try simp only [decide_eq_true_eq, decide_eq_false_iff_not, Bool.not_eq_true', Bool.not_eq_false', Int.toNat_natCast, beq_iff_eq, decide_eq_decide, beq_eq_false_iff_ne, ne_eq, reduceCtorEq] at h) <;> (conv => whnf))
    | (refine .inl ⟨_, ih k m (by omega) (by omega), ?_⟩; conv => whnf)
    | (refine And.intro (by (try simp only [Int.toNat_natCast]); omega) ?_; conv => whnf)
    | (refine And.intro (show (_ : Bool) = true from by kernel_rfl) ?_; conv => whnf)
    | (refine .inl ⟨wrap64 (by omega), ?_⟩; conv => whnf)))
  · have hx := drop_getD (l := e.kids) (k := k) (by omega)
    rw [hx, nodesL, if_pos h] at hinv
    exact PSub.int hinv
  · have hx := drop_getD (l := e.kids) (k := k) (by omega)
    rw [hx, nodesL, if_neg h] at hinv
    have hb := nodesE_le (e.kids.getD k default) m
    refine ⟨(k + 1, nodesE (e.kids.getD k default) m), [], ⟨by dsimp only; omega, ⟨by dsimp only; omega, by dsimp only; omega⟩, hinv⟩, by first | omega | (dsimp only; omega), ?_⟩
    (repeat' (first | exact PSub.rfl | exact rfl | exact PSubs.rfl | exact trivial | exact PSub.lit_sb rfl | refine And.intro ?_ ?_))
  · rw [List.drop_of_length_le (by omega), nodesL] at hinv
    exact PSub.int hinv
termination_by SizeOf.sizeOf e
def lckFew (k : Lck) : Bool := !(decide (12 < k.force.length) || decide (12 < k.forbid.length) || decide (nodesE k.cond 60 < 0))
def fewB (l : List Lck) : Bool := !decide (30 < l.length) && l.all lckFew
theorem fewB_len {l : List Lck} (h : fewB l = true) : l.length ≤ 30 ∧ ∀ k ∈ l, k.force.length ≤ 12 ∧ k.forbid.length ≤ 12 := by
  unfold fewB at h
  rw [Bool.and_eq_true, List.all_eq_true] at h
  refine ⟨by simpa using h.1, fun k hk => ?_⟩
  have := h.2 k hk
  unfold lckFew at this
  simp at this
  omega
theorem ac_law45_few (l : List Lck) (hl : smallL l) : AC Tryz.prog 12 [.pv (roL 16 cLck l)] [] (.pv (vbool (fewB l))) [] := by
  have hl2 : l.length ≤ 1048576 := hl
  refine AC.of_awp (T := T) T_ok hm Tryz.call12 Tryz.func12 rfl rfl rfl ?_
  conv => whnf
  repeat (any_goals (first
    | (refine ⟨fun (h : (_ : Bool) = true) => ?_, fun (h : (_ : Bool) = false) => ?_⟩ <;> (try simp only [decide_eq_true_eq, decide_eq_false_iff_not, Bool.not_eq_true', Bool.not_eq_false', Int.toNat_natCast, beq_iff_eq, decide_eq_decide, beq_eq_false_iff_ne, ne_eq, reduceCtorEq] at h) <;> (conv => whnf))
    | (refine And.intro (by (try simp only [Int.toNat_natCast]); omega) ?_; conv => whnf)
    | (refine And.intro (show (_ : Bool) = true from by kernel_rfl) ?_; conv => whnf)
    | (refine .inl ⟨wrap64 (by omega), ?_⟩; conv => whnf)))
  · exact PSub.lit_sb (by unfold fewB; rw [decide_eq_true (by omega)]; rfl)
  rw [show fewB l = l.all lckFew from by unfold fewB; rw [decide_eq_false (by omega)]; rfl]
  refine loop_k (ι := Nat) [8, 9] [] (fun k => k ≤ l.length ∧ (∀ j, j < k → lckFew (l.getD j default) = true)) (fun k => l.length - k) 0 (fun k => [(10, .pv (vint k))]) (fun _ => []) [] ⟨Nat.zero_le _, fun j h => absurd h (by omega)⟩ ?_ (fun k hk => ?_)
  · (repeat' (first | exact PSub.rfl | exact rfl | exact PSubs.rfl | exact trivial | exact PSub.lit_sb rfl | refine And.intro ?_ ?_))
  obtain ⟨hkn, hinv⟩ := hk
  conv => whnf
  refine ⟨fun h => ?_, fun h => ?_⟩ <;> (try simp only [decide_eq_true_eq, decide_eq_false_iff_not, Bool.not_eq_true', Bool.not_eq_false', Int.toNat_natCast, beq_iff_eq, decide_eq_decide, beq_eq_false_iff_ne, ne_eq, reduceCtorEq] at h) <;> (conv => whnf)
  · have hk : k < l.length := by omega
    repeat (any_goals (first
      | (refine ⟨fun (h : (_ : Bool) = true) => ?_, fun (h : (_ : Bool) = false) => ?_⟩ <;> (try simp only [decide_eq_true_eq, decide_eq_false_iff_not, Bool.not_eq_true', Bool.not_eq_false', Int.toNat_natCast, beq_iff_eq, decide_eq_decide, beq_eq_false_iff_ne, ne_eq, reduceCtorEq] at h) <;> (conv => whnf))
      | (refine .inl ⟨_, ac_law45_nodes (l.getD k default).cond 60 (by omega), ?_⟩; conv => whnf)
      | (refine And.intro (by (try simp only [Int.toNat_natCast]); omega) ?_; conv => whnf)
      | (refine And.intro (show (_ : Bool) = true from by kernel_rfl) ?_; conv => whnf)
      | (refine .inl ⟨wrap64 (by omega), ?_⟩; conv => whnf)))
    all_goals first
      | exact PSub.lit_sb (all_getD_false (j := k) hk (by unfold lckFew; rw [decide_eq_true (show 12 < (l.getD k default).force.length by omega)]; rfl)).symm
      | exact PSub.lit_sb (all_getD_false (j := k) hk (by unfold lckFew; rw [decide_eq_true (show 12 < (l.getD k default).forbid.length by omega)]; simp)).symm
      | exact PSub.lit_sb (all_getD_false (j := k) hk (by unfold lckFew; rw [decide_eq_true (show nodesE (l.getD k default).cond 60 < 0 by assumption)]; simp)).symm
      | skip
    refine ⟨k + 1, [], ⟨by omega, ?_⟩, by first | omega | (dsimp only; omega), ?_⟩
    rotate_left
    · (repeat' (first | exact PSub.rfl | exact rfl | exact PSubs.rfl | exact trivial | exact PSub.lit_sb rfl | refine And.intro ?_ ?_))
    intro j hj
    by_cases e : j = k
    · subst e
      unfold lckFew
      rw [decide_eq_false (show ¬ 12 < (l.getD j default).force.length by omega), decide_eq_false (show ¬ 12 < (l.getD j default).forbid.length by omega), decide_eq_false h]; rfl
    · exact hinv j (by omega)
  · exact PSub.lit_sb (all_getD fun j hj => hinv j (by omega)).symm
theorem ac_law45_flag (d : Int) (c a : ByteArray) (n : Int) : AC Tryz.prog 35 [.pv (vint d), .pv (vstr c), .pv (vstr a), .pv (vint n)] [] (.pv (.agg (cItem ⟨⟨d, c, a⟩, ⟨1, n, ⟨#[]⟩⟩, 0⟩))) [] := by
  refine AC.of_awp (T := T) T_ok hm Tryz.call35 Tryz.func35 rfl rfl rfl ?_
  conv => whnf
  repeat' (first | exact PSub.rfl | exact PSub.nil_ro _ _ | exact PSub.lit_sb rfl | exact trivial | exact all_lt_zero | refine PSub.agg ?_ | refine PSub.ro rfl ?_ | refine all_lt_succ ?_ ?_ | refine And.intro ?_ ?_)
end Go.Abs

namespace Go.Abs
open Go.Proofs
set_option maxRecDepth 10000
theorem ac_r21_Flag (s : ByteArray) (w sf : Bool) : AC Tryz.prog 56 [.pv (vstr s), .pv (.val (.bool w)), .pv (.val (.bool sf))] [] (.pv (.agg (cAttr ⟨s, 1, 0, 0, [], w, sf⟩))) [] := by
  refine AC.of_awp (T := T) T_ok hm Tryz.call56 Tryz.func56 rfl rfl rfl ?_
  conv => whnf
  exact PSub.agg ⟨.rfl, .rfl, .rfl, .rfl, PSub.nil_ro _ _, PSub.lit_sb rfl, PSub.lit_sb rfl, trivial⟩
theorem ac_r21_Number (s : ByteArray) (lo hi : Int) (w : Bool) : AC Tryz.prog 55 [.pv (vstr s), .pv (vint lo), .pv (vint hi), .pv (.val (.bool w))] [] (.pv (.agg (cAttr ⟨s, 2, lo, hi, [], w, false⟩))) [] := by
  refine AC.of_awp (T := T) T_ok hm Tryz.call55 Tryz.func55 rfl rfl rfl ?_
  conv => whnf
  exact PSub.agg ⟨.rfl, .rfl, .rfl, .rfl, PSub.nil_ro _ _, PSub.lit_sb rfl, PSub.lit_sb rfl, trivial⟩
theorem ac_r21_Sets (s a : ByteArray) (n : Int) : AC Tryz.prog 57 [.pv (vstr s), .pv (vstr a), .pv (vint n)] [] (.pv (.agg (cCmd ⟨s, noAttr, [⟨1, a, n⟩]⟩))) [] := by
  refine AC.of_awp (T := T) T_ok hm Tryz.call57 Tryz.func57 rfl rfl rfl ?_
  conv => whnf
  repeat (any_goals (first
    | (refine ⟨fun (h : (_ : Bool) = true) => ?_, fun (h : (_ : Bool) = false) => ?_⟩ <;> (try simp only [decide_eq_true_eq, decide_eq_false_iff_not, Bool.not_eq_true', Bool.not_eq_false', Int.toNat_natCast, beq_iff_eq, decide_eq_decide, beq_eq_false_iff_ne, ne_eq, reduceCtorEq] at h) <;> (conv => whnf))
    | (refine And.intro (by (try simp only [Int.toNat_natCast]); omega) ?_; conv => whnf)
    | (refine And.intro (show (_ : Bool) = true from by kernel_rfl) ?_; conv => whnf)
    | (refine .inl ⟨wrap64 (by omega), ?_⟩; conv => whnf)))
  exact PSub.agg ⟨.rfl, .rfl, .rfl, .rfl, .rfl, PSub.nil_ro _ _, PSub.lit_sb rfl, PSub.lit_sb rfl, PSub.ro rfl (all_lt_succ all_lt_zero PSubs.rfl), trivial⟩
set_option maxHeartbeats 2000000 in
theorem ac_r21_Standard : AC Tryz.prog 33 [] [] (.pv (roL 4 cClu stdC)) [] := by
  refine AC.of_awp (T := T) T_ok hm Tryz.call33 Tryz.func33 rfl rfl rfl ?_
  conv => whnf
  repeat (any_goals (first
    | (refine ⟨fun (h : (_ : Bool) = true) => ?_, fun (h : (_ : Bool) = false) => ?_⟩ <;> (try simp only [decide_eq_true_eq, decide_eq_false_iff_not, Bool.not_eq_true', Bool.not_eq_false', Int.toNat_natCast, beq_iff_eq, decide_eq_decide, beq_eq_false_iff_ne, ne_eq, reduceCtorEq] at h) <;> (conv => whnf))
    | (refine And.intro (by (try simp only [Int.toNat_natCast]); omega) ?_; conv => whnf)
    | (refine And.intro (show (_ : Bool) = true from by kernel_rfl) ?_; conv => whnf)
    | (refine .inl ⟨wrap64 (by omega), ?_⟩; conv => whnf)))
  refine .inl ⟨_, ac_r21_Number (⟨#[116, 111]⟩ : ByteArray) 0 100 false, ?_⟩
  conv => whnf
  repeat (any_goals (first
    | (refine ⟨fun (h : (_ : Bool) = true) => ?_, fun (h : (_ : Bool) = false) => ?_⟩ <;> (try simp only [decide_eq_true_eq, decide_eq_false_iff_not, Bool.not_eq_true', Bool.not_eq_false', Int.toNat_natCast, beq_iff_eq, decide_eq_decide, beq_eq_false_iff_ne, ne_eq, reduceCtorEq] at h) <;> (conv => whnf))
    | (refine And.intro (by (try simp only [Int.toNat_natCast]); omega) ?_; conv => whnf)
    | (refine And.intro (show (_ : Bool) = true from by kernel_rfl) ?_; conv => whnf)
    | (refine .inl ⟨wrap64 (by omega), ?_⟩; conv => whnf)))
  refine .inl ⟨_, ac_r21_Flag (⟨#[111, 110]⟩ : ByteArray) true false, ?_⟩
  conv => whnf
  repeat (any_goals (first
    | (refine ⟨fun (h : (_ : Bool) = true) => ?_, fun (h : (_ : Bool) = false) => ?_⟩ <;> (try simp only [decide_eq_true_eq, decide_eq_false_iff_not, Bool.not_eq_true', Bool.not_eq_false', Int.toNat_natCast, beq_iff_eq, decide_eq_decide, beq_eq_false_iff_ne, ne_eq, reduceCtorEq] at h) <;> (conv => whnf))
    | (refine And.intro (by (try simp only [Int.toNat_natCast]); omega) ?_; conv => whnf)
    | (refine And.intro (show (_ : Bool) = true from by kernel_rfl) ?_; conv => whnf)
    | (refine .inl ⟨wrap64 (by omega), ?_⟩; conv => whnf)))
  refine .inl ⟨_, ac_r21_Sets (⟨#[111, 110]⟩ : ByteArray) (⟨#[111, 110]⟩ : ByteArray) 1, ?_⟩
  conv => whnf
  repeat (any_goals (first
    | (refine ⟨fun (h : (_ : Bool) = true) => ?_, fun (h : (_ : Bool) = false) => ?_⟩ <;> (try simp only [decide_eq_true_eq, decide_eq_false_iff_not, Bool.not_eq_true', Bool.not_eq_false', Int.toNat_natCast, beq_iff_eq, decide_eq_decide, beq_eq_false_iff_ne, ne_eq, reduceCtorEq] at h) <;> (conv => whnf))
    | (refine And.intro (by (try simp only [Int.toNat_natCast]); omega) ?_; conv => whnf)
    | (refine And.intro (show (_ : Bool) = true from by kernel_rfl) ?_; conv => whnf)
    | (refine .inl ⟨wrap64 (by omega), ?_⟩; conv => whnf)))
  refine .inl ⟨_, ac_r21_Sets (⟨#[111, 102, 102]⟩ : ByteArray) (⟨#[111, 110]⟩ : ByteArray) 0, ?_⟩
  conv => whnf
  repeat (any_goals (first
    | (refine ⟨fun (h : (_ : Bool) = true) => ?_, fun (h : (_ : Bool) = false) => ?_⟩ <;> (try simp only [decide_eq_true_eq, decide_eq_false_iff_not, Bool.not_eq_true', Bool.not_eq_false', Int.toNat_natCast, beq_iff_eq, decide_eq_decide, beq_eq_false_iff_ne, ne_eq, reduceCtorEq] at h) <;> (conv => whnf))
    | (refine And.intro (by (try simp only [Int.toNat_natCast]); omega) ?_; conv => whnf)
    | (refine And.intro (show (_ : Bool) = true from by kernel_rfl) ?_; conv => whnf)
    | (refine .inl ⟨wrap64 (by omega), ?_⟩; conv => whnf)))
  refine .inl ⟨_, ac_r21_Number (⟨#[108, 101, 118, 101, 108]⟩ : ByteArray) 0 100 true, ?_⟩
  conv => whnf
  repeat (any_goals (first
    | (refine ⟨fun (h : (_ : Bool) = true) => ?_, fun (h : (_ : Bool) = false) => ?_⟩ <;> (try simp only [decide_eq_true_eq, decide_eq_false_iff_not, Bool.not_eq_true', Bool.not_eq_false', Int.toNat_natCast, beq_iff_eq, decide_eq_decide, beq_eq_false_iff_ne, ne_eq, reduceCtorEq] at h) <;> (conv => whnf))
    | (refine And.intro (by (try simp only [Int.toNat_natCast]); omega) ?_; conv => whnf)
    | (refine And.intro (show (_ : Bool) = true from by kernel_rfl) ?_; conv => whnf)
    | (refine .inl ⟨wrap64 (by omega), ?_⟩; conv => whnf)))
  refine .inl ⟨_, ac_r21_Flag (⟨#[108, 111, 99, 107, 101, 100]⟩ : ByteArray) true true, ?_⟩
  conv => whnf
  repeat (any_goals (first
    | (refine ⟨fun (h : (_ : Bool) = true) => ?_, fun (h : (_ : Bool) = false) => ?_⟩ <;> (try simp only [decide_eq_true_eq, decide_eq_false_iff_not, Bool.not_eq_true', Bool.not_eq_false', Int.toNat_natCast, beq_iff_eq, decide_eq_decide, beq_eq_false_iff_ne, ne_eq, reduceCtorEq] at h) <;> (conv => whnf))
    | (refine And.intro (by (try simp only [Int.toNat_natCast]); omega) ?_; conv => whnf)
    | (refine And.intro (show (_ : Bool) = true from by kernel_rfl) ?_; conv => whnf)
    | (refine .inl ⟨wrap64 (by omega), ?_⟩; conv => whnf)))
  refine .inl ⟨_, ac_r21_Sets (⟨#[108, 111, 99, 107]⟩ : ByteArray) (⟨#[108, 111, 99, 107, 101, 100]⟩ : ByteArray) 1, ?_⟩
  conv => whnf
  repeat (any_goals (first
    | (refine ⟨fun (h : (_ : Bool) = true) => ?_, fun (h : (_ : Bool) = false) => ?_⟩ <;> (try simp only [decide_eq_true_eq, decide_eq_false_iff_not, Bool.not_eq_true', Bool.not_eq_false', Int.toNat_natCast, beq_iff_eq, decide_eq_decide, beq_eq_false_iff_ne, ne_eq, reduceCtorEq] at h) <;> (conv => whnf))
    | (refine And.intro (by (try simp only [Int.toNat_natCast]); omega) ?_; conv => whnf)
    | (refine And.intro (show (_ : Bool) = true from by kernel_rfl) ?_; conv => whnf)
    | (refine .inl ⟨wrap64 (by omega), ?_⟩; conv => whnf)))
  refine .inl ⟨_, ac_r21_Sets (⟨#[117, 110, 108, 111, 99, 107]⟩ : ByteArray) (⟨#[108, 111, 99, 107, 101, 100]⟩ : ByteArray) 0, ?_⟩
  conv => whnf
  repeat (any_goals (first
    | (refine ⟨fun (h : (_ : Bool) = true) => ?_, fun (h : (_ : Bool) = false) => ?_⟩ <;> (try simp only [decide_eq_true_eq, decide_eq_false_iff_not, Bool.not_eq_true', Bool.not_eq_false', Int.toNat_natCast, beq_iff_eq, decide_eq_decide, beq_eq_false_iff_ne, ne_eq, reduceCtorEq] at h) <;> (conv => whnf))
    | (refine And.intro (by (try simp only [Int.toNat_natCast]); omega) ?_; conv => whnf)
    | (refine And.intro (show (_ : Bool) = true from by kernel_rfl) ?_; conv => whnf)
    | (refine .inl ⟨wrap64 (by omega), ?_⟩; conv => whnf)))
  refine .inl ⟨_, ac_r21_Number (⟨#[116, 97, 114, 103, 101, 116]⟩ : ByteArray) 50 300 true, ?_⟩
  conv => whnf
  repeat (any_goals (first
    | (refine ⟨fun (h : (_ : Bool) = true) => ?_, fun (h : (_ : Bool) = false) => ?_⟩ <;> (try simp only [decide_eq_true_eq, decide_eq_false_iff_not, Bool.not_eq_true', Bool.not_eq_false', Int.toNat_natCast, beq_iff_eq, decide_eq_decide, beq_eq_false_iff_ne, ne_eq, reduceCtorEq] at h) <;> (conv => whnf))
    | (refine And.intro (by (try simp only [Int.toNat_natCast]); omega) ?_; conv => whnf)
    | (refine And.intro (show (_ : Bool) = true from by kernel_rfl) ?_; conv => whnf)
    | (refine .inl ⟨wrap64 (by omega), ?_⟩; conv => whnf)))
  refine .inl ⟨_, ac_r21_Number (⟨#[116, 101, 109, 112]⟩ : ByteArray) (-500) 1000 false, ?_⟩
  conv => whnf
  repeat (any_goals (first
    | (refine ⟨fun (h : (_ : Bool) = true) => ?_, fun (h : (_ : Bool) = false) => ?_⟩ <;> (try simp only [decide_eq_true_eq, decide_eq_false_iff_not, Bool.not_eq_true', Bool.not_eq_false', Int.toNat_natCast, beq_iff_eq, decide_eq_decide, beq_eq_false_iff_ne, ne_eq, reduceCtorEq] at h) <;> (conv => whnf))
    | (refine And.intro (by (try simp only [Int.toNat_natCast]); omega) ?_; conv => whnf)
    | (refine And.intro (show (_ : Bool) = true from by kernel_rfl) ?_; conv => whnf)
    | (refine .inl ⟨wrap64 (by omega), ?_⟩; conv => whnf)))
  refine .inl ⟨_, ac_r21_Flag (⟨#[97, 108, 97, 114, 109]⟩ : ByteArray) false true, ?_⟩
  conv => whnf
  repeat (any_goals (first
    | (refine ⟨fun (h : (_ : Bool) = true) => ?_, fun (h : (_ : Bool) = false) => ?_⟩ <;> (try simp only [decide_eq_true_eq, decide_eq_false_iff_not, Bool.not_eq_true', Bool.not_eq_false', Int.toNat_natCast, beq_iff_eq, decide_eq_decide, beq_eq_false_iff_ne, ne_eq, reduceCtorEq] at h) <;> (conv => whnf))
    | (refine And.intro (by (try simp only [Int.toNat_natCast]); omega) ?_; conv => whnf)
    | (refine And.intro (show (_ : Bool) = true from by kernel_rfl) ?_; conv => whnf)
    | (refine .inl ⟨wrap64 (by omega), ?_⟩; conv => whnf)))
  refine .inl ⟨_, ac_r21_Flag (⟨#[119, 101, 116]⟩ : ByteArray) false true, ?_⟩
  conv => whnf
  repeat (any_goals (first
    | (refine ⟨fun (h : (_ : Bool) = true) => ?_, fun (h : (_ : Bool) = false) => ?_⟩ <;> (try simp only [decide_eq_true_eq, decide_eq_false_iff_not, Bool.not_eq_true', Bool.not_eq_false', Int.toNat_natCast, beq_iff_eq, decide_eq_decide, beq_eq_false_iff_ne, ne_eq, reduceCtorEq] at h) <;> (conv => whnf))
    | (refine And.intro (by (try simp only [Int.toNat_natCast]); omega) ?_; conv => whnf)
    | (refine And.intro (show (_ : Bool) = true from by kernel_rfl) ?_; conv => whnf)
    | (refine .inl ⟨wrap64 (by omega), ?_⟩; conv => whnf)))
  refine .inl ⟨_, ac_r21_Flag (⟨#[111, 112, 101, 110]⟩ : ByteArray) true true, ?_⟩
  conv => whnf
  repeat (any_goals (first
    | (refine ⟨fun (h : (_ : Bool) = true) => ?_, fun (h : (_ : Bool) = false) => ?_⟩ <;> (try simp only [decide_eq_true_eq, decide_eq_false_iff_not, Bool.not_eq_true', Bool.not_eq_false', Int.toNat_natCast, beq_iff_eq, decide_eq_decide, beq_eq_false_iff_ne, ne_eq, reduceCtorEq] at h) <;> (conv => whnf))
    | (refine And.intro (by (try simp only [Int.toNat_natCast]); omega) ?_; conv => whnf)
    | (refine And.intro (show (_ : Bool) = true from by kernel_rfl) ?_; conv => whnf)
    | (refine .inl ⟨wrap64 (by omega), ?_⟩; conv => whnf)))
  refine .inl ⟨_, ac_r21_Sets (⟨#[111, 112, 101, 110]⟩ : ByteArray) (⟨#[111, 112, 101, 110]⟩ : ByteArray) 1, ?_⟩
  conv => whnf
  repeat (any_goals (first
    | (refine ⟨fun (h : (_ : Bool) = true) => ?_, fun (h : (_ : Bool) = false) => ?_⟩ <;> (try simp only [decide_eq_true_eq, decide_eq_false_iff_not, Bool.not_eq_true', Bool.not_eq_false', Int.toNat_natCast, beq_iff_eq, decide_eq_decide, beq_eq_false_iff_ne, ne_eq, reduceCtorEq] at h) <;> (conv => whnf))
    | (refine And.intro (by (try simp only [Int.toNat_natCast]); omega) ?_; conv => whnf)
    | (refine And.intro (show (_ : Bool) = true from by kernel_rfl) ?_; conv => whnf)
    | (refine .inl ⟨wrap64 (by omega), ?_⟩; conv => whnf)))
  refine .inl ⟨_, ac_r21_Sets (⟨#[99, 108, 111, 115, 101]⟩ : ByteArray) (⟨#[111, 112, 101, 110]⟩ : ByteArray) 0, ?_⟩
  conv => whnf
  repeat (any_goals (first
    | (refine ⟨fun (h : (_ : Bool) = true) => ?_, fun (h : (_ : Bool) = false) => ?_⟩ <;> (try simp only [decide_eq_true_eq, decide_eq_false_iff_not, Bool.not_eq_true', Bool.not_eq_false', Int.toNat_natCast, beq_iff_eq, decide_eq_decide, beq_eq_false_iff_ne, ne_eq, reduceCtorEq] at h) <;> (conv => whnf))
    | (refine And.intro (by (try simp only [Int.toNat_natCast]); omega) ?_; conv => whnf)
    | (refine And.intro (show (_ : Bool) = true from by kernel_rfl) ?_; conv => whnf)
    | (refine .inl ⟨wrap64 (by omega), ?_⟩; conv => whnf)))
  refine .inl ⟨_, ac_r21_Number (⟨#[112, 111, 119, 101, 114]⟩ : ByteArray) 0 100000 false, ?_⟩
  conv => whnf
  repeat (any_goals (first
    | (refine ⟨fun (h : (_ : Bool) = true) => ?_, fun (h : (_ : Bool) = false) => ?_⟩ <;> (try simp only [decide_eq_true_eq, decide_eq_false_iff_not, Bool.not_eq_true', Bool.not_eq_false', Int.toNat_natCast, beq_iff_eq, decide_eq_decide, beq_eq_false_iff_ne, ne_eq, reduceCtorEq] at h) <;> (conv => whnf))
    | (refine And.intro (by (try simp only [Int.toNat_natCast]); omega) ?_; conv => whnf)
    | (refine And.intro (show (_ : Bool) = true from by kernel_rfl) ?_; conv => whnf)
    | (refine .inl ⟨wrap64 (by omega), ?_⟩; conv => whnf)))
  repeat' (first | exact PSub.rfl | exact PSub.nil_ro _ _ | exact PSub.lit_sb rfl | exact trivial | exact all_lt_zero | refine PSub.agg ?_ | refine PSub.ro rfl ?_ | refine all_lt_succ ?_ ?_ | refine And.intro ?_ ?_)
end Go.Abs

namespace Go.Abs
open Go.Proofs
set_option maxRecDepth 10000
def homY : Hom := ⟨stdC, [⟨3, 3, 0, false, 0, (⟨#[104, 97, 108, 108]⟩ : ByteArray), [(⟨#[108, 101, 118, 101, 108]⟩ : ByteArray)]⟩, ⟨4, 4, 0, false, 0, (⟨#[104, 97, 108, 108]⟩ : ByteArray), [(⟨#[115, 109, 111, 107, 101]⟩ : ByteArray)]⟩, ⟨5, 5, 0, false, 0, (⟨#[104, 97, 108, 108]⟩ : ByteArray), [(⟨#[118, 97, 108, 118, 101]⟩ : ByteArray)]⟩]⟩
def scoY : Sco := ⟨homY, [(⟨#[104, 111, 109, 101]⟩ : ByteArray)], []⟩
def almX : Ex := .mk 2 0 0 ⟨#[]⟩ noVal ⟨4, (⟨#[115, 109, 111, 107, 101]⟩ : ByteArray), (⟨#[97, 108, 97, 114, 109]⟩ : ByteArray)⟩ []
def whenX : Ex := .mk 9 0 0 ⟨#[]⟩ noVal noKey [almX, .mk 1 0 0 ⟨#[]⟩ ⟨1, 1, ⟨#[]⟩⟩ noKey []]
def flgX (d : Int) (c a : ByteArray) (n : Int) : Item := ⟨⟨d, c, a⟩, ⟨1, n, ⟨#[]⟩⟩, 0⟩
def lockX : Lck := ⟨(⟨#[115, 109, 111, 107, 101]⟩ : ByteArray), 1, whenX, true, [flgX 5 (⟨#[118, 97, 108, 118, 101]⟩ : ByteArray) (⟨#[111, 112, 101, 110]⟩ : ByteArray) 0], []⟩
def lockY : Lck := ⟨(⟨#[115, 109, 111, 107, 101]⟩ : ByteArray), 1, whenX, false, [flgX 5 (⟨#[118, 97, 108, 118, 101]⟩ : ByteArray) (⟨#[111, 112, 101, 110]⟩ : ByteArray) 0], []⟩
def lockZ : Lck := ⟨(⟨#[111, 116, 104, 101, 114]⟩ : ByteArray), 1, whenX, false, [flgX 5 (⟨#[118, 97, 108, 118, 101]⟩ : ByteArray) (⟨#[111, 112, 101, 110]⟩ : ByteArray) 1], []⟩
def viewY : Vw := ⟨[flgX 4 (⟨#[115, 109, 111, 107, 101]⟩ : ByteArray) (⟨#[97, 108, 97, 114, 109]⟩ : ByteArray) 1], ⟨#[]⟩, 0, []⟩
def viewN : Vw := ⟨[flgX 4 (⟨#[115, 109, 111, 107, 101]⟩ : ByteArray) (⟨#[97, 108, 97, 114, 109]⟩ : ByteArray) 0], ⟨#[]⟩, 0, []⟩
def viewU : Vw := ⟨[], ⟨#[]⟩, 0, []⟩
def oneX : List ByteArray := [(⟨#[115, 109, 111, 107, 101]⟩ : ByteArray)]
theorem exi1 : locksE scoY [lockX] = 0 := by kernel_rfl
theorem exi2 : actL [lockX] viewY [] = oneX := by kernel_rfl
theorem exi3 : actL [lockX] viewN oneX = oneX := by kernel_rfl
theorem exi4 : actL [lockX] viewN [] = [] := by kernel_rfl
theorem exi5 : resetE [lockX] viewN oneX (⟨#[115, 109, 111, 107, 101]⟩ : ByteArray) = 0 ∧ resetL [lockX] viewN oneX (⟨#[115, 109, 111, 107, 101]⟩ : ByteArray) = [] := ⟨by kernel_rfl, by kernel_rfl⟩
theorem exi6 : resetE [lockX] viewY oneX (⟨#[115, 109, 111, 107, 101]⟩ : ByteArray) = 15 := by kernel_rfl
theorem exi7 : resetE [lockX] viewU oneX (⟨#[115, 109, 111, 107, 101]⟩ : ByteArray) = 15 := by kernel_rfl
theorem exi8 : actL [lockY] viewU oneX = oneX := by kernel_rfl
theorem exi9 : actL [lockY] viewN oneX = [] := by kernel_rfl
theorem exi10 : locksE scoY [lockY, lockZ] = 14 := by kernel_rfl
theorem smallS_Y : smallS scoY := by
  refine ⟨⟨⟨sl rfl, smallK_std⟩, sl rfl, fun i => ?_⟩, sl rfl, sl rfl⟩
  match i with
  | 0 => exact ⟨sl rfl, by decide, by decide⟩
  | 1 => exact ⟨sl rfl, by decide, by decide⟩
  | 2 => exact ⟨sl rfl, by decide, by decide⟩
  | i + 3 =>
    have : scoY.home.devices.getD (i + 3) default = default := rfl
    rw [this]; exact ⟨Nat.zero_le _, by decide, by decide⟩
theorem goodX (x : Lck) (h : smallK2 x) : goodLcks [x] := ⟨sl rfl, fun i hi => by
  have : i = 0 := by simpa using hi
  subst this; exact h⟩
theorem goodYZ : goodLcks [lockY, lockZ] := ⟨sl rfl, fun i hi => by
  have : i = 0 ∨ i = 1 := by have : i < 2 := hi; omega
  rcases this with rfl | rfl <;> exact ⟨sl rfl, sl rfl, by decide⟩⟩
theorem goodLX : goodLcks [lockX] := goodX _ ⟨sl rfl, sl rfl, by decide⟩
theorem goodLY : goodLcks [lockY] := goodX _ ⟨sl rfl, sl rfl, by decide⟩
theorem ac_law45_awake : AC Tryz.prog 13 [] [] (.pv (vbool true)) [] := by
  have c1 := ac_interlock_Check scoY [lockX] smallS_Y goodLX
  rw [exi1] at c1
  have c2 := ac_interlock_Active [lockX] viewY [] goodLX ⟨sl rfl, sl rfl⟩ (sl rfl)
  rw [exi2] at c2
  have c3 := ac_interlock_Active [lockX] viewN oneX goodLX ⟨sl rfl, sl rfl⟩ (sl rfl)
  rw [exi3] at c3
  have c4 := ac_interlock_Active [lockX] viewN [] goodLX ⟨sl rfl, sl rfl⟩ (sl rfl)
  rw [exi4] at c4
  have c5 := ac_interlock_Reset [lockX] viewN oneX (⟨#[115, 109, 111, 107, 101]⟩ : ByteArray) goodLX ⟨sl rfl, sl rfl⟩ (sl rfl)
  rw [exi5.1, exi5.2] at c5
  have c6 := ac_interlock_Reset [lockX] viewY oneX (⟨#[115, 109, 111, 107, 101]⟩ : ByteArray) goodLX ⟨sl rfl, sl rfl⟩ (sl rfl)
  rw [exi6] at c6
  have c7 := ac_interlock_Reset [lockX] viewU oneX (⟨#[115, 109, 111, 107, 101]⟩ : ByteArray) goodLX ⟨sl rfl, sl rfl⟩ (sl rfl)
  rw [exi7] at c7
  have c8 := ac_interlock_Active [lockY] viewU oneX goodLY ⟨sl rfl, sl rfl⟩ (sl rfl)
  rw [exi8] at c8
  have c9 := ac_interlock_Active [lockY] viewN oneX goodLY ⟨sl rfl, sl rfl⟩ (sl rfl)
  rw [exi9] at c9
  have c10 := ac_interlock_Check scoY [lockY, lockZ] smallS_Y goodYZ
  rw [exi10] at c10
  have cs := ac_r04_Same oneX oneX (sl rfl)
  rw [decide_eq_true rfl] at cs
  refine AC.of_awp_ice (T := T) T_ok hm Tryz.call13 Tryz.func13 rfl rfl rfl ?_
  conv => whnf
  refine .inl ⟨_, ac_r21_Standard, ?_⟩
  conv => whnf
  repeat (any_goals (first
    | (refine ⟨fun (h : (_ : Bool) = true) => ?_, fun (h : (_ : Bool) = false) => ?_⟩ <;> (try simp only [decide_eq_true_eq, decide_eq_false_iff_not, Bool.not_eq_true', Bool.not_eq_false', Int.toNat_natCast, beq_iff_eq, decide_eq_decide, beq_eq_false_iff_ne, ne_eq, reduceCtorEq] at h) <;> (conv => whnf))
    | (refine And.intro (by (try simp only [Int.toNat_natCast]); omega) ?_; conv => whnf)
    | (refine And.intro (show (_ : Bool) = true from by kernel_rfl) ?_; conv => whnf)
    | (refine .inl ⟨wrap64 (by omega), ?_⟩; conv => whnf)))
  refine .inl ⟨_, AC.sub1 (ac_r28_Flag true) (PSub.lit_sb rfl), ?_⟩
  conv => whnf
  repeat (any_goals (first
    | (refine ⟨fun (h : (_ : Bool) = true) => ?_, fun (h : (_ : Bool) = false) => ?_⟩ <;> (try simp only [decide_eq_true_eq, decide_eq_false_iff_not, Bool.not_eq_true', Bool.not_eq_false', Int.toNat_natCast, beq_iff_eq, decide_eq_decide, beq_eq_false_iff_ne, ne_eq, reduceCtorEq] at h) <;> (conv => whnf))
    | (refine .inl ⟨_, ac_law45_flag 5 (⟨#[118, 97, 108, 118, 101]⟩ : ByteArray) (⟨#[111, 112, 101, 110]⟩ : ByteArray) 0, ?_⟩; conv => whnf)
    | (refine .inl ⟨_, ac_law45_flag 4 (⟨#[115, 109, 111, 107, 101]⟩ : ByteArray) (⟨#[97, 108, 97, 114, 109]⟩ : ByteArray) 1, ?_⟩; conv => whnf)
    | (refine .inl ⟨_, ac_law45_flag 4 (⟨#[115, 109, 111, 107, 101]⟩ : ByteArray) (⟨#[97, 108, 97, 114, 109]⟩ : ByteArray) 0, ?_⟩; conv => whnf)
    | (refine And.intro (by (try simp only [Int.toNat_natCast]); omega) ?_; conv => whnf)
    | (refine And.intro (show (_ : Bool) = true from by kernel_rfl) ?_; conv => whnf)
    | (refine .inl ⟨wrap64 (by omega), ?_⟩; conv => whnf)))
  refine .inl ⟨_, AC.sub2 (c1) (by repeat' (first | exact PSub.rfl | exact PSub.nil_ro _ _ | exact PSub.lit_sb rfl | exact trivial | exact all_lt_zero | refine PSub.agg ?_ | refine PSub.ro rfl ?_ | refine all_lt_succ ?_ ?_ | refine And.intro ?_ ?_)) (by repeat' (first | exact PSub.rfl | exact PSub.nil_ro _ _ | exact PSub.lit_sb rfl | exact trivial | exact all_lt_zero | refine PSub.agg ?_ | refine PSub.ro rfl ?_ | refine all_lt_succ ?_ ?_ | refine And.intro ?_ ?_)), ?_⟩
  conv => whnf
  repeat (any_goals (first
    | (refine ⟨fun (h : (_ : Bool) = true) => ?_, fun (h : (_ : Bool) = false) => ?_⟩ <;> (try simp only [decide_eq_true_eq, decide_eq_false_iff_not, Bool.not_eq_true', Bool.not_eq_false', Int.toNat_natCast, beq_iff_eq, decide_eq_decide, beq_eq_false_iff_ne, ne_eq, reduceCtorEq] at h) <;> (conv => whnf))
    | (refine .inl ⟨_, ac_law45_flag 5 (⟨#[118, 97, 108, 118, 101]⟩ : ByteArray) (⟨#[111, 112, 101, 110]⟩ : ByteArray) 1, ?_⟩; conv => whnf)
    | (refine And.intro (by (try simp only [Int.toNat_natCast]); omega) ?_; conv => whnf)
    | (refine And.intro (show (_ : Bool) = true from by kernel_rfl) ?_; conv => whnf)
    | (refine .inl ⟨wrap64 (by omega), ?_⟩; conv => whnf)))
  all_goals try (exact absurd trivial h)
  all_goals try (exact absurd rfl h)
  refine .inl ⟨_, AC.sub3 (c2) (by repeat' (first | exact PSub.rfl | exact PSub.nil_ro _ _ | exact PSub.lit_sb rfl | exact trivial | exact all_lt_zero | refine PSub.agg ?_ | refine PSub.ro rfl ?_ | refine all_lt_succ ?_ ?_ | refine And.intro ?_ ?_)) (by repeat' (first | exact PSub.rfl | exact PSub.nil_ro _ _ | exact PSub.lit_sb rfl | exact trivial | exact all_lt_zero | refine PSub.agg ?_ | refine PSub.ro rfl ?_ | refine all_lt_succ ?_ ?_ | refine And.intro ?_ ?_)) (by repeat' (first | exact PSub.rfl | exact PSub.nil_ro _ _ | exact PSub.lit_sb rfl | exact trivial | exact all_lt_zero | refine PSub.agg ?_ | refine PSub.ro rfl ?_ | refine all_lt_succ ?_ ?_ | refine And.intro ?_ ?_)), ?_⟩
  conv => whnf
  repeat (any_goals (first
    | (refine ⟨fun (h : (_ : Bool) = true) => ?_, fun (h : (_ : Bool) = false) => ?_⟩ <;> (try simp only [decide_eq_true_eq, decide_eq_false_iff_not, Bool.not_eq_true', Bool.not_eq_false', Int.toNat_natCast, beq_iff_eq, decide_eq_decide, beq_eq_false_iff_ne, ne_eq, reduceCtorEq] at h) <;> (conv => whnf))
    | (refine .inl ⟨_, ac_law45_flag 5 (⟨#[118, 97, 108, 118, 101]⟩ : ByteArray) (⟨#[111, 112, 101, 110]⟩ : ByteArray) 1, ?_⟩; conv => whnf)
    | (refine And.intro (by (try simp only [Int.toNat_natCast]); omega) ?_; conv => whnf)
    | (refine And.intro (show (_ : Bool) = true from by kernel_rfl) ?_; conv => whnf)
    | (refine .inl ⟨wrap64 (by omega), ?_⟩; conv => whnf)))
  all_goals try (exact absurd trivial h)
  all_goals try (exact absurd rfl h)
  refine .inl ⟨_, AC.sub2 (cs) (by repeat' (first | exact PSub.rfl | exact PSub.nil_ro _ _ | exact PSub.lit_sb rfl | exact trivial | exact all_lt_zero | refine PSub.agg ?_ | refine PSub.ro rfl ?_ | refine all_lt_succ ?_ ?_ | refine And.intro ?_ ?_)) (by repeat' (first | exact PSub.rfl | exact PSub.nil_ro _ _ | exact PSub.lit_sb rfl | exact trivial | exact all_lt_zero | refine PSub.agg ?_ | refine PSub.ro rfl ?_ | refine all_lt_succ ?_ ?_ | refine And.intro ?_ ?_)), ?_⟩
  conv => whnf
  repeat (any_goals (first
    | (refine ⟨fun (h : (_ : Bool) = true) => ?_, fun (h : (_ : Bool) = false) => ?_⟩ <;> (try simp only [decide_eq_true_eq, decide_eq_false_iff_not, Bool.not_eq_true', Bool.not_eq_false', Int.toNat_natCast, beq_iff_eq, decide_eq_decide, beq_eq_false_iff_ne, ne_eq, reduceCtorEq] at h) <;> (conv => whnf))
    | (refine .inl ⟨_, ac_law45_flag 5 (⟨#[118, 97, 108, 118, 101]⟩ : ByteArray) (⟨#[111, 112, 101, 110]⟩ : ByteArray) 1, ?_⟩; conv => whnf)
    | (refine And.intro (by (try simp only [Int.toNat_natCast]); omega) ?_; conv => whnf)
    | (refine And.intro (show (_ : Bool) = true from by kernel_rfl) ?_; conv => whnf)
    | (refine .inl ⟨wrap64 (by omega), ?_⟩; conv => whnf)))
  all_goals try (exact absurd trivial h)
  all_goals try (exact absurd rfl h)
  refine .inl ⟨_, AC.sub3 (c3) (by repeat' (first | exact PSub.rfl | exact PSub.nil_ro _ _ | exact PSub.lit_sb rfl | exact trivial | exact all_lt_zero | refine PSub.agg ?_ | refine PSub.ro rfl ?_ | refine all_lt_succ ?_ ?_ | refine And.intro ?_ ?_)) (by repeat' (first | exact PSub.rfl | exact PSub.nil_ro _ _ | exact PSub.lit_sb rfl | exact trivial | exact all_lt_zero | refine PSub.agg ?_ | refine PSub.ro rfl ?_ | refine all_lt_succ ?_ ?_ | refine And.intro ?_ ?_)) (by repeat' (first | exact PSub.rfl | exact PSub.nil_ro _ _ | exact PSub.lit_sb rfl | exact trivial | exact all_lt_zero | refine PSub.agg ?_ | refine PSub.ro rfl ?_ | refine all_lt_succ ?_ ?_ | refine And.intro ?_ ?_)), ?_⟩
  conv => whnf
  repeat (any_goals (first
    | (refine ⟨fun (h : (_ : Bool) = true) => ?_, fun (h : (_ : Bool) = false) => ?_⟩ <;> (try simp only [decide_eq_true_eq, decide_eq_false_iff_not, Bool.not_eq_true', Bool.not_eq_false', Int.toNat_natCast, beq_iff_eq, decide_eq_decide, beq_eq_false_iff_ne, ne_eq, reduceCtorEq] at h) <;> (conv => whnf))
    | (refine .inl ⟨_, ac_law45_flag 5 (⟨#[118, 97, 108, 118, 101]⟩ : ByteArray) (⟨#[111, 112, 101, 110]⟩ : ByteArray) 1, ?_⟩; conv => whnf)
    | (refine And.intro (by (try simp only [Int.toNat_natCast]); omega) ?_; conv => whnf)
    | (refine And.intro (show (_ : Bool) = true from by kernel_rfl) ?_; conv => whnf)
    | (refine .inl ⟨wrap64 (by omega), ?_⟩; conv => whnf)))
  all_goals try (exact absurd trivial h)
  all_goals try (exact absurd rfl h)
  refine .inl ⟨_, AC.sub2 (cs) (by repeat' (first | exact PSub.rfl | exact PSub.nil_ro _ _ | exact PSub.lit_sb rfl | exact trivial | exact all_lt_zero | refine PSub.agg ?_ | refine PSub.ro rfl ?_ | refine all_lt_succ ?_ ?_ | refine And.intro ?_ ?_)) (by repeat' (first | exact PSub.rfl | exact PSub.nil_ro _ _ | exact PSub.lit_sb rfl | exact trivial | exact all_lt_zero | refine PSub.agg ?_ | refine PSub.ro rfl ?_ | refine all_lt_succ ?_ ?_ | refine And.intro ?_ ?_)), ?_⟩
  conv => whnf
  repeat (any_goals (first
    | (refine ⟨fun (h : (_ : Bool) = true) => ?_, fun (h : (_ : Bool) = false) => ?_⟩ <;> (try simp only [decide_eq_true_eq, decide_eq_false_iff_not, Bool.not_eq_true', Bool.not_eq_false', Int.toNat_natCast, beq_iff_eq, decide_eq_decide, beq_eq_false_iff_ne, ne_eq, reduceCtorEq] at h) <;> (conv => whnf))
    | (refine .inl ⟨_, ac_law45_flag 5 (⟨#[118, 97, 108, 118, 101]⟩ : ByteArray) (⟨#[111, 112, 101, 110]⟩ : ByteArray) 1, ?_⟩; conv => whnf)
    | (refine And.intro (by (try simp only [Int.toNat_natCast]); omega) ?_; conv => whnf)
    | (refine And.intro (show (_ : Bool) = true from by kernel_rfl) ?_; conv => whnf)
    | (refine .inl ⟨wrap64 (by omega), ?_⟩; conv => whnf)))
  all_goals try (exact absurd trivial h)
  all_goals try (exact absurd rfl h)
  refine .inl ⟨_, AC.sub3 (c4) (by repeat' (first | exact PSub.rfl | exact PSub.nil_ro _ _ | exact PSub.lit_sb rfl | exact trivial | exact all_lt_zero | refine PSub.agg ?_ | refine PSub.ro rfl ?_ | refine all_lt_succ ?_ ?_ | refine And.intro ?_ ?_)) (by repeat' (first | exact PSub.rfl | exact PSub.nil_ro _ _ | exact PSub.lit_sb rfl | exact trivial | exact all_lt_zero | refine PSub.agg ?_ | refine PSub.ro rfl ?_ | refine all_lt_succ ?_ ?_ | refine And.intro ?_ ?_)) (by repeat' (first | exact PSub.rfl | exact PSub.nil_ro _ _ | exact PSub.lit_sb rfl | exact trivial | exact all_lt_zero | refine PSub.agg ?_ | refine PSub.ro rfl ?_ | refine all_lt_succ ?_ ?_ | refine And.intro ?_ ?_)), ?_⟩
  conv => whnf
  repeat (any_goals (first
    | (refine ⟨fun (h : (_ : Bool) = true) => ?_, fun (h : (_ : Bool) = false) => ?_⟩ <;> (try simp only [decide_eq_true_eq, decide_eq_false_iff_not, Bool.not_eq_true', Bool.not_eq_false', Int.toNat_natCast, beq_iff_eq, decide_eq_decide, beq_eq_false_iff_ne, ne_eq, reduceCtorEq] at h) <;> (conv => whnf))
    | (refine .inl ⟨_, ac_law45_flag 5 (⟨#[118, 97, 108, 118, 101]⟩ : ByteArray) (⟨#[111, 112, 101, 110]⟩ : ByteArray) 1, ?_⟩; conv => whnf)
    | (refine And.intro (by (try simp only [Int.toNat_natCast]); omega) ?_; conv => whnf)
    | (refine And.intro (show (_ : Bool) = true from by kernel_rfl) ?_; conv => whnf)
    | (refine .inl ⟨wrap64 (by omega), ?_⟩; conv => whnf)))
  all_goals try (exact absurd trivial h)
  all_goals try (exact absurd rfl h)
  refine .inl ⟨_, AC.sub4 (c5) (by repeat' (first | exact PSub.rfl | exact PSub.nil_ro _ _ | exact PSub.lit_sb rfl | exact trivial | exact all_lt_zero | refine PSub.agg ?_ | refine PSub.ro rfl ?_ | refine all_lt_succ ?_ ?_ | refine And.intro ?_ ?_)) (by repeat' (first | exact PSub.rfl | exact PSub.nil_ro _ _ | exact PSub.lit_sb rfl | exact trivial | exact all_lt_zero | refine PSub.agg ?_ | refine PSub.ro rfl ?_ | refine all_lt_succ ?_ ?_ | refine And.intro ?_ ?_)) (by repeat' (first | exact PSub.rfl | exact PSub.nil_ro _ _ | exact PSub.lit_sb rfl | exact trivial | exact all_lt_zero | refine PSub.agg ?_ | refine PSub.ro rfl ?_ | refine all_lt_succ ?_ ?_ | refine And.intro ?_ ?_)) (by repeat' (first | exact PSub.rfl | exact PSub.nil_ro _ _ | exact PSub.lit_sb rfl | exact trivial | exact all_lt_zero | refine PSub.agg ?_ | refine PSub.ro rfl ?_ | refine all_lt_succ ?_ ?_ | refine And.intro ?_ ?_)), ?_⟩
  conv => whnf
  repeat (any_goals (first
    | (refine ⟨fun (h : (_ : Bool) = true) => ?_, fun (h : (_ : Bool) = false) => ?_⟩ <;> (try simp only [decide_eq_true_eq, decide_eq_false_iff_not, Bool.not_eq_true', Bool.not_eq_false', Int.toNat_natCast, beq_iff_eq, decide_eq_decide, beq_eq_false_iff_ne, ne_eq, reduceCtorEq] at h) <;> (conv => whnf))
    | (refine .inl ⟨_, ac_law45_flag 5 (⟨#[118, 97, 108, 118, 101]⟩ : ByteArray) (⟨#[111, 112, 101, 110]⟩ : ByteArray) 1, ?_⟩; conv => whnf)
    | (refine And.intro (by (try simp only [Int.toNat_natCast]); omega) ?_; conv => whnf)
    | (refine And.intro (show (_ : Bool) = true from by kernel_rfl) ?_; conv => whnf)
    | (refine .inl ⟨wrap64 (by omega), ?_⟩; conv => whnf)))
  all_goals try (exact absurd trivial h)
  all_goals try (exact absurd rfl h)
  refine .inl ⟨_, AC.sub4 (c6) (by repeat' (first | exact PSub.rfl | exact PSub.nil_ro _ _ | exact PSub.lit_sb rfl | exact trivial | exact all_lt_zero | refine PSub.agg ?_ | refine PSub.ro rfl ?_ | refine all_lt_succ ?_ ?_ | refine And.intro ?_ ?_)) (by repeat' (first | exact PSub.rfl | exact PSub.nil_ro _ _ | exact PSub.lit_sb rfl | exact trivial | exact all_lt_zero | refine PSub.agg ?_ | refine PSub.ro rfl ?_ | refine all_lt_succ ?_ ?_ | refine And.intro ?_ ?_)) (by repeat' (first | exact PSub.rfl | exact PSub.nil_ro _ _ | exact PSub.lit_sb rfl | exact trivial | exact all_lt_zero | refine PSub.agg ?_ | refine PSub.ro rfl ?_ | refine all_lt_succ ?_ ?_ | refine And.intro ?_ ?_)) (by repeat' (first | exact PSub.rfl | exact PSub.nil_ro _ _ | exact PSub.lit_sb rfl | exact trivial | exact all_lt_zero | refine PSub.agg ?_ | refine PSub.ro rfl ?_ | refine all_lt_succ ?_ ?_ | refine And.intro ?_ ?_)), ?_⟩
  conv => whnf
  repeat (any_goals (first
    | (refine ⟨fun (h : (_ : Bool) = true) => ?_, fun (h : (_ : Bool) = false) => ?_⟩ <;> (try simp only [decide_eq_true_eq, decide_eq_false_iff_not, Bool.not_eq_true', Bool.not_eq_false', Int.toNat_natCast, beq_iff_eq, decide_eq_decide, beq_eq_false_iff_ne, ne_eq, reduceCtorEq] at h) <;> (conv => whnf))
    | (refine .inl ⟨_, ac_law45_flag 5 (⟨#[118, 97, 108, 118, 101]⟩ : ByteArray) (⟨#[111, 112, 101, 110]⟩ : ByteArray) 1, ?_⟩; conv => whnf)
    | (refine And.intro (by (try simp only [Int.toNat_natCast]); omega) ?_; conv => whnf)
    | (refine And.intro (show (_ : Bool) = true from by kernel_rfl) ?_; conv => whnf)
    | (refine .inl ⟨wrap64 (by omega), ?_⟩; conv => whnf)))
  all_goals try (exact absurd trivial h)
  all_goals try (exact absurd rfl h)
  refine .inl ⟨_, AC.sub4 (c7) (by repeat' (first | exact PSub.rfl | exact PSub.nil_ro _ _ | exact PSub.lit_sb rfl | exact trivial | exact all_lt_zero | refine PSub.agg ?_ | refine PSub.ro rfl ?_ | refine all_lt_succ ?_ ?_ | refine And.intro ?_ ?_)) (by repeat' (first | exact PSub.rfl | exact PSub.nil_ro _ _ | exact PSub.lit_sb rfl | exact trivial | exact all_lt_zero | refine PSub.agg ?_ | refine PSub.ro rfl ?_ | refine all_lt_succ ?_ ?_ | refine And.intro ?_ ?_)) (by repeat' (first | exact PSub.rfl | exact PSub.nil_ro _ _ | exact PSub.lit_sb rfl | exact trivial | exact all_lt_zero | refine PSub.agg ?_ | refine PSub.ro rfl ?_ | refine all_lt_succ ?_ ?_ | refine And.intro ?_ ?_)) (by repeat' (first | exact PSub.rfl | exact PSub.nil_ro _ _ | exact PSub.lit_sb rfl | exact trivial | exact all_lt_zero | refine PSub.agg ?_ | refine PSub.ro rfl ?_ | refine all_lt_succ ?_ ?_ | refine And.intro ?_ ?_)), ?_⟩
  conv => whnf
  repeat (any_goals (first
    | (refine ⟨fun (h : (_ : Bool) = true) => ?_, fun (h : (_ : Bool) = false) => ?_⟩ <;> (try simp only [decide_eq_true_eq, decide_eq_false_iff_not, Bool.not_eq_true', Bool.not_eq_false', Int.toNat_natCast, beq_iff_eq, decide_eq_decide, beq_eq_false_iff_ne, ne_eq, reduceCtorEq] at h) <;> (conv => whnf))
    | (refine .inl ⟨_, ac_law45_flag 5 (⟨#[118, 97, 108, 118, 101]⟩ : ByteArray) (⟨#[111, 112, 101, 110]⟩ : ByteArray) 1, ?_⟩; conv => whnf)
    | (refine And.intro (by (try simp only [Int.toNat_natCast]); omega) ?_; conv => whnf)
    | (refine And.intro (show (_ : Bool) = true from by kernel_rfl) ?_; conv => whnf)
    | (refine .inl ⟨wrap64 (by omega), ?_⟩; conv => whnf)))
  all_goals try (exact absurd trivial h)
  all_goals try (exact absurd rfl h)
  refine .inl ⟨_, AC.sub3 (c8) (by repeat' (first | exact PSub.rfl | exact PSub.nil_ro _ _ | exact PSub.lit_sb rfl | exact trivial | exact all_lt_zero | refine PSub.agg ?_ | refine PSub.ro rfl ?_ | refine all_lt_succ ?_ ?_ | refine And.intro ?_ ?_)) (by repeat' (first | exact PSub.rfl | exact PSub.nil_ro _ _ | exact PSub.lit_sb rfl | exact trivial | exact all_lt_zero | refine PSub.agg ?_ | refine PSub.ro rfl ?_ | refine all_lt_succ ?_ ?_ | refine And.intro ?_ ?_)) (by repeat' (first | exact PSub.rfl | exact PSub.nil_ro _ _ | exact PSub.lit_sb rfl | exact trivial | exact all_lt_zero | refine PSub.agg ?_ | refine PSub.ro rfl ?_ | refine all_lt_succ ?_ ?_ | refine And.intro ?_ ?_)), ?_⟩
  conv => whnf
  repeat (any_goals (first
    | (refine ⟨fun (h : (_ : Bool) = true) => ?_, fun (h : (_ : Bool) = false) => ?_⟩ <;> (try simp only [decide_eq_true_eq, decide_eq_false_iff_not, Bool.not_eq_true', Bool.not_eq_false', Int.toNat_natCast, beq_iff_eq, decide_eq_decide, beq_eq_false_iff_ne, ne_eq, reduceCtorEq] at h) <;> (conv => whnf))
    | (refine .inl ⟨_, ac_law45_flag 5 (⟨#[118, 97, 108, 118, 101]⟩ : ByteArray) (⟨#[111, 112, 101, 110]⟩ : ByteArray) 1, ?_⟩; conv => whnf)
    | (refine And.intro (by (try simp only [Int.toNat_natCast]); omega) ?_; conv => whnf)
    | (refine And.intro (show (_ : Bool) = true from by kernel_rfl) ?_; conv => whnf)
    | (refine .inl ⟨wrap64 (by omega), ?_⟩; conv => whnf)))
  all_goals try (exact absurd trivial h)
  all_goals try (exact absurd rfl h)
  refine .inl ⟨_, AC.sub2 (cs) (by repeat' (first | exact PSub.rfl | exact PSub.nil_ro _ _ | exact PSub.lit_sb rfl | exact trivial | exact all_lt_zero | refine PSub.agg ?_ | refine PSub.ro rfl ?_ | refine all_lt_succ ?_ ?_ | refine And.intro ?_ ?_)) (by repeat' (first | exact PSub.rfl | exact PSub.nil_ro _ _ | exact PSub.lit_sb rfl | exact trivial | exact all_lt_zero | refine PSub.agg ?_ | refine PSub.ro rfl ?_ | refine all_lt_succ ?_ ?_ | refine And.intro ?_ ?_)), ?_⟩
  conv => whnf
  repeat (any_goals (first
    | (refine ⟨fun (h : (_ : Bool) = true) => ?_, fun (h : (_ : Bool) = false) => ?_⟩ <;> (try simp only [decide_eq_true_eq, decide_eq_false_iff_not, Bool.not_eq_true', Bool.not_eq_false', Int.toNat_natCast, beq_iff_eq, decide_eq_decide, beq_eq_false_iff_ne, ne_eq, reduceCtorEq] at h) <;> (conv => whnf))
    | (refine .inl ⟨_, ac_law45_flag 5 (⟨#[118, 97, 108, 118, 101]⟩ : ByteArray) (⟨#[111, 112, 101, 110]⟩ : ByteArray) 1, ?_⟩; conv => whnf)
    | (refine And.intro (by (try simp only [Int.toNat_natCast]); omega) ?_; conv => whnf)
    | (refine And.intro (show (_ : Bool) = true from by kernel_rfl) ?_; conv => whnf)
    | (refine .inl ⟨wrap64 (by omega), ?_⟩; conv => whnf)))
  all_goals try (exact absurd trivial h)
  all_goals try (exact absurd rfl h)
  refine .inl ⟨_, AC.sub3 (c9) (by repeat' (first | exact PSub.rfl | exact PSub.nil_ro _ _ | exact PSub.lit_sb rfl | exact trivial | exact all_lt_zero | refine PSub.agg ?_ | refine PSub.ro rfl ?_ | refine all_lt_succ ?_ ?_ | refine And.intro ?_ ?_)) (by repeat' (first | exact PSub.rfl | exact PSub.nil_ro _ _ | exact PSub.lit_sb rfl | exact trivial | exact all_lt_zero | refine PSub.agg ?_ | refine PSub.ro rfl ?_ | refine all_lt_succ ?_ ?_ | refine And.intro ?_ ?_)) (by repeat' (first | exact PSub.rfl | exact PSub.nil_ro _ _ | exact PSub.lit_sb rfl | exact trivial | exact all_lt_zero | refine PSub.agg ?_ | refine PSub.ro rfl ?_ | refine all_lt_succ ?_ ?_ | refine And.intro ?_ ?_)), ?_⟩
  conv => whnf
  repeat (any_goals (first
    | (refine ⟨fun (h : (_ : Bool) = true) => ?_, fun (h : (_ : Bool) = false) => ?_⟩ <;> (try simp only [decide_eq_true_eq, decide_eq_false_iff_not, Bool.not_eq_true', Bool.not_eq_false', Int.toNat_natCast, beq_iff_eq, decide_eq_decide, beq_eq_false_iff_ne, ne_eq, reduceCtorEq] at h) <;> (conv => whnf))
    | (refine .inl ⟨_, ac_law45_flag 5 (⟨#[118, 97, 108, 118, 101]⟩ : ByteArray) (⟨#[111, 112, 101, 110]⟩ : ByteArray) 1, ?_⟩; conv => whnf)
    | (refine And.intro (by (try simp only [Int.toNat_natCast]); omega) ?_; conv => whnf)
    | (refine And.intro (show (_ : Bool) = true from by kernel_rfl) ?_; conv => whnf)
    | (refine .inl ⟨wrap64 (by omega), ?_⟩; conv => whnf)))
  all_goals try (exact absurd trivial h)
  all_goals try (exact absurd rfl h)
  refine .inl ⟨_, AC.sub2 (c10) (by repeat' (first | exact PSub.rfl | exact PSub.nil_ro _ _ | exact PSub.lit_sb rfl | exact trivial | exact all_lt_zero | refine PSub.agg ?_ | refine PSub.ro rfl ?_ | refine all_lt_succ ?_ ?_ | refine And.intro ?_ ?_)) (by repeat' (first | exact PSub.rfl | exact PSub.nil_ro _ _ | exact PSub.lit_sb rfl | exact trivial | exact all_lt_zero | refine PSub.agg ?_ | refine PSub.ro rfl ?_ | refine all_lt_succ ?_ ?_ | refine And.intro ?_ ?_)), ?_⟩
  conv => whnf
  repeat (any_goals (first
    | (refine ⟨fun (h : (_ : Bool) = true) => ?_, fun (h : (_ : Bool) = false) => ?_⟩ <;> (try simp only [decide_eq_true_eq, decide_eq_false_iff_not, Bool.not_eq_true', Bool.not_eq_false', Int.toNat_natCast, beq_iff_eq, decide_eq_decide, beq_eq_false_iff_ne, ne_eq, reduceCtorEq] at h) <;> (conv => whnf))
    | (refine .inl ⟨_, ac_law45_flag 5 (⟨#[118, 97, 108, 118, 101]⟩ : ByteArray) (⟨#[111, 112, 101, 110]⟩ : ByteArray) 1, ?_⟩; conv => whnf)
    | (refine And.intro (by (try simp only [Int.toNat_natCast]); omega) ?_; conv => whnf)
    | (refine And.intro (show (_ : Bool) = true from by kernel_rfl) ?_; conv => whnf)
    | (refine .inl ⟨wrap64 (by omega), ?_⟩; conv => whnf)))
  all_goals try (exact absurd trivial h)
  all_goals try (exact absurd rfl h)
  all_goals exact PSub.sb (by decide)
end Go.Abs

namespace Go.Abs
open Go.Proofs
set_option maxRecDepth 10000
mutual
theorem nodesE_size : ∀ (e : Ex) (n : Int), 0 ≤ nodesE e n → (sizeE e : Int) + nodesE e n ≤ n
  | .mk a b c d f g ks, n, h => by
    rw [nodesE] at h ⊢
    rw [sizeE]
    split at h
    · omega
    · rename_i h1
      rw [if_neg h1]
      have := nodesL_size ks (n - 1) h
      push_cast
      omega
theorem nodesL_size : ∀ (ks : List Ex) (n : Int), 0 ≤ nodesL ks n → (sizeL ks : Int) + nodesL ks n ≤ n
  | [], n, h => by rw [nodesL, sizeL]; simp
  | e :: es, n, h => by
    rw [nodesL] at h ⊢
    rw [sizeL]
    split at h
    · omega
    · rename_i h1
      rw [if_neg h1]
      have h2 := nodesE_size e n (by omega)
      have h3 := nodesL_size es _ h
      push_cast
      omega
end
theorem few_good {l : List Lck} (hl : smallL l) (h : fewB l = true) : goodLcks l := by
  refine ⟨hl, fun i hi => ?_⟩
  obtain ⟨h1, h2⟩ := fewB_len h
  have hm : l.getD i default ∈ l := by simp only [List.getD, List.getElem?_eq_getElem hi]; exact List.getElem_mem hi
  obtain ⟨h3, h4⟩ := h2 _ hm
  refine ⟨Nat.le_trans h3 (by decide), Nat.le_trans h4 (by decide), ?_⟩
  unfold fewB at h
  rw [Bool.and_eq_true, List.all_eq_true] at h
  have h5 := h.2 _ hm
  have h6 : 0 ≤ nodesE (l.getD i default).cond 60 := by
    unfold lckFew at h5
    rw [Bool.not_eq_true', Bool.or_eq_false_iff, decide_eq_false_iff_not] at h5
    omega
  have := nodesE_size (l.getD i default).cond 60 h6
  omega
end Go.Abs
