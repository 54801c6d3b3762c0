/- YtefmohlfcnjmjaaGreatY01: walks and contracts. -/
import Derived.Test.YtefmohlfcnjmjaaGreatY00

set_option linter.unusedVariables false
set_option linter.unusedSimpArgs false
set_option linter.unusedSectionVars false

namespace Go.Abs
open Go.Proofs
set_option maxRecDepth 10000
theorem few_keys {l : List Lck} (h : fewB l = true) : (lockKeys l).length ≤ 4194304 := Nat.le_trans (fewB_keys h) (by decide)
theorem few_sort {l : List Lck} (h : fewB l = true) : (sortK (lockKeys l)).length ≤ 4194304 := Nat.le_trans (sortK_length _) (few_keys h)
theorem actL_length (l : List Lck) (v : Vw) (b : List ByteArray) : (actL l v b).length ≤ l.length := by
  unfold actL
  exact Nat.le_trans (sortS_length _) (Nat.le_trans (List.length_filter_le _ _) (by simp))
theorem actL_small {l : List Lck} {v : Vw} {b : List ByteArray} (hl : smallL l) : smallL (actL l v b) := Nat.le_trans (actL_length l v b) hl
theorem ac_law45_InterlockRuns (l : List Lck) (v : Vw) (b : List ByteArray) (hl : smallL l) (hv : smallV2 v) (hb : smallL b) : AC Tryz.prog 9 [.pv (roL 16 cLck l), .pv (.agg (cVw v)), .pv (roL 1 cstr b)] [] (.pv (vbool true)) [] := by
  refine AC.of_awp (T := T) T_ok hm Tryz.call9 Tryz.func9 rfl rfl rfl ?_
  conv => whnf
  repeat (any_goals (first
    | (refine ⟨fun (h : (_ : Bool) = true) => ?_, fun (h : (_ : Bool) = false) => ?_⟩ <;> (try simp only [decide_eq_true_eq, decide_eq_false_iff_not, Bool.not_eq_true', Bool.not_eq_false', Int.toNat_natCast, beq_iff_eq, decide_eq_decide, beq_eq_false_iff_ne, ne_eq, reduceCtorEq] at h) <;> (conv => whnf))
    | (refine .inl ⟨_, ac_law45_few l hl, ?_⟩; conv => whnf)
    | (refine .inl ⟨_, ac_law45_view v hv, ?_⟩; conv => whnf)
    | (refine .inl ⟨_, ac_law45_awake, ?_⟩; conv => whnf)
    | (refine .inl ⟨_, ac_interlock_Active l v b (few_good hl (by assumption)) hv hb, ?_⟩; conv => whnf)
    | (refine .inl ⟨_, ac_r45_Active l v b (few_good hl (by assumption)) hv hb, ?_⟩; conv => whnf)
    | (refine .inl ⟨_, ac_r04_Same (actL l v b) (actL l v b) (actL_small hl), ?_⟩; conv => whnf)
    | (refine .inl ⟨_, ac_interlock_Keys l (few_good hl (by assumption)) (few_keys (by assumption)), ?_⟩; conv => whnf)
    | (refine .inl ⟨_, ac_r45_Keys l (few_good hl (by assumption)) (few_keys (by assumption)), ?_⟩; conv => whnf)
    | (refine .inl ⟨_, ac_r22_SameKeys (sortK (lockKeys l)) (sortK (lockKeys l)) (few_sort (by assumption)), ?_⟩; conv => whnf)
    | (refine And.intro (by (try simp only [Int.toNat_natCast]); omega) ?_; conv => whnf)
    | (refine And.intro (show (_ : Bool) = true from by kernel_rfl) ?_; conv => whnf)
    | (refine .inl ⟨wrap64 (by omega), ?_⟩; conv => whnf)))
  all_goals first | exact PSub.rfl | exact PSub.sb rfl | exact PSub.lit_sb rfl | exact absurd trivial h | (exfalso; exact h rfl)
end Go.Abs
