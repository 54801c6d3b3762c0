/- YtajnhnloihlnbaaGreatY01: walks and contracts. -/
import Derived.Test.YtajnhnloihlnbaaGreatY00

set_option linter.unusedVariables false
set_option linter.unusedSimpArgs false
set_option linter.unusedSectionVars false

namespace Go.Abs
open Go.Proofs
set_option maxRecDepth 10000
theorem ac_sync_Push_1 (x : Item) : AC Tryz.prog 58 [.pv (.agg (cItem x))] [] (.pv (vbool true)) [] := by
  refine AC.of_awp (T := T) T_ok hm Tryz.call58 Tryz.func58 rfl rfl rfl ?_
  conv => whnf
  exact PSub.lit_sb rfl
theorem ac_sync_pick_Push (l : List Item) (hl : smallL l) : AC Tryz.prog 45 [.pv (roL 7 cItem l), .fn 58 []] [] (.own 1) [(1, rowL 7 cItem (sortV l))] := by
  have hl : l.length ≤ 1048576 := hl
  obtain ⟨p, hpd⟩ : ∃ p : Item → Bool, p = fun x => true := ⟨_, rfl⟩
  have hc : ∀ x, AC Tryz.prog 58 [.pv (.agg (cItem x))] [] (.pv (vbool (p x))) [] := fun x => by rw [hpd]; exact ac_sync_Push_1 x
  have hp : ∀ x : Item, p x = true → p x = true := fun x h => h
  have hq : ∀ x : Item, p x = false → ¬ p x = true := fun x h => by rw [h]; decide
  have hab : l = l.filter p := by rw [hpd]; exact (List.filter_eq_self.2 fun _ _ => rfl).symm
  have hgoal : sortV l = sortV (l.filter p) := by rw [← hab]
  rw [hgoal]
  clear hpd hab hgoal
  refine AC.of_awp_gen (T := T) T_ok hm Tryz.call45 Tryz.func45 rfl rfl rfl rfl rfl rfl ?_
  conv => whnf
  refine loop_k (ι := Nat) [1, 8, 9] [] (fun k => k ≤ l.length ∧ True) (fun k => l.length - k) 0 (fun k => [(5, .own 500), (10, .pv (vint k))]) (fun k => [(500, rowL 7 cItem ((l.take k).filter p))]) [] ⟨Nat.zero_le _, trivial⟩ ?_ (fun k hk => ?_)
  · (repeat' (first | exact PSub.rfl | exact rfl | exact PSubs.rfl | exact trivial | exact PSub.lit_sb rfl | refine And.intro ?_ ?_))
  obtain ⟨hkn, hinv⟩ := hk
  conv => whnf
  have hfl := fil_length p l k
  repeat (any_goals (first
    | (refine ⟨fun (h : (_ : Bool) = true) => ?_, fun (h : (_ : Bool) = false) => ?_⟩ <;> (try simp only [decide_eq_true_eq, decide_eq_false_iff_not, Bool.not_eq_true', Bool.not_eq_false', Int.toNat_natCast, beq_iff_eq, decide_eq_decide, beq_eq_false_iff_ne, ne_eq, reduceCtorEq] at h) <;> (conv => whnf))
    | (refine .inl ⟨_, hc (l.getD k default), ?_⟩; conv => whnf)
    | (refine And.intro (by (try simp only [Int.toNat_natCast]); omega) ?_; conv => whnf)
    | (refine And.intro (show (_ : Bool) = true from by kernel_rfl) ?_; conv => whnf)
    | (refine .inl ⟨wrap64 (by omega), ?_⟩; conv => whnf)))
  · have hfs := fil_snoc p (l := l) (k := k) (by omega)
    rw [if_pos (hp _ h)] at hfs
    refine ⟨k + 1, [(500, 20)], ⟨by omega, trivial⟩, by omega, ?_⟩
    rw [hfs]
    (repeat' (first | exact PSub.rfl | exact rfl | exact PSubs.rfl | exact trivial | exact PSub.lit_sb rfl | refine And.intro ?_ ?_))
    · simp [-List.getD_eq_getElem?_getD]
    · refine rows_snocF (fun i hi => by simp only [if_pos hi]; exact PSubs.rfl) (by simp only [if_neg (Nat.lt_irrefl _), Nat.sub_self]; exact PSubs.rfl)
  · have hfs := fil_snoc p (l := l) (k := k) (by omega)
    rw [if_neg (hq _ h), List.append_nil] at hfs
    refine ⟨k + 1, [], ⟨by omega, trivial⟩, by omega, ?_⟩
    rw [hfs]
    (repeat' (first | exact PSub.rfl | exact rfl | exact PSubs.rfl | exact trivial | exact PSub.lit_sb rfl | refine And.intro ?_ ?_))
    all_goals (intro i hi; exact PSubs.rfl)
  · have e : k = l.length := by omega
    subst e
    rw [List.take_length] at *
    have c := ac_slices_SortStableFunc_Item 92 Tryz.call92 (cmpOf oldLt) oldLt oldLt_swo (cmpOf_s oldLt) ac_sync_byVersion (l.filter p) (by omega)
    repeat (any_goals (first
      | (refine ⟨fun (h : (_ : Bool) = true) => ?_, fun (h : (_ : Bool) = false) => ?_⟩ <;> (try simp only [decide_eq_true_eq, decide_eq_false_iff_not, Bool.not_eq_true', Bool.not_eq_false', Int.toNat_natCast, beq_iff_eq, decide_eq_decide, beq_eq_false_iff_ne, ne_eq, reduceCtorEq] at h) <;> (conv => whnf))
      | (refine .inr (.inr (.inr (.inr ⟨[(900000, 500)], [], _, _, _, c, rfl, ?_⟩))); conv => whnf)
      | (refine And.intro (by (try simp only [Int.toNat_natCast]); omega) ?_; conv => whnf)
      | (refine And.intro (show (_ : Bool) = true from by kernel_rfl) ?_; conv => whnf)
      | (refine .inl ⟨wrap64 (by omega), ?_⟩; conv => whnf)))
    refine ⟨[(1, 500)], ?_⟩
    (repeat' (first | exact PSub.rfl | exact rfl | exact PSubs.rfl | exact trivial | exact PSub.lit_sb rfl | refine And.intro ?_ ?_))
    all_goals (intro i hi; exact PSubs.rfl)
end Go.Abs

namespace Go.Abs
open Go.Proofs
variable [Globals]
def seatF (lt : Item → Item → Bool) (l : List Item) (x : Item) : Nat := firstI l.length fun j => lt x (l.getD j default)
def insF (lt : Item → Item → Bool) (l : List Item) (x : Item) : List Item := l.take (seatF lt l x) ++ x :: l.drop (seatF lt l x)
theorem insF_eq {lt : Item → Item → Bool} (hw : SWO lt) {l : List Item} (hs : SrtO lt l) (x : Item) : insF lt l x = insR lt l x := by
  obtain ⟨p, q, h1, h2, h3, h4⟩ := insR_split (lt := lt) l x
  have h5 : ∀ y ∈ p, lt x y = false := by
    unfold SrtO at hs
    rw [h1, List.pairwise_append] at hs
    rcases List.eq_nil_or_concat p with e | ⟨p', a, e⟩
    · rw [e]; intro y hy; cases hy
    · rw [List.concat_eq_append] at e
      have ha := h4 a p' e
      intro y hy
      have hp := hs.1
      rw [e] at hy hp
      rcases List.mem_append.1 hy with h6 | h6
      · have h7 : lt a y = false := (List.pairwise_append.1 hp).2.2 y h6 a (by simp)
        exact hw.trans x a y ha h7
      · rw [List.mem_singleton.1 h6]; exact ha
  have hlow : ∀ j, j < p.length → lt x (l.getD j default) = false := fun j hj => by
    refine h5 _ ?_
    have : l.getD j default = p[j] := by rw [h1]; simp [List.getD, List.getElem?_append_left hj, hj]
    rw [this]; exact List.getElem_mem _
  have hseat : seatF lt l x = p.length := by
    unfold seatF
    cases q with
    | nil =>
      rw [List.append_nil] at h1
      rw [h1] at hlow ⊢
      exact firstI_none hlow
    | cons b q =>
      refine firstI_at ?_ ?_ hlow
      · rw [h1, List.length_append, List.length_cons]; omega
      · have : l.getD p.length default = b := by rw [h1]; simp [List.getD]
        rw [this]; exact h3 b (by simp)
  unfold insF
  rw [hseat, h2, h1, List.take_left', List.drop_left'] <;> rfl
theorem ins_getD {l : List Item} {i j : Nat} {x : Item} (hi : i ≤ l.length) : (l.take i ++ x :: l.drop i).getD j default = if j < i then l.getD j default else if j = i then x else l.getD (j - 1) default := by
  simp only [List.getD]
  by_cases h1 : j < i
  · rw [if_pos h1, List.getElem?_append_left (by rw [List.length_take]; omega), List.getElem?_take_of_lt h1]
  · rw [if_neg h1, List.getElem?_append_right (by rw [List.length_take]; omega), List.length_take, Nat.min_eq_left hi]
    by_cases h2 : j = i
    · rw [if_pos h2, h2]; simp
    · rw [if_neg h2]
      obtain ⟨d, hd⟩ : ∃ d, j - i = d + 1 := ⟨j - i - 1, by omega⟩
      rw [hd, List.getElem?_cons_succ, List.getElem?_drop]
      have : i + d = j - 1 := by omega
      rw [this]
theorem sort_snoc {lt : Item → Item → Bool} (hw : SWO lt) {l : List Item} {k : Nat} (h : k < l.length) : isortR lt (l.take (k + 1)) = insF lt (isortR lt (l.take k)) (l.getD k default) := by
  rw [take_succ_getD h, isortR_snoc, insF_eq hw (isortR_stb hw _).1]
end Go.Abs

namespace Go.Abs
open Go.Proofs
set_option maxRecDepth 10000
theorem ac_r26_put_old (l : List Item) (x : Item) (hl : l.length ≤ 1048576) : AC Tryz.prog 95 [.pv (roL 7 cItem l), .pv (.agg (cItem x)), .pv (.val (.bool true))] [] (.pv (roL 7 cItem (insF oldLt l x))) [] := by
  obtain ⟨lt, hlt⟩ : ∃ lt, lt = oldLt := ⟨_, rfl⟩
  have hc := fun y => ac_r26_older x y
  rw [← hlt] at *
  clear hlt
  refine AC.of_awp (T := T) T_ok hm Tryz.call95 Tryz.func95 rfl rfl rfl ?_
  conv => whnf
  refine loop_k (ι := Nat) [0, 2, 4] [4] (fun k => k ≤ l.length ∧ (∀ j, j < k → lt x (l.getD j default) = false)) (fun k => l.length - k) 0 (fun k => [(7, .pv (vint k))]) (fun k => []) [] ⟨Nat.zero_le _, fun j h => absurd h (by omega)⟩ ?_ (fun k hk => ?_)
  · (repeat' (first | exact PSub.rfl | exact rfl | exact PSubs.rfl | exact trivial | exact PSub.lit_sb rfl | refine And.intro ?_ ?_))
  obtain ⟨hkn, hinv⟩ := hk
  conv => whnf
  repeat (any_goals (first
    | (refine ⟨fun (h : (_ : Bool) = true) => ?_, fun (h : (_ : Bool) = false) => ?_⟩ <;> (try simp only [decide_eq_true_eq, decide_eq_false_iff_not, Bool.not_eq_true', Bool.not_eq_false', Int.toNat_natCast, beq_iff_eq, decide_eq_decide, beq_eq_false_iff_ne, ne_eq, reduceCtorEq] at h) <;> (conv => whnf))
    | (refine .inl ⟨_, hc (l.getD k default), ?_⟩; conv => whnf)
    | (refine And.intro (by (try simp only [Int.toNat_natCast]); omega) ?_; conv => whnf)
    | (refine And.intro (show (_ : Bool) = true from by kernel_rfl) ?_; conv => whnf)
    | (refine .inl ⟨wrap64 (by omega), ?_⟩; conv => whnf)))
  · have h0 : lt x (l.getD k default) = true := by assumption
    have e : seatF lt l x = k := firstI_at (by omega) h0 hinv
    unfold insF
    rw [e]
    refine PSub.ro (by simp; omega) (fun j hj => ?_)
    dsimp only
    rw [ins_getD (by omega)]
    simp only [Int.toNat_natCast, Nat.zero_add]
    by_cases h1 : j < k
    · rw [if_pos (by omega), if_pos h1, if_neg (by omega), if_pos h1]; exact PSubs.rfl
    · by_cases h2 : j = k
      · rw [if_pos (by omega), if_neg h1, if_neg h1, if_pos h2, h2, Nat.sub_self]; exact PSubs.rfl
      · rw [if_neg (by omega), if_neg h1, if_neg h2, show k + (j - (k + 1)) = j - 1 by omega]; exact PSubs.rfl
  · have h0 : lt x (l.getD k default) = false := by assumption
    refine ⟨k + 1, [], ⟨by omega, fun j hj => ?_⟩, by omega, ?_⟩
    · by_cases e : j = k
      · rw [e]; exact h0
      · exact hinv j (by omega)
    (repeat' (first | exact PSub.rfl | exact rfl | exact PSubs.rfl | exact trivial | exact PSub.lit_sb rfl | refine And.intro ?_ ?_))
  · have e2 : k = l.length := by omega
    have e : seatF lt l x = k := by rw [e2] at hinv ⊢; exact firstI_none fun j hj => hinv j hj
    unfold insF
    rw [e]
    refine PSub.ro (by simp; omega) (fun j hj => ?_)
    dsimp only
    rw [ins_getD (by omega)]
    simp only [Int.toNat_natCast, Nat.zero_add]
    by_cases h1 : j < k
    · rw [if_pos (by omega), if_pos h1, if_neg (by omega), if_pos h1]; exact PSubs.rfl
    · by_cases h2 : j = k
      · rw [if_pos (by omega), if_neg h1, if_neg h1, if_pos h2, h2, Nat.sub_self]; exact PSubs.rfl
      · rw [if_neg (by omega), if_neg h1, if_neg h2, show k + (j - (k + 1)) = j - 1 by omega]; exact PSubs.rfl
theorem ac_r26_put_low (l : List Item) (x : Item) (hl : l.length ≤ 1048576) : AC Tryz.prog 95 [.pv (roL 7 cItem l), .pv (.agg (cItem x)), .pv (.val (.bool false))] [] (.pv (roL 7 cItem (insF lowLt l x))) [] := by
  obtain ⟨lt, hlt⟩ : ∃ lt, lt = lowLt := ⟨_, rfl⟩
  have hc := fun y => ac_r26_lower x y
  rw [← hlt] at *
  clear hlt
  refine AC.of_awp (T := T) T_ok hm Tryz.call95 Tryz.func95 rfl rfl rfl ?_
  conv => whnf
  refine loop_k (ι := Nat) [0, 2, 4] [4] (fun k => k ≤ l.length ∧ (∀ j, j < k → lt x (l.getD j default) = false)) (fun k => l.length - k) 0 (fun k => [(7, .pv (vint k))]) (fun k => []) [] ⟨Nat.zero_le _, fun j h => absurd h (by omega)⟩ ?_ (fun k hk => ?_)
  · (repeat' (first | exact PSub.rfl | exact rfl | exact PSubs.rfl | exact trivial | exact PSub.lit_sb rfl | refine And.intro ?_ ?_))
  obtain ⟨hkn, hinv⟩ := hk
  conv => whnf
  repeat (any_goals (first
    | (refine ⟨fun (h : (_ : Bool) = true) => ?_, fun (h : (_ : Bool) = false) => ?_⟩ <;> (try simp only [decide_eq_true_eq, decide_eq_false_iff_not, Bool.not_eq_true', Bool.not_eq_false', Int.toNat_natCast, beq_iff_eq, decide_eq_decide, beq_eq_false_iff_ne, ne_eq, reduceCtorEq] at h) <;> (conv => whnf))
    | (refine .inl ⟨_, hc (l.getD k default), ?_⟩; conv => whnf)
    | (refine And.intro (by (try simp only [Int.toNat_natCast]); omega) ?_; conv => whnf)
    | (refine And.intro (show (_ : Bool) = true from by kernel_rfl) ?_; conv => whnf)
    | (refine .inl ⟨wrap64 (by omega), ?_⟩; conv => whnf)))
  · have h0 : lt x (l.getD k default) = false := by assumption
    refine ⟨k + 1, [], ⟨by omega, fun j hj => ?_⟩, by omega, ?_⟩
    · by_cases e : j = k
      · rw [e]; exact h0
      · exact hinv j (by omega)
    (repeat' (first | exact PSub.rfl | exact rfl | exact PSubs.rfl | exact trivial | exact PSub.lit_sb rfl | refine And.intro ?_ ?_))
  · have h0 : lt x (l.getD k default) = true := by assumption
    have e : seatF lt l x = k := firstI_at (by omega) h0 hinv
    unfold insF
    rw [e]
    refine PSub.ro (by simp; omega) (fun j hj => ?_)
    dsimp only
    rw [ins_getD (by omega)]
    simp only [Int.toNat_natCast, Nat.zero_add]
    by_cases h1 : j < k
    · rw [if_pos (by omega), if_pos h1, if_neg (by omega), if_pos h1]; exact PSubs.rfl
    · by_cases h2 : j = k
      · rw [if_pos (by omega), if_neg h1, if_neg h1, if_pos h2, h2, Nat.sub_self]; exact PSubs.rfl
      · rw [if_neg (by omega), if_neg h1, if_neg h2, show k + (j - (k + 1)) = j - 1 by omega]; exact PSubs.rfl
  · have e2 : k = l.length := by omega
    have e : seatF lt l x = k := by rw [e2] at hinv ⊢; exact firstI_none fun j hj => hinv j hj
    unfold insF
    rw [e]
    refine PSub.ro (by simp; omega) (fun j hj => ?_)
    dsimp only
    rw [ins_getD (by omega)]
    simp only [Int.toNat_natCast, Nat.zero_add]
    by_cases h1 : j < k
    · rw [if_pos (by omega), if_pos h1, if_neg (by omega), if_pos h1]; exact PSubs.rfl
    · by_cases h2 : j = k
      · rw [if_pos (by omega), if_neg h1, if_neg h1, if_pos h2, h2, Nat.sub_self]; exact PSubs.rfl
      · rw [if_neg (by omega), if_neg h1, if_neg h2, show k + (j - (k + 1)) = j - 1 by omega]; exact PSubs.rfl
theorem ac_r26_Sorted_old (l : List Item) (hl : smallL l) : AC Tryz.prog 51 [.pv (roL 7 cItem l), .pv (.val (.bool true))] [] (.pv (roL 7 cItem (sortV l))) [] := by
  have hl : l.length ≤ 1048576 := hl
  unfold sortV
  obtain ⟨lt, hlt⟩ : ∃ lt, lt = oldLt := ⟨_, rfl⟩
  have hw : SWO lt := by rw [hlt]; exact oldLt_swo
  have hc := fun r y => ac_r26_put_old r y
  rw [← hlt] at *
  clear hlt
  refine AC.of_awp (T := T) T_ok hm Tryz.call51 Tryz.func51 rfl rfl rfl ?_
  conv => whnf
  refine loop_k (ι := Nat) [0, 1] [] (fun k => k ≤ l.length ∧ True) (fun k => l.length - k) 0 (fun k => [(5, .pv (roL 7 cItem (isortR lt (l.take k)))), (6, .pv (vint k))]) (fun k => []) [] ⟨Nat.zero_le _, trivial⟩ ?_ (fun k hk => ?_)
  · (repeat' (first | exact PSub.rfl | exact rfl | exact PSubs.rfl | exact trivial | exact PSub.lit_sb rfl | refine And.intro ?_ ?_)); all_goals (exact PSub.nil_ro _ _)
  obtain ⟨hkn, hinv⟩ := hk
  conv => whnf
  have hil := isortR_length (lt := lt) (l.take k)
  rw [List.length_take] at hil
  refine ⟨fun h => ?_, fun h => ?_⟩ <;> (try simp only [decide_eq_true_eq, decide_eq_false_iff_not, Bool.not_eq_true', Bool.not_eq_false', Int.toNat_natCast, beq_iff_eq, decide_eq_decide, beq_eq_false_iff_ne, ne_eq, reduceCtorEq] at h) <;> (conv => whnf)
  · have hs := sort_snoc hw (l := l) (k := k) (by omega)
    have c := hc (isortR lt (l.take k)) (l.getD k default) (by omega)
    repeat (any_goals (first
      | (refine ⟨fun (h : (_ : Bool) = true) => ?_, fun (h : (_ : Bool) = false) => ?_⟩ <;> (try simp only [decide_eq_true_eq, decide_eq_false_iff_not, Bool.not_eq_true', Bool.not_eq_false', Int.toNat_natCast, beq_iff_eq, decide_eq_decide, beq_eq_false_iff_ne, ne_eq, reduceCtorEq] at h) <;> (conv => whnf))
      | (refine .inl ⟨_, c, ?_⟩; conv => whnf)
      | (refine And.intro (by (try simp only [Int.toNat_natCast]); omega) ?_; conv => whnf)
      | (refine And.intro (show (_ : Bool) = true from by kernel_rfl) ?_; conv => whnf)
      | (refine .inl ⟨wrap64 (by omega), ?_⟩; conv => whnf)))
    refine ⟨k + 1, [], ⟨by omega, trivial⟩, by omega, ?_⟩
    rw [hs]
    (repeat' (first | exact PSub.rfl | exact rfl | exact PSubs.rfl | exact trivial | exact PSub.lit_sb rfl | refine And.intro ?_ ?_))
  · have e : k = l.length := by omega
    subst e
    rw [List.take_length] at *
    repeat (any_goals (first
      | (refine ⟨fun (h : (_ : Bool) = true) => ?_, fun (h : (_ : Bool) = false) => ?_⟩ <;> (try simp only [decide_eq_true_eq, decide_eq_false_iff_not, Bool.not_eq_true', Bool.not_eq_false', Int.toNat_natCast, beq_iff_eq, decide_eq_decide, beq_eq_false_iff_ne, ne_eq, reduceCtorEq] at h) <;> (conv => whnf))
      | (refine And.intro (by (try simp only [Int.toNat_natCast]); omega) ?_; conv => whnf)
      | (refine And.intro (show (_ : Bool) = true from by kernel_rfl) ?_; conv => whnf)
      | (refine .inl ⟨wrap64 (by omega), ?_⟩; conv => whnf)))
    exact .rfl
theorem ac_r26_Sorted_low (l : List Item) (hl : smallL l) : AC Tryz.prog 51 [.pv (roL 7 cItem l), .pv (.val (.bool false))] [] (.pv (roL 7 cItem (sortLow l))) [] := by
  have hl : l.length ≤ 1048576 := hl
  unfold sortLow
  obtain ⟨lt, hlt⟩ : ∃ lt, lt = lowLt := ⟨_, rfl⟩
  have hw : SWO lt := by rw [hlt]; exact lowLt_swo
  have hc := fun r y => ac_r26_put_low r y
  rw [← hlt] at *
  clear hlt
  refine AC.of_awp (T := T) T_ok hm Tryz.call51 Tryz.func51 rfl rfl rfl ?_
  conv => whnf
  refine loop_k (ι := Nat) [0, 1] [] (fun k => k ≤ l.length ∧ True) (fun k => l.length - k) 0 (fun k => [(5, .pv (roL 7 cItem (isortR lt (l.take k)))), (6, .pv (vint k))]) (fun k => []) [] ⟨Nat.zero_le _, trivial⟩ ?_ (fun k hk => ?_)
  · (repeat' (first | exact PSub.rfl | exact rfl | exact PSubs.rfl | exact trivial | exact PSub.lit_sb rfl | refine And.intro ?_ ?_)); all_goals (exact PSub.nil_ro _ _)
  obtain ⟨hkn, hinv⟩ := hk
  conv => whnf
  have hil := isortR_length (lt := lt) (l.take k)
  rw [List.length_take] at hil
  refine ⟨fun h => ?_, fun h => ?_⟩ <;> (try simp only [decide_eq_true_eq, decide_eq_false_iff_not, Bool.not_eq_true', Bool.not_eq_false', Int.toNat_natCast, beq_iff_eq, decide_eq_decide, beq_eq_false_iff_ne, ne_eq, reduceCtorEq] at h) <;> (conv => whnf)
  · have hs := sort_snoc hw (l := l) (k := k) (by omega)
    have c := hc (isortR lt (l.take k)) (l.getD k default) (by omega)
    repeat (any_goals (first
      | (refine ⟨fun (h : (_ : Bool) = true) => ?_, fun (h : (_ : Bool) = false) => ?_⟩ <;> (try simp only [decide_eq_true_eq, decide_eq_false_iff_not, Bool.not_eq_true', Bool.not_eq_false', Int.toNat_natCast, beq_iff_eq, decide_eq_decide, beq_eq_false_iff_ne, ne_eq, reduceCtorEq] at h) <;> (conv => whnf))
      | (refine .inl ⟨_, c, ?_⟩; conv => whnf)
      | (refine And.intro (by (try simp only [Int.toNat_natCast]); omega) ?_; conv => whnf)
      | (refine And.intro (show (_ : Bool) = true from by kernel_rfl) ?_; conv => whnf)
      | (refine .inl ⟨wrap64 (by omega), ?_⟩; conv => whnf)))
    refine ⟨k + 1, [], ⟨by omega, trivial⟩, by omega, ?_⟩
    rw [hs]
    (repeat' (first | exact PSub.rfl | exact rfl | exact PSubs.rfl | exact trivial | exact PSub.lit_sb rfl | refine And.intro ?_ ?_))
  · have e : k = l.length := by omega
    subst e
    rw [List.take_length] at *
    repeat (any_goals (first
      | (refine ⟨fun (h : (_ : Bool) = true) => ?_, fun (h : (_ : Bool) = false) => ?_⟩ <;> (try simp only [decide_eq_true_eq, decide_eq_false_iff_not, Bool.not_eq_true', Bool.not_eq_false', Int.toNat_natCast, beq_iff_eq, decide_eq_decide, beq_eq_false_iff_ne, ne_eq, reduceCtorEq] at h) <;> (conv => whnf))
      | (refine And.intro (by (try simp only [Int.toNat_natCast]); omega) ?_; conv => whnf)
      | (refine And.intro (show (_ : Bool) = true from by kernel_rfl) ?_; conv => whnf)
      | (refine .inl ⟨wrap64 (by omega), ?_⟩; conv => whnf)))
    exact .rfl
theorem ac_r26_batch (kind dev epoch : Int) (l : List Item) (hl : smallL l) (hne : l ≠ []) : AC Tryz.prog 63 [.pv (vint kind), .pv (vint dev), .pv (vint epoch), .pv (roL 7 cItem l)] [] (.pv (.agg (cMsg (batchM kind dev epoch (sortV l))))) [] := by
  have hl2 : l.length ≤ 1048576 := hl
  have hsl := sortV_length l
  have hn : sortV l ≠ [] := fun e => by
    rw [e] at hsl
    exact hne (List.eq_nil_of_length_eq_zero hsl.symm)
  have c0 := ac_r26_Sorted_old l hl
  generalize sortV l = L at *
  have h0 : 0 < L.length := List.length_pos_iff.2 hn
  have c1 := ac_r26_Sorted_low (L.take 7) (show _ ≤ 1048576 by rw [List.length_take]; omega)
  have c2 : 7 ≤ L.length → AC Tryz.prog 51 [.pv (.ro 7 7 fun i => cItem (L.getD i default)), .pv (.val (.bool false))] [] (.pv (roL 7 cItem (sortLow (L.take 7)))) [] := fun h => AC.sub2 c1 (take_sub2 h) .rfl
  have hlast : lastV (L.take 7) = (L.getD ((L.take 7).length - 1) default).version := by
    unfold lastV
    rw [getD_take_lt (by rw [List.length_take]; omega)]
  refine AC.of_awp (T := T) T_ok hm Tryz.call63 Tryz.func63 rfl rfl rfl ?_
  conv => whnf
  repeat (any_goals (first
    | (refine ⟨fun (h : (_ : Bool) = true) => ?_, fun (h : (_ : Bool) = false) => ?_⟩ <;> (try simp only [decide_eq_true_eq, decide_eq_false_iff_not, Bool.not_eq_true', Bool.not_eq_false', Int.toNat_natCast, beq_iff_eq, decide_eq_decide, beq_eq_false_iff_ne, ne_eq, reduceCtorEq] at h) <;> (conv => whnf))
    | (refine .inl ⟨_, c0, ?_⟩; conv => whnf)
    | (refine And.intro (by (try simp only [Int.toNat_natCast]); omega) ?_; conv => whnf)
    | (refine And.intro (show (_ : Bool) = true from by kernel_rfl) ?_; conv => whnf)
    | (refine .inl ⟨wrap64 (by omega), ?_⟩; conv => whnf)))
  · repeat (any_goals (first
      | (refine ⟨fun (h : (_ : Bool) = true) => ?_, fun (h : (_ : Bool) = false) => ?_⟩ <;> (try simp only [decide_eq_true_eq, decide_eq_false_iff_not, Bool.not_eq_true', Bool.not_eq_false', Int.toNat_natCast, beq_iff_eq, decide_eq_decide, beq_eq_false_iff_ne, ne_eq, reduceCtorEq] at h) <;> (conv => whnf))
      | (refine .inl ⟨_, (c2 (by omega)), ?_⟩; conv => whnf)
      | (refine And.intro (by (try simp only [Int.toNat_natCast]); omega) ?_; conv => whnf)
      | (refine And.intro (show (_ : Bool) = true from by kernel_rfl) ?_; conv => whnf)
      | (refine .inl ⟨wrap64 (by omega), ?_⟩; conv => whnf)))
    have e7 : (L.take 7).length = 7 := by rw [List.length_take]; omega
    refine PSub.agg ⟨.rfl, .rfl, .rfl, PSub.int ?_, .rfl, .rfl, .rfl, .rfl, trivial⟩
    show _ = lastV (L.take 7)
    rw [hlast, e7]
    rfl
  · have e7 : L.take 7 = L := List.take_of_length_le (by omega)
    rw [e7] at c1
    repeat (any_goals (first
      | (refine ⟨fun (h : (_ : Bool) = true) => ?_, fun (h : (_ : Bool) = false) => ?_⟩ <;> (try simp only [decide_eq_true_eq, decide_eq_false_iff_not, Bool.not_eq_true', Bool.not_eq_false', Int.toNat_natCast, beq_iff_eq, decide_eq_decide, beq_eq_false_iff_ne, ne_eq, reduceCtorEq] at h) <;> (conv => whnf))
      | (refine .inl ⟨_, c1, ?_⟩; conv => whnf)
      | (refine And.intro (by (try simp only [Int.toNat_natCast]); omega) ?_; conv => whnf)
      | (refine And.intro (show (_ : Bool) = true from by kernel_rfl) ?_; conv => whnf)
      | (refine .inl ⟨wrap64 (by omega), ?_⟩; conv => whnf)))
    refine PSub.agg ⟨.rfl, .rfl, .rfl, PSub.int ?_, ?_, .rfl, .rfl, .rfl, trivial⟩
    · show _ = lastV (L.take 7)
      rw [hlast, e7]
      congr 2
      omega
    · show PSub _ (roL 7 cItem (sortLow (L.take 7)))
      rw [e7]; exact PSub.rfl
end Go.Abs

namespace Go.Abs
open Go.Proofs
set_option maxRecDepth 10000
theorem ac_r26_Equal (s : Shd) (a : Agt) (hs : smallSh s) (ha : smallL a.items) : AC Tryz.prog 22 [.pv (.agg (cShd s)), .pv (.agg (cAgt a))] [] (.pv (vbool (eqlB s a))) [] := by
  have h1 : s.reported.length ≤ 1048576 := hs.1
  have h2 : a.items.length ≤ 1048576 := ha
  refine AC.of_awp (T := T) T_ok hm Tryz.call22 Tryz.func22 rfl rfl rfl ?_
  conv => whnf
  repeat (any_goals (first
    | (refine ⟨fun (h : (_ : Bool) = true) => ?_, fun (h : (_ : Bool) = false) => ?_⟩ <;> (try simp only [decide_eq_true_eq, decide_eq_false_iff_not, Bool.not_eq_true', Bool.not_eq_false', Int.toNat_natCast, beq_iff_eq, decide_eq_decide, beq_eq_false_iff_ne, ne_eq, reduceCtorEq] at h) <;> (conv => whnf))
    | (refine .inl ⟨_, ac_r25_Synced s hs, ?_⟩; conv => whnf)
    | (refine And.intro (by (try simp only [Int.toNat_natCast]); omega) ?_; conv => whnf)
    | (refine And.intro (show (_ : Bool) = true from by kernel_rfl) ?_; conv => whnf)
    | (refine .inl ⟨wrap64 (by omega), ?_⟩; conv => whnf)))
  iterate 4
    · refine PSub.lit_sb ?_
      symm
      rw [← Bool.not_eq_true]
      intro h2
      unfold eqlB at h2
      simp only [Bool.and_eq_true, decide_eq_true_eq] at h2
      first
        | exact h h2.1.1.1.1
        | exact h h2.1.1.1.2
        | exact h h2.1.2
        | (have := h2.1.1.2; omega)
  refine loop_k (ι := Nat) [2, 3] [2, 3] (fun k => k ≤ a.items.length ∧ (∀ j, j < k → (s.reported.getD j default).key = (a.items.getD j default).key ∧ (s.reported.getD j default).value = (a.items.getD j default).value)) (fun k => a.items.length - k) 0 (fun k => [(5, .pv (vint k))]) (fun _ => []) [] ⟨Nat.zero_le _, fun j h => absurd h (by omega)⟩ ?_ (fun k hk => ?_)
  · (repeat' (first | exact PSub.rfl | exact rfl | exact PSubs.rfl | exact trivial | exact PSub.lit_sb rfl | refine And.intro ?_ ?_))
  obtain ⟨hkn, hinv⟩ := hk
  conv => whnf
  repeat (any_goals (first
    | (refine ⟨fun (h : (_ : Bool) = true) => ?_, fun (h : (_ : Bool) = false) => ?_⟩ <;> (try simp only [decide_eq_true_eq, decide_eq_false_iff_not, Bool.not_eq_true', Bool.not_eq_false', Int.toNat_natCast, beq_iff_eq, decide_eq_decide, beq_eq_false_iff_ne, ne_eq, reduceCtorEq] at h) <;> (conv => whnf))
    | (refine And.intro (by (try simp only [Int.toNat_natCast]); omega) ?_; conv => whnf)
    | (refine And.intro (show (_ : Bool) = true from by kernel_rfl) ?_; conv => whnf)
    | (refine .inl ⟨wrap64 (by omega), ?_⟩; conv => whnf)))
  · have e := of_decide_eq_false ((key_eq _ _).symm.trans h)
    refine PSub.lit_sb ?_
    symm
    rw [← Bool.not_eq_true]
    intro h2
    unfold eqlB at h2
    simp only [Bool.and_eq_true, decide_eq_true_eq] at h2
    exact e (h2.2 k (by omega)).1
  · have e := of_decide_eq_false ((val_eq _ _).symm.trans h)
    refine PSub.lit_sb ?_
    symm
    rw [← Bool.not_eq_true]
    intro h2
    unfold eqlB at h2
    simp only [Bool.and_eq_true, decide_eq_true_eq] at h2
    exact e (h2.2 k (by omega)).2
  · have e := of_decide_eq_true ((val_eq _ _).symm.trans h)
    rename_i h1
    have e1 := of_decide_eq_true ((key_eq _ _).symm.trans h1)
    refine ⟨k + 1, [], ⟨by omega, ?_⟩, by first | omega | (dsimp only; omega), ?_⟩
    rotate_left
    · (repeat' (first | exact PSub.rfl | exact rfl | exact PSubs.rfl | exact trivial | exact PSub.lit_sb rfl | refine And.intro ?_ ?_))
    intro j hj
    by_cases e2 : j = k
    · subst e2; exact ⟨e1, e⟩
    · exact hinv j (by omega)
  · refine PSub.lit_sb ?_
    symm
    unfold eqlB
    simp only [Bool.and_eq_true, decide_eq_true_eq]
    refine ⟨⟨⟨⟨by assumption, by assumption⟩, by omega⟩, by assumption⟩, fun i hi => hinv i (by omega)⟩
end Go.Abs

namespace Go.Abs
open Go.Proofs
set_option maxRecDepth 10000
theorem psL_small {s : Shd} (hs : smallSh s) : smallL (psL s) := by
  have h1 := penL_length s
  have h2 : s.desired.length ≤ 1048576 := hs.2
  show (sortV _).length ≤ 1048576
  rw [sortV_length]; omega
theorem ps_no {s : Shd} {now : Int} (h : psB s now = false) : psS s now = s ∧ psM s now = noMsg := by
  rw [psS, psM, if_neg (by rw [h]; decide), if_neg (by rw [h]; decide)]; exact ⟨rfl, rfl⟩
theorem ps_yes {s : Shd} {now : Int} (h : psB s now = true) : psS s now = { s with sent := tickI now } ∧ psM s now = batchM 3 s.dev s.epoch (psL s) := by
  rw [psS, psM, if_pos h, if_pos h]; exact ⟨rfl, rfl⟩
theorem ac_sync_Push (s : Shd) (now : Int) (hs : smallSh s) : AC Tryz.prog 19 [.pv (.agg (cShd s)), .pv (vint now)] [] (.pv (.tup [.agg (cShd (psS s now)), .agg (cMsg (psM s now)), vbool (psB s now)])) [] := by
  have hpl : (penL s).length ≤ 1048576 := Nat.le_trans (penL_length s) hs.2
  have hb : (psL s).length ≠ 0 → AC Tryz.prog 60 [.pv (vint 3), .pv (vint s.dev), .pv (vint s.epoch), .pv (roL 7 cItem (psL s))] [] (.pv (.agg (cMsg (batchM 3 s.dev s.epoch (psL s))))) [] := fun h => ac_sync_batch 3 s.dev s.epoch (psL s) (psL_small hs) (by intro e; rw [e] at h; exact h rfl)
  have hO : psB s now = (decide (penL s ≠ []) && dueB s.sent (tickI now)) := rfl
  have hN : penL s = [] ↔ (psL s).length = 0 := by
    unfold psL; rw [sortV_length]; exact List.length_eq_zero_iff.symm
  have cp := ac_sync_pick_Push (penL s) hpl
  change AC _ _ _ _ _ [(1, rowL 7 cItem (psL s))] at cp
  refine AC.of_awp (T := T) T_ok hm Tryz.call19 Tryz.func19 rfl rfl rfl ?_
  conv => whnf
  repeat (any_goals (first
    | (refine ⟨fun (h : (_ : Bool) = true) => ?_, fun (h : (_ : Bool) = false) => ?_⟩ <;> (try simp only [decide_eq_true_eq, decide_eq_false_iff_not, Bool.not_eq_true', Bool.not_eq_false', Int.toNat_natCast, beq_iff_eq, decide_eq_decide, beq_eq_false_iff_ne, ne_eq, reduceCtorEq] at h) <;> (conv => whnf))
    | (refine .inl ⟨_, ac_sync_held s hs, ?_⟩; conv => whnf)
    | (refine .inl ⟨_, ac_sync_tick now, ?_⟩; conv => whnf)
    | (refine .inl ⟨_, ac_shadow_Pending s hs, ?_⟩; conv => whnf)
    | (refine .inr (.inr (.inr (.inr ⟨[], [(1, 700001)], _, _, _, cp, rfl, ?_⟩))); conv => whnf)
    | (refine .inl ⟨_, ac_sync_due s.sent (tickI now) (tick_range now), ?_⟩; conv => whnf)
    | (refine .inl ⟨_, (hb (by omega)), ?_⟩; conv => whnf)
    | (refine And.intro (by (try simp only [Int.toNat_natCast]); omega) ?_; conv => whnf)
    | (refine And.intro (show (_ : Bool) = true from by kernel_rfl) ?_; conv => whnf)
    | (refine .inl ⟨wrap64 (by omega), ?_⟩; conv => whnf)))
  · have e0 : penL s = [] := hN.2 (by omega)
    have hB : psB s now = false := by rw [hO, e0]; simp
    rw [(ps_no hB).1, (ps_no hB).2, hB]
    refine ⟨?_, ?_, ?_⟩ <;> (conv => whnf)
    · exact .rfl
    · exact noMsg_cells
    · exact PSub.lit_sb rfl
  · have hB : psB s now = false := by rw [hO, h, Bool.and_false]
    rw [(ps_no hB).1, (ps_no hB).2, hB]
    refine ⟨?_, ?_, ?_⟩ <;> (conv => whnf)
    · exact .rfl
    · exact noMsg_cells
    · exact PSub.lit_sb rfl
  · have hB : psB s now = true := by rw [hO, h, decide_eq_true (show penL s ≠ [] from fun e => by have := hN.1 e; omega)]; rfl
    rw [(ps_yes hB).1, (ps_yes hB).2, hB]
    refine ⟨?_, ?_, ?_⟩ <;> (conv => whnf)
    · exact .rfl
    · exact .rfl
    · exact PSub.lit_sb rfl
theorem ac_r26_Push (s : Shd) (now : Int) (hs : smallSh s) : AC Tryz.prog 20 [.pv (.agg (cShd s)), .pv (vint now)] [] (.pv (.tup [.agg (cShd (psS s now)), .agg (cMsg (psM s now)), vbool (psB s now)])) [] := by
  have hpl : (penL s).length ≤ 1048576 := Nat.le_trans (penL_length s) hs.2
  have hb : (penL s).length ≠ 0 → AC Tryz.prog 63 [.pv (vint 3), .pv (vint s.dev), .pv (vint s.epoch), .pv (roL 7 cItem (penL s))] [] (.pv (.agg (cMsg (batchM 3 s.dev s.epoch (psL s))))) [] := fun h => ac_r26_batch 3 s.dev s.epoch (penL s) hpl (by intro e; rw [e] at h; exact h rfl)
  have hO : psB s now = (decide (penL s ≠ []) && dueB s.sent (tickI now)) := rfl
  have hN : penL s = [] ↔ (penL s).length = 0 := List.length_eq_zero_iff.symm
  refine AC.of_awp (T := T) T_ok hm Tryz.call20 Tryz.func20 rfl rfl rfl ?_
  conv => whnf
  repeat (any_goals (first
    | (refine ⟨fun (h : (_ : Bool) = true) => ?_, fun (h : (_ : Bool) = false) => ?_⟩ <;> (try simp only [decide_eq_true_eq, decide_eq_false_iff_not, Bool.not_eq_true', Bool.not_eq_false', Int.toNat_natCast, beq_iff_eq, decide_eq_decide, beq_eq_false_iff_ne, ne_eq, reduceCtorEq] at h) <;> (conv => whnf))
    | (refine .inl ⟨_, ac_r25_Pending s hs, ?_⟩; conv => whnf)
    | (refine .inl ⟨_, ac_r26_tick now, ?_⟩; conv => whnf)
    | (refine .inl ⟨_, ac_r26_due s.sent (tickI now) (tick_range now), ?_⟩; conv => whnf)
    | (refine .inl ⟨_, (hb (by omega)), ?_⟩; conv => whnf)
    | (refine And.intro (by (try simp only [Int.toNat_natCast]); omega) ?_; conv => whnf)
    | (refine And.intro (show (_ : Bool) = true from by kernel_rfl) ?_; conv => whnf)
    | (refine .inl ⟨wrap64 (by omega), ?_⟩; conv => whnf)))
  · have e0 : penL s = [] := hN.2 (by omega)
    have hB : psB s now = false := by rw [hO, e0]; simp
    rw [(ps_no hB).1, (ps_no hB).2, hB]
    refine ⟨?_, ?_, ?_⟩ <;> (conv => whnf)
    · exact .rfl
    · exact noMsg_cells
    · exact PSub.lit_sb rfl
  · have hB : psB s now = false := by rw [hO, h, Bool.and_false]
    rw [(ps_no hB).1, (ps_no hB).2, hB]
    refine ⟨?_, ?_, ?_⟩ <;> (conv => whnf)
    · exact .rfl
    · exact noMsg_cells
    · exact PSub.lit_sb rfl
  · have hB : psB s now = true := by rw [hO, h, decide_eq_true (show penL s ≠ [] from fun e => by have := hN.1 e; omega)]; rfl
    rw [(ps_yes hB).1, (ps_yes hB).2, hB]
    refine ⟨?_, ?_, ?_⟩ <;> (conv => whnf)
    · exact .rfl
    · exact .rfl
    · exact PSub.lit_sb rfl
theorem ac_r26_Give (H : Hom) (s : Shd) (m : Msg) (hH : smallH H) (hs : smallSh s) (hmi : smallL m.items) : AC Tryz.prog 23 [.pv (.agg (cHom H)), .pv (.agg (cShd s)), .pv (.agg (cMsg m))] [] (.pv (.tup [.agg (cShd (givS H s m)), roL 3 cKey (givK H s m), .agg (cMsg (givM s m)), vbool (givB s m)])) [] := by
  refine AC.of_awp (T := T) T_ok hm Tryz.call23 Tryz.func23 rfl rfl rfl ?_
  conv => whnf
  repeat (any_goals (first
    | (refine ⟨fun (h : (_ : Bool) = true) => ?_, fun (h : (_ : Bool) = false) => ?_⟩ <;> (try simp only [decide_eq_true_eq, decide_eq_false_iff_not, Bool.not_eq_true', Bool.not_eq_false', Int.toNat_natCast, beq_iff_eq, decide_eq_decide, beq_eq_false_iff_ne, ne_eq, reduceCtorEq] at h) <;> (conv => whnf))
    | (refine .inl ⟨_, ac_r25_Report H s m hH hs hmi, ?_⟩; conv => whnf)
    | (refine .inl ⟨_, ac_r25_Done s m.epoch m.version hs, ?_⟩; conv => whnf)
    | (refine And.intro (by (try simp only [Int.toNat_natCast]); omega) ?_; conv => whnf)
    | (refine And.intro (show (_ : Bool) = true from by kernel_rfl) ?_; conv => whnf)
    | (refine .inl ⟨wrap64 (by omega), ?_⟩; conv => whnf)))
  all_goals first
    | (exfalso; omega)
    | (obtain ⟨e1, e2, e3, e4⟩ := giv_rep (H := H) (s := s) (m := m) (by omega)
       rw [e1, e2, e3, e4]
       refine ⟨?_, ?_, ?_, ?_⟩ <;> (conv => whnf)
       · exact .rfl
       · exact .rfl
       · exact msgK_cells _ _ _ _
       · exact PSub.lit_sb rfl)
    | (obtain ⟨e1, e2, e3, e4⟩ := giv_done (H := H) (s := s) (m := m) (by omega)
       rw [e1, e2, e3, e4]
       refine ⟨?_, ?_, ?_, ?_⟩ <;> (conv => whnf)
       · exact .rfl
       · exact PSub.nil_ro _ _
       · exact noMsg_cells
       · exact PSub.lit_sb rfl)
    | (obtain ⟨e1, e2, e3, e4⟩ := giv_no (H := H) (s := s) (m := m) (by omega) (by omega)
       rw [e1, e2, e3, e4]
       refine ⟨?_, ?_, ?_, ?_⟩ <;> (conv => whnf)
       · exact .rfl
       · exact PSub.nil_ro _ _
       · exact noMsg_cells
       · exact PSub.lit_sb rfl)
    | trace_state
end Go.Abs

namespace Go.Abs
open Go.Proofs
set_option maxRecDepth 10000
theorem batch_small (k d e : Int) (l : List Item) : smallL (batchM k d e l).items := Nat.le_trans (batch_few k d e l) (by decide)
theorem psM_small {s : Shd} {now : Int} : smallL (psM s now).items := by
  unfold psM; split
  · exact batch_small _ _ _ _
  · exact Nat.zero_le _
theorem psS_small {s : Shd} {now : Int} (hs : smallSh s) : smallSh (psS s now) := by unfold psS; split <;> exact hs
theorem givM_small {s : Shd} {m : Msg} : smallL (givM s m).items := by unfold givM; split <;> exact Nat.zero_le _
theorem givS_small {H : Hom} {s : Shd} {m : Msg} (hs : smallSh s) : smallSh (givS H s m) := by
  unfold givS; split
  · exact rep_small hs
  · split
    · exact don_small (e := m.epoch) (v := m.version) hs
    · exact hs
theorem givK_length {H : Hom} {s : Shd} {m : Msg} (hs : smallSh s) : (givK H s m).length ≤ 2097152 := by
  unfold givK; split
  · exact repK_length hs
  · exact Nat.zero_le _
theorem ac_law26_SyncHubs (c : SyC) (hc : smallSyC c) : AC Tryz.prog 6 [.pv (.agg (cSyC c))] [] (.pv (vbool true)) [] := by
  have hk := givK_length (H := c.h) (m := c.m) hc.s
  refine AC.of_awp (T := T) T_ok hm Tryz.call6 Tryz.func6 rfl rfl rfl ?_
  conv => whnf
  repeat (any_goals (first
    | (refine ⟨fun (h : (_ : Bool) = true) => ?_, fun (h : (_ : Bool) = false) => ?_⟩ <;> (try simp only [decide_eq_true_eq, decide_eq_false_iff_not, Bool.not_eq_true', Bool.not_eq_false', Int.toNat_natCast, beq_iff_eq, decide_eq_decide, beq_eq_false_iff_ne, ne_eq, reduceCtorEq] at h) <;> (conv => whnf))
    | (refine .inl ⟨_, ac_law26_long c hc, ?_⟩; conv => whnf)
    | (refine .inl ⟨_, ac_law26_awake, ?_⟩; conv => whnf)
    | (refine .inl ⟨_, ac_sync_Push c.s c.now hc.s, ?_⟩; conv => whnf)
    | (refine .inl ⟨_, ac_r26_Push c.s c.now hc.s, ?_⟩; conv => whnf)
    | (refine .inl ⟨_, ac_r25_Same (psS c.s c.now) (psS c.s c.now) (psS_small hc.s), ?_⟩; conv => whnf)
    | (refine .inl ⟨_, ac_r26_Alike (psM c.s c.now) (psM c.s c.now) psM_small, ?_⟩; conv => whnf)
    | (refine .inl ⟨_, ac_sync_Equal c.s c.a hc.s hc.a, ?_⟩; conv => whnf)
    | (refine .inl ⟨_, ac_r26_Equal c.s c.a hc.s hc.a, ?_⟩; conv => whnf)
    | (refine .inl ⟨_, ac_sync_Give c.h c.s c.m hc.h hc.s hc.m, ?_⟩; conv => whnf)
    | (refine .inl ⟨_, ac_r26_Give c.h c.s c.m hc.h hc.s hc.m, ?_⟩; conv => whnf)
    | (refine .inl ⟨_, ac_r25_Same (givS c.h c.s c.m) (givS c.h c.s c.m) (givS_small hc.s), ?_⟩; conv => whnf)
    | (refine .inl ⟨_, ac_r22_SameKeys (givK c.h c.s c.m) (givK c.h c.s c.m) (by omega), ?_⟩; conv => whnf)
    | (refine .inl ⟨_, ac_r26_Alike (givM c.s c.m) (givM c.s c.m) givM_small, ?_⟩; conv => whnf)
    | (refine And.intro (by (try simp only [Int.toNat_natCast]); omega) ?_; conv => whnf)
    | (refine And.intro (show (_ : Bool) = true from by kernel_rfl) ?_; conv => whnf)
    | (refine .inl ⟨wrap64 (by omega), ?_⟩; conv => whnf)))
  all_goals first
    | exact .rfl
    | exact absurd trivial h
    | exact absurd rfl h
    | (exfalso; simp at h; done)
    | exact PSub.sb (by simp)
    | trace_state
end Go.Abs
