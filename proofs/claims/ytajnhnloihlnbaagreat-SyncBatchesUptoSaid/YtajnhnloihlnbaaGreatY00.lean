/- YtajnhnloihlnbaaGreatY00: walks and contracts. -/
import Derived.Test.YtajnhnloihlnbaaGreatX07

set_option linter.unusedVariables false
set_option linter.unusedSimpArgs false
set_option linter.unusedSectionVars false

namespace Go.Abs
open Go.Proofs
set_option maxRecDepth 10000
theorem ac_r25_Pending (s : Shd) (hs : smallSh s) : AC Tryz.prog 27 [.pv (.agg (cShd s))] [] (.pv (roL 7 cItem (penL s))) [] := by
  have h2 : s.desired.length ≤ 1048576 := hs.2
  refine AC.of_awp (T := T) T_ok hm Tryz.call27 Tryz.func27 rfl rfl rfl ?_
  conv => whnf
  refine loop_k (ι := Nat) [1] [1] (fun k => k ≤ s.desired.length ∧ True) (fun k => s.desired.length - k) 0 (fun k => [(3, .own 500), (4, .pv (vint k))]) (fun k => [(500, rowL 7 cItem (isortR vLt ((s.desired.take k).filter (penF s))))]) [] ⟨Nat.zero_le _, trivial⟩ ?_ (fun k hk => ?_)
  · (repeat' (first | exact PSub.rfl | exact rfl | exact PSubs.rfl | exact trivial | exact PSub.lit_sb rfl | refine And.intro ?_ ?_))
  obtain ⟨hkn, hinv⟩ := hk
  conv => whnf
  have hfl := fil_length (penF s) s.desired k
  have hil := isortR_length (lt := vLt) ((s.desired.take k).filter (penF s))
  refine ⟨fun h => ?_, fun h => ?_⟩ <;> (try simp only [decide_eq_true_eq, decide_eq_false_iff_not, Bool.not_eq_true', Bool.not_eq_false', Int.toNat_natCast, beq_iff_eq, decide_eq_decide, beq_eq_false_iff_ne, ne_eq, reduceCtorEq] at h) <;> (conv => whnf)
  · have hfs := fil_snoc (penF s) (l := s.desired) (k := k) (by omega)
    repeat (any_goals (first
      | (refine ⟨fun (h : (_ : Bool) = true) => ?_, fun (h : (_ : Bool) = false) => ?_⟩ <;> (try simp only [decide_eq_true_eq, decide_eq_false_iff_not, Bool.not_eq_true', Bool.not_eq_false', Int.toNat_natCast, beq_iff_eq, decide_eq_decide, beq_eq_false_iff_ne, ne_eq, reduceCtorEq] at h) <;> (conv => whnf))
      | (refine And.intro (by (try simp only [Int.toNat_natCast]); omega) ?_; conv => whnf)
      | (refine And.intro (show (_ : Bool) = true from by kernel_rfl) ?_; conv => whnf)
      | (refine .inl ⟨wrap64 (by omega), ?_⟩; conv => whnf)))
    · rw [if_neg (by simpa [penF] using h), List.append_nil] at hfs
      refine ⟨k + 1, [], ⟨by omega, trivial⟩, by omega, ?_⟩
      rw [hfs]
      (repeat' (first | exact PSub.rfl | exact rfl | exact PSubs.rfl | exact trivial | exact PSub.lit_sb rfl | refine And.intro ?_ ?_))
      all_goals (intro i hi; exact PSubs.rfl)
    · rw [if_pos (show penF s (s.desired.getD k default) = true from decide_eq_true (by omega))] at hfs
      generalize (s.desired.take k).filter (penF s) = D at *
      obtain ⟨x, hx0⟩ : ∃ x, x = s.desired.getD k default := ⟨_, rfl⟩
      rw [← hx0] at hfs
      have hll : (D ++ [x]).length = D.length + 1 := by simp
      have hS0 : srtSeg vLt (D ++ [x]) 0 D.length = isortR vLt D ++ [x] := by unfold srtSeg seg; simp
      have hS1 : srtSeg vLt (D ++ [x]) 0 (D.length + 1) = isortR vLt (D ++ [x]) := by unfold srtSeg seg; rw [show (D ++ [x]).take (D.length + 1) = D ++ [x] from List.take_of_length_le (by simp)]; simp
      have hLn : (D ++ [x]).getD D.length default = x := by simp [List.getD]
      have hsl := srtSeg_length (lt := vLt) (l := D ++ [x]) (a := 0) (b := D.length) (by omega) (by omega)
      generalize hLd : D ++ [x] = L at *
      generalize hn : D.length = n at *
      refine loop_k (ι := Nat) [1, 4] [1] (fun j => j ≤ n ∧ ∀ q, j ≤ q → q < n → vLt (L.getD n default) ((srtSeg vLt L 0 n).getD q default) = true) (fun j => j) n (fun j => [(3, .own 501), (5, .pv (vint j))]) (fun j => [(501, rowL 7 cItem (rot (srtSeg vLt L 0 n) j n (n + 1)))]) [(501, 30)] ⟨by omega, fun q q1 q2 => by omega⟩ ?_ (fun j hj => ?_)
      · rw [rot_none (by omega), hS0, hx0]
        (repeat' (first | exact PSub.rfl | exact rfl | exact PSubs.rfl | exact trivial | exact PSub.lit_sb rfl | refine And.intro ?_ ?_))
        · simp [hil]
        · refine rows_snocF (fun i hi => by simp only [if_pos hi]; exact PSubs.rfl) (by simp only [if_neg (Nat.lt_irrefl _), Nat.sub_self]; exact PSubs.rfl)
        all_goals first | exact PSub.int (by omega) | trace_state
      obtain ⟨hj2, hj3⟩ := hj
      have hrl := rot_length (srtSeg vLt L 0 n) j n (n + 1)
      have ht : (↑j - 1 : Int).toNat = j - 1 := by omega
      conv => whnf
      repeat (any_goals (first
        | (refine ⟨fun (h : (_ : Bool) = true) => ?_, fun (h : (_ : Bool) = false) => ?_⟩ <;> (try simp only [decide_eq_true_eq, decide_eq_false_iff_not, Bool.not_eq_true', Bool.not_eq_false', Int.toNat_natCast, beq_iff_eq, decide_eq_decide, beq_eq_false_iff_ne, ne_eq, reduceCtorEq] at h) <;> (conv => whnf))
        | (refine And.intro (by (try simp only [Int.toNat_natCast]); omega) ?_; conv => whnf)
        | (refine And.intro (show (_ : Bool) = true from by kernel_rfl) ?_; conv => whnf)
        | (refine .inl ⟨wrap64 (by omega), ?_⟩; conv => whnf)))
      · have hx : (rot (srtSeg vLt L 0 n) j n (n + 1)).getD j default = L.getD n default := by
          rw [rot_getD (by omega), if_pos (by omega), srtSeg_getD (by omega) (by omega), if_neg (by omega), if_neg (by omega)]
          congr 1; omega
        have hy : (rot (srtSeg vLt L 0 n) j n (n + 1)).getD (j - 1) default = (srtSeg vLt L 0 n).getD (j - 1) default := by
          rw [rot_getD (by omega), if_neg (by omega), if_neg (by omega)]
        have h2 : vLt ((rot (srtSeg vLt L 0 n) j n (n + 1)).getD j default) ((rot (srtSeg vLt L 0 n) j n (n + 1)).getD (j - 1) default) = true := by
          rw [← ht]; exact decide_eq_true h
        rw [hx, hy] at h2
        rw [ht]
        refine ⟨j - 1, [], ⟨by omega, fun q q1 q2 => ?_⟩, by omega, ?_⟩
        · by_cases e : q = j - 1
          · rw [e]; exact h2
          · exact hj3 q (by omega) q2
        rw [← rot_down (by omega) hj2 (by omega)]
        have hr := fun q => swp_row (l := rot (srtSeg vLt L 0 n) j n (n + 1)) (i := j) (j := j - 1) (by omega) (by omega) q
        (repeat' (first | exact PSub.rfl | exact rfl | exact PSubs.rfl | exact trivial | exact PSub.lit_sb rfl | refine And.intro ?_ ?_))
        · rw [swp_length]
        · intro q hq; exact hr q
        · exact PSub.int (by omega)
      · have hx : (rot (srtSeg vLt L 0 n) j n (n + 1)).getD j default = L.getD n default := by
          rw [rot_getD (by omega), if_pos (by omega), srtSeg_getD (by omega) (by omega), if_neg (by omega), if_neg (by omega)]
          congr 1; omega
        have hy : (rot (srtSeg vLt L 0 n) j n (n + 1)).getD (j - 1) default = (srtSeg vLt L 0 n).getD (j - 1) default := by
          rw [rot_getD (by omega), if_neg (by omega), if_neg (by omega)]
        have h2 : vLt ((rot (srtSeg vLt L 0 n) j n (n + 1)).getD j default) ((rot (srtSeg vLt L 0 n) j n (n + 1)).getD (j - 1) default) = false := by
          rw [← ht]; exact decide_eq_false h
        rw [hx, hy] at h2
        refine ⟨k + 1, [(500, 501)], ⟨by omega, trivial⟩, by omega, ?_⟩
        rw [hfs, ← hS1, ins_done vLt_swo (Nat.zero_le _) hj2 (by omega) hj3 (fun _ => h2)]
        (repeat' (first | exact PSub.rfl | exact rfl | exact PSubs.rfl | exact trivial | exact PSub.lit_sb rfl | refine And.intro ?_ ?_))
        all_goals (intro q hq; exact PSubs.rfl)
      · refine ⟨k + 1, [(500, 501)], ⟨by omega, trivial⟩, by omega, ?_⟩
        rw [hfs, ← hS1, ins_done vLt_swo (Nat.zero_le _) hj2 (by omega) hj3 (fun x => by omega)]
        (repeat' (first | exact PSub.rfl | exact rfl | exact PSubs.rfl | exact trivial | exact PSub.lit_sb rfl | refine And.intro ?_ ?_))
        all_goals (intro q hq; exact PSubs.rfl)
  · have e : k = s.desired.length := by omega
    subst e
    rw [List.take_length] at *
    repeat (any_goals (first
      | (refine ⟨fun (h : (_ : Bool) = true) => ?_, fun (h : (_ : Bool) = false) => ?_⟩ <;> (try simp only [decide_eq_true_eq, decide_eq_false_iff_not, Bool.not_eq_true', Bool.not_eq_false', Int.toNat_natCast, beq_iff_eq, decide_eq_decide, beq_eq_false_iff_ne, ne_eq, reduceCtorEq] at h) <;> (conv => whnf))
      | (refine And.intro (by (try simp only [Int.toNat_natCast]); omega) ?_; conv => whnf)
      | (refine And.intro (show (_ : Bool) = true from by kernel_rfl) ?_; conv => whnf)
      | (refine .inl ⟨wrap64 (by omega), ?_⟩; conv => whnf)))
    exact .rfl
end Go.Abs

namespace Go.Abs
open Go.Proofs
variable [Globals]
theorem sortLow_srt (l : List Item) : SrtO lowLt (sortLow l) := (isortR_stb lowLt_swo l).1
end Go.Abs

namespace Go.Abs
open Go.Proofs
variable [Globals]
theorem mostV_le {l : List Item} {n : Int} (h : ∀ x ∈ l, x.version ≤ n) : ∀ {k : Nat}, 0 < l.length → k ≤ l.length → mostV l k ≤ n
  | 0, h0, _ => h _ (getD_mem h0)
  | k + 1, h0, hk => by
    have h1 := mostV_le h (k := k) h0 (by omega)
    have h2 := h _ (getD_mem (l := l) (i := k) (by omega))
    rw [mostV]; omega
theorem mostV_ge {l : List Item} : ∀ {k i : Nat}, i < k → (l.getD i default).version ≤ mostV l k
  | k + 1, i, hi => by
    rw [mostV]
    by_cases e : i = k
    · subst e; omega
    · have := mostV_ge (l := l) (k := k) (i := i) (by omega)
      omega
theorem batch_one {k d e : Int} {l : List Item} (h : l ≠ []) : OneOk (batchM k d e (sortV l)) l := by
  have hl : 0 < l.length := List.length_pos_iff.2 h
  have hne : sortV l ≠ [] := fun e2 => by
    have := congrArg List.length e2
    rw [sortV_length] at this
    exact h (List.eq_nil_of_length_eq_zero this)
  have hlen : (batchM k d e (sortV l)).items.length = min 7 l.length := by
    show (sortLow ((sortV l).take 7)).length = _
    rw [sortLow_length, List.length_take, sortV_length]
  have hte := take_le (l := l) (n := 7)
  obtain ⟨y, hy, ey⟩ := lastV_mem (take_ne hne)
  refine ⟨by omega, by omega, fun i hi => ?_, fun i h0 hi => ?_, ?_, ?_, by omega⟩
  · have := getD_mem hi
    exact mem_sortV.1 (List.mem_of_mem_take (mem_batch.1 this))
  · have hs := sortLow_srt ((sortV l).take 7)
    unfold SrtO at hs
    rw [List.pairwise_iff_getElem] at hs
    have hi2 : i < (sortLow ((sortV l).take 7)).length := hi
    have := hs (i - 1) i (by omega) hi2 (by omega)
    have g1 : (sortLow ((sortV l).take 7)).getD i default = (sortLow ((sortV l).take 7))[i] := by rw [List.getD_eq_getElem?_getD, List.getElem?_eq_getElem hi2]; rfl
    have g2 : (sortLow ((sortV l).take 7)).getD (i - 1) default = (sortLow ((sortV l).take 7))[i - 1]'(by omega) := by rw [List.getD_eq_getElem?_getD, List.getElem?_eq_getElem (by omega)]; rfl
    show keyLess ((sortLow ((sortV l).take 7)).getD i default).key ((sortLow ((sortV l).take 7)).getD (i - 1) default).key = false
    rw [g1, g2]
    rw [lowLt_false] at this
    rcases this with h3 | h3
    · exact keyLess_asymm h3
    · rw [h3.1]; exact keyLess_irrefl _
  · show lastV ((sortV l).take 7) = mostV (sortLow ((sortV l).take 7)) (sortLow ((sortV l).take 7)).length
    have hpos : 0 < (sortLow ((sortV l).take 7)).length := by rw [sortLow_length, List.length_take, sortV_length]; omega
    have h1 := mostV_le (l := sortLow ((sortV l).take 7)) (n := lastV ((sortV l).take 7)) (fun x hx => hte x (mem_sortLow.1 hx)) hpos (Nat.le_refl _)
    have hy2 := mem_sortLow.2 hy
    obtain ⟨i, hi, ei⟩ := List.getElem_of_mem hy2
    have h2 := mostV_ge (l := sortLow ((sortV l).take 7)) hi
    have g1 : (sortLow ((sortV l).take 7)).getD i default = y := by rw [List.getD_eq_getElem?_getD, List.getElem?_eq_getElem hi, ← ei]; rfl
    rw [g1] at h2
    omega
  · show lessN l (lastV ((sortV l).take 7)) < _
    rw [hlen]
    have hp : (sortV l).Perm l := isortR_perm _ _
    have e1 : lessN l (lastV ((sortV l).take 7)) = lessN (sortV l) (lastV ((sortV l).take 7)) := ((hp.filter _).length_eq).symm
    have hdg := drop_ge (l := l) (n := 7) (take_ne hne)
    rw [e1]
    generalize hv : lastV ((sortV l).take 7) = v at *
    have e2 : lessN (sortV l) v = lessN ((sortV l).take 7) v := by
      unfold lessN
      have : (sortV l).filter (fun x => decide (x.version < v)) = ((sortV l).take 7).filter (fun x => decide (x.version < v)) ++ ((sortV l).drop 7).filter (fun x => decide (x.version < v)) := by
        rw [← List.filter_append, List.take_append_drop]
      rw [this]
      have hnil : ((sortV l).drop 7).filter (fun x => decide (x.version < v)) = [] := by
        rw [List.filter_eq_nil_iff]
        intro x hx h2
        have := hdg x hx
        have := of_decide_eq_true h2
        omega
      rw [hnil, List.append_nil]
    rw [e2]
    have h3 : lessN ((sortV l).take 7) v < ((sortV l).take 7).length := by
      unfold lessN
      rcases Nat.lt_or_ge ((((sortV l).take 7).filter fun x => decide (x.version < v)).length) ((sortV l).take 7).length with h4 | h4
      · exact h4
      · exfalso
        have h5 := List.filter_sublist (p := fun x : Item => decide (x.version < v)) (l := (sortV l).take 7)
        have h6 := h5.eq_of_length_le h4
        rw [← h6] at hy
        have := of_decide_eq_true (List.mem_filter.1 hy).2
        omega
    rw [List.length_take, sortV_length] at h3
    exact h3
end Go.Abs

namespace Go.Abs
open Go.Proofs
set_option maxRecDepth 10000
theorem ac_sync_Push_1 (x : Item) : AC Tryz.prog 58 [.pv (.agg (cItem x))] [] (.pv (vbool true)) [] := by
  refine AC.of_awp (T := T) T_ok hm Tryz.call58 Tryz.func58 rfl rfl rfl ?_
  conv => whnf
  exact PSub.lit_sb rfl
theorem ac_sync_pick_Push (l : List Item) (hl : smallL l) : AC Tryz.prog 45 [.pv (roL 7 cItem l), .fn 58 []] [] (.own 1) [(1, rowL 7 cItem (sortV l))] := by
  have hl : l.length ≤ 1048576 := hl
  obtain ⟨p, hpd⟩ : ∃ p : Item → Bool, p = fun x => true := ⟨_, rfl⟩
  have hc : ∀ x, AC Tryz.prog 58 [.pv (.agg (cItem x))] [] (.pv (vbool (p x))) [] := fun x => by rw [hpd]; exact ac_sync_Push_1 x
  have hp : ∀ x : Item, p x = true → p x = true := fun x h => h
  have hq : ∀ x : Item, p x = false → ¬ p x = true := fun x h => by rw [h]; decide
  have hab : l = l.filter p := by rw [hpd]; exact (List.filter_eq_self.2 fun _ _ => rfl).symm
  have hgoal : sortV l = sortV (l.filter p) := by rw [← hab]
  rw [hgoal]
  clear hpd hab hgoal
  refine AC.of_awp_gen (T := T) T_ok hm Tryz.call45 Tryz.func45 rfl rfl rfl rfl rfl rfl ?_
  conv => whnf
  refine loop_k (ι := Nat) [1, 8, 9] [] (fun k => k ≤ l.length ∧ True) (fun k => l.length - k) 0 (fun k => [(5, .own 500), (10, .pv (vint k))]) (fun k => [(500, rowL 7 cItem ((l.take k).filter p))]) [] ⟨Nat.zero_le _, trivial⟩ ?_ (fun k hk => ?_)
  · (repeat' (first | exact PSub.rfl | exact rfl | exact PSubs.rfl | exact trivial | exact PSub.lit_sb rfl | refine And.intro ?_ ?_))
  obtain ⟨hkn, hinv⟩ := hk
  conv => whnf
  have hfl := fil_length p l k
  repeat (any_goals (first
    | (refine ⟨fun (h : (_ : Bool) = true) => ?_, fun (h : (_ : Bool) = false) => ?_⟩ <;> (try simp only [decide_eq_true_eq, decide_eq_false_iff_not, Bool.not_eq_true', Bool.not_eq_false', Int.toNat_natCast, beq_iff_eq, decide_eq_decide, beq_eq_false_iff_ne, ne_eq, reduceCtorEq] at h) <;> (conv => whnf))
    | (refine .inl ⟨_, hc (l.getD k default), ?_⟩; conv => whnf)
    | (refine And.intro (by (try simp only [Int.toNat_natCast]); omega) ?_; conv => whnf)
    | (refine And.intro (show (_ : Bool) = true from by kernel_rfl) ?_; conv => whnf)
    | (refine .inl ⟨wrap64 (by omega), ?_⟩; conv => whnf)))
  · have hfs := fil_snoc p (l := l) (k := k) (by omega)
    rw [if_pos (hp _ h)] at hfs
    refine ⟨k + 1, [(500, 20)], ⟨by omega, trivial⟩, by omega, ?_⟩
    rw [hfs]
    (repeat' (first | exact PSub.rfl | exact rfl | exact PSubs.rfl | exact trivial | exact PSub.lit_sb rfl | refine And.intro ?_ ?_))
    · simp [-List.getD_eq_getElem?_getD]
    · refine rows_snocF (fun i hi => by simp only [if_pos hi]; exact PSubs.rfl) (by simp only [if_neg (Nat.lt_irrefl _), Nat.sub_self]; exact PSubs.rfl)
  · have hfs := fil_snoc p (l := l) (k := k) (by omega)
    rw [if_neg (hq _ h), List.append_nil] at hfs
    refine ⟨k + 1, [], ⟨by omega, trivial⟩, by omega, ?_⟩
    rw [hfs]
    (repeat' (first | exact PSub.rfl | exact rfl | exact PSubs.rfl | exact trivial | exact PSub.lit_sb rfl | refine And.intro ?_ ?_))
    all_goals (intro i hi; exact PSubs.rfl)
  · have e : k = l.length := by omega
    subst e
    rw [List.take_length] at *
    have c := ac_slices_SortStableFunc_Item 92 Tryz.call92 (cmpOf oldLt) oldLt oldLt_swo (cmpOf_s oldLt) ac_sync_byVersion (l.filter p) (by omega)
    repeat (any_goals (first
      | (refine ⟨fun (h : (_ : Bool) = true) => ?_, fun (h : (_ : Bool) = false) => ?_⟩ <;> (try simp only [decide_eq_true_eq, decide_eq_false_iff_not, Bool.not_eq_true', Bool.not_eq_false', Int.toNat_natCast, beq_iff_eq, decide_eq_decide, beq_eq_false_iff_ne, ne_eq, reduceCtorEq] at h) <;> (conv => whnf))
      | (refine .inr (.inr (.inr (.inr ⟨[(900000, 500)], [], _, _, _, c, rfl, ?_⟩))); conv => whnf)
      | (refine And.intro (by (try simp only [Int.toNat_natCast]); omega) ?_; conv => whnf)
      | (refine And.intro (show (_ : Bool) = true from by kernel_rfl) ?_; conv => whnf)
      | (refine .inl ⟨wrap64 (by omega), ?_⟩; conv => whnf)))
    refine ⟨[(1, 500)], ?_⟩
    (repeat' (first | exact PSub.rfl | exact rfl | exact PSubs.rfl | exact trivial | exact PSub.lit_sb rfl | refine And.intro ?_ ?_))
    all_goals (intro i hi; exact PSubs.rfl)
end Go.Abs

namespace Go.Abs
open Go.Proofs
set_option maxRecDepth 10000
theorem ac_r26_Above (l : List Item) (n : Int) (hl : smallL l) : AC Tryz.prog 16 [.pv (roL 7 cItem l), .pv (vint n)] [] (.pv (roL 7 cItem (aboveL l n))) [] := by
  have hl : l.length ≤ 1048576 := hl
  obtain ⟨p, hpd⟩ : ∃ p : Item → Bool, p = fun x => decide (n < x.version) := ⟨_, rfl⟩
  have hp : ∀ x : Item, n < x.version → p x = true := fun x h => by rw [hpd]; exact decide_eq_true h
  have hq : ∀ x : Item, ¬ n < x.version → ¬ p x = true := fun x h => by rw [hpd]; simpa using h
  have hab : aboveL l n = l.filter p := by rw [hpd]; rfl
  rw [hab]
  clear hpd hab
  refine AC.of_awp (T := T) T_ok hm Tryz.call16 Tryz.func16 rfl rfl rfl ?_
  conv => whnf
  refine loop_k (ι := Nat) [0, 1] [] (fun k => k ≤ l.length ∧ True) (fun k => l.length - k) 0 (fun k => [(5, .own 500), (6, .pv (vint k))]) (fun k => [(500, rowL 7 cItem ((l.take k).filter p))]) [] ⟨Nat.zero_le _, trivial⟩ ?_ (fun k hk => ?_)
  · (repeat' (first | exact PSub.rfl | exact rfl | exact PSubs.rfl | exact trivial | exact PSub.lit_sb rfl | refine And.intro ?_ ?_))
  obtain ⟨hkn, hinv⟩ := hk
  conv => whnf
  have hfl := fil_length p l k
  repeat (any_goals (first
    | (refine ⟨fun (h : (_ : Bool) = true) => ?_, fun (h : (_ : Bool) = false) => ?_⟩ <;> (try simp only [decide_eq_true_eq, decide_eq_false_iff_not, Bool.not_eq_true', Bool.not_eq_false', Int.toNat_natCast, beq_iff_eq, decide_eq_decide, beq_eq_false_iff_ne, ne_eq, reduceCtorEq] at h) <;> (conv => whnf))
    | (refine And.intro (by (try simp only [Int.toNat_natCast]); omega) ?_; conv => whnf)
    | (refine And.intro (show (_ : Bool) = true from by kernel_rfl) ?_; conv => whnf)
    | (refine .inl ⟨wrap64 (by omega), ?_⟩; conv => whnf)))
  · have hfs := fil_snoc p (l := l) (k := k) (by omega)
    rw [if_pos (hp _ h)] at hfs
    refine ⟨k + 1, [(500, 26)], ⟨by omega, trivial⟩, by omega, ?_⟩
    rw [hfs]
    (repeat' (first | exact PSub.rfl | exact rfl | exact PSubs.rfl | exact trivial | exact PSub.lit_sb rfl | refine And.intro ?_ ?_))
    · simp [-List.getD_eq_getElem?_getD]
    · refine rows_snocF (fun i hi => by simp only [if_pos hi]; exact PSubs.rfl) (by simp only [if_neg (Nat.lt_irrefl _), Nat.sub_self]; exact PSubs.rfl)
  · have hfs := fil_snoc p (l := l) (k := k) (by omega)
    rw [if_neg (hq _ h), List.append_nil] at hfs
    refine ⟨k + 1, [], ⟨by omega, trivial⟩, by omega, ?_⟩
    rw [hfs]
    (repeat' (first | exact PSub.rfl | exact rfl | exact PSubs.rfl | exact trivial | exact PSub.lit_sb rfl | refine And.intro ?_ ?_))
    all_goals (intro i hi; exact PSubs.rfl)
  · have e : k = l.length := by omega
    subst e
    rw [List.take_length] at *
    exact .rfl
end Go.Abs

namespace Go.Abs
open Go.Proofs
set_option maxRecDepth 10000
theorem psL_small {s : Shd} (hs : smallSh s) : smallL (psL s) := by
  have h1 := penL_length s
  have h2 : s.desired.length ≤ 1048576 := hs.2
  show (sortV _).length ≤ 1048576
  rw [sortV_length]; omega
theorem ps_no {s : Shd} {now : Int} (h : psB s now = false) : psS s now = s ∧ psM s now = noMsg := by
  rw [psS, psM, if_neg (by rw [h]; decide), if_neg (by rw [h]; decide)]; exact ⟨rfl, rfl⟩
theorem ps_yes {s : Shd} {now : Int} (h : psB s now = true) : psS s now = { s with sent := tickI now } ∧ psM s now = batchM 3 s.dev s.epoch (psL s) := by
  rw [psS, psM, if_pos h, if_pos h]; exact ⟨rfl, rfl⟩
theorem ac_sync_Push (s : Shd) (now : Int) (hs : smallSh s) : AC Tryz.prog 19 [.pv (.agg (cShd s)), .pv (vint now)] [] (.pv (.tup [.agg (cShd (psS s now)), .agg (cMsg (psM s now)), vbool (psB s now)])) [] := by
  have hpl : (penL s).length ≤ 1048576 := Nat.le_trans (penL_length s) hs.2
  have hb : (psL s).length ≠ 0 → AC Tryz.prog 60 [.pv (vint 3), .pv (vint s.dev), .pv (vint s.epoch), .pv (roL 7 cItem (psL s))] [] (.pv (.agg (cMsg (batchM 3 s.dev s.epoch (psL s))))) [] := fun h => ac_sync_batch 3 s.dev s.epoch (psL s) (psL_small hs) (by intro e; rw [e] at h; exact h rfl)
  have hO : psB s now = (decide (penL s ≠ []) && dueB s.sent (tickI now)) := rfl
  have hN : penL s = [] ↔ (psL s).length = 0 := by
    unfold psL; rw [sortV_length]; exact List.length_eq_zero_iff.symm
  have cp := ac_sync_pick_Push (penL s) hpl
  change AC _ _ _ _ _ [(1, rowL 7 cItem (psL s))] at cp
  refine AC.of_awp (T := T) T_ok hm Tryz.call19 Tryz.func19 rfl rfl rfl ?_
  conv => whnf
  repeat (any_goals (first
    | (refine ⟨fun (h : (_ : Bool) = true) => ?_, fun (h : (_ : Bool) = false) => ?_⟩ <;> (try simp only [decide_eq_true_eq, decide_eq_false_iff_not, Bool.not_eq_true', Bool.not_eq_false', Int.toNat_natCast, beq_iff_eq, decide_eq_decide, beq_eq_false_iff_ne, ne_eq, reduceCtorEq] at h) <;> (conv => whnf))
    | (refine .inl ⟨_, ac_sync_held s hs, ?_⟩; conv => whnf)
    | (refine .inl ⟨_, ac_sync_tick now, ?_⟩; conv => whnf)
    | (refine .inl ⟨_, ac_shadow_Pending s hs, ?_⟩; conv => whnf)
    | (refine .inr (.inr (.inr (.inr ⟨[], [(1, 700001)], _, _, _, cp, rfl, ?_⟩))); conv => whnf)
    | (refine .inl ⟨_, ac_sync_due s.sent (tickI now) (tick_range now), ?_⟩; conv => whnf)
    | (refine .inl ⟨_, (hb (by omega)), ?_⟩; conv => whnf)
    | (refine And.intro (by (try simp only [Int.toNat_natCast]); omega) ?_; conv => whnf)
    | (refine And.intro (show (_ : Bool) = true from by kernel_rfl) ?_; conv => whnf)
    | (refine .inl ⟨wrap64 (by omega), ?_⟩; conv => whnf)))
  · have e0 : penL s = [] := hN.2 (by omega)
    have hB : psB s now = false := by rw [hO, e0]; simp
    rw [(ps_no hB).1, (ps_no hB).2, hB]
    refine ⟨?_, ?_, ?_⟩ <;> (conv => whnf)
    · exact .rfl
    · exact noMsg_cells
    · exact PSub.lit_sb rfl
  · have hB : psB s now = false := by rw [hO, h, Bool.and_false]
    rw [(ps_no hB).1, (ps_no hB).2, hB]
    refine ⟨?_, ?_, ?_⟩ <;> (conv => whnf)
    · exact .rfl
    · exact noMsg_cells
    · exact PSub.lit_sb rfl
  · have hB : psB s now = true := by rw [hO, h, decide_eq_true (show penL s ≠ [] from fun e => by have := hN.1 e; omega)]; rfl
    rw [(ps_yes hB).1, (ps_yes hB).2, hB]
    refine ⟨?_, ?_, ?_⟩ <;> (conv => whnf)
    · exact .rfl
    · exact .rfl
    · exact PSub.lit_sb rfl
end Go.Abs

namespace Go.Abs
open Go.Proofs
set_option maxRecDepth 10000
theorem mem_take_succ {l : List Item} {x : Item} {j : Nat} (hj : j < l.length) : x ∈ l.take (j + 1) ↔ x ∈ l.take j ∨ l.getD j default = x := by
  rw [take_succ_getD hj, List.mem_append, List.mem_singleton]
  exact or_congr_right eq_comm
theorem less_snoc {l : List Item} {n : Int} {j : Nat} (hj : j < l.length) : lessN (l.take (j + 1)) n = lessN (l.take j) n + if (l.getD j default).version < n then 1 else 0 := by
  unfold lessN
  rw [fil_snoc _ hj, List.length_append]
  congr 1
  simp only [decide_eq_true_eq]
  split <;> rfl
theorem less_le {l : List Item} {n : Int} {j : Nat} : lessN (l.take j) n ≤ j := fil_length _ _ _
theorem ac_law26_one (m : Msg) (l : List Item) (hl : smallL l) (ho : OneOk m l) : AC Tryz.prog 26 [.pv (.agg (cMsg m)), .pv (roL 7 cItem l)] [] (.pv (vbool true)) [] := by
  have hl : l.length ≤ 1048576 := hl
  obtain ⟨o1, o2, o3, o4, o5, o6, o7⟩ := ho
  refine AC.of_awp (T := T) T_ok hm Tryz.call26 Tryz.func26 rfl rfl rfl ?_
  conv => whnf
  repeat (any_goals (first
    | (refine ⟨fun (h : (_ : Bool) = true) => ?_, fun (h : (_ : Bool) = false) => ?_⟩ <;> (try simp only [decide_eq_true_eq, decide_eq_false_iff_not, Bool.not_eq_true', Bool.not_eq_false', Int.toNat_natCast, beq_iff_eq, decide_eq_decide, beq_eq_false_iff_ne, ne_eq, reduceCtorEq] at h) <;> (conv => whnf))
    | (refine And.intro (by (try simp only [Int.toNat_natCast]); omega) ?_; conv => whnf)
    | (refine And.intro (show (_ : Bool) = true from by kernel_rfl) ?_; conv => whnf)
    | (refine .inl ⟨wrap64 (by omega), ?_⟩; conv => whnf)))
  · exfalso; omega
  · exfalso; omega
  refine loop_k (ι := Nat) [1, 2] [2] (fun k => k ≤ m.items.length) (fun k => m.items.length - k) 0 (fun k => [(5, .pv (vint (mostV m.items k))), (6, .pv (vint k))]) (fun _ => []) [] (Nat.zero_le _) ?_ (fun k hk => ?_)
  · (repeat' (first | exact PSub.rfl | exact rfl | exact PSubs.rfl | exact trivial | exact PSub.lit_sb rfl | refine And.intro ?_ ?_))
  have hmx : mostV m.items (k + 1) = max (mostV m.items k) (m.items.getD k default).version := rfl
  conv => whnf
  refine ⟨fun h => ?_, fun h => ?_⟩ <;> (try simp only [decide_eq_true_eq, decide_eq_false_iff_not, Bool.not_eq_true', Bool.not_eq_false', Int.toNat_natCast, beq_iff_eq, decide_eq_decide, beq_eq_false_iff_ne, ne_eq, reduceCtorEq] at h) <;> (conv => whnf)
  · have hkl : k < m.items.length := by omega
    have hin := o3 k hkl
    have hasc := o4 k
    repeat (any_goals (first
      | (refine ⟨fun (h : (_ : Bool) = true) => ?_, fun (h : (_ : Bool) = false) => ?_⟩ <;> (try simp only [decide_eq_true_eq, decide_eq_false_iff_not, Bool.not_eq_true', Bool.not_eq_false', Int.toNat_natCast, beq_iff_eq, decide_eq_decide, beq_eq_false_iff_ne, ne_eq, reduceCtorEq] at h) <;> (conv => whnf))
      | (refine And.intro (by (try simp only [Int.toNat_natCast]); omega) ?_; conv => whnf)
      | (refine And.intro (show (_ : Bool) = true from by kernel_rfl) ?_; conv => whnf)
      | (refine .inl ⟨wrap64 (by omega), ?_⟩; conv => whnf)))
    refine loop_k (ι := Nat) [1, 2, 5, 6] [2] (fun j => j ≤ l.length) (fun j => l.length - j) 0 (fun j => [(7, .pv (.sb (decide (m.items.getD k default ∈ l.take j)))), (8, .pv (vint j))]) (fun _ => []) [] (Nat.zero_le _) ?_ (fun j hj => ?_)
    · (repeat' (first | exact PSub.rfl | exact rfl | exact PSubs.rfl | exact trivial | exact PSub.lit_sb rfl | refine And.intro ?_ ?_))
      all_goals exact PSub.lit_sb (by simp)
    conv => whnf
    refine ⟨fun h => ?_, fun h => ?_⟩ <;> (try simp only [decide_eq_true_eq, decide_eq_false_iff_not, Bool.not_eq_true', Bool.not_eq_false', Int.toNat_natCast, beq_iff_eq, decide_eq_decide, beq_eq_false_iff_ne, ne_eq, reduceCtorEq] at h) <;> (conv => whnf)
    · have hts := mem_take_succ (x := m.items.getD k default) (l := l) (j := j) (by omega)
      repeat (any_goals (first
        | (refine ⟨fun (h : (_ : Bool) = true) => ?_, fun (h : (_ : Bool) = false) => ?_⟩ <;> (try simp only [decide_eq_true_eq, decide_eq_false_iff_not, Bool.not_eq_true', Bool.not_eq_false', Int.toNat_natCast, beq_iff_eq, decide_eq_decide, beq_eq_false_iff_ne, ne_eq, reduceCtorEq] at h) <;> (conv => whnf))
        | (refine And.intro (by (try simp only [Int.toNat_natCast]); omega) ?_; conv => whnf)
        | (refine And.intro (show (_ : Bool) = true from by kernel_rfl) ?_; conv => whnf)
        | (refine .inl ⟨wrap64 (by omega), ?_⟩; conv => whnf)))
      · refine ⟨j + 1, [], by omega, by omega, ?_⟩
        (repeat' (first | exact PSub.rfl | exact rfl | exact PSubs.rfl | exact trivial | exact PSub.lit_sb rfl | refine And.intro ?_ ?_))
        all_goals exact PSub.lit_sb (decide_eq_true (hts.2 (.inl h))).symm
      · refine ⟨j + 1, [], by omega, by omega, ?_⟩
        (repeat' (first | exact PSub.rfl | exact rfl | exact PSubs.rfl | exact trivial | exact PSub.lit_sb rfl | refine And.intro ?_ ?_))
        all_goals
          refine PSub.sb ?_
          refine (item_eq _ _).trans ?_
          rw [decide_eq_decide, hts]
          exact ⟨.inr, fun h2 => h2.resolve_left h⟩
    · have e : j = l.length := by omega
      subst e
      rw [List.take_length] at *
      have hk1 : ((k : Int) - 1).toNat = k - 1 := by omega
      rw [← hk1] at hasc
      have next : True := trivial
      repeat (any_goals (first
        | (refine ⟨fun (h : (_ : Bool) = true) => ?_, fun (h : (_ : Bool) = false) => ?_⟩ <;> (try simp only [decide_eq_true_eq, decide_eq_false_iff_not, Bool.not_eq_true', Bool.not_eq_false', Int.toNat_natCast, beq_iff_eq, decide_eq_decide, beq_eq_false_iff_ne, ne_eq, reduceCtorEq] at h) <;> (conv => whnf))
        | (refine .inl ⟨_, ac_device_Less (m.items.getD k default).key (m.items.getD ((k : Int) - 1).toNat default).key, ?_⟩; conv => whnf)
        | (refine And.intro (by (try simp only [Int.toNat_natCast]); omega) ?_; conv => whnf)
        | (refine And.intro (show (_ : Bool) = true from by kernel_rfl) ?_; conv => whnf)
        | (refine .inl ⟨wrap64 (by omega), ?_⟩; conv => whnf)))
      · exact absurd hin h
      · exfalso
        have := hasc (by omega) hkl
        rw [this] at h; cases h
      all_goals
        refine ⟨k + 1, [], by omega, by omega, ?_⟩
        rw [hmx]
        (repeat' (first | exact PSub.rfl | exact rfl | exact PSubs.rfl | exact trivial | exact PSub.lit_sb rfl | refine And.intro ?_ ?_))
        all_goals exact PSub.int (max_if1 _ _)
  · have e : k = m.items.length := by omega
    subst e
    rw [← o5]
    repeat (any_goals (first
      | (refine ⟨fun (h : (_ : Bool) = true) => ?_, fun (h : (_ : Bool) = false) => ?_⟩ <;> (try simp only [decide_eq_true_eq, decide_eq_false_iff_not, Bool.not_eq_true', Bool.not_eq_false', Int.toNat_natCast, beq_iff_eq, decide_eq_decide, beq_eq_false_iff_ne, ne_eq, reduceCtorEq] at h) <;> (conv => whnf))
      | (refine And.intro (by (try simp only [Int.toNat_natCast]); omega) ?_; conv => whnf)
      | (refine And.intro (show (_ : Bool) = true from by kernel_rfl) ?_; conv => whnf)
      | (refine .inl ⟨wrap64 (by omega), ?_⟩; conv => whnf)))
    refine loop_k (ι := Nat) [1, 2, 5] [2] (fun j => j ≤ l.length) (fun j => l.length - j) 0 (fun j => [(9, .pv (vint (lessN (l.take j) m.version))), (10, .pv (vint j))]) (fun _ => []) [] (Nat.zero_le _) ?_ (fun j hj => ?_)
    · (repeat' (first | exact PSub.rfl | exact rfl | exact PSubs.rfl | exact trivial | exact PSub.lit_sb rfl | refine And.intro ?_ ?_))
    have hle := less_le (l := l) (n := m.version) (j := j)
    conv => whnf
    refine ⟨fun h => ?_, fun h => ?_⟩ <;> (try simp only [decide_eq_true_eq, decide_eq_false_iff_not, Bool.not_eq_true', Bool.not_eq_false', Int.toNat_natCast, beq_iff_eq, decide_eq_decide, beq_eq_false_iff_ne, ne_eq, reduceCtorEq] at h) <;> (conv => whnf)
    · have hls := less_snoc (l := l) (n := m.version) (j := j) (by omega)
      repeat (any_goals (first
        | (refine ⟨fun (h : (_ : Bool) = true) => ?_, fun (h : (_ : Bool) = false) => ?_⟩ <;> (try simp only [decide_eq_true_eq, decide_eq_false_iff_not, Bool.not_eq_true', Bool.not_eq_false', Int.toNat_natCast, beq_iff_eq, decide_eq_decide, beq_eq_false_iff_ne, ne_eq, reduceCtorEq] at h) <;> (conv => whnf))
        | (refine And.intro (by (try simp only [Int.toNat_natCast]); omega) ?_; conv => whnf)
        | (refine And.intro (show (_ : Bool) = true from by kernel_rfl) ?_; conv => whnf)
        | (refine .inl ⟨wrap64 (by omega), ?_⟩; conv => whnf)))
      · rw [if_pos h] at hls
        refine ⟨j + 1, [], by omega, by omega, ?_⟩
        rw [hls]
        (repeat' (first | exact PSub.rfl | exact rfl | exact PSubs.rfl | exact trivial | exact PSub.lit_sb rfl | refine And.intro ?_ ?_))
        all_goals exact PSub.int (by omega)
      · rw [if_neg h] at hls
        refine ⟨j + 1, [], by omega, by omega, ?_⟩
        rw [hls]
        (repeat' (first | exact PSub.rfl | exact rfl | exact PSubs.rfl | exact trivial | exact PSub.lit_sb rfl | refine And.intro ?_ ?_))
    · have e : j = l.length := by omega
      subst e
      rw [List.take_length] at *
      repeat (any_goals (first
        | (refine ⟨fun (h : (_ : Bool) = true) => ?_, fun (h : (_ : Bool) = false) => ?_⟩ <;> (try simp only [decide_eq_true_eq, decide_eq_false_iff_not, Bool.not_eq_true', Bool.not_eq_false', Int.toNat_natCast, beq_iff_eq, decide_eq_decide, beq_eq_false_iff_ne, ne_eq, reduceCtorEq] at h) <;> (conv => whnf))
        | (refine And.intro (by (try simp only [Int.toNat_natCast]); omega) ?_; conv => whnf)
        | (refine And.intro (show (_ : Bool) = true from by kernel_rfl) ?_; conv => whnf)
        | (refine .inl ⟨wrap64 (by omega), ?_⟩; conv => whnf)))
      all_goals first
        | exact absurd trivial h
        | (exfalso; omega)
        | exact PSub.lit_sb rfl
        | exact PSub.sb (decide_eq_true (by omega))
        | trace_state
theorem ac_law26_SyncBatches (c : SyC) (hc : smallSyC c) : AC Tryz.prog 7 [.pv (.agg (cSyC c))] [] (.pv (vbool true)) [] := by
  have hal := above_length c.a.items c.a.acked
  have hai : c.a.items.length ≤ 1048576 := hc.a
  have hpl : (penL c.s).length ≤ 1048576 := Nat.le_trans (penL_length c.s) hc.s.2
  have o1 : outB c.a c.now = true → AC Tryz.prog 26 [.pv (.agg (cMsg (outM c.a c.now))), .pv (roL 7 cItem (aboveL c.a.items c.a.acked))] [] (.pv (vbool true)) [] := fun h => by
    refine ac_law26_one _ _ (show _ ≤ _ by omega) ?_
    rw [(out_yes h).2]
    refine batch_one fun e => ?_
    unfold outB outL at h
    rw [e] at h
    simp [sortV, isortR] at h
  have o2 : psB c.s c.now = true → AC Tryz.prog 26 [.pv (.agg (cMsg (psM c.s c.now))), .pv (roL 7 cItem (penL c.s))] [] (.pv (vbool true)) [] := fun h => by
    refine ac_law26_one _ _ hpl ?_
    rw [(ps_yes h).2]
    refine batch_one fun e => ?_
    unfold psB at h
    rw [e] at h
    simp at h
  refine AC.of_awp (T := T) T_ok hm Tryz.call7 Tryz.func7 rfl rfl rfl ?_
  conv => whnf
  repeat (any_goals (first
    | (refine ⟨fun (h : (_ : Bool) = true) => ?_, fun (h : (_ : Bool) = false) => ?_⟩ <;> (try simp only [decide_eq_true_eq, decide_eq_false_iff_not, Bool.not_eq_true', Bool.not_eq_false', Int.toNat_natCast, beq_iff_eq, decide_eq_decide, beq_eq_false_iff_ne, ne_eq, reduceCtorEq] at h) <;> (conv => whnf))
    | (refine .inl ⟨_, ac_law26_long c hc, ?_⟩; conv => whnf)
    | (refine .inl ⟨_, ac_law26_awake, ?_⟩; conv => whnf)
    | (refine .inl ⟨_, ac_sync_Out c.a c.now hc.a, ?_⟩; conv => whnf)
    | (refine .inl ⟨_, ac_r26_Above c.a.items c.a.acked hc.a, ?_⟩; conv => whnf)
    | (refine .inl ⟨_, ac_sync_Push c.s c.now hc.s, ?_⟩; conv => whnf)
    | (refine .inl ⟨_, ac_r25_Pending c.s hc.s, ?_⟩; conv => whnf)
    | (refine .inl ⟨_, (o1 (by assumption)), ?_⟩; conv => whnf)
    | (refine .inl ⟨_, (o2 (by assumption)), ?_⟩; conv => whnf)
    | (refine And.intro (by (try simp only [Int.toNat_natCast]); omega) ?_; conv => whnf)
    | (refine And.intro (show (_ : Bool) = true from by kernel_rfl) ?_; conv => whnf)
    | (refine .inl ⟨wrap64 (by omega), ?_⟩; conv => whnf)))
  all_goals first
    | exact .rfl
    | exact absurd trivial h
    | exact absurd rfl h
    | (exfalso; simp at h; done)
    | exact PSub.sb (by simp)
    | trace_state
end Go.Abs
