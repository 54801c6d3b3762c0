/- YtdikjanjhanmnaaDoorX07: walks and contracts. -/
import Derived.Test.YtdikjanjhanmnaaDoorX06

set_option linter.unusedVariables false
set_option linter.unusedSimpArgs false
set_option linter.unusedSectionVars false

namespace Go.Abs
open Go.Proofs
set_option maxRecDepth 10000
theorem desE_eq (H : Hom) (s : Shd) (k : Key) (v : Val) : desE H s k v = if (findA H k).isSome = false then 8 else if k.dev ≠ s.dev then 8 else if ((findA H k).getD noAttr).writable = false then 24 else fitsE ((findA H k).getD noAttr) v := by
  unfold desE
  cases findA H k <;> simp
theorem des_err {H : Hom} {s : Shd} {k : Key} {v : Val} {e : Int} (h : desE H s k v = e) (h0 : e ≠ 0) : desS H s k v = noShd := by rw [desS, if_pos (by rw [h]; exact h0)]
theorem noShd_cells : PSub (.agg [vint 0, vint 0, vint 0, .val (.slice none 0 0), .val (.slice none 0 0), vint 0, vint 0, vint 0, vint 0]) (.agg (cShd noShd)) := PSub.agg ⟨.rfl, .rfl, .rfl, PSub.nil_ro _ _, PSub.nil_ro _ _, .rfl, .rfl, .rfl, .rfl, trivial⟩
set_option maxHeartbeats 4000000 in
theorem ac_shadow_Desire (H : Hom) (s : Shd) (k : Key) (v : Val) (hH : smallH H) (hs : smallSh s) : AC Tryd.prog 12 [.pv (.agg (cHom H)), .pv (.agg (cShd s)), .pv (.agg (cKey k)), .pv (.agg (cVal v))] [] (.pv (.tup [.agg (cShd (desS H s k v)), vint (desE H s k v)])) [] := by
  have h2 : s.desired.length ≤ 1048576 := hs.2
  have hde := desE_eq H s k v
  have c := ac_shadow_index s.desired k hs.2
  have hhas : hasD s k v = (decide (itemAt s.desired k < s.desired.length) && decide ((s.desired.getD (itemAt s.desired k) default).value = v)) := rfl
  refine AC.of_awp (T := T) T_ok hm Tryd.call12 Tryd.func12 rfl rfl rfl ?_
  conv => whnf
  by_cases hlt : itemAt s.desired k < s.desired.length
  · rw [ixI, if_pos hlt] at c
    repeat (any_goals (first
      | (refine ⟨fun (h : (_ : Bool) = true) => ?_, fun (h : (_ : Bool) = false) => ?_⟩ <;> (try simp only [decide_eq_true_eq, decide_eq_false_iff_not, Bool.not_eq_true', Bool.not_eq_false', Int.toNat_natCast, beq_iff_eq, decide_eq_decide, beq_eq_false_iff_ne, ne_eq, reduceCtorEq] at h) <;> (conv => whnf))
      | (refine .inl ⟨_, ac_device_Find H k hH, ?_⟩; conv => whnf)
      | (refine .inl ⟨_, ac_value_Fits ((findA H k).getD noAttr) v (small_findA hH), ?_⟩; conv => whnf)
      | (refine .inl ⟨_, c, ?_⟩; conv => whnf)
      | (refine .inl ⟨_, ac_shadow_twin s hs, ?_⟩; conv => whnf)
      | (refine .inr (.inr (.inr (.inr ⟨[], [(0, 700001), (1, 700002)], _, _, _, ac_shadow_Drop_m s k hs, rfl, ?_⟩))); conv => whnf)
      | (refine And.intro (by (try simp only [Int.toNat_natCast]); omega) ?_; conv => whnf)
      | (refine And.intro (show (_ : Bool) = true from by kernel_rfl) ?_; conv => whnf)
      | (refine .inl ⟨wrap64 (by omega), ?_⟩; conv => whnf)))
    · have he : desE H s k v = 8 := by rw [hde, if_pos h]
      rw [des_err he (by decide), he]
      refine ⟨?_, ?_⟩ <;> (conv => whnf)
      · exact noShd_cells
      · exact .rfl
    · have he : desE H s k v = 8 := by rw [hde, if_neg (by rename_i h1; rw [h1]; decide), if_pos h]
      rw [des_err he (by decide), he]
      refine ⟨?_, ?_⟩ <;> (conv => whnf)
      · exact noShd_cells
      · exact .rfl
    · have he : desE H s k v = 24 := by rw [hde, if_neg (by rename_i h1 h3; rw [h1]; decide), if_neg (by rename_i h1 h3; exact fun x => x h3), if_pos h]
      rw [des_err he (by decide), he]
      refine ⟨?_, ?_⟩ <;> (conv => whnf)
      · exact noShd_cells
      · exact .rfl
    · have he : desE H s k v = fitsE ((findA H k).getD noAttr) v := by rw [hde, if_neg (by rename_i h1 h3 h4; rw [h1]; decide), if_neg (by rename_i h1 h3 h4; exact fun x => x h3), if_neg (by rename_i h1 h3 h4; rw [h4]; decide)]
      rw [des_err he h, he]
      refine ⟨?_, ?_⟩ <;> (conv => whnf)
      · exact noShd_cells
      · exact .rfl
    · have he : desE H s k v = 0 := by
        rw [hde]
        have a1 : (findA H k).isSome = true := by assumption
        have a2 : k.dev = s.dev := by assumption
        have a3 : ((findA H k).getD noAttr).writable = true := by assumption
        have a4 : fitsE ((findA H k).getD noAttr) v = 0 := by assumption
        rw [a1, a3, if_neg (by decide), if_neg (fun x => x a2), if_neg (by decide), a4]
      have hyes : hasD s k v = true := by
        rw [hhas, decide_eq_true hlt, Bool.true_and, decide_eq_true_eq]
        exact of_decide_eq_true ((val_eq _ _).symm.trans h)
      rw [desS, if_neg (by rw [he]; decide), if_pos hyes, he]
      refine ⟨?_, ?_⟩ <;> (conv => whnf)
      · exact .rfl
      · exact .rfl
    · have he : desE H s k v = 0 := by
        rw [hde]
        have a1 : (findA H k).isSome = true := by assumption
        have a2 : k.dev = s.dev := by assumption
        have a3 : ((findA H k).getD noAttr).writable = true := by assumption
        have a4 : fitsE ((findA H k).getD noAttr) v = 0 := by assumption
        rw [a1, a3, if_neg (by decide), if_neg (fun x => x a2), if_neg (by decide), a4]
      have hno : hasD s k v = false := by
        rw [hhas, decide_eq_true hlt, Bool.true_and]
        exact (val_eq _ _).symm.trans h
      obtain ⟨D, hD⟩ : ∃ D, D = dropD s.desired k := ⟨_, rfl⟩
      have hDl : D.length ≤ s.desired.length := by rw [hD]; exact dropD_length _ _
      have hds : desS H s k v = { dropS s k with desired := insL D (seatD D k) ⟨k, v, wantI s.want⟩, want := wantI s.want, sent := -1 } := by
        rw [desS, if_neg (by rw [he]; decide), if_neg (by rw [hno]; decide), hD]; rfl
      have hwi : (if (1099511627775 : Int) < (if s.want < 0 then 0 else s.want) then 1099511627775 else if s.want < 0 then 0 else s.want) + 1 = wantI s.want := by
        unfold wantI maxTick
        simp only [Int.max_def, Int.min_def]
        (repeat' split) <;> omega
      rw [hwi, hds, he, ← hD]
      refine loop_k (ι := Nat) [6, 7, 8, 14] [6, 7, 8, 14, 700001, 700002] (fun j => j ≤ D.length ∧ ∀ q, q < j → keyLess k (D.getD q default).key = false) (fun j => D.length - j) 0 (fun j => [(15, .pv (vint j))]) (fun j => []) [] ⟨Nat.zero_le _, fun q hq => absurd hq (by omega)⟩ ?_ (fun j hj => ?_)
      · (repeat' (first | exact PSub.rfl | exact rfl | exact PSubs.rfl | exact trivial | exact PSub.lit_sb rfl | refine And.intro ?_ ?_))
        all_goals (intro q hq; exact PSubs.rfl)
      obtain ⟨hj1, hj2⟩ := hj
      conv => whnf
      repeat (any_goals (first
        | (refine ⟨fun (h : (_ : Bool) = true) => ?_, fun (h : (_ : Bool) = false) => ?_⟩ <;> (try simp only [decide_eq_true_eq, decide_eq_false_iff_not, Bool.not_eq_true', Bool.not_eq_false', Int.toNat_natCast, beq_iff_eq, decide_eq_decide, beq_eq_false_iff_ne, ne_eq, reduceCtorEq] at h) <;> (conv => whnf))
        | (refine .inl ⟨_, ac_device_Less k (D.getD j default).key, ?_⟩; conv => whnf)
        | (refine And.intro (by (try simp only [Int.toNat_natCast]); omega) ?_; conv => whnf)
        | (refine And.intro (show (_ : Bool) = true from by kernel_rfl) ?_; conv => whnf)
        | (refine .inl ⟨wrap64 (by omega), ?_⟩; conv => whnf)))
      · refine ⟨j + 1, [], ⟨by omega, fun q hq => ?_⟩, by omega, ?_⟩
        · by_cases e : q = j
          · rw [e]; exact h
          · exact hj2 q (by omega)
        (repeat' (first | exact PSub.rfl | exact rfl | exact PSubs.rfl | exact trivial | exact PSub.lit_sb rfl | refine And.intro ?_ ?_))
        all_goals (intro q hq; exact PSubs.rfl)
      · have e : seatD D k = j := firstI_at (by omega) h hj2
        rw [e]
        repeat (any_goals (first
          | (refine ⟨fun (h : (_ : Bool) = true) => ?_, fun (h : (_ : Bool) = false) => ?_⟩ <;> (try simp only [decide_eq_true_eq, decide_eq_false_iff_not, Bool.not_eq_true', Bool.not_eq_false', Int.toNat_natCast, beq_iff_eq, decide_eq_decide, beq_eq_false_iff_ne, ne_eq, reduceCtorEq] at h) <;> (conv => whnf))
          | (refine .inr (.inr (.inr (.inr ⟨[(0, 700002), (2, 96)], [(1, 700003)], _, _, _, (ac_slices_Insert_Item (l := D) (i := j) (x := ⟨k, v, wantI s.want⟩) hj1 (by omega) (by exact PSubs.rfl)), rfl, ?_⟩))); conv => whnf)
          | (refine And.intro (by (try simp only [Int.toNat_natCast]); omega) ?_; conv => whnf)
          | (refine And.intro (show (_ : Bool) = true from by kernel_rfl) ?_; conv => whnf)
          | (refine .inl ⟨wrap64 (by omega), ?_⟩; conv => whnf)))
        refine ⟨?_, ?_⟩ <;> (conv => whnf)
        · exact .rfl
        · exact .rfl
      · have e : seatD D k = j := by
          have e2 : j = D.length := by omega
          subst e2
          exact firstI_none hj2
        rw [e]
        repeat (any_goals (first
          | (refine ⟨fun (h : (_ : Bool) = true) => ?_, fun (h : (_ : Bool) = false) => ?_⟩ <;> (try simp only [decide_eq_true_eq, decide_eq_false_iff_not, Bool.not_eq_true', Bool.not_eq_false', Int.toNat_natCast, beq_iff_eq, decide_eq_decide, beq_eq_false_iff_ne, ne_eq, reduceCtorEq] at h) <;> (conv => whnf))
          | (refine .inr (.inr (.inr (.inr ⟨[(0, 700002), (2, 96)], [(1, 700003)], _, _, _, (ac_slices_Insert_Item (l := D) (i := j) (x := ⟨k, v, wantI s.want⟩) hj1 (by omega) (by exact PSubs.rfl)), rfl, ?_⟩))); conv => whnf)
          | (refine And.intro (by (try simp only [Int.toNat_natCast]); omega) ?_; conv => whnf)
          | (refine And.intro (show (_ : Bool) = true from by kernel_rfl) ?_; conv => whnf)
          | (refine .inl ⟨wrap64 (by omega), ?_⟩; conv => whnf)))
        refine ⟨?_, ?_⟩ <;> (conv => whnf)
        · exact .rfl
        · exact .rfl
    · exfalso; omega
  · rw [ixI, if_neg hlt] at c
    repeat (any_goals (first
      | (refine ⟨fun (h : (_ : Bool) = true) => ?_, fun (h : (_ : Bool) = false) => ?_⟩ <;> (try simp only [decide_eq_true_eq, decide_eq_false_iff_not, Bool.not_eq_true', Bool.not_eq_false', Int.toNat_natCast, beq_iff_eq, decide_eq_decide, beq_eq_false_iff_ne, ne_eq, reduceCtorEq] at h) <;> (conv => whnf))
      | (refine .inl ⟨_, ac_device_Find H k hH, ?_⟩; conv => whnf)
      | (refine .inl ⟨_, ac_value_Fits ((findA H k).getD noAttr) v (small_findA hH), ?_⟩; conv => whnf)
      | (refine .inl ⟨_, c, ?_⟩; conv => whnf)
      | (refine .inl ⟨_, ac_shadow_twin s hs, ?_⟩; conv => whnf)
      | (refine .inr (.inr (.inr (.inr ⟨[], [(0, 700001), (1, 700002)], _, _, _, ac_shadow_Drop_m s k hs, rfl, ?_⟩))); conv => whnf)
      | (refine And.intro (by (try simp only [Int.toNat_natCast]); omega) ?_; conv => whnf)
      | (refine And.intro (show (_ : Bool) = true from by kernel_rfl) ?_; conv => whnf)
      | (refine .inl ⟨wrap64 (by omega), ?_⟩; conv => whnf)))
    · have he : desE H s k v = 8 := by rw [hde, if_pos h]
      rw [des_err he (by decide), he]
      refine ⟨?_, ?_⟩ <;> (conv => whnf)
      · exact noShd_cells
      · exact .rfl
    · have he : desE H s k v = 8 := by rw [hde, if_neg (by rename_i h1; rw [h1]; decide), if_pos h]
      rw [des_err he (by decide), he]
      refine ⟨?_, ?_⟩ <;> (conv => whnf)
      · exact noShd_cells
      · exact .rfl
    · have he : desE H s k v = 24 := by rw [hde, if_neg (by rename_i h1 h3; rw [h1]; decide), if_neg (by rename_i h1 h3; exact fun x => x h3), if_pos h]
      rw [des_err he (by decide), he]
      refine ⟨?_, ?_⟩ <;> (conv => whnf)
      · exact noShd_cells
      · exact .rfl
    · have he : desE H s k v = fitsE ((findA H k).getD noAttr) v := by rw [hde, if_neg (by rename_i h1 h3 h4; rw [h1]; decide), if_neg (by rename_i h1 h3 h4; exact fun x => x h3), if_neg (by rename_i h1 h3 h4; rw [h4]; decide)]
      rw [des_err he h, he]
      refine ⟨?_, ?_⟩ <;> (conv => whnf)
      · exact noShd_cells
      · exact .rfl
    rotate_right
    · have he : desE H s k v = 0 := by
        rw [hde]
        have a1 : (findA H k).isSome = true := by assumption
        have a2 : k.dev = s.dev := by assumption
        have a3 : ((findA H k).getD noAttr).writable = true := by assumption
        have a4 : fitsE ((findA H k).getD noAttr) v = 0 := by assumption
        rw [a1, a3, if_neg (by decide), if_neg (fun x => x a2), if_neg (by decide), a4]
      have hno : hasD s k v = false := by rw [hhas, decide_eq_false hlt, Bool.false_and]
      obtain ⟨D, hD⟩ : ∃ D, D = dropD s.desired k := ⟨_, rfl⟩
      have hDl : D.length ≤ s.desired.length := by rw [hD]; exact dropD_length _ _
      have hds : desS H s k v = { dropS s k with desired := insL D (seatD D k) ⟨k, v, wantI s.want⟩, want := wantI s.want, sent := -1 } := by
        rw [desS, if_neg (by rw [he]; decide), if_neg (by rw [hno]; decide), hD]; rfl
      have hwi : (if (1099511627775 : Int) < (if s.want < 0 then 0 else s.want) then 1099511627775 else if s.want < 0 then 0 else s.want) + 1 = wantI s.want := by
        unfold wantI maxTick
        simp only [Int.max_def, Int.min_def]
        (repeat' split) <;> omega
      rw [hwi, hds, he, ← hD]
      refine loop_k (ι := Nat) [6, 7, 8, 14] [6, 7, 8, 14, 700001, 700002] (fun j => j ≤ D.length ∧ ∀ q, q < j → keyLess k (D.getD q default).key = false) (fun j => D.length - j) 0 (fun j => [(15, .pv (vint j))]) (fun j => []) [] ⟨Nat.zero_le _, fun q hq => absurd hq (by omega)⟩ ?_ (fun j hj => ?_)
      · (repeat' (first | exact PSub.rfl | exact rfl | exact PSubs.rfl | exact trivial | exact PSub.lit_sb rfl | refine And.intro ?_ ?_))
        all_goals (intro q hq; exact PSubs.rfl)
      obtain ⟨hj1, hj2⟩ := hj
      conv => whnf
      repeat (any_goals (first
        | (refine ⟨fun (h : (_ : Bool) = true) => ?_, fun (h : (_ : Bool) = false) => ?_⟩ <;> (try simp only [decide_eq_true_eq, decide_eq_false_iff_not, Bool.not_eq_true', Bool.not_eq_false', Int.toNat_natCast, beq_iff_eq, decide_eq_decide, beq_eq_false_iff_ne, ne_eq, reduceCtorEq] at h) <;> (conv => whnf))
        | (refine .inl ⟨_, ac_device_Less k (D.getD j default).key, ?_⟩; conv => whnf)
        | (refine And.intro (by (try simp only [Int.toNat_natCast]); omega) ?_; conv => whnf)
        | (refine And.intro (show (_ : Bool) = true from by kernel_rfl) ?_; conv => whnf)
        | (refine .inl ⟨wrap64 (by omega), ?_⟩; conv => whnf)))
      · refine ⟨j + 1, [], ⟨by omega, fun q hq => ?_⟩, by omega, ?_⟩
        · by_cases e : q = j
          · rw [e]; exact h
          · exact hj2 q (by omega)
        (repeat' (first | exact PSub.rfl | exact rfl | exact PSubs.rfl | exact trivial | exact PSub.lit_sb rfl | refine And.intro ?_ ?_))
        all_goals (intro q hq; exact PSubs.rfl)
      · have e : seatD D k = j := firstI_at (by omega) h hj2
        rw [e]
        repeat (any_goals (first
          | (refine ⟨fun (h : (_ : Bool) = true) => ?_, fun (h : (_ : Bool) = false) => ?_⟩ <;> (try simp only [decide_eq_true_eq, decide_eq_false_iff_not, Bool.not_eq_true', Bool.not_eq_false', Int.toNat_natCast, beq_iff_eq, decide_eq_decide, beq_eq_false_iff_ne, ne_eq, reduceCtorEq] at h) <;> (conv => whnf))
          | (refine .inr (.inr (.inr (.inr ⟨[(0, 700002), (2, 96)], [(1, 700003)], _, _, _, (ac_slices_Insert_Item (l := D) (i := j) (x := ⟨k, v, wantI s.want⟩) hj1 (by omega) (by exact PSubs.rfl)), rfl, ?_⟩))); conv => whnf)
          | (refine And.intro (by (try simp only [Int.toNat_natCast]); omega) ?_; conv => whnf)
          | (refine And.intro (show (_ : Bool) = true from by kernel_rfl) ?_; conv => whnf)
          | (refine .inl ⟨wrap64 (by omega), ?_⟩; conv => whnf)))
        refine ⟨?_, ?_⟩ <;> (conv => whnf)
        · exact .rfl
        · exact .rfl
      · have e : seatD D k = j := by
          have e2 : j = D.length := by omega
          subst e2
          exact firstI_none hj2
        rw [e]
        repeat (any_goals (first
          | (refine ⟨fun (h : (_ : Bool) = true) => ?_, fun (h : (_ : Bool) = false) => ?_⟩ <;> (try simp only [decide_eq_true_eq, decide_eq_false_iff_not, Bool.not_eq_true', Bool.not_eq_false', Int.toNat_natCast, beq_iff_eq, decide_eq_decide, beq_eq_false_iff_ne, ne_eq, reduceCtorEq] at h) <;> (conv => whnf))
          | (refine .inr (.inr (.inr (.inr ⟨[(0, 700002), (2, 96)], [(1, 700003)], _, _, _, (ac_slices_Insert_Item (l := D) (i := j) (x := ⟨k, v, wantI s.want⟩) hj1 (by omega) (by exact PSubs.rfl)), rfl, ?_⟩))); conv => whnf)
          | (refine And.intro (by (try simp only [Int.toNat_natCast]); omega) ?_; conv => whnf)
          | (refine And.intro (show (_ : Bool) = true from by kernel_rfl) ?_; conv => whnf)
          | (refine .inl ⟨wrap64 (by omega), ?_⟩; conv => whnf)))
        refine ⟨?_, ?_⟩ <;> (conv => whnf)
        · exact .rfl
        · exact .rfl
    all_goals (exfalso; omega)
end Go.Abs

namespace Go.Abs
open Go.Proofs
set_option maxRecDepth 10000
def greatB (H : Hom) (s : Shd) (m : Msg) : Bool := decide (300 < H.clusters.length ∨ 60 < H.devices.length ∨ 60 < s.reported.length ∨ 60 < s.desired.length ∨ 60 < m.items.length)
theorem ac_law25_great (H : Hom) (s : Shd) (m : Msg) : AC Tryd.prog 6 [.pv (.agg (cHom H)), .pv (.agg (cShd s)), .pv (.agg (cMsg m))] [] (.pv (vbool (greatB H s m))) [] := by
  refine AC.of_awp (T := T) T_ok hm Tryd.call6 Tryd.func6 rfl rfl rfl ?_
  conv => whnf
  repeat (any_goals (first
    | (refine ⟨fun (h : (_ : Bool) = true) => ?_, fun (h : (_ : Bool) = false) => ?_⟩ <;> (try simp only [decide_eq_true_eq, decide_eq_false_iff_not, Bool.not_eq_true', Bool.not_eq_false', Int.toNat_natCast, beq_iff_eq, decide_eq_decide, beq_eq_false_iff_ne, ne_eq, reduceCtorEq] at h) <;> (conv => whnf))
    | (refine And.intro (by (try simp only [Int.toNat_natCast]); omega) ?_; conv => whnf)
    | (refine And.intro (show (_ : Bool) = true from by kernel_rfl) ?_; conv => whnf)
    | (refine .inl ⟨wrap64 (by omega), ?_⟩; conv => whnf)))
  all_goals
    unfold greatB
    first
      | exact PSub.lit_sb (decide_eq_true (by omega)).symm
      | exact PSub.sb (decide_eq_decide.2 (by omega))
      | trace_state
def homeS : Hom := ⟨stdC, [⟨1, 0, 0, false, 0, (⟨#[104, 97, 108, 108]⟩ : ByteArray), [(⟨#[111, 110, 111, 102, 102]⟩ : ByteArray)]⟩]⟩
def kOn : Key := ⟨1, (⟨#[111, 110, 111, 102, 102]⟩ : ByteArray), (⟨#[111, 110]⟩ : ByteArray)⟩
theorem smallH_S : smallH homeS := by
  refine ⟨⟨sl rfl, smallK_std⟩, sl rfl, fun i => ?_⟩
  cases i with
  | zero => exact ⟨sl rfl, by decide, by decide⟩
  | succ i =>
    have : homeS.devices.getD (i + 1) default = default := rfl
    rw [this]; exact ⟨Nat.zero_le _, by decide, by decide⟩
def S0 : Shd := ⟨1, 0, 0, [⟨kOn, ⟨1, 0, ⟨#[]⟩⟩, 0⟩], [], 0, 0, -1, 0⟩
def M0 : Msg := ⟨1, 1, 1, 2, [⟨kOn, ⟨1, 1, ⟨#[]⟩⟩, 2⟩], ⟨#[]⟩, ⟨#[]⟩, ⟨#[]⟩⟩
def S1 : Shd := ⟨1, 1, 2, [⟨kOn, ⟨1, 1, ⟨#[]⟩⟩, 2⟩], [], 0, 0, -1, 0⟩
def S2 : Shd := ⟨1, 1, 2, [⟨kOn, ⟨1, 1, ⟨#[]⟩⟩, 2⟩], [⟨kOn, ⟨1, 0, ⟨#[]⟩⟩, 1⟩], 1, 0, -1, 0⟩
theorem sx0 : newS homeS 1 = S0 := by kernel_rfl
theorem sx1 : repS homeS S0 M0 = S1 := by kernel_rfl
theorem sx2 : repK homeS S0 M0 = [kOn] := by kernel_rfl
theorem sx3 : desS homeS S1 kOn ⟨1, 0, ⟨#[]⟩⟩ = S2 := by kernel_rfl
theorem sx4 : desE homeS S1 kOn ⟨1, 0, ⟨#[]⟩⟩ = 0 := by kernel_rfl
theorem sx5 : (getI S1.reported kOn).value = ⟨1, 1, ⟨#[]⟩⟩ := by kernel_rfl
theorem sx6 : decide (itemAt S1.reported kOn < S1.reported.length) = true := by kernel_rfl
theorem sx7 : decide (penL S2 = []) = false := by kernel_rfl
theorem sx8 : decide (penL (donS S2 1 1) = []) = true := by kernel_rfl
theorem ssm (s : Shd) (h1 : Nat.ble s.reported.length 1048576 = true) (h2 : Nat.ble s.desired.length 1048576 = true) : smallSh s := ⟨Nat.le_of_ble_eq_true h1, Nat.le_of_ble_eq_true h2⟩
theorem bool_no {b : Bool} (h : b = false) (k : b = true) : False := by rw [h] at k; cases k
theorem bool_no2 {b : Bool} (h : b = true) (k : b = false) : False := by rw [h] at k; cases k
theorem ac_law25_lives : AC Tryd.prog 7 [] [] (.pv (vbool true)) [] := by
  have c0 := ac_shadow_New homeS 1 smallH_S
  have c1 := ac_shadow_Report homeS S0 M0 smallH_S (ssm _ rfl rfl) (sl rfl)
  have c2 := ac_shadow_Desire homeS S1 kOn ⟨1, 0, ⟨#[]⟩⟩ smallH_S (ssm _ rfl rfl)
  have c3 := ac_shadow_Get S1 kOn (ssm _ rfl rfl)
  have c4 := ac_shadow_Synced S2 (ssm _ rfl rfl)
  have c5 := ac_shadow_Done S2 1 1 (ssm _ rfl rfl)
  have c6 := ac_shadow_Synced (donS S2 1 1) (ssm _ rfl rfl)
  rw [sx0] at c0
  rw [sx1, sx2] at c1
  rw [sx3, sx4] at c2
  rw [sx5, sx6] at c3
  rw [sx7] at c4
  rw [sx8] at c6
  refine AC.of_awp (T := T) T_ok hm Tryd.call7 Tryd.func7 rfl rfl rfl ?_
  conv => whnf
  refine .inl ⟨_, ac_cluster_Standard, ?_⟩
  conv => whnf
  repeat (any_goals (first
    | (refine ⟨fun (h : (_ : Bool) = true) => ?_, fun (h : (_ : Bool) = false) => ?_⟩ <;> (try simp only [decide_eq_true_eq, decide_eq_false_iff_not, Bool.not_eq_true', Bool.not_eq_false', Int.toNat_natCast, beq_iff_eq, decide_eq_decide, beq_eq_false_iff_ne, ne_eq, reduceCtorEq] at h) <;> (conv => whnf))
    | (refine .inl ⟨_, AC.sub2 (c0) (by repeat' (first | exact PSub.rfl | exact PSub.nil_ro _ _ | exact PSub.lit_sb rfl | exact trivial | exact all_lt_zero | refine PSub.agg ?_ | refine PSub.ro rfl ?_ | refine all_lt_succ ?_ ?_ | refine And.intro ?_ ?_)) (by repeat' (first | exact PSub.rfl | exact PSub.nil_ro _ _ | exact PSub.lit_sb rfl | exact trivial | exact all_lt_zero | refine PSub.agg ?_ | refine PSub.ro rfl ?_ | refine all_lt_succ ?_ ?_ | refine And.intro ?_ ?_)), ?_⟩; conv => whnf)
    | (refine .inl ⟨_, AC.sub3 (c1) (by repeat' (first | exact PSub.rfl | exact PSub.nil_ro _ _ | exact PSub.lit_sb rfl | exact trivial | exact all_lt_zero | refine PSub.agg ?_ | refine PSub.ro rfl ?_ | refine all_lt_succ ?_ ?_ | refine And.intro ?_ ?_)) (by repeat' (first | exact PSub.rfl | exact PSub.nil_ro _ _ | exact PSub.lit_sb rfl | exact trivial | exact all_lt_zero | refine PSub.agg ?_ | refine PSub.ro rfl ?_ | refine all_lt_succ ?_ ?_ | refine And.intro ?_ ?_)) (by repeat' (first | exact PSub.rfl | exact PSub.nil_ro _ _ | exact PSub.lit_sb rfl | exact trivial | exact all_lt_zero | refine PSub.agg ?_ | refine PSub.ro rfl ?_ | refine all_lt_succ ?_ ?_ | refine And.intro ?_ ?_)), ?_⟩; conv => whnf)
    | (refine .inl ⟨_, AC.sub4 (c2) (by repeat' (first | exact PSub.rfl | exact PSub.nil_ro _ _ | exact PSub.lit_sb rfl | exact trivial | exact all_lt_zero | refine PSub.agg ?_ | refine PSub.ro rfl ?_ | refine all_lt_succ ?_ ?_ | refine And.intro ?_ ?_)) (by repeat' (first | exact PSub.rfl | exact PSub.nil_ro _ _ | exact PSub.lit_sb rfl | exact trivial | exact all_lt_zero | refine PSub.agg ?_ | refine PSub.ro rfl ?_ | refine all_lt_succ ?_ ?_ | refine And.intro ?_ ?_)) (by repeat' (first | exact PSub.rfl | exact PSub.nil_ro _ _ | exact PSub.lit_sb rfl | exact trivial | exact all_lt_zero | refine PSub.agg ?_ | refine PSub.ro rfl ?_ | refine all_lt_succ ?_ ?_ | refine And.intro ?_ ?_)) (by repeat' (first | exact PSub.rfl | exact PSub.nil_ro _ _ | exact PSub.lit_sb rfl | exact trivial | exact all_lt_zero | refine PSub.agg ?_ | refine PSub.ro rfl ?_ | refine all_lt_succ ?_ ?_ | refine And.intro ?_ ?_)), ?_⟩; conv => whnf)
    | (refine .inl ⟨_, AC.sub2 (c3) (by repeat' (first | exact PSub.rfl | exact PSub.nil_ro _ _ | exact PSub.lit_sb rfl | exact trivial | exact all_lt_zero | refine PSub.agg ?_ | refine PSub.ro rfl ?_ | refine all_lt_succ ?_ ?_ | refine And.intro ?_ ?_)) (by repeat' (first | exact PSub.rfl | exact PSub.nil_ro _ _ | exact PSub.lit_sb rfl | exact trivial | exact all_lt_zero | refine PSub.agg ?_ | refine PSub.ro rfl ?_ | refine all_lt_succ ?_ ?_ | refine And.intro ?_ ?_)), ?_⟩; conv => whnf)
    | (refine .inl ⟨_, c4, ?_⟩; conv => whnf)
    | (refine .inl ⟨_, AC.sub3 (c5) (by repeat' (first | exact PSub.rfl | exact PSub.nil_ro _ _ | exact PSub.lit_sb rfl | exact trivial | exact all_lt_zero | refine PSub.agg ?_ | refine PSub.ro rfl ?_ | refine all_lt_succ ?_ ?_ | refine And.intro ?_ ?_)) (by repeat' (first | exact PSub.rfl | exact PSub.nil_ro _ _ | exact PSub.lit_sb rfl | exact trivial | exact all_lt_zero | refine PSub.agg ?_ | refine PSub.ro rfl ?_ | refine all_lt_succ ?_ ?_ | refine And.intro ?_ ?_)) (by repeat' (first | exact PSub.rfl | exact PSub.nil_ro _ _ | exact PSub.lit_sb rfl | exact trivial | exact all_lt_zero | refine PSub.agg ?_ | refine PSub.ro rfl ?_ | refine all_lt_succ ?_ ?_ | refine And.intro ?_ ?_)), ?_⟩; conv => whnf)
    | (refine .inl ⟨_, c6, ?_⟩; conv => whnf)
    | (refine And.intro (by (try simp only [Int.toNat_natCast]); omega) ?_; conv => whnf)
    | (refine And.intro (show (_ : Bool) = true from by kernel_rfl) ?_; conv => whnf)
    | (refine .inl ⟨wrap64 (by omega), ?_⟩; conv => whnf)))
  all_goals first
    | exact PSub.sb rfl
    | exact absurd trivial h
    | exact absurd rfl h
    | (exfalso; exact h (by kernel_rfl))
    | exact (bool_no h (by kernel_rfl)).elim
    | exact (bool_no2 h (by kernel_rfl)).elim
    | (exfalso; simp at h; done)
    | trace_state
end Go.Abs
