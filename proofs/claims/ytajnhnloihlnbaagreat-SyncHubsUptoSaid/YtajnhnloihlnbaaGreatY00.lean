/- YtajnhnloihlnbaaGreatY00: walks and contracts. -/
import Derived.Test.YtajnhnloihlnbaaGreatX07
import Derived.Laws.RangeString
import Derived.Shelf.SlSortCmp.Insertion

set_option linter.unusedVariables false
set_option linter.unusedSimpArgs false
set_option linter.unusedSectionVars false

namespace Go.Abs
variable [Globals]
def limitV (a : Attr) (v : Val) : Val := if defE a = 0 ∧ a.kind = 2 ∧ v.kind = 2 then ⟨v.kind, clampI v.n a.min a.max, v.s⟩ else v
end Go.Abs

namespace Go.Abs
open Go.Proofs
theorem ac_r04_Index (l : List ByteArray) (x : ByteArray) (hl : l.length ≤ 1048576) : AC Tryz.prog 153 [.pv (roL 1 cstr l), .pv (vstr x)] [] (.pv (vint (idxOf l x))) [] := by
  refine AC.of_awp (T := T) T_ok hm Tryz.call153 Tryz.func153 rfl rfl rfl ?_
  conv => whnf
  refine ⟨Nat, fun k => k ≤ l.length ∧ ∀ j, j < k → l.getD j default ≠ x, fun k => ⟨[(0, .pv (roL 1 cstr l)), (1, .pv (vstr x)), (5, .pv (vint k))], []⟩, fun k => l.length - k, 0, [], ⟨Nat.zero_le _, fun j h => absurd h (by omega)⟩, ⟨.rfl, .rfl, .rfl⟩, fun k hk => ?_⟩
  conv => whnf
  refine ⟨fun h => ?_, fun h => ?_⟩
  · simp only [decide_eq_true_eq] at h
    refine ⟨by omega, ?_⟩
    conv => whnf
    refine ⟨fun h2 => ?_, fun h2 => ?_⟩
    · conv => whnf
      simp only [decide_eq_true_eq] at h2
      exact PSub.int (by rw [idxOf_some (k := k) (by omega) (by simpa using h2) hk.2])
    · conv => whnf
      refine .inl ⟨wrap64 (by omega), ?_⟩
      conv => whnf
      simp only [decide_eq_false_iff_not] at h2
      refine ⟨k + 1, [], ⟨by omega, fun j hj => ?_⟩, by dsimp only; omega, .rfl, .rfl, .rfl⟩
      by_cases e : j = k
      · subst e; simpa using h2
      · exact hk.2 j (by omega)
  · conv => whnf
    simp only [decide_eq_false_iff_not] at h
    exact PSub.int (by rw [idxOf_none fun j hj => hk.2 j (by omega)])
theorem ac_r04_Valid (s : ByteArray) : AC Tryz.prog 119 [.pv (vstr s)] [] (.pv (vbool (validName s))) [] := by
  refine AC.of_awp (T := T) T_ok hm Tryz.call119 Tryz.func119 rfl rfl rfl ?_
  conv => whnf
  refine ⟨fun h => ?_, fun h => ?_⟩
  · conv => whnf
    simp only [decide_eq_true_eq] at h
    exact PSub.lit_sb (by symm; simp [validName]; omega)
  conv => whnf
  refine ⟨fun h2 => ?_, fun h2 => ?_⟩
  · conv => whnf
    simp only [decide_eq_true_eq] at h2
    exact PSub.lit_sb (by symm; simp [validName]; omega)
  conv => whnf
  simp only [decide_eq_false_iff_not] at h h2
  refine ⟨Nat, fun k => k ≤ s.size ∧ ∀ j, j < k → letterOk j (byteAt s j) = true, fun k => ⟨[(0, .pv (vstr s)), (3, .pv (vint k))], []⟩, fun k => s.size - k, 0, [], ⟨Nat.zero_le _, fun j h => absurd h (by omega)⟩, ⟨.rfl, .rfl⟩, fun k hk => ?_⟩
  conv => whnf
  refine ⟨fun h3 => ?_, fun h3 => ?_⟩
  · conv => whnf
    simp only [decide_eq_true_eq] at h3
    refine ⟨by omega, ?_⟩
    conv => whnf
    have hb : ∀ j, j < k → letterOk j (byteAt s j) = true := hk.2
    have hkl := hk.1
    clear hk
    have hkn : (k : Int).toNat = k := rfl
    simp only [hkn]
    iterate 9 (all_goals first | (refine ⟨fun h => ?_, fun h => ?_⟩ <;> (conv => whnf)) | skip)
    all_goals simp only [decide_eq_true_eq, decide_eq_false_iff_not, Bool.not_eq_true', Bool.not_eq_false', Int.toNat_natCast] at *
    all_goals first
      | contradiction
      | exact PSub.lit_sb (validName_bad (k := k) (by omega) (by omega))
      | (refine .inl ⟨wrap64 (by omega), ?_⟩
         conv => whnf
         refine ⟨k + 1, [], ⟨by omega, fun j hj => ?_⟩, by omega, .rfl, .rfl⟩
         by_cases e : j = k
         · subst e; exact letterOk_iff.2 (by omega)
         · exact hb j (by omega))
  · conv => whnf
    simp only [decide_eq_false_iff_not] at h3
    exact PSub.lit_sb (by symm; rw [validName_iff]; exact ⟨by omega, by omega, fun i hi => hk.2 i (by omega)⟩)
end Go.Abs

namespace Go.Abs
open Go.Proofs
set_option maxRecDepth 10000
theorem ac_r20_Check (v : Val) : AC Tryz.prog 140 [.pv (.agg (cVal v))] [] (.pv (vint (valE v))) [] := by
  refine AC.of_awp (T := T) T_ok hm Tryz.call140 Tryz.func140 rfl rfl rfl ?_
  conv => whnf
  iterate 14 (all_goals first | (refine ⟨fun h => ?_, fun h => ?_⟩ <;> (conv => whnf)) | skip)
  all_goals simp only [decide_eq_true_eq, decide_eq_false_iff_not, Bool.not_eq_true', Bool.not_eq_false'] at *
  all_goals first
    | contradiction
    | exact PSub.int (by simp only [valE, inRange, Bool.and_eq_false_iff, decide_eq_false_iff_not]; (repeat' split) <;> first | rfl | omega | (simp_all; done) | (simp_all; omega))
    | trace_state
theorem ac_r20_member (l : List ByteArray) (n : Nat) (x : ByteArray) (hl : n ≤ 1048576) : AC Tryz.prog 169 [.pv (.ro 1 n fun i => cstr (l.getD i default)), .pv (vstr x)] [] (.pv (vbool (memN l n x))) [] := by
  refine AC.of_awp (T := T) T_ok hm Tryz.call169 Tryz.func169 rfl rfl rfl ?_
  conv => whnf
  refine ⟨Nat, fun k => k ≤ n ∧ ∀ j, j < k → l.getD j default ≠ x, fun k => ⟨[(0, .pv (.ro 1 n fun i => cstr (l.getD i default))), (1, .pv (vstr x)), (5, .pv (vint k))], []⟩, fun k => n - k, 0, [], ⟨Nat.zero_le _, fun j h => absurd h (by omega)⟩, ⟨.rfl, .rfl, .rfl⟩, fun k hk => ?_⟩
  conv => whnf
  refine ⟨fun h => ?_, fun h => ?_⟩
  · simp only [decide_eq_true_eq] at h
    refine ⟨by omega, ?_⟩
    conv => whnf
    refine ⟨fun h2 => ?_, fun h2 => ?_⟩
    · conv => whnf
      simp only [decide_eq_true_eq] at h2
      exact PSub.lit_sb (memN_true (k := k) (by omega) (by simpa using h2)).symm
    · conv => whnf
      refine .inl ⟨wrap64 (by omega), ?_⟩
      conv => whnf
      simp only [decide_eq_false_iff_not] at h2
      refine ⟨k + 1, [], ⟨by omega, fun j hj => ?_⟩, by dsimp only; omega, .rfl, .rfl, .rfl⟩
      by_cases e : j = k
      · subst e; simpa using h2
      · exact hk.2 j (by omega)
  · conv => whnf
    simp only [decide_eq_false_iff_not] at h
    exact PSub.lit_sb (memN_false fun j hj => hk.2 j (by omega)).symm
theorem ac_r20_Def (a : Attr) (hl : a.enum.length ≤ 1048576) : AC Tryz.prog 139 [.pv (.agg (cAttr a))] [] (.pv (vint (defE a))) [] := by
  refine AC.of_awp (T := T) T_ok hm Tryz.call139 Tryz.func139 rfl rfl rfl ?_
  conv => whnf
  refine .inl ⟨_, ac_r04_Valid _, ?_⟩
  conv => whnf
  refine ⟨fun h => ?_, fun h => ?_⟩
  · conv => whnf
    simp only [Bool.not_eq_true'] at h
    exact PSub.int (by rw [defE, if_pos h])
  conv => whnf
  simp only [Bool.not_eq_false'] at h
  have h : ¬ validName a.name = false := by rw [h]; decide
  have hk : a.kind < 1 ∨ 4 < a.kind → PSub (ofConst (.int .i64 7)) (vint (defE a)) := fun hh => PSub.int (by rw [defE, if_neg h, if_pos hh])
  refine ⟨fun h2 => ?_, fun h2 => ?_⟩
  · conv => whnf
    simp only [decide_eq_true_eq] at h2
    exact hk (.inl h2)
  conv => whnf
  refine ⟨fun h3 => ?_, fun h3 => ?_⟩
  · conv => whnf
    simp only [decide_eq_true_eq] at h3
    exact hk (.inr h3)
  conv => whnf
  simp only [decide_eq_false_iff_not] at h2 h3
  have hk2 : ¬ (a.kind < 1 ∨ 4 < a.kind) := by omega
  have tail : ∀ (hq : ¬ (a.kind = 2 ∧ (inRange a.min = false ∨ inRange a.max = false ∨ a.max < a.min))) (hq2 : ¬ (a.kind ≠ 2 ∧ (a.min ≠ 0 ∨ a.max ≠ 0))), defE a = if a.kind = 3 then membersE a.enum else if 0 < a.enum.length then 4 else 0 := fun hq hq2 => by
    rw [defE, if_neg h, if_neg hk2, if_neg hq, if_neg hq2]
  have hin : ∀ n, inRange n = false ↔ ¬ (-1099511627776 ≤ n ∧ n ≤ 1099511627776) := fun n => by
    rw [← Bool.not_eq_true, inRange, Bool.and_eq_true, decide_eq_true_eq, decide_eq_true_eq]
  refine ⟨fun h4 => ?_, fun h4 => ?_⟩
  · conv => whnf
    simp only [decide_eq_true_eq] at h4
    have bad : (a.min < -1099511627776 ∨ 1099511627776 < a.max ∨ a.max < a.min) → PSub (ofConst (.int .i64 2)) (vint (defE a)) := fun hh => PSub.int (by rw [defE, if_neg h, if_neg hk2, if_pos ⟨h4, by rw [hin, hin]; omega⟩])
    refine ⟨fun h5 => ?_, fun h5 => ?_⟩
    · conv => whnf
      simp only [decide_eq_true_eq] at h5
      exact bad (.inl h5)
    conv => whnf
    refine ⟨fun h6 => ?_, fun h6 => ?_⟩
    · conv => whnf
      simp only [decide_eq_true_eq] at h6
      exact bad (.inr (.inl h6))
    conv => whnf
    refine ⟨fun h7 => ?_, fun h7 => ?_⟩
    · conv => whnf
      simp only [decide_eq_true_eq] at h7
      exact bad (.inr (.inr h7))
    conv => whnf
    simp only [decide_eq_false_iff_not] at h5 h6 h7
    have hd := tail (by rw [hin, hin]; omega) (by omega)
    rw [if_neg (by omega)] at hd
    rw [hd]
    refine ⟨fun h8 => ?_, fun h8 => ?_⟩
    · conv => whnf
      refine ⟨fun h9 => ?_, fun h9 => ?_⟩
      · conv => whnf
        simp only [decide_eq_true_eq] at h9
        exact PSub.int (by rw [if_pos (by omega)])
      · conv => whnf
        simp only [decide_eq_false_iff_not] at h9
        exact PSub.int (by rw [if_neg (by omega)])
    · simp only [Bool.not_eq_false', decide_eq_true_eq] at h8
      omega
  · conv => whnf
    simp only [decide_eq_false_iff_not] at h4
    have bad : (a.min ≠ 0 ∨ a.max ≠ 0) → PSub (ofConst (.int .i64 2)) (vint (defE a)) := fun hh => PSub.int (by rw [defE, if_neg h, if_neg hk2, if_neg (fun x => h4 x.1), if_pos ⟨h4, hh⟩])
    refine ⟨fun h5 => ?_, fun h5 => ?_⟩
    · conv => whnf
      simp only [Bool.not_eq_true', decide_eq_false_iff_not] at h5
      exact bad (.inl h5)
    conv => whnf
    refine ⟨fun h6 => ?_, fun h6 => ?_⟩
    · conv => whnf
      simp only [Bool.not_eq_true', decide_eq_false_iff_not] at h6
      exact bad (.inr h6)
    conv => whnf
    simp only [Bool.not_eq_false', decide_eq_true_eq] at h5 h6
    have hd := tail (fun x => h4 x.1) (by omega)
    rw [hd]
    refine ⟨fun h8 => ?_, fun h8 => ?_⟩
    · conv => whnf
      simp only [Bool.not_eq_true', decide_eq_false_iff_not] at h8
      rw [if_neg h8]
      refine ⟨fun h9 => ?_, fun h9 => ?_⟩
      · conv => whnf
        simp only [decide_eq_true_eq] at h9
        exact PSub.int (by rw [if_pos (by omega)])
      · conv => whnf
        simp only [decide_eq_false_iff_not] at h9
        exact PSub.int (by rw [if_neg (by omega)])
    conv => whnf
    simp only [Bool.not_eq_false', decide_eq_true_eq] at h8
    rw [if_pos h8]
    refine ⟨fun h => ?_, fun h => ?_⟩
    · conv => whnf
      simp only [decide_eq_true_eq] at h
      exact PSub.int (by rw [membersE, if_pos (by omega)])
    conv => whnf
    refine ⟨fun h9 => ?_, fun h9 => ?_⟩
    · conv => whnf
      simp only [decide_eq_true_eq] at h9
      exact PSub.int (by rw [membersE, if_pos (by omega)])
    conv => whnf
    simp only [decide_eq_false_iff_not] at h h9
    have e0 : membersE a.enum = firstE a.enum.length fun i => if validName (a.enum.getD i default) = false then 10 else if idxOf a.enum (a.enum.getD i default) < i then 9 else 0 := by rw [membersE, if_neg (by omega)]
    rw [e0]
    generalize hf : (fun i => if validName (a.enum.getD i default) = false then (10 : Int) else if idxOf a.enum (a.enum.getD i default) < (i : Int) then 9 else 0) = f
    have hfi : ∀ i, f i = if validName (a.enum.getD i default) = false then (10 : Int) else if idxOf a.enum (a.enum.getD i default) < (i : Int) then 9 else 0 := fun i => by rw [← hf]
    refine ⟨Nat, fun k => k ≤ a.enum.length ∧ ∀ j, j < k → f j = 0, fun k => ⟨[(1, .ptr 1 0), (3, .pv (vint k))], [(1, .pbox (cAttr a))]⟩, fun k => a.enum.length - k, 0, [], ⟨Nat.zero_le _, fun j h => absurd h (by omega)⟩, ⟨⟨PSubs.rfl, trivial⟩, rfl, .rfl⟩, fun k hk => ?_⟩
    conv => whnf
    refine ⟨fun h3 => ?_, fun h3 => ?_⟩
    · conv => whnf
      simp only [decide_eq_true_eq] at h3
      refine ⟨by omega, ?_⟩
      conv => whnf
      refine .inl ⟨_, ac_r04_Valid _, ?_⟩
      conv => whnf
      have hfk := hfi k
      refine ⟨fun h4 => ?_, fun h4 => ?_⟩
      · conv => whnf
        simp only [Bool.not_eq_true', Int.toNat_natCast] at h4
        rw [if_pos h4] at hfk
        exact PSub.int (by rw [firstE_at (k := k) (by omega) (by rw [hfk]; decide) hk.2, hfk])
      · conv => whnf
        simp only [Bool.not_eq_false', Int.toNat_natCast] at h4
        rw [if_neg (by rw [h4]; decide)] at hfk
        refine ⟨by kernel_rfl, ?_⟩
        conv => whnf
        refine ⟨by omega, ?_⟩
        conv => whnf
        refine ⟨by omega, ?_⟩
        conv => whnf
        refine .inl ⟨_, ac_r20_member a.enum k _ (by omega), ?_⟩
        conv => whnf
        refine ⟨by kernel_rfl, ?_⟩
        conv => whnf
        refine ⟨fun h5 => ?_, fun h5 => ?_⟩
        · conv => whnf
          rw [if_pos ((idxOf_lt (by omega)).2 h5)] at hfk
          exact PSub.int (by rw [firstE_at (k := k) (by omega) (by rw [hfk]; decide) hk.2, hfk])
        · conv => whnf
          simp only [Int.toNat_natCast] at h5
          rw [if_neg (fun x => by rw [(idxOf_lt (by omega)).1 x] at h5; cases h5)] at hfk
          refine .inl ⟨wrap64 (by omega), ?_⟩
          conv => whnf
          refine ⟨k + 1, [], ⟨by omega, fun j hj => ?_⟩, by dsimp only; omega, ⟨PSubs.rfl, trivial⟩, rfl, .rfl⟩
          by_cases e : j = k
          · subst e; exact hfk
          · exact hk.2 j (by omega)
    · conv => whnf
      simp only [decide_eq_false_iff_not] at h3
      exact PSub.int (by rw [firstE_none fun j hj => hk.2 j (by omega)])
end Go.Abs

namespace Go.Abs
open Go.Proofs
set_option maxRecDepth 10000
theorem ac_r20_Fits (a : Attr) (v : Val) (hl : a.enum.length ≤ 1048576) : AC Tryz.prog 109 [.pv (.agg (cAttr a)), .pv (.agg (cVal v))] [] (.pv (vint (fitsE a v))) [] := by
  refine AC.of_awp (T := T) T_ok hm Tryz.call109 Tryz.func109 rfl rfl rfl ?_
  conv => whnf
  iterate 14 (all_goals first | (refine ⟨fun h => ?_, fun h => ?_⟩ <;> (conv => whnf)) | (refine .inl ⟨_, ac_r20_Def a hl, ?_⟩; conv => whnf) | (refine .inl ⟨_, ac_r20_Check v, ?_⟩; conv => whnf) | skip)
  all_goals simp only [decide_eq_true_eq, decide_eq_false_iff_not, Bool.not_eq_true', Bool.not_eq_false'] at *
  all_goals first
    | contradiction
    | exact PSub.int (by simp only [fitsE]; (repeat' split) <;> first | rfl | omega | (simp_all; done) | (simp_all; omega))
    | trace_state
theorem ac_r20_Limit (a : Attr) (v : Val) (hl : a.enum.length ≤ 1048576) : AC Tryz.prog 144 [.pv (.agg (cAttr a)), .pv (.agg (cVal v))] [] (.pv (.agg (cVal (limitV a v)))) [] := by
  refine AC.of_awp (T := T) T_ok hm Tryz.call144 Tryz.func144 rfl rfl rfl ?_
  conv => whnf
  iterate 8 (all_goals first | (refine ⟨fun h => ?_, fun h => ?_⟩ <;> (conv => whnf)) | (refine .inl ⟨_, ac_r20_Def a hl, ?_⟩; conv => whnf) | skip)
  all_goals simp only [decide_eq_true_eq, decide_eq_false_iff_not, Bool.not_eq_true', Bool.not_eq_false'] at *
  all_goals first
    | contradiction
    | exact PSub.of_eq (by simp only [limitV, clampI]; (repeat' split) <;> first | rfl | omega | contradiction | (simp_all; done))
    | trace_state
theorem ac_r20_Zero (a : Attr) (hl : a.enum.length ≤ 1048576) : AC Tryz.prog 113 [.pv (.agg (cAttr a))] [] (.pv (.agg (cVal (zeroV a)))) [] := by
  refine AC.of_awp (T := T) T_ok hm Tryz.call113 Tryz.func113 rfl rfl rfl ?_
  conv => whnf
  iterate 6 (all_goals first | (refine ⟨fun h => ?_, fun h => ?_⟩ <;> (conv => whnf)) | (refine .inl ⟨_, ac_r20_Def a hl, ?_⟩; conv => whnf) | (refine .inl ⟨_, ac_r20_Limit a ⟨a.kind, 0, ⟨#[]⟩⟩ hl, ?_⟩; conv => whnf) | skip)
  all_goals simp only [decide_eq_true_eq, decide_eq_false_iff_not, Bool.not_eq_true', Bool.not_eq_false'] at *
  all_goals first
    | contradiction
    | exact PSub.of_eq (by simp only [zeroV, limitV]; (repeat' split) <;> first | rfl | omega | contradiction | (simp_all; done))
    | trace_state
end Go.Abs

namespace Go.Abs
open Go.Proofs
set_option maxRecDepth 10000
def placeI (l : List Attr) (s : ByteArray) : Int := if attrAt l s < l.length then (attrAt l s : Int) else -1
theorem ac_r21_Place (c : Clu) (s : ByteArray) (hc : smallK c) : AC Tryz.prog 151 [.pv (.agg (cClu c)), .pv (vstr s)] [] (.pv (vint (placeI c.attrs s))) [] := by
  have hl : c.attrs.length ≤ 1048576 := hc.1
  refine AC.of_awp (T := T) T_ok hm Tryz.call151 Tryz.func151 rfl rfl rfl ?_
  conv => whnf
  refine ⟨Nat, fun k => k ≤ c.attrs.length ∧ ∀ j, j < k → decide ((c.attrs.getD j default).name = s) = false, fun k => ⟨[(1, .pv (vstr s)), (2, .ptr 2 0), (8, .pv (vint c.attrs.length)), (9, .pv (vint k))], [(2, .pbox (cClu c))]⟩, fun k => c.attrs.length - k, 0, [], ⟨Nat.zero_le _, fun j h => absurd h (by omega)⟩, ⟨⟨PSubs.rfl, trivial⟩, .rfl, rfl, .rfl, .rfl⟩, fun k hk => ?_⟩
  conv => whnf
  refine ⟨fun h => ?_, fun h => ?_⟩
  · simp only [decide_eq_true_eq] at h
    conv => whnf
    refine ⟨by omega, ?_⟩
    conv => whnf
    refine ⟨fun h2 => ?_, fun h2 => ?_⟩
    · conv => whnf
      have ea : attrAt c.attrs s = k := firstI_at (by omega) h2 hk.2
      exact PSub.int (by rw [placeI, ea, if_pos (by omega)])
    · conv => whnf
      refine .inl ⟨wrap64 (by omega), ?_⟩
      conv => whnf
      refine ⟨k + 1, [], ⟨by omega, fun j hj => ?_⟩, by dsimp only; omega, ⟨PSubs.rfl, trivial⟩, .rfl, rfl, .rfl, .rfl⟩
      by_cases e : j = k
      · subst e; exact h2
      · exact hk.2 j (by omega)
  · conv => whnf
    simp only [decide_eq_false_iff_not] at h
    have ea : attrAt c.attrs s = c.attrs.length := firstI_none fun j hj => hk.2 j (by omega)
    exact PSub.int (by rw [placeI, ea, if_neg (by omega)])
theorem ac_r21_Attr (c : Clu) (s : ByteArray) (hc : smallK c) : AC Tryz.prog 129 [.pv (.agg (cClu c)), .pv (vstr s)] [] (.pv (.tup [.agg (cAttr (attrOf c.attrs s)), vbool (decide (attrAt c.attrs s < c.attrs.length))])) [] := by
  refine AC.of_awp (T := T) T_ok hm Tryz.call129 Tryz.func129 rfl rfl rfl ?_
  conv => whnf
  refine .inl ⟨_, ac_r21_Place c s hc, ?_⟩
  conv => whnf
  have hp : placeI c.attrs s < 0 ↔ ¬ attrAt c.attrs s < c.attrs.length := by unfold placeI; split <;> omega
  refine ⟨fun h => ?_, fun h => ?_⟩
  · conv => whnf
    simp only [decide_eq_true_eq] at h
    have h := hp.1 h
    refine ⟨?_, ?_⟩
    · conv => whnf
      rw [attrOf, if_neg h]
      exact PSub.agg ⟨.rfl, .rfl, .rfl, .rfl, PSub.nil_ro _ _, PSub.lit_sb rfl, PSub.lit_sb rfl, trivial⟩
    · conv => whnf
      exact PSub.lit_sb (by simp [h])
  · simp only [decide_eq_false_iff_not] at h
    have h : attrAt c.attrs s < c.attrs.length := Classical.not_not.1 fun x => h (hp.2 x)
    have e : placeI c.attrs s = (attrAt c.attrs s : Int) := by rw [placeI, if_pos h]
    rw [e]
    conv => whnf
    refine ⟨by omega, ?_⟩
    conv => whnf
    refine ⟨?_, ?_⟩
    · conv => whnf
      exact PSub.of_eq (by rw [attrOf, if_pos h]; rfl)
    · conv => whnf
      exact PSub.lit_sb (by simp [h])
theorem ac_r21_TooMany (c : Clu) (hc : smallK c) : AC Tryz.prog 150 [.pv (.agg (cClu c))] [] (.pv (vbool (wideB c))) [] := by
  have hl : c.commands.length ≤ 1048576 := hc.2.2.1
  refine AC.of_awp (T := T) T_ok hm Tryz.call150 Tryz.func150 rfl rfl rfl ?_
  conv => whnf
  refine ⟨fun h => ?_, fun h => ?_⟩
  · conv => whnf
    simp only [decide_eq_true_eq] at h
    exact PSub.lit_sb (by simp [wideB, show 12 < c.attrs.length from by omega])
  conv => whnf
  refine ⟨fun h1 => ?_, fun h1 => ?_⟩
  · conv => whnf
    simp only [decide_eq_true_eq] at h1
    exact PSub.lit_sb (by simp [wideB, show 12 < c.commands.length from by omega])
  conv => whnf
  refine ⟨fun h2 => ?_, fun h2 => ?_⟩
  · conv => whnf
    simp only [decide_eq_true_eq] at h2
    exact PSub.lit_sb (by simp [wideB, show 12 < c.events.length from by omega])
  conv => whnf
  simp only [decide_eq_false_iff_not] at h h1 h2
  have e0 : wideB c = manyE c.commands := by simp [wideB, show ¬ 12 < c.attrs.length from by omega, show ¬ 12 < c.commands.length from by omega, show ¬ 12 < c.events.length from by omega]
  rw [e0]
  refine ⟨Nat, fun k => k ≤ c.commands.length ∧ ∀ j, j < k → ¬ 12 < (c.commands.getD j default).effects.length, fun k => ⟨[(1, .ptr 1 0), (22, .pv (vint c.commands.length)), (23, .pv (vint k))], [(1, .pbox (cClu c))]⟩, fun k => c.commands.length - k, 0, [], ⟨Nat.zero_le _, fun j h => absurd h (by omega)⟩, ⟨⟨PSubs.rfl, trivial⟩, rfl, .rfl, .rfl⟩, fun k hk => ?_⟩
  conv => whnf
  refine ⟨fun h => ?_, fun h => ?_⟩
  · simp only [decide_eq_true_eq] at h
    conv => whnf
    refine ⟨by omega, ?_⟩
    conv => whnf
    refine ⟨fun h2 => ?_, fun h2 => ?_⟩
    · conv => whnf
      simp only [decide_eq_true_eq, Int.toNat_natCast] at h2
      exact PSub.lit_sb (manyE_true (k := k) (by omega) (by omega)).symm
    · conv => whnf
      simp only [decide_eq_false_iff_not, Int.toNat_natCast] at h2
      refine .inl ⟨wrap64 (by omega), ?_⟩
      conv => whnf
      refine ⟨k + 1, [], ⟨by omega, fun j hj => ?_⟩, by dsimp only; omega, ⟨PSubs.rfl, trivial⟩, rfl, .rfl, .rfl⟩
      by_cases e : j = k
      · subst e; omega
      · exact hk.2 j (by omega)
  · conv => whnf
    simp only [decide_eq_false_iff_not] at h
    exact PSub.lit_sb (manyE_false fun j hj => hk.2 j (by omega)).symm
end Go.Abs

namespace Go.Abs
open Go.Proofs
set_option maxRecDepth 10000
theorem ac_r21_SameNames (a b : List ByteArray) (ha : a.length ≤ 1048576) : AC Tryz.prog 188 [.pv (roL 1 cstr a), .pv (roL 1 cstr b)] [] (.pv (vbool (decide (a = b)))) [] := by
  refine AC.of_awp (T := T) T_ok hm Tryz.call188 Tryz.func188 rfl rfl rfl ?_
  conv => whnf
  refine ⟨fun h => ?_, fun h => ?_⟩
  · conv => whnf
    simp only [Bool.not_eq_true', decide_eq_false_iff_not] at h
    exact PSub.lit_sb (by symm; simp only [decide_eq_false_iff_not]; intro e; exact h (by rw [e]))
  conv => whnf
  simp only [Bool.not_eq_false', decide_eq_true_eq] at h
  refine ⟨Nat, fun k => k ≤ a.length ∧ ∀ j, j < k → a.getD j default = b.getD j default, fun k => ⟨[(0, .pv (roL 1 cstr a)), (1, .pv (roL 1 cstr b)), (12, .pv (vint a.length)), (13, .pv (vint k))], []⟩, fun k => a.length - k, 0, [], ⟨Nat.zero_le _, fun j h => absurd h (by omega)⟩, ⟨.rfl, .rfl, .rfl, .rfl⟩, fun k hk => ?_⟩
  conv => whnf
  refine ⟨fun h2 => ?_, fun h2 => ?_⟩
  · simp only [decide_eq_true_eq] at h2
    conv => whnf
    refine ⟨by kernel_rfl, ?_⟩
    conv => whnf
    refine ⟨by omega, ?_⟩
    conv => whnf
    refine ⟨by omega, ?_⟩
    conv => whnf
    refine ⟨by kernel_rfl, ?_⟩
    conv => whnf
    refine ⟨fun h3 => ?_, fun h3 => ?_⟩
    · conv => whnf
      simp only [Bool.not_eq_true', decide_eq_false_iff_not] at h3
      exact PSub.lit_sb (by symm; simp only [decide_eq_false_iff_not]; intro e; exact h3 (by rw [e]))
    · conv => whnf
      simp only [Bool.not_eq_false', decide_eq_true_eq, Int.toNat_natCast] at h3
      refine .inl ⟨wrap64 (by omega), ?_⟩
      conv => whnf
      refine ⟨k + 1, [], ⟨by omega, fun j hj => ?_⟩, by dsimp only; omega, .rfl, .rfl, .rfl, .rfl⟩
      by_cases e : j = k
      · subst e; exact h3
      · exact hk.2 j (by omega)
  · conv => whnf
    simp only [decide_eq_false_iff_not] at h2
    exact PSub.lit_sb (by symm; simp only [decide_eq_true_eq]; exact list_eq (by omega) fun i hi => hk.2 i (by omega))
end Go.Abs

namespace Go.Abs
open Go.Proofs
set_option maxRecDepth 10000
theorem ac_r21_Suits (x : Eff) (a p : Attr) (ha : smallA a) (hp : smallA p) : AC Tryz.prog 189 [.pv (.agg (cEff x)), .pv (.agg (cAttr a)), .pv (.agg (cAttr p))] [] (.pv (vbool (suitsB x a p))) [] := by
  have e0 : alikeB a p = (decide (p.kind = a.kind) && decide (p.enum = a.enum)) := by simp only [alikeB]; congr 1 <;> (rw [Bool.eq_iff_iff]; simp only [decide_eq_true_eq]; exact ⟨fun h => h.symm, fun h => h.symm⟩)
  refine AC.of_awp (T := T) T_ok hm Tryz.call189 Tryz.func189 rfl rfl rfl ?_
  conv => whnf
  repeat (any_goals (first
    | (refine ⟨fun (h : (_ : Bool) = true) => ?_, fun (h : (_ : Bool) = false) => ?_⟩ <;> (try simp only [decide_eq_true_eq, decide_eq_false_iff_not, Bool.not_eq_true', Bool.not_eq_false', Int.toNat_natCast, beq_iff_eq, decide_eq_decide, beq_eq_false_iff_ne, ne_eq, reduceCtorEq] at h) <;> (conv => whnf))
    | (refine .inl ⟨_, ac_r20_Fits a ⟨a.kind, x.n, ⟨#[]⟩⟩ ha, ?_⟩; conv => whnf)
    | (refine .inl ⟨_, ac_r21_SameNames p.enum a.enum hp, ?_⟩; conv => whnf)
    | (refine And.intro (by (try simp only [Int.toNat_natCast]); omega) ?_; conv => whnf)
    | (refine And.intro (show (_ : Bool) = true from by kernel_rfl) ?_; conv => whnf)
    | (refine .inl ⟨wrap64 (by omega), ?_⟩; conv => whnf)))
  all_goals (try simp only [decide_eq_true_eq, decide_eq_false_iff_not, Bool.not_eq_true', Bool.not_eq_false', Int.toNat_natCast, beq_iff_eq, decide_eq_decide, beq_eq_false_iff_ne, ne_eq, reduceCtorEq] at *)
  all_goals first
    | contradiction
    | (exfalso; omega)
    | exact PSub.rfl
    | (refine PSub.int ?_; simp only [suitsB, e0]; (repeat' split) <;> first | rfl | omega | (simp_all [-List.getD_eq_getElem?_getD]; done) | (simp_all [-List.getD_eq_getElem?_getD]; omega))
    | (refine PSub.sb ?_; simp_all [suitsB, e0, -List.getD_eq_getElem?_getD]; done)
    | (refine PSub.lit_sb ?_; simp_all [suitsB, e0, -List.getD_eq_getElem?_getD]; done)
    | (refine PSub.sb_lit ?_; simp_all [suitsB, e0, -List.getD_eq_getElem?_getD]; done)
    | (refine PSub.sb ?_; rw [Bool.eq_iff_iff]; simp_all [suitsB, e0, -List.getD_eq_getElem?_getD]; done)
    | (refine PSub.lit_sb ?_; rw [Bool.eq_iff_iff]; simp_all [suitsB, e0, -List.getD_eq_getElem?_getD]; done)
    | (refine PSub.sb_lit ?_; rw [Bool.eq_iff_iff]; simp_all [suitsB, e0, -List.getD_eq_getElem?_getD]; done)
    | skip
theorem satI_ne {n : Int} : satI n ≠ n ↔ (n < -1099511627776 ∨ 1099511627776 < n) := by unfold satI; omega
theorem ac_r21_Effect (c : Clu) (p : Attr) (x : Eff) (hc : smallK c) (hp : smallA p) : AC Tryz.prog 173 [.pv (.agg (cClu c)), .pv (.agg (cAttr p)), .pv (.agg (cEff x))] [] (.pv (vint (effE c p x))) [] := by
  have e := @satI_ne x.n
  refine AC.of_awp (T := T) T_ok hm Tryz.call173 Tryz.func173 rfl rfl rfl ?_
  conv => whnf
  repeat (any_goals (first
    | (refine ⟨fun (h : (_ : Bool) = true) => ?_, fun (h : (_ : Bool) = false) => ?_⟩ <;> (try simp only [decide_eq_true_eq, decide_eq_false_iff_not, Bool.not_eq_true', Bool.not_eq_false', Int.toNat_natCast, beq_iff_eq, decide_eq_decide, beq_eq_false_iff_ne, ne_eq, reduceCtorEq] at h) <;> (conv => whnf))
    | (refine .inl ⟨_, ac_r21_Attr c x.attr hc, ?_⟩; conv => whnf)
    | (refine .inl ⟨_, ac_r21_Suits x (attrOf c.attrs x.attr) p (small_attrOf hc) hp, ?_⟩; conv => whnf)
    | (refine And.intro (by (try simp only [Int.toNat_natCast]); omega) ?_; conv => whnf)
    | (refine And.intro (show (_ : Bool) = true from by kernel_rfl) ?_; conv => whnf)
    | (refine .inl ⟨wrap64 (by omega), ?_⟩; conv => whnf)))
  all_goals rw [effE]
  all_goals (try simp only [decide_eq_true_eq, decide_eq_false_iff_not, Bool.not_eq_true', Bool.not_eq_false', Int.toNat_natCast, beq_iff_eq, decide_eq_decide, beq_eq_false_iff_ne, ne_eq, reduceCtorEq] at *)
  all_goals first
    | contradiction
    | (exfalso; omega)
    | exact PSub.rfl
    | (refine PSub.int ?_; simp only [e]; (repeat' split) <;> first | rfl | omega | (simp_all [-List.getD_eq_getElem?_getD]; done) | (simp_all [-List.getD_eq_getElem?_getD]; omega))
    | (refine PSub.sb ?_; simp_all [e, -List.getD_eq_getElem?_getD]; done)
    | (refine PSub.lit_sb ?_; simp_all [e, -List.getD_eq_getElem?_getD]; done)
    | (refine PSub.sb_lit ?_; simp_all [e, -List.getD_eq_getElem?_getD]; done)
    | (refine PSub.sb ?_; rw [Bool.eq_iff_iff]; simp_all [e, -List.getD_eq_getElem?_getD]; done)
    | (refine PSub.lit_sb ?_; rw [Bool.eq_iff_iff]; simp_all [e, -List.getD_eq_getElem?_getD]; done)
    | (refine PSub.sb_lit ?_; rw [Bool.eq_iff_iff]; simp_all [e, -List.getD_eq_getElem?_getD]; done)
    | skip
theorem ac_r21_SameAttr (a : Attr) (ha : smallA a) : AC Tryz.prog 172 [.pv (.agg (cAttr a)), .pv (.agg (cAttr noAttr))] [] (.pv (vbool (zeroA a))) [] := by
  refine AC.of_awp (T := T) T_ok hm Tryz.call172 Tryz.func172 rfl rfl rfl ?_
  conv => whnf
  repeat (any_goals (first
    | (refine ⟨fun (h : (_ : Bool) = true) => ?_, fun (h : (_ : Bool) = false) => ?_⟩ <;> (try simp only [decide_eq_true_eq, decide_eq_false_iff_not, Bool.not_eq_true', Bool.not_eq_false', Int.toNat_natCast, beq_iff_eq, decide_eq_decide, beq_eq_false_iff_ne, ne_eq, reduceCtorEq] at h) <;> (conv => whnf))
    | (refine .inl ⟨_, ac_r21_SameNames a.enum [] ha, ?_⟩; conv => whnf)
    | (refine And.intro (by (try simp only [Int.toNat_natCast]); omega) ?_; conv => whnf)
    | (refine And.intro (show (_ : Bool) = true from by kernel_rfl) ?_; conv => whnf)
    | (refine .inl ⟨wrap64 (by omega), ?_⟩; conv => whnf)))
  all_goals first | (refine PSub.sb ?_ ; rw [Bool.eq_iff_iff, zeroA_iff]; simp_all [noAttr]; done) | (refine PSub.lit_sb ?_ ; rw [Bool.eq_iff_iff, zeroA_iff]; simp_all [noAttr]; done) | skip
end Go.Abs

namespace Go.Abs
open Go.Proofs
set_option maxRecDepth 10000
theorem anyN_iff {n : Nat} {p : Nat → Bool} : anyN n p = true ↔ ∃ k, k < n ∧ p k = true := by simp [anyN]
theorem ac_r21_OneCommand (c : Clu) (i : Nat) (hc : smallK c) (hi : i < c.commands.length) : AC Tryz.prog 152 [.pv (.agg (cClu c)), .pv (vint i)] [] (.pv (vint (cmdE c i))) [] := by
  have hl : c.commands.length ≤ 1048576 := hc.2.2.1
  have hd := hc.2.2.2.1 i
  have hd2 : (c.commands.getD i default).effects.length ≤ 1048576 := hd.2
  refine AC.of_awp (T := T) T_ok hm Tryz.call152 Tryz.func152 rfl rfl rfl ?_
  conv => whnf
  refine And.intro (by omega) ?_
  conv => whnf
  refine .inl ⟨_, ac_r04_Valid (c.commands.getD i default).name, ?_⟩
  conv => whnf
  refine ⟨fun h => ?_, fun h => ?_⟩ <;> (try simp only [decide_eq_true_eq, decide_eq_false_iff_not, Bool.not_eq_true', Bool.not_eq_false', Int.toNat_natCast, beq_iff_eq, decide_eq_decide, beq_eq_false_iff_ne, ne_eq, reduceCtorEq] at h) <;> (conv => whnf)
  · exact PSub.int (by simp [cmdE, h, -List.getD_eq_getElem?_getD])
  have hv := h
  refine loop_k (ι := Nat) [1, 2, 5] [2, 5] (fun k => k ≤ i ∧ (∀ j, j < k → decide ((c.commands.getD j default).name = (c.commands.getD i default).name) = false)) (fun k => i - k) 0 (fun k => [(6, .pv (vint k))]) (fun _ => []) [] ⟨Nat.zero_le _, fun j h => absurd h (by omega)⟩ ?_ (fun k hk => ?_)
  · (repeat' (first | exact PSub.rfl | exact rfl | exact PSubs.rfl | exact trivial | exact PSub.lit_sb rfl | refine And.intro ?_ ?_))
  obtain ⟨hkn, hinv⟩ := hk
  conv => whnf
  repeat (any_goals (first
    | (refine ⟨fun (h : (_ : Bool) = true) => ?_, fun (h : (_ : Bool) = false) => ?_⟩ <;> (try simp only [decide_eq_true_eq, decide_eq_false_iff_not, Bool.not_eq_true', Bool.not_eq_false', Int.toNat_natCast, beq_iff_eq, decide_eq_decide, beq_eq_false_iff_ne, ne_eq, reduceCtorEq] at h) <;> (conv => whnf))
    | (refine .inl ⟨_, AC.sub2 (ac_r21_SameAttr (c.commands.getD i default).param hd.1) .rfl (PSub.agg noAttr_cells (l := zAttr)), ?_⟩; conv => whnf)
    | (refine .inl ⟨_, ac_r20_Def (c.commands.getD i default).param hd.1, ?_⟩; conv => whnf)
    | (refine And.intro (by (try simp only [Int.toNat_natCast]); omega) ?_; conv => whnf)
    | (refine And.intro (show (_ : Bool) = true from by kernel_rfl) ?_; conv => whnf)
    | (refine .inl ⟨wrap64 (by omega), ?_⟩; conv => whnf)))
  case' refine_2.refine_2.refine_1.refine_2 =>
    refine ⟨k + 1, [], ⟨by omega, ?_⟩, by first | omega | (dsimp only; omega), ?_⟩
    rotate_left
    · (repeat' (first | exact PSub.rfl | exact rfl | exact PSubs.rfl | exact trivial | exact PSub.lit_sb rfl | refine And.intro ?_ ?_))
    intro j hj
    by_cases e : j = k
    · subst e; first | exact h | simpa [-List.getD_eq_getElem?_getD] using h | simp_all [-List.getD_eq_getElem?_getD]
    · exact hinv j (by omega)
  · have e := anyN_true (n := i) (p := fun j => decide ((c.commands.getD j default).name = (c.commands.getD i default).name)) (k := k) (by omega) (by simpa [-List.getD_eq_getElem?_getD] using h)
    exact PSub.int (by simp [cmdE, hv, e, -List.getD_eq_getElem?_getD])
  all_goals have ef : anyN i (fun j => decide ((c.commands.getD j default).name = (c.commands.getD i default).name)) = false := anyN_false fun j hj => hinv j (by omega)
  all_goals try (exact PSub.int (by simp_all [cmdE, -List.getD_eq_getElem?_getD]; done))
  all_goals
    have e0 : cmdE c i = firstE (c.commands.getD i default).effects.length fun j => effE c (c.commands.getD i default).param ((c.commands.getD i default).effects.getD j default) := by simp_all [cmdE, -List.getD_eq_getElem?_getD]
    rw [e0]
    clear hinv hkn
    refine loop_k (ι := Nat) [2, 5, 50] [2, 5] (fun k2 => k2 ≤ (c.commands.getD i default).effects.length ∧ (∀ j, j < k2 → effE c (c.commands.getD i default).param ((c.commands.getD i default).effects.getD j default) = 0)) (fun k2 => (c.commands.getD i default).effects.length - k2) 0 (fun k2 => [(51, .pv (vint k2))]) (fun _ => []) [] ⟨Nat.zero_le _, fun j h => absurd h (by omega)⟩ ?_ (fun k2 hk => ?_)
    · (repeat' (first | exact PSub.rfl | exact rfl | exact PSubs.rfl | exact trivial | exact PSub.lit_sb rfl | refine And.intro ?_ ?_))
    obtain ⟨hkn, hinv⟩ := hk
    conv => whnf
    repeat (any_goals (first
      | (refine ⟨fun (h : (_ : Bool) = true) => ?_, fun (h : (_ : Bool) = false) => ?_⟩ <;> (try simp only [decide_eq_true_eq, decide_eq_false_iff_not, Bool.not_eq_true', Bool.not_eq_false', Int.toNat_natCast, beq_iff_eq, decide_eq_decide, beq_eq_false_iff_ne, ne_eq, reduceCtorEq] at h) <;> (conv => whnf))
      | (refine .inl ⟨_, ac_r21_Effect c (c.commands.getD i default).param ((c.commands.getD i default).effects.getD k2 default) hc hd.1, ?_⟩; conv => whnf)
      | (refine And.intro (by (try simp only [Int.toNat_natCast]); omega) ?_; conv => whnf)
      | (refine And.intro (show (_ : Bool) = true from by kernel_rfl) ?_; conv => whnf)
      | (refine .inl ⟨wrap64 (by omega), ?_⟩; conv => whnf)))
    · exact PSub.int (by rw [firstE_at (k := k2) (by omega) h hinv])
    · refine ⟨k2 + 1, [], ⟨by omega, ?_⟩, by first | omega | (dsimp only; omega), ?_⟩
      rotate_left
      · (repeat' (first | exact PSub.rfl | exact rfl | exact PSubs.rfl | exact trivial | exact PSub.lit_sb rfl | refine And.intro ?_ ?_))
      intro j hj
      by_cases e : j = k2
      · subst e; first | exact h | simpa [-List.getD_eq_getElem?_getD] using h | simp_all [-List.getD_eq_getElem?_getD]
      · exact hinv j (by omega)
    · exact PSub.int (by rw [firstE_none fun j hj => hinv j (by omega)])
end Go.Abs

namespace Go.Abs
open Go.Proofs
set_option maxRecDepth 10000
theorem placeI_lt {l : List Attr} {s : ByteArray} {k : Nat} (hk : k < l.length) (h : (l.getD k default).name = s) : (placeI l s < (k : Int)) ↔ anyN k (fun j => decide ((l.getD j default).name = s)) = true := by
  have hlt : attrAt l s ≤ k ∧ attrAt l s < l.length := by
    unfold attrAt firstI
    split
    · rename_i i e
      rw [List.find?_range_eq_some] at e
      refine ⟨?_, by simpa using e.2.1⟩
      rcases Nat.lt_or_ge k i with hlt | hge
      · have := e.2.2 k hlt; simp [h, -List.getD_eq_getElem?_getD] at this
      · exact hge
    · rename_i e
      rw [List.find?_eq_none] at e
      have := e k (by simpa using hk)
      simp [h, -List.getD_eq_getElem?_getD] at this
  unfold placeI
  rw [if_pos hlt.2, anyN_iff]
  constructor
  · intro hh
    refine ⟨attrAt l s, by omega, ?_⟩
    unfold attrAt firstI
    split
    · rename_i i e
      rw [List.find?_range_eq_some] at e
      exact e.1
    · rename_i e
      rw [List.find?_eq_none] at e
      have := e k (by simpa using hk)
      simp [h, -List.getD_eq_getElem?_getD] at this
  · rintro ⟨j, hj, e⟩
    have : attrAt l s ≤ j := by
      unfold attrAt firstI
      split
      · rename_i i e2
        rw [List.find?_range_eq_some] at e2
        rcases Nat.lt_or_ge j i with hlt2 | hge
        · have := e2.2.2 j hlt2; rw [e] at this; cases this
        · exact hge
      · rename_i e2
        rw [List.find?_eq_none] at e2
        have := e2 k (by simpa using hk)
        simp [h, -List.getD_eq_getElem?_getD] at this
    omega
theorem ac_r21_Check (c : Clu) (hc : smallK c) : AC Tryz.prog 118 [.pv (.agg (cClu c))] [] (.pv (vint (checkE c))) [] := by
  have hl1 : c.attrs.length ≤ 1048576 := hc.1
  have hl2 : c.commands.length ≤ 1048576 := hc.2.2.1
  have hl3 : c.events.length ≤ 1048576 := hc.2.2.2.2
  refine AC.of_awp (T := T) T_ok hm Tryz.call118 Tryz.func118 rfl rfl rfl ?_
  conv => whnf
  refine .inl ⟨_, ac_r04_Valid c.name, ?_⟩
  conv => whnf
  refine ⟨fun h => ?_, fun h => ?_⟩ <;> (try simp only [decide_eq_true_eq, decide_eq_false_iff_not, Bool.not_eq_true', Bool.not_eq_false', Int.toNat_natCast, beq_iff_eq, decide_eq_decide, beq_eq_false_iff_ne, ne_eq, reduceCtorEq] at h) <;> (conv => whnf)
  · exact PSub.int (by simp [checkE, h, -List.getD_eq_getElem?_getD])
  have hv := h
  refine .inl ⟨_, ac_r21_TooMany c hc, ?_⟩
  conv => whnf
  refine ⟨fun h => ?_, fun h => ?_⟩ <;> (try simp only [decide_eq_true_eq, decide_eq_false_iff_not, Bool.not_eq_true', Bool.not_eq_false', Int.toNat_natCast, beq_iff_eq, decide_eq_decide, beq_eq_false_iff_ne, ne_eq, reduceCtorEq] at h) <;> (conv => whnf)
  · exact PSub.int (by simp [checkE, h, hv, -List.getD_eq_getElem?_getD])
  have hw := h
  refine loop_k (ι := Nat) [1, 17] [1] (fun k => k ≤ c.attrs.length ∧ (∀ j, j < k → attrE c.attrs j = 0)) (fun k => c.attrs.length - k) 0 (fun k => [(18, .pv (vint k))]) (fun _ => []) [] ⟨Nat.zero_le _, fun j h => absurd h (by omega)⟩ ?_ (fun k hk => ?_)
  · (repeat' (first | exact PSub.rfl | exact rfl | exact PSubs.rfl | exact trivial | exact PSub.lit_sb rfl | refine And.intro ?_ ?_))
  obtain ⟨hkn, hinv⟩ := hk
  conv => whnf
  repeat (any_goals (first
    | (refine ⟨fun (h : (_ : Bool) = true) => ?_, fun (h : (_ : Bool) = false) => ?_⟩ <;> (try simp only [decide_eq_true_eq, decide_eq_false_iff_not, Bool.not_eq_true', Bool.not_eq_false', Int.toNat_natCast, beq_iff_eq, decide_eq_decide, beq_eq_false_iff_ne, ne_eq, reduceCtorEq] at h) <;> (conv => whnf))
    | (refine .inl ⟨_, ac_r20_Def (c.attrs.getD k default) (hc.2.1 k), ?_⟩; conv => whnf)
    | (refine .inl ⟨_, ac_r21_Place c (c.attrs.getD k default).name hc, ?_⟩; conv => whnf)
    | (refine And.intro (by (try simp only [Int.toNat_natCast]); omega) ?_; conv => whnf)
    | (refine And.intro (show (_ : Bool) = true from by kernel_rfl) ?_; conv => whnf)
    | (refine .inl ⟨wrap64 (by omega), ?_⟩; conv => whnf)))
  · have e : attrE c.attrs k = defE (c.attrs.getD k default) := by simp [attrE, h, -List.getD_eq_getElem?_getD]
    have e2 := firstE_at (n := c.attrs.length) (k := k) (f := attrE c.attrs) (by omega) (by rw [e]; exact h) hinv
    rw [e] at e2
    exact PSub.int (by simp [checkE, e2, h, hv, hw, -List.getD_eq_getElem?_getD])
  · rename_i hd
    rw [placeI_lt (by omega) rfl] at h
    have e : attrE c.attrs k = 9 := by simp [attrE, hd, h, -List.getD_eq_getElem?_getD]
    have e2 := firstE_at (n := c.attrs.length) (k := k) (f := attrE c.attrs) (by omega) (by rw [e]; decide) hinv
    rw [e] at e2
    exact PSub.int (by simp [checkE, e2, hv, hw, -List.getD_eq_getElem?_getD])
  · rename_i hd
    rw [placeI_lt (by omega) rfl] at h
    refine ⟨k + 1, [], ⟨by omega, ?_⟩, by first | omega | (dsimp only; omega), ?_⟩
    rotate_left
    · (repeat' (first | exact PSub.rfl | exact rfl | exact PSubs.rfl | exact trivial | exact PSub.lit_sb rfl | refine And.intro ?_ ?_))
    intro j hj
    by_cases ee : j = k
    · subst ee; simp [attrE, hd, h, -List.getD_eq_getElem?_getD]
    · exact hinv j (by omega)
  have e1 : firstE c.attrs.length (attrE c.attrs) = 0 := firstE_none fun j hj => hinv j (by omega)
  clear hinv hkn h
  refine loop_k (ι := Nat) [1, 43] [1] (fun k => k ≤ c.commands.length ∧ (∀ j, j < k → cmdE c j = 0)) (fun k => c.commands.length - k) 0 (fun k => [(44, .pv (vint k))]) (fun _ => []) [] ⟨Nat.zero_le _, fun j h => absurd h (by omega)⟩ ?_ (fun k hk => ?_)
  · (repeat' (first | exact PSub.rfl | exact rfl | exact PSubs.rfl | exact trivial | exact PSub.lit_sb rfl | refine And.intro ?_ ?_))
  obtain ⟨hkn, hinv⟩ := hk
  conv => whnf
  repeat (any_goals (first
    | (refine ⟨fun (h : (_ : Bool) = true) => ?_, fun (h : (_ : Bool) = false) => ?_⟩ <;> (try simp only [decide_eq_true_eq, decide_eq_false_iff_not, Bool.not_eq_true', Bool.not_eq_false', Int.toNat_natCast, beq_iff_eq, decide_eq_decide, beq_eq_false_iff_ne, ne_eq, reduceCtorEq] at h) <;> (conv => whnf))
    | (refine .inl ⟨_, ac_r21_OneCommand c k hc (by omega), ?_⟩; conv => whnf)
    | (refine And.intro (by (try simp only [Int.toNat_natCast]); omega) ?_; conv => whnf)
    | (refine And.intro (show (_ : Bool) = true from by kernel_rfl) ?_; conv => whnf)
    | (refine .inl ⟨wrap64 (by omega), ?_⟩; conv => whnf)))
  · have e2 := firstE_at (n := c.commands.length) (k := k) (f := cmdE c) (by omega) h hinv
    exact PSub.int (by simp [checkE, e1, e2, h, hv, hw, -List.getD_eq_getElem?_getD])
  · refine ⟨k + 1, [], ⟨by omega, ?_⟩, by first | omega | (dsimp only; omega), ?_⟩
    rotate_left
    · (repeat' (first | exact PSub.rfl | exact rfl | exact PSubs.rfl | exact trivial | exact PSub.lit_sb rfl | refine And.intro ?_ ?_))
    intro j hj
    by_cases e : j = k
    · subst e; first | exact h | simpa [-List.getD_eq_getElem?_getD] using h | simp_all [-List.getD_eq_getElem?_getD]
    · exact hinv j (by omega)
  have e2 : firstE c.commands.length (cmdE c) = 0 := firstE_none fun j hj => hinv j (by omega)
  have e0 : checkE c = firstE c.events.length (evE c.events) := by simp [checkE, e1, e2, hv, hw, -List.getD_eq_getElem?_getD]
  rw [e0]
  clear hinv hkn h
  refine loop_k (ι := Nat) [1, 56] [1] (fun k => k ≤ c.events.length ∧ (∀ j, j < k → evE c.events j = 0)) (fun k => c.events.length - k) 0 (fun k => [(57, .pv (vint k))]) (fun _ => []) [] ⟨Nat.zero_le _, fun j h => absurd h (by omega)⟩ ?_ (fun k hk => ?_)
  · (repeat' (first | exact PSub.rfl | exact rfl | exact PSubs.rfl | exact trivial | exact PSub.lit_sb rfl | refine And.intro ?_ ?_))
  obtain ⟨hkn, hinv⟩ := hk
  conv => whnf
  repeat (any_goals (first
    | (refine ⟨fun (h : (_ : Bool) = true) => ?_, fun (h : (_ : Bool) = false) => ?_⟩ <;> (try simp only [decide_eq_true_eq, decide_eq_false_iff_not, Bool.not_eq_true', Bool.not_eq_false', Int.toNat_natCast, beq_iff_eq, decide_eq_decide, beq_eq_false_iff_ne, ne_eq, reduceCtorEq] at h) <;> (conv => whnf))
    | (refine .inl ⟨_, ac_r04_Valid (c.events.getD k default), ?_⟩; conv => whnf)
    | (refine And.intro (by (try simp only [Int.toNat_natCast]); omega) ?_; conv => whnf)
    | (refine And.intro (show (_ : Bool) = true from by kernel_rfl) ?_; conv => whnf)
    | (refine .inl ⟨wrap64 (by omega), ?_⟩; conv => whnf)))
  · have e : evE c.events k = 10 := by simp [evE, h, -List.getD_eq_getElem?_getD]
    exact PSub.int (by rw [firstE_at (k := k) (by omega) (by rw [e]; decide) hinv, e])
  · have hve := h
    have hinv1 := hinv
    refine loop_k (ι := Nat) [1, 7, 56, 57] [1] (fun k2 => k2 ≤ k ∧ (∀ j, j < k2 → c.events.getD j default ≠ c.events.getD k default)) (fun k2 => k - k2) 0 (fun k2 => [(8, .pv (vint k2))]) (fun _ => []) [] ⟨Nat.zero_le _, fun j h => absurd h (by omega)⟩ ?_ (fun k2 hk => ?_)
    · (repeat' (first | exact PSub.rfl | exact rfl | exact PSubs.rfl | exact trivial | exact PSub.lit_sb rfl | refine And.intro ?_ ?_))
    obtain ⟨hkn, hinv⟩ := hk
    conv => whnf
    repeat (any_goals (first
      | (refine ⟨fun (h : (_ : Bool) = true) => ?_, fun (h : (_ : Bool) = false) => ?_⟩ <;> (try simp only [decide_eq_true_eq, decide_eq_false_iff_not, Bool.not_eq_true', Bool.not_eq_false', Int.toNat_natCast, beq_iff_eq, decide_eq_decide, beq_eq_false_iff_ne, ne_eq, reduceCtorEq] at h) <;> (conv => whnf))
      | (refine And.intro (by (try simp only [Int.toNat_natCast]); omega) ?_; conv => whnf)
      | (refine And.intro (show (_ : Bool) = true from by kernel_rfl) ?_; conv => whnf)
      | (refine .inl ⟨wrap64 (by omega), ?_⟩; conv => whnf)))
    · have e := memN_true (l := c.events) (n := k) (k := k2) (s := c.events.getD k default) (by omega) h
      have e : evE c.events k = 9 := by simp [evE, hve, e, -List.getD_eq_getElem?_getD]
      exact PSub.int (by rw [firstE_at (k := k) (by omega) (by rw [e]; decide) hinv1, e])
    · refine ⟨k2 + 1, [], ⟨by omega, ?_⟩, by first | omega | (dsimp only; omega), ?_⟩
      rotate_left
      · (repeat' (first | exact PSub.rfl | exact rfl | exact PSubs.rfl | exact trivial | exact PSub.lit_sb rfl | refine And.intro ?_ ?_))
      intro j hj
      by_cases e : j = k2
      · subst e; first | exact h | simpa [-List.getD_eq_getElem?_getD] using h | simp_all [-List.getD_eq_getElem?_getD]
      · exact hinv j (by omega)
    · have e := memN_false (l := c.events) (n := k) (s := c.events.getD k default) fun j hj => hinv j (by omega)
      refine ⟨k + 1, [], ⟨by omega, ?_⟩, by first | omega | (dsimp only; omega), ?_⟩
      rotate_left
      · (repeat' (first | exact PSub.rfl | exact rfl | exact PSubs.rfl | exact trivial | exact PSub.lit_sb rfl | refine And.intro ?_ ?_))
      intro j hj
      by_cases ee : j = k
      · subst ee; simp [evE, hve, e, -List.getD_eq_getElem?_getD]
      · exact hinv1 j (by omega)
  · exact PSub.int (by rw [firstE_none fun j hj => hinv j (by omega)])
theorem ac_r21_All (l : List Clu) (hl : smallKs l) : AC Tryz.prog 82 [.pv (roL 4 cClu l)] [] (.pv (vint (allE l))) [] := by
  have hl1 : l.length ≤ 1048576 := hl.1
  refine AC.of_awp (T := T) T_ok hm Tryz.call82 Tryz.func82 rfl rfl rfl ?_
  conv => whnf
  refine ⟨fun h => ?_, fun h => ?_⟩ <;> (try simp only [decide_eq_true_eq, decide_eq_false_iff_not, Bool.not_eq_true', Bool.not_eq_false', Int.toNat_natCast, beq_iff_eq, decide_eq_decide, beq_eq_false_iff_ne, ne_eq, reduceCtorEq] at h) <;> (conv => whnf)
  · exact PSub.int (by rw [allE, if_pos (by omega)])
  rw [allE, if_neg (by omega)]
  clear h
  refine loop_k (ι := Nat) [0, 10] [] (fun k => k ≤ l.length ∧ (∀ j, j < k → cluE l j = 0)) (fun k => l.length - k) 0 (fun k => [(11, .pv (vint k))]) (fun _ => []) [] ⟨Nat.zero_le _, fun j h => absurd h (by omega)⟩ ?_ (fun k hk => ?_)
  · (repeat' (first | exact PSub.rfl | exact rfl | exact PSubs.rfl | exact trivial | exact PSub.lit_sb rfl | refine And.intro ?_ ?_))
  obtain ⟨hkn, hinv⟩ := hk
  conv => whnf
  repeat (any_goals (first
    | (refine ⟨fun (h : (_ : Bool) = true) => ?_, fun (h : (_ : Bool) = false) => ?_⟩ <;> (try simp only [decide_eq_true_eq, decide_eq_false_iff_not, Bool.not_eq_true', Bool.not_eq_false', Int.toNat_natCast, beq_iff_eq, decide_eq_decide, beq_eq_false_iff_ne, ne_eq, reduceCtorEq] at h) <;> (conv => whnf))
    | (refine .inl ⟨_, ac_r21_Check (l.getD k default) (hl.2 k), ?_⟩; conv => whnf)
    | (refine And.intro (by (try simp only [Int.toNat_natCast]); omega) ?_; conv => whnf)
    | (refine And.intro (show (_ : Bool) = true from by kernel_rfl) ?_; conv => whnf)
    | (refine .inl ⟨wrap64 (by omega), ?_⟩; conv => whnf)))
  · have e : cluE l k = checkE (l.getD k default) := by simp [cluE, h, -List.getD_eq_getElem?_getD]
    exact PSub.int (by rw [firstE_at (k := k) (by omega) (by rw [e]; exact h) hinv, e])
  · have hd := h
    have hinv1 := hinv
    refine loop_k (ι := Nat) [0, 3, 10, 11] [] (fun k2 => k2 ≤ k ∧ (∀ j, j < k2 → decide ((l.getD j default).name = (l.getD k default).name) = false)) (fun k2 => k - k2) 0 (fun k2 => [(5, .pv (vint k2))]) (fun _ => []) [] ⟨Nat.zero_le _, fun j h => absurd h (by omega)⟩ ?_ (fun k2 hk => ?_)
    · (repeat' (first | exact PSub.rfl | exact rfl | exact PSubs.rfl | exact trivial | exact PSub.lit_sb rfl | refine And.intro ?_ ?_))
    obtain ⟨hkn, hinv⟩ := hk
    conv => whnf
    repeat (any_goals (first
      | (refine ⟨fun (h : (_ : Bool) = true) => ?_, fun (h : (_ : Bool) = false) => ?_⟩ <;> (try simp only [decide_eq_true_eq, decide_eq_false_iff_not, Bool.not_eq_true', Bool.not_eq_false', Int.toNat_natCast, beq_iff_eq, decide_eq_decide, beq_eq_false_iff_ne, ne_eq, reduceCtorEq] at h) <;> (conv => whnf))
      | (refine And.intro (by (try simp only [Int.toNat_natCast]); omega) ?_; conv => whnf)
      | (refine And.intro (show (_ : Bool) = true from by kernel_rfl) ?_; conv => whnf)
      | (refine .inl ⟨wrap64 (by omega), ?_⟩; conv => whnf)))
    · have e := anyN_true (n := k) (k := k2) (p := fun j => decide ((l.getD j default).name = (l.getD k default).name)) (by omega) (by simpa [-List.getD_eq_getElem?_getD] using h)
      have e : cluE l k = 9 := by simp [cluE, hd, e, -List.getD_eq_getElem?_getD]
      exact PSub.int (by rw [firstE_at (k := k) (by omega) (by rw [e]; decide) hinv1, e])
    · refine ⟨k2 + 1, [], ⟨by omega, ?_⟩, by first | omega | (dsimp only; omega), ?_⟩
      rotate_left
      · (repeat' (first | exact PSub.rfl | exact rfl | exact PSubs.rfl | exact trivial | exact PSub.lit_sb rfl | refine And.intro ?_ ?_))
      intro j hj
      by_cases e : j = k2
      · subst e; first | exact h | simpa [-List.getD_eq_getElem?_getD] using h | simp_all [-List.getD_eq_getElem?_getD]
      · exact hinv j (by omega)
    · have e := anyN_false (n := k) (p := fun j => decide ((l.getD j default).name = (l.getD k default).name)) fun j hj => hinv j (by omega)
      refine ⟨k + 1, [], ⟨by omega, ?_⟩, by first | omega | (dsimp only; omega), ?_⟩
      rotate_left
      · (repeat' (first | exact PSub.rfl | exact rfl | exact PSubs.rfl | exact trivial | exact PSub.lit_sb rfl | refine And.intro ?_ ?_))
      intro j hj
      by_cases ee : j = k
      · subst ee; simp [cluE, hd, e, -List.getD_eq_getElem?_getD]
      · exact hinv1 j (by omega)
  · exact PSub.int (by rw [firstE_none fun j hj => hinv j (by omega)])
end Go.Abs

namespace Go.Abs
open Go.Proofs
set_option maxRecDepth 10000
def cluAt (l : List Clu) (s : ByteArray) : Nat := firstI l.length fun i => decide ((l.getD i default).name = s)
theorem firstC_eq (l : List Clu) (s : ByteArray) : firstC l s = if cluAt l s < l.length then some (l.getD (cluAt l s) default) else none := by
  unfold firstC cluAt
  cases hf : l.find? fun c => decide (c.name = s) with
  | none =>
    rw [List.find?_eq_none] at hf
    rw [firstI_none fun i hi => ?_, if_neg (Nat.lt_irrefl _)]
    have := hf l[i] (List.getElem_mem hi)
    simpa [List.getD, hi] using this
  | some c =>
    obtain ⟨h1, xs, ys, h2, h3⟩ := List.find?_eq_some_iff_append.1 hf
    have hi : xs.length < l.length := by rw [h2]; simp
    have e : l.getD xs.length default = c := by simp [h2]
    have ef : firstI l.length (fun i => decide ((l.getD i default).name = s)) = xs.length := by
      refine firstI_at hi (by rw [e]; exact h1) fun j hj => ?_
      have := h3 xs[j] (List.getElem_mem hj)
      simpa [h2, List.getElem?_append_left hj, hj] using this
    rw [ef, if_pos hi, e]
def cluIx (l : List Clu) (s : ByteArray) : Int := if cluAt l s < l.length then (cluAt l s : Int) else -1
theorem ac_r22_cluster (H : Hom) (s : ByteArray) (hH : smallH H) : AC Tryz.prog 85 [.pv (.agg (cHom H)), .pv (vstr s)] [] (.pv (vint (cluIx H.clusters s))) [] := by
  have hl : H.clusters.length ≤ 1048576 := hH.1.1
  refine AC.of_awp (T := T) T_ok hm Tryz.call85 Tryz.func85 rfl rfl rfl ?_
  conv => whnf
  refine loop_k (ι := Nat) [1, 2] [2] (fun k => k ≤ H.clusters.length ∧ (∀ j, j < k → decide ((H.clusters.getD j default).name = s) = false)) (fun k => H.clusters.length - k) 0 (fun k => [(5, .pv (vint k))]) (fun _ => []) [] ⟨Nat.zero_le _, fun j h => absurd h (by omega)⟩ ?_ (fun k hk => ?_)
  · (repeat' (first | exact PSub.rfl | exact rfl | exact PSubs.rfl | exact trivial | exact PSub.lit_sb rfl | refine And.intro ?_ ?_))
  obtain ⟨hkn, hinv⟩ := hk
  conv => whnf
  repeat (any_goals (first
    | (refine ⟨fun (h : (_ : Bool) = true) => ?_, fun (h : (_ : Bool) = false) => ?_⟩ <;> (try simp only [decide_eq_true_eq, decide_eq_false_iff_not, Bool.not_eq_true', Bool.not_eq_false', Int.toNat_natCast, beq_iff_eq, decide_eq_decide, beq_eq_false_iff_ne, ne_eq, reduceCtorEq] at h) <;> (conv => whnf))
    | (refine And.intro (by (try simp only [Int.toNat_natCast]); omega) ?_; conv => whnf)
    | (refine And.intro (show (_ : Bool) = true from by kernel_rfl) ?_; conv => whnf)
    | (refine .inl ⟨wrap64 (by omega), ?_⟩; conv => whnf)))
  · have e : cluAt H.clusters s = k := firstI_at (by omega) (by simpa [-List.getD_eq_getElem?_getD] using h) hinv
    exact PSub.int (by rw [cluIx, e, if_pos (by omega)])
  · refine ⟨k + 1, [], ⟨by omega, ?_⟩, by first | omega | (dsimp only; omega), ?_⟩
    rotate_left
    · (repeat' (first | exact PSub.rfl | exact rfl | exact PSubs.rfl | exact trivial | exact PSub.lit_sb rfl | refine And.intro ?_ ?_))
    intro j hj
    by_cases e : j = k
    · subst e; first | exact h | simpa [-List.getD_eq_getElem?_getD] using h | simp_all [-List.getD_eq_getElem?_getD]
    · exact hinv j (by omega)
  · have e : cluAt H.clusters s = H.clusters.length := firstI_none fun j hj => hinv j (by omega)
    exact PSub.int (by rw [cluIx, e, if_neg (by omega)])
def devIx (l : List Dev) (id : Int) : Int := if devAt l id < l.length then (devAt l id : Int) else -1
theorem ac_r22_At (H : Hom) (id : Int) (hH : smallH H) : AC Tryz.prog 73 [.pv (.agg (cHom H)), .pv (vint id)] [] (.pv (vint (devIx H.devices id))) [] := by
  have hl : H.devices.length ≤ 1048576 := hH.2.1
  refine AC.of_awp (T := T) T_ok hm Tryz.call73 Tryz.func73 rfl rfl rfl ?_
  conv => whnf
  refine loop_k (ι := Nat) [1, 2] [2] (fun k => k ≤ H.devices.length ∧ (∀ j, j < k → decide ((H.devices.getD j default).id = id) = false)) (fun k => H.devices.length - k) 0 (fun k => [(5, .pv (vint k))]) (fun _ => []) [] ⟨Nat.zero_le _, fun j h => absurd h (by omega)⟩ ?_ (fun k hk => ?_)
  · (repeat' (first | exact PSub.rfl | exact rfl | exact PSubs.rfl | exact trivial | exact PSub.lit_sb rfl | refine And.intro ?_ ?_))
  obtain ⟨hkn, hinv⟩ := hk
  conv => whnf
  repeat (any_goals (first
    | (refine ⟨fun (h : (_ : Bool) = true) => ?_, fun (h : (_ : Bool) = false) => ?_⟩ <;> (try simp only [decide_eq_true_eq, decide_eq_false_iff_not, Bool.not_eq_true', Bool.not_eq_false', Int.toNat_natCast, beq_iff_eq, decide_eq_decide, beq_eq_false_iff_ne, ne_eq, reduceCtorEq] at h) <;> (conv => whnf))
    | (refine And.intro (by (try simp only [Int.toNat_natCast]); omega) ?_; conv => whnf)
    | (refine And.intro (show (_ : Bool) = true from by kernel_rfl) ?_; conv => whnf)
    | (refine .inl ⟨wrap64 (by omega), ?_⟩; conv => whnf)))
  · have e : devAt H.devices id = k := firstI_at (by omega) (by simpa [-List.getD_eq_getElem?_getD] using h) hinv
    exact PSub.int (by rw [devIx, e, if_pos (by omega)])
  · refine ⟨k + 1, [], ⟨by omega, ?_⟩, by first | omega | (dsimp only; omega), ?_⟩
    rotate_left
    · (repeat' (first | exact PSub.rfl | exact rfl | exact PSubs.rfl | exact trivial | exact PSub.lit_sb rfl | refine And.intro ?_ ?_))
    intro j hj
    by_cases e : j = k
    · subst e; first | exact h | simpa [-List.getD_eq_getElem?_getD] using h | simp_all [-List.getD_eq_getElem?_getD]
    · exact hinv j (by omega)
  · have e : devAt H.devices id = H.devices.length := firstI_none fun j hj => hinv j (by omega)
    exact PSub.int (by rw [devIx, e, if_neg (by omega)])
theorem firstC_ix {l : List Clu} {s : ByteArray} : (cluIx l s < 0 ∧ firstC l s = none) ∨ ∃ k : Nat, cluIx l s = k ∧ k < l.length ∧ firstC l s = some (l.getD k default) := by
  rw [firstC_eq]
  unfold cluIx
  split
  · rename_i h; exact .inr ⟨_, rfl, h, rfl⟩
  · exact .inl ⟨by omega, rfl⟩
theorem ac_r22_parts (H : Hom) (d : Dev) (hH : smallH H) : AC Tryz.prog 120 [.pv (.agg (cHom H)), .pv (.agg (cDev d))] [] (.pv (vint (capE (firstC H.clusters) d))) [] := by
  have hl : H.clusters.length ≤ 1048576 := hH.1.1
  refine AC.of_awp (T := T) T_ok hm Tryz.call120 Tryz.func120 rfl rfl rfl ?_
  conv => whnf
  refine ⟨fun h => ?_, fun h => ?_⟩
  · conv => whnf
    simp only [decide_eq_true_eq] at h
    exact PSub.int (by rw [capE, if_pos (by omega)])
  conv => whnf
  refine ⟨fun h => ?_, fun h => ?_⟩ <;> (try simp only [decide_eq_true_eq, decide_eq_false_iff_not, Bool.not_eq_true', Bool.not_eq_false', Int.toNat_natCast, beq_iff_eq, decide_eq_decide, beq_eq_false_iff_ne, ne_eq, reduceCtorEq] at h) <;> (conv => whnf)
  · exact PSub.int (by rw [capE, if_pos (by omega)])
  rename_i h0
  simp only [decide_eq_false_iff_not] at h0
  rw [capE, if_neg (by omega)]
  refine loop_k (ι := Nat × Int) [2, 3] [2, 3] (fun i => i.1 ≤ d.clusters.length ∧ (0 ≤ i.2 ∧ i.2 ≤ i.1 * 1048576) ∧ forI (capStep (firstC H.clusters) d) (d.clusters.length - i.1) i.1 i.2 = forI (capStep (firstC H.clusters) d) d.clusters.length 0 0) (fun i => d.clusters.length - i.1) (0, 0) (fun i => [(5, .pv (vint i.2)), (6, .pv (vint i.1))]) (fun _ => []) [] ⟨Nat.zero_le _, by simp, rfl⟩ ?_ (fun i hk => ?_)
  · (repeat' (first | exact PSub.rfl | exact rfl | exact PSubs.rfl | exact trivial | exact PSub.lit_sb rfl | refine And.intro ?_ ?_))
  obtain ⟨k, n⟩ := i
  obtain ⟨hkn, hn, hfor⟩ := hk
  simp only at hkn hn hfor
  conv => whnf
  refine ⟨fun h => ?_, fun h => ?_⟩ <;> (try simp only [decide_eq_true_eq, decide_eq_false_iff_not, Bool.not_eq_true', Bool.not_eq_false', Int.toNat_natCast, beq_iff_eq, decide_eq_decide, beq_eq_false_iff_ne, ne_eq, reduceCtorEq] at h) <;> (conv => whnf)
  · repeat (any_goals (first
      | (refine ⟨fun (h : (_ : Bool) = true) => ?_, fun (h : (_ : Bool) = false) => ?_⟩ <;> (try simp only [decide_eq_true_eq, decide_eq_false_iff_not, Bool.not_eq_true', Bool.not_eq_false', Int.toNat_natCast, beq_iff_eq, decide_eq_decide, beq_eq_false_iff_ne, ne_eq, reduceCtorEq] at h) <;> (conv => whnf))
      | (refine .inl ⟨_, ac_r22_cluster H (d.clusters.getD k default) hH, ?_⟩; conv => whnf)
      | (refine .inl ⟨_, ac_r04_Index d.clusters (d.clusters.getD k default) (by omega), ?_⟩; conv => whnf)
      | (refine And.intro (by (try simp only [Int.toNat_natCast]); omega) ?_; conv => whnf)
      | (refine And.intro (show (_ : Bool) = true from by kernel_rfl) ?_; conv => whnf)
      | (refine .inl ⟨wrap64 (by omega), ?_⟩; conv => whnf)))
    · have hc : firstC H.clusters (d.clusters.getD k default) = none := by
        rcases firstC_ix (l := H.clusters) (s := d.clusters.getD k default) with ⟨_, e⟩ | ⟨j, e, _, _⟩
        · exact e
        · omega
      rw [forI_stop hfor (by omega) (r := 8) (by rw [capStep, hc])]
      exact PSub.rfl
    · rcases firstC_ix (l := H.clusters) (s := d.clusters.getD k default) with ⟨_, _⟩ | ⟨j, e, hj, hc⟩
      · omega
      rw [forI_stop hfor (by omega) (r := 9) (by rw [capStep, hc]; simp only; rw [if_pos h])]
      exact PSub.rfl
    · rcases firstC_ix (l := H.clusters) (s := d.clusters.getD k default) with ⟨_, _⟩ | ⟨j, e, hj, hc⟩
      · omega
      rw [e]
      have hcl : (H.clusters.getD j default).attrs.length ≤ 1048576 := (hH.1.2 j).1
      refine And.intro (by omega) ?_
      conv => whnf
      refine .inl ⟨wrap64 (by simp only [Int.toNat_natCast]; omega), ?_⟩
      conv => whnf
      repeat (any_goals (first
        | (refine ⟨fun (h : (_ : Bool) = true) => ?_, fun (h : (_ : Bool) = false) => ?_⟩ <;> (try simp only [decide_eq_true_eq, decide_eq_false_iff_not, Bool.not_eq_true', Bool.not_eq_false', Int.toNat_natCast, beq_iff_eq, decide_eq_decide, beq_eq_false_iff_ne, ne_eq, reduceCtorEq] at h) <;> (conv => whnf))
        | (refine And.intro (by (try simp only [Int.toNat_natCast]); omega) ?_; conv => whnf)
        | (refine And.intro (show (_ : Bool) = true from by kernel_rfl) ?_; conv => whnf)
        | (refine .inl ⟨wrap64 (by omega), ?_⟩; conv => whnf)))
      refine ⟨(k + 1, n + (H.clusters.getD j default).attrs.length), [], ⟨by dsimp only; omega, ⟨by dsimp only; omega, by dsimp only; omega⟩, forI_next hfor (by omega) (by rw [capStep, hc]; simp only; rw [if_neg h])⟩, by dsimp only; omega, ?_⟩
      (repeat' (first | exact PSub.rfl | exact rfl | exact PSubs.rfl | exact trivial | exact PSub.lit_sb rfl | refine And.intro ?_ ?_))
  · rw [forI_end hfor (by omega)]
    repeat (any_goals (first
      | (refine ⟨fun (h : (_ : Bool) = true) => ?_, fun (h : (_ : Bool) = false) => ?_⟩ <;> (try simp only [decide_eq_true_eq, decide_eq_false_iff_not, Bool.not_eq_true', Bool.not_eq_false', Int.toNat_natCast, beq_iff_eq, decide_eq_decide, beq_eq_false_iff_ne, ne_eq, reduceCtorEq] at h) <;> (conv => whnf))
      | (refine And.intro (by (try simp only [Int.toNat_natCast]); omega) ?_; conv => whnf)
      | (refine And.intro (show (_ : Bool) = true from by kernel_rfl) ?_; conv => whnf)
      | (refine .inl ⟨wrap64 (by omega), ?_⟩; conv => whnf)))
    · exact PSub.int (by simp only; rw [if_pos h])
    · exact PSub.int (by simp only; rw [if_neg h])
set_option maxHeartbeats 2000000 in
theorem ac_r22_one (H : Hom) (i : Nat) (hH : smallH H) (hi : i < H.devices.length) : AC Tryz.prog 83 [.pv (.agg (cHom H)), .pv (vint i)] [] (.pv (vint (devE (firstC H.clusters) H.devices i))) [] := by
  have hl : H.devices.length ≤ 1048576 := hH.2.1
  have hpi : (↑i - 1 : Int).toNat = i - 1 := by omega
  refine AC.of_awp (T := T) T_ok hm Tryz.call83 Tryz.func83 rfl rfl rfl ?_
  conv => whnf
  repeat (any_goals (first
    | (refine ⟨fun (h : (_ : Bool) = true) => ?_, fun (h : (_ : Bool) = false) => ?_⟩ <;> (try simp only [decide_eq_true_eq, decide_eq_false_iff_not, Bool.not_eq_true', Bool.not_eq_false', Int.toNat_natCast, beq_iff_eq, decide_eq_decide, beq_eq_false_iff_ne, ne_eq, reduceCtorEq] at h) <;> (conv => whnf))
    | (refine And.intro (by (try simp only [Int.toNat_natCast]); omega) ?_; conv => whnf)
    | (refine And.intro (show (_ : Bool) = true from by kernel_rfl) ?_; conv => whnf)
    | (refine .inl ⟨wrap64 (by omega), ?_⟩; conv => whnf)))
  all_goals try rw [hpi] at h
  all_goals try (exfalso; simp_all [-List.getD_eq_getElem?_getD]; done)
  all_goals try (refine PSub.int ?_; simp only [devE, numB]; simp_all [-List.getD_eq_getElem?_getD]; done)
  all_goals try (refine PSub.int ?_; simp only [devE, numB]; simp_all [-List.getD_eq_getElem?_getD]; omega)
  all_goals trace "left"
  all_goals
    have e0 : devE (firstC H.clusters) H.devices i = if anyN i (fun j => decide ((H.devices.getD j default).eui = (H.devices.getD i default).eui)) = true then 9 else if validName (H.devices.getD i default).room = false then 10 else capE (firstC H.clusters) (H.devices.getD i default) := by
      have hn : numB (H.devices.getD i default) = true := by simp only [numB]; simp_all [-List.getD_eq_getElem?_getD]
      simp only [devE]; rw [hn]; simp only [Bool.true_eq_false, if_false]
      rw [if_neg (by omega)]
    rw [e0]
    refine loop_k (ι := Nat) [1, 2, 5] [2, 5] (fun k => k ≤ i ∧ (∀ j, j < k → decide ((H.devices.getD j default).eui = (H.devices.getD i default).eui) = false)) (fun k => i - k) 0 (fun k => [(6, .pv (vint k))]) (fun _ => []) [] ⟨Nat.zero_le _, fun j h => absurd h (by omega)⟩ ?_ (fun k hk => ?_)
    · (repeat' (first | exact PSub.rfl | exact rfl | exact PSubs.rfl | exact trivial | exact PSub.lit_sb rfl | refine And.intro ?_ ?_))
    obtain ⟨hkn, hinv⟩ := hk
    conv => whnf
    clear e0
    repeat (any_goals (first
      | (refine ⟨fun (h : (_ : Bool) = true) => ?_, fun (h : (_ : Bool) = false) => ?_⟩ <;> (try simp only [decide_eq_true_eq, decide_eq_false_iff_not, Bool.not_eq_true', Bool.not_eq_false', Int.toNat_natCast, beq_iff_eq, decide_eq_decide, beq_eq_false_iff_ne, ne_eq, reduceCtorEq] at h) <;> (conv => whnf))
      | (refine .inl ⟨_, ac_r04_Valid (H.devices.getD i default).room, ?_⟩; conv => whnf)
      | (refine .inl ⟨_, ac_r22_parts H (H.devices.getD i default) hH, ?_⟩; conv => whnf)
      | (refine And.intro (by (try simp only [Int.toNat_natCast]); omega) ?_; conv => whnf)
      | (refine And.intro (show (_ : Bool) = true from by kernel_rfl) ?_; conv => whnf)
      | (refine .inl ⟨wrap64 (by omega), ?_⟩; conv => whnf)))
    · have e := anyN_true (n := i) (k := k) (p := fun j => decide ((H.devices.getD j default).eui = (H.devices.getD i default).eui)) (by omega) (by simpa [-List.getD_eq_getElem?_getD] using h)
      exact PSub.int (by rw [if_pos e])
    · refine ⟨k + 1, [], ⟨by omega, ?_⟩, by first | omega | (dsimp only; omega), ?_⟩
      rotate_left
      · (repeat' (first | exact PSub.rfl | exact rfl | exact PSubs.rfl | exact trivial | exact PSub.lit_sb rfl | refine And.intro ?_ ?_))
      intro j hj
      by_cases e : j = k
      · subst e; first | exact h | simpa [-List.getD_eq_getElem?_getD] using h | simp_all [-List.getD_eq_getElem?_getD]
      · exact hinv j (by omega)
    · have e := anyN_false (n := i) (p := fun j => decide ((H.devices.getD j default).eui = (H.devices.getD i default).eui)) (fun j hj => hinv j (by omega))
      exact PSub.int (by rw [e, if_neg (by simp), if_pos h])
    · have e := anyN_false (n := i) (p := fun j => decide ((H.devices.getD j default).eui = (H.devices.getD i default).eui)) (fun j hj => hinv j (by omega))
      exact PSub.int (by rw [e, if_neg (by simp), if_neg (by rw [h]; decide)])
end Go.Abs

namespace Go.Abs
open Go.Proofs
set_option maxRecDepth 10000
theorem ac_r22_Check (H : Hom) (hH : smallH H) : AC Tryz.prog 35 [.pv (.agg (cHom H))] [] (.pv (vint (homE H))) [] := by
  have hl : H.devices.length ≤ 1048576 := hH.2.1
  refine AC.of_awp (T := T) T_ok hm Tryz.call35 Tryz.func35 rfl rfl rfl ?_
  conv => whnf
  refine .inl ⟨_, ac_r21_All H.clusters hH.1, ?_⟩
  conv => whnf
  refine ⟨fun h => ?_, fun h => ?_⟩ <;> (try simp only [decide_eq_true_eq, decide_eq_false_iff_not, Bool.not_eq_true', Bool.not_eq_false', Int.toNat_natCast, beq_iff_eq, decide_eq_decide, beq_eq_false_iff_ne, ne_eq, reduceCtorEq] at h) <;> (conv => whnf)
  · exact PSub.int (by rw [homE, if_pos h])
  rw [homE, if_neg (by simpa using h)]
  refine ⟨fun h => ?_, fun h => ?_⟩ <;> (try simp only [decide_eq_true_eq, decide_eq_false_iff_not, Bool.not_eq_true', Bool.not_eq_false', Int.toNat_natCast, beq_iff_eq, decide_eq_decide, beq_eq_false_iff_ne, ne_eq, reduceCtorEq] at h) <;> (conv => whnf)
  · exact PSub.int (by rw [if_pos (by omega)])
  rw [if_neg (by omega)]
  refine loop_k (ι := Nat) [1] [1] (fun k => k ≤ H.devices.length ∧ (∀ j, j < k → devE (firstC H.clusters) H.devices j = 0)) (fun k => H.devices.length - k) 0 (fun k => [(4, .pv (vint k))]) (fun _ => []) [] ⟨Nat.zero_le _, fun j h => absurd h (by omega)⟩ ?_ (fun k hk => ?_)
  · (repeat' (first | exact PSub.rfl | exact rfl | exact PSubs.rfl | exact trivial | exact PSub.lit_sb rfl | refine And.intro ?_ ?_))
  obtain ⟨hkn, hinv⟩ := hk
  conv => whnf
  refine ⟨fun h => ?_, fun h => ?_⟩ <;> (try simp only [decide_eq_true_eq, decide_eq_false_iff_not, Bool.not_eq_true', Bool.not_eq_false', Int.toNat_natCast, beq_iff_eq, decide_eq_decide, beq_eq_false_iff_ne, ne_eq, reduceCtorEq] at h) <;> (conv => whnf)
  · refine .inl ⟨_, ac_r22_one H k hH (by omega), ?_⟩
    conv => whnf
    repeat (any_goals (first
      | (refine ⟨fun (h : (_ : Bool) = true) => ?_, fun (h : (_ : Bool) = false) => ?_⟩ <;> (try simp only [decide_eq_true_eq, decide_eq_false_iff_not, Bool.not_eq_true', Bool.not_eq_false', Int.toNat_natCast, beq_iff_eq, decide_eq_decide, beq_eq_false_iff_ne, ne_eq, reduceCtorEq] at h) <;> (conv => whnf))
      | (refine And.intro (by (try simp only [Int.toNat_natCast]); omega) ?_; conv => whnf)
      | (refine And.intro (show (_ : Bool) = true from by kernel_rfl) ?_; conv => whnf)
      | (refine .inl ⟨wrap64 (by omega), ?_⟩; conv => whnf)))
    · exact PSub.int (by rw [firstE_at (k := k) (by omega) h hinv])
    · refine ⟨k + 1, [], ⟨by omega, ?_⟩, by first | omega | (dsimp only; omega), ?_⟩
      rotate_left
      · (repeat' (first | exact PSub.rfl | exact rfl | exact PSubs.rfl | exact trivial | exact PSub.lit_sb rfl | refine And.intro ?_ ?_))
      intro j hj
      by_cases e : j = k
      · subst e; first | exact h | simpa [-List.getD_eq_getElem?_getD] using h | simp_all [-List.getD_eq_getElem?_getD]
      · exact hinv j (by omega)
  · exact PSub.int (by rw [firstE_none fun j hj => hinv j (by omega)])
theorem ac_r22_Less (a b : Key) : AC Tryz.prog 162 [.pv (.agg (cKey a)), .pv (.agg (cKey b))] [] (.pv (vbool (keyLess a b))) [] := by
  refine AC.of_awp (T := T) T_ok hm Tryz.call162 Tryz.func162 rfl rfl rfl ?_
  conv => whnf
  repeat (any_goals (first
    | (refine ⟨fun (h : (_ : Bool) = true) => ?_, fun (h : (_ : Bool) = false) => ?_⟩ <;> (try simp only [decide_eq_true_eq, decide_eq_false_iff_not, Bool.not_eq_true', Bool.not_eq_false', Int.toNat_natCast, beq_iff_eq, decide_eq_decide, beq_eq_false_iff_ne, ne_eq, reduceCtorEq] at h) <;> (conv => whnf))
    | (refine And.intro (by (try simp only [Int.toNat_natCast]); omega) ?_; conv => whnf)
    | (refine And.intro (show (_ : Bool) = true from by kernel_rfl) ?_; conv => whnf)
    | (refine .inl ⟨wrap64 (by omega), ?_⟩; conv => whnf)))
  all_goals (try simp only [decide_eq_true_eq, decide_eq_false_iff_not, Bool.not_eq_true', Bool.not_eq_false', Int.toNat_natCast, beq_iff_eq, decide_eq_decide, beq_eq_false_iff_ne, ne_eq, reduceCtorEq] at *)
  all_goals first
    | contradiction
    | (exfalso; omega)
    | exact PSub.rfl
    | (refine PSub.int ?_; simp only [keyLess]; (repeat' split) <;> first | rfl | omega | (simp_all [-List.getD_eq_getElem?_getD]; done) | (simp_all [-List.getD_eq_getElem?_getD]; omega))
    | (refine PSub.sb ?_; simp_all [keyLess, -List.getD_eq_getElem?_getD]; done)
    | (refine PSub.lit_sb ?_; simp_all [keyLess, -List.getD_eq_getElem?_getD]; done)
    | (refine PSub.sb_lit ?_; simp_all [keyLess, -List.getD_eq_getElem?_getD]; done)
    | (refine PSub.sb ?_; rw [Bool.eq_iff_iff]; simp_all [keyLess, -List.getD_eq_getElem?_getD]; done)
    | (refine PSub.lit_sb ?_; rw [Bool.eq_iff_iff]; simp_all [keyLess, -List.getD_eq_getElem?_getD]; done)
    | (refine PSub.sb_lit ?_; rw [Bool.eq_iff_iff]; simp_all [keyLess, -List.getD_eq_getElem?_getD]; done)
    | skip
end Go.Abs

namespace Go.Abs
open Go.Proofs
set_option maxRecDepth 10000
theorem forI_steps {ρ σ : Type} {f : Nat → σ → ρ ⊕ σ} : ∀ (n k : Nat) (s s' : σ), forI f n k s = .inr s' → ∀ i, k ≤ i → i < k + n → ∃ t t', f i t = .inr t'
  | 0, k, s, s', _, i, h1, h2 => by omega
  | n + 1, k, s, s', e, i, h1, h2 => by
    simp only [forI] at e
    cases hf : f k s with
    | inl r => rw [hf] at e; cases e
    | inr t =>
      rw [hf] at e
      by_cases hi : i = k
      · subst hi; exact ⟨s, t, hf⟩
      · exact forI_steps n (k + 1) t s' e i (by omega) (by omega)
theorem capE_some {f : ByteArray → Option Clu} {d : Dev} (h : capE f d = 0) {i : Nat} (hi : i < d.clusters.length) : ∃ c, f (d.clusters.getD i default) = some c := by
  unfold capE at h
  split at h
  · cases h
  · split at h
    · rename_i e he
      subst h
      exfalso
      have key : ∀ n k s, forI (capStep f d) n k s ≠ .inl 0 := by
        intro n
        induction n with
        | zero => intro k s e; cases e
        | succ n ih =>
          intro k s e
          simp only [forI] at e
          cases hf : capStep f d k s with
          | inr t => rw [hf] at e; exact ih _ _ e
          | inl r =>
            rw [hf] at e; cases e
            unfold capStep at hf
            split at hf
            · cases hf
            · split at hf <;> cases hf
      exact key _ _ _ he
    · rename_i m he
      obtain ⟨t, t', e⟩ := forI_steps _ _ _ _ he i (Nat.zero_le _) (by omega)
      unfold capStep at e
      split at e
      · cases e
      · rename_i c hc; exact ⟨c, hc⟩
theorem devIx_find {H : Hom} {id : Int} (hv : homE H = 0) : (devIx H.devices id < 0 ∧ findB H id = false) ∨ (devIx H.devices id = (devAt H.devices id : Int) ∧ devAt H.devices id < H.devices.length ∧ findB H id = true ∧ findD H id = H.devices.getD (devAt H.devices id) default) := by
  have : findB H id = decide (devAt H.devices id < H.devices.length) := by simp [findB, hv]
  unfold devIx
  split
  · rename_i h
    have e : findB H id = true := by simp [this, h]
    exact .inr ⟨rfl, h, e, by rw [findD, if_pos e]⟩
  · rename_i h; exact .inl ⟨by omega, by simp [this, h]⟩
theorem firstC_name {l : List Clu} {s : ByteArray} {c : Clu} (h : firstC l s = some c) : c.name = s := by
  have := List.find?_some h
  simpa using this
theorem ac_r22_Keys (H : Hom) (id : Int) (hH : smallH H) : AC Tryz.prog 37 [.pv (.agg (cHom H)), .pv (vint id)] [] (.pv (roL 3 cKey (keysL H id))) [] := by
  have hl : H.clusters.length ≤ 1048576 := hH.1.1
  have hd4 := @findD_length H id
  refine AC.of_awp (T := T) T_ok hm Tryz.call37 Tryz.func37 rfl rfl rfl ?_
  conv => whnf
  repeat (any_goals (first
    | (refine ⟨fun (h : (_ : Bool) = true) => ?_, fun (h : (_ : Bool) = false) => ?_⟩ <;> (try simp only [decide_eq_true_eq, decide_eq_false_iff_not, Bool.not_eq_true', Bool.not_eq_false', Int.toNat_natCast, beq_iff_eq, decide_eq_decide, beq_eq_false_iff_ne, ne_eq, reduceCtorEq] at h) <;> (conv => whnf))
    | (refine .inl ⟨_, ac_r22_At H id hH, ?_⟩; conv => whnf)
    | (refine .inl ⟨_, ac_r22_Check H hH, ?_⟩; conv => whnf)
    | (refine And.intro (by (try simp only [Int.toNat_natCast]); omega) ?_; conv => whnf)
    | (refine And.intro (show (_ : Bool) = true from by kernel_rfl) ?_; conv => whnf)
    | (refine .inl ⟨wrap64 (by omega), ?_⟩; conv => whnf)))
  · have e : findB H id = false := by simp [findB, h]
    exact PSub.nilL (by rw [keysL, findD_none e]; rfl)
  · rename_i hv
    have e : findB H id = false := by rcases devIx_find (id := id) hv with h | h; exact h.2; omega
    exact PSub.nilL (by rw [keysL, findD_none e]; rfl)
  · rename_i hv
    rcases devIx_find (id := id) hv with h2 | ⟨h2, h3, h4, h5⟩
    · omega
    have hcap := findD_cap h4
    rw [h2]
    refine And.intro (by omega) ?_
    simp only [Int.toNat_natCast]
    rw [← h5]
    have hk : keysL H id = keysTo (firstC H.clusters) id (findD H id).clusters (findD H id).clusters.length := by rw [keysL, keysTo, List.take_length]
    rw [hk]
    generalize findD H id = d at *
    conv => whnf
    refine loop_k (ι := Nat) [1, 2, 7] [2, 7] (fun k => k ≤ d.clusters.length ∧ True) (fun k => d.clusters.length - k) 0 (fun k => [(6, .own 500), (8, .pv (vint k))]) (fun k => [(500, rowL 3 cKey (keysTo (firstC H.clusters) id d.clusters k))]) [] ⟨Nat.zero_le _, trivial⟩ ?_ (fun k hk => ?_)
    · (repeat' (first | exact PSub.rfl | exact rfl | exact PSubs.rfl | exact trivial | exact PSub.lit_sb rfl | refine And.intro ?_ ?_))
    obtain ⟨hkn, hinv⟩ := hk
    conv => whnf
    refine ⟨fun h => ?_, fun h => ?_⟩ <;> (try simp only [decide_eq_true_eq, decide_eq_false_iff_not, Bool.not_eq_true', Bool.not_eq_false', Int.toNat_natCast, beq_iff_eq, decide_eq_decide, beq_eq_false_iff_ne, ne_eq, reduceCtorEq] at h) <;> (conv => whnf)
    · obtain ⟨c, h1⟩ := capE_some hcap (i := k) (by omega)
      have hkl := keysTo_len (f := firstC H.clusters) (fun _ _ => firstC_small hH.1) (id := id) (l := d.clusters) (k := k) (by omega)
      have hn := keysTo_succ (f := firstC H.clusters) (id := id) (l := d.clusters) (k := k) (by omega)
      have hcl : c.attrs.length ≤ 1048576 := (firstC_small hH.1 h1).1
      have hk1 : keysOf1 (firstC H.clusters) id (d.clusters.getD k default) = c.attrs.map fun a => ⟨id, c.name, a.name⟩ := by rw [keysOf1, h1, firstC_name h1]; rfl
      have hcn := firstC_name h1
      repeat (any_goals (first
        | (refine ⟨fun (h : (_ : Bool) = true) => ?_, fun (h : (_ : Bool) = false) => ?_⟩ <;> (try simp only [decide_eq_true_eq, decide_eq_false_iff_not, Bool.not_eq_true', Bool.not_eq_false', Int.toNat_natCast, beq_iff_eq, decide_eq_decide, beq_eq_false_iff_ne, ne_eq, reduceCtorEq] at h) <;> (conv => whnf))
        | (refine .inl ⟨_, ac_r22_cluster H (d.clusters.getD k default) hH, ?_⟩; conv => whnf)
        | (refine And.intro (by (try simp only [Int.toNat_natCast]); omega) ?_; conv => whnf)
        | (refine And.intro (show (_ : Bool) = true from by kernel_rfl) ?_; conv => whnf)
        | (refine .inl ⟨wrap64 (by omega), ?_⟩; conv => whnf)))
      rcases firstC_ix (l := H.clusters) (s := d.clusters.getD k default) with ⟨_, h6⟩ | ⟨j, h6, h7, h8⟩
      · rw [h1] at h6; cases h6
      rw [h1] at h8; cases h8
      rw [h6]
      repeat (any_goals (first
        | (refine ⟨fun (h : (_ : Bool) = true) => ?_, fun (h : (_ : Bool) = false) => ?_⟩ <;> (try simp only [decide_eq_true_eq, decide_eq_false_iff_not, Bool.not_eq_true', Bool.not_eq_false', Int.toNat_natCast, beq_iff_eq, decide_eq_decide, beq_eq_false_iff_ne, ne_eq, reduceCtorEq] at h) <;> (conv => whnf))
        | (refine And.intro (by (try simp only [Int.toNat_natCast]); omega) ?_; conv => whnf)
        | (refine And.intro (show (_ : Bool) = true from by kernel_rfl) ?_; conv => whnf)
        | (refine .inl ⟨wrap64 (by omega), ?_⟩; conv => whnf)))
      simp only [Int.toNat_natCast] at *
      generalize hc : H.clusters.getD j default = c at *
      refine loop_k (ι := Nat) [1, 2, 7, 8, 9] [2, 7, 9] (fun i => i ≤ c.attrs.length ∧ True) (fun i => c.attrs.length - i) 0 (fun i => [(6, .own 500), (10, .pv (vint i))]) (fun i => [(500, rowL 3 cKey (keysTo (firstC H.clusters) id d.clusters k ++ (c.attrs.take i).map fun a => ⟨id, c.name, a.name⟩))]) [] ⟨Nat.zero_le _, trivial⟩ ?_ (fun i hk => ?_)
      · (repeat' (first | exact PSub.rfl | exact rfl | exact PSubs.rfl | exact trivial | exact PSub.lit_sb rfl | refine And.intro ?_ ?_)); all_goals (first | (simp; done) | (intro i hi; simp [-List.getD_eq_getElem?_getD]; exact PSubs.rfl))
      obtain ⟨hkn, hinv⟩ := hk
      conv => whnf
      have hj : (keysTo (firstC H.clusters) id d.clusters k ++ (c.attrs.take i).map fun a => (⟨id, c.name, a.name⟩ : Key)).length ≤ 8388608 := by
        simp only [List.length_append, List.length_map, List.length_take]; omega
      repeat (any_goals (first
        | (refine ⟨fun (h : (_ : Bool) = true) => ?_, fun (h : (_ : Bool) = false) => ?_⟩ <;> (try simp only [decide_eq_true_eq, decide_eq_false_iff_not, Bool.not_eq_true', Bool.not_eq_false', Int.toNat_natCast, beq_iff_eq, decide_eq_decide, beq_eq_false_iff_ne, ne_eq, reduceCtorEq] at h) <;> (conv => whnf))
        | (refine And.intro (by (try simp only [Int.toNat_natCast]); omega) ?_; conv => whnf)
        | (refine And.intro (show (_ : Bool) = true from by kernel_rfl) ?_; conv => whnf)
        | (refine .inl ⟨wrap64 (by omega), ?_⟩; conv => whnf)))
      · have e : (c.attrs.take (i + 1)).map (fun a => (⟨id, c.name, a.name⟩ : Key)) = (c.attrs.take i).map (fun a => (⟨id, c.name, a.name⟩ : Key)) ++ [⟨id, c.name, (c.attrs.getD i default).name⟩] := by
          rw [take_succ_getD (by omega)]; simp only [List.map_append, List.map_cons, List.map_nil]
        refine ⟨i + 1, [(500, 63)], ⟨by omega, trivial⟩, by omega, ?_⟩
        rw [e, ← List.append_assoc]
        (repeat' (first | exact PSub.rfl | exact rfl | exact PSubs.rfl | exact trivial | exact PSub.lit_sb rfl | refine And.intro ?_ ?_))
        · simp; omega
        · refine rows_snocF (fun i hi => by simp only [if_pos hi]; exact PSubs.rfl) (by simp only [if_neg (Nat.lt_irrefl _), Nat.sub_self]; exact PSubs.rfl)
      · refine ⟨k + 1, [], ⟨by omega, trivial⟩, by omega, ?_⟩
        rw [hn, hk1]
        (repeat' (first | exact PSub.rfl | exact rfl | exact PSubs.rfl | exact trivial | exact PSub.lit_sb rfl | refine And.intro ?_ ?_))
        · rw [List.take_of_length_le (by omega)]
        · rw [List.take_of_length_le (by omega)]; intro i hi; exact PSubs.rfl
    · have e : k = d.clusters.length := by omega
      subst e
      repeat (any_goals (first
        | (refine ⟨fun (h : (_ : Bool) = true) => ?_, fun (h : (_ : Bool) = false) => ?_⟩ <;> (try simp only [decide_eq_true_eq, decide_eq_false_iff_not, Bool.not_eq_true', Bool.not_eq_false', Int.toNat_natCast, beq_iff_eq, decide_eq_decide, beq_eq_false_iff_ne, ne_eq, reduceCtorEq] at h) <;> (conv => whnf))
        | (refine And.intro (by (try simp only [Int.toNat_natCast]); omega) ?_; conv => whnf)
        | (refine And.intro (show (_ : Bool) = true from by kernel_rfl) ?_; conv => whnf)
        | (refine .inl ⟨wrap64 (by omega), ?_⟩; conv => whnf)))
      exact .rfl
end Go.Abs

namespace Go.Abs
open Go.Proofs
set_option maxRecDepth 10000
theorem attrOf_some {c : Clu} {s : ByteArray} : attrOf c.attrs s = (attrO (some c) s).getD noAttr ∧ decide (attrAt c.attrs s < c.attrs.length) = (attrO (some c) s).isSome := by
  unfold attrOf attrO
  simp only
  split <;> simp [*]
theorem ac_r22_Part (H : Hom) (id : Int) (s : ByteArray) (hH : smallH H) : AC Tryz.prog 128 [.pv (.agg (cHom H)), .pv (vint id), .pv (vstr s)] [] (.pv (.tup [.agg (cClu ((partO H id s).getD noClu)), vbool (partO H id s).isSome])) [] := by
  have hl : H.clusters.length ≤ 1048576 := hH.1.1
  have hd4 := @findD_length H id
  refine AC.of_awp (T := T) T_ok hm Tryz.call128 Tryz.func128 rfl rfl rfl ?_
  conv => whnf
  refine .inl ⟨_, ac_r22_At H id hH, ?_⟩
  conv => whnf
  refine ⟨fun h => ?_, fun h => ?_⟩
  · simp only [decide_eq_true_eq] at h
    conv => whnf
    have e : partO H id s = none := by
      rw [partO, if_neg]
      rintro ⟨h1, _⟩
      simp only [findB, Bool.and_eq_true, decide_eq_true_eq] at h1
      rcases devIx_find (id := id) h1.1 with h2 | h2
      · have := h2.2; simp [findB, h1] at this
      · omega
    rw [e]
    refine ⟨?_, ?_⟩ <;> (conv => whnf)
    · exact noClu_cells
    · exact PSub.lit_sb rfl
  simp only [decide_eq_false_iff_not] at h
  conv => whnf
  refine .inl ⟨_, ac_r22_Check H hH, ?_⟩
  conv => whnf
  refine ⟨fun hv => ?_, fun hv => ?_⟩
  · conv => whnf
    simp at hv
    have e : partO H id s = none := by rw [partO, if_neg (by simp [findB, hv])]
    rw [e]
    refine ⟨?_, ?_⟩ <;> (conv => whnf)
    · exact noClu_cells
    · exact PSub.lit_sb rfl
  simp at hv
  rcases devIx_find (id := id) hv with h2 | ⟨h2, h3, h4, h5⟩
  · omega
  rw [h2]
  conv => whnf
  refine And.intro (by omega) ?_
  rw [Int.toNat_natCast]
  conv => whnf
  have hcap := findD_cap h4
  repeat (any_goals (first
    | (refine ⟨fun (h : (_ : Bool) = true) => ?_, fun (h : (_ : Bool) = false) => ?_⟩ <;> (try simp only [decide_eq_true_eq, decide_eq_false_iff_not, Bool.not_eq_true', Bool.not_eq_false', Int.toNat_natCast, beq_iff_eq, decide_eq_decide, beq_eq_false_iff_ne, ne_eq, reduceCtorEq] at h) <;> (conv => whnf))
    | (refine .inl ⟨_, ac_r04_Index (H.devices.getD (devAt H.devices id) default).clusters s (by rw [← h5]; omega), ?_⟩; conv => whnf)
    | (refine And.intro (by (try simp only [Int.toNat_natCast]); omega) ?_; conv => whnf)
    | (refine And.intro (show (_ : Bool) = true from by kernel_rfl) ?_; conv => whnf)
    | (refine .inl ⟨wrap64 (by omega), ?_⟩; conv => whnf)))
  all_goals rw [← h5] at h
  · have e : partO H id s = none := by rw [partO, if_neg (by omega)]
    rw [e]
    refine ⟨?_, ?_⟩ <;> (conv => whnf)
    · exact noClu_cells
    · exact PSub.lit_sb rfl
  · have hp : partO H id s = firstC H.clusters s := by rw [partO, if_pos ⟨h4, by omega⟩]
    obtain ⟨i, hi, he⟩ := idxOf_mem (by omega : 0 ≤ idxOf (findD H id).clusters s)
    obtain ⟨c, h1⟩ := capE_some hcap hi
    rw [he] at h1
    repeat (any_goals (first
      | (refine ⟨fun (h : (_ : Bool) = true) => ?_, fun (h : (_ : Bool) = false) => ?_⟩ <;> (try simp only [decide_eq_true_eq, decide_eq_false_iff_not, Bool.not_eq_true', Bool.not_eq_false', Int.toNat_natCast, beq_iff_eq, decide_eq_decide, beq_eq_false_iff_ne, ne_eq, reduceCtorEq] at h) <;> (conv => whnf))
      | (refine .inl ⟨_, ac_r22_cluster H s hH, ?_⟩; conv => whnf)
      | (refine And.intro (by (try simp only [Int.toNat_natCast]); omega) ?_; conv => whnf)
      | (refine And.intro (show (_ : Bool) = true from by kernel_rfl) ?_; conv => whnf)
      | (refine .inl ⟨wrap64 (by omega), ?_⟩; conv => whnf)))
    rcases firstC_ix (l := H.clusters) (s := s) with ⟨_, h6⟩ | ⟨j, h6, h7, h8⟩
    · rw [h1] at h6; cases h6
    rw [h6]
    repeat (any_goals (first
      | (refine ⟨fun (h : (_ : Bool) = true) => ?_, fun (h : (_ : Bool) = false) => ?_⟩ <;> (try simp only [decide_eq_true_eq, decide_eq_false_iff_not, Bool.not_eq_true', Bool.not_eq_false', Int.toNat_natCast, beq_iff_eq, decide_eq_decide, beq_eq_false_iff_ne, ne_eq, reduceCtorEq] at h) <;> (conv => whnf))
      | (refine And.intro (by (try simp only [Int.toNat_natCast]); omega) ?_; conv => whnf)
      | (refine And.intro (show (_ : Bool) = true from by kernel_rfl) ?_; conv => whnf)
      | (refine .inl ⟨wrap64 (by omega), ?_⟩; conv => whnf)))
    rw [hp, h8]
    refine ⟨?_, ?_⟩ <;> (conv => whnf)
    · exact .rfl
    · exact PSub.lit_sb rfl
theorem small_part {H : Hom} {id : Int} {s : ByteArray} (hH : smallH H) : smallK ((partO H id s).getD noClu) := by
  unfold partO
  split
  · cases h : firstC H.clusters s with
    | none => exact smallK_noClu
    | some c => exact firstC_small hH.1 h
  · exact smallK_noClu
theorem ac_r22_Find (H : Hom) (k : Key) (hH : smallH H) : AC Tryz.prog 96 [.pv (.agg (cHom H)), .pv (.agg (cKey k))] [] (.pv (.tup [.agg (cAttr ((findA H k).getD noAttr)), vbool (findA H k).isSome])) [] := by
  refine AC.of_awp (T := T) T_ok hm Tryz.call96 Tryz.func96 rfl rfl rfl ?_
  conv => whnf
  repeat (any_goals (first
    | (refine ⟨fun (h : (_ : Bool) = true) => ?_, fun (h : (_ : Bool) = false) => ?_⟩ <;> (try simp only [decide_eq_true_eq, decide_eq_false_iff_not, Bool.not_eq_true', Bool.not_eq_false', Int.toNat_natCast, beq_iff_eq, decide_eq_decide, beq_eq_false_iff_ne, ne_eq, reduceCtorEq] at h) <;> (conv => whnf))
    | (refine .inl ⟨_, ac_r22_Part H k.dev k.cluster hH, ?_⟩; conv => whnf)
    | (refine .inl ⟨_, ac_r21_Attr ((partO H k.dev k.cluster).getD noClu) k.attr (small_part hH), ?_⟩; conv => whnf)
    | (refine And.intro (by (try simp only [Int.toNat_natCast]); omega) ?_; conv => whnf)
    | (refine And.intro (show (_ : Bool) = true from by kernel_rfl) ?_; conv => whnf)
    | (refine .inl ⟨wrap64 (by omega), ?_⟩; conv => whnf)))
  · have e : findA H k = none := by
      rw [findA]
      cases h3 : partO H k.dev k.cluster with
      | none => rfl
      | some c => rw [h3] at h; cases h
    rw [e]
    refine ⟨?_, ?_⟩ <;> (conv => whnf)
    · exact noAttr_cells2
    · exact PSub.lit_sb rfl
  · cases h3 : partO H k.dev k.cluster with
    | none => rw [h3] at h; cases h
    | some c =>
      rw [findA, h3]
      obtain ⟨e1, e2⟩ := @attrOf_some c k.attr
      refine ⟨?_, ?_⟩ <;> (conv => whnf)
      · simp only [Option.getD_some]; rw [e1]; exact .rfl
      · simp only [Option.getD_some]; rw [e2]; exact .rfl
end Go.Abs

namespace Go.Abs
open Go.Proofs
set_option maxRecDepth 10000
theorem ac_r22_index (l : List Item) (k : Key) (hl : smallL l) : AC Tryz.prog 97 [.pv (roL 7 cItem l), .pv (.agg (cKey k))] [] (.pv (vint (ixI l.length (itemAt l k)))) [] := by
  have hl : l.length ≤ 1048576 := hl
  have hk (x : Item) : (decide (x.key.dev = k.dev) && (decide (x.key.cluster = k.cluster) && (decide (x.key.attr = k.attr) && true))) = decide (x.key = k) := by
    obtain ⟨⟨a, b, c⟩, v, n⟩ := x
    obtain ⟨d, e, f⟩ := k
    rw [Bool.eq_iff_iff]; simp
  refine AC.of_awp (T := T) T_ok hm Tryz.call97 Tryz.func97 rfl rfl rfl ?_
  conv => whnf
  refine loop_k (ι := Nat) [0, 3] [3] (fun i => i ≤ l.length ∧ (∀ j, j < i → decide ((l.getD j default).key = k) = false)) (fun i => l.length - i) 0 (fun i => [(5, .pv (vint i))]) (fun _ => []) [] ⟨Nat.zero_le _, fun j h => absurd h (by omega)⟩ ?_ (fun i hk => ?_)
  · (repeat' (first | exact PSub.rfl | exact rfl | exact PSubs.rfl | exact trivial | exact PSub.lit_sb rfl | refine And.intro ?_ ?_))
  obtain ⟨hkn, hinv⟩ := hk
  conv => whnf
  repeat (any_goals (first
    | (refine ⟨fun (h : (_ : Bool) = true) => ?_, fun (h : (_ : Bool) = false) => ?_⟩ <;> (try simp only [decide_eq_true_eq, decide_eq_false_iff_not, Bool.not_eq_true', Bool.not_eq_false', Int.toNat_natCast, beq_iff_eq, decide_eq_decide, beq_eq_false_iff_ne, ne_eq, reduceCtorEq] at h) <;> (conv => whnf))
    | (refine And.intro (by (try simp only [Int.toNat_natCast]); omega) ?_; conv => whnf)
    | (refine And.intro (show (_ : Bool) = true from by kernel_rfl) ?_; conv => whnf)
    | (refine .inl ⟨wrap64 (by omega), ?_⟩; conv => whnf)))
  · rw [hk] at h
    have e : itemAt l k = i := firstI_at (by omega) h hinv
    exact PSub.int (by rw [e, ixI, if_pos (by omega)])
  · rw [hk] at h
    refine ⟨i + 1, [], ⟨by omega, ?_⟩, by first | omega | (dsimp only; omega), ?_⟩
    rotate_left
    · (repeat' (first | exact PSub.rfl | exact rfl | exact PSubs.rfl | exact trivial | exact PSub.lit_sb rfl | refine And.intro ?_ ?_))
    intro j hj
    by_cases e : j = i
    · subst e; first | exact h | simpa [-List.getD_eq_getElem?_getD] using h | simp_all [-List.getD_eq_getElem?_getD]
    · exact hinv j (by omega)
  · have e : itemAt l k = l.length := firstI_none fun j hj => hinv j (by omega)
    exact PSub.int (by rw [e, ixI, if_neg (by omega)])
theorem ac_r22_Get (l : List Item) (k : Key) (hl : smallL l) : AC Tryz.prog 141 [.pv (roL 7 cItem l), .pv (.agg (cKey k))] [] (.pv (.tup [.agg (cItem (getI l k)), vbool (decide (itemAt l k < l.length))])) [] := by
  refine AC.of_awp (T := T) T_ok hm Tryz.call141 Tryz.func141 rfl rfl rfl ?_
  conv => whnf
  refine .inl ⟨_, ac_r22_index l k hl, ?_⟩
  conv => whnf
  unfold ixI
  by_cases hlt : itemAt l k < l.length
  · rw [if_pos hlt]
    repeat (any_goals (first
      | (refine ⟨fun (h : (_ : Bool) = true) => ?_, fun (h : (_ : Bool) = false) => ?_⟩ <;> (try simp only [decide_eq_true_eq, decide_eq_false_iff_not, Bool.not_eq_true', Bool.not_eq_false', Int.toNat_natCast, beq_iff_eq, decide_eq_decide, beq_eq_false_iff_ne, ne_eq, reduceCtorEq] at h) <;> (conv => whnf))
      | (refine And.intro (by (try simp only [Int.toNat_natCast]); omega) ?_; conv => whnf)
      | (refine And.intro (show (_ : Bool) = true from by kernel_rfl) ?_; conv => whnf)
      | (refine .inl ⟨wrap64 (by omega), ?_⟩; conv => whnf)))
    · exfalso; omega
    · refine ⟨?_, ?_⟩ <;> (conv => whnf)
      · exact PSub.of_eq (by rw [getI, if_pos hlt]; rfl)
      · exact PSub.lit_sb (by simp [hlt])
  · rw [if_neg hlt]
    repeat (any_goals (first
      | (refine ⟨fun (h : (_ : Bool) = true) => ?_, fun (h : (_ : Bool) = false) => ?_⟩ <;> (try simp only [decide_eq_true_eq, decide_eq_false_iff_not, Bool.not_eq_true', Bool.not_eq_false', Int.toNat_natCast, beq_iff_eq, decide_eq_decide, beq_eq_false_iff_ne, ne_eq, reduceCtorEq] at h) <;> (conv => whnf))
      | (refine And.intro (by (try simp only [Int.toNat_natCast]); omega) ?_; conv => whnf)
      | (refine And.intro (show (_ : Bool) = true from by kernel_rfl) ?_; conv => whnf)
      | (refine .inl ⟨wrap64 (by omega), ?_⟩; conv => whnf)))
    · refine ⟨?_, ?_⟩ <;> (conv => whnf)
      · exact PSub.of_eq (by rw [getI, if_neg hlt]; rfl)
      · exact PSub.lit_sb (by simp [hlt])
    · exfalso; omega
end Go.Abs

namespace Go.Abs
theorem putK_length (l : List Key) (k : Key) : (putK l k).length ≤ l.length + 1 := by
  induction l with
  | nil => simp [putK]
  | cons y r ih =>
    unfold putK
    split
    · simp only [List.length_cons]; omega
    · simp only [List.length_cons]
      have := List.length_filter_le (fun z => decide (z ≠ k)) (y :: r)
      simp only [List.length_cons] at this
      omega
theorem foldl_putK_length {l acc : List Key} : (l.foldl putK acc).length ≤ acc.length + l.length := by
  induction l generalizing acc with
  | nil => simp
  | cons y r ih =>
    have h1 := ih (acc := putK acc y)
    have h2 := putK_length acc y
    simp only [List.foldl_cons, List.length_cons]; omega
theorem sortK_length (l : List Key) : (sortK l).length ≤ l.length := by
  have := foldl_putK_length (l := l) (acc := [])
  simpa [sortK] using this
end Go.Abs

namespace Go.Abs
open Go.Proofs
set_option maxRecDepth 10000
theorem ac_r22_SameKeys (a b : List Key) (ha : a.length ≤ 4194304) : AC Tryz.prog 24 [.pv (roL 3 cKey a), .pv (roL 3 cKey b)] [] (.pv (vbool (decide (a = b)))) [] := by
  refine AC.of_awp (T := T) T_ok hm Tryz.call24 Tryz.func24 rfl rfl rfl ?_
  conv => whnf
  refine ⟨fun h => ?_, fun h => ?_⟩ <;> (try simp only [decide_eq_true_eq, decide_eq_false_iff_not, Bool.not_eq_true', Bool.not_eq_false', Int.toNat_natCast, beq_iff_eq, decide_eq_decide, beq_eq_false_iff_ne, ne_eq, reduceCtorEq] at h) <;> (conv => whnf)
  · exact PSub.lit_sb (by symm; simp only [decide_eq_false_iff_not]; intro e; exact h (by rw [e]))
  have hl := h
  refine loop_k (ι := Nat) [0, 1] [] (fun k => k ≤ a.length ∧ (∀ j, j < k → a.getD j default = b.getD j default)) (fun k => a.length - k) 0 (fun k => [(5, .pv (vint k))]) (fun _ => []) [] ⟨Nat.zero_le _, fun j h => absurd h (by omega)⟩ ?_ (fun k hk => ?_)
  · (repeat' (first | exact PSub.rfl | exact rfl | exact PSubs.rfl | exact trivial | exact PSub.lit_sb rfl | refine And.intro ?_ ?_))
  obtain ⟨hkn, hinv⟩ := hk
  conv => whnf
  repeat (any_goals (first
    | (refine ⟨fun (h : (_ : Bool) = true) => ?_, fun (h : (_ : Bool) = false) => ?_⟩ <;> (try simp only [decide_eq_true_eq, decide_eq_false_iff_not, Bool.not_eq_true', Bool.not_eq_false', Int.toNat_natCast, beq_iff_eq, decide_eq_decide, beq_eq_false_iff_ne, ne_eq, reduceCtorEq] at h) <;> (conv => whnf))
    | (refine And.intro (by (try simp only [Int.toNat_natCast]); omega) ?_; conv => whnf)
    | (refine And.intro (show (_ : Bool) = true from by kernel_rfl) ?_; conv => whnf)
    | (refine .inl ⟨wrap64 (by omega), ?_⟩; conv => whnf)))
  all_goals try rw [key_eq] at h
  all_goals try simp only [decide_eq_true_eq, decide_eq_false_iff_not] at h
  · exact PSub.lit_sb (by symm; simp only [decide_eq_false_iff_not]; intro e; exact h (by rw [e]))
  · refine ⟨k + 1, [], ⟨by omega, ?_⟩, by first | omega | (dsimp only; omega), ?_⟩
    rotate_left
    · (repeat' (first | exact PSub.rfl | exact rfl | exact PSubs.rfl | exact trivial | exact PSub.lit_sb rfl | refine And.intro ?_ ?_))
    intro j hj
    by_cases e : j = k
    · subst e; first | exact h | simpa [-List.getD_eq_getElem?_getD] using h | simp_all [-List.getD_eq_getElem?_getD]
    · exact hinv j (by omega)
  · exact PSub.lit_sb (by symm; simp only [decide_eq_true_eq]; exact list_eq (by omega) fun i hi => hinv i (by omega))
section
variable {H : Type} {enc : TypeId × Value → H} {w : World} {bulk : DataW H → Nat}
end
end Go.Abs

namespace Go.Abs
open Go.Proofs
set_option maxRecDepth 10000
def putRest (l : List Key) (k : Key) (done : Bool) : List Key := if done = true then l.filter (fun y => decide (y ≠ k)) else putK l k
theorem putRest_cons {l : List Key} {x k : Key} {done : Bool} : putRest (x :: l) k done =
    (if done = false ∧ keyLess x k = false then [k] else []) ++ (if x ≠ k then [x] else []) ++ putRest l k (done || !keyLess x k) := by
  cases done with
  | true =>
    simp only [putRest, Bool.true_or, if_true, List.filter_cons]
    by_cases e : x = k
    · simp [e]
    · simp [e]
  | false =>
    simp only [putRest, Bool.false_or, Bool.false_eq_true, if_false]
    rw [show putK (x :: l) k = if keyLess x k = true then x :: putK l k else k :: (x :: l).filter fun y => decide (y ≠ k) from rfl]
    cases h : keyLess x k with
    | true =>
      have hne : x ≠ k := fun e => by rw [e, keyLess_irrefl] at h; cases h
      simp [hne]
    | false =>
      by_cases e : x = k
      · simp [e]
      · simp [e]
theorem ac_r22_Put (l : List Key) (q : Key) (hl : l.length ≤ 8388608) : AC Tryz.prog 142 [.pv (roL 3 cKey l), .pv (.agg (cKey q))] [] (.pv (roL 3 cKey (putK l q))) [] := by
  refine AC.of_awp (T := T) T_ok hm Tryz.call142 Tryz.func142 rfl rfl rfl ?_
  conv => whnf
  refine loop_k (ι := Nat × List Key × Bool) [0, 3] [3] (fun x => x.1 ≤ l.length ∧ x.2.1.length ≤ x.1 + x.2.2.toNat ∧ putK l q = x.2.1 ++ putRest (l.drop x.1) q x.2.2) (fun x => l.length - x.1) (0, [], false) (fun x => [(5, .own 500), (6, .pv (.sb x.2.2)), (7, .pv (vint x.1))]) (fun x => [(500, rowL 3 cKey x.2.1)]) [] ⟨Nat.zero_le _, by simp, by simp [putRest]⟩ ?_ (fun x hx => ?_)
  · (repeat' (first | exact PSub.rfl | exact rfl | exact PSubs.rfl | exact trivial | exact PSub.lit_sb rfl | refine And.intro ?_ ?_))
    all_goals exact PSub.lit_sb rfl
  obtain ⟨k, acc, done⟩ := x
  obtain ⟨hkn, hacc, hinv⟩ := hx
  simp only at hkn hacc hinv
  dsimp only
  have hb : done.toNat ≤ 1 := by cases done <;> decide
  have hd : k < l.length → l.drop k = l.getD k default :: l.drop (k + 1) := fun h => by rw [getD_getElem _ _ h]; exact List.drop_eq_getElem_cons h
  have row2 : ∀ (F G : Nat → List PV) (x : Key), (∀ i, i < (acc ++ [q]).length → PSubs (F i) (cKey ((acc ++ [q]).getD i default))) → (∀ i, i < acc.length + 1 → G i = F i) → PSubs (G (acc.length + 1)) (cKey x) → ∀ i, i < (acc ++ [q] ++ [x]).length → PSubs (G i) (cKey ((acc ++ [q] ++ [x]).getD i default)) := by
    intro F G x h1 h2 h3
    refine rows_snocF (fun i hi => ?_) (by simpa using h3)
    rw [h2 i (by simpa using hi)]
    exact h1 i hi
  conv => whnf
  repeat (any_goals (first
    | (refine ⟨fun (h : (_ : Bool) = true) => ?_, fun (h : (_ : Bool) = false) => ?_⟩ <;> (try simp only [decide_eq_true_eq, decide_eq_false_iff_not, Bool.not_eq_true', Bool.not_eq_false', Int.toNat_natCast, beq_iff_eq, decide_eq_decide, beq_eq_false_iff_ne, ne_eq, reduceCtorEq] at h) <;> (conv => whnf))
    | (refine .inl ⟨_, ac_r22_Less (l.getD k default) q, ?_⟩; conv => whnf)
    | (refine And.intro (by (try simp only [Int.toNat_natCast]); omega) ?_; conv => whnf)
    | (refine And.intro (show (_ : Bool) = true from by kernel_rfl) ?_; conv => whnf)
    | (refine .inl ⟨wrap64 (by omega), ?_⟩; conv => whnf)))
  · rename_i hlt hdn hless
    rw [key_eq] at h
    simp only [decide_eq_false_iff_not] at h
    rw [hdn] at hacc
    rw [hd (by omega), putRest_cons, hdn, hless, if_pos ⟨rfl, rfl⟩, if_pos h] at hinv
    refine ⟨(k + 1, acc ++ [q] ++ [l.getD k default], true), [(500, 41)], ⟨by dsimp only; omega, by simp at *; omega, by rw [hinv]; simp⟩, by dsimp only; omega, ?_⟩
    dsimp only
    (repeat' (first | exact PSub.rfl | exact rfl | exact PSubs.rfl | exact trivial | exact PSub.lit_sb rfl | refine And.intro ?_ ?_))
    · simp
    · refine row2 (fun i => if i < acc.length then cKey (acc.getD i default) else cKey q) _ _ ?_ (fun i hi => ?_) ?_
      · refine rows_snocF (fun i hi => by simp only [if_pos hi]; exact PSubs.rfl) (by simp only [if_neg (Nat.lt_irrefl _), Nat.sub_self]; exact PSubs.rfl)
      · simp only [if_pos hi]
        by_cases e : i < acc.length
        · simp only [if_pos e]
        · simp only [if_neg e, show i - acc.length = 0 from by omega]; rfl
      · simp only [if_neg (Nat.lt_irrefl _), Nat.sub_self]; exact PSubs.rfl
    all_goals exact PSub.lit_sb rfl
  · rename_i hlt hdn hless
    rw [key_eq] at h
    simp only [decide_eq_true_eq] at h
    rw [hdn] at hacc
    rw [hd (by omega), putRest_cons, hdn, hless, if_pos ⟨rfl, rfl⟩, if_neg (fun hn => hn h)] at hinv
    refine ⟨(k + 1, acc ++ [q], true), [(500, 28)], ⟨by dsimp only; omega, by simp at *; omega, by rw [hinv]; simp⟩, by dsimp only; omega, ?_⟩
    dsimp only
    (repeat' (first | exact PSub.rfl | exact rfl | exact PSubs.rfl | exact trivial | exact PSub.lit_sb rfl | refine And.intro ?_ ?_))
    · simp
    · refine rows_snocF (fun i hi => by simp only [if_pos hi]; exact PSubs.rfl) (by simp only [if_neg (Nat.lt_irrefl _), Nat.sub_self]; exact PSubs.rfl)
    all_goals exact PSub.lit_sb rfl
  · rename_i hlt hdn hless
    rw [key_eq] at h
    simp only [decide_eq_false_iff_not] at h
    rw [hd (by omega), putRest_cons, hless, if_neg (fun hn => by cases hn.2), if_pos h] at hinv
    refine ⟨(k + 1, acc ++ [l.getD k default], done), [(500, 41)], ⟨by dsimp only; omega, by simp at *; omega, by rw [hinv]; simp⟩, by dsimp only; omega, ?_⟩
    dsimp only
    (repeat' (first | exact PSub.rfl | exact rfl | exact PSubs.rfl | exact trivial | exact PSub.lit_sb rfl | refine And.intro ?_ ?_))
    · simp
    · refine rows_snocF (fun i hi => by simp only [if_pos hi]; exact PSubs.rfl) (by simp only [if_neg (Nat.lt_irrefl _), Nat.sub_self]; exact PSubs.rfl)
  · rename_i hlt hdn hless
    rw [key_eq] at h
    simp only [decide_eq_true_eq] at h
    rw [h, keyLess_irrefl] at hless; cases hless
  · rename_i hlt hdn
    rw [key_eq] at h
    simp only [decide_eq_false_iff_not] at h
    rw [hd (by omega), putRest_cons, hdn, if_neg (fun hn => by cases hn.1), if_pos h] at hinv
    refine ⟨(k + 1, acc ++ [l.getD k default], done), [(500, 41)], ⟨by dsimp only; omega, by simp at *; omega, by rw [hinv, hdn]; simp⟩, by dsimp only; omega, ?_⟩
    dsimp only
    (repeat' (first | exact PSub.rfl | exact rfl | exact PSubs.rfl | exact trivial | exact PSub.lit_sb rfl | refine And.intro ?_ ?_))
    · simp
    · refine rows_snocF (fun i hi => by simp only [if_pos hi]; exact PSubs.rfl) (by simp only [if_neg (Nat.lt_irrefl _), Nat.sub_self]; exact PSubs.rfl)
  · rename_i hlt hdn
    rw [key_eq] at h
    simp only [decide_eq_true_eq] at h
    rw [hd (by omega), putRest_cons, hdn, if_neg (fun hn => by cases hn.1), if_neg (fun hn => hn h)] at hinv
    refine ⟨(k + 1, acc, done), [], ⟨by dsimp only; omega, by simp at *; omega, by rw [hinv, hdn]; simp⟩, by dsimp only; omega, ?_⟩
    dsimp only
    (repeat' (first | exact PSub.rfl | exact rfl | exact PSubs.rfl | exact trivial | exact PSub.lit_sb rfl | refine And.intro ?_ ?_))
    intro i hi; exact PSubs.rfl
  · rw [List.drop_eq_nil_of_le (by omega), h] at hinv
    have hinv : putK l q = acc ++ [q] := hinv
    rw [hinv]
    refine PSub.ro (by simp) (fun i hi => ?_)
    revert i
    rw [show acc.length + 1 = (acc ++ [q]).length from by simp]
    refine rows_snocF (fun i hi => by simp only [if_pos hi]; exact PSubs.rfl) (by simp only [if_neg (Nat.lt_irrefl _), Nat.sub_self]; exact PSubs.rfl)
  · rw [List.drop_eq_nil_of_le (by omega), h] at hinv
    have hinv : putK l q = acc ++ [] := hinv
    rw [hinv, List.append_nil]
    exact .rfl
end Go.Abs

namespace Go.Abs
open Go.Proofs
set_option maxRecDepth 10000
def chgTo (a b : List Item) (k : Nat) : List Key := sortK ((((a ++ b).take k).map Item.key).filter (chgB a b))
theorem chgTo_succ {a b : List Item} {k : Nat} (h : k < (a ++ b).length) : chgTo a b (k + 1) = if chgB a b ((a ++ b).getD k default).key = true then putK (chgTo a b k) ((a ++ b).getD k default).key else chgTo a b k := by
  unfold chgTo
  rw [take_succ_getD h, List.map_append, List.filter_append]
  by_cases c : chgB a b ((a ++ b).getD k default).key = true
  · rw [if_pos c]
    simp only [List.map_cons, List.map_nil, List.filter_cons, List.filter_nil, c, if_true]
    unfold sortK
    rw [List.foldl_append]; rfl
  · rw [if_neg c]
    simp only [List.map_cons, List.map_nil, List.filter_cons, List.filter_nil, if_neg c, List.append_nil]
theorem chgTo_length {a b : List Item} {k : Nat} : (chgTo a b k).length ≤ k := by
  unfold chgTo
  refine Nat.le_trans (sortK_length _) (Nat.le_trans (List.length_filter_le _ _) ?_)
  rw [List.length_map, List.length_take]; omega
theorem app_getD_l {α : Type} [Inhabited α] {a b : List α} {i : Nat} (h : i < a.length) : (a ++ b).getD i default = a.getD i default := by simp only [List.getD_eq_getElem?_getD]; rw [List.getElem?_append_left h]
theorem app_getD_r {α : Type} [Inhabited α] {a b : List α} {i : Nat} (h : ¬ i < a.length) : (a ++ b).getD i default = b.getD (i - a.length) default := by simp only [List.getD_eq_getElem?_getD]; rw [List.getElem?_append_right (by omega)]
theorem ac_r22_Changed (a b : List Item) (ha : smallL a) (hb : smallL b) : AC Tryz.prog 110 [.pv (roL 7 cItem a), .pv (roL 7 cItem b)] [] (.pv (roL 3 cKey (chgL a b))) [] := by
  have ha2 : a.length ≤ 1048576 := ha
  have hb2 : b.length ≤ 1048576 := hb
  have hab : (a ++ b).length = a.length + b.length := List.length_append
  refine AC.of_awp (T := T) T_ok hm Tryz.call110 Tryz.func110 rfl rfl rfl ?_
  conv => whnf
  repeat (any_goals (first
    | (refine ⟨fun (h : (_ : Bool) = true) => ?_, fun (h : (_ : Bool) = false) => ?_⟩ <;> (try simp only [decide_eq_true_eq, decide_eq_false_iff_not, Bool.not_eq_true', Bool.not_eq_false', Int.toNat_natCast, beq_iff_eq, decide_eq_decide, beq_eq_false_iff_ne, ne_eq, reduceCtorEq] at h) <;> (conv => whnf))
    | (refine And.intro (by (try simp only [Int.toNat_natCast]); omega) ?_; conv => whnf)
    | (refine And.intro (show (_ : Bool) = true from by kernel_rfl) ?_; conv => whnf)
    | (refine .inl ⟨wrap64 (by omega), ?_⟩; conv => whnf)))
  refine loop_k (ι := Nat) [0, 1] [] (fun k => k ≤ (a ++ b).length ∧ True) (fun k => (a ++ b).length - k) 0 (fun k => [(5, .pv (roL 3 cKey (chgTo a b k))), (6, .own 500), (7, .pv (vint k))]) (fun k => [(500, rowL 7 cItem (a ++ b))]) [(500, 16)] ⟨Nat.zero_le _, trivial⟩ ?_ (fun k hk => ?_)
  · (repeat' (first | exact PSub.rfl | exact rfl | exact PSubs.rfl | exact trivial | exact PSub.lit_sb rfl | refine And.intro ?_ ?_))
    · omega
    · intro i hi
      dsimp only
      by_cases hia : i < a.length
      · rw [if_pos (by omega), if_neg (by omega), app_getD_l hia]
        exact PSubs.rfl
      · rw [if_neg (by omega), app_getD_r hia, Nat.zero_add]
        exact PSubs.rfl
    · exact PSub.nilL rfl
  obtain ⟨hkn, -⟩ := hk
  conv => whnf
  have hlen := chgTo_length (a := a) (b := b) (k := k)
  repeat (any_goals (first
    | (refine ⟨fun (h : (_ : Bool) = true) => ?_, fun (h : (_ : Bool) = false) => ?_⟩ <;> (try simp only [decide_eq_true_eq, decide_eq_false_iff_not, Bool.not_eq_true', Bool.not_eq_false', Int.toNat_natCast, beq_iff_eq, decide_eq_decide, beq_eq_false_iff_ne, ne_eq, reduceCtorEq] at h) <;> (conv => whnf))
    | (refine .inl ⟨_, ac_r22_Get a ((a ++ b).getD k default).key ha, ?_⟩; conv => whnf)
    | (refine .inl ⟨_, ac_r22_Get b ((a ++ b).getD k default).key hb, ?_⟩; conv => whnf)
    | (refine .inl ⟨_, ac_r22_Put (chgTo a b k) ((a ++ b).getD k default).key (by omega), ?_⟩; conv => whnf)
    | (refine And.intro (by (try simp only [Int.toNat_natCast]); omega) ?_; conv => whnf)
    | (refine And.intro (show (_ : Bool) = true from by kernel_rfl) ?_; conv => whnf)
    | (refine .inl ⟨wrap64 (by omega), ?_⟩; conv => whnf)))
  · refine ⟨k + 1, [], ⟨by omega, trivial⟩, by omega, ?_⟩
    rw [chgTo_succ (by omega), if_pos (chg_ne h)]
    (repeat' (first | exact PSub.rfl | exact rfl | exact PSubs.rfl | exact trivial | exact PSub.lit_sb rfl | refine And.intro ?_ ?_))
    intro i hi; exact PSubs.rfl
  · rename_i he
    rw [val_eq] at h
    refine ⟨k + 1, [], ⟨by omega, trivial⟩, by omega, ?_⟩
    rw [chgTo_succ (by omega), if_pos (by rw [chg_eq he, h]; rfl)]
    (repeat' (first | exact PSub.rfl | exact rfl | exact PSubs.rfl | exact trivial | exact PSub.lit_sb rfl | refine And.intro ?_ ?_))
    intro i hi; exact PSubs.rfl
  · rename_i he
    rw [val_eq] at h
    refine ⟨k + 1, [], ⟨by omega, trivial⟩, by omega, ?_⟩
    rw [chgTo_succ (by omega), if_neg (by rw [chg_eq he, h]; decide)]
    (repeat' (first | exact PSub.rfl | exact rfl | exact PSubs.rfl | exact trivial | exact PSub.lit_sb rfl | refine And.intro ?_ ?_))
    intro i hi; exact PSubs.rfl
  · rw [chgL, chgTo, List.take_of_length_le (by omega)]
    exact .rfl
end Go.Abs

namespace Go.Abs
open Go.Proofs
set_option maxRecDepth 10000
theorem ac_r25_place (l : List Item) (k : Key) (hl : smallL l) : AC Tryz.prog 108 [.pv (roL 7 cItem l), .pv (.agg (cKey k))] [] (.pv (vint (ixI l.length (itemAt l k)))) [] := by
  have hl : l.length ≤ 1048576 := hl
  have hk (x : Item) : (decide (x.key.dev = k.dev) && (decide (x.key.cluster = k.cluster) && (decide (x.key.attr = k.attr) && true))) = decide (x.key = k) := by
    obtain ⟨⟨a, b, c⟩, v, n⟩ := x
    obtain ⟨d, e, f⟩ := k
    rw [Bool.eq_iff_iff]; simp
  refine AC.of_awp (T := T) T_ok hm Tryz.call108 Tryz.func108 rfl rfl rfl ?_
  conv => whnf
  refine loop_k (ι := Nat) [0, 3] [3] (fun i => i ≤ l.length ∧ (∀ j, j < i → decide ((l.getD j default).key = k) = false)) (fun i => l.length - i) 0 (fun i => [(5, .pv (vint i))]) (fun _ => []) [] ⟨Nat.zero_le _, fun j h => absurd h (by omega)⟩ ?_ (fun i hk => ?_)
  · (repeat' (first | exact PSub.rfl | exact rfl | exact PSubs.rfl | exact trivial | exact PSub.lit_sb rfl | refine And.intro ?_ ?_))
  obtain ⟨hkn, hinv⟩ := hk
  conv => whnf
  repeat (any_goals (first
    | (refine ⟨fun (h : (_ : Bool) = true) => ?_, fun (h : (_ : Bool) = false) => ?_⟩ <;> (try simp only [decide_eq_true_eq, decide_eq_false_iff_not, Bool.not_eq_true', Bool.not_eq_false', Int.toNat_natCast, beq_iff_eq, decide_eq_decide, beq_eq_false_iff_ne, ne_eq, reduceCtorEq] at h) <;> (conv => whnf))
    | (refine And.intro (by (try simp only [Int.toNat_natCast]); omega) ?_; conv => whnf)
    | (refine And.intro (show (_ : Bool) = true from by kernel_rfl) ?_; conv => whnf)
    | (refine .inl ⟨wrap64 (by omega), ?_⟩; conv => whnf)))
  · rw [hk] at h
    have e : itemAt l k = i := firstI_at (by omega) h hinv
    exact PSub.int (by rw [e, ixI, if_pos (by omega)])
  · rw [hk] at h
    refine ⟨i + 1, [], ⟨by omega, ?_⟩, by first | omega | (dsimp only; omega), ?_⟩
    rotate_left
    · (repeat' (first | exact PSub.rfl | exact rfl | exact PSubs.rfl | exact trivial | exact PSub.lit_sb rfl | refine And.intro ?_ ?_))
    intro j hj
    by_cases e : j = i
    · subst e; first | exact h | simpa [-List.getD_eq_getElem?_getD] using h | simp_all [-List.getD_eq_getElem?_getD]
    · exact hinv j (by omega)
  · have e : itemAt l k = l.length := firstI_none fun j hj => hinv j (by omega)
    exact PSub.int (by rw [e, ixI, if_neg (by omega)])
theorem ac_r25_copied (s : Shd) (hs : smallSh s) : AC Tryz.prog 106 [.pv (.agg (cShd s))] [] (.pv (.agg (cShd s))) [] := by
  have h1 : s.reported.length ≤ 1048576 := hs.1
  have h2 : s.desired.length ≤ 1048576 := hs.2
  refine AC.of_awp (T := T) T_ok hm Tryz.call106 Tryz.func106 rfl rfl rfl ?_
  conv => whnf
  repeat (any_goals (first
    | (refine ⟨fun (h : (_ : Bool) = true) => ?_, fun (h : (_ : Bool) = false) => ?_⟩ <;> (try simp only [decide_eq_true_eq, decide_eq_false_iff_not, Bool.not_eq_true', Bool.not_eq_false', Int.toNat_natCast, beq_iff_eq, decide_eq_decide, beq_eq_false_iff_ne, ne_eq, reduceCtorEq] at h) <;> (conv => whnf))
    | (refine And.intro (by (try simp only [Int.toNat_natCast]); omega) ?_; conv => whnf)
    | (refine And.intro (show (_ : Bool) = true from by kernel_rfl) ?_; conv => whnf)
    | (refine .inl ⟨wrap64 (by omega), ?_⟩; conv => whnf)))
  exact PSub.agg ⟨.rfl, .rfl, .rfl, PSub.ro (Nat.zero_add _) (fun i hi => by simpa using PSubs.rfl), PSub.ro (Nat.zero_add _) (fun i hi => by simpa using PSubs.rfl), .rfl, .rfl, .rfl, .rfl, trivial⟩
theorem ac_r25_Done (s : Shd) (epoch version : Int) (hs : smallSh s) : AC Tryz.prog 67 [.pv (.agg (cShd s)), .pv (vint epoch), .pv (vint version)] [] (.pv (.agg (cShd (donS s epoch version)))) [] := by
  refine AC.of_awp (T := T) T_ok hm Tryz.call67 Tryz.func67 rfl rfl rfl ?_
  conv => whnf
  repeat (any_goals (first
    | (refine ⟨fun (h : (_ : Bool) = true) => ?_, fun (h : (_ : Bool) = false) => ?_⟩ <;> (try simp only [decide_eq_true_eq, decide_eq_false_iff_not, Bool.not_eq_true', Bool.not_eq_false', Int.toNat_natCast, beq_iff_eq, decide_eq_decide, beq_eq_false_iff_ne, ne_eq, reduceCtorEq] at h) <;> (conv => whnf))
    | (refine .inl ⟨_, ac_r25_copied s hs, ?_⟩; conv => whnf)
    | (refine And.intro (by (try simp only [Int.toNat_natCast]); omega) ?_; conv => whnf)
    | (refine And.intro (show (_ : Bool) = true from by kernel_rfl) ?_; conv => whnf)
    | (refine .inl ⟨wrap64 (by omega), ?_⟩; conv => whnf)))
  all_goals
    unfold donS
    by_cases he : epoch = s.epoch
    · rw [if_pos he]
      first
        | exact absurd he ‹_›
        | exact PSub.agg ⟨.rfl, .rfl, .rfl, .rfl, .rfl, .rfl, PSub.int (by simp only [Int.max_def, Int.min_def]; (repeat' split) <;> omega), .rfl, .rfl, trivial⟩
    · rw [if_neg he]
      first
        | exact absurd ‹_› he
        | exact .rfl
end Go.Abs

namespace Go.Abs
open Go.Proofs
set_option maxRecDepth 10000
theorem ac_r22_Init_o (H : Hom) (id : Int) (hH : smallH H) : AC Tryz.prog 74 [.pv (.agg (cHom H)), .pv (vint id)] [] (.own 0) [(0, rowL 7 cItem (initL H id))] := by
  have hkl := keysL_length hH (id := id)
  refine AC.of_awp_own (T := T) T_ok hm Tryz.call74 Tryz.func74 rfl rfl rfl ?_
  conv => whnf
  refine .inl ⟨_, ac_r22_Keys H id hH, ?_⟩
  conv => whnf
  refine loop_k (ι := Nat) [2, 6] [2] (fun k => k ≤ (keysL H id).length ∧ True) (fun k => (keysL H id).length - k) 0 (fun k => [(5, .own 500), (7, .pv (vint k))]) (fun k => [(500, rowL 7 cItem (initTo H id k))]) [] ⟨Nat.zero_le _, trivial⟩ ?_ (fun k hk => ?_)
  · (repeat' (first | exact PSub.rfl | exact rfl | exact PSubs.rfl | exact trivial | exact PSub.lit_sb rfl | refine And.intro ?_ ?_))
  obtain ⟨hkn, hinv⟩ := hk
  conv => whnf
  have hlen := @initTo_length H id k
  repeat (any_goals (first
    | (refine ⟨fun (h : (_ : Bool) = true) => ?_, fun (h : (_ : Bool) = false) => ?_⟩ <;> (try simp only [decide_eq_true_eq, decide_eq_false_iff_not, Bool.not_eq_true', Bool.not_eq_false', Int.toNat_natCast, beq_iff_eq, decide_eq_decide, beq_eq_false_iff_ne, ne_eq, reduceCtorEq] at h) <;> (conv => whnf))
    | (refine .inl ⟨_, ac_r22_Find H ((keysL H id).getD k default) hH, ?_⟩; conv => whnf)
    | (refine .inl ⟨_, ac_r20_Zero ((findA H ((keysL H id).getD k default)).getD noAttr) (small_findA hH), ?_⟩; conv => whnf)
    | (refine And.intro (by (try simp only [Int.toNat_natCast]); omega) ?_; conv => whnf)
    | (refine And.intro (show (_ : Bool) = true from by kernel_rfl) ?_; conv => whnf)
    | (refine .inl ⟨wrap64 (by omega), ?_⟩; conv => whnf)))
  · refine ⟨k + 1, [(500, 39)], ⟨by omega, trivial⟩, by omega, ?_⟩
    rw [initTo_succ]
    (repeat' (first | exact PSub.rfl | exact rfl | exact PSubs.rfl | exact trivial | exact PSub.lit_sb rfl | refine And.intro ?_ ?_))
    · simp
    · refine rows_snocF (fun i hi => by simp only [if_pos hi]; exact PSubs.rfl) (by simp only [if_neg (Nat.lt_irrefl _), Nat.sub_self]; exact PSubs.rfl)
  · have e : k = (keysL H id).length := by omega
    subst e
    exact ⟨rfl, fun i hi => PSubs.rfl⟩
theorem room_ok {H : Hom} {dev : Int} (h : findB H dev = true) : (findD H dev).room ≠ ⟨#[]⟩ := by
  have hb := h
  simp only [findB, Bool.and_eq_true, decide_eq_true_eq] at hb
  have hd := homE_dev hb.1 hb.2
  rw [findD, if_pos h]
  intro e
  unfold devE at hd
  rw [e] at hd
  have hv : validName ⟨#[]⟩ = false := by decide
  rw [hv] at hd
  (repeat' split at hd) <;> first | omega | (simp_all; done)
theorem newS_find (H : Hom) (dev : Int) : newS H dev = if findB H dev = true then ⟨dev, 0, 0, unrepL H dev, [], 0, 0, -1, 0⟩ else noShd := by
  unfold newS
  by_cases h : findB H dev = true
  · rw [if_pos h, if_neg (room_ok h)]
  · rw [if_neg h, if_pos (by rw [findD, if_neg h]; rfl)]
theorem ac_r25_New_m (H : Hom) (dev : Int) (hH : smallH H) : AC Tryz.prog 107 [.pv (.agg (cHom H)), .pv (vint dev)] [] (.mix (mShd (newS H dev) (.own 0) (.pv (roL 7 cItem [])))) [(0, rowL 7 cItem (newS H dev).reported)] := by
  have hl := initL_48 (H := H) (id := dev)
  rw [newS_find]
  refine AC.of_awp_cel (T := T) T_ok hm Tryz.call107 Tryz.func107 rfl rfl rfl rfl rfl rfl ?_
  conv => whnf
  repeat (any_goals (first
    | (refine ⟨fun (h : (_ : Bool) = true) => ?_, fun (h : (_ : Bool) = false) => ?_⟩ <;> (try simp only [decide_eq_true_eq, decide_eq_false_iff_not, Bool.not_eq_true', Bool.not_eq_false', Int.toNat_natCast, beq_iff_eq, decide_eq_decide, beq_eq_false_iff_ne, ne_eq, reduceCtorEq] at h) <;> (conv => whnf))
    | (refine .inl ⟨_, ac_r22_Check H hH, ?_⟩; conv => whnf)
    | (refine .inl ⟨_, ac_r22_At H dev hH, ?_⟩; conv => whnf)
    | (refine .inr (.inr (.inr (.inr ⟨[], [(0, 700001)], _, _, _, ac_r22_Init_o H dev hH, rfl, ?_⟩))); conv => whnf)
    | (refine And.intro (by (try simp only [Int.toNat_natCast]); omega) ?_; conv => whnf)
    | (refine And.intro (show (_ : Bool) = true from by kernel_rfl) ?_; conv => whnf)
    | (refine .inl ⟨wrap64 (by omega), ?_⟩; conv => whnf)))
  · have hf : findB H dev = false := by rw [findB, decide_eq_false h]; rfl
    rw [hf]
    refine ⟨[], ?_⟩
    (repeat' (first | exact PSub.rfl | exact rfl | exact PSubs.rfl | exact trivial | exact PSub.lit_sb rfl | refine And.intro ?_ ?_))
    all_goals first | exact PSub.nil_ro _ _ | trace_state
  · rename_i hz
    have hf : findB H dev = false := by
      rcases devIx_find (id := dev) hz with ⟨_, h2⟩ | ⟨h1, _⟩
      · exact h2
      · omega
    rw [hf]
    refine ⟨[], ?_⟩
    (repeat' (first | exact PSub.rfl | exact rfl | exact PSubs.rfl | exact trivial | exact PSub.lit_sb rfl | refine And.intro ?_ ?_))
    all_goals first | exact PSub.nil_ro _ _ | trace_state
  · rename_i hz
    have hf : findB H dev = true := by
      rcases devIx_find (id := dev) hz with ⟨h1, _⟩ | ⟨_, _, h2, _⟩
      · omega
      · exact h2
    rw [hf, if_pos rfl, unrep_eq]
    generalize initL H dev = l at *
    refine loop_k (ι := Nat) [1, 4, 5] [4] (fun k => k ≤ l.length ∧ True) (fun k => l.length - k) 0 (fun k => [(6, .pv (vint k))]) (fun k => [(700001, rowL 7 cItem (zTo l k))]) [] ⟨Nat.zero_le _, trivial⟩ ?_ (fun k hk => ?_)
    · (repeat' (first | exact PSub.rfl | exact rfl | exact PSubs.rfl | exact trivial | exact PSub.lit_sb rfl | refine And.intro ?_ ?_)); all_goals ((rw [zTo_zero]; intro i hi; exact PSubs.rfl))
    obtain ⟨hkn, hinv⟩ := hk
    conv => whnf
    have hz := zTo_length l k
    have hz1 := zTo_length l (k + 1)
    repeat (any_goals (first
      | (refine ⟨fun (h : (_ : Bool) = true) => ?_, fun (h : (_ : Bool) = false) => ?_⟩ <;> (try simp only [decide_eq_true_eq, decide_eq_false_iff_not, Bool.not_eq_true', Bool.not_eq_false', Int.toNat_natCast, beq_iff_eq, decide_eq_decide, beq_eq_false_iff_ne, ne_eq, reduceCtorEq] at h) <;> (conv => whnf))
      | (refine And.intro (by (try simp only [Int.toNat_natCast]); omega) ?_; conv => whnf)
      | (refine And.intro (show (_ : Bool) = true from by kernel_rfl) ?_; conv => whnf)
      | (refine .inl ⟨wrap64 (by omega), ?_⟩; conv => whnf)))
    · have hr := fun q => zTo_row (l := l) (k := k) (by omega) q
      refine ⟨k + 1, [], ⟨by omega, trivial⟩, by omega, ?_⟩
      (repeat' (first | exact PSub.rfl | exact rfl | exact PSubs.rfl | exact trivial | exact PSub.lit_sb rfl | refine And.intro ?_ ?_))
      · omega
      · intro i hi; exact hr i (by omega)
    · have e : k = l.length := by omega
      subst e
      rw [← zTo_all]
      refine ⟨[(0, 700001)], ?_⟩
      (repeat' (first | exact PSub.rfl | exact rfl | exact PSubs.rfl | exact trivial | exact PSub.lit_sb rfl | refine And.intro ?_ ?_))
      all_goals first | exact PSub.nil_ro _ _ | (intro i hi; exact PSubs.rfl) | trace_state
end Go.Abs

namespace Go.Abs
open Go.Proofs
set_option maxRecDepth 10000
theorem ac_r25_Pending (s : Shd) (hs : smallSh s) : AC Tryz.prog 27 [.pv (.agg (cShd s))] [] (.pv (roL 7 cItem (penL s))) [] := by
  have h2 : s.desired.length ≤ 1048576 := hs.2
  refine AC.of_awp (T := T) T_ok hm Tryz.call27 Tryz.func27 rfl rfl rfl ?_
  conv => whnf
  refine loop_k (ι := Nat) [1] [1] (fun k => k ≤ s.desired.length ∧ True) (fun k => s.desired.length - k) 0 (fun k => [(3, .own 500), (4, .pv (vint k))]) (fun k => [(500, rowL 7 cItem (isortR vLt ((s.desired.take k).filter (penF s))))]) [] ⟨Nat.zero_le _, trivial⟩ ?_ (fun k hk => ?_)
  · (repeat' (first | exact PSub.rfl | exact rfl | exact PSubs.rfl | exact trivial | exact PSub.lit_sb rfl | refine And.intro ?_ ?_))
  obtain ⟨hkn, hinv⟩ := hk
  conv => whnf
  have hfl := fil_length (penF s) s.desired k
  have hil := isortR_length (lt := vLt) ((s.desired.take k).filter (penF s))
  refine ⟨fun h => ?_, fun h => ?_⟩ <;> (try simp only [decide_eq_true_eq, decide_eq_false_iff_not, Bool.not_eq_true', Bool.not_eq_false', Int.toNat_natCast, beq_iff_eq, decide_eq_decide, beq_eq_false_iff_ne, ne_eq, reduceCtorEq] at h) <;> (conv => whnf)
  · have hfs := fil_snoc (penF s) (l := s.desired) (k := k) (by omega)
    repeat (any_goals (first
      | (refine ⟨fun (h : (_ : Bool) = true) => ?_, fun (h : (_ : Bool) = false) => ?_⟩ <;> (try simp only [decide_eq_true_eq, decide_eq_false_iff_not, Bool.not_eq_true', Bool.not_eq_false', Int.toNat_natCast, beq_iff_eq, decide_eq_decide, beq_eq_false_iff_ne, ne_eq, reduceCtorEq] at h) <;> (conv => whnf))
      | (refine And.intro (by (try simp only [Int.toNat_natCast]); omega) ?_; conv => whnf)
      | (refine And.intro (show (_ : Bool) = true from by kernel_rfl) ?_; conv => whnf)
      | (refine .inl ⟨wrap64 (by omega), ?_⟩; conv => whnf)))
    · rw [if_neg (by simpa [penF] using h), List.append_nil] at hfs
      refine ⟨k + 1, [], ⟨by omega, trivial⟩, by omega, ?_⟩
      rw [hfs]
      (repeat' (first | exact PSub.rfl | exact rfl | exact PSubs.rfl | exact trivial | exact PSub.lit_sb rfl | refine And.intro ?_ ?_))
      all_goals (intro i hi; exact PSubs.rfl)
    · rw [if_pos (show penF s (s.desired.getD k default) = true from decide_eq_true (by omega))] at hfs
      generalize (s.desired.take k).filter (penF s) = D at *
      obtain ⟨x, hx0⟩ : ∃ x, x = s.desired.getD k default := ⟨_, rfl⟩
      rw [← hx0] at hfs
      have hll : (D ++ [x]).length = D.length + 1 := by simp
      have hS0 : srtSeg vLt (D ++ [x]) 0 D.length = isortR vLt D ++ [x] := by unfold srtSeg seg; simp
      have hS1 : srtSeg vLt (D ++ [x]) 0 (D.length + 1) = isortR vLt (D ++ [x]) := by unfold srtSeg seg; rw [show (D ++ [x]).take (D.length + 1) = D ++ [x] from List.take_of_length_le (by simp)]; simp
      have hLn : (D ++ [x]).getD D.length default = x := by simp [List.getD]
      have hsl := srtSeg_length (lt := vLt) (l := D ++ [x]) (a := 0) (b := D.length) (by omega) (by omega)
      generalize hLd : D ++ [x] = L at *
      generalize hn : D.length = n at *
      refine loop_k (ι := Nat) [1, 4] [1] (fun j => j ≤ n ∧ ∀ q, j ≤ q → q < n → vLt (L.getD n default) ((srtSeg vLt L 0 n).getD q default) = true) (fun j => j) n (fun j => [(3, .own 501), (5, .pv (vint j))]) (fun j => [(501, rowL 7 cItem (rot (srtSeg vLt L 0 n) j n (n + 1)))]) [(501, 30)] ⟨by omega, fun q q1 q2 => by omega⟩ ?_ (fun j hj => ?_)
      · rw [rot_none (by omega), hS0, hx0]
        (repeat' (first | exact PSub.rfl | exact rfl | exact PSubs.rfl | exact trivial | exact PSub.lit_sb rfl | refine And.intro ?_ ?_))
        · simp [hil]
        · refine rows_snocF (fun i hi => by simp only [if_pos hi]; exact PSubs.rfl) (by simp only [if_neg (Nat.lt_irrefl _), Nat.sub_self]; exact PSubs.rfl)
        all_goals first | exact PSub.int (by omega) | trace_state
      obtain ⟨hj2, hj3⟩ := hj
      have hrl := rot_length (srtSeg vLt L 0 n) j n (n + 1)
      have ht : (↑j - 1 : Int).toNat = j - 1 := by omega
      conv => whnf
      repeat (any_goals (first
        | (refine ⟨fun (h : (_ : Bool) = true) => ?_, fun (h : (_ : Bool) = false) => ?_⟩ <;> (try simp only [decide_eq_true_eq, decide_eq_false_iff_not, Bool.not_eq_true', Bool.not_eq_false', Int.toNat_natCast, beq_iff_eq, decide_eq_decide, beq_eq_false_iff_ne, ne_eq, reduceCtorEq] at h) <;> (conv => whnf))
        | (refine And.intro (by (try simp only [Int.toNat_natCast]); omega) ?_; conv => whnf)
        | (refine And.intro (show (_ : Bool) = true from by kernel_rfl) ?_; conv => whnf)
        | (refine .inl ⟨wrap64 (by omega), ?_⟩; conv => whnf)))
      · have hx : (rot (srtSeg vLt L 0 n) j n (n + 1)).getD j default = L.getD n default := by
          rw [rot_getD (by omega), if_pos (by omega), srtSeg_getD (by omega) (by omega), if_neg (by omega), if_neg (by omega)]
          congr 1; omega
        have hy : (rot (srtSeg vLt L 0 n) j n (n + 1)).getD (j - 1) default = (srtSeg vLt L 0 n).getD (j - 1) default := by
          rw [rot_getD (by omega), if_neg (by omega), if_neg (by omega)]
        have h2 : vLt ((rot (srtSeg vLt L 0 n) j n (n + 1)).getD j default) ((rot (srtSeg vLt L 0 n) j n (n + 1)).getD (j - 1) default) = true := by
          rw [← ht]; exact decide_eq_true h
        rw [hx, hy] at h2
        rw [ht]
        refine ⟨j - 1, [], ⟨by omega, fun q q1 q2 => ?_⟩, by omega, ?_⟩
        · by_cases e : q = j - 1
          · rw [e]; exact h2
          · exact hj3 q (by omega) q2
        rw [← rot_down (by omega) hj2 (by omega)]
        have hr := fun q => swp_row (l := rot (srtSeg vLt L 0 n) j n (n + 1)) (i := j) (j := j - 1) (by omega) (by omega) q
        (repeat' (first | exact PSub.rfl | exact rfl | exact PSubs.rfl | exact trivial | exact PSub.lit_sb rfl | refine And.intro ?_ ?_))
        · rw [swp_length]
        · intro q hq; exact hr q
        · exact PSub.int (by omega)
      · have hx : (rot (srtSeg vLt L 0 n) j n (n + 1)).getD j default = L.getD n default := by
          rw [rot_getD (by omega), if_pos (by omega), srtSeg_getD (by omega) (by omega), if_neg (by omega), if_neg (by omega)]
          congr 1; omega
        have hy : (rot (srtSeg vLt L 0 n) j n (n + 1)).getD (j - 1) default = (srtSeg vLt L 0 n).getD (j - 1) default := by
          rw [rot_getD (by omega), if_neg (by omega), if_neg (by omega)]
        have h2 : vLt ((rot (srtSeg vLt L 0 n) j n (n + 1)).getD j default) ((rot (srtSeg vLt L 0 n) j n (n + 1)).getD (j - 1) default) = false := by
          rw [← ht]; exact decide_eq_false h
        rw [hx, hy] at h2
        refine ⟨k + 1, [(500, 501)], ⟨by omega, trivial⟩, by omega, ?_⟩
        rw [hfs, ← hS1, ins_done vLt_swo (Nat.zero_le _) hj2 (by omega) hj3 (fun _ => h2)]
        (repeat' (first | exact PSub.rfl | exact rfl | exact PSubs.rfl | exact trivial | exact PSub.lit_sb rfl | refine And.intro ?_ ?_))
        all_goals (intro q hq; exact PSubs.rfl)
      · refine ⟨k + 1, [(500, 501)], ⟨by omega, trivial⟩, by omega, ?_⟩
        rw [hfs, ← hS1, ins_done vLt_swo (Nat.zero_le _) hj2 (by omega) hj3 (fun x => by omega)]
        (repeat' (first | exact PSub.rfl | exact rfl | exact PSubs.rfl | exact trivial | exact PSub.lit_sb rfl | refine And.intro ?_ ?_))
        all_goals (intro q hq; exact PSubs.rfl)
  · have e : k = s.desired.length := by omega
    subst e
    rw [List.take_length] at *
    repeat (any_goals (first
      | (refine ⟨fun (h : (_ : Bool) = true) => ?_, fun (h : (_ : Bool) = false) => ?_⟩ <;> (try simp only [decide_eq_true_eq, decide_eq_false_iff_not, Bool.not_eq_true', Bool.not_eq_false', Int.toNat_natCast, beq_iff_eq, decide_eq_decide, beq_eq_false_iff_ne, ne_eq, reduceCtorEq] at h) <;> (conv => whnf))
      | (refine And.intro (by (try simp only [Int.toNat_natCast]); omega) ?_; conv => whnf)
      | (refine And.intro (show (_ : Bool) = true from by kernel_rfl) ?_; conv => whnf)
      | (refine .inl ⟨wrap64 (by omega), ?_⟩; conv => whnf)))
    exact .rfl
end Go.Abs

namespace Go.Abs
open Go.Proofs
set_option maxRecDepth 10000
theorem ac_r25_Synced (s : Shd) (hs : smallSh s) : AC Tryz.prog 65 [.pv (.agg (cShd s))] [] (.pv (vbool (decide (penL s = [])))) [] := by
  refine AC.of_awp (T := T) T_ok hm Tryz.call65 Tryz.func65 rfl rfl rfl ?_
  conv => whnf
  repeat (any_goals (first
    | (refine ⟨fun (h : (_ : Bool) = true) => ?_, fun (h : (_ : Bool) = false) => ?_⟩ <;> (try simp only [decide_eq_true_eq, decide_eq_false_iff_not, Bool.not_eq_true', Bool.not_eq_false', Int.toNat_natCast, beq_iff_eq, decide_eq_decide, beq_eq_false_iff_ne, ne_eq, reduceCtorEq] at h) <;> (conv => whnf))
    | (refine .inl ⟨_, ac_r25_Pending s hs, ?_⟩; conv => whnf)
    | (refine And.intro (by (try simp only [Int.toNat_natCast]); omega) ?_; conv => whnf)
    | (refine And.intro (show (_ : Bool) = true from by kernel_rfl) ?_; conv => whnf)
    | (refine .inl ⟨wrap64 (by omega), ?_⟩; conv => whnf)))
  refine PSub.sb ?_
  rw [Bool.eq_iff_iff]; simp [List.eq_nil_iff_length_eq_zero, -List.length_eq_zero_iff]
theorem ac_r25_Same (a b : Shd) (ha : smallSh a) : AC Tryz.prog 18 [.pv (.agg (cShd a)), .pv (.agg (cShd b))] [] (.pv (vbool (decide (a = b)))) [] := by
  have h1 : a.reported.length ≤ 1048576 := ha.1
  have h2 : a.desired.length ≤ 1048576 := ha.2
  obtain ⟨a1, a2, a3, a4, a5, a6, a7, a8, a9⟩ := a
  obtain ⟨b1, b2, b3, b4, b5, b6, b7, b8, b9⟩ := b
  dsimp only at h1 h2
  refine AC.of_awp (T := T) T_ok hm Tryz.call18 Tryz.func18 rfl rfl rfl ?_
  conv => whnf
  repeat (any_goals (first
    | (refine ⟨fun (h : (_ : Bool) = true) => ?_, fun (h : (_ : Bool) = false) => ?_⟩ <;> (try simp only [decide_eq_true_eq, decide_eq_false_iff_not, Bool.not_eq_true', Bool.not_eq_false', Int.toNat_natCast, beq_iff_eq, decide_eq_decide, beq_eq_false_iff_ne, ne_eq, reduceCtorEq] at h) <;> (conv => whnf))
    | (refine .inl ⟨_, ac_r22_Same a4 b4 (by omega), ?_⟩; conv => whnf)
    | (refine .inl ⟨_, ac_r22_Same a5 b5 (by omega), ?_⟩; conv => whnf)
    | (refine And.intro (by (try simp only [Int.toNat_natCast]); omega) ?_; conv => whnf)
    | (refine And.intro (show (_ : Bool) = true from by kernel_rfl) ?_; conv => whnf)
    | (refine .inl ⟨wrap64 (by omega), ?_⟩; conv => whnf)))
  all_goals first
    | (refine PSub.sb ?_; simp_all; done)
    | (refine PSub.lit_sb ?_; symm; simp_all; done)
    | (refine PSub.lit_sb ?_; simp_all; done)
    | trace_state
end Go.Abs

namespace Go.Abs
open Go.Proofs
set_option maxRecDepth 10000
theorem chgL_length {a b : List Item} : (chgL a b).length ≤ a.length + b.length := by
  unfold chgL
  refine Nat.le_trans (sortK_length _) (Nat.le_trans (List.length_filter_le _ _) ?_)
  simp
end Go.Abs

namespace Go.Abs
open Go.Proofs
set_option maxRecDepth 10000
theorem rep_small {H : Hom} {s : Shd} {m : Msg} (hs : smallSh s) : smallSh (repS H s m) := by
  unfold repS
  split
  · refine ⟨?_, ?_⟩
    · show (repR H (baseS H s m).reported m.items).length ≤ 1048576
      rw [repR_length]; exact base_small hs
    · show (baseS H s m).desired.length ≤ 1048576
      rw [base_des]; exact hs.2
  · exact hs
theorem repK_length {H : Hom} {s : Shd} {m : Msg} (hs : smallSh s) : (repK H s m).length ≤ 2097152 := by
  have h1 : s.reported.length ≤ 1048576 := hs.1
  have h2 : (repS H s m).reported.length ≤ 1048576 := (rep_small hs).1
  unfold repK
  split
  · have := chgL_length (a := s.reported) (b := (repS H s m).reported); omega
  · simp
theorem don_small {s : Shd} {e v : Int} (hs : smallSh s) : smallSh (donS s e v) := by
  unfold donS; split <;> exact hs
end Go.Abs

namespace Go.Abs
open Go.Proofs
set_option maxRecDepth 10000
theorem AC.mix1 {P : Program} {f : FuncId} {cs : List PV} {os os' : Upd} {res : AV} (h : AC P f [.mix (cs.map .pv)] os res os') : AC P f [.pv (.agg cs)] os res os' := by
  refine ⟨h.1, fun St M0 σ w vals hi hσ hos hl hA => h.2 St M0 σ w vals hi hσ hos hl fun i x e => ?_⟩
  have h0 := hA 0 _ rfl
  match i, e with
  | 0, e =>
    simp only [List.getElem?_cons_zero, Option.some.injEq] at e
    subst e
    have hp := arg_pv h0
    generalize vals.getD 0 undef = v at hp
    cases hp with
    | agg _ vs hl hh h1 =>
      refine .mix _ vs (by simpa using hl) (fun i c e => ?_) h1
      rw [List.getElem?_map] at e
      cases hq : cs[i]? with
      | none => rw [hq] at e; cases e
      | some q => rw [hq] at e; cases e; exact .pv _ _ (hh i q hq)
  | i + 1, e => simp at e
theorem ac_r25_copied_m (s : Shd) (hs : smallSh s) : AC Tryz.prog 106 [.pv (.agg (cShd s))] [] (.mix (mShd s (.own 0) (.own 1))) [(0, rowL 7 cItem s.reported), (1, rowL 7 cItem s.desired)] := by
  have h1 : s.reported.length ≤ 1048576 := hs.1
  have h2 : s.desired.length ≤ 1048576 := hs.2
  refine AC.mix1 ?_
  refine AC.of_awp_cel (T := T) T_ok hm Tryz.call106 Tryz.func106 rfl rfl rfl rfl rfl rfl ?_
  conv => whnf
  repeat (any_goals (first
    | (refine ⟨fun (h : (_ : Bool) = true) => ?_, fun (h : (_ : Bool) = false) => ?_⟩ <;> (try simp only [decide_eq_true_eq, decide_eq_false_iff_not, Bool.not_eq_true', Bool.not_eq_false', Int.toNat_natCast, beq_iff_eq, decide_eq_decide, beq_eq_false_iff_ne, ne_eq, reduceCtorEq] at h) <;> (conv => whnf))
    | (refine And.intro (by (try simp only [Int.toNat_natCast]); omega) ?_; conv => whnf)
    | (refine And.intro (show (_ : Bool) = true from by kernel_rfl) ?_; conv => whnf)
    | (refine .inl ⟨wrap64 (by omega), ?_⟩; conv => whnf)))
  refine ⟨[(0, 6), (1, 11)], ?_⟩
  (repeat' (first | exact PSub.rfl | exact rfl | exact PSubs.rfl | exact trivial | exact PSub.lit_sb rfl | refine And.intro ?_ ?_))
  all_goals first | exact Nat.zero_add _ | (intro i hi; simpa using PSubs.rfl)
set_option maxHeartbeats 4000000 in
theorem ac_r25_Report (H : Hom) (s : Shd) (m : Msg) (hH : smallH H) (hs : smallSh s) (hmi : smallL m.items) : AC Tryz.prog 66 [.pv (.agg (cHom H)), .pv (.agg (cShd s)), .pv (.agg (cMsg m))] [] (.pv (.tup [.agg (cShd (repS H s m)), roL 3 cKey (repK H s m)])) [] := by
  have hm2 : m.items.length ≤ 1048576 := hmi
  obtain ⟨b, hbd⟩ : ∃ b, b = baseS H s m := ⟨_, rfl⟩
  have hbl : b.reported.length ≤ 1048576 := by rw [hbd]; exact base_small hs
  have hRs : smallL (repR H b.reported m.items) := by unfold smallL; rw [repR_length]; exact hbl
  have hfin : mineB s m = true → repS H s m = { b with reported := repR H b.reported m.items, version := max b.version m.version } ∧ repK H s m = chgL s.reported (repR H b.reported m.items) := fun h => by
    rw [repK, repS, if_pos h, if_pos h, hbd]; exact ⟨rfl, rfl⟩
  have hno : mineB s m ≠ true → repS H s m = s ∧ repK H s m = [] := fun h => by
    rw [repK, repS, if_neg h, if_neg h]; exact ⟨rfl, rfl⟩
  have hnr : (newS H s.dev).reported = unrepL H s.dev := by
    unfold newS
    split
    · rename_i h
      have hf : findB H s.dev = false := by
        cases e : findB H s.dev with
        | false => rfl
        | true => exact absurd h (room_ok e)
      have : keysL H s.dev = [] := by rw [keysL, findD_none hf]; rfl
      rw [unrepL, initL, this]; rfl
    · rfl
  have cn := ac_r25_New_m H s.dev hH
  rw [hnr] at cn
  refine AC.of_awp (T := T) T_ok hm Tryz.call66 Tryz.func66 rfl rfl rfl ?_
  conv => whnf
  repeat (any_goals (first
    | (refine ⟨fun (h : (_ : Bool) = true) => ?_, fun (h : (_ : Bool) = false) => ?_⟩ <;> (try simp only [decide_eq_true_eq, decide_eq_false_iff_not, Bool.not_eq_true', Bool.not_eq_false', Int.toNat_natCast, beq_iff_eq, decide_eq_decide, beq_eq_false_iff_ne, ne_eq, reduceCtorEq] at h) <;> (conv => whnf))
    | (refine .inr (.inr (.inr (.inr ⟨[], [(0, 700001), (1, 700002)], _, _, _, ac_r25_copied_m s hs, rfl, ?_⟩))); conv => whnf)
    | (refine .inr (.inr (.inr (.inr ⟨[], [(0, 700003)], _, _, _, cn, rfl, ?_⟩))); conv => whnf)
    | (refine And.intro (by (try simp only [Int.toNat_natCast]); omega) ?_; conv => whnf)
    | (refine And.intro (show (_ : Bool) = true from by kernel_rfl) ?_; conv => whnf)
    | (refine .inl ⟨wrap64 (by omega), ?_⟩; conv => whnf)))
  iterate 3
    · obtain ⟨e1, e2⟩ := hno (by rw [Ne, mine_iff]; omega)
      rw [e1, e2]
      refine ⟨?_, ?_⟩ <;> (conv => whnf)
      · exact .rfl
      · exact PSub.nil_ro _ _
  · have hmine : mineB s m = true := mine_iff.2 ⟨by assumption, by assumption, by omega⟩
    obtain ⟨f1, f2⟩ := hfin hmine
    have hbe : b = ⟨s.dev, m.epoch, 0, unrepL H s.dev, s.desired, s.want, 0, -1, 0⟩ := by rw [hbd, baseS, if_pos h]
    obtain ⟨rid, hrid⟩ : ∃ r : Nat, r = 700003 := ⟨_, rfl⟩
    refine loop_k (ι := Bool × Nat) [3, 4, 5, 6, 8] [3, 4, 5, 6] (fun x => x.2 ≤ m.items.length ∧ (x.1 = true ↔ x.2 < m.items.length)) (fun x => m.items.length - x.2) (decide (0 < m.items.length), 0) (fun x => [(9, .pv (vint x.2))])
      (fun x => match x.1 with
        | true => [(8, .box (mShd b (.own 500) (.own 700002))), (500, rowL 7 cItem (repR H b.reported (m.items.take x.2))), (700002, rowL 7 cItem s.desired)]
        | false => [(8, .pbox [vint b.dev, vint b.epoch, vint b.version, roL 7 cItem (repR H b.reported m.items), roL 7 cItem s.desired, vint b.want, vint b.done, vint b.sent, vint b.heard])]) (if 0 < m.items.length then [(500, rid)] else []) ⟨Nat.zero_le _, by simp⟩ ?_ (fun x hk => ?_)
    · by_cases hz : 0 < m.items.length
      · rw [show decide (0 < m.items.length) = true from decide_eq_true hz, if_pos hz, hbe, hrid]
        dsimp only
        (repeat' (first | exact PSub.rfl | exact rfl | exact PSubs.rfl | exact trivial | exact PSub.lit_sb rfl | refine And.intro ?_ ?_))
        all_goals first | (intro i hi; exact PSubs.rfl) | trace_state
      · have hz2 : m.items = [] := List.eq_nil_of_length_eq_zero (by omega)
        rw [show decide (0 < m.items.length) = false from decide_eq_false hz, if_neg hz, hz2, hbe]
        dsimp only
        (repeat' (first | exact PSub.rfl | exact rfl | exact PSubs.rfl | exact trivial | exact PSub.lit_sb rfl | refine And.intro ?_ ?_))
        all_goals trace_state
    obtain ⟨d, k⟩ := x
    obtain ⟨hkn, hb⟩ := hk
    dsimp only at hkn hb
    cases d with
    | true =>
      have hk : k < m.items.length := hb.1 rfl
      have hsn := repR_snoc H b.reported hk
      generalize hR : repR H b.reported (m.items.take k) = R at *
      have hRl : R.length ≤ 1048576 := by rw [← hR, repR_length]; exact hbl
      have c := ac_r25_place R (m.items.getD k default).key hRl
      have hok := okI_eq H (m.items.getD k default)
      have hst : stepI H R (m.items.getD k default) = if itemAt R (m.items.getD k default).key < R.length ∧ (R.getD (itemAt R (m.items.getD k default).key) default).version < (m.items.getD k default).version ∧ okI H (m.items.getD k default) = true then R.set (itemAt R (m.items.getD k default).key) (m.items.getD k default) else R := rfl
      by_cases hlt : itemAt R (m.items.getD k default).key < R.length
      · rw [ixI, if_pos hlt] at c
        generalize itemAt R (m.items.getD k default).key = i at *
        conv => whnf
        refine ⟨fun h => ?_, fun h => absurd (of_decide_eq_false h) (by omega)⟩
        conv => whnf
        refine And.intro (by dsimp only; omega) ?_
        conv => whnf
        rw [show (↑(true, k).snd : Int).toNat = k from rfl]
        repeat (any_goals (first
          | (refine ⟨fun (h : (_ : Bool) = true) => ?_, fun (h : (_ : Bool) = false) => ?_⟩ <;> (try simp only [decide_eq_true_eq, decide_eq_false_iff_not, Bool.not_eq_true', Bool.not_eq_false', Int.toNat_natCast, beq_iff_eq, decide_eq_decide, beq_eq_false_iff_ne, ne_eq, reduceCtorEq] at h) <;> (conv => whnf))
          | (refine .inl ⟨_, c, ?_⟩; conv => whnf)
          | (refine .inl ⟨_, ac_r22_Find H (m.items.getD k default).key hH, ?_⟩; conv => whnf)
          | (refine .inl ⟨_, ac_r20_Fits ((findA H (m.items.getD k default).key).getD noAttr) (m.items.getD k default).value (small_findA hH), ?_⟩; conv => whnf)
          | (refine And.intro (by (try simp only [Int.toNat_natCast]); omega) ?_; conv => whnf)
          | (refine And.intro (show (_ : Bool) = true from by kernel_rfl) ?_; conv => whnf)
          | (refine .inl ⟨wrap64 (by omega), ?_⟩; conv => whnf)))
        · have hst' : stepI H R (m.items.getD k default) = R.set i (m.items.getD k default) := by
            rw [hst, if_pos ⟨hlt, by omega, by rw [hok, Bool.and_eq_true, decide_eq_true_eq]; exact ⟨by assumption, by assumption⟩⟩]
          rw [hst'] at hsn
          have hrow : ∀ q, q < (R.set i (m.items.getD k default)).length → PSubs (updAt (fun q => cItem (R.getD q default)) i 0 (cItem (m.items.getD k default)) q) (cItem ((R.set i (m.items.getD k default)).getD q default)) :=
            rows_set (fun j hj e => by rw [updAt_ne e]; exact PSubs.rfl) (fun hi => by rw [updAt_same]; exact PSubs.rfl)
          by_cases hlast : k + 1 < m.items.length
          · refine ⟨(true, k + 1), [], ⟨Nat.le_of_lt hlast, ⟨fun _ => hlast, fun _ => rfl⟩⟩, by dsimp only; omega, ?_⟩
            dsimp only
            rw [hsn]
            (repeat' (first | exact PSub.rfl | exact rfl | exact PSubs.rfl | exact trivial | exact PSub.lit_sb rfl | refine And.intro ?_ ?_))
            all_goals first | exact hrow | (intro i hi; exact PSubs.rfl) | exact List.length_set | exact List.length_set.symm | trace_state
          · have hall : m.items.take (k + 1) = m.items := List.take_of_length_le (by omega)
            rw [hall] at hsn
            refine ⟨(false, k + 1), [], ⟨by dsimp only; omega, ⟨fun h => (by cases h), fun h => absurd h hlast⟩⟩, by dsimp only; omega, ?_⟩
            dsimp only
            rw [hsn]
            (repeat' (first | exact PSub.rfl | exact rfl | exact PSubs.rfl | exact trivial | exact PSub.lit_sb rfl | refine And.intro ?_ ?_))
            all_goals first | exact PSub.ro List.length_set.symm (fun q hq => hrow q (by rw [List.length_set]; exact hq)) | trace_state
        · have hst' : stepI H R (m.items.getD k default) = R := by
            rw [hst, if_neg]
            rintro ⟨a1, a2, a3⟩
            rw [hok, Bool.and_eq_true, decide_eq_true_eq] at a3
            obtain ⟨a4, a5⟩ := a3
            first
              | omega
              | exact absurd a5 (by assumption)
              | exact Bool.noConfusion (a4.symm.trans h)
          rw [hst'] at hsn
          by_cases hlast : k + 1 < m.items.length
          · refine ⟨(true, k + 1), [], ⟨Nat.le_of_lt hlast, ⟨fun _ => hlast, fun _ => rfl⟩⟩, by dsimp only; omega, ?_⟩
            dsimp only
            rw [hsn]
            (repeat' (first | exact PSub.rfl | exact rfl | exact PSubs.rfl | exact trivial | exact PSub.lit_sb rfl | refine And.intro ?_ ?_))
            all_goals (intro i hi; exact PSubs.rfl)
          · have hall : m.items.take (k + 1) = m.items := List.take_of_length_le (by omega)
            rw [hall] at hsn
            refine ⟨(false, k + 1), [], ⟨by dsimp only; omega, ⟨fun h => (by cases h), fun h => absurd h hlast⟩⟩, by dsimp only; omega, ?_⟩
            dsimp only
            rw [hsn]
            (repeat' (first | exact PSub.rfl | exact rfl | exact PSubs.rfl | exact trivial | exact PSub.lit_sb rfl | refine And.intro ?_ ?_))
        · have hst' : stepI H R (m.items.getD k default) = R := by
            rw [hst, if_neg]
            rintro ⟨a1, a2, a3⟩
            rw [hok, Bool.and_eq_true, decide_eq_true_eq] at a3
            obtain ⟨a4, a5⟩ := a3
            first
              | omega
              | exact absurd a5 (by assumption)
              | exact Bool.noConfusion (a4.symm.trans h)
          rw [hst'] at hsn
          by_cases hlast : k + 1 < m.items.length
          · refine ⟨(true, k + 1), [], ⟨Nat.le_of_lt hlast, ⟨fun _ => hlast, fun _ => rfl⟩⟩, by dsimp only; omega, ?_⟩
            dsimp only
            rw [hsn]
            (repeat' (first | exact PSub.rfl | exact rfl | exact PSubs.rfl | exact trivial | exact PSub.lit_sb rfl | refine And.intro ?_ ?_))
            all_goals (intro i hi; exact PSubs.rfl)
          · have hall : m.items.take (k + 1) = m.items := List.take_of_length_le (by omega)
            rw [hall] at hsn
            refine ⟨(false, k + 1), [], ⟨by dsimp only; omega, ⟨fun h => (by cases h), fun h => absurd h hlast⟩⟩, by dsimp only; omega, ?_⟩
            dsimp only
            rw [hsn]
            (repeat' (first | exact PSub.rfl | exact rfl | exact PSubs.rfl | exact trivial | exact PSub.lit_sb rfl | refine And.intro ?_ ?_))
        · have hst' : stepI H R (m.items.getD k default) = R := by
            rw [hst, if_neg]
            rintro ⟨a1, a2, a3⟩
            rw [hok, Bool.and_eq_true, decide_eq_true_eq] at a3
            obtain ⟨a4, a5⟩ := a3
            first
              | omega
              | exact absurd a5 (by assumption)
              | exact Bool.noConfusion (a4.symm.trans h)
          rw [hst'] at hsn
          by_cases hlast : k + 1 < m.items.length
          · refine ⟨(true, k + 1), [], ⟨Nat.le_of_lt hlast, ⟨fun _ => hlast, fun _ => rfl⟩⟩, by dsimp only; omega, ?_⟩
            dsimp only
            rw [hsn]
            (repeat' (first | exact PSub.rfl | exact rfl | exact PSubs.rfl | exact trivial | exact PSub.lit_sb rfl | refine And.intro ?_ ?_))
            all_goals (intro i hi; exact PSubs.rfl)
          · have hall : m.items.take (k + 1) = m.items := List.take_of_length_le (by omega)
            rw [hall] at hsn
            refine ⟨(false, k + 1), [], ⟨by dsimp only; omega, ⟨fun h => (by cases h), fun h => absurd h hlast⟩⟩, by dsimp only; omega, ?_⟩
            dsimp only
            rw [hsn]
            (repeat' (first | exact PSub.rfl | exact rfl | exact PSubs.rfl | exact trivial | exact PSub.lit_sb rfl | refine And.intro ?_ ?_))
        · exfalso; omega
      · rw [ixI, if_neg hlt] at c
        conv => whnf
        refine ⟨fun h => ?_, fun h => absurd (of_decide_eq_false h) (by omega)⟩
        conv => whnf
        refine And.intro (by dsimp only; omega) ?_
        conv => whnf
        rw [show (↑(true, k).snd : Int).toNat = k from rfl]
        repeat (any_goals (first
          | (refine ⟨fun (h : (_ : Bool) = true) => ?_, fun (h : (_ : Bool) = false) => ?_⟩ <;> (try simp only [decide_eq_true_eq, decide_eq_false_iff_not, Bool.not_eq_true', Bool.not_eq_false', Int.toNat_natCast, beq_iff_eq, decide_eq_decide, beq_eq_false_iff_ne, ne_eq, reduceCtorEq] at h) <;> (conv => whnf))
          | (refine .inl ⟨_, c, ?_⟩; conv => whnf)
          | (refine .inl ⟨_, ac_r22_Find H (m.items.getD k default).key hH, ?_⟩; conv => whnf)
          | (refine .inl ⟨_, ac_r20_Fits ((findA H (m.items.getD k default).key).getD noAttr) (m.items.getD k default).value (small_findA hH), ?_⟩; conv => whnf)
          | (refine And.intro (by (try simp only [Int.toNat_natCast]); omega) ?_; conv => whnf)
          | (refine And.intro (show (_ : Bool) = true from by kernel_rfl) ?_; conv => whnf)
          | (refine .inl ⟨wrap64 (by omega), ?_⟩; conv => whnf)))
        rotate_right
        · have hst' : stepI H R (m.items.getD k default) = R := by
            rw [hst, if_neg]
            rintro ⟨a1, a2, a3⟩
            rw [hok, Bool.and_eq_true, decide_eq_true_eq] at a3
            obtain ⟨a4, a5⟩ := a3
            first
              | omega
              | exact absurd a5 (by assumption)
              | exact Bool.noConfusion (a4.symm.trans h)
          rw [hst'] at hsn
          by_cases hlast : k + 1 < m.items.length
          · refine ⟨(true, k + 1), [], ⟨Nat.le_of_lt hlast, ⟨fun _ => hlast, fun _ => rfl⟩⟩, by dsimp only; omega, ?_⟩
            dsimp only
            rw [hsn]
            (repeat' (first | exact PSub.rfl | exact rfl | exact PSubs.rfl | exact trivial | exact PSub.lit_sb rfl | refine And.intro ?_ ?_))
            all_goals (intro i hi; exact PSubs.rfl)
          · have hall : m.items.take (k + 1) = m.items := List.take_of_length_le (by omega)
            rw [hall] at hsn
            refine ⟨(false, k + 1), [], ⟨by dsimp only; omega, ⟨fun h => (by cases h), fun h => absurd h hlast⟩⟩, by dsimp only; omega, ?_⟩
            dsimp only
            rw [hsn]
            (repeat' (first | exact PSub.rfl | exact rfl | exact PSubs.rfl | exact trivial | exact PSub.lit_sb rfl | refine And.intro ?_ ?_))
        all_goals (exfalso; omega)
    | false =>
      have hk : k = m.items.length := by
        rcases Nat.lt_or_ge k m.items.length with h | h
        · have := hb.2 h; cases this
        · omega
      subst hk
      conv => whnf
      refine ⟨fun h => absurd (of_decide_eq_true h) (by omega), fun h => ?_⟩
      conv => whnf
      repeat (any_goals (first
        | (refine ⟨fun (h : (_ : Bool) = true) => ?_, fun (h : (_ : Bool) = false) => ?_⟩ <;> (try simp only [decide_eq_true_eq, decide_eq_false_iff_not, Bool.not_eq_true', Bool.not_eq_false', Int.toNat_natCast, beq_iff_eq, decide_eq_decide, beq_eq_false_iff_ne, ne_eq, reduceCtorEq] at h) <;> (conv => whnf))
        | (refine .inl ⟨_, ac_r22_Changed s.reported (repR H b.reported m.items) hs.1 hRs, ?_⟩; conv => whnf)
        | (refine And.intro (by (try simp only [Int.toNat_natCast]); omega) ?_; conv => whnf)
        | (refine And.intro (show (_ : Bool) = true from by kernel_rfl) ?_; conv => whnf)
        | (refine .inl ⟨wrap64 (by omega), ?_⟩; conv => whnf)))
      all_goals
        rw [f1, f2]
        refine ⟨?_, ?_⟩ <;> (conv => whnf)
        · exact PSub.agg ⟨.rfl, .rfl, PSub.int (by simp only [Int.max_def]; (repeat' split) <;> omega), .rfl, PSub.of_eq (show roL 7 cItem s.desired = roL 7 cItem b.desired by rw [hbd, base_des]), .rfl, .rfl, .rfl, .rfl, trivial⟩
        · exact .rfl
  · have hmine : mineB s m = true := mine_iff.2 ⟨by assumption, by assumption, by omega⟩
    obtain ⟨f1, f2⟩ := hfin hmine
    have hbe : b = s := by rw [hbd, baseS, if_neg h]
    obtain ⟨rid, hrid⟩ : ∃ r : Nat, r = 700001 := ⟨_, rfl⟩
    refine loop_k (ι := Bool × Nat) [3, 4, 5, 6, 8] [3, 4, 5, 6] (fun x => x.2 ≤ m.items.length ∧ (x.1 = true ↔ x.2 < m.items.length)) (fun x => m.items.length - x.2) (decide (0 < m.items.length), 0) (fun x => [(9, .pv (vint x.2))])
      (fun x => match x.1 with
        | true => [(8, .box (mShd b (.own 500) (.own 700002))), (500, rowL 7 cItem (repR H b.reported (m.items.take x.2))), (700002, rowL 7 cItem s.desired)]
        | false => [(8, .pbox [vint b.dev, vint b.epoch, vint b.version, roL 7 cItem (repR H b.reported m.items), roL 7 cItem s.desired, vint b.want, vint b.done, vint b.sent, vint b.heard])]) (if 0 < m.items.length then [(500, rid)] else []) ⟨Nat.zero_le _, by simp⟩ ?_ (fun x hk => ?_)
    · by_cases hz : 0 < m.items.length
      · rw [show decide (0 < m.items.length) = true from decide_eq_true hz, if_pos hz, hbe, hrid]
        dsimp only
        (repeat' (first | exact PSub.rfl | exact rfl | exact PSubs.rfl | exact trivial | exact PSub.lit_sb rfl | refine And.intro ?_ ?_))
        all_goals first | (intro i hi; exact PSubs.rfl) | trace_state
      · have hz2 : m.items = [] := List.eq_nil_of_length_eq_zero (by omega)
        rw [show decide (0 < m.items.length) = false from decide_eq_false hz, if_neg hz, hz2, hbe]
        dsimp only
        (repeat' (first | exact PSub.rfl | exact rfl | exact PSubs.rfl | exact trivial | exact PSub.lit_sb rfl | refine And.intro ?_ ?_))
        all_goals trace_state
    obtain ⟨d, k⟩ := x
    obtain ⟨hkn, hb⟩ := hk
    dsimp only at hkn hb
    cases d with
    | true =>
      have hk : k < m.items.length := hb.1 rfl
      have hsn := repR_snoc H b.reported hk
      generalize hR : repR H b.reported (m.items.take k) = R at *
      have hRl : R.length ≤ 1048576 := by rw [← hR, repR_length]; exact hbl
      have c := ac_r25_place R (m.items.getD k default).key hRl
      have hok := okI_eq H (m.items.getD k default)
      have hst : stepI H R (m.items.getD k default) = if itemAt R (m.items.getD k default).key < R.length ∧ (R.getD (itemAt R (m.items.getD k default).key) default).version < (m.items.getD k default).version ∧ okI H (m.items.getD k default) = true then R.set (itemAt R (m.items.getD k default).key) (m.items.getD k default) else R := rfl
      by_cases hlt : itemAt R (m.items.getD k default).key < R.length
      · rw [ixI, if_pos hlt] at c
        generalize itemAt R (m.items.getD k default).key = i at *
        conv => whnf
        refine ⟨fun h => ?_, fun h => absurd (of_decide_eq_false h) (by omega)⟩
        conv => whnf
        refine And.intro (by dsimp only; omega) ?_
        conv => whnf
        rw [show (↑(true, k).snd : Int).toNat = k from rfl]
        repeat (any_goals (first
          | (refine ⟨fun (h : (_ : Bool) = true) => ?_, fun (h : (_ : Bool) = false) => ?_⟩ <;> (try simp only [decide_eq_true_eq, decide_eq_false_iff_not, Bool.not_eq_true', Bool.not_eq_false', Int.toNat_natCast, beq_iff_eq, decide_eq_decide, beq_eq_false_iff_ne, ne_eq, reduceCtorEq] at h) <;> (conv => whnf))
          | (refine .inl ⟨_, c, ?_⟩; conv => whnf)
          | (refine .inl ⟨_, ac_r22_Find H (m.items.getD k default).key hH, ?_⟩; conv => whnf)
          | (refine .inl ⟨_, ac_r20_Fits ((findA H (m.items.getD k default).key).getD noAttr) (m.items.getD k default).value (small_findA hH), ?_⟩; conv => whnf)
          | (refine And.intro (by (try simp only [Int.toNat_natCast]); omega) ?_; conv => whnf)
          | (refine And.intro (show (_ : Bool) = true from by kernel_rfl) ?_; conv => whnf)
          | (refine .inl ⟨wrap64 (by omega), ?_⟩; conv => whnf)))
        · have hst' : stepI H R (m.items.getD k default) = R.set i (m.items.getD k default) := by
            rw [hst, if_pos ⟨hlt, by omega, by rw [hok, Bool.and_eq_true, decide_eq_true_eq]; exact ⟨by assumption, by assumption⟩⟩]
          rw [hst'] at hsn
          have hrow : ∀ q, q < (R.set i (m.items.getD k default)).length → PSubs (updAt (fun q => cItem (R.getD q default)) i 0 (cItem (m.items.getD k default)) q) (cItem ((R.set i (m.items.getD k default)).getD q default)) :=
            rows_set (fun j hj e => by rw [updAt_ne e]; exact PSubs.rfl) (fun hi => by rw [updAt_same]; exact PSubs.rfl)
          by_cases hlast : k + 1 < m.items.length
          · refine ⟨(true, k + 1), [], ⟨Nat.le_of_lt hlast, ⟨fun _ => hlast, fun _ => rfl⟩⟩, by dsimp only; omega, ?_⟩
            dsimp only
            rw [hsn]
            (repeat' (first | exact PSub.rfl | exact rfl | exact PSubs.rfl | exact trivial | exact PSub.lit_sb rfl | refine And.intro ?_ ?_))
            all_goals first | exact hrow | (intro i hi; exact PSubs.rfl) | exact List.length_set | exact List.length_set.symm | trace_state
          · have hall : m.items.take (k + 1) = m.items := List.take_of_length_le (by omega)
            rw [hall] at hsn
            refine ⟨(false, k + 1), [], ⟨by dsimp only; omega, ⟨fun h => (by cases h), fun h => absurd h hlast⟩⟩, by dsimp only; omega, ?_⟩
            dsimp only
            rw [hsn]
            (repeat' (first | exact PSub.rfl | exact rfl | exact PSubs.rfl | exact trivial | exact PSub.lit_sb rfl | refine And.intro ?_ ?_))
            all_goals first | exact PSub.ro List.length_set.symm (fun q hq => hrow q (by rw [List.length_set]; exact hq)) | trace_state
        · have hst' : stepI H R (m.items.getD k default) = R := by
            rw [hst, if_neg]
            rintro ⟨a1, a2, a3⟩
            rw [hok, Bool.and_eq_true, decide_eq_true_eq] at a3
            obtain ⟨a4, a5⟩ := a3
            first
              | omega
              | exact absurd a5 (by assumption)
              | exact Bool.noConfusion (a4.symm.trans h)
          rw [hst'] at hsn
          by_cases hlast : k + 1 < m.items.length
          · refine ⟨(true, k + 1), [], ⟨Nat.le_of_lt hlast, ⟨fun _ => hlast, fun _ => rfl⟩⟩, by dsimp only; omega, ?_⟩
            dsimp only
            rw [hsn]
            (repeat' (first | exact PSub.rfl | exact rfl | exact PSubs.rfl | exact trivial | exact PSub.lit_sb rfl | refine And.intro ?_ ?_))
            all_goals (intro i hi; exact PSubs.rfl)
          · have hall : m.items.take (k + 1) = m.items := List.take_of_length_le (by omega)
            rw [hall] at hsn
            refine ⟨(false, k + 1), [], ⟨by dsimp only; omega, ⟨fun h => (by cases h), fun h => absurd h hlast⟩⟩, by dsimp only; omega, ?_⟩
            dsimp only
            rw [hsn]
            (repeat' (first | exact PSub.rfl | exact rfl | exact PSubs.rfl | exact trivial | exact PSub.lit_sb rfl | refine And.intro ?_ ?_))
        · have hst' : stepI H R (m.items.getD k default) = R := by
            rw [hst, if_neg]
            rintro ⟨a1, a2, a3⟩
            rw [hok, Bool.and_eq_true, decide_eq_true_eq] at a3
            obtain ⟨a4, a5⟩ := a3
            first
              | omega
              | exact absurd a5 (by assumption)
              | exact Bool.noConfusion (a4.symm.trans h)
          rw [hst'] at hsn
          by_cases hlast : k + 1 < m.items.length
          · refine ⟨(true, k + 1), [], ⟨Nat.le_of_lt hlast, ⟨fun _ => hlast, fun _ => rfl⟩⟩, by dsimp only; omega, ?_⟩
            dsimp only
            rw [hsn]
            (repeat' (first | exact PSub.rfl | exact rfl | exact PSubs.rfl | exact trivial | exact PSub.lit_sb rfl | refine And.intro ?_ ?_))
            all_goals (intro i hi; exact PSubs.rfl)
          · have hall : m.items.take (k + 1) = m.items := List.take_of_length_le (by omega)
            rw [hall] at hsn
            refine ⟨(false, k + 1), [], ⟨by dsimp only; omega, ⟨fun h => (by cases h), fun h => absurd h hlast⟩⟩, by dsimp only; omega, ?_⟩
            dsimp only
            rw [hsn]
            (repeat' (first | exact PSub.rfl | exact rfl | exact PSubs.rfl | exact trivial | exact PSub.lit_sb rfl | refine And.intro ?_ ?_))
        · have hst' : stepI H R (m.items.getD k default) = R := by
            rw [hst, if_neg]
            rintro ⟨a1, a2, a3⟩
            rw [hok, Bool.and_eq_true, decide_eq_true_eq] at a3
            obtain ⟨a4, a5⟩ := a3
            first
              | omega
              | exact absurd a5 (by assumption)
              | exact Bool.noConfusion (a4.symm.trans h)
          rw [hst'] at hsn
          by_cases hlast : k + 1 < m.items.length
          · refine ⟨(true, k + 1), [], ⟨Nat.le_of_lt hlast, ⟨fun _ => hlast, fun _ => rfl⟩⟩, by dsimp only; omega, ?_⟩
            dsimp only
            rw [hsn]
            (repeat' (first | exact PSub.rfl | exact rfl | exact PSubs.rfl | exact trivial | exact PSub.lit_sb rfl | refine And.intro ?_ ?_))
            all_goals (intro i hi; exact PSubs.rfl)
          · have hall : m.items.take (k + 1) = m.items := List.take_of_length_le (by omega)
            rw [hall] at hsn
            refine ⟨(false, k + 1), [], ⟨by dsimp only; omega, ⟨fun h => (by cases h), fun h => absurd h hlast⟩⟩, by dsimp only; omega, ?_⟩
            dsimp only
            rw [hsn]
            (repeat' (first | exact PSub.rfl | exact rfl | exact PSubs.rfl | exact trivial | exact PSub.lit_sb rfl | refine And.intro ?_ ?_))
        · exfalso; omega
      · rw [ixI, if_neg hlt] at c
        conv => whnf
        refine ⟨fun h => ?_, fun h => absurd (of_decide_eq_false h) (by omega)⟩
        conv => whnf
        refine And.intro (by dsimp only; omega) ?_
        conv => whnf
        rw [show (↑(true, k).snd : Int).toNat = k from rfl]
        repeat (any_goals (first
          | (refine ⟨fun (h : (_ : Bool) = true) => ?_, fun (h : (_ : Bool) = false) => ?_⟩ <;> (try simp only [decide_eq_true_eq, decide_eq_false_iff_not, Bool.not_eq_true', Bool.not_eq_false', Int.toNat_natCast, beq_iff_eq, decide_eq_decide, beq_eq_false_iff_ne, ne_eq, reduceCtorEq] at h) <;> (conv => whnf))
          | (refine .inl ⟨_, c, ?_⟩; conv => whnf)
          | (refine .inl ⟨_, ac_r22_Find H (m.items.getD k default).key hH, ?_⟩; conv => whnf)
          | (refine .inl ⟨_, ac_r20_Fits ((findA H (m.items.getD k default).key).getD noAttr) (m.items.getD k default).value (small_findA hH), ?_⟩; conv => whnf)
          | (refine And.intro (by (try simp only [Int.toNat_natCast]); omega) ?_; conv => whnf)
          | (refine And.intro (show (_ : Bool) = true from by kernel_rfl) ?_; conv => whnf)
          | (refine .inl ⟨wrap64 (by omega), ?_⟩; conv => whnf)))
        rotate_right
        · have hst' : stepI H R (m.items.getD k default) = R := by
            rw [hst, if_neg]
            rintro ⟨a1, a2, a3⟩
            rw [hok, Bool.and_eq_true, decide_eq_true_eq] at a3
            obtain ⟨a4, a5⟩ := a3
            first
              | omega
              | exact absurd a5 (by assumption)
              | exact Bool.noConfusion (a4.symm.trans h)
          rw [hst'] at hsn
          by_cases hlast : k + 1 < m.items.length
          · refine ⟨(true, k + 1), [], ⟨Nat.le_of_lt hlast, ⟨fun _ => hlast, fun _ => rfl⟩⟩, by dsimp only; omega, ?_⟩
            dsimp only
            rw [hsn]
            (repeat' (first | exact PSub.rfl | exact rfl | exact PSubs.rfl | exact trivial | exact PSub.lit_sb rfl | refine And.intro ?_ ?_))
            all_goals (intro i hi; exact PSubs.rfl)
          · have hall : m.items.take (k + 1) = m.items := List.take_of_length_le (by omega)
            rw [hall] at hsn
            refine ⟨(false, k + 1), [], ⟨by dsimp only; omega, ⟨fun h => (by cases h), fun h => absurd h hlast⟩⟩, by dsimp only; omega, ?_⟩
            dsimp only
            rw [hsn]
            (repeat' (first | exact PSub.rfl | exact rfl | exact PSubs.rfl | exact trivial | exact PSub.lit_sb rfl | refine And.intro ?_ ?_))
        all_goals (exfalso; omega)
    | false =>
      have hk : k = m.items.length := by
        rcases Nat.lt_or_ge k m.items.length with h | h
        · have := hb.2 h; cases this
        · omega
      subst hk
      conv => whnf
      refine ⟨fun h => absurd (of_decide_eq_true h) (by omega), fun h => ?_⟩
      conv => whnf
      repeat (any_goals (first
        | (refine ⟨fun (h : (_ : Bool) = true) => ?_, fun (h : (_ : Bool) = false) => ?_⟩ <;> (try simp only [decide_eq_true_eq, decide_eq_false_iff_not, Bool.not_eq_true', Bool.not_eq_false', Int.toNat_natCast, beq_iff_eq, decide_eq_decide, beq_eq_false_iff_ne, ne_eq, reduceCtorEq] at h) <;> (conv => whnf))
        | (refine .inl ⟨_, ac_r22_Changed s.reported (repR H b.reported m.items) hs.1 hRs, ?_⟩; conv => whnf)
        | (refine And.intro (by (try simp only [Int.toNat_natCast]); omega) ?_; conv => whnf)
        | (refine And.intro (show (_ : Bool) = true from by kernel_rfl) ?_; conv => whnf)
        | (refine .inl ⟨wrap64 (by omega), ?_⟩; conv => whnf)))
      all_goals
        rw [f1, f2]
        refine ⟨?_, ?_⟩ <;> (conv => whnf)
        · exact PSub.agg ⟨.rfl, .rfl, PSub.int (by simp only [Int.max_def]; (repeat' split) <;> omega), .rfl, PSub.of_eq (show roL 7 cItem s.desired = roL 7 cItem b.desired by rw [hbd, base_des]), .rfl, .rfl, .rfl, .rfl, trivial⟩
        · exact .rfl
end Go.Abs

namespace Go.Abs
open Go.Proofs
set_option maxRecDepth 10000
theorem ac_r01_Clamp_s (n lo hi : Int) : AC Tryz.prog 105 [.pv (vint n), .pv (vint lo), .pv (vint hi)] [] (.pv (vint (clampI n lo hi))) [] := by
  refine AC.of_awp (T := T) T_ok hm Tryz.call105 Tryz.func105 rfl rfl rfl ?_
  conv => whnf
  repeat (any_goals (first
    | (refine ⟨fun (h : (_ : Bool) = true) => ?_, fun (h : (_ : Bool) = false) => ?_⟩ <;> (try simp only [decide_eq_true_eq, decide_eq_false_iff_not, Bool.not_eq_true', Bool.not_eq_false', Int.toNat_natCast, beq_iff_eq, decide_eq_decide, beq_eq_false_iff_ne, ne_eq, reduceCtorEq] at h) <;> (conv => whnf))
    | (refine And.intro (by (try simp only [Int.toNat_natCast]); omega) ?_; conv => whnf)
    | (refine And.intro (show (_ : Bool) = true from by kernel_rfl) ?_; conv => whnf)
    | (refine .inl ⟨wrap64 (by omega), ?_⟩; conv => whnf)))
  all_goals first
    | contradiction
    | (exfalso; omega)
    | exact PSub.rfl
    | (refine PSub.lit_sb ?_; (first | (simp [clampI, *]; done) | (simp_all [clampI]; done) | ((try simp only [clampI]); (repeat' split) <;> (try simp only [Bool.false_eq, Bool.true_eq, Bool.and_eq_false_iff, decide_eq_false_iff_not, Bool.and_eq_true, decide_eq_true_eq, decide_eq_decide]) <;> first | rfl | omega | (simp_all; done) | (simp_all; omega))))
    | (refine PSub.sb ?_; (first | (simp [clampI, *]; done) | (simp_all [clampI]; done) | ((try simp only [clampI]); (repeat' split) <;> (try simp only [Bool.false_eq, Bool.true_eq, Bool.and_eq_false_iff, decide_eq_false_iff_not, Bool.and_eq_true, decide_eq_true_eq, decide_eq_decide]) <;> first | rfl | omega | (simp_all; done) | (simp_all; omega))))
    | (refine PSub.sb_lit ?_; (first | (simp [clampI, *]; done) | (simp_all [clampI]; done) | ((try simp only [clampI]); (repeat' split) <;> (try simp only [Bool.false_eq, Bool.true_eq, Bool.and_eq_false_iff, decide_eq_false_iff_not, Bool.and_eq_true, decide_eq_true_eq, decide_eq_decide]) <;> first | rfl | omega | (simp_all; done) | (simp_all; omega))))
    | (refine PSub.int ?_; (first | (simp [clampI, *]; done) | (simp_all [clampI]; done) | ((try simp only [clampI]); (repeat' split) <;> (try simp only [Bool.false_eq, Bool.true_eq, Bool.and_eq_false_iff, decide_eq_false_iff_not, Bool.and_eq_true, decide_eq_true_eq, decide_eq_decide]) <;> first | rfl | omega | (simp_all; done) | (simp_all; omega))))
    | skip
theorem take_sub2 {α : Type} [Inhabited α] {n k : Nat} {c : α → List PV} {l : List α} (h : k ≤ l.length) : PSub (.ro n k fun i => c (l.getD i default)) (roL n c (l.take k)) :=
  PSub.ro (by rw [List.length_take]; omega) fun i hi => by
    have : (l.take k).getD i default = l.getD i default := by simp [List.getD, List.getElem?_take, show i < k by omega]
    rw [this]; exact PSubs.rfl
theorem tick_clamp (n : Int) : clampI n 0 1099511627776 = tickI n := by
  unfold clampI tickI
  (repeat' split) <;> omega
theorem ac_r26_tick (n : Int) : AC Tryz.prog 62 [.pv (vint n)] [] (.pv (vint (tickI n))) [] := by
  refine AC.of_awp (T := T) T_ok hm Tryz.call62 Tryz.func62 rfl rfl rfl ?_
  conv => whnf
  repeat (any_goals (first
    | (refine ⟨fun (h : (_ : Bool) = true) => ?_, fun (h : (_ : Bool) = false) => ?_⟩ <;> (try simp only [decide_eq_true_eq, decide_eq_false_iff_not, Bool.not_eq_true', Bool.not_eq_false', Int.toNat_natCast, beq_iff_eq, decide_eq_decide, beq_eq_false_iff_ne, ne_eq, reduceCtorEq] at h) <;> (conv => whnf))
    | (refine .inl ⟨_, ac_r01_Clamp_s n 0 1099511627776, ?_⟩; conv => whnf)
    | (refine And.intro (by (try simp only [Int.toNat_natCast]); omega) ?_; conv => whnf)
    | (refine And.intro (show (_ : Bool) = true from by kernel_rfl) ?_; conv => whnf)
    | (refine .inl ⟨wrap64 (by omega), ?_⟩; conv => whnf)))
  exact PSub.int (tick_clamp n)
theorem ac_r26_due (sent now : Int) (hn : 0 ≤ now ∧ now ≤ 1099511627776) : AC Tryz.prog 61 [.pv (vint sent), .pv (vint now)] [] (.pv (vbool (dueB sent now))) [] := by
  refine AC.of_awp (T := T) T_ok hm Tryz.call61 Tryz.func61 rfl rfl rfl ?_
  conv => whnf
  repeat (any_goals (first
    | (refine ⟨fun (h : (_ : Bool) = true) => ?_, fun (h : (_ : Bool) = false) => ?_⟩ <;> (try simp only [decide_eq_true_eq, decide_eq_false_iff_not, Bool.not_eq_true', Bool.not_eq_false', Int.toNat_natCast, beq_iff_eq, decide_eq_decide, beq_eq_false_iff_ne, ne_eq, reduceCtorEq] at h) <;> (conv => whnf))
    | (refine And.intro (by (try simp only [Int.toNat_natCast]); omega) ?_; conv => whnf)
    | (refine And.intro (show (_ : Bool) = true from by kernel_rfl) ?_; conv => whnf)
    | (refine .inl ⟨wrap64 (by omega), ?_⟩; conv => whnf)))
  all_goals first
    | (refine PSub.lit_sb ?_; unfold dueB; rw [Bool.eq_iff_iff]; simp; omega)
    | (refine PSub.sb ?_; unfold dueB; rw [Bool.eq_iff_iff]; simp; omega)
    | trace_state
theorem ac_r26_older (x y : Item) : AC Tryz.prog 126 [.pv (.agg (cItem x)), .pv (.agg (cItem y))] [] (.pv (vbool (oldLt x y))) [] := by
  refine AC.of_awp (T := T) T_ok hm Tryz.call126 Tryz.func126 rfl rfl rfl ?_
  conv => whnf
  repeat (any_goals (first
    | (refine ⟨fun (h : (_ : Bool) = true) => ?_, fun (h : (_ : Bool) = false) => ?_⟩ <;> (try simp only [decide_eq_true_eq, decide_eq_false_iff_not, Bool.not_eq_true', Bool.not_eq_false', Int.toNat_natCast, beq_iff_eq, decide_eq_decide, beq_eq_false_iff_ne, ne_eq, reduceCtorEq] at h) <;> (conv => whnf))
    | (refine .inl ⟨_, ac_r22_Less x.key y.key, ?_⟩; conv => whnf)
    | (refine And.intro (by (try simp only [Int.toNat_natCast]); omega) ?_; conv => whnf)
    | (refine And.intro (show (_ : Bool) = true from by kernel_rfl) ?_; conv => whnf)
    | (refine .inl ⟨wrap64 (by omega), ?_⟩; conv => whnf)))
  all_goals first
    | (refine PSub.sb ?_; unfold oldLt; simp [*]; done)
    | (refine PSub.sb ?_; unfold oldLt; rw [Bool.eq_iff_iff]; simp [*]; done)
    | trace_state
theorem ac_r26_lower (x y : Item) : AC Tryz.prog 127 [.pv (.agg (cItem x)), .pv (.agg (cItem y))] [] (.pv (vbool (lowLt x y))) [] := by
  have hir := keyLess_irrefl x.key
  have hk := key_eq x.key y.key
  refine AC.of_awp (T := T) T_ok hm Tryz.call127 Tryz.func127 rfl rfl rfl ?_
  conv => whnf
  repeat (any_goals (first
    | (refine ⟨fun (h : (_ : Bool) = true) => ?_, fun (h : (_ : Bool) = false) => ?_⟩ <;> (try simp only [decide_eq_true_eq, decide_eq_false_iff_not, Bool.not_eq_true', Bool.not_eq_false', Int.toNat_natCast, beq_iff_eq, decide_eq_decide, beq_eq_false_iff_ne, ne_eq, reduceCtorEq] at h) <;> (conv => whnf))
    | (refine .inl ⟨_, ac_r22_Less x.key y.key, ?_⟩; conv => whnf)
    | (refine And.intro (by (try simp only [Int.toNat_natCast]); omega) ?_; conv => whnf)
    | (refine And.intro (show (_ : Bool) = true from by kernel_rfl) ?_; conv => whnf)
    | (refine .inl ⟨wrap64 (by omega), ?_⟩; conv => whnf)))
  · have e := of_decide_eq_false (hk.symm.trans h)
    refine PSub.sb ?_
    unfold lowLt
    rw [decide_eq_false e, Bool.false_and, Bool.or_false]
  · have e := of_decide_eq_true (hk.symm.trans h)
    refine PSub.sb ?_
    unfold lowLt
    rw [← e, hir, Bool.false_or, decide_eq_true rfl, Bool.true_and]
end Go.Abs
