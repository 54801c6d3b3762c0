/- YtefmohlfcnjmjaaGreatY00: walks and contracts. -/
import Derived.Test.YtefmohlfcnjmjaaGreatX07

set_option linter.unusedVariables false
set_option linter.unusedSimpArgs false
set_option linter.unusedSectionVars false

namespace Go.Abs
open Go.Proofs
set_option maxRecDepth 10000
theorem ac_r20_member (l : List ByteArray) (n : Nat) (x : ByteArray) (hl : n ≤ 1048576) : AC Tryz.prog 213 [.pv (.ro 1 n fun i => cstr (l.getD i default)), .pv (vstr x)] [] (.pv (vbool (memN l n x))) [] := by
  refine AC.of_awp (T := T) T_ok hm Tryz.call213 Tryz.func213 rfl rfl rfl ?_
  conv => whnf
  refine ⟨Nat, fun k => k ≤ n ∧ ∀ j, j < k → l.getD j default ≠ x, fun k => ⟨[(0, .pv (.ro 1 n fun i => cstr (l.getD i default))), (1, .pv (vstr x)), (5, .pv (vint k))], []⟩, fun k => n - k, 0, [], ⟨Nat.zero_le _, fun j h => absurd h (by omega)⟩, ⟨.rfl, .rfl, .rfl⟩, fun k hk => ?_⟩
  conv => whnf
  refine ⟨fun h => ?_, fun h => ?_⟩
  · simp only [decide_eq_true_eq] at h
    refine ⟨by omega, ?_⟩
    conv => whnf
    refine ⟨fun h2 => ?_, fun h2 => ?_⟩
    · conv => whnf
      simp only [decide_eq_true_eq] at h2
      exact PSub.lit_sb (memN_true (k := k) (by omega) (by simpa using h2)).symm
    · conv => whnf
      refine .inl ⟨wrap64 (by omega), ?_⟩
      conv => whnf
      simp only [decide_eq_false_iff_not] at h2
      refine ⟨k + 1, [], ⟨by omega, fun j hj => ?_⟩, by dsimp only; omega, .rfl, .rfl, .rfl⟩
      by_cases e : j = k
      · subst e; simpa using h2
      · exact hk.2 j (by omega)
  · conv => whnf
    simp only [decide_eq_false_iff_not] at h
    exact PSub.lit_sb (memN_false fun j hj => hk.2 j (by omega)).symm
theorem ac_r20_Def (a : Attr) (hl : a.enum.length ≤ 1048576) : AC Tryz.prog 192 [.pv (.agg (cAttr a))] [] (.pv (vint (defE a))) [] := by
  refine AC.of_awp (T := T) T_ok hm Tryz.call192 Tryz.func192 rfl rfl rfl ?_
  conv => whnf
  refine .inl ⟨_, ac_r04_Valid _, ?_⟩
  conv => whnf
  refine ⟨fun h => ?_, fun h => ?_⟩
  · conv => whnf
    simp only [Bool.not_eq_true'] at h
    exact PSub.int (by rw [defE, if_pos h])
  conv => whnf
  simp only [Bool.not_eq_false'] at h
  have h : ¬ validName a.name = false := by rw [h]; decide
  have hk : a.kind < 1 ∨ 4 < a.kind → PSub (ofConst (.int .i64 7)) (vint (defE a)) := fun hh => PSub.int (by rw [defE, if_neg h, if_pos hh])
  refine ⟨fun h2 => ?_, fun h2 => ?_⟩
  · conv => whnf
    simp only [decide_eq_true_eq] at h2
    exact hk (.inl h2)
  conv => whnf
  refine ⟨fun h3 => ?_, fun h3 => ?_⟩
  · conv => whnf
    simp only [decide_eq_true_eq] at h3
    exact hk (.inr h3)
  conv => whnf
  simp only [decide_eq_false_iff_not] at h2 h3
  have hk2 : ¬ (a.kind < 1 ∨ 4 < a.kind) := by omega
  have tail : ∀ (hq : ¬ (a.kind = 2 ∧ (inRange a.min = false ∨ inRange a.max = false ∨ a.max < a.min))) (hq2 : ¬ (a.kind ≠ 2 ∧ (a.min ≠ 0 ∨ a.max ≠ 0))), defE a = if a.kind = 3 then membersE a.enum else if 0 < a.enum.length then 4 else 0 := fun hq hq2 => by
    rw [defE, if_neg h, if_neg hk2, if_neg hq, if_neg hq2]
  have hin : ∀ n, inRange n = false ↔ ¬ (-1099511627776 ≤ n ∧ n ≤ 1099511627776) := fun n => by
    rw [← Bool.not_eq_true, inRange, Bool.and_eq_true, decide_eq_true_eq, decide_eq_true_eq]
  refine ⟨fun h4 => ?_, fun h4 => ?_⟩
  · conv => whnf
    simp only [decide_eq_true_eq] at h4
    have bad : (a.min < -1099511627776 ∨ 1099511627776 < a.max ∨ a.max < a.min) → PSub (ofConst (.int .i64 2)) (vint (defE a)) := fun hh => PSub.int (by rw [defE, if_neg h, if_neg hk2, if_pos ⟨h4, by rw [hin, hin]; omega⟩])
    refine ⟨fun h5 => ?_, fun h5 => ?_⟩
    · conv => whnf
      simp only [decide_eq_true_eq] at h5
      exact bad (.inl h5)
    conv => whnf
    refine ⟨fun h6 => ?_, fun h6 => ?_⟩
    · conv => whnf
      simp only [decide_eq_true_eq] at h6
      exact bad (.inr (.inl h6))
    conv => whnf
    refine ⟨fun h7 => ?_, fun h7 => ?_⟩
    · conv => whnf
      simp only [decide_eq_true_eq] at h7
      exact bad (.inr (.inr h7))
    conv => whnf
    simp only [decide_eq_false_iff_not] at h5 h6 h7
    have hd := tail (by rw [hin, hin]; omega) (by omega)
    rw [if_neg (by omega)] at hd
    rw [hd]
    refine ⟨fun h8 => ?_, fun h8 => ?_⟩
    · conv => whnf
      refine ⟨fun h9 => ?_, fun h9 => ?_⟩
      · conv => whnf
        simp only [decide_eq_true_eq] at h9
        exact PSub.int (by rw [if_pos (by omega)])
      · conv => whnf
        simp only [decide_eq_false_iff_not] at h9
        exact PSub.int (by rw [if_neg (by omega)])
    · simp only [Bool.not_eq_false', decide_eq_true_eq] at h8
      omega
  · conv => whnf
    simp only [decide_eq_false_iff_not] at h4
    have bad : (a.min ≠ 0 ∨ a.max ≠ 0) → PSub (ofConst (.int .i64 2)) (vint (defE a)) := fun hh => PSub.int (by rw [defE, if_neg h, if_neg hk2, if_neg (fun x => h4 x.1), if_pos ⟨h4, hh⟩])
    refine ⟨fun h5 => ?_, fun h5 => ?_⟩
    · conv => whnf
      simp only [Bool.not_eq_true', decide_eq_false_iff_not] at h5
      exact bad (.inl h5)
    conv => whnf
    refine ⟨fun h6 => ?_, fun h6 => ?_⟩
    · conv => whnf
      simp only [Bool.not_eq_true', decide_eq_false_iff_not] at h6
      exact bad (.inr h6)
    conv => whnf
    simp only [Bool.not_eq_false', decide_eq_true_eq] at h5 h6
    have hd := tail (fun x => h4 x.1) (by omega)
    rw [hd]
    refine ⟨fun h8 => ?_, fun h8 => ?_⟩
    · conv => whnf
      simp only [Bool.not_eq_true', decide_eq_false_iff_not] at h8
      rw [if_neg h8]
      refine ⟨fun h9 => ?_, fun h9 => ?_⟩
      · conv => whnf
        simp only [decide_eq_true_eq] at h9
        exact PSub.int (by rw [if_pos (by omega)])
      · conv => whnf
        simp only [decide_eq_false_iff_not] at h9
        exact PSub.int (by rw [if_neg (by omega)])
    conv => whnf
    simp only [Bool.not_eq_false', decide_eq_true_eq] at h8
    rw [if_pos h8]
    refine ⟨fun h => ?_, fun h => ?_⟩
    · conv => whnf
      simp only [decide_eq_true_eq] at h
      exact PSub.int (by rw [membersE, if_pos (by omega)])
    conv => whnf
    refine ⟨fun h9 => ?_, fun h9 => ?_⟩
    · conv => whnf
      simp only [decide_eq_true_eq] at h9
      exact PSub.int (by rw [membersE, if_pos (by omega)])
    conv => whnf
    simp only [decide_eq_false_iff_not] at h h9
    have e0 : membersE a.enum = firstE a.enum.length fun i => if validName (a.enum.getD i default) = false then 10 else if idxOf a.enum (a.enum.getD i default) < i then 9 else 0 := by rw [membersE, if_neg (by omega)]
    rw [e0]
    generalize hf : (fun i => if validName (a.enum.getD i default) = false then (10 : Int) else if idxOf a.enum (a.enum.getD i default) < (i : Int) then 9 else 0) = f
    have hfi : ∀ i, f i = if validName (a.enum.getD i default) = false then (10 : Int) else if idxOf a.enum (a.enum.getD i default) < (i : Int) then 9 else 0 := fun i => by rw [← hf]
    refine ⟨Nat, fun k => k ≤ a.enum.length ∧ ∀ j, j < k → f j = 0, fun k => ⟨[(1, .ptr 1 0), (3, .pv (vint k))], [(1, .pbox (cAttr a))]⟩, fun k => a.enum.length - k, 0, [], ⟨Nat.zero_le _, fun j h => absurd h (by omega)⟩, ⟨⟨PSubs.rfl, trivial⟩, rfl, .rfl⟩, fun k hk => ?_⟩
    conv => whnf
    refine ⟨fun h3 => ?_, fun h3 => ?_⟩
    · conv => whnf
      simp only [decide_eq_true_eq] at h3
      refine ⟨by omega, ?_⟩
      conv => whnf
      refine .inl ⟨_, ac_r04_Valid _, ?_⟩
      conv => whnf
      have hfk := hfi k
      refine ⟨fun h4 => ?_, fun h4 => ?_⟩
      · conv => whnf
        simp only [Bool.not_eq_true', Int.toNat_natCast] at h4
        rw [if_pos h4] at hfk
        exact PSub.int (by rw [firstE_at (k := k) (by omega) (by rw [hfk]; decide) hk.2, hfk])
      · conv => whnf
        simp only [Bool.not_eq_false', Int.toNat_natCast] at h4
        rw [if_neg (by rw [h4]; decide)] at hfk
        refine ⟨by kernel_rfl, ?_⟩
        conv => whnf
        refine ⟨by omega, ?_⟩
        conv => whnf
        refine ⟨by omega, ?_⟩
        conv => whnf
        refine .inl ⟨_, ac_r20_member a.enum k _ (by omega), ?_⟩
        conv => whnf
        refine ⟨by kernel_rfl, ?_⟩
        conv => whnf
        refine ⟨fun h5 => ?_, fun h5 => ?_⟩
        · conv => whnf
          rw [if_pos ((idxOf_lt (by omega)).2 h5)] at hfk
          exact PSub.int (by rw [firstE_at (k := k) (by omega) (by rw [hfk]; decide) hk.2, hfk])
        · conv => whnf
          simp only [Int.toNat_natCast] at h5
          rw [if_neg (fun x => by rw [(idxOf_lt (by omega)).1 x] at h5; cases h5)] at hfk
          refine .inl ⟨wrap64 (by omega), ?_⟩
          conv => whnf
          refine ⟨k + 1, [], ⟨by omega, fun j hj => ?_⟩, by dsimp only; omega, ⟨PSubs.rfl, trivial⟩, rfl, .rfl⟩
          by_cases e : j = k
          · subst e; exact hfk
          · exact hk.2 j (by omega)
    · conv => whnf
      simp only [decide_eq_false_iff_not] at h3
      exact PSub.int (by rw [firstE_none fun j hj => hk.2 j (by omega)])
end Go.Abs

namespace Go.Abs
open Go.Proofs
set_option maxRecDepth 10000
theorem ac_r20_Fits (a : Attr) (v : Val) (hl : a.enum.length ≤ 1048576) : AC Tryz.prog 151 [.pv (.agg (cAttr a)), .pv (.agg (cVal v))] [] (.pv (vint (fitsE a v))) [] := by
  refine AC.of_awp (T := T) T_ok hm Tryz.call151 Tryz.func151 rfl rfl rfl ?_
  conv => whnf
  iterate 14 (all_goals first | (refine ⟨fun h => ?_, fun h => ?_⟩ <;> (conv => whnf)) | (refine .inl ⟨_, ac_r20_Def a hl, ?_⟩; conv => whnf) | (refine .inl ⟨_, ac_r20_Check v, ?_⟩; conv => whnf) | skip)
  all_goals simp only [decide_eq_true_eq, decide_eq_false_iff_not, Bool.not_eq_true', Bool.not_eq_false'] at *
  all_goals first
    | contradiction
    | exact PSub.int (by simp only [fitsE]; (repeat' split) <;> first | rfl | omega | (simp_all; done) | (simp_all; omega))
    | trace_state
end Go.Abs

namespace Go.Abs
open Go.Proofs
set_option maxRecDepth 10000
def placeI (l : List Attr) (s : ByteArray) : Int := if attrAt l s < l.length then (attrAt l s : Int) else -1
theorem ac_r21_Place (c : Clu) (s : ByteArray) (hc : smallK c) : AC Tryz.prog 193 [.pv (.agg (cClu c)), .pv (vstr s)] [] (.pv (vint (placeI c.attrs s))) [] := by
  have hl : c.attrs.length ≤ 1048576 := hc.1
  refine AC.of_awp (T := T) T_ok hm Tryz.call193 Tryz.func193 rfl rfl rfl ?_
  conv => whnf
  refine ⟨Nat, fun k => k ≤ c.attrs.length ∧ ∀ j, j < k → decide ((c.attrs.getD j default).name = s) = false, fun k => ⟨[(1, .pv (vstr s)), (2, .ptr 2 0), (8, .pv (vint c.attrs.length)), (9, .pv (vint k))], [(2, .pbox (cClu c))]⟩, fun k => c.attrs.length - k, 0, [], ⟨Nat.zero_le _, fun j h => absurd h (by omega)⟩, ⟨⟨PSubs.rfl, trivial⟩, .rfl, rfl, .rfl, .rfl⟩, fun k hk => ?_⟩
  conv => whnf
  refine ⟨fun h => ?_, fun h => ?_⟩
  · simp only [decide_eq_true_eq] at h
    conv => whnf
    refine ⟨by omega, ?_⟩
    conv => whnf
    refine ⟨fun h2 => ?_, fun h2 => ?_⟩
    · conv => whnf
      have ea : attrAt c.attrs s = k := firstI_at (by omega) h2 hk.2
      exact PSub.int (by rw [placeI, ea, if_pos (by omega)])
    · conv => whnf
      refine .inl ⟨wrap64 (by omega), ?_⟩
      conv => whnf
      refine ⟨k + 1, [], ⟨by omega, fun j hj => ?_⟩, by dsimp only; omega, ⟨PSubs.rfl, trivial⟩, .rfl, rfl, .rfl, .rfl⟩
      by_cases e : j = k
      · subst e; exact h2
      · exact hk.2 j (by omega)
  · conv => whnf
    simp only [decide_eq_false_iff_not] at h
    have ea : attrAt c.attrs s = c.attrs.length := firstI_none fun j hj => hk.2 j (by omega)
    exact PSub.int (by rw [placeI, ea, if_neg (by omega)])
theorem ac_r21_Attr (c : Clu) (s : ByteArray) (hc : smallK c) : AC Tryz.prog 198 [.pv (.agg (cClu c)), .pv (vstr s)] [] (.pv (.tup [.agg (cAttr (attrOf c.attrs s)), vbool (decide (attrAt c.attrs s < c.attrs.length))])) [] := by
  refine AC.of_awp (T := T) T_ok hm Tryz.call198 Tryz.func198 rfl rfl rfl ?_
  conv => whnf
  refine .inl ⟨_, ac_r21_Place c s hc, ?_⟩
  conv => whnf
  have hp : placeI c.attrs s < 0 ↔ ¬ attrAt c.attrs s < c.attrs.length := by unfold placeI; split <;> omega
  refine ⟨fun h => ?_, fun h => ?_⟩
  · conv => whnf
    simp only [decide_eq_true_eq] at h
    have h := hp.1 h
    refine ⟨?_, ?_⟩
    · conv => whnf
      rw [attrOf, if_neg h]
      exact PSub.agg ⟨.rfl, .rfl, .rfl, .rfl, PSub.nil_ro _ _, PSub.lit_sb rfl, PSub.lit_sb rfl, trivial⟩
    · conv => whnf
      exact PSub.lit_sb (by simp [h])
  · simp only [decide_eq_false_iff_not] at h
    have h : attrAt c.attrs s < c.attrs.length := Classical.not_not.1 fun x => h (hp.2 x)
    have e : placeI c.attrs s = (attrAt c.attrs s : Int) := by rw [placeI, if_pos h]
    rw [e]
    conv => whnf
    refine ⟨by omega, ?_⟩
    conv => whnf
    refine ⟨?_, ?_⟩
    · conv => whnf
      exact PSub.of_eq (by rw [attrOf, if_pos h]; rfl)
    · conv => whnf
      exact PSub.lit_sb (by simp [h])
theorem ac_r21_TooMany (c : Clu) (hc : smallK c) : AC Tryz.prog 191 [.pv (.agg (cClu c))] [] (.pv (vbool (wideB c))) [] := by
  have hl : c.commands.length ≤ 1048576 := hc.2.2.1
  refine AC.of_awp (T := T) T_ok hm Tryz.call191 Tryz.func191 rfl rfl rfl ?_
  conv => whnf
  refine ⟨fun h => ?_, fun h => ?_⟩
  · conv => whnf
    simp only [decide_eq_true_eq] at h
    exact PSub.lit_sb (by simp [wideB, show 12 < c.attrs.length from by omega])
  conv => whnf
  refine ⟨fun h1 => ?_, fun h1 => ?_⟩
  · conv => whnf
    simp only [decide_eq_true_eq] at h1
    exact PSub.lit_sb (by simp [wideB, show 12 < c.commands.length from by omega])
  conv => whnf
  refine ⟨fun h2 => ?_, fun h2 => ?_⟩
  · conv => whnf
    simp only [decide_eq_true_eq] at h2
    exact PSub.lit_sb (by simp [wideB, show 12 < c.events.length from by omega])
  conv => whnf
  simp only [decide_eq_false_iff_not] at h h1 h2
  have e0 : wideB c = manyE c.commands := by simp [wideB, show ¬ 12 < c.attrs.length from by omega, show ¬ 12 < c.commands.length from by omega, show ¬ 12 < c.events.length from by omega]
  rw [e0]
  refine ⟨Nat, fun k => k ≤ c.commands.length ∧ ∀ j, j < k → ¬ 12 < (c.commands.getD j default).effects.length, fun k => ⟨[(1, .ptr 1 0), (22, .pv (vint c.commands.length)), (23, .pv (vint k))], [(1, .pbox (cClu c))]⟩, fun k => c.commands.length - k, 0, [], ⟨Nat.zero_le _, fun j h => absurd h (by omega)⟩, ⟨⟨PSubs.rfl, trivial⟩, rfl, .rfl, .rfl⟩, fun k hk => ?_⟩
  conv => whnf
  refine ⟨fun h => ?_, fun h => ?_⟩
  · simp only [decide_eq_true_eq] at h
    conv => whnf
    refine ⟨by omega, ?_⟩
    conv => whnf
    refine ⟨fun h2 => ?_, fun h2 => ?_⟩
    · conv => whnf
      simp only [decide_eq_true_eq, Int.toNat_natCast] at h2
      exact PSub.lit_sb (manyE_true (k := k) (by omega) (by omega)).symm
    · conv => whnf
      simp only [decide_eq_false_iff_not, Int.toNat_natCast] at h2
      refine .inl ⟨wrap64 (by omega), ?_⟩
      conv => whnf
      refine ⟨k + 1, [], ⟨by omega, fun j hj => ?_⟩, by dsimp only; omega, ⟨PSubs.rfl, trivial⟩, rfl, .rfl, .rfl⟩
      by_cases e : j = k
      · subst e; omega
      · exact hk.2 j (by omega)
  · conv => whnf
    simp only [decide_eq_false_iff_not] at h
    exact PSub.lit_sb (manyE_false fun j hj => hk.2 j (by omega)).symm
end Go.Abs

namespace Go.Abs
open Go.Proofs
set_option maxRecDepth 10000
theorem ac_r21_SameNames (a b : List ByteArray) (ha : a.length ≤ 1048576) : AC Tryz.prog 223 [.pv (roL 1 cstr a), .pv (roL 1 cstr b)] [] (.pv (vbool (decide (a = b)))) [] := by
  refine AC.of_awp (T := T) T_ok hm Tryz.call223 Tryz.func223 rfl rfl rfl ?_
  conv => whnf
  refine ⟨fun h => ?_, fun h => ?_⟩
  · conv => whnf
    simp only [Bool.not_eq_true', decide_eq_false_iff_not] at h
    exact PSub.lit_sb (by symm; simp only [decide_eq_false_iff_not]; intro e; exact h (by rw [e]))
  conv => whnf
  simp only [Bool.not_eq_false', decide_eq_true_eq] at h
  refine ⟨Nat, fun k => k ≤ a.length ∧ ∀ j, j < k → a.getD j default = b.getD j default, fun k => ⟨[(0, .pv (roL 1 cstr a)), (1, .pv (roL 1 cstr b)), (12, .pv (vint a.length)), (13, .pv (vint k))], []⟩, fun k => a.length - k, 0, [], ⟨Nat.zero_le _, fun j h => absurd h (by omega)⟩, ⟨.rfl, .rfl, .rfl, .rfl⟩, fun k hk => ?_⟩
  conv => whnf
  refine ⟨fun h2 => ?_, fun h2 => ?_⟩
  · simp only [decide_eq_true_eq] at h2
    conv => whnf
    refine ⟨by kernel_rfl, ?_⟩
    conv => whnf
    refine ⟨by omega, ?_⟩
    conv => whnf
    refine ⟨by omega, ?_⟩
    conv => whnf
    refine ⟨by kernel_rfl, ?_⟩
    conv => whnf
    refine ⟨fun h3 => ?_, fun h3 => ?_⟩
    · conv => whnf
      simp only [Bool.not_eq_true', decide_eq_false_iff_not] at h3
      exact PSub.lit_sb (by symm; simp only [decide_eq_false_iff_not]; intro e; exact h3 (by rw [e]))
    · conv => whnf
      simp only [Bool.not_eq_false', decide_eq_true_eq, Int.toNat_natCast] at h3
      refine .inl ⟨wrap64 (by omega), ?_⟩
      conv => whnf
      refine ⟨k + 1, [], ⟨by omega, fun j hj => ?_⟩, by dsimp only; omega, .rfl, .rfl, .rfl, .rfl⟩
      by_cases e : j = k
      · subst e; exact h3
      · exact hk.2 j (by omega)
  · conv => whnf
    simp only [decide_eq_false_iff_not] at h2
    exact PSub.lit_sb (by symm; simp only [decide_eq_true_eq]; exact list_eq (by omega) fun i hi => hk.2 i (by omega))
end Go.Abs

namespace Go.Abs
open Go.Proofs
set_option maxRecDepth 10000
theorem ac_r21_Suits (x : Eff) (a p : Attr) (ha : smallA a) (hp : smallA p) : AC Tryz.prog 224 [.pv (.agg (cEff x)), .pv (.agg (cAttr a)), .pv (.agg (cAttr p))] [] (.pv (vbool (suitsB x a p))) [] := by
  have e0 : alikeB a p = (decide (p.kind = a.kind) && decide (p.enum = a.enum)) := by simp only [alikeB]; congr 1 <;> (rw [Bool.eq_iff_iff]; simp only [decide_eq_true_eq]; exact ⟨fun h => h.symm, fun h => h.symm⟩)
  refine AC.of_awp (T := T) T_ok hm Tryz.call224 Tryz.func224 rfl rfl rfl ?_
  conv => whnf
  repeat (any_goals (first
    | (refine ⟨fun (h : (_ : Bool) = true) => ?_, fun (h : (_ : Bool) = false) => ?_⟩ <;> (try simp only [decide_eq_true_eq, decide_eq_false_iff_not, Bool.not_eq_true', Bool.not_eq_false', Int.toNat_natCast, beq_iff_eq, decide_eq_decide, beq_eq_false_iff_ne, ne_eq, reduceCtorEq] at h) <;> (conv => whnf))
    | (refine .inl ⟨_, ac_r20_Fits a ⟨a.kind, x.n, ⟨#[]⟩⟩ ha, ?_⟩; conv => whnf)
    | (refine .inl ⟨_, ac_r21_SameNames p.enum a.enum hp, ?_⟩; conv => whnf)
    | (refine And.intro (by (try simp only [Int.toNat_natCast]); omega) ?_; conv => whnf)
    | (refine And.intro (show (_ : Bool) = true from by kernel_rfl) ?_; conv => whnf)
    | (refine .inl ⟨wrap64 (by omega), ?_⟩; conv => whnf)))
  all_goals (try simp only [decide_eq_true_eq, decide_eq_false_iff_not, Bool.not_eq_true', Bool.not_eq_false', Int.toNat_natCast, beq_iff_eq, decide_eq_decide, beq_eq_false_iff_ne, ne_eq, reduceCtorEq] at *)
  all_goals first
    | contradiction
    | (exfalso; omega)
    | exact PSub.rfl
    | (refine PSub.int ?_; simp only [suitsB, e0]; (repeat' split) <;> first | rfl | omega | (simp_all [-List.getD_eq_getElem?_getD]; done) | (simp_all [-List.getD_eq_getElem?_getD]; omega))
    | (refine PSub.sb ?_; simp_all [suitsB, e0, -List.getD_eq_getElem?_getD]; done)
    | (refine PSub.lit_sb ?_; simp_all [suitsB, e0, -List.getD_eq_getElem?_getD]; done)
    | (refine PSub.sb_lit ?_; simp_all [suitsB, e0, -List.getD_eq_getElem?_getD]; done)
    | (refine PSub.sb ?_; rw [Bool.eq_iff_iff]; simp_all [suitsB, e0, -List.getD_eq_getElem?_getD]; done)
    | (refine PSub.lit_sb ?_; rw [Bool.eq_iff_iff]; simp_all [suitsB, e0, -List.getD_eq_getElem?_getD]; done)
    | (refine PSub.sb_lit ?_; rw [Bool.eq_iff_iff]; simp_all [suitsB, e0, -List.getD_eq_getElem?_getD]; done)
    | skip
theorem satI_ne {n : Int} : satI n ≠ n ↔ (n < -1099511627776 ∨ 1099511627776 < n) := by unfold satI; omega
theorem ac_r21_Effect (c : Clu) (p : Attr) (x : Eff) (hc : smallK c) (hp : smallA p) : AC Tryz.prog 215 [.pv (.agg (cClu c)), .pv (.agg (cAttr p)), .pv (.agg (cEff x))] [] (.pv (vint (effE c p x))) [] := by
  have e := @satI_ne x.n
  refine AC.of_awp (T := T) T_ok hm Tryz.call215 Tryz.func215 rfl rfl rfl ?_
  conv => whnf
  repeat (any_goals (first
    | (refine ⟨fun (h : (_ : Bool) = true) => ?_, fun (h : (_ : Bool) = false) => ?_⟩ <;> (try simp only [decide_eq_true_eq, decide_eq_false_iff_not, Bool.not_eq_true', Bool.not_eq_false', Int.toNat_natCast, beq_iff_eq, decide_eq_decide, beq_eq_false_iff_ne, ne_eq, reduceCtorEq] at h) <;> (conv => whnf))
    | (refine .inl ⟨_, ac_r21_Attr c x.attr hc, ?_⟩; conv => whnf)
    | (refine .inl ⟨_, ac_r21_Suits x (attrOf c.attrs x.attr) p (small_attrOf hc) hp, ?_⟩; conv => whnf)
    | (refine And.intro (by (try simp only [Int.toNat_natCast]); omega) ?_; conv => whnf)
    | (refine And.intro (show (_ : Bool) = true from by kernel_rfl) ?_; conv => whnf)
    | (refine .inl ⟨wrap64 (by omega), ?_⟩; conv => whnf)))
  all_goals rw [effE]
  all_goals (try simp only [decide_eq_true_eq, decide_eq_false_iff_not, Bool.not_eq_true', Bool.not_eq_false', Int.toNat_natCast, beq_iff_eq, decide_eq_decide, beq_eq_false_iff_ne, ne_eq, reduceCtorEq] at *)
  all_goals first
    | contradiction
    | (exfalso; omega)
    | exact PSub.rfl
    | (refine PSub.int ?_; simp only [e]; (repeat' split) <;> first | rfl | omega | (simp_all [-List.getD_eq_getElem?_getD]; done) | (simp_all [-List.getD_eq_getElem?_getD]; omega))
    | (refine PSub.sb ?_; simp_all [e, -List.getD_eq_getElem?_getD]; done)
    | (refine PSub.lit_sb ?_; simp_all [e, -List.getD_eq_getElem?_getD]; done)
    | (refine PSub.sb_lit ?_; simp_all [e, -List.getD_eq_getElem?_getD]; done)
    | (refine PSub.sb ?_; rw [Bool.eq_iff_iff]; simp_all [e, -List.getD_eq_getElem?_getD]; done)
    | (refine PSub.lit_sb ?_; rw [Bool.eq_iff_iff]; simp_all [e, -List.getD_eq_getElem?_getD]; done)
    | (refine PSub.sb_lit ?_; rw [Bool.eq_iff_iff]; simp_all [e, -List.getD_eq_getElem?_getD]; done)
    | skip
theorem ac_r21_SameAttr (a : Attr) (ha : smallA a) : AC Tryz.prog 214 [.pv (.agg (cAttr a)), .pv (.agg (cAttr noAttr))] [] (.pv (vbool (zeroA a))) [] := by
  refine AC.of_awp (T := T) T_ok hm Tryz.call214 Tryz.func214 rfl rfl rfl ?_
  conv => whnf
  repeat (any_goals (first
    | (refine ⟨fun (h : (_ : Bool) = true) => ?_, fun (h : (_ : Bool) = false) => ?_⟩ <;> (try simp only [decide_eq_true_eq, decide_eq_false_iff_not, Bool.not_eq_true', Bool.not_eq_false', Int.toNat_natCast, beq_iff_eq, decide_eq_decide, beq_eq_false_iff_ne, ne_eq, reduceCtorEq] at h) <;> (conv => whnf))
    | (refine .inl ⟨_, ac_r21_SameNames a.enum [] ha, ?_⟩; conv => whnf)
    | (refine And.intro (by (try simp only [Int.toNat_natCast]); omega) ?_; conv => whnf)
    | (refine And.intro (show (_ : Bool) = true from by kernel_rfl) ?_; conv => whnf)
    | (refine .inl ⟨wrap64 (by omega), ?_⟩; conv => whnf)))
  all_goals first | (refine PSub.sb ?_ ; rw [Bool.eq_iff_iff, zeroA_iff]; simp_all [noAttr]; done) | (refine PSub.lit_sb ?_ ; rw [Bool.eq_iff_iff, zeroA_iff]; simp_all [noAttr]; done) | skip
end Go.Abs

namespace Go.Abs
open Go.Proofs
set_option maxRecDepth 10000
theorem ac_r21_OneCommand (c : Clu) (i : Nat) (hc : smallK c) (hi : i < c.commands.length) : AC Tryz.prog 194 [.pv (.agg (cClu c)), .pv (vint i)] [] (.pv (vint (cmdE c i))) [] := by
  have hl : c.commands.length ≤ 1048576 := hc.2.2.1
  have hd := hc.2.2.2.1 i
  have hd2 : (c.commands.getD i default).effects.length ≤ 1048576 := hd.2
  refine AC.of_awp (T := T) T_ok hm Tryz.call194 Tryz.func194 rfl rfl rfl ?_
  conv => whnf
  refine And.intro (by omega) ?_
  conv => whnf
  refine .inl ⟨_, ac_r04_Valid (c.commands.getD i default).name, ?_⟩
  conv => whnf
  refine ⟨fun h => ?_, fun h => ?_⟩ <;> (try simp only [decide_eq_true_eq, decide_eq_false_iff_not, Bool.not_eq_true', Bool.not_eq_false', Int.toNat_natCast, beq_iff_eq, decide_eq_decide, beq_eq_false_iff_ne, ne_eq, reduceCtorEq] at h) <;> (conv => whnf)
  · exact PSub.int (by simp [cmdE, h, -List.getD_eq_getElem?_getD])
  have hv := h
  refine loop_k (ι := Nat) [1, 2, 5] [2, 5] (fun k => k ≤ i ∧ (∀ j, j < k → decide ((c.commands.getD j default).name = (c.commands.getD i default).name) = false)) (fun k => i - k) 0 (fun k => [(6, .pv (vint k))]) (fun _ => []) [] ⟨Nat.zero_le _, fun j h => absurd h (by omega)⟩ ?_ (fun k hk => ?_)
  · (repeat' (first | exact PSub.rfl | exact rfl | exact PSubs.rfl | exact trivial | exact PSub.lit_sb rfl | refine And.intro ?_ ?_))
  obtain ⟨hkn, hinv⟩ := hk
  conv => whnf
  repeat (any_goals (first
    | (refine ⟨fun (h : (_ : Bool) = true) => ?_, fun (h : (_ : Bool) = false) => ?_⟩ <;> (try simp only [decide_eq_true_eq, decide_eq_false_iff_not, Bool.not_eq_true', Bool.not_eq_false', Int.toNat_natCast, beq_iff_eq, decide_eq_decide, beq_eq_false_iff_ne, ne_eq, reduceCtorEq] at h) <;> (conv => whnf))
    | (refine .inl ⟨_, AC.sub2 (ac_r21_SameAttr (c.commands.getD i default).param hd.1) .rfl (PSub.agg noAttr_cells (l := zAttr)), ?_⟩; conv => whnf)
    | (refine .inl ⟨_, ac_r20_Def (c.commands.getD i default).param hd.1, ?_⟩; conv => whnf)
    | (refine And.intro (by (try simp only [Int.toNat_natCast]); omega) ?_; conv => whnf)
    | (refine And.intro (show (_ : Bool) = true from by kernel_rfl) ?_; conv => whnf)
    | (refine .inl ⟨wrap64 (by omega), ?_⟩; conv => whnf)))
  case' refine_2.refine_2.refine_1.refine_2 =>
    refine ⟨k + 1, [], ⟨by omega, ?_⟩, by first | omega | (dsimp only; omega), ?_⟩
    rotate_left
    · (repeat' (first | exact PSub.rfl | exact rfl | exact PSubs.rfl | exact trivial | exact PSub.lit_sb rfl | refine And.intro ?_ ?_))
    intro j hj
    by_cases e : j = k
    · subst e; first | exact h | simpa [-List.getD_eq_getElem?_getD] using h | simp_all [-List.getD_eq_getElem?_getD]
    · exact hinv j (by omega)
  · have e := anyN_true (n := i) (p := fun j => decide ((c.commands.getD j default).name = (c.commands.getD i default).name)) (k := k) (by omega) (by simpa [-List.getD_eq_getElem?_getD] using h)
    exact PSub.int (by simp [cmdE, hv, e, -List.getD_eq_getElem?_getD])
  all_goals have ef : anyN i (fun j => decide ((c.commands.getD j default).name = (c.commands.getD i default).name)) = false := anyN_false fun j hj => hinv j (by omega)
  all_goals try (exact PSub.int (by simp_all [cmdE, -List.getD_eq_getElem?_getD]; done))
  all_goals
    have e0 : cmdE c i = firstE (c.commands.getD i default).effects.length fun j => effE c (c.commands.getD i default).param ((c.commands.getD i default).effects.getD j default) := by simp_all [cmdE, -List.getD_eq_getElem?_getD]
    rw [e0]
    clear hinv hkn
    refine loop_k (ι := Nat) [2, 5, 50] [2, 5] (fun k2 => k2 ≤ (c.commands.getD i default).effects.length ∧ (∀ j, j < k2 → effE c (c.commands.getD i default).param ((c.commands.getD i default).effects.getD j default) = 0)) (fun k2 => (c.commands.getD i default).effects.length - k2) 0 (fun k2 => [(51, .pv (vint k2))]) (fun _ => []) [] ⟨Nat.zero_le _, fun j h => absurd h (by omega)⟩ ?_ (fun k2 hk => ?_)
    · (repeat' (first | exact PSub.rfl | exact rfl | exact PSubs.rfl | exact trivial | exact PSub.lit_sb rfl | refine And.intro ?_ ?_))
    obtain ⟨hkn, hinv⟩ := hk
    conv => whnf
    repeat (any_goals (first
      | (refine ⟨fun (h : (_ : Bool) = true) => ?_, fun (h : (_ : Bool) = false) => ?_⟩ <;> (try simp only [decide_eq_true_eq, decide_eq_false_iff_not, Bool.not_eq_true', Bool.not_eq_false', Int.toNat_natCast, beq_iff_eq, decide_eq_decide, beq_eq_false_iff_ne, ne_eq, reduceCtorEq] at h) <;> (conv => whnf))
      | (refine .inl ⟨_, ac_r21_Effect c (c.commands.getD i default).param ((c.commands.getD i default).effects.getD k2 default) hc hd.1, ?_⟩; conv => whnf)
      | (refine And.intro (by (try simp only [Int.toNat_natCast]); omega) ?_; conv => whnf)
      | (refine And.intro (show (_ : Bool) = true from by kernel_rfl) ?_; conv => whnf)
      | (refine .inl ⟨wrap64 (by omega), ?_⟩; conv => whnf)))
    · exact PSub.int (by rw [firstE_at (k := k2) (by omega) h hinv])
    · refine ⟨k2 + 1, [], ⟨by omega, ?_⟩, by first | omega | (dsimp only; omega), ?_⟩
      rotate_left
      · (repeat' (first | exact PSub.rfl | exact rfl | exact PSubs.rfl | exact trivial | exact PSub.lit_sb rfl | refine And.intro ?_ ?_))
      intro j hj
      by_cases e : j = k2
      · subst e; first | exact h | simpa [-List.getD_eq_getElem?_getD] using h | simp_all [-List.getD_eq_getElem?_getD]
      · exact hinv j (by omega)
    · exact PSub.int (by rw [firstE_none fun j hj => hinv j (by omega)])
end Go.Abs

namespace Go.Abs
open Go.Proofs
set_option maxRecDepth 10000
theorem placeI_lt {l : List Attr} {s : ByteArray} {k : Nat} (hk : k < l.length) (h : (l.getD k default).name = s) : (placeI l s < (k : Int)) ↔ anyN k (fun j => decide ((l.getD j default).name = s)) = true := by
  have hlt : attrAt l s ≤ k ∧ attrAt l s < l.length := by
    unfold attrAt firstI
    split
    · rename_i i e
      rw [List.find?_range_eq_some] at e
      refine ⟨?_, by simpa using e.2.1⟩
      rcases Nat.lt_or_ge k i with hlt | hge
      · have := e.2.2 k hlt; simp [h, -List.getD_eq_getElem?_getD] at this
      · exact hge
    · rename_i e
      rw [List.find?_eq_none] at e
      have := e k (by simpa using hk)
      simp [h, -List.getD_eq_getElem?_getD] at this
  unfold placeI
  rw [if_pos hlt.2, anyN_iff]
  constructor
  · intro hh
    refine ⟨attrAt l s, by omega, ?_⟩
    unfold attrAt firstI
    split
    · rename_i i e
      rw [List.find?_range_eq_some] at e
      exact e.1
    · rename_i e
      rw [List.find?_eq_none] at e
      have := e k (by simpa using hk)
      simp [h, -List.getD_eq_getElem?_getD] at this
  · rintro ⟨j, hj, e⟩
    have : attrAt l s ≤ j := by
      unfold attrAt firstI
      split
      · rename_i i e2
        rw [List.find?_range_eq_some] at e2
        rcases Nat.lt_or_ge j i with hlt2 | hge
        · have := e2.2.2 j hlt2; rw [e] at this; cases this
        · exact hge
      · rename_i e2
        rw [List.find?_eq_none] at e2
        have := e2 k (by simpa using hk)
        simp [h, -List.getD_eq_getElem?_getD] at this
    omega
theorem ac_r21_Check (c : Clu) (hc : smallK c) : AC Tryz.prog 147 [.pv (.agg (cClu c))] [] (.pv (vint (checkE c))) [] := by
  have hl1 : c.attrs.length ≤ 1048576 := hc.1
  have hl2 : c.commands.length ≤ 1048576 := hc.2.2.1
  have hl3 : c.events.length ≤ 1048576 := hc.2.2.2.2
  refine AC.of_awp (T := T) T_ok hm Tryz.call147 Tryz.func147 rfl rfl rfl ?_
  conv => whnf
  refine .inl ⟨_, ac_r04_Valid c.name, ?_⟩
  conv => whnf
  refine ⟨fun h => ?_, fun h => ?_⟩ <;> (try simp only [decide_eq_true_eq, decide_eq_false_iff_not, Bool.not_eq_true', Bool.not_eq_false', Int.toNat_natCast, beq_iff_eq, decide_eq_decide, beq_eq_false_iff_ne, ne_eq, reduceCtorEq] at h) <;> (conv => whnf)
  · exact PSub.int (by simp [checkE, h, -List.getD_eq_getElem?_getD])
  have hv := h
  refine .inl ⟨_, ac_r21_TooMany c hc, ?_⟩
  conv => whnf
  refine ⟨fun h => ?_, fun h => ?_⟩ <;> (try simp only [decide_eq_true_eq, decide_eq_false_iff_not, Bool.not_eq_true', Bool.not_eq_false', Int.toNat_natCast, beq_iff_eq, decide_eq_decide, beq_eq_false_iff_ne, ne_eq, reduceCtorEq] at h) <;> (conv => whnf)
  · exact PSub.int (by simp [checkE, h, hv, -List.getD_eq_getElem?_getD])
  have hw := h
  refine loop_k (ι := Nat) [1, 17] [1] (fun k => k ≤ c.attrs.length ∧ (∀ j, j < k → attrE c.attrs j = 0)) (fun k => c.attrs.length - k) 0 (fun k => [(18, .pv (vint k))]) (fun _ => []) [] ⟨Nat.zero_le _, fun j h => absurd h (by omega)⟩ ?_ (fun k hk => ?_)
  · (repeat' (first | exact PSub.rfl | exact rfl | exact PSubs.rfl | exact trivial | exact PSub.lit_sb rfl | refine And.intro ?_ ?_))
  obtain ⟨hkn, hinv⟩ := hk
  conv => whnf
  repeat (any_goals (first
    | (refine ⟨fun (h : (_ : Bool) = true) => ?_, fun (h : (_ : Bool) = false) => ?_⟩ <;> (try simp only [decide_eq_true_eq, decide_eq_false_iff_not, Bool.not_eq_true', Bool.not_eq_false', Int.toNat_natCast, beq_iff_eq, decide_eq_decide, beq_eq_false_iff_ne, ne_eq, reduceCtorEq] at h) <;> (conv => whnf))
    | (refine .inl ⟨_, ac_r20_Def (c.attrs.getD k default) (hc.2.1 k), ?_⟩; conv => whnf)
    | (refine .inl ⟨_, ac_r21_Place c (c.attrs.getD k default).name hc, ?_⟩; conv => whnf)
    | (refine And.intro (by (try simp only [Int.toNat_natCast]); omega) ?_; conv => whnf)
    | (refine And.intro (show (_ : Bool) = true from by kernel_rfl) ?_; conv => whnf)
    | (refine .inl ⟨wrap64 (by omega), ?_⟩; conv => whnf)))
  · have e : attrE c.attrs k = defE (c.attrs.getD k default) := by simp [attrE, h, -List.getD_eq_getElem?_getD]
    have e2 := firstE_at (n := c.attrs.length) (k := k) (f := attrE c.attrs) (by omega) (by rw [e]; exact h) hinv
    rw [e] at e2
    exact PSub.int (by simp [checkE, e2, h, hv, hw, -List.getD_eq_getElem?_getD])
  · rename_i hd
    rw [placeI_lt (by omega) rfl] at h
    have e : attrE c.attrs k = 9 := by simp [attrE, hd, h, -List.getD_eq_getElem?_getD]
    have e2 := firstE_at (n := c.attrs.length) (k := k) (f := attrE c.attrs) (by omega) (by rw [e]; decide) hinv
    rw [e] at e2
    exact PSub.int (by simp [checkE, e2, hv, hw, -List.getD_eq_getElem?_getD])
  · rename_i hd
    rw [placeI_lt (by omega) rfl] at h
    refine ⟨k + 1, [], ⟨by omega, ?_⟩, by first | omega | (dsimp only; omega), ?_⟩
    rotate_left
    · (repeat' (first | exact PSub.rfl | exact rfl | exact PSubs.rfl | exact trivial | exact PSub.lit_sb rfl | refine And.intro ?_ ?_))
    intro j hj
    by_cases ee : j = k
    · subst ee; simp [attrE, hd, h, -List.getD_eq_getElem?_getD]
    · exact hinv j (by omega)
  have e1 : firstE c.attrs.length (attrE c.attrs) = 0 := firstE_none fun j hj => hinv j (by omega)
  clear hinv hkn h
  refine loop_k (ι := Nat) [1, 43] [1] (fun k => k ≤ c.commands.length ∧ (∀ j, j < k → cmdE c j = 0)) (fun k => c.commands.length - k) 0 (fun k => [(44, .pv (vint k))]) (fun _ => []) [] ⟨Nat.zero_le _, fun j h => absurd h (by omega)⟩ ?_ (fun k hk => ?_)
  · (repeat' (first | exact PSub.rfl | exact rfl | exact PSubs.rfl | exact trivial | exact PSub.lit_sb rfl | refine And.intro ?_ ?_))
  obtain ⟨hkn, hinv⟩ := hk
  conv => whnf
  repeat (any_goals (first
    | (refine ⟨fun (h : (_ : Bool) = true) => ?_, fun (h : (_ : Bool) = false) => ?_⟩ <;> (try simp only [decide_eq_true_eq, decide_eq_false_iff_not, Bool.not_eq_true', Bool.not_eq_false', Int.toNat_natCast, beq_iff_eq, decide_eq_decide, beq_eq_false_iff_ne, ne_eq, reduceCtorEq] at h) <;> (conv => whnf))
    | (refine .inl ⟨_, ac_r21_OneCommand c k hc (by omega), ?_⟩; conv => whnf)
    | (refine And.intro (by (try simp only [Int.toNat_natCast]); omega) ?_; conv => whnf)
    | (refine And.intro (show (_ : Bool) = true from by kernel_rfl) ?_; conv => whnf)
    | (refine .inl ⟨wrap64 (by omega), ?_⟩; conv => whnf)))
  · have e2 := firstE_at (n := c.commands.length) (k := k) (f := cmdE c) (by omega) h hinv
    exact PSub.int (by simp [checkE, e1, e2, h, hv, hw, -List.getD_eq_getElem?_getD])
  · refine ⟨k + 1, [], ⟨by omega, ?_⟩, by first | omega | (dsimp only; omega), ?_⟩
    rotate_left
    · (repeat' (first | exact PSub.rfl | exact rfl | exact PSubs.rfl | exact trivial | exact PSub.lit_sb rfl | refine And.intro ?_ ?_))
    intro j hj
    by_cases e : j = k
    · subst e; first | exact h | simpa [-List.getD_eq_getElem?_getD] using h | simp_all [-List.getD_eq_getElem?_getD]
    · exact hinv j (by omega)
  have e2 : firstE c.commands.length (cmdE c) = 0 := firstE_none fun j hj => hinv j (by omega)
  have e0 : checkE c = firstE c.events.length (evE c.events) := by simp [checkE, e1, e2, hv, hw, -List.getD_eq_getElem?_getD]
  rw [e0]
  clear hinv hkn h
  refine loop_k (ι := Nat) [1, 56] [1] (fun k => k ≤ c.events.length ∧ (∀ j, j < k → evE c.events j = 0)) (fun k => c.events.length - k) 0 (fun k => [(57, .pv (vint k))]) (fun _ => []) [] ⟨Nat.zero_le _, fun j h => absurd h (by omega)⟩ ?_ (fun k hk => ?_)
  · (repeat' (first | exact PSub.rfl | exact rfl | exact PSubs.rfl | exact trivial | exact PSub.lit_sb rfl | refine And.intro ?_ ?_))
  obtain ⟨hkn, hinv⟩ := hk
  conv => whnf
  repeat (any_goals (first
    | (refine ⟨fun (h : (_ : Bool) = true) => ?_, fun (h : (_ : Bool) = false) => ?_⟩ <;> (try simp only [decide_eq_true_eq, decide_eq_false_iff_not, Bool.not_eq_true', Bool.not_eq_false', Int.toNat_natCast, beq_iff_eq, decide_eq_decide, beq_eq_false_iff_ne, ne_eq, reduceCtorEq] at h) <;> (conv => whnf))
    | (refine .inl ⟨_, ac_r04_Valid (c.events.getD k default), ?_⟩; conv => whnf)
    | (refine And.intro (by (try simp only [Int.toNat_natCast]); omega) ?_; conv => whnf)
    | (refine And.intro (show (_ : Bool) = true from by kernel_rfl) ?_; conv => whnf)
    | (refine .inl ⟨wrap64 (by omega), ?_⟩; conv => whnf)))
  · have e : evE c.events k = 10 := by simp [evE, h, -List.getD_eq_getElem?_getD]
    exact PSub.int (by rw [firstE_at (k := k) (by omega) (by rw [e]; decide) hinv, e])
  · have hve := h
    have hinv1 := hinv
    refine loop_k (ι := Nat) [1, 7, 56, 57] [1] (fun k2 => k2 ≤ k ∧ (∀ j, j < k2 → c.events.getD j default ≠ c.events.getD k default)) (fun k2 => k - k2) 0 (fun k2 => [(8, .pv (vint k2))]) (fun _ => []) [] ⟨Nat.zero_le _, fun j h => absurd h (by omega)⟩ ?_ (fun k2 hk => ?_)
    · (repeat' (first | exact PSub.rfl | exact rfl | exact PSubs.rfl | exact trivial | exact PSub.lit_sb rfl | refine And.intro ?_ ?_))
    obtain ⟨hkn, hinv⟩ := hk
    conv => whnf
    repeat (any_goals (first
      | (refine ⟨fun (h : (_ : Bool) = true) => ?_, fun (h : (_ : Bool) = false) => ?_⟩ <;> (try simp only [decide_eq_true_eq, decide_eq_false_iff_not, Bool.not_eq_true', Bool.not_eq_false', Int.toNat_natCast, beq_iff_eq, decide_eq_decide, beq_eq_false_iff_ne, ne_eq, reduceCtorEq] at h) <;> (conv => whnf))
      | (refine And.intro (by (try simp only [Int.toNat_natCast]); omega) ?_; conv => whnf)
      | (refine And.intro (show (_ : Bool) = true from by kernel_rfl) ?_; conv => whnf)
      | (refine .inl ⟨wrap64 (by omega), ?_⟩; conv => whnf)))
    · have e := memN_true (l := c.events) (n := k) (k := k2) (s := c.events.getD k default) (by omega) h
      have e : evE c.events k = 9 := by simp [evE, hve, e, -List.getD_eq_getElem?_getD]
      exact PSub.int (by rw [firstE_at (k := k) (by omega) (by rw [e]; decide) hinv1, e])
    · refine ⟨k2 + 1, [], ⟨by omega, ?_⟩, by first | omega | (dsimp only; omega), ?_⟩
      rotate_left
      · (repeat' (first | exact PSub.rfl | exact rfl | exact PSubs.rfl | exact trivial | exact PSub.lit_sb rfl | refine And.intro ?_ ?_))
      intro j hj
      by_cases e : j = k2
      · subst e; first | exact h | simpa [-List.getD_eq_getElem?_getD] using h | simp_all [-List.getD_eq_getElem?_getD]
      · exact hinv j (by omega)
    · have e := memN_false (l := c.events) (n := k) (s := c.events.getD k default) fun j hj => hinv j (by omega)
      refine ⟨k + 1, [], ⟨by omega, ?_⟩, by first | omega | (dsimp only; omega), ?_⟩
      rotate_left
      · (repeat' (first | exact PSub.rfl | exact rfl | exact PSubs.rfl | exact trivial | exact PSub.lit_sb rfl | refine And.intro ?_ ?_))
      intro j hj
      by_cases ee : j = k
      · subst ee; simp [evE, hve, e, -List.getD_eq_getElem?_getD]
      · exact hinv1 j (by omega)
  · exact PSub.int (by rw [firstE_none fun j hj => hinv j (by omega)])
theorem ac_r21_All (l : List Clu) (hl : smallKs l) : AC Tryz.prog 106 [.pv (roL 4 cClu l)] [] (.pv (vint (allE l))) [] := by
  have hl1 : l.length ≤ 1048576 := hl.1
  refine AC.of_awp (T := T) T_ok hm Tryz.call106 Tryz.func106 rfl rfl rfl ?_
  conv => whnf
  refine ⟨fun h => ?_, fun h => ?_⟩ <;> (try simp only [decide_eq_true_eq, decide_eq_false_iff_not, Bool.not_eq_true', Bool.not_eq_false', Int.toNat_natCast, beq_iff_eq, decide_eq_decide, beq_eq_false_iff_ne, ne_eq, reduceCtorEq] at h) <;> (conv => whnf)
  · exact PSub.int (by rw [allE, if_pos (by omega)])
  rw [allE, if_neg (by omega)]
  clear h
  refine loop_k (ι := Nat) [0, 10] [] (fun k => k ≤ l.length ∧ (∀ j, j < k → cluE l j = 0)) (fun k => l.length - k) 0 (fun k => [(11, .pv (vint k))]) (fun _ => []) [] ⟨Nat.zero_le _, fun j h => absurd h (by omega)⟩ ?_ (fun k hk => ?_)
  · (repeat' (first | exact PSub.rfl | exact rfl | exact PSubs.rfl | exact trivial | exact PSub.lit_sb rfl | refine And.intro ?_ ?_))
  obtain ⟨hkn, hinv⟩ := hk
  conv => whnf
  repeat (any_goals (first
    | (refine ⟨fun (h : (_ : Bool) = true) => ?_, fun (h : (_ : Bool) = false) => ?_⟩ <;> (try simp only [decide_eq_true_eq, decide_eq_false_iff_not, Bool.not_eq_true', Bool.not_eq_false', Int.toNat_natCast, beq_iff_eq, decide_eq_decide, beq_eq_false_iff_ne, ne_eq, reduceCtorEq] at h) <;> (conv => whnf))
    | (refine .inl ⟨_, ac_r21_Check (l.getD k default) (hl.2 k), ?_⟩; conv => whnf)
    | (refine And.intro (by (try simp only [Int.toNat_natCast]); omega) ?_; conv => whnf)
    | (refine And.intro (show (_ : Bool) = true from by kernel_rfl) ?_; conv => whnf)
    | (refine .inl ⟨wrap64 (by omega), ?_⟩; conv => whnf)))
  · have e : cluE l k = checkE (l.getD k default) := by simp [cluE, h, -List.getD_eq_getElem?_getD]
    exact PSub.int (by rw [firstE_at (k := k) (by omega) (by rw [e]; exact h) hinv, e])
  · have hd := h
    have hinv1 := hinv
    refine loop_k (ι := Nat) [0, 3, 10, 11] [] (fun k2 => k2 ≤ k ∧ (∀ j, j < k2 → decide ((l.getD j default).name = (l.getD k default).name) = false)) (fun k2 => k - k2) 0 (fun k2 => [(5, .pv (vint k2))]) (fun _ => []) [] ⟨Nat.zero_le _, fun j h => absurd h (by omega)⟩ ?_ (fun k2 hk => ?_)
    · (repeat' (first | exact PSub.rfl | exact rfl | exact PSubs.rfl | exact trivial | exact PSub.lit_sb rfl | refine And.intro ?_ ?_))
    obtain ⟨hkn, hinv⟩ := hk
    conv => whnf
    repeat (any_goals (first
      | (refine ⟨fun (h : (_ : Bool) = true) => ?_, fun (h : (_ : Bool) = false) => ?_⟩ <;> (try simp only [decide_eq_true_eq, decide_eq_false_iff_not, Bool.not_eq_true', Bool.not_eq_false', Int.toNat_natCast, beq_iff_eq, decide_eq_decide, beq_eq_false_iff_ne, ne_eq, reduceCtorEq] at h) <;> (conv => whnf))
      | (refine And.intro (by (try simp only [Int.toNat_natCast]); omega) ?_; conv => whnf)
      | (refine And.intro (show (_ : Bool) = true from by kernel_rfl) ?_; conv => whnf)
      | (refine .inl ⟨wrap64 (by omega), ?_⟩; conv => whnf)))
    · have e := anyN_true (n := k) (k := k2) (p := fun j => decide ((l.getD j default).name = (l.getD k default).name)) (by omega) (by simpa [-List.getD_eq_getElem?_getD] using h)
      have e : cluE l k = 9 := by simp [cluE, hd, e, -List.getD_eq_getElem?_getD]
      exact PSub.int (by rw [firstE_at (k := k) (by omega) (by rw [e]; decide) hinv1, e])
    · refine ⟨k2 + 1, [], ⟨by omega, ?_⟩, by first | omega | (dsimp only; omega), ?_⟩
      rotate_left
      · (repeat' (first | exact PSub.rfl | exact rfl | exact PSubs.rfl | exact trivial | exact PSub.lit_sb rfl | refine And.intro ?_ ?_))
      intro j hj
      by_cases e : j = k2
      · subst e; first | exact h | simpa [-List.getD_eq_getElem?_getD] using h | simp_all [-List.getD_eq_getElem?_getD]
      · exact hinv j (by omega)
    · have e := anyN_false (n := k) (p := fun j => decide ((l.getD j default).name = (l.getD k default).name)) fun j hj => hinv j (by omega)
      refine ⟨k + 1, [], ⟨by omega, ?_⟩, by first | omega | (dsimp only; omega), ?_⟩
      rotate_left
      · (repeat' (first | exact PSub.rfl | exact rfl | exact PSubs.rfl | exact trivial | exact PSub.lit_sb rfl | refine And.intro ?_ ?_))
      intro j hj
      by_cases ee : j = k
      · subst ee; simp [cluE, hd, e, -List.getD_eq_getElem?_getD]
      · exact hinv1 j (by omega)
  · exact PSub.int (by rw [firstE_none fun j hj => hinv j (by omega)])
end Go.Abs

namespace Go.Abs
open Go.Proofs
set_option maxRecDepth 10000
def cluAt (l : List Clu) (s : ByteArray) : Nat := firstI l.length fun i => decide ((l.getD i default).name = s)
theorem firstC_eq (l : List Clu) (s : ByteArray) : firstC l s = if cluAt l s < l.length then some (l.getD (cluAt l s) default) else none := by
  unfold firstC cluAt
  cases hf : l.find? fun c => decide (c.name = s) with
  | none =>
    rw [List.find?_eq_none] at hf
    rw [firstI_none fun i hi => ?_, if_neg (Nat.lt_irrefl _)]
    have := hf l[i] (List.getElem_mem hi)
    simpa [List.getD, hi] using this
  | some c =>
    obtain ⟨h1, xs, ys, h2, h3⟩ := List.find?_eq_some_iff_append.1 hf
    have hi : xs.length < l.length := by rw [h2]; simp
    have e : l.getD xs.length default = c := by simp [h2]
    have ef : firstI l.length (fun i => decide ((l.getD i default).name = s)) = xs.length := by
      refine firstI_at hi (by rw [e]; exact h1) fun j hj => ?_
      have := h3 xs[j] (List.getElem_mem hj)
      simpa [h2, List.getElem?_append_left hj, hj] using this
    rw [ef, if_pos hi, e]
def cluIx (l : List Clu) (s : ByteArray) : Int := if cluAt l s < l.length then (cluAt l s : Int) else -1
theorem ac_r22_cluster (H : Hom) (s : ByteArray) (hH : smallH H) : AC Tryz.prog 195 [.pv (.agg (cHom H)), .pv (vstr s)] [] (.pv (vint (cluIx H.clusters s))) [] := by
  have hl : H.clusters.length ≤ 1048576 := hH.1.1
  refine AC.of_awp (T := T) T_ok hm Tryz.call195 Tryz.func195 rfl rfl rfl ?_
  conv => whnf
  refine loop_k (ι := Nat) [1, 2] [2] (fun k => k ≤ H.clusters.length ∧ (∀ j, j < k → decide ((H.clusters.getD j default).name = s) = false)) (fun k => H.clusters.length - k) 0 (fun k => [(5, .pv (vint k))]) (fun _ => []) [] ⟨Nat.zero_le _, fun j h => absurd h (by omega)⟩ ?_ (fun k hk => ?_)
  · (repeat' (first | exact PSub.rfl | exact rfl | exact PSubs.rfl | exact trivial | exact PSub.lit_sb rfl | refine And.intro ?_ ?_))
  obtain ⟨hkn, hinv⟩ := hk
  conv => whnf
  repeat (any_goals (first
    | (refine ⟨fun (h : (_ : Bool) = true) => ?_, fun (h : (_ : Bool) = false) => ?_⟩ <;> (try simp only [decide_eq_true_eq, decide_eq_false_iff_not, Bool.not_eq_true', Bool.not_eq_false', Int.toNat_natCast, beq_iff_eq, decide_eq_decide, beq_eq_false_iff_ne, ne_eq, reduceCtorEq] at h) <;> (conv => whnf))
    | (refine And.intro (by (try simp only [Int.toNat_natCast]); omega) ?_; conv => whnf)
    | (refine And.intro (show (_ : Bool) = true from by kernel_rfl) ?_; conv => whnf)
    | (refine .inl ⟨wrap64 (by omega), ?_⟩; conv => whnf)))
  · have e : cluAt H.clusters s = k := firstI_at (by omega) (by simpa [-List.getD_eq_getElem?_getD] using h) hinv
    exact PSub.int (by rw [cluIx, e, if_pos (by omega)])
  · refine ⟨k + 1, [], ⟨by omega, ?_⟩, by first | omega | (dsimp only; omega), ?_⟩
    rotate_left
    · (repeat' (first | exact PSub.rfl | exact rfl | exact PSubs.rfl | exact trivial | exact PSub.lit_sb rfl | refine And.intro ?_ ?_))
    intro j hj
    by_cases e : j = k
    · subst e; first | exact h | simpa [-List.getD_eq_getElem?_getD] using h | simp_all [-List.getD_eq_getElem?_getD]
    · exact hinv j (by omega)
  · have e : cluAt H.clusters s = H.clusters.length := firstI_none fun j hj => hinv j (by omega)
    exact PSub.int (by rw [cluIx, e, if_neg (by omega)])
def devIx (l : List Dev) (id : Int) : Int := if devAt l id < l.length then (devAt l id : Int) else -1
theorem ac_r22_At (H : Hom) (id : Int) (hH : smallH H) : AC Tryz.prog 112 [.pv (.agg (cHom H)), .pv (vint id)] [] (.pv (vint (devIx H.devices id))) [] := by
  have hl : H.devices.length ≤ 1048576 := hH.2.1
  refine AC.of_awp (T := T) T_ok hm Tryz.call112 Tryz.func112 rfl rfl rfl ?_
  conv => whnf
  refine loop_k (ι := Nat) [1, 2] [2] (fun k => k ≤ H.devices.length ∧ (∀ j, j < k → decide ((H.devices.getD j default).id = id) = false)) (fun k => H.devices.length - k) 0 (fun k => [(5, .pv (vint k))]) (fun _ => []) [] ⟨Nat.zero_le _, fun j h => absurd h (by omega)⟩ ?_ (fun k hk => ?_)
  · (repeat' (first | exact PSub.rfl | exact rfl | exact PSubs.rfl | exact trivial | exact PSub.lit_sb rfl | refine And.intro ?_ ?_))
  obtain ⟨hkn, hinv⟩ := hk
  conv => whnf
  repeat (any_goals (first
    | (refine ⟨fun (h : (_ : Bool) = true) => ?_, fun (h : (_ : Bool) = false) => ?_⟩ <;> (try simp only [decide_eq_true_eq, decide_eq_false_iff_not, Bool.not_eq_true', Bool.not_eq_false', Int.toNat_natCast, beq_iff_eq, decide_eq_decide, beq_eq_false_iff_ne, ne_eq, reduceCtorEq] at h) <;> (conv => whnf))
    | (refine And.intro (by (try simp only [Int.toNat_natCast]); omega) ?_; conv => whnf)
    | (refine And.intro (show (_ : Bool) = true from by kernel_rfl) ?_; conv => whnf)
    | (refine .inl ⟨wrap64 (by omega), ?_⟩; conv => whnf)))
  · have e : devAt H.devices id = k := firstI_at (by omega) (by simpa [-List.getD_eq_getElem?_getD] using h) hinv
    exact PSub.int (by rw [devIx, e, if_pos (by omega)])
  · refine ⟨k + 1, [], ⟨by omega, ?_⟩, by first | omega | (dsimp only; omega), ?_⟩
    rotate_left
    · (repeat' (first | exact PSub.rfl | exact rfl | exact PSubs.rfl | exact trivial | exact PSub.lit_sb rfl | refine And.intro ?_ ?_))
    intro j hj
    by_cases e : j = k
    · subst e; first | exact h | simpa [-List.getD_eq_getElem?_getD] using h | simp_all [-List.getD_eq_getElem?_getD]
    · exact hinv j (by omega)
  · have e : devAt H.devices id = H.devices.length := firstI_none fun j hj => hinv j (by omega)
    exact PSub.int (by rw [devIx, e, if_neg (by omega)])
theorem firstC_ix {l : List Clu} {s : ByteArray} : (cluIx l s < 0 ∧ firstC l s = none) ∨ ∃ k : Nat, cluIx l s = k ∧ k < l.length ∧ firstC l s = some (l.getD k default) := by
  rw [firstC_eq]
  unfold cluIx
  split
  · rename_i h; exact .inr ⟨_, rfl, h, rfl⟩
  · exact .inl ⟨by omega, rfl⟩
theorem ac_r22_parts (H : Hom) (d : Dev) (hH : smallH H) : AC Tryz.prog 148 [.pv (.agg (cHom H)), .pv (.agg (cDev d))] [] (.pv (vint (capE (firstC H.clusters) d))) [] := by
  have hl : H.clusters.length ≤ 1048576 := hH.1.1
  refine AC.of_awp (T := T) T_ok hm Tryz.call148 Tryz.func148 rfl rfl rfl ?_
  conv => whnf
  refine ⟨fun h => ?_, fun h => ?_⟩
  · conv => whnf
    simp only [decide_eq_true_eq] at h
    exact PSub.int (by rw [capE, if_pos (by omega)])
  conv => whnf
  refine ⟨fun h => ?_, fun h => ?_⟩ <;> (try simp only [decide_eq_true_eq, decide_eq_false_iff_not, Bool.not_eq_true', Bool.not_eq_false', Int.toNat_natCast, beq_iff_eq, decide_eq_decide, beq_eq_false_iff_ne, ne_eq, reduceCtorEq] at h) <;> (conv => whnf)
  · exact PSub.int (by rw [capE, if_pos (by omega)])
  rename_i h0
  simp only [decide_eq_false_iff_not] at h0
  rw [capE, if_neg (by omega)]
  refine loop_k (ι := Nat × Int) [2, 3] [2, 3] (fun i => i.1 ≤ d.clusters.length ∧ (0 ≤ i.2 ∧ i.2 ≤ i.1 * 1048576) ∧ forI (capStep (firstC H.clusters) d) (d.clusters.length - i.1) i.1 i.2 = forI (capStep (firstC H.clusters) d) d.clusters.length 0 0) (fun i => d.clusters.length - i.1) (0, 0) (fun i => [(5, .pv (vint i.2)), (6, .pv (vint i.1))]) (fun _ => []) [] ⟨Nat.zero_le _, by simp, rfl⟩ ?_ (fun i hk => ?_)
  · (repeat' (first | exact PSub.rfl | exact rfl | exact PSubs.rfl | exact trivial | exact PSub.lit_sb rfl | refine And.intro ?_ ?_))
  obtain ⟨k, n⟩ := i
  obtain ⟨hkn, hn, hfor⟩ := hk
  simp only at hkn hn hfor
  conv => whnf
  refine ⟨fun h => ?_, fun h => ?_⟩ <;> (try simp only [decide_eq_true_eq, decide_eq_false_iff_not, Bool.not_eq_true', Bool.not_eq_false', Int.toNat_natCast, beq_iff_eq, decide_eq_decide, beq_eq_false_iff_ne, ne_eq, reduceCtorEq] at h) <;> (conv => whnf)
  · repeat (any_goals (first
      | (refine ⟨fun (h : (_ : Bool) = true) => ?_, fun (h : (_ : Bool) = false) => ?_⟩ <;> (try simp only [decide_eq_true_eq, decide_eq_false_iff_not, Bool.not_eq_true', Bool.not_eq_false', Int.toNat_natCast, beq_iff_eq, decide_eq_decide, beq_eq_false_iff_ne, ne_eq, reduceCtorEq] at h) <;> (conv => whnf))
      | (refine .inl ⟨_, ac_r22_cluster H (d.clusters.getD k default) hH, ?_⟩; conv => whnf)
      | (refine .inl ⟨_, ac_r04_Index d.clusters (d.clusters.getD k default) (by omega), ?_⟩; conv => whnf)
      | (refine And.intro (by (try simp only [Int.toNat_natCast]); omega) ?_; conv => whnf)
      | (refine And.intro (show (_ : Bool) = true from by kernel_rfl) ?_; conv => whnf)
      | (refine .inl ⟨wrap64 (by omega), ?_⟩; conv => whnf)))
    · have hc : firstC H.clusters (d.clusters.getD k default) = none := by
        rcases firstC_ix (l := H.clusters) (s := d.clusters.getD k default) with ⟨_, e⟩ | ⟨j, e, _, _⟩
        · exact e
        · omega
      rw [forI_stop hfor (by omega) (r := 8) (by rw [capStep, hc])]
      exact PSub.rfl
    · rcases firstC_ix (l := H.clusters) (s := d.clusters.getD k default) with ⟨_, _⟩ | ⟨j, e, hj, hc⟩
      · omega
      rw [forI_stop hfor (by omega) (r := 9) (by rw [capStep, hc]; simp only; rw [if_pos h])]
      exact PSub.rfl
    · rcases firstC_ix (l := H.clusters) (s := d.clusters.getD k default) with ⟨_, _⟩ | ⟨j, e, hj, hc⟩
      · omega
      rw [e]
      have hcl : (H.clusters.getD j default).attrs.length ≤ 1048576 := (hH.1.2 j).1
      refine And.intro (by omega) ?_
      conv => whnf
      refine .inl ⟨wrap64 (by simp only [Int.toNat_natCast]; omega), ?_⟩
      conv => whnf
      repeat (any_goals (first
        | (refine ⟨fun (h : (_ : Bool) = true) => ?_, fun (h : (_ : Bool) = false) => ?_⟩ <;> (try simp only [decide_eq_true_eq, decide_eq_false_iff_not, Bool.not_eq_true', Bool.not_eq_false', Int.toNat_natCast, beq_iff_eq, decide_eq_decide, beq_eq_false_iff_ne, ne_eq, reduceCtorEq] at h) <;> (conv => whnf))
        | (refine And.intro (by (try simp only [Int.toNat_natCast]); omega) ?_; conv => whnf)
        | (refine And.intro (show (_ : Bool) = true from by kernel_rfl) ?_; conv => whnf)
        | (refine .inl ⟨wrap64 (by omega), ?_⟩; conv => whnf)))
      refine ⟨(k + 1, n + (H.clusters.getD j default).attrs.length), [], ⟨by dsimp only; omega, ⟨by dsimp only; omega, by dsimp only; omega⟩, forI_next hfor (by omega) (by rw [capStep, hc]; simp only; rw [if_neg h])⟩, by dsimp only; omega, ?_⟩
      (repeat' (first | exact PSub.rfl | exact rfl | exact PSubs.rfl | exact trivial | exact PSub.lit_sb rfl | refine And.intro ?_ ?_))
  · rw [forI_end hfor (by omega)]
    repeat (any_goals (first
      | (refine ⟨fun (h : (_ : Bool) = true) => ?_, fun (h : (_ : Bool) = false) => ?_⟩ <;> (try simp only [decide_eq_true_eq, decide_eq_false_iff_not, Bool.not_eq_true', Bool.not_eq_false', Int.toNat_natCast, beq_iff_eq, decide_eq_decide, beq_eq_false_iff_ne, ne_eq, reduceCtorEq] at h) <;> (conv => whnf))
      | (refine And.intro (by (try simp only [Int.toNat_natCast]); omega) ?_; conv => whnf)
      | (refine And.intro (show (_ : Bool) = true from by kernel_rfl) ?_; conv => whnf)
      | (refine .inl ⟨wrap64 (by omega), ?_⟩; conv => whnf)))
    · exact PSub.int (by simp only; rw [if_pos h])
    · exact PSub.int (by simp only; rw [if_neg h])
set_option maxHeartbeats 2000000 in
theorem ac_r22_one (H : Hom) (i : Nat) (hH : smallH H) (hi : i < H.devices.length) : AC Tryz.prog 107 [.pv (.agg (cHom H)), .pv (vint i)] [] (.pv (vint (devE (firstC H.clusters) H.devices i))) [] := by
  have hl : H.devices.length ≤ 1048576 := hH.2.1
  have hpi : (↑i - 1 : Int).toNat = i - 1 := by omega
  refine AC.of_awp (T := T) T_ok hm Tryz.call107 Tryz.func107 rfl rfl rfl ?_
  conv => whnf
  repeat (any_goals (first
    | (refine ⟨fun (h : (_ : Bool) = true) => ?_, fun (h : (_ : Bool) = false) => ?_⟩ <;> (try simp only [decide_eq_true_eq, decide_eq_false_iff_not, Bool.not_eq_true', Bool.not_eq_false', Int.toNat_natCast, beq_iff_eq, decide_eq_decide, beq_eq_false_iff_ne, ne_eq, reduceCtorEq] at h) <;> (conv => whnf))
    | (refine And.intro (by (try simp only [Int.toNat_natCast]); omega) ?_; conv => whnf)
    | (refine And.intro (show (_ : Bool) = true from by kernel_rfl) ?_; conv => whnf)
    | (refine .inl ⟨wrap64 (by omega), ?_⟩; conv => whnf)))
  all_goals try rw [hpi] at h
  all_goals try (exfalso; simp_all [-List.getD_eq_getElem?_getD]; done)
  all_goals try (refine PSub.int ?_; simp only [devE, numB]; simp_all [-List.getD_eq_getElem?_getD]; done)
  all_goals try (refine PSub.int ?_; simp only [devE, numB]; simp_all [-List.getD_eq_getElem?_getD]; omega)
  all_goals trace "left"
  all_goals
    have e0 : devE (firstC H.clusters) H.devices i = if anyN i (fun j => decide ((H.devices.getD j default).eui = (H.devices.getD i default).eui)) = true then 9 else if validName (H.devices.getD i default).room = false then 10 else capE (firstC H.clusters) (H.devices.getD i default) := by
      have hn : numB (H.devices.getD i default) = true := by simp only [numB]; simp_all [-List.getD_eq_getElem?_getD]
      simp only [devE]; rw [hn]; simp only [Bool.true_eq_false, if_false]
      rw [if_neg (by omega)]
    rw [e0]
    refine loop_k (ι := Nat) [1, 2, 5] [2, 5] (fun k => k ≤ i ∧ (∀ j, j < k → decide ((H.devices.getD j default).eui = (H.devices.getD i default).eui) = false)) (fun k => i - k) 0 (fun k => [(6, .pv (vint k))]) (fun _ => []) [] ⟨Nat.zero_le _, fun j h => absurd h (by omega)⟩ ?_ (fun k hk => ?_)
    · (repeat' (first | exact PSub.rfl | exact rfl | exact PSubs.rfl | exact trivial | exact PSub.lit_sb rfl | refine And.intro ?_ ?_))
    obtain ⟨hkn, hinv⟩ := hk
    conv => whnf
    clear e0
    repeat (any_goals (first
      | (refine ⟨fun (h : (_ : Bool) = true) => ?_, fun (h : (_ : Bool) = false) => ?_⟩ <;> (try simp only [decide_eq_true_eq, decide_eq_false_iff_not, Bool.not_eq_true', Bool.not_eq_false', Int.toNat_natCast, beq_iff_eq, decide_eq_decide, beq_eq_false_iff_ne, ne_eq, reduceCtorEq] at h) <;> (conv => whnf))
      | (refine .inl ⟨_, ac_r04_Valid (H.devices.getD i default).room, ?_⟩; conv => whnf)
      | (refine .inl ⟨_, ac_r22_parts H (H.devices.getD i default) hH, ?_⟩; conv => whnf)
      | (refine And.intro (by (try simp only [Int.toNat_natCast]); omega) ?_; conv => whnf)
      | (refine And.intro (show (_ : Bool) = true from by kernel_rfl) ?_; conv => whnf)
      | (refine .inl ⟨wrap64 (by omega), ?_⟩; conv => whnf)))
    · have e := anyN_true (n := i) (k := k) (p := fun j => decide ((H.devices.getD j default).eui = (H.devices.getD i default).eui)) (by omega) (by simpa [-List.getD_eq_getElem?_getD] using h)
      exact PSub.int (by rw [if_pos e])
    · refine ⟨k + 1, [], ⟨by omega, ?_⟩, by first | omega | (dsimp only; omega), ?_⟩
      rotate_left
      · (repeat' (first | exact PSub.rfl | exact rfl | exact PSubs.rfl | exact trivial | exact PSub.lit_sb rfl | refine And.intro ?_ ?_))
      intro j hj
      by_cases e : j = k
      · subst e; first | exact h | simpa [-List.getD_eq_getElem?_getD] using h | simp_all [-List.getD_eq_getElem?_getD]
      · exact hinv j (by omega)
    · have e := anyN_false (n := i) (p := fun j => decide ((H.devices.getD j default).eui = (H.devices.getD i default).eui)) (fun j hj => hinv j (by omega))
      exact PSub.int (by rw [e, if_neg (by simp), if_pos h])
    · have e := anyN_false (n := i) (p := fun j => decide ((H.devices.getD j default).eui = (H.devices.getD i default).eui)) (fun j hj => hinv j (by omega))
      exact PSub.int (by rw [e, if_neg (by simp), if_neg (by rw [h]; decide)])
end Go.Abs

namespace Go.Abs
open Go.Proofs
set_option maxRecDepth 10000
theorem ac_r22_Check (H : Hom) (hH : smallH H) : AC Tryz.prog 67 [.pv (.agg (cHom H))] [] (.pv (vint (homE H))) [] := by
  have hl : H.devices.length ≤ 1048576 := hH.2.1
  refine AC.of_awp (T := T) T_ok hm Tryz.call67 Tryz.func67 rfl rfl rfl ?_
  conv => whnf
  refine .inl ⟨_, ac_r21_All H.clusters hH.1, ?_⟩
  conv => whnf
  refine ⟨fun h => ?_, fun h => ?_⟩ <;> (try simp only [decide_eq_true_eq, decide_eq_false_iff_not, Bool.not_eq_true', Bool.not_eq_false', Int.toNat_natCast, beq_iff_eq, decide_eq_decide, beq_eq_false_iff_ne, ne_eq, reduceCtorEq] at h) <;> (conv => whnf)
  · exact PSub.int (by rw [homE, if_pos h])
  rw [homE, if_neg (by simpa using h)]
  refine ⟨fun h => ?_, fun h => ?_⟩ <;> (try simp only [decide_eq_true_eq, decide_eq_false_iff_not, Bool.not_eq_true', Bool.not_eq_false', Int.toNat_natCast, beq_iff_eq, decide_eq_decide, beq_eq_false_iff_ne, ne_eq, reduceCtorEq] at h) <;> (conv => whnf)
  · exact PSub.int (by rw [if_pos (by omega)])
  rw [if_neg (by omega)]
  refine loop_k (ι := Nat) [1] [1] (fun k => k ≤ H.devices.length ∧ (∀ j, j < k → devE (firstC H.clusters) H.devices j = 0)) (fun k => H.devices.length - k) 0 (fun k => [(4, .pv (vint k))]) (fun _ => []) [] ⟨Nat.zero_le _, fun j h => absurd h (by omega)⟩ ?_ (fun k hk => ?_)
  · (repeat' (first | exact PSub.rfl | exact rfl | exact PSubs.rfl | exact trivial | exact PSub.lit_sb rfl | refine And.intro ?_ ?_))
  obtain ⟨hkn, hinv⟩ := hk
  conv => whnf
  refine ⟨fun h => ?_, fun h => ?_⟩ <;> (try simp only [decide_eq_true_eq, decide_eq_false_iff_not, Bool.not_eq_true', Bool.not_eq_false', Int.toNat_natCast, beq_iff_eq, decide_eq_decide, beq_eq_false_iff_ne, ne_eq, reduceCtorEq] at h) <;> (conv => whnf)
  · refine .inl ⟨_, ac_r22_one H k hH (by omega), ?_⟩
    conv => whnf
    repeat (any_goals (first
      | (refine ⟨fun (h : (_ : Bool) = true) => ?_, fun (h : (_ : Bool) = false) => ?_⟩ <;> (try simp only [decide_eq_true_eq, decide_eq_false_iff_not, Bool.not_eq_true', Bool.not_eq_false', Int.toNat_natCast, beq_iff_eq, decide_eq_decide, beq_eq_false_iff_ne, ne_eq, reduceCtorEq] at h) <;> (conv => whnf))
      | (refine And.intro (by (try simp only [Int.toNat_natCast]); omega) ?_; conv => whnf)
      | (refine And.intro (show (_ : Bool) = true from by kernel_rfl) ?_; conv => whnf)
      | (refine .inl ⟨wrap64 (by omega), ?_⟩; conv => whnf)))
    · exact PSub.int (by rw [firstE_at (k := k) (by omega) h hinv])
    · refine ⟨k + 1, [], ⟨by omega, ?_⟩, by first | omega | (dsimp only; omega), ?_⟩
      rotate_left
      · (repeat' (first | exact PSub.rfl | exact rfl | exact PSubs.rfl | exact trivial | exact PSub.lit_sb rfl | refine And.intro ?_ ?_))
      intro j hj
      by_cases e : j = k
      · subst e; first | exact h | simpa [-List.getD_eq_getElem?_getD] using h | simp_all [-List.getD_eq_getElem?_getD]
      · exact hinv j (by omega)
  · exact PSub.int (by rw [firstE_none fun j hj => hinv j (by omega)])
end Go.Abs

namespace Go.Abs
open Go.Proofs
set_option maxRecDepth 10000
theorem forI_steps {ρ σ : Type} {f : Nat → σ → ρ ⊕ σ} : ∀ (n k : Nat) (s s' : σ), forI f n k s = .inr s' → ∀ i, k ≤ i → i < k + n → ∃ t t', f i t = .inr t'
  | 0, k, s, s', _, i, h1, h2 => by omega
  | n + 1, k, s, s', e, i, h1, h2 => by
    simp only [forI] at e
    cases hf : f k s with
    | inl r => rw [hf] at e; cases e
    | inr t =>
      rw [hf] at e
      by_cases hi : i = k
      · subst hi; exact ⟨s, t, hf⟩
      · exact forI_steps n (k + 1) t s' e i (by omega) (by omega)
theorem capE_some {f : ByteArray → Option Clu} {d : Dev} (h : capE f d = 0) {i : Nat} (hi : i < d.clusters.length) : ∃ c, f (d.clusters.getD i default) = some c := by
  unfold capE at h
  split at h
  · cases h
  · split at h
    · rename_i e he
      subst h
      exfalso
      have key : ∀ n k s, forI (capStep f d) n k s ≠ .inl 0 := by
        intro n
        induction n with
        | zero => intro k s e; cases e
        | succ n ih =>
          intro k s e
          simp only [forI] at e
          cases hf : capStep f d k s with
          | inr t => rw [hf] at e; exact ih _ _ e
          | inl r =>
            rw [hf] at e; cases e
            unfold capStep at hf
            split at hf
            · cases hf
            · split at hf <;> cases hf
      exact key _ _ _ he
    · rename_i m he
      obtain ⟨t, t', e⟩ := forI_steps _ _ _ _ he i (Nat.zero_le _) (by omega)
      unfold capStep at e
      split at e
      · cases e
      · rename_i c hc; exact ⟨c, hc⟩
theorem idxOf_mem {l : List ByteArray} {s : ByteArray} (h : 0 ≤ idxOf l s) : ∃ i, i < l.length ∧ l.getD i default = s := by
  unfold idxOf at h
  split at h
  · rename_i i e
    rw [List.findIdx?_eq_some_iff_getElem] at e
    obtain ⟨hi, he, _⟩ := e
    exact ⟨i, hi, by simpa [List.getD, hi] using he⟩
  · omega
theorem devIx_find {H : Hom} {id : Int} (hv : homE H = 0) : (devIx H.devices id < 0 ∧ findB H id = false) ∨ (devIx H.devices id = (devAt H.devices id : Int) ∧ devAt H.devices id < H.devices.length ∧ findB H id = true ∧ findD H id = H.devices.getD (devAt H.devices id) default) := by
  have : findB H id = decide (devAt H.devices id < H.devices.length) := by simp [findB, hv]
  unfold devIx
  split
  · rename_i h
    have e : findB H id = true := by simp [this, h]
    exact .inr ⟨rfl, h, e, by rw [findD, if_pos e]⟩
  · rename_i h; exact .inl ⟨by omega, by simp [this, h]⟩
end Go.Abs

namespace Go.Abs
open Go.Proofs
set_option maxRecDepth 10000
theorem attrOf_some {c : Clu} {s : ByteArray} : attrOf c.attrs s = (attrO (some c) s).getD noAttr ∧ decide (attrAt c.attrs s < c.attrs.length) = (attrO (some c) s).isSome := by
  unfold attrOf attrO
  simp only
  split <;> simp [*]
theorem ac_r22_Part (H : Hom) (id : Int) (s : ByteArray) (hH : smallH H) : AC Tryz.prog 197 [.pv (.agg (cHom H)), .pv (vint id), .pv (vstr s)] [] (.pv (.tup [.agg (cClu ((partO H id s).getD noClu)), vbool (partO H id s).isSome])) [] := by
  have hl : H.clusters.length ≤ 1048576 := hH.1.1
  have hd4 := @findD_length H id
  refine AC.of_awp (T := T) T_ok hm Tryz.call197 Tryz.func197 rfl rfl rfl ?_
  conv => whnf
  refine .inl ⟨_, ac_r22_At H id hH, ?_⟩
  conv => whnf
  refine ⟨fun h => ?_, fun h => ?_⟩
  · simp only [decide_eq_true_eq] at h
    conv => whnf
    have e : partO H id s = none := by
      rw [partO, if_neg]
      rintro ⟨h1, _⟩
      simp only [findB, Bool.and_eq_true, decide_eq_true_eq] at h1
      rcases devIx_find (id := id) h1.1 with h2 | h2
      · have := h2.2; simp [findB, h1] at this
      · omega
    rw [e]
    refine ⟨?_, ?_⟩ <;> (conv => whnf)
    · exact noClu_cells
    · exact PSub.lit_sb rfl
  simp only [decide_eq_false_iff_not] at h
  conv => whnf
  refine .inl ⟨_, ac_r22_Check H hH, ?_⟩
  conv => whnf
  refine ⟨fun hv => ?_, fun hv => ?_⟩
  · conv => whnf
    simp at hv
    have e : partO H id s = none := by rw [partO, if_neg (by simp [findB, hv])]
    rw [e]
    refine ⟨?_, ?_⟩ <;> (conv => whnf)
    · exact noClu_cells
    · exact PSub.lit_sb rfl
  simp at hv
  rcases devIx_find (id := id) hv with h2 | ⟨h2, h3, h4, h5⟩
  · omega
  rw [h2]
  conv => whnf
  refine And.intro (by omega) ?_
  rw [Int.toNat_natCast]
  conv => whnf
  have hcap := findD_cap h4
  repeat (any_goals (first
    | (refine ⟨fun (h : (_ : Bool) = true) => ?_, fun (h : (_ : Bool) = false) => ?_⟩ <;> (try simp only [decide_eq_true_eq, decide_eq_false_iff_not, Bool.not_eq_true', Bool.not_eq_false', Int.toNat_natCast, beq_iff_eq, decide_eq_decide, beq_eq_false_iff_ne, ne_eq, reduceCtorEq] at h) <;> (conv => whnf))
    | (refine .inl ⟨_, ac_r04_Index (H.devices.getD (devAt H.devices id) default).clusters s (by rw [← h5]; omega), ?_⟩; conv => whnf)
    | (refine And.intro (by (try simp only [Int.toNat_natCast]); omega) ?_; conv => whnf)
    | (refine And.intro (show (_ : Bool) = true from by kernel_rfl) ?_; conv => whnf)
    | (refine .inl ⟨wrap64 (by omega), ?_⟩; conv => whnf)))
  all_goals rw [← h5] at h
  · have e : partO H id s = none := by rw [partO, if_neg (by omega)]
    rw [e]
    refine ⟨?_, ?_⟩ <;> (conv => whnf)
    · exact noClu_cells
    · exact PSub.lit_sb rfl
  · have hp : partO H id s = firstC H.clusters s := by rw [partO, if_pos ⟨h4, by omega⟩]
    obtain ⟨i, hi, he⟩ := idxOf_mem (by omega : 0 ≤ idxOf (findD H id).clusters s)
    obtain ⟨c, h1⟩ := capE_some hcap hi
    rw [he] at h1
    repeat (any_goals (first
      | (refine ⟨fun (h : (_ : Bool) = true) => ?_, fun (h : (_ : Bool) = false) => ?_⟩ <;> (try simp only [decide_eq_true_eq, decide_eq_false_iff_not, Bool.not_eq_true', Bool.not_eq_false', Int.toNat_natCast, beq_iff_eq, decide_eq_decide, beq_eq_false_iff_ne, ne_eq, reduceCtorEq] at h) <;> (conv => whnf))
      | (refine .inl ⟨_, ac_r22_cluster H s hH, ?_⟩; conv => whnf)
      | (refine And.intro (by (try simp only [Int.toNat_natCast]); omega) ?_; conv => whnf)
      | (refine And.intro (show (_ : Bool) = true from by kernel_rfl) ?_; conv => whnf)
      | (refine .inl ⟨wrap64 (by omega), ?_⟩; conv => whnf)))
    rcases firstC_ix (l := H.clusters) (s := s) with ⟨_, h6⟩ | ⟨j, h6, h7, h8⟩
    · rw [h1] at h6; cases h6
    rw [h6]
    repeat (any_goals (first
      | (refine ⟨fun (h : (_ : Bool) = true) => ?_, fun (h : (_ : Bool) = false) => ?_⟩ <;> (try simp only [decide_eq_true_eq, decide_eq_false_iff_not, Bool.not_eq_true', Bool.not_eq_false', Int.toNat_natCast, beq_iff_eq, decide_eq_decide, beq_eq_false_iff_ne, ne_eq, reduceCtorEq] at h) <;> (conv => whnf))
      | (refine And.intro (by (try simp only [Int.toNat_natCast]); omega) ?_; conv => whnf)
      | (refine And.intro (show (_ : Bool) = true from by kernel_rfl) ?_; conv => whnf)
      | (refine .inl ⟨wrap64 (by omega), ?_⟩; conv => whnf)))
    rw [hp, h8]
    refine ⟨?_, ?_⟩ <;> (conv => whnf)
    · exact .rfl
    · exact PSub.lit_sb rfl
theorem small_part {H : Hom} {id : Int} {s : ByteArray} (hH : smallH H) : smallK ((partO H id s).getD noClu) := by
  unfold partO
  split
  · cases h : firstC H.clusters s with
    | none => exact smallK_noClu
    | some c => exact firstC_small hH.1 h
  · exact smallK_noClu
theorem ac_r22_Find (H : Hom) (k : Key) (hH : smallH H) : AC Tryz.prog 150 [.pv (.agg (cHom H)), .pv (.agg (cKey k))] [] (.pv (.tup [.agg (cAttr ((findA H k).getD noAttr)), vbool (findA H k).isSome])) [] := by
  refine AC.of_awp (T := T) T_ok hm Tryz.call150 Tryz.func150 rfl rfl rfl ?_
  conv => whnf
  repeat (any_goals (first
    | (refine ⟨fun (h : (_ : Bool) = true) => ?_, fun (h : (_ : Bool) = false) => ?_⟩ <;> (try simp only [decide_eq_true_eq, decide_eq_false_iff_not, Bool.not_eq_true', Bool.not_eq_false', Int.toNat_natCast, beq_iff_eq, decide_eq_decide, beq_eq_false_iff_ne, ne_eq, reduceCtorEq] at h) <;> (conv => whnf))
    | (refine .inl ⟨_, ac_r22_Part H k.dev k.cluster hH, ?_⟩; conv => whnf)
    | (refine .inl ⟨_, ac_r21_Attr ((partO H k.dev k.cluster).getD noClu) k.attr (small_part hH), ?_⟩; conv => whnf)
    | (refine And.intro (by (try simp only [Int.toNat_natCast]); omega) ?_; conv => whnf)
    | (refine And.intro (show (_ : Bool) = true from by kernel_rfl) ?_; conv => whnf)
    | (refine .inl ⟨wrap64 (by omega), ?_⟩; conv => whnf)))
  · have e : findA H k = none := by
      rw [findA]
      cases h3 : partO H k.dev k.cluster with
      | none => rfl
      | some c => rw [h3] at h; cases h
    rw [e]
    refine ⟨?_, ?_⟩ <;> (conv => whnf)
    · exact noAttr_cells2
    · exact PSub.lit_sb rfl
  · cases h3 : partO H k.dev k.cluster with
    | none => rw [h3] at h; cases h
    | some c =>
      rw [findA, h3]
      obtain ⟨e1, e2⟩ := @attrOf_some c k.attr
      refine ⟨?_, ?_⟩ <;> (conv => whnf)
      · simp only [Option.getD_some]; rw [e1]; exact .rfl
      · simp only [Option.getD_some]; rw [e2]; exact .rfl
theorem ac_r22_Safe (H : Hom) (k : Key) (hH : smallH H) : AC Tryz.prog 111 [.pv (.agg (cHom H)), .pv (.agg (cKey k))] [] (.pv (vbool (safeB H k))) [] := by
  refine AC.of_awp (T := T) T_ok hm Tryz.call111 Tryz.func111 rfl rfl rfl ?_
  conv => whnf
  repeat (any_goals (first
    | (refine ⟨fun (h : (_ : Bool) = true) => ?_, fun (h : (_ : Bool) = false) => ?_⟩ <;> (try simp only [decide_eq_true_eq, decide_eq_false_iff_not, Bool.not_eq_true', Bool.not_eq_false', Int.toNat_natCast, beq_iff_eq, decide_eq_decide, beq_eq_false_iff_ne, ne_eq, reduceCtorEq] at h) <;> (conv => whnf))
    | (refine .inl ⟨_, ac_r22_Find H k hH, ?_⟩; conv => whnf)
    | (refine And.intro (by (try simp only [Int.toNat_natCast]); omega) ?_; conv => whnf)
    | (refine And.intro (show (_ : Bool) = true from by kernel_rfl) ?_; conv => whnf)
    | (refine .inl ⟨wrap64 (by omega), ?_⟩; conv => whnf)))
  · exact .rfl
  · exact PSub.lit_sb (by cases h3 : findA H k <;> simp_all [safeB, noAttr])
end Go.Abs

namespace Go.Abs
open Go.Proofs Go.RowKit
set_option maxRecDepth 10000
section
variable {H : Type} {enc : TypeId × Value → H} {w : World} {bulk : DataW H → Nat}
theorem op_uint64 : Opens enc Tryz.prog w bulk BB 71 (fun n : Int => [.val (.int .u64 n)]) (fun _ => True) := (Opens.int Tryz.underlying71).imp id (fun _ => rfl) (fun _ _ => trivial)
theorem op_Attr (hB : BulkOk bulk) : Opens enc Tryz.prog w bulk BB 100 cAttr smallA :=
  (Opens.struct hB Tryz.underlying100 (by kernel_rfl) (.cons (size := 1) rfl (by kernel_rfl) (op_string hB) (.cons (size := 1) rfl (by kernel_rfl) op_int (.cons (size := 1) rfl (by kernel_rfl) op_int (.cons (size := 1) rfl (by kernel_rfl) op_int (.cons (size := 1) rfl (by kernel_rfl) (op_l_string hB) (.cons (size := 1) rfl (by kernel_rfl) op_bool (.cons (size := 1) rfl (by kernel_rfl) op_bool .nil)))))))).imp
    (fun x => ⟨x.1, x.2.1, x.2.2.1, x.2.2.2.1, x.2.2.2.2.1, x.2.2.2.2.2.1, x.2.2.2.2.2.2.1⟩) (fun _ => rfl) (fun _ h => h.2.2.2.2.1)
theorem getD_all {α : Type} [Inhabited α] {l : List α} {p : α → Prop} (h : ∀ i, i < l.length → p (l.getD i default)) (hd : p default) (i : Nat) : p (l.getD i default) := by
  by_cases hi : i < l.length
  · exact h i hi
  · have : l.getD i default = default := by simp [List.getD, Nat.le_of_not_lt hi]
    rw [this]; exact hd
theorem op_l_Attr (hB : BulkOk bulk) : Opens enc Tryz.prog w bulk BB 67 (fun l : List Attr => [roL 7 cAttr l]) (fun l => smallL l ∧ ∀ i, smallA (l.getD i default)) :=
  (Opens.slice hB Tryz.underlying67 (by kernel_rfl) (by decide) (op_Attr hB)).imp id (fun _ => rfl) (fun _ h => ⟨h.1, getD_all h.2 (Nat.zero_le _)⟩)
theorem op_Effect (hB : BulkOk bulk) : Opens enc Tryz.prog w bulk BB 97 cEff (fun _ => True) :=
  (Opens.struct hB Tryz.underlying97 (by kernel_rfl) (.cons (size := 1) rfl (by kernel_rfl) op_int (.cons (size := 1) rfl (by kernel_rfl) (op_string hB) (.cons (size := 1) rfl (by kernel_rfl) op_int .nil)))).imp (fun x => ⟨x.1, x.2.1, x.2.2.1⟩) (fun _ => rfl) (fun _ _ => trivial)
theorem op_l_Effect (hB : BulkOk bulk) : Opens enc Tryz.prog w bulk BB 98 (fun l : List Eff => [roL 3 cEff l]) smallL :=
  (Opens.slice hB Tryz.underlying98 (by kernel_rfl) (by decide) (op_Effect hB)).imp id (fun _ => rfl) (fun _ h => h.1)
theorem op_Command (hB : BulkOk bulk) : Opens enc Tryz.prog w bulk BB 102 cCmd smallC :=
  (Opens.struct hB Tryz.underlying102 (by kernel_rfl) (.cons (size := 1) rfl (by kernel_rfl) (op_string hB) (.cons (size := 7) rfl (by kernel_rfl) (op_Attr hB) (.cons (size := 1) rfl (by kernel_rfl) (op_l_Effect hB) .nil)))).imp (fun x => ⟨x.1, x.2.1, x.2.2.1⟩) (fun _ => rfl) (fun _ h => ⟨h.2.1, h.2.2.1⟩)
theorem op_l_Command (hB : BulkOk bulk) : Opens enc Tryz.prog w bulk BB 68 (fun l : List Cmd => [roL 9 cCmd l]) (fun l => smallL l ∧ ∀ i, smallC (l.getD i default)) :=
  (Opens.slice hB Tryz.underlying68 (by kernel_rfl) (by decide) (op_Command hB)).imp id (fun _ => rfl) (fun _ h => ⟨h.1, getD_all h.2 ⟨Nat.zero_le _, Nat.zero_le _⟩⟩)
theorem op_Cluster (hB : BulkOk bulk) : Opens enc Tryz.prog w bulk BB 70 cClu smallK :=
  (Opens.struct hB Tryz.underlying70 (by kernel_rfl) (.cons (size := 1) rfl (by kernel_rfl) (op_string hB) (.cons (size := 1) rfl (by kernel_rfl) (op_l_Attr hB) (.cons (size := 1) rfl (by kernel_rfl) (op_l_Command hB) (.cons (size := 1) rfl (by kernel_rfl) (op_l_string hB) .nil))))).imp (fun x => ⟨x.1, x.2.1, x.2.2.1, x.2.2.2.1⟩) (fun _ => rfl) (fun _ h => ⟨h.2.1.1, h.2.1.2, h.2.2.1.1, h.2.2.1.2, h.2.2.2.1⟩)
theorem small_default : smallK default := ⟨Nat.zero_le _, fun _ => Nat.zero_le _, Nat.zero_le _, fun _ => ⟨Nat.zero_le _, Nat.zero_le _⟩, Nat.zero_le _⟩
theorem op_l_Cluster (hB : BulkOk bulk) : Opens enc Tryz.prog w bulk BB 22 (fun l : List Clu => [roL 4 cClu l]) smallKs :=
  (Opens.slice hB Tryz.underlying22 (by kernel_rfl) (by decide) (op_Cluster hB)).imp id (fun _ => rfl) (fun _ h => ⟨h.1, getD_all h.2 small_default⟩)
theorem op_Device (hB : BulkOk bulk) : Opens enc Tryz.prog w bulk BB 73 cDev smallD :=
  (Opens.struct hB Tryz.underlying73 (by kernel_rfl) (.cons (size := 1) rfl (by kernel_rfl) op_int (.cons (size := 1) rfl (by kernel_rfl) op_uint64 (.cons (size := 1) rfl (by kernel_rfl) op_int (.cons (size := 1) rfl (by kernel_rfl) op_bool (.cons (size := 1) rfl (by kernel_rfl) op_int (.cons (size := 1) rfl (by kernel_rfl) (op_string hB) (.cons (size := 1) rfl (by kernel_rfl) (op_l_string hB) .nil)))))))).imp
    (fun x => ⟨x.1, x.2.1, x.2.2.1, x.2.2.2.1, x.2.2.2.2.1, x.2.2.2.2.2.1, x.2.2.2.2.2.2.1⟩) (fun _ => rfl) (fun _ h => ⟨h.2.2.2.2.2.2.1, h.1.1, h.1.2⟩)
theorem op_l_Device (hB : BulkOk bulk) : Opens enc Tryz.prog w bulk BB 23 (fun l : List Dev => [roL 7 cDev l]) (fun l => smallL l ∧ ∀ i, smallD (l.getD i default)) :=
  (Opens.slice hB Tryz.underlying23 (by kernel_rfl) (by decide) (op_Device hB)).imp id (fun _ => rfl) (fun _ h => ⟨h.1, getD_all h.2 ⟨Nat.zero_le _, by decide, by decide⟩⟩)
theorem op_Home (hB : BulkOk bulk) : Opens enc Tryz.prog w bulk BB 25 cHom smallH :=
  (Opens.struct hB Tryz.underlying25 (by kernel_rfl) (.cons (size := 1) rfl (by kernel_rfl) (op_l_Cluster hB) (.cons (size := 1) rfl (by kernel_rfl) (op_l_Device hB) .nil))).imp (fun x => ⟨x.1, x.2.1⟩) (fun _ => rfl) (fun _ h => ⟨h.1, h.2.1.1, h.2.1.2⟩)
end
end Go.Abs

namespace Go.Abs
open Go.Proofs
set_option maxRecDepth 10000
theorem allI_two {l : List Int} {k : Int} (h : l.length = 2) : allI l k = decide (l.getD 0 default = k ∧ l.getD 1 default = k) := by
  obtain ⟨a, b, rfl⟩ : ∃ a b, l = [a, b] := by
    match l, h with
    | [a, b], _ => exact ⟨a, b, rfl⟩
  simp [allI]
end Go.Abs

namespace Go.Abs
open Go.Proofs
set_option maxRecDepth 10000
theorem allI_false {l : List Int} {k : Int} {q : Nat} (hq : q < l.length) (h : ¬ l.getD q default = k) : allI l k = false := by
  rw [← Bool.not_eq_true]
  intro h2
  simp only [allI, List.all_eq_true, decide_eq_true_eq] at h2
  exact h (h2 _ (by simp [List.getD, hq]))
theorem allI_true {l : List Int} {k : Int} (h : ∀ i, i < l.length → l.getD i default = k) : allI l k = true := by
  simp only [allI, List.all_eq_true, decide_eq_true_eq]
  intro x hx
  obtain ⟨i, hi, rfl⟩ := List.getElem_of_mem hx
  have := h i hi
  simpa [List.getD, hi] using this
set_option maxHeartbeats 1000000 in
theorem ac_r31_operation (k : Int) (l : List Int) (h0 : 6 ≤ k ∧ k ≤ 14) (hl : kidsB k l.length = true) : AC Tryz.prog 196 [.pv (vint k), .pv (roL 1 cint l)] [] (.pv (.tup [vint (opK k l).1, vint (opK k l).2])) [] := by
  have hlen : (k = 6 ∧ l.length = 1) ∨ ((k = 7 ∨ k = 8) ∧ 2 ≤ l.length ∧ l.length ≤ 8) ∨ (9 ≤ k ∧ k ≤ 13 ∧ l.length = 2) ∨ (k = 14 ∧ l.length = 3) := by
    unfold kidsB at hl
    (repeat' split at hl) <;> simp only [decide_eq_true_eq, Bool.and_eq_true] at hl <;> omega
  refine AC.of_awp (T := T) T_ok hm Tryz.call196 Tryz.func196 rfl rfl rfl ?_
  conv => whnf
  by_cases hb : k = 6 ∨ k = 7 ∨ k = 8
  · have hop : opK k l = if allI l 1 = true then (1, 0) else (0, 11) := by unfold opK; rw [if_pos hb]
    repeat (any_goals (first
      | (refine ⟨fun (h : (_ : Bool) = true) => ?_, fun (h : (_ : Bool) = false) => ?_⟩ <;> (try simp only [decide_eq_true_eq, decide_eq_false_iff_not, Bool.not_eq_true', Bool.not_eq_false', Int.toNat_natCast, beq_iff_eq, decide_eq_decide, beq_eq_false_iff_ne, ne_eq, reduceCtorEq] at h) <;> (conv => whnf))
      | (refine And.intro (by (try simp only [Int.toNat_natCast]); omega) ?_; conv => whnf)
      | (refine And.intro (show (_ : Bool) = true from by kernel_rfl) ?_; conv => whnf)
      | (refine .inl ⟨wrap64 (by omega), ?_⟩; conv => whnf)))
    all_goals (try (exfalso; omega))
    · refine loop_k (ι := Nat) [0, 1] [] (fun q => q ≤ l.length ∧ ∀ i, i < q → l.getD i default = 1) (fun q => l.length - q) 0 (fun q => [(6, .pv (vint q))]) (fun _ => []) [] ⟨Nat.zero_le _, fun i h => absurd h (by omega)⟩ ?_ (fun q hk => ?_)
      · (repeat' (first | exact PSub.rfl | exact rfl | exact PSubs.rfl | exact trivial | exact PSub.lit_sb rfl | refine And.intro ?_ ?_))
      obtain ⟨hkn, hinv⟩ := hk
      conv => whnf
      repeat (any_goals (first
        | (refine ⟨fun (h : (_ : Bool) = true) => ?_, fun (h : (_ : Bool) = false) => ?_⟩ <;> (try simp only [decide_eq_true_eq, decide_eq_false_iff_not, Bool.not_eq_true', Bool.not_eq_false', Int.toNat_natCast, beq_iff_eq, decide_eq_decide, beq_eq_false_iff_ne, ne_eq, reduceCtorEq] at h) <;> (conv => whnf))
        | (refine And.intro (by (try simp only [Int.toNat_natCast]); omega) ?_; conv => whnf)
        | (refine And.intro (show (_ : Bool) = true from by kernel_rfl) ?_; conv => whnf)
        | (refine .inl ⟨wrap64 (by omega), ?_⟩; conv => whnf)))
      · rw [hop, allI_false (by omega) h, if_neg (by simp)]
        refine ⟨?_, ?_⟩ <;> (conv => whnf)
        all_goals exact PSub.rfl
      · refine ⟨q + 1, [], ⟨by omega, ?_⟩, by first | omega | (dsimp only; omega), ?_⟩
        rotate_left
        · (repeat' (first | exact PSub.rfl | exact rfl | exact PSubs.rfl | exact trivial | exact PSub.lit_sb rfl | refine And.intro ?_ ?_))
        intro j hj
        by_cases e : j = q
        · subst e; first | exact h | simpa [-List.getD_eq_getElem?_getD] using h | simp_all [-List.getD_eq_getElem?_getD]
        · exact hinv j (by omega)
      · rw [hop, allI_true fun i hi => hinv i (by omega), if_pos rfl]
        refine ⟨?_, ?_⟩ <;> (conv => whnf)
        all_goals exact PSub.rfl
    · refine loop_k (ι := Nat) [0, 1] [] (fun q => q ≤ l.length ∧ ∀ i, i < q → l.getD i default = 1) (fun q => l.length - q) 0 (fun q => [(6, .pv (vint q))]) (fun _ => []) [] ⟨Nat.zero_le _, fun i h => absurd h (by omega)⟩ ?_ (fun q hk => ?_)
      · (repeat' (first | exact PSub.rfl | exact rfl | exact PSubs.rfl | exact trivial | exact PSub.lit_sb rfl | refine And.intro ?_ ?_))
      obtain ⟨hkn, hinv⟩ := hk
      conv => whnf
      repeat (any_goals (first
        | (refine ⟨fun (h : (_ : Bool) = true) => ?_, fun (h : (_ : Bool) = false) => ?_⟩ <;> (try simp only [decide_eq_true_eq, decide_eq_false_iff_not, Bool.not_eq_true', Bool.not_eq_false', Int.toNat_natCast, beq_iff_eq, decide_eq_decide, beq_eq_false_iff_ne, ne_eq, reduceCtorEq] at h) <;> (conv => whnf))
        | (refine And.intro (by (try simp only [Int.toNat_natCast]); omega) ?_; conv => whnf)
        | (refine And.intro (show (_ : Bool) = true from by kernel_rfl) ?_; conv => whnf)
        | (refine .inl ⟨wrap64 (by omega), ?_⟩; conv => whnf)))
      · rw [hop, allI_false (by omega) h, if_neg (by simp)]
        refine ⟨?_, ?_⟩ <;> (conv => whnf)
        all_goals exact PSub.rfl
      · refine ⟨q + 1, [], ⟨by omega, ?_⟩, by first | omega | (dsimp only; omega), ?_⟩
        rotate_left
        · (repeat' (first | exact PSub.rfl | exact rfl | exact PSubs.rfl | exact trivial | exact PSub.lit_sb rfl | refine And.intro ?_ ?_))
        intro j hj
        by_cases e : j = q
        · subst e; first | exact h | simpa [-List.getD_eq_getElem?_getD] using h | simp_all [-List.getD_eq_getElem?_getD]
        · exact hinv j (by omega)
      · rw [hop, allI_true fun i hi => hinv i (by omega), if_pos rfl]
        refine ⟨?_, ?_⟩ <;> (conv => whnf)
        all_goals exact PSub.rfl
    · refine loop_k (ι := Nat) [0, 1] [] (fun q => q ≤ l.length ∧ ∀ i, i < q → l.getD i default = 1) (fun q => l.length - q) 0 (fun q => [(6, .pv (vint q))]) (fun _ => []) [] ⟨Nat.zero_le _, fun i h => absurd h (by omega)⟩ ?_ (fun q hk => ?_)
      · (repeat' (first | exact PSub.rfl | exact rfl | exact PSubs.rfl | exact trivial | exact PSub.lit_sb rfl | refine And.intro ?_ ?_))
      obtain ⟨hkn, hinv⟩ := hk
      conv => whnf
      repeat (any_goals (first
        | (refine ⟨fun (h : (_ : Bool) = true) => ?_, fun (h : (_ : Bool) = false) => ?_⟩ <;> (try simp only [decide_eq_true_eq, decide_eq_false_iff_not, Bool.not_eq_true', Bool.not_eq_false', Int.toNat_natCast, beq_iff_eq, decide_eq_decide, beq_eq_false_iff_ne, ne_eq, reduceCtorEq] at h) <;> (conv => whnf))
        | (refine And.intro (by (try simp only [Int.toNat_natCast]); omega) ?_; conv => whnf)
        | (refine And.intro (show (_ : Bool) = true from by kernel_rfl) ?_; conv => whnf)
        | (refine .inl ⟨wrap64 (by omega), ?_⟩; conv => whnf)))
      · rw [hop, allI_false (by omega) h, if_neg (by simp)]
        refine ⟨?_, ?_⟩ <;> (conv => whnf)
        all_goals exact PSub.rfl
      · refine ⟨q + 1, [], ⟨by omega, ?_⟩, by first | omega | (dsimp only; omega), ?_⟩
        rotate_left
        · (repeat' (first | exact PSub.rfl | exact rfl | exact PSubs.rfl | exact trivial | exact PSub.lit_sb rfl | refine And.intro ?_ ?_))
        intro j hj
        by_cases e : j = q
        · subst e; first | exact h | simpa [-List.getD_eq_getElem?_getD] using h | simp_all [-List.getD_eq_getElem?_getD]
        · exact hinv j (by omega)
      · rw [hop, allI_true fun i hi => hinv i (by omega), if_pos rfl]
        refine ⟨?_, ?_⟩ <;> (conv => whnf)
        all_goals exact PSub.rfl
  · have ht : 9 ≤ k → k ≠ 14 → allI l 2 = decide (l.getD 0 default = 2 ∧ l.getD 1 default = 2) := fun h1 h2 => allI_two (by omega)
    repeat (any_goals (first
      | (refine ⟨fun (h : (_ : Bool) = true) => ?_, fun (h : (_ : Bool) = false) => ?_⟩ <;> (try simp only [decide_eq_true_eq, decide_eq_false_iff_not, Bool.not_eq_true', Bool.not_eq_false', Int.toNat_natCast, beq_iff_eq, decide_eq_decide, beq_eq_false_iff_ne, ne_eq, reduceCtorEq] at h) <;> (conv => whnf))
      | (refine And.intro (by (try simp only [Int.toNat_natCast]); omega) ?_; conv => whnf)
      | (refine And.intro (show (_ : Bool) = true from by kernel_rfl) ?_; conv => whnf)
      | (refine .inl ⟨wrap64 (by omega), ?_⟩; conv => whnf)))
    all_goals (try (exfalso; omega))
    all_goals (try (refine And.intro ?_ ?_ <;> (conv => whnf)))
    all_goals first
      | contradiction
      | (exfalso; omega)
      | exact PSub.rfl
      | (refine PSub.lit_sb ?_; (first | (simp [opK, *]; done) | (simp_all [opK]; done) | ((try simp only [opK]); (repeat' split) <;> (try simp only [Bool.false_eq, Bool.true_eq, Bool.and_eq_false_iff, decide_eq_false_iff_not, Bool.and_eq_true, decide_eq_true_eq, decide_eq_decide]) <;> first | rfl | omega | (simp_all; done) | (simp_all; omega))))
      | (refine PSub.sb ?_; (first | (simp [opK, *]; done) | (simp_all [opK]; done) | ((try simp only [opK]); (repeat' split) <;> (try simp only [Bool.false_eq, Bool.true_eq, Bool.and_eq_false_iff, decide_eq_false_iff_not, Bool.and_eq_true, decide_eq_true_eq, decide_eq_decide]) <;> first | rfl | omega | (simp_all; done) | (simp_all; omega))))
      | (refine PSub.sb_lit ?_; (first | (simp [opK, *]; done) | (simp_all [opK]; done) | ((try simp only [opK]); (repeat' split) <;> (try simp only [Bool.false_eq, Bool.true_eq, Bool.and_eq_false_iff, decide_eq_false_iff_not, Bool.and_eq_true, decide_eq_true_eq, decide_eq_decide]) <;> first | rfl | omega | (simp_all; done) | (simp_all; omega))))
      | (refine PSub.int ?_; (first | (simp [opK, *]; done) | (simp_all [opK]; done) | ((try simp only [opK]); (repeat' split) <;> (try simp only [Bool.false_eq, Bool.true_eq, Bool.and_eq_false_iff, decide_eq_false_iff_not, Bool.and_eq_true, decide_eq_true_eq, decide_eq_decide]) <;> first | rfl | omega | (simp_all; done) | (simp_all; omega))))
      | skip
set_option maxHeartbeats 1000000 in
theorem ac_r31_kind (s : Sco) (hs : smallS s) (e : Ex) (he : okE e) : AC Tryz.prog 149 [.pv (.agg (cSco s)), .pv (.agg (cEx e))] [] (.pv (.tup [vint (kindE s e).1, vint (kindE s e).2])) [] := by
  obtain ⟨hk1, hk2, hk3⟩ := (okE_iff e).1 he
  have ih : ∀ k, k < e.kids.length → AC Tryz.prog 149 [.pv (.agg (cSco s)), .pv (.agg (cEx (e.kids.getD k default)))] [] (.pv (.tup [vint (kindE s (e.kids.getD k default)).1, vint (kindE s (e.kids.getD k default)).2])) [] := fun k hk =>
    have := Ex.kid_lt (Ex.kid_at hk)
    ac_r31_kind s hs (e.kids.getD k default) (okL_at hk3 hk)
  have hlen := kidsB_lens hk2
  have hk8 : e.kids.length ≤ 8 := by
    by_cases h : 0 < (e.kids.length : Int)
    · have := hlen h; omega
    · omega
  refine AC.ex2 ?_
  refine AC.of_awp (T := T) T_ok hm Tryz.call149 Tryz.func149 rfl rfl rfl ?_
  conv => whnf
  refine loop_k (ι := Nat × List Int) [2, 3] [2, 3] (fun x => x.1 ≤ e.kids.length ∧ KTo s e.kids x.1 x.2) (fun x => e.kids.length - x.1) (0, []) (fun x => [(6, .own 500), (7, .pv (vint x.1))]) (fun x => [(500, rowL 1 cint x.2)]) [] ⟨Nat.zero_le _, KTo.zero s e.kids⟩ ?_ (fun x hk => ?_)
  · (repeat' (first | exact PSub.rfl | exact rfl | exact PSubs.rfl | exact trivial | exact PSub.lit_sb rfl | refine And.intro ?_ ?_))
  obtain ⟨k, acc⟩ := x
  obtain ⟨hkn, hinv⟩ := hk
  dsimp only at hkn hinv
  have hacc := hinv.1
  have hsm : smallL acc := show acc.length ≤ 1048576 from by omega
  conv => whnf
  refine ⟨fun h => ?_, fun h => ?_⟩ <;> (try simp only [decide_eq_true_eq, decide_eq_false_iff_not, Bool.not_eq_true', Bool.not_eq_false', Int.toNat_natCast, beq_iff_eq, decide_eq_decide, beq_eq_false_iff_ne, ne_eq, reduceCtorEq] at h) <;> (conv => whnf)
  · repeat (any_goals (first
      | (refine ⟨fun (h : (_ : Bool) = true) => ?_, fun (h : (_ : Bool) = false) => ?_⟩ <;> (try simp only [decide_eq_true_eq, decide_eq_false_iff_not, Bool.not_eq_true', Bool.not_eq_false', Int.toNat_natCast, beq_iff_eq, decide_eq_decide, beq_eq_false_iff_ne, ne_eq, reduceCtorEq] at h) <;> (conv => whnf))
      | (refine .inl ⟨_, ih k (by omega), ?_⟩; conv => whnf)
      | (refine And.intro (by (try simp only [Int.toNat_natCast]); omega) ?_; conv => whnf)
      | (refine And.intro (show (_ : Bool) = true from by kernel_rfl) ?_; conv => whnf)
      | (refine .inl ⟨wrap64 (by omega), ?_⟩; conv => whnf)))
    · have := hinv.err (by omega) h
      have hop := kindE_op (s := s) (e := e) (by omega)
      rw [this] at hop
      rw [hop]
      refine ⟨?_, ?_⟩ <;> (conv => whnf)
      all_goals exact PSub.rfl
    · refine ⟨(k + 1, acc ++ [(kindE s (e.kids.getD k default)).1]), [(500, 35)], ⟨by dsimp only; omega, hinv.next (by omega) h⟩, by dsimp only; omega, ?_⟩
      (repeat' (first | exact PSub.rfl | exact rfl | exact PSubs.rfl | exact trivial | exact PSub.lit_sb rfl | refine And.intro ?_ ?_))
      · dsimp only; rw [List.length_append]; simp [hacc]
      · refine rows_snocF (fun i hi => by simp only [if_pos hi]; exact PSubs.rfl) (by simp only [if_neg (Nat.lt_irrefl _), Nat.sub_self]; exact PSubs.rfl)
  have hdn := hinv.done (by omega)
  have hke : k = e.kids.length := by omega
  by_cases hz : e.kids.length = 0
  · have hlf := kindE_leaf (s := s) (e := e) hz
    have hk0 : e.kind ≤ 5 ∨ e.kind = 15 := by
      unfold kidsB at hk2
      (repeat' split at hk2) <;> simp only [decide_eq_true_eq, Bool.and_eq_true] at hk2 <;> omega
    rw [hlf]
    repeat (any_goals (first
      | (refine ⟨fun (h : (_ : Bool) = true) => ?_, fun (h : (_ : Bool) = false) => ?_⟩ <;> (try simp only [decide_eq_true_eq, decide_eq_false_iff_not, Bool.not_eq_true', Bool.not_eq_false', Int.toNat_natCast, beq_iff_eq, decide_eq_decide, beq_eq_false_iff_ne, ne_eq, reduceCtorEq] at h) <;> (conv => whnf))
      | (refine .inl ⟨_, ac_r22_Find s.home e.key hs.1, ?_⟩; conv => whnf)
      | (refine .inl ⟨_, ac_r04_Index s.modes e.name hs.2.1, ?_⟩; conv => whnf)
      | (refine And.intro (by (try simp only [Int.toNat_natCast]); omega) ?_; conv => whnf)
      | (refine And.intro (show (_ : Bool) = true from by kernel_rfl) ?_; conv => whnf)
      | (refine .inl ⟨wrap64 (by omega), ?_⟩; conv => whnf)))
    all_goals (try (exfalso; omega))
    all_goals (try (refine And.intro ?_ ?_ <;> (conv => whnf)))
    all_goals first
      | contradiction
      | (exfalso; omega)
      | exact PSub.rfl
      | (refine PSub.lit_sb ?_; (first | (simp [leafK, *]; done) | (simp_all [leafK]; done) | ((try simp only [leafK]); (repeat' split) <;> (try simp only [Bool.false_eq, Bool.true_eq, Bool.and_eq_false_iff, decide_eq_false_iff_not, Bool.and_eq_true, decide_eq_true_eq, decide_eq_decide]) <;> first | rfl | omega | (simp_all; done) | (simp_all; omega))))
      | (refine PSub.sb ?_; (first | (simp [leafK, *]; done) | (simp_all [leafK]; done) | ((try simp only [leafK]); (repeat' split) <;> (try simp only [Bool.false_eq, Bool.true_eq, Bool.and_eq_false_iff, decide_eq_false_iff_not, Bool.and_eq_true, decide_eq_true_eq, decide_eq_decide]) <;> first | rfl | omega | (simp_all; done) | (simp_all; omega))))
      | (refine PSub.sb_lit ?_; (first | (simp [leafK, *]; done) | (simp_all [leafK]; done) | ((try simp only [leafK]); (repeat' split) <;> (try simp only [Bool.false_eq, Bool.true_eq, Bool.and_eq_false_iff, decide_eq_false_iff_not, Bool.and_eq_true, decide_eq_true_eq, decide_eq_decide]) <;> first | rfl | omega | (simp_all; done) | (simp_all; omega))))
      | (refine PSub.int ?_; (first | (simp [leafK, *]; done) | (simp_all [leafK]; done) | ((try simp only [leafK]); (repeat' split) <;> (try simp only [Bool.false_eq, Bool.true_eq, Bool.and_eq_false_iff, decide_eq_false_iff_not, Bool.and_eq_true, decide_eq_true_eq, decide_eq_decide]) <;> first | rfl | omega | (simp_all; done) | (simp_all; omega))))
      | skip
  · have hop := kindE_op (s := s) (e := e) hz
    rw [hdn] at hop
    dsimp only at hop
    have hl2 := hlen (by omega)
    rw [hop]
    repeat (any_goals (first
      | (refine ⟨fun (h : (_ : Bool) = true) => ?_, fun (h : (_ : Bool) = false) => ?_⟩ <;> (try simp only [decide_eq_true_eq, decide_eq_false_iff_not, Bool.not_eq_true', Bool.not_eq_false', Int.toNat_natCast, beq_iff_eq, decide_eq_decide, beq_eq_false_iff_ne, ne_eq, reduceCtorEq] at h) <;> (conv => whnf))
      | (refine .inl ⟨_, ac_r31_operation e.kind acc (by omega) (by rw [hacc, hke]; exact hk2), ?_⟩; conv => whnf)
      | (refine And.intro (by (try simp only [Int.toNat_natCast]); omega) ?_; conv => whnf)
      | (refine And.intro (show (_ : Bool) = true from by kernel_rfl) ?_; conv => whnf)
      | (refine .inl ⟨wrap64 (by omega), ?_⟩; conv => whnf)))
    all_goals (try (exfalso; omega))
    all_goals (try (refine And.intro ?_ ?_ <;> (conv => whnf)))
    all_goals exact PSub.rfl
termination_by SizeOf.sizeOf e
theorem ac_r31_Expr (s : Sco) (e : Ex) (hs : smallS s) : AC Tryz.prog 108 [.pv (.agg (cSco s)), .pv (.agg (cEx e))] [] (.pv (.tup [vint (exprK s e).1, vint (exprK s e).2])) [] := by
  refine AC.of_awp (T := T) T_ok hm Tryz.call108 Tryz.func108 rfl rfl rfl ?_
  conv => whnf
  repeat (any_goals (first
    | (refine ⟨fun (h : (_ : Bool) = true) => ?_, fun (h : (_ : Bool) = false) => ?_⟩ <;> (try simp only [decide_eq_true_eq, decide_eq_false_iff_not, Bool.not_eq_true', Bool.not_eq_false', Int.toNat_natCast, beq_iff_eq, decide_eq_decide, beq_eq_false_iff_ne, ne_eq, reduceCtorEq] at h) <;> (conv => whnf))
    | (refine .inl ⟨_, ac_r28_Check e, ?_⟩; conv => whnf)
    | (refine And.intro (by (try simp only [Int.toNat_natCast]); omega) ?_; conv => whnf)
    | (refine And.intro (show (_ : Bool) = true from by kernel_rfl) ?_; conv => whnf)
    | (refine .inl ⟨wrap64 (by omega), ?_⟩; conv => whnf)))
  · rw [exprK, if_pos h]
    refine ⟨?_, ?_⟩ <;> (conv => whnf)
    all_goals exact PSub.rfl
  · rw [exprK, if_neg (by simpa using h)]
    repeat (any_goals (first
      | (refine ⟨fun (h : (_ : Bool) = true) => ?_, fun (h : (_ : Bool) = false) => ?_⟩ <;> (try simp only [decide_eq_true_eq, decide_eq_false_iff_not, Bool.not_eq_true', Bool.not_eq_false', Int.toNat_natCast, beq_iff_eq, decide_eq_decide, beq_eq_false_iff_ne, ne_eq, reduceCtorEq] at h) <;> (conv => whnf))
      | (refine .inl ⟨_, ac_r31_kind s hs e (exE_ok h), ?_⟩; conv => whnf)
      | (refine And.intro (by (try simp only [Int.toNat_natCast]); omega) ?_; conv => whnf)
      | (refine And.intro (show (_ : Bool) = true from by kernel_rfl) ?_; conv => whnf)
      | (refine .inl ⟨wrap64 (by omega), ?_⟩; conv => whnf)))
    refine ⟨?_, ?_⟩ <;> (conv => whnf)
    all_goals exact PSub.rfl
end Go.Abs

namespace Go.Abs
open Go.Proofs Go.RowKit
set_option maxRecDepth 10000
section
variable {H : Type} {enc : TypeId × Value → H} {w : World} {bulk : DataW H → Nat}
theorem op_Scope (hB : BulkOk bulk) : Opens enc Tryz.prog w bulk BB 28 cSco smallS :=
  (Opens.struct hB Tryz.underlying28 (by kernel_rfl) (.cons (size := 2) rfl (by kernel_rfl) (op_Home hB) (.cons (size := 1) rfl (by kernel_rfl) (op_l_string hB) (.cons (size := 1) rfl (by kernel_rfl) (op_l_string hB) .nil)))).imp (fun x => ⟨x.1, x.2.1, x.2.2.1⟩) (fun _ => rfl) (fun _ h => ⟨h.1, h.2.1, h.2.2.1⟩)
end
end Go.Abs

namespace Go.Abs
open Go.Proofs
set_option maxRecDepth 10000
theorem ac_r31_listed (l : List ByteArray) (hl : smallL l) : AC Tryz.prog 68 [.pv (roL 1 cstr l)] [] (.pv (vint (wordsE l))) [] := by
  have hl2 : l.length ≤ 1048576 := hl
  refine AC.of_awp (T := T) T_ok hm Tryz.call68 Tryz.func68 rfl rfl rfl ?_
  conv => whnf
  refine loop_k (ι := Nat) [0] [] (fun k => k ≤ l.length ∧ ∀ j, j < k → (if validName (l.getD j default) = false then (10 : Int) else if idxOf l (l.getD j default) < j then 9 else 0) = 0) (fun k => l.length - k) 0 (fun k => [(3, .pv (vint k))]) (fun _ => []) [] ⟨Nat.zero_le _, fun j h => absurd h (by omega)⟩ ?_ (fun k hk => ?_)
  · (repeat' (first | exact PSub.rfl | exact rfl | exact PSubs.rfl | exact trivial | exact PSub.lit_sb rfl | refine And.intro ?_ ?_))
  obtain ⟨hkn, hinv⟩ := hk
  conv => whnf
  repeat (any_goals (first
    | (refine ⟨fun (h : (_ : Bool) = true) => ?_, fun (h : (_ : Bool) = false) => ?_⟩ <;> (try simp only [decide_eq_true_eq, decide_eq_false_iff_not, Bool.not_eq_true', Bool.not_eq_false', Int.toNat_natCast, beq_iff_eq, decide_eq_decide, beq_eq_false_iff_ne, ne_eq, reduceCtorEq] at h) <;> (conv => whnf))
    | (refine .inl ⟨_, ac_r04_Valid (l.getD k default), ?_⟩; conv => whnf)
    | (refine .inl ⟨_, ac_r04_Index l (l.getD k default) hl2, ?_⟩; conv => whnf)
    | (refine And.intro (by (try simp only [Int.toNat_natCast]); omega) ?_; conv => whnf)
    | (refine And.intro (show (_ : Bool) = true from by kernel_rfl) ?_; conv => whnf)
    | (refine .inl ⟨wrap64 (by omega), ?_⟩; conv => whnf)))
  · exact PSub.int (by unfold wordsE; rw [firstE_at (k := k) (by omega) (by rw [if_pos h]; decide) hinv, if_pos h])
  · rename_i h1
    exact PSub.int (by unfold wordsE; rw [firstE_at (k := k) (by omega) (by rw [if_neg (by rw [h1]; decide), if_pos h]; decide) hinv, if_neg (by rw [h1]; decide), if_pos h])
  · rename_i h1
    refine ⟨k + 1, [], ⟨by omega, ?_⟩, by first | omega | (dsimp only; omega), ?_⟩
    rotate_left
    · (repeat' (first | exact PSub.rfl | exact rfl | exact PSubs.rfl | exact trivial | exact PSub.lit_sb rfl | refine And.intro ?_ ?_))
    intro j hj
    by_cases e : j = k
    · subst e; rw [if_neg (by rw [h1]; decide), if_neg h]
    · exact hinv j (by omega)
  · exact PSub.int (by unfold wordsE; rw [firstE_none fun j hj => hinv j (by omega)])
theorem ac_r31_Check (s : Sco) (hs : smallS s) : AC Tryz.prog 38 [.pv (.agg (cSco s))] [] (.pv (vint (scoE s))) [] := by
  refine AC.of_awp (T := T) T_ok hm Tryz.call38 Tryz.func38 rfl rfl rfl ?_
  conv => whnf
  repeat (any_goals (first
    | (refine ⟨fun (h : (_ : Bool) = true) => ?_, fun (h : (_ : Bool) = false) => ?_⟩ <;> (try simp only [decide_eq_true_eq, decide_eq_false_iff_not, Bool.not_eq_true', Bool.not_eq_false', Int.toNat_natCast, beq_iff_eq, decide_eq_decide, beq_eq_false_iff_ne, ne_eq, reduceCtorEq] at h) <;> (conv => whnf))
    | (refine .inl ⟨_, ac_r22_Check s.home hs.1, ?_⟩; conv => whnf)
    | (refine .inl ⟨_, ac_r31_listed s.modes hs.2.1, ?_⟩; conv => whnf)
    | (refine .inl ⟨_, ac_r31_listed s.scenes hs.2.2, ?_⟩; conv => whnf)
    | (refine And.intro (by (try simp only [Int.toNat_natCast]); omega) ?_; conv => whnf)
    | (refine And.intro (show (_ : Bool) = true from by kernel_rfl) ?_; conv => whnf)
    | (refine .inl ⟨wrap64 (by omega), ?_⟩; conv => whnf)))
  all_goals first
    | contradiction
    | (exfalso; omega)
    | exact PSub.rfl
    | (refine PSub.lit_sb ?_; (first | (simp [scoE, *]; done) | (simp_all [scoE]; done) | ((try simp only [scoE]); (repeat' split) <;> (try simp only [Bool.false_eq, Bool.true_eq, Bool.and_eq_false_iff, decide_eq_false_iff_not, Bool.and_eq_true, decide_eq_true_eq, decide_eq_decide]) <;> first | rfl | omega | (simp_all; done) | (simp_all; omega))))
    | (refine PSub.sb ?_; (first | (simp [scoE, *]; done) | (simp_all [scoE]; done) | ((try simp only [scoE]); (repeat' split) <;> (try simp only [Bool.false_eq, Bool.true_eq, Bool.and_eq_false_iff, decide_eq_false_iff_not, Bool.and_eq_true, decide_eq_true_eq, decide_eq_decide]) <;> first | rfl | omega | (simp_all; done) | (simp_all; omega))))
    | (refine PSub.sb_lit ?_; (first | (simp [scoE, *]; done) | (simp_all [scoE]; done) | ((try simp only [scoE]); (repeat' split) <;> (try simp only [Bool.false_eq, Bool.true_eq, Bool.and_eq_false_iff, decide_eq_false_iff_not, Bool.and_eq_true, decide_eq_true_eq, decide_eq_decide]) <;> first | rfl | omega | (simp_all; done) | (simp_all; omega))))
    | (refine PSub.int ?_; (first | (simp [scoE, *]; done) | (simp_all [scoE]; done) | ((try simp only [scoE]); (repeat' split) <;> (try simp only [Bool.false_eq, Bool.true_eq, Bool.and_eq_false_iff, decide_eq_false_iff_not, Bool.and_eq_true, decide_eq_true_eq, decide_eq_decide]) <;> first | rfl | omega | (simp_all; done) | (simp_all; omega))))
    | skip
end Go.Abs

namespace Go.Abs
open Go.Proofs
set_option maxRecDepth 10000
theorem ac_r45_Secure (H : Hom) (e : Ex) (hH : smallH H) (he : okN e) : AC Tryz.prog 109 [.pv (.agg (cHom H)), .pv (.agg (cEx e))] [] (.pv (vbool (secE H e))) [] := by
  have hlen := nodeE_kids ((okN_iff e).1 he).1
  have ih : ∀ k, k < e.kids.length → AC Tryz.prog 109 [.pv (.agg (cHom H)), .pv (.agg (cEx (e.kids.getD k default)))] [] (.pv (vbool (secE H (e.kids.getD k default)))) [] := fun k hk =>
    have := Ex.kid_lt (Ex.kid_at hk)
    ac_r45_Secure H (e.kids.getD k default) hH ((okNL_iff _).1 ((okN_iff e).1 he).2 _ (Ex.kid_at hk))
  have hatt := secE_attr (H := H) he
  have hbad := secE_bad (H := H) (e := e)
  have hkid := secE_kids (H := H) (e := e)
  have hleaf := kid_leaf he
  refine AC.ex2 ?_
  refine AC.of_awp (T := T) T_ok hm Tryz.call109 Tryz.func109 rfl rfl rfl ?_
  conv => whnf
  repeat (any_goals (first
    | (refine ⟨fun (h : (_ : Bool) = true) => ?_, fun (h : (_ : Bool) = false) => ?_⟩ <;> (try simp only [decide_eq_true_eq, decide_eq_false_iff_not, Bool.not_eq_true', Bool.not_eq_false', Int.toNat_natCast, beq_iff_eq, decide_eq_decide, beq_eq_false_iff_ne, ne_eq, reduceCtorEq] at h) <;> (conv => whnf))
    | (refine .inl ⟨_, ac_r22_Find H e.key hH, ?_⟩; conv => whnf)
    | (refine And.intro (by (try simp only [Int.toNat_natCast]); omega) ?_; conv => whnf)
    | (refine And.intro (show (_ : Bool) = true from by kernel_rfl) ?_; conv => whnf)
    | (refine .inl ⟨wrap64 (by omega), ?_⟩; conv => whnf)))
  all_goals first
    | contradiction
    | exact PSub.lit_sb (by rw [hbad (by omega)])
    | (refine PSub.lit_sb ?_; rw [hatt (by assumption)]; simp_all [noAttr]; done)
    | skip
  · have hall : secE H e = e.kids.all (secE H) := by
      rw [hatt (by assumption), hleaf (by assumption)]
      simp_all
    rw [hall]
    refine loop_k (ι := Nat) [2, 3, 45] [2, 3] (fun k => k ≤ e.kids.length ∧ (∀ j, j < k → secE H (e.kids.getD j default) = true)) (fun k => e.kids.length - k) 0 (fun k => [(46, .pv (vint k))]) (fun _ => []) [] ⟨Nat.zero_le _, fun j h => absurd h (by omega)⟩ ?_ (fun k hk => ?_)
    · (repeat' (first | exact PSub.rfl | exact rfl | exact PSubs.rfl | exact trivial | exact PSub.lit_sb rfl | refine And.intro ?_ ?_))
    obtain ⟨hkn, hinv⟩ := hk
    conv => whnf
    repeat (any_goals (first
      | (refine ⟨fun (h : (_ : Bool) = true) => ?_, fun (h : (_ : Bool) = false) => ?_⟩ <;> (try simp only [decide_eq_true_eq, decide_eq_false_iff_not, Bool.not_eq_true', Bool.not_eq_false', Int.toNat_natCast, beq_iff_eq, decide_eq_decide, beq_eq_false_iff_ne, ne_eq, reduceCtorEq] at h) <;> (conv => whnf))
      | (refine .inl ⟨_, ih k (by omega), ?_⟩; conv => whnf)
      | (refine And.intro (by (try simp only [Int.toNat_natCast]); omega) ?_; conv => whnf)
      | (refine And.intro (show (_ : Bool) = true from by kernel_rfl) ?_; conv => whnf)
      | (refine .inl ⟨wrap64 (by omega), ?_⟩; conv => whnf)))
    · exact PSub.lit_sb (by rw [all_getD_false (j := k) (by omega) (by simpa using h)])
    · refine ⟨k + 1, [], ⟨by omega, ?_⟩, by first | omega | (dsimp only; omega), ?_⟩
      rotate_left
      · (repeat' (first | exact PSub.rfl | exact rfl | exact PSubs.rfl | exact trivial | exact PSub.lit_sb rfl | refine And.intro ?_ ?_))
      intro j hj
      by_cases e2 : j = k
      · subst e2; simpa using h
      · exact hinv j (by omega)
    · exact PSub.lit_sb (by rw [all_getD fun j hj => hinv j (by omega)])
  · have hall : secE H e = e.kids.all (secE H) := hkid (by omega) (by omega)
    rw [hall]
    refine loop_k (ι := Nat) [2, 3, 45] [2, 3] (fun k => k ≤ e.kids.length ∧ (∀ j, j < k → secE H (e.kids.getD j default) = true)) (fun k => e.kids.length - k) 0 (fun k => [(46, .pv (vint k))]) (fun _ => []) [] ⟨Nat.zero_le _, fun j h => absurd h (by omega)⟩ ?_ (fun k hk => ?_)
    · (repeat' (first | exact PSub.rfl | exact rfl | exact PSubs.rfl | exact trivial | exact PSub.lit_sb rfl | refine And.intro ?_ ?_))
    obtain ⟨hkn, hinv⟩ := hk
    conv => whnf
    repeat (any_goals (first
      | (refine ⟨fun (h : (_ : Bool) = true) => ?_, fun (h : (_ : Bool) = false) => ?_⟩ <;> (try simp only [decide_eq_true_eq, decide_eq_false_iff_not, Bool.not_eq_true', Bool.not_eq_false', Int.toNat_natCast, beq_iff_eq, decide_eq_decide, beq_eq_false_iff_ne, ne_eq, reduceCtorEq] at h) <;> (conv => whnf))
      | (refine .inl ⟨_, ih k (by omega), ?_⟩; conv => whnf)
      | (refine And.intro (by (try simp only [Int.toNat_natCast]); omega) ?_; conv => whnf)
      | (refine And.intro (show (_ : Bool) = true from by kernel_rfl) ?_; conv => whnf)
      | (refine .inl ⟨wrap64 (by omega), ?_⟩; conv => whnf)))
    · exact PSub.lit_sb (by rw [all_getD_false (j := k) (by omega) (by simpa using h)])
    · refine ⟨k + 1, [], ⟨by omega, ?_⟩, by first | omega | (dsimp only; omega), ?_⟩
      rotate_left
      · (repeat' (first | exact PSub.rfl | exact rfl | exact PSubs.rfl | exact trivial | exact PSub.lit_sb rfl | refine And.intro ?_ ?_))
      intro j hj
      by_cases e2 : j = k
      · subst e2; simpa using h
      · exact hinv j (by omega)
    · exact PSub.lit_sb (by rw [all_getD fun j hj => hinv j (by omega)])
termination_by SizeOf.sizeOf e
end Go.Abs

namespace Go.Abs
open Go.Proofs
set_option maxRecDepth 10000
theorem ac_r45_Item (H : Hom) (x : Item) (hH : smallH H) : AC Tryz.prog 110 [.pv (.agg (cHom H)), .pv (.agg (cItem x))] [] (.pv (vint (itemE H x))) [] := by
  have hs := small_findA (k := x.key) hH
  refine AC.of_awp (T := T) T_ok hm Tryz.call110 Tryz.func110 rfl rfl rfl ?_
  conv => whnf
  repeat (any_goals (first
    | (refine ⟨fun (h : (_ : Bool) = true) => ?_, fun (h : (_ : Bool) = false) => ?_⟩ <;> (try simp only [decide_eq_true_eq, decide_eq_false_iff_not, Bool.not_eq_true', Bool.not_eq_false', Int.toNat_natCast, beq_iff_eq, decide_eq_decide, beq_eq_false_iff_ne, ne_eq, reduceCtorEq] at h) <;> (conv => whnf))
    | (refine .inl ⟨_, ac_r22_Find H x.key hH, ?_⟩; conv => whnf)
    | (refine .inl ⟨_, ac_r20_Fits ((findA H x.key).getD noAttr) x.value hs, ?_⟩; conv => whnf)
    | (refine And.intro (by (try simp only [Int.toNat_natCast]); omega) ?_; conv => whnf)
    | (refine And.intro (show (_ : Bool) = true from by kernel_rfl) ?_; conv => whnf)
    | (refine .inl ⟨wrap64 (by omega), ?_⟩; conv => whnf)))
  all_goals first
    | contradiction
    | (exfalso; omega)
    | exact PSub.rfl
    | (refine PSub.lit_sb ?_; (first | (simp [itemE, *]; done) | (simp_all [itemE]; done) | ((try simp only [itemE]); (repeat' split) <;> (try simp only [Bool.false_eq, Bool.true_eq, Bool.and_eq_false_iff, decide_eq_false_iff_not, Bool.and_eq_true, decide_eq_true_eq, decide_eq_decide]) <;> first | rfl | omega | (simp_all; done) | (simp_all; omega))))
    | (refine PSub.sb ?_; (first | (simp [itemE, *]; done) | (simp_all [itemE]; done) | ((try simp only [itemE]); (repeat' split) <;> (try simp only [Bool.false_eq, Bool.true_eq, Bool.and_eq_false_iff, decide_eq_false_iff_not, Bool.and_eq_true, decide_eq_true_eq, decide_eq_decide]) <;> first | rfl | omega | (simp_all; done) | (simp_all; omega))))
    | (refine PSub.sb_lit ?_; (first | (simp [itemE, *]; done) | (simp_all [itemE]; done) | ((try simp only [itemE]); (repeat' split) <;> (try simp only [Bool.false_eq, Bool.true_eq, Bool.and_eq_false_iff, decide_eq_false_iff_not, Bool.and_eq_true, decide_eq_true_eq, decide_eq_decide]) <;> first | rfl | omega | (simp_all; done) | (simp_all; omega))))
    | (refine PSub.int ?_; (first | (simp [itemE, *]; done) | (simp_all [itemE]; done) | ((try simp only [itemE]); (repeat' split) <;> (try simp only [Bool.false_eq, Bool.true_eq, Bool.and_eq_false_iff, decide_eq_false_iff_not, Bool.and_eq_true, decide_eq_true_eq, decide_eq_decide]) <;> first | rfl | omega | (simp_all; done) | (simp_all; omega))))
    | skip
end Go.Abs

namespace Go.Abs
open Go.Proofs
set_option maxRecDepth 10000
theorem ac_r45_Against (a b : Lck) (ha : smallL a.force) (hb : smallL b.forbid) : AC Tryz.prog 72 [.pv (.agg (cLck a)), .pv (.agg (cLck b))] [] (.pv (vbool (againstB a b))) [] := by
  have ha2 : a.force.length ≤ 1048576 := ha
  have hb2 : b.forbid.length ≤ 1048576 := hb
  refine AC.of_awp (T := T) T_ok hm Tryz.call72 Tryz.func72 rfl rfl rfl ?_
  conv => whnf
  refine loop_k (ι := Nat) [2, 3, 9] [2, 3] (fun k => k ≤ a.force.length ∧ (∀ j, j < k → (b.forbid.any fun y => decide ((a.force.getD j default).key = y.key) && decide ((a.force.getD j default).value = y.value)) = false)) (fun k => a.force.length - k) 0 (fun k => [(10, .pv (vint k))]) (fun _ => []) [] ⟨Nat.zero_le _, fun j h => absurd h (by omega)⟩ ?_ (fun k hk => ?_)
  · (repeat' (first | exact PSub.rfl | exact rfl | exact PSubs.rfl | exact trivial | exact PSub.lit_sb rfl | refine And.intro ?_ ?_))
  obtain ⟨hkn, hinv⟩ := hk
  conv => whnf
  refine ⟨fun h => ?_, fun h => ?_⟩ <;> (try simp only [decide_eq_true_eq, decide_eq_false_iff_not, Bool.not_eq_true', Bool.not_eq_false', Int.toNat_natCast, beq_iff_eq, decide_eq_decide, beq_eq_false_iff_ne, ne_eq, reduceCtorEq] at h) <;> (conv => whnf)
  · have hk : k < a.force.length := by omega
    have hinv0 := hinv
    have hkn0 := hkn
    refine loop_k (ι := Nat) [2, 3, 5, 9, 10, 15] [2, 3] (fun q => q ≤ b.forbid.length ∧ (∀ j, j < q → (decide ((a.force.getD k default).key = (b.forbid.getD j default).key) && decide ((a.force.getD k default).value = (b.forbid.getD j default).value)) = false)) (fun q => b.forbid.length - q) 0 (fun q => [(16, .pv (vint q))]) (fun _ => []) [] ⟨Nat.zero_le _, fun j h => absurd h (by omega)⟩ ?_ (fun q hk => ?_)
    · (repeat' (first | exact PSub.rfl | exact rfl | exact PSubs.rfl | exact trivial | exact PSub.lit_sb rfl | refine And.intro ?_ ?_))
    obtain ⟨hkn, hinv⟩ := hk
    conv => whnf
    repeat (any_goals (first
      | (refine ⟨fun (h : (_ : Bool) = true) => ?_, fun (h : (_ : Bool) = false) => ?_⟩ <;> (try simp only [decide_eq_true_eq, decide_eq_false_iff_not, Bool.not_eq_true', Bool.not_eq_false', Int.toNat_natCast, beq_iff_eq, decide_eq_decide, beq_eq_false_iff_ne, ne_eq, reduceCtorEq] at h) <;> (conv => whnf))
      | (refine And.intro (by (try simp only [Int.toNat_natCast]); omega) ?_; conv => whnf)
      | (refine And.intro (show (_ : Bool) = true from by kernel_rfl) ?_; conv => whnf)
      | (refine .inl ⟨wrap64 (by omega), ?_⟩; conv => whnf)))
    · rename_i h1
      have e1 := (key_eq _ _).symm.trans h1
      have e2 := (val_eq _ _).symm.trans h
      exact PSub.lit_sb (show againstB a b = true from any_true_at (k := k) hk (any_true_at (k := q) (by omega) (by rw [e1, e2]; rfl))).symm
    · rename_i h1
      have e1 := (key_eq _ _).symm.trans h1
      have e2 := (val_eq _ _).symm.trans h
      refine ⟨q + 1, [], ⟨by omega, ?_⟩, by first | omega | (dsimp only; omega), ?_⟩
      rotate_left
      · (repeat' (first | exact PSub.rfl | exact rfl | exact PSubs.rfl | exact trivial | exact PSub.lit_sb rfl | refine And.intro ?_ ?_))
      intro j hj
      by_cases e : j = q
      · subst e; rw [e1, e2]; rfl
      · exact hinv j (by omega)
    · have e1 := (key_eq _ _).symm.trans h
      refine ⟨q + 1, [], ⟨by omega, ?_⟩, by first | omega | (dsimp only; omega), ?_⟩
      rotate_left
      · (repeat' (first | exact PSub.rfl | exact rfl | exact PSubs.rfl | exact trivial | exact PSub.lit_sb rfl | refine And.intro ?_ ?_))
      intro j hj
      by_cases e : j = q
      · subst e; rw [e1]; rfl
      · exact hinv j (by omega)
    · refine ⟨k + 1, [], ⟨by omega, ?_⟩, by first | omega | (dsimp only; omega), ?_⟩
      rotate_left
      · (repeat' (first | exact PSub.rfl | exact rfl | exact PSubs.rfl | exact trivial | exact PSub.lit_sb rfl | refine And.intro ?_ ?_))
      intro j hj
      by_cases e : j = k
      · subst e; exact any_none fun i hi => hinv i (by omega)
      · exact hinv0 j (by omega)
  · exact PSub.lit_sb (show againstB a b = false from any_none fun j hj => hinv j (by omega)).symm
theorem ac_r45_Other (a b : Lck) (ha : smallL a.force) (hb : smallL b.force) : AC Tryz.prog 73 [.pv (.agg (cLck a)), .pv (.agg (cLck b))] [] (.pv (vbool (otherB a b))) [] := by
  have ha2 : a.force.length ≤ 1048576 := ha
  have hb2 : b.force.length ≤ 1048576 := hb
  refine AC.of_awp (T := T) T_ok hm Tryz.call73 Tryz.func73 rfl rfl rfl ?_
  conv => whnf
  refine loop_k (ι := Nat) [2, 3, 9] [2, 3] (fun k => k ≤ a.force.length ∧ (∀ j, j < k → (b.force.any fun y => decide ((a.force.getD j default).key = y.key) && decide ((a.force.getD j default).value ≠ y.value)) = false)) (fun k => a.force.length - k) 0 (fun k => [(10, .pv (vint k))]) (fun _ => []) [] ⟨Nat.zero_le _, fun j h => absurd h (by omega)⟩ ?_ (fun k hk => ?_)
  · (repeat' (first | exact PSub.rfl | exact rfl | exact PSubs.rfl | exact trivial | exact PSub.lit_sb rfl | refine And.intro ?_ ?_))
  obtain ⟨hkn, hinv⟩ := hk
  conv => whnf
  refine ⟨fun h => ?_, fun h => ?_⟩ <;> (try simp only [decide_eq_true_eq, decide_eq_false_iff_not, Bool.not_eq_true', Bool.not_eq_false', Int.toNat_natCast, beq_iff_eq, decide_eq_decide, beq_eq_false_iff_ne, ne_eq, reduceCtorEq] at h) <;> (conv => whnf)
  · have hk : k < a.force.length := by omega
    have hinv0 := hinv
    have hkn0 := hkn
    refine loop_k (ι := Nat) [2, 3, 5, 9, 10, 15] [2, 3] (fun q => q ≤ b.force.length ∧ (∀ j, j < q → (decide ((a.force.getD k default).key = (b.force.getD j default).key) && decide ((a.force.getD k default).value ≠ (b.force.getD j default).value)) = false)) (fun q => b.force.length - q) 0 (fun q => [(16, .pv (vint q))]) (fun _ => []) [] ⟨Nat.zero_le _, fun j h => absurd h (by omega)⟩ ?_ (fun q hk => ?_)
    · (repeat' (first | exact PSub.rfl | exact rfl | exact PSubs.rfl | exact trivial | exact PSub.lit_sb rfl | refine And.intro ?_ ?_))
    obtain ⟨hkn, hinv⟩ := hk
    conv => whnf
    repeat (any_goals (first
      | (refine ⟨fun (h : (_ : Bool) = true) => ?_, fun (h : (_ : Bool) = false) => ?_⟩ <;> (try simp only [decide_eq_true_eq, decide_eq_false_iff_not, Bool.not_eq_true', Bool.not_eq_false', Int.toNat_natCast, beq_iff_eq, decide_eq_decide, beq_eq_false_iff_ne, ne_eq, reduceCtorEq] at h) <;> (conv => whnf))
      | (refine And.intro (by (try simp only [Int.toNat_natCast]); omega) ?_; conv => whnf)
      | (refine And.intro (show (_ : Bool) = true from by kernel_rfl) ?_; conv => whnf)
      | (refine .inl ⟨wrap64 (by omega), ?_⟩; conv => whnf)))
    · rename_i h1
      have e1 := (key_eq _ _).symm.trans h1
      have e2 := of_decide_eq_false ((val_eq _ _).symm.trans h)
      exact PSub.lit_sb (show otherB a b = true from any_true_at (k := k) hk (any_true_at (k := q) (by omega) (by rw [e1, decide_eq_true e2]; rfl))).symm
    · rename_i h1
      have e1 := (key_eq _ _).symm.trans h1
      have e2 := of_decide_eq_true ((val_eq _ _).symm.trans h)
      refine ⟨q + 1, [], ⟨by omega, ?_⟩, by first | omega | (dsimp only; omega), ?_⟩
      rotate_left
      · (repeat' (first | exact PSub.rfl | exact rfl | exact PSubs.rfl | exact trivial | exact PSub.lit_sb rfl | refine And.intro ?_ ?_))
      intro j hj
      by_cases e : j = q
      · subst e; rw [e1, decide_eq_false (fun hn => hn e2)]; rfl
      · exact hinv j (by omega)
    · have e1 := (key_eq _ _).symm.trans h
      refine ⟨q + 1, [], ⟨by omega, ?_⟩, by first | omega | (dsimp only; omega), ?_⟩
      rotate_left
      · (repeat' (first | exact PSub.rfl | exact rfl | exact PSubs.rfl | exact trivial | exact PSub.lit_sb rfl | refine And.intro ?_ ?_))
      intro j hj
      by_cases e : j = q
      · subst e; rw [e1]; rfl
      · exact hinv j (by omega)
    · refine ⟨k + 1, [], ⟨by omega, ?_⟩, by first | omega | (dsimp only; omega), ?_⟩
      rotate_left
      · (repeat' (first | exact PSub.rfl | exact rfl | exact PSubs.rfl | exact trivial | exact PSub.lit_sb rfl | refine And.intro ?_ ?_))
      intro j hj
      by_cases e : j = k
      · subst e; exact any_none fun i hi => hinv i (by omega)
      · exact hinv0 j (by omega)
  · exact PSub.lit_sb (show otherB a b = false from any_none fun j hj => hinv j (by omega)).symm
end Go.Abs

namespace Go.Abs
open Go.Proofs
set_option maxRecDepth 10000
set_option maxHeartbeats 1000000 in
theorem ac_r45_Items (H : Hom) (x : Lck) (hH : smallH H) (hx : smallK2 x) : AC Tryz.prog 71 [.pv (.agg (cHom H)), .pv (.agg (cLck x))] [] (.pv (vint (itemsE H x))) [] := by
  have h1l : x.force.length ≤ 1048576 := hx.1
  have h2l : x.forbid.length ≤ 1048576 := hx.2.1
  have hdl : H.devices.length ≤ 1048576 := hH.2.1
  refine AC.of_awp (T := T) T_ok hm Tryz.call71 Tryz.func71 rfl rfl rfl ?_
  conv => whnf
  refine loop_k (ι := Nat) [2, 3, 15] [2, 3] (fun k => k ≤ x.force.length ∧ (∀ j, j < k → forceE H x.force j = 0)) (fun k => x.force.length - k) 0 (fun k => [(16, .pv (vint k))]) (fun _ => []) [] ⟨Nat.zero_le _, fun j h => absurd h (by omega)⟩ ?_ (fun k hk => ?_)
  · (repeat' (first | exact PSub.rfl | exact rfl | exact PSubs.rfl | exact trivial | exact PSub.lit_sb rfl | refine And.intro ?_ ?_))
  obtain ⟨hkn, hinv⟩ := hk
  conv => whnf
  refine ⟨fun h => ?_, fun h => ?_⟩ <;> (try simp only [decide_eq_true_eq, decide_eq_false_iff_not, Bool.not_eq_true', Bool.not_eq_false', Int.toNat_natCast, beq_iff_eq, decide_eq_decide, beq_eq_false_iff_ne, ne_eq, reduceCtorEq] at h) <;> (conv => whnf)
  · have hk : k < x.force.length := by omega
    have fin0 : ∀ n, forceE H x.force k = n → n ≠ 0 → PSub (vint n) (vint (itemsE H x)) := fun n e hn => PSub.int (by
      unfold itemsE
      rw [firstE_at hk (by rw [e]; exact hn) hinv, e, if_pos hn])
    have hdev : itemE H (x.force.getD k default) = 0 → devIx H.devices (x.force.getD k default).key.dev = (devAt H.devices (x.force.getD k default).key.dev : Int) ∧ devAt H.devices (x.force.getD k default).key.dev < H.devices.length ∧ (H.devices.getD (devAt H.devices (x.force.getD k default).key.dev) default) = findD H (x.force.getD k default).key.dev := fun h0 => by
      obtain ⟨_, h2, h3⟩ := findB_at (findA_dev (itemE_find h0).1)
      exact ⟨by unfold devIx; rw [if_pos h2], h2, h3.symm⟩
    repeat (any_goals (first
      | (refine ⟨fun (h : (_ : Bool) = true) => ?_, fun (h : (_ : Bool) = false) => ?_⟩ <;> (try simp only [decide_eq_true_eq, decide_eq_false_iff_not, Bool.not_eq_true', Bool.not_eq_false', Int.toNat_natCast, beq_iff_eq, decide_eq_decide, beq_eq_false_iff_ne, ne_eq, reduceCtorEq] at h) <;> (conv => whnf))
      | (refine .inl ⟨_, ac_r45_Item H (x.force.getD k default) hH, ?_⟩; conv => whnf)
      | (refine .inl ⟨_, ac_r22_Safe H (x.force.getD k default).key hH, ?_⟩; conv => whnf)
      | (refine .inl ⟨_, ac_r22_At H (x.force.getD k default).key.dev hH, ?_⟩; conv => whnf)
      | (refine And.intro (by (try simp only [Int.toNat_natCast]); omega) ?_; conv => whnf)
      | (refine And.intro (show (_ : Bool) = true from by kernel_rfl) ?_; conv => whnf)
      | (refine .inl ⟨wrap64 (by omega), ?_⟩; conv => whnf)))
    · exact fin0 _ (by unfold forceE; rw [if_pos h]) h
    · rename_i h1
      exact fin0 19 (by unfold forceE; rw [if_neg (by simpa using h1), if_pos (.inl h)]) (by decide)
    · rename_i h1 h2
      obtain ⟨e1, _, e2⟩ := hdev h1
      rw [e1, Int.toNat_natCast, e2] at h
      exact fin0 19 (by unfold forceE; rw [if_neg (by simpa using h1), if_pos (.inr h)]) (by decide)
    · rename_i h1 h2
      obtain ⟨e1, _, e2⟩ := hdev h1
      rw [e1, Int.toNat_natCast, e2] at h
      have hf : forceE H x.force k = if anyN k (fun j => decide ((x.force.getD j default).key = (x.force.getD k default).key)) = true then 9 else 0 := by
        unfold forceE
        rw [if_neg (by simpa using h1), if_neg (by rw [h2, h]; simp)]
      clear hdev
      have hinv0 := hinv
      have hkn0 := hkn
      refine loop_k (ι := Nat) [2, 3, 5, 6, 15, 16] [2, 3, 6] (fun q => q ≤ k ∧ (∀ j, j < q → decide ((x.force.getD j default).key = (x.force.getD k default).key) = false)) (fun q => k - q) 0 (fun q => [(8, .pv (vint q))]) (fun _ => []) [] ⟨Nat.zero_le _, fun j h => absurd h (by omega)⟩ ?_ (fun q hk => ?_)
      · (repeat' (first | exact PSub.rfl | exact rfl | exact PSubs.rfl | exact trivial | exact PSub.lit_sb rfl | refine And.intro ?_ ?_))
      obtain ⟨hkn, hinv⟩ := hk
      conv => whnf
      repeat (any_goals (first
        | (refine ⟨fun (h : (_ : Bool) = true) => ?_, fun (h : (_ : Bool) = false) => ?_⟩ <;> (try simp only [decide_eq_true_eq, decide_eq_false_iff_not, Bool.not_eq_true', Bool.not_eq_false', Int.toNat_natCast, beq_iff_eq, decide_eq_decide, beq_eq_false_iff_ne, ne_eq, reduceCtorEq] at h) <;> (conv => whnf))
        | (refine And.intro (by (try simp only [Int.toNat_natCast]); omega) ?_; conv => whnf)
        | (refine And.intro (show (_ : Bool) = true from by kernel_rfl) ?_; conv => whnf)
        | (refine .inl ⟨wrap64 (by omega), ?_⟩; conv => whnf)))
      · have e3 := (key_eq _ _).symm.trans h
        exact fin0 9 (by rw [hf, if_pos (anyN_true (k := q) (by omega) e3)]) (by decide)
      · have e3 := (key_eq _ _).symm.trans h
        refine ⟨q + 1, [], ⟨by omega, ?_⟩, by first | omega | (dsimp only; omega), ?_⟩
        rotate_left
        · (repeat' (first | exact PSub.rfl | exact rfl | exact PSubs.rfl | exact trivial | exact PSub.lit_sb rfl | refine And.intro ?_ ?_))
        intro j hj
        by_cases e : j = q
        · subst e; exact e3
        · exact hinv j (by omega)
      · refine ⟨k + 1, [], ⟨by omega, ?_⟩, by first | omega | (dsimp only; omega), ?_⟩
        rotate_left
        · (repeat' (first | exact PSub.rfl | exact rfl | exact PSubs.rfl | exact trivial | exact PSub.lit_sb rfl | refine And.intro ?_ ?_))
        intro j hj
        by_cases e : j = k
        · subst e; rw [hf, if_neg (by rw [anyN_false fun j hj => hinv j (by omega)]; decide)]
        · exact hinv0 j (by omega)
  · have hz : firstE x.force.length (forceE H x.force) = 0 := firstE_none fun j hj => hinv j (by omega)
    have hit : itemsE H x = firstE x.forbid.length (forbidE H x.forbid) := by unfold itemsE; rw [if_neg (by rw [hz]; decide)]
    clear hinv hkn h
    rw [hit]
    refine loop_k (ι := Nat) [2, 3, 64] [2, 3] (fun k => k ≤ x.forbid.length ∧ (∀ j, j < k → forbidE H x.forbid j = 0)) (fun k => x.forbid.length - k) 0 (fun k => [(65, .pv (vint k))]) (fun _ => []) [] ⟨Nat.zero_le _, fun j h => absurd h (by omega)⟩ ?_ (fun k hk => ?_)
    · (repeat' (first | exact PSub.rfl | exact rfl | exact PSubs.rfl | exact trivial | exact PSub.lit_sb rfl | refine And.intro ?_ ?_))
    obtain ⟨hkn, hinv⟩ := hk
    conv => whnf
    refine ⟨fun h => ?_, fun h => ?_⟩ <;> (try simp only [decide_eq_true_eq, decide_eq_false_iff_not, Bool.not_eq_true', Bool.not_eq_false', Int.toNat_natCast, beq_iff_eq, decide_eq_decide, beq_eq_false_iff_ne, ne_eq, reduceCtorEq] at h) <;> (conv => whnf)
    · have hk : k < x.forbid.length := by omega
      have fin0 : ∀ n, forbidE H x.forbid k = n → n ≠ 0 → PSub (vint n) (vint (firstE x.forbid.length (forbidE H x.forbid))) := fun n e hn => PSub.int (by rw [firstE_at hk (by rw [e]; exact hn) hinv, e])
      repeat (any_goals (first
        | (refine ⟨fun (h : (_ : Bool) = true) => ?_, fun (h : (_ : Bool) = false) => ?_⟩ <;> (try simp only [decide_eq_true_eq, decide_eq_false_iff_not, Bool.not_eq_true', Bool.not_eq_false', Int.toNat_natCast, beq_iff_eq, decide_eq_decide, beq_eq_false_iff_ne, ne_eq, reduceCtorEq] at h) <;> (conv => whnf))
        | (refine .inl ⟨_, ac_r45_Item H (x.forbid.getD k default) hH, ?_⟩; conv => whnf)
        | (refine And.intro (by (try simp only [Int.toNat_natCast]); omega) ?_; conv => whnf)
        | (refine And.intro (show (_ : Bool) = true from by kernel_rfl) ?_; conv => whnf)
        | (refine .inl ⟨wrap64 (by omega), ?_⟩; conv => whnf)))
      · exact fin0 _ (by unfold forbidE; rw [if_pos h]) h
      · rename_i h1
        have hf : forbidE H x.forbid k = if anyN k (fun j => decide ((x.forbid.getD j default).key = (x.forbid.getD k default).key) && decide ((x.forbid.getD j default).value = (x.forbid.getD k default).value)) = true then 9 else 0 := by
          unfold forbidE
          rw [if_neg (by simpa using h)]
        have hinv0 := hinv
        have hkn0 := hkn
        refine loop_k (ι := Nat) [2, 3, 9, 10, 64, 65] [2, 3, 10] (fun q => q ≤ k ∧ (∀ j, j < q → (decide ((x.forbid.getD j default).key = (x.forbid.getD k default).key) && decide ((x.forbid.getD j default).value = (x.forbid.getD k default).value)) = false)) (fun q => k - q) 0 (fun q => [(12, .pv (vint q))]) (fun _ => []) [] ⟨Nat.zero_le _, fun j h => absurd h (by omega)⟩ ?_ (fun q hk => ?_)
        · (repeat' (first | exact PSub.rfl | exact rfl | exact PSubs.rfl | exact trivial | exact PSub.lit_sb rfl | refine And.intro ?_ ?_))
        obtain ⟨hkn, hinv⟩ := hk
        conv => whnf
        repeat (any_goals (first
          | (refine ⟨fun (h : (_ : Bool) = true) => ?_, fun (h : (_ : Bool) = false) => ?_⟩ <;> (try simp only [decide_eq_true_eq, decide_eq_false_iff_not, Bool.not_eq_true', Bool.not_eq_false', Int.toNat_natCast, beq_iff_eq, decide_eq_decide, beq_eq_false_iff_ne, ne_eq, reduceCtorEq] at h) <;> (conv => whnf))
          | (refine And.intro (by (try simp only [Int.toNat_natCast]); omega) ?_; conv => whnf)
          | (refine And.intro (show (_ : Bool) = true from by kernel_rfl) ?_; conv => whnf)
          | (refine .inl ⟨wrap64 (by omega), ?_⟩; conv => whnf)))
        · rename_i h2
          have e1 := (key_eq _ _).symm.trans h2
          have e2 := (val_eq _ _).symm.trans h
          exact fin0 9 (by rw [hf, if_pos (anyN_true (k := q) (by omega) (by rw [e1, e2]; rfl))]) (by decide)
        · rename_i h2
          have e1 := (key_eq _ _).symm.trans h2
          have e2 := (val_eq _ _).symm.trans h
          refine ⟨q + 1, [], ⟨by omega, ?_⟩, by first | omega | (dsimp only; omega), ?_⟩
          rotate_left
          · (repeat' (first | exact PSub.rfl | exact rfl | exact PSubs.rfl | exact trivial | exact PSub.lit_sb rfl | refine And.intro ?_ ?_))
          intro j hj
          by_cases e : j = q
          · subst e; rw [e1, e2]; rfl
          · exact hinv j (by omega)
        · have e1 := (key_eq _ _).symm.trans h
          refine ⟨q + 1, [], ⟨by omega, ?_⟩, by first | omega | (dsimp only; omega), ?_⟩
          rotate_left
          · (repeat' (first | exact PSub.rfl | exact rfl | exact PSubs.rfl | exact trivial | exact PSub.lit_sb rfl | refine And.intro ?_ ?_))
          intro j hj
          by_cases e : j = q
          · subst e; rw [e1]; rfl
          · exact hinv j (by omega)
        · refine ⟨k + 1, [], ⟨by omega, ?_⟩, by first | omega | (dsimp only; omega), ?_⟩
          rotate_left
          · (repeat' (first | exact PSub.rfl | exact rfl | exact PSubs.rfl | exact trivial | exact PSub.lit_sb rfl | refine And.intro ?_ ?_))
          intro j hj
          by_cases e : j = k
          · subst e; rw [hf, if_neg (by rw [anyN_false fun j hj => hinv j (by omega)]; decide)]
          · exact hinv0 j (by omega)
    · exact PSub.int (by rw [firstE_none fun j hj => hinv j (by omega)])
theorem ac_r45_When (s : Sco) (e : Ex) (hs : smallS s) : AC Tryz.prog 70 [.pv (.agg (cSco s)), .pv (.agg (cEx e))] [] (.pv (vint (whenE s e))) [] := by
  refine AC.of_awp (T := T) T_ok hm Tryz.call70 Tryz.func70 rfl rfl rfl ?_
  conv => whnf
  repeat (any_goals (first
    | (refine ⟨fun (h : (_ : Bool) = true) => ?_, fun (h : (_ : Bool) = false) => ?_⟩ <;> (try simp only [decide_eq_true_eq, decide_eq_false_iff_not, Bool.not_eq_true', Bool.not_eq_false', Int.toNat_natCast, beq_iff_eq, decide_eq_decide, beq_eq_false_iff_ne, ne_eq, reduceCtorEq] at h) <;> (conv => whnf))
    | (refine .inl ⟨_, ac_r31_Expr s e hs, ?_⟩; conv => whnf)
    | (refine .inl ⟨_, ac_r45_Secure s.home e hs.1 (exprK_ok (by assumption)), ?_⟩; conv => whnf)
    | (refine And.intro (by (try simp only [Int.toNat_natCast]); omega) ?_; conv => whnf)
    | (refine And.intro (show (_ : Bool) = true from by kernel_rfl) ?_; conv => whnf)
    | (refine .inl ⟨wrap64 (by omega), ?_⟩; conv => whnf)))
  all_goals first
    | contradiction
    | (exfalso; omega)
    | exact PSub.rfl
    | (refine PSub.lit_sb ?_; (first | (simp [whenE, *]; done) | (simp_all [whenE]; done) | ((try simp only [whenE]); (repeat' split) <;> (try simp only [Bool.false_eq, Bool.true_eq, Bool.and_eq_false_iff, decide_eq_false_iff_not, Bool.and_eq_true, decide_eq_true_eq, decide_eq_decide]) <;> first | rfl | omega | (simp_all; done) | (simp_all; omega))))
    | (refine PSub.sb ?_; (first | (simp [whenE, *]; done) | (simp_all [whenE]; done) | ((try simp only [whenE]); (repeat' split) <;> (try simp only [Bool.false_eq, Bool.true_eq, Bool.and_eq_false_iff, decide_eq_false_iff_not, Bool.and_eq_true, decide_eq_true_eq, decide_eq_decide]) <;> first | rfl | omega | (simp_all; done) | (simp_all; omega))))
    | (refine PSub.sb_lit ?_; (first | (simp [whenE, *]; done) | (simp_all [whenE]; done) | ((try simp only [whenE]); (repeat' split) <;> (try simp only [Bool.false_eq, Bool.true_eq, Bool.and_eq_false_iff, decide_eq_false_iff_not, Bool.and_eq_true, decide_eq_true_eq, decide_eq_decide]) <;> first | rfl | omega | (simp_all; done) | (simp_all; omega))))
    | (refine PSub.int ?_; (first | (simp [whenE, *]; done) | (simp_all [whenE]; done) | ((try simp only [whenE]); (repeat' split) <;> (try simp only [Bool.false_eq, Bool.true_eq, Bool.and_eq_false_iff, decide_eq_false_iff_not, Bool.and_eq_true, decide_eq_true_eq, decide_eq_decide]) <;> first | rfl | omega | (simp_all; done) | (simp_all; omega))))
    | skip
end Go.Abs

namespace Go.Abs
open Go.Proofs
set_option maxRecDepth 10000
set_option maxHeartbeats 1000000 in
theorem ac_r45_One (s : Sco) (l : List Lck) (i : Nat) (hs : smallS s) (hl : goodLcks l) (hi : i < l.length) : AC Tryz.prog 39 [.pv (.agg (cSco s)), .pv (roL 16 cLck l), .pv (vint i)] [] (.pv (vint (oneE s l i))) [] := by
  have hl2 : l.length ≤ 1048576 := hl.1
  have hx := hl.2 i hi
  rw [oneE_eq]
  have fin0 : ∀ n, headE s l i = n → n ≠ 0 → PSub (vint n) (vint (if headE s l i ≠ 0 then headE s l i else if clashAt l i = true then 14 else 0)) := fun n e hn => PSub.int (by rw [if_pos (by rw [e]; exact hn), e])
  refine AC.of_awp (T := T) T_ok hm Tryz.call39 Tryz.func39 rfl rfl rfl ?_
  conv => whnf
  repeat (any_goals (first
    | (refine ⟨fun (h : (_ : Bool) = true) => ?_, fun (h : (_ : Bool) = false) => ?_⟩ <;> (try simp only [decide_eq_true_eq, decide_eq_false_iff_not, Bool.not_eq_true', Bool.not_eq_false', Int.toNat_natCast, beq_iff_eq, decide_eq_decide, beq_eq_false_iff_ne, ne_eq, reduceCtorEq] at h) <;> (conv => whnf))
    | (refine .inl ⟨_, ac_r04_Valid (l.getD i default).name, ?_⟩; conv => whnf)
    | (refine And.intro (by (try simp only [Int.toNat_natCast]); omega) ?_; conv => whnf)
    | (refine And.intro (show (_ : Bool) = true from by kernel_rfl) ?_; conv => whnf)
    | (refine .inl ⟨wrap64 (by omega), ?_⟩; conv => whnf)))
  · exact fin0 10 (by unfold headE; rw [if_pos h]) (by decide)
  have hv := h
  refine loop_k (ι := Nat) [1, 2, 3, 7] [3, 7] (fun k => k ≤ i ∧ (∀ j, j < k → decide ((l.getD j default).name = (l.getD i default).name) = false)) (fun k => i - k) 0 (fun k => [(8, .pv (vint k))]) (fun _ => []) [] ⟨Nat.zero_le _, fun j h => absurd h (by omega)⟩ ?_ (fun k hk => ?_)
  · (repeat' (first | exact PSub.rfl | exact rfl | exact PSubs.rfl | exact trivial | exact PSub.lit_sb rfl | refine And.intro ?_ ?_))
  obtain ⟨hkn, hinv⟩ := hk
  conv => whnf
  refine ⟨fun h => ?_, fun h => ?_⟩ <;> (try simp only [decide_eq_true_eq, decide_eq_false_iff_not, Bool.not_eq_true', Bool.not_eq_false', Int.toNat_natCast, beq_iff_eq, decide_eq_decide, beq_eq_false_iff_ne, ne_eq, reduceCtorEq] at h) <;> (conv => whnf)
  · repeat (any_goals (first
      | (refine ⟨fun (h : (_ : Bool) = true) => ?_, fun (h : (_ : Bool) = false) => ?_⟩ <;> (try simp only [decide_eq_true_eq, decide_eq_false_iff_not, Bool.not_eq_true', Bool.not_eq_false', Int.toNat_natCast, beq_iff_eq, decide_eq_decide, beq_eq_false_iff_ne, ne_eq, reduceCtorEq] at h) <;> (conv => whnf))
      | (refine And.intro (by (try simp only [Int.toNat_natCast]); omega) ?_; conv => whnf)
      | (refine And.intro (show (_ : Bool) = true from by kernel_rfl) ?_; conv => whnf)
      | (refine .inl ⟨wrap64 (by omega), ?_⟩; conv => whnf)))
    · refine fin0 9 ?_ (by decide)
      unfold headE
      rw [if_neg (by rw [hv]; decide), if_pos (anyN_true (k := k) (by omega) (decide_eq_true h))]
    · refine ⟨k + 1, [], ⟨by omega, ?_⟩, by first | omega | (dsimp only; omega), ?_⟩
      rotate_left
      · (repeat' (first | exact PSub.rfl | exact rfl | exact PSubs.rfl | exact trivial | exact PSub.lit_sb rfl | refine And.intro ?_ ?_))
      intro j hj
      by_cases e : j = k
      · subst e; exact decide_eq_false h
      · exact hinv j (by omega)
  have hn : anyN i (fun j => decide ((l.getD j default).name = (l.getD i default).name)) = false := anyN_false fun j hj => hinv j (by omega)
  have hd : headE s l i = if (l.getD i default).rank < 0 ∨ 100 < (l.getD i default).rank then 2
      else if whenE s (l.getD i default).cond ≠ 0 then whenE s (l.getD i default).cond
      else if 256 < (l.getD i default).force.length ∨ 256 < (l.getD i default).forbid.length then 3
      else itemsE s.home (l.getD i default) := by
    unfold headE
    rw [if_neg (by rw [hv]; decide), if_neg (by rw [hn]; decide)]
  clear hinv h hv hn hkn
  repeat (any_goals (first
    | (refine ⟨fun (h : (_ : Bool) = true) => ?_, fun (h : (_ : Bool) = false) => ?_⟩ <;> (try simp only [decide_eq_true_eq, decide_eq_false_iff_not, Bool.not_eq_true', Bool.not_eq_false', Int.toNat_natCast, beq_iff_eq, decide_eq_decide, beq_eq_false_iff_ne, ne_eq, reduceCtorEq] at h) <;> (conv => whnf))
    | (refine .inl ⟨_, ac_r45_When s (l.getD i default).cond hs, ?_⟩; conv => whnf)
    | (refine .inl ⟨_, ac_r45_Items s.home (l.getD i default) hs.1 hx, ?_⟩; conv => whnf)
    | (refine .inl ⟨_, ac_r45_Against (l.getD i default) (l.getD i default) hx.1 hx.2.1, ?_⟩; conv => whnf)
    | (refine And.intro (by (try simp only [Int.toNat_natCast]); omega) ?_; conv => whnf)
    | (refine And.intro (show (_ : Bool) = true from by kernel_rfl) ?_; conv => whnf)
    | (refine .inl ⟨wrap64 (by omega), ?_⟩; conv => whnf)))
  · exact fin0 2 (by rw [hd, if_pos (.inl h)]) (by decide)
  · exact fin0 2 (by rw [hd, if_pos (.inr h)]) (by decide)
  · rename_i g1 g2
    exact fin0 _ (by rw [hd, if_neg (by omega), if_pos h]) h
  · rename_i g1 g2 g3
    exact fin0 3 (by rw [hd, if_neg (by omega), if_neg (fun x => x g3), if_pos (.inl (by omega))]) (by decide)
  · rename_i g1 g2 g3 g4
    exact fin0 3 (by rw [hd, if_neg (by omega), if_neg (fun x => x g3), if_pos (.inr (by omega))]) (by decide)
  · rename_i g1 g2 g3 g4 g5
    exact fin0 _ (by rw [hd, if_neg (by omega), if_neg (fun x => x g3), if_neg (by omega)]) h
  · rename_i g1 g2 g3 g4 g5 g6
    have h0 : headE s l i = 0 := by rw [hd, if_neg (by omega), if_neg (fun x => x g3), if_neg (by omega)]; exact g6
    exact PSub.int (by rw [if_neg (by rw [h0]; decide), if_pos (by unfold clashAt; rw [h]; rfl)])
  · rename_i g1 g2 g3 g4 g5 g6
    have h0 : headE s l i = 0 := by rw [hd, if_neg (by omega), if_neg (fun x => x g3), if_neg (by omega)]; exact g6
    rw [if_neg (by rw [h0]; decide), show clashAt l i = anyN i (fun j => clashB (l.getD j default) (l.getD i default)) from by unfold clashAt; rw [h]; rfl]
    clear hd fin0 g1 g2 g3 g4 g5 g6 h h0
    refine loop_k (ι := Nat) [1, 2, 7] [7] (fun k => k ≤ i ∧ (∀ j, j < k → clashB (l.getD j default) (l.getD i default) = false)) (fun k => i - k) 0 (fun k => [(10, .pv (vint k))]) (fun _ => []) [] ⟨Nat.zero_le _, fun j h => absurd h (by omega)⟩ ?_ (fun k hk => ?_)
    · (repeat' (first | exact PSub.rfl | exact rfl | exact PSubs.rfl | exact trivial | exact PSub.lit_sb rfl | refine And.intro ?_ ?_))
    obtain ⟨hkn, hinv⟩ := hk
    conv => whnf
    refine ⟨fun h => ?_, fun h => ?_⟩ <;> (try simp only [decide_eq_true_eq, decide_eq_false_iff_not, Bool.not_eq_true', Bool.not_eq_false', Int.toNat_natCast, beq_iff_eq, decide_eq_decide, beq_eq_false_iff_ne, ne_eq, reduceCtorEq] at h) <;> (conv => whnf)
    · have hk : k < i := by omega
      have hy := hl.2 k (by omega)
      repeat (any_goals (first
        | (refine ⟨fun (h : (_ : Bool) = true) => ?_, fun (h : (_ : Bool) = false) => ?_⟩ <;> (try simp only [decide_eq_true_eq, decide_eq_false_iff_not, Bool.not_eq_true', Bool.not_eq_false', Int.toNat_natCast, beq_iff_eq, decide_eq_decide, beq_eq_false_iff_ne, ne_eq, reduceCtorEq] at h) <;> (conv => whnf))
        | (refine .inl ⟨_, ac_r45_Against (l.getD k default) (l.getD i default) hy.1 hx.2.1, ?_⟩; conv => whnf)
        | (refine .inl ⟨_, ac_r45_Against (l.getD i default) (l.getD k default) hx.1 hy.2.1, ?_⟩; conv => whnf)
        | (refine .inl ⟨_, ac_r45_Other (l.getD k default) (l.getD i default) hy.1 hx.1, ?_⟩; conv => whnf)
        | (refine And.intro (by (try simp only [Int.toNat_natCast]); omega) ?_; conv => whnf)
        | (refine And.intro (show (_ : Bool) = true from by kernel_rfl) ?_; conv => whnf)
        | (refine .inl ⟨wrap64 (by omega), ?_⟩; conv => whnf)))
      all_goals first
        | exact PSub.int (by rw [if_pos (anyN_true (k := k) hk (by unfold clashB; simp_all))])
        | skip
      all_goals (refine ⟨k + 1, [], ⟨by omega, fun j hj => ?_⟩, by omega, ?_⟩)
      all_goals first
        | (by_cases e : j = k; · subst e; unfold clashB; simp_all
           exact hinv j (by omega))
        | skip
      all_goals (repeat' (first | exact PSub.rfl | exact rfl | exact PSubs.rfl | exact trivial | refine And.intro ?_ ?_))
    · exact PSub.int (by rw [if_neg (by rw [anyN_false fun j hj => hinv j (by omega)]; decide)])
theorem ac_r45_Check (s : Sco) (l : List Lck) (hs : smallS s) (hl : goodLcks l) : AC Tryz.prog 15 [.pv (.agg (cSco s)), .pv (roL 16 cLck l)] [] (.pv (vint (locksE s l))) [] := by
  have hl2 : l.length ≤ 1048576 := hl.1
  refine AC.of_awp (T := T) T_ok hm Tryz.call15 Tryz.func15 rfl rfl rfl ?_
  conv => whnf
  repeat (any_goals (first
    | (refine ⟨fun (h : (_ : Bool) = true) => ?_, fun (h : (_ : Bool) = false) => ?_⟩ <;> (try simp only [decide_eq_true_eq, decide_eq_false_iff_not, Bool.not_eq_true', Bool.not_eq_false', Int.toNat_natCast, beq_iff_eq, decide_eq_decide, beq_eq_false_iff_ne, ne_eq, reduceCtorEq] at h) <;> (conv => whnf))
    | (refine .inl ⟨_, ac_r31_Check s hs, ?_⟩; conv => whnf)
    | (refine And.intro (by (try simp only [Int.toNat_natCast]); omega) ?_; conv => whnf)
    | (refine And.intro (show (_ : Bool) = true from by kernel_rfl) ?_; conv => whnf)
    | (refine .inl ⟨wrap64 (by omega), ?_⟩; conv => whnf)))
  · exact PSub.int (by unfold locksE; rw [if_pos h])
  · rename_i h1
    exact PSub.int (by unfold locksE; rw [if_neg (fun x => x h1), if_pos (by omega)])
  · rename_i h1
    have hd : locksE s l = firstE l.length (oneE s l) := by unfold locksE; rw [if_neg (fun x => x h1), if_neg (by omega)]
    rw [hd]
    clear hd h1 h
    refine loop_k (ι := Nat) [1, 2, 16] [2] (fun k => k ≤ l.length ∧ (∀ j, j < k → oneE s l j = 0)) (fun k => l.length - k) 0 (fun k => [(17, .pv (vint k))]) (fun _ => []) [] ⟨Nat.zero_le _, fun j h => absurd h (by omega)⟩ ?_ (fun k hk => ?_)
    · (repeat' (first | exact PSub.rfl | exact rfl | exact PSubs.rfl | exact trivial | exact PSub.lit_sb rfl | refine And.intro ?_ ?_))
    obtain ⟨hkn, hinv⟩ := hk
    conv => whnf
    refine ⟨fun h => ?_, fun h => ?_⟩ <;> (try simp only [decide_eq_true_eq, decide_eq_false_iff_not, Bool.not_eq_true', Bool.not_eq_false', Int.toNat_natCast, beq_iff_eq, decide_eq_decide, beq_eq_false_iff_ne, ne_eq, reduceCtorEq] at h) <;> (conv => whnf)
    · have hk : k < l.length := by omega
      repeat (any_goals (first
        | (refine ⟨fun (h : (_ : Bool) = true) => ?_, fun (h : (_ : Bool) = false) => ?_⟩ <;> (try simp only [decide_eq_true_eq, decide_eq_false_iff_not, Bool.not_eq_true', Bool.not_eq_false', Int.toNat_natCast, beq_iff_eq, decide_eq_decide, beq_eq_false_iff_ne, ne_eq, reduceCtorEq] at h) <;> (conv => whnf))
        | (refine .inl ⟨_, ac_r45_One s l k hs hl hk, ?_⟩; conv => whnf)
        | (refine And.intro (by (try simp only [Int.toNat_natCast]); omega) ?_; conv => whnf)
        | (refine And.intro (show (_ : Bool) = true from by kernel_rfl) ?_; conv => whnf)
        | (refine .inl ⟨wrap64 (by omega), ?_⟩; conv => whnf)))
      · exact PSub.int (by rw [firstE_at hk h hinv])
      · refine ⟨k + 1, [], ⟨by omega, ?_⟩, by first | omega | (dsimp only; omega), ?_⟩
        rotate_left
        · (repeat' (first | exact PSub.rfl | exact rfl | exact PSubs.rfl | exact trivial | exact PSub.lit_sb rfl | refine And.intro ?_ ?_))
        intro j hj
        by_cases e : j = k
        · subst e; exact h
        · exact hinv j (by omega)
    · exact PSub.int (by rw [firstE_none fun j hj => hinv j (by omega)])
end Go.Abs

namespace Go.Abs
open Go.Proofs
set_option maxRecDepth 10000
def cluFew (c : Clu) : Bool := !(decide (20 < c.attrs.length) || decide (20 < c.commands.length) || decide (20 < c.events.length))
def scoB (s : Sco) : Bool := !(decide (12 < s.home.clusters.length) || decide (8 < s.home.devices.length) || decide (20 < s.modes.length) || decide (20 < s.scenes.length)) &&
  (s.home.clusters.all cluFew && s.home.devices.all fun d => !decide (20 < d.clusters.length))
theorem ac_law45_scope (s : Sco) (hs : smallS s) : AC Tryz.prog 11 [.pv (.agg (cSco s))] [] (.pv (vbool (scoB s))) [] := by
  refine AC.of_awp (T := T) T_ok hm Tryz.call11 Tryz.func11 rfl rfl rfl ?_
  conv => whnf
  repeat (any_goals (first
    | (refine ⟨fun (h : (_ : Bool) = true) => ?_, fun (h : (_ : Bool) = false) => ?_⟩ <;> (try simp only [decide_eq_true_eq, decide_eq_false_iff_not, Bool.not_eq_true', Bool.not_eq_false', Int.toNat_natCast, beq_iff_eq, decide_eq_decide, beq_eq_false_iff_ne, ne_eq, reduceCtorEq] at h) <;> (conv => whnf))
    | (refine And.intro (by (try simp only [Int.toNat_natCast]); omega) ?_; conv => whnf)
    | (refine And.intro (show (_ : Bool) = true from by kernel_rfl) ?_; conv => whnf)
    | (refine .inl ⟨wrap64 (by omega), ?_⟩; conv => whnf)))
  · exact PSub.lit_sb (by unfold scoB; rw [decide_eq_true (show 12 < s.home.clusters.length by omega)]; rfl)
  · exact PSub.lit_sb (by unfold scoB; rw [decide_eq_true (show 8 < s.home.devices.length by omega)]; simp)
  · exact PSub.lit_sb (by unfold scoB; rw [decide_eq_true (show 20 < s.modes.length by omega)]; simp)
  · exact PSub.lit_sb (by unfold scoB; rw [decide_eq_true (show 20 < s.scenes.length by omega)]; simp)
  rename_i g1 g2 g3
  have hd : scoB s = (s.home.clusters.all cluFew && s.home.devices.all fun d => !decide (20 < d.clusters.length)) := by
    unfold scoB
    rw [decide_eq_false (show ¬ 12 < s.home.clusters.length by omega), decide_eq_false (show ¬ 8 < s.home.devices.length by omega), decide_eq_false (show ¬ 20 < s.modes.length by omega), decide_eq_false (show ¬ 20 < s.scenes.length by omega)]
    rfl
  rw [hd]
  have hcl : s.home.clusters.length ≤ 12 := by omega
  have hdl : s.home.devices.length ≤ 8 := by omega
  clear h g1 g2 g3 hd
  refine loop_k (ι := Nat) [1, 33, 34] [1] (fun k => k ≤ s.home.clusters.length ∧ (∀ j, j < k → cluFew (s.home.clusters.getD j default) = true)) (fun k => s.home.clusters.length - k) 0 (fun k => [(35, .pv (vint k))]) (fun _ => []) [] ⟨Nat.zero_le _, fun j h => absurd h (by omega)⟩ ?_ (fun k hk => ?_)
  · (repeat' (first | exact PSub.rfl | exact rfl | exact PSubs.rfl | exact trivial | exact PSub.lit_sb rfl | refine And.intro ?_ ?_))
  obtain ⟨hkn, hinv⟩ := hk
  conv => whnf
  refine ⟨fun h => ?_, fun h => ?_⟩ <;> (try simp only [decide_eq_true_eq, decide_eq_false_iff_not, Bool.not_eq_true', Bool.not_eq_false', Int.toNat_natCast, beq_iff_eq, decide_eq_decide, beq_eq_false_iff_ne, ne_eq, reduceCtorEq] at h) <;> (conv => whnf)
  · have hk : k < s.home.clusters.length := by omega
    repeat (any_goals (first
      | (refine ⟨fun (h : (_ : Bool) = true) => ?_, fun (h : (_ : Bool) = false) => ?_⟩ <;> (try simp only [decide_eq_true_eq, decide_eq_false_iff_not, Bool.not_eq_true', Bool.not_eq_false', Int.toNat_natCast, beq_iff_eq, decide_eq_decide, beq_eq_false_iff_ne, ne_eq, reduceCtorEq] at h) <;> (conv => whnf))
      | (refine And.intro (by (try simp only [Int.toNat_natCast]); omega) ?_; conv => whnf)
      | (refine And.intro (show (_ : Bool) = true from by kernel_rfl) ?_; conv => whnf)
      | (refine .inl ⟨wrap64 (by omega), ?_⟩; conv => whnf)))
    all_goals first
      | exact PSub.lit_sb (by rw [all_getD_false (j := k) hk (by unfold cluFew; rw [decide_eq_true (show 20 < (s.home.clusters.getD k default).attrs.length by omega)]; rfl)]; rfl)
      | exact PSub.lit_sb (by rw [all_getD_false (j := k) hk (by unfold cluFew; rw [decide_eq_true (show 20 < (s.home.clusters.getD k default).commands.length by omega)]; simp)]; rfl)
      | exact PSub.lit_sb (by rw [all_getD_false (j := k) hk (by unfold cluFew; rw [decide_eq_true (show 20 < (s.home.clusters.getD k default).events.length by omega)]; simp)]; rfl)
      | skip
    refine ⟨k + 1, [], ⟨by omega, ?_⟩, by first | omega | (dsimp only; omega), ?_⟩
    rotate_left
    · (repeat' (first | exact PSub.rfl | exact rfl | exact PSubs.rfl | exact trivial | exact PSub.lit_sb rfl | refine And.intro ?_ ?_))
    intro j hj
    by_cases e : j = k
    · subst e
      unfold cluFew
      rw [decide_eq_false (show ¬ 20 < (s.home.clusters.getD j default).attrs.length by omega), decide_eq_false (show ¬ 20 < (s.home.clusters.getD j default).commands.length by omega), decide_eq_false (show ¬ 20 < (s.home.clusters.getD j default).events.length by omega)]; rfl
    · exact hinv j (by omega)
  · rw [all_getD (l := s.home.clusters) fun j hj => hinv j (by omega), Bool.true_and]
    clear hinv hkn h
    have hdl2 : s.home.devices.length ≤ 8 := hdl
    refine loop_k (ι := Nat) [58, 59] [] (fun k => k ≤ s.home.devices.length ∧ (∀ j, j < k → decide (20 < (s.home.devices.getD j default).clusters.length) = false)) (fun k => s.home.devices.length - k) 0 (fun k => [(60, .pv (vint k))]) (fun _ => []) [] ⟨Nat.zero_le _, fun j h => absurd h (by omega)⟩ ?_ (fun k hk => ?_)
    · (repeat' (first | exact PSub.rfl | exact rfl | exact PSubs.rfl | exact trivial | exact PSub.lit_sb rfl | refine And.intro ?_ ?_))
    obtain ⟨hkn, hinv⟩ := hk
    conv => whnf
    refine ⟨fun h => ?_, fun h => ?_⟩ <;> (try simp only [decide_eq_true_eq, decide_eq_false_iff_not, Bool.not_eq_true', Bool.not_eq_false', Int.toNat_natCast, beq_iff_eq, decide_eq_decide, beq_eq_false_iff_ne, ne_eq, reduceCtorEq] at h) <;> (conv => whnf)
    · have hk : k < s.home.devices.length := by omega
      repeat (any_goals (first
        | (refine ⟨fun (h : (_ : Bool) = true) => ?_, fun (h : (_ : Bool) = false) => ?_⟩ <;> (try simp only [decide_eq_true_eq, decide_eq_false_iff_not, Bool.not_eq_true', Bool.not_eq_false', Int.toNat_natCast, beq_iff_eq, decide_eq_decide, beq_eq_false_iff_ne, ne_eq, reduceCtorEq] at h) <;> (conv => whnf))
        | (refine And.intro (by (try simp only [Int.toNat_natCast]); omega) ?_; conv => whnf)
        | (refine And.intro (show (_ : Bool) = true from by kernel_rfl) ?_; conv => whnf)
        | (refine .inl ⟨wrap64 (by omega), ?_⟩; conv => whnf)))
      · exact PSub.lit_sb (all_getD_false (j := k) hk (by rw [decide_eq_true (show 20 < (s.home.devices.getD k default).clusters.length by omega)]; rfl)).symm
      refine ⟨k + 1, [], ⟨by omega, ?_⟩, by first | omega | (dsimp only; omega), ?_⟩
      rotate_left
      · (repeat' (first | exact PSub.rfl | exact rfl | exact PSubs.rfl | exact trivial | exact PSub.lit_sb rfl | refine And.intro ?_ ?_))
      intro j hj
      by_cases e : j = k
      · subst e; exact decide_eq_false (by omega)
      · exact hinv j (by omega)
    · exact PSub.lit_sb (all_getD fun j hj => by rw [hinv j (by omega)]; rfl).symm
end Go.Abs

namespace Go.Abs
open Go.Proofs
set_option maxRecDepth 10000
theorem ac_law45_InterlockChecks (s : Sco) (l : List Lck) (hs : smallS s) (hl : smallL l) : AC Tryz.prog 3 [.pv (.agg (cSco s)), .pv (roL 16 cLck l)] [] (.pv (vbool true)) [] := by
  refine AC.of_awp (T := T) T_ok hm Tryz.call3 Tryz.func3 rfl rfl rfl ?_
  conv => whnf
  repeat (any_goals (first
    | (refine ⟨fun (h : (_ : Bool) = true) => ?_, fun (h : (_ : Bool) = false) => ?_⟩ <;> (try simp only [decide_eq_true_eq, decide_eq_false_iff_not, Bool.not_eq_true', Bool.not_eq_false', Int.toNat_natCast, beq_iff_eq, decide_eq_decide, beq_eq_false_iff_ne, ne_eq, reduceCtorEq] at h) <;> (conv => whnf))
    | (refine .inl ⟨_, ac_law45_scope s hs, ?_⟩; conv => whnf)
    | (refine .inl ⟨_, ac_law45_few l hl, ?_⟩; conv => whnf)
    | (refine .inl ⟨_, ac_law45_awake, ?_⟩; conv => whnf)
    | (refine .inl ⟨_, ac_interlock_Check s l hs (few_good hl (by assumption)), ?_⟩; conv => whnf)
    | (refine .inl ⟨_, ac_r45_Check s l hs (few_good hl (by assumption)), ?_⟩; conv => whnf)
    | (refine And.intro (by (try simp only [Int.toNat_natCast]); omega) ?_; conv => whnf)
    | (refine And.intro (show (_ : Bool) = true from by kernel_rfl) ?_; conv => whnf)
    | (refine .inl ⟨wrap64 (by omega), ?_⟩; conv => whnf)))
  all_goals first | exact PSub.rfl | exact PSub.sb rfl | exact PSub.lit_sb rfl | exact absurd trivial h | (exfalso; exact h rfl)
end Go.Abs
