/- YtgbhffppbdppaaaGreatY00: walks and contracts. -/
import Derived.Test.YtgbhffppbdppaaaGreatX06
import Derived.ChangeArms
import Derived.ChangeOld
import Derived.DataReads
import Derived.Laws.RangeString
import Derived.Shelf.SlSortCmp.Insertion

set_option linter.unusedVariables false
set_option linter.unusedSimpArgs false
set_option linter.unusedSectionVars false

namespace Go.Abs
open Go.RowKit
section
variable {H : Type} (enc : TypeId × Value → H) (P : Program) (w : World) (bulk : DataW H → Nat) (B : Nat)
end
section
variable {H : Type} {enc : TypeId × Value → H} {P : Program} {w : World} {bulk : DataW H → Nat} {B : Nat}
theorem Opens.arg_struct {t : TypeId} {fs : Array Field} {α : Type} {cs : α → List PV} {good : α → Prop} {r : Go.Reach} {base : Nat} {v : Value} {d : DataW H} {ps : List MemPlace} (h : Opens enc P w bulk B t cs good) (ht : P.underlying t = some (.struct fs))
    (hok : Value.okWide P w r base t v) (hd : DataW.Trod enc P w 0 (fun _ => true) true t v d ps) (hb : bulk d ≤ B) : ∃ a : α, good a ∧ PR w (fun _ => False) (.agg (cs a)) v := by
  unfold Value.okWide at hok
  rw [ht] at hok
  obtain ⟨vs, rfl, _, _⟩ := hok
  obtain ⟨n, hn⟩ := hd
  have ec : (Value.agg vs).cells = vs := rfl
  rw [ec] at hn
  obtain ⟨a, ha, hr⟩ := h _ _ _ _ hn hb
  refine ⟨a, ha, .agg _ vs (by simpa using hr.len) (fun i p hp => by simpa [Array.getD_eq_getD_getElem?, List.getD] using hr.pr i p hp) (fun i hi => by simpa [Array.getD_eq_getD_getElem?, List.getD, hi] using hr.one i (by simpa using hi))⟩
end
end Go.Abs

namespace Go.Abs
open Go.Proofs
theorem ac_r04_Index (l : List ByteArray) (x : ByteArray) (hl : l.length ≤ 1048576) : AC Tryz.prog 111 [.pv (roL 1 cstr l), .pv (vstr x)] [] (.pv (vint (idxOf l x))) [] := by
  refine AC.of_awp (T := T) T_ok hm Tryz.call111 Tryz.func111 rfl rfl rfl ?_
  conv => whnf
  refine ⟨Nat, fun k => k ≤ l.length ∧ ∀ j, j < k → l.getD j default ≠ x, fun k => ⟨[(0, .pv (roL 1 cstr l)), (1, .pv (vstr x)), (5, .pv (vint k))], []⟩, fun k => l.length - k, 0, [], ⟨Nat.zero_le _, fun j h => absurd h (by omega)⟩, ⟨.rfl, .rfl, .rfl⟩, fun k hk => ?_⟩
  conv => whnf
  refine ⟨fun h => ?_, fun h => ?_⟩
  · simp only [decide_eq_true_eq] at h
    refine ⟨by omega, ?_⟩
    conv => whnf
    refine ⟨fun h2 => ?_, fun h2 => ?_⟩
    · conv => whnf
      simp only [decide_eq_true_eq] at h2
      exact PSub.int (by rw [idxOf_some (k := k) (by omega) (by simpa using h2) hk.2])
    · conv => whnf
      refine .inl ⟨wrap64 (by omega), ?_⟩
      conv => whnf
      simp only [decide_eq_false_iff_not] at h2
      refine ⟨k + 1, [], ⟨by omega, fun j hj => ?_⟩, by dsimp only; omega, .rfl, .rfl, .rfl⟩
      by_cases e : j = k
      · subst e; simpa using h2
      · exact hk.2 j (by omega)
  · conv => whnf
    simp only [decide_eq_false_iff_not] at h
    exact PSub.int (by rw [idxOf_none fun j hj => hk.2 j (by omega)])
theorem ac_r04_Valid (s : ByteArray) : AC Tryz.prog 38 [.pv (vstr s)] [] (.pv (vbool (validName s))) [] := by
  refine AC.of_awp (T := T) T_ok hm Tryz.call38 Tryz.func38 rfl rfl rfl ?_
  conv => whnf
  refine ⟨fun h => ?_, fun h => ?_⟩
  · conv => whnf
    simp only [decide_eq_true_eq] at h
    exact PSub.lit_sb (by symm; simp [validName]; omega)
  conv => whnf
  refine ⟨fun h2 => ?_, fun h2 => ?_⟩
  · conv => whnf
    simp only [decide_eq_true_eq] at h2
    exact PSub.lit_sb (by symm; simp [validName]; omega)
  conv => whnf
  simp only [decide_eq_false_iff_not] at h h2
  refine ⟨Nat, fun k => k ≤ s.size ∧ ∀ j, j < k → letterOk j (byteAt s j) = true, fun k => ⟨[(0, .pv (vstr s)), (3, .pv (vint k))], []⟩, fun k => s.size - k, 0, [], ⟨Nat.zero_le _, fun j h => absurd h (by omega)⟩, ⟨.rfl, .rfl⟩, fun k hk => ?_⟩
  conv => whnf
  refine ⟨fun h3 => ?_, fun h3 => ?_⟩
  · conv => whnf
    simp only [decide_eq_true_eq] at h3
    refine ⟨by omega, ?_⟩
    conv => whnf
    have hb : ∀ j, j < k → letterOk j (byteAt s j) = true := hk.2
    have hkl := hk.1
    clear hk
    have hkn : (k : Int).toNat = k := rfl
    simp only [hkn]
    iterate 9 (all_goals first | (refine ⟨fun h => ?_, fun h => ?_⟩ <;> (conv => whnf)) | skip)
    all_goals simp only [decide_eq_true_eq, decide_eq_false_iff_not, Bool.not_eq_true', Bool.not_eq_false', Int.toNat_natCast] at *
    all_goals first
      | contradiction
      | exact PSub.lit_sb (validName_bad (k := k) (by omega) (by omega))
      | (refine .inl ⟨wrap64 (by omega), ?_⟩
         conv => whnf
         refine ⟨k + 1, [], ⟨by omega, fun j hj => ?_⟩, by omega, .rfl, .rfl⟩
         by_cases e : j = k
         · subst e; exact letterOk_iff.2 (by omega)
         · exact hb j (by omega))
  · conv => whnf
    simp only [decide_eq_false_iff_not] at h3
    exact PSub.lit_sb (by symm; rw [validName_iff]; exact ⟨by omega, by omega, fun i hi => hk.2 i (by omega)⟩)
end Go.Abs

namespace Go.Abs
open Go.Proofs
set_option maxRecDepth 10000
theorem ac_r20_Check (v : Val) : AC Tryz.prog 158 [.pv (.agg (cVal v))] [] (.pv (vint (valE v))) [] := by
  refine AC.of_awp (T := T) T_ok hm Tryz.call158 Tryz.func158 rfl rfl rfl ?_
  conv => whnf
  iterate 14 (all_goals first | (refine ⟨fun h => ?_, fun h => ?_⟩ <;> (conv => whnf)) | skip)
  all_goals simp only [decide_eq_true_eq, decide_eq_false_iff_not, Bool.not_eq_true', Bool.not_eq_false'] at *
  all_goals first
    | contradiction
    | exact PSub.int (by simp only [valE, inRange, Bool.and_eq_false_iff, decide_eq_false_iff_not]; (repeat' split) <;> first | rfl | omega | (simp_all; done) | (simp_all; omega))
    | trace_state
theorem ac_r20_member (l : List ByteArray) (n : Nat) (x : ByteArray) (hl : n ≤ 1048576) : AC Tryz.prog 143 [.pv (.ro 1 n fun i => cstr (l.getD i default)), .pv (vstr x)] [] (.pv (vbool (memN l n x))) [] := by
  refine AC.of_awp (T := T) T_ok hm Tryz.call143 Tryz.func143 rfl rfl rfl ?_
  conv => whnf
  refine ⟨Nat, fun k => k ≤ n ∧ ∀ j, j < k → l.getD j default ≠ x, fun k => ⟨[(0, .pv (.ro 1 n fun i => cstr (l.getD i default))), (1, .pv (vstr x)), (5, .pv (vint k))], []⟩, fun k => n - k, 0, [], ⟨Nat.zero_le _, fun j h => absurd h (by omega)⟩, ⟨.rfl, .rfl, .rfl⟩, fun k hk => ?_⟩
  conv => whnf
  refine ⟨fun h => ?_, fun h => ?_⟩
  · simp only [decide_eq_true_eq] at h
    refine ⟨by omega, ?_⟩
    conv => whnf
    refine ⟨fun h2 => ?_, fun h2 => ?_⟩
    · conv => whnf
      simp only [decide_eq_true_eq] at h2
      exact PSub.lit_sb (memN_true (k := k) (by omega) (by simpa using h2)).symm
    · conv => whnf
      refine .inl ⟨wrap64 (by omega), ?_⟩
      conv => whnf
      simp only [decide_eq_false_iff_not] at h2
      refine ⟨k + 1, [], ⟨by omega, fun j hj => ?_⟩, by dsimp only; omega, .rfl, .rfl, .rfl⟩
      by_cases e : j = k
      · subst e; simpa using h2
      · exact hk.2 j (by omega)
  · conv => whnf
    simp only [decide_eq_false_iff_not] at h
    exact PSub.lit_sb (memN_false fun j hj => hk.2 j (by omega)).symm
theorem ac_r20_Def (a : Attr) (hl : a.enum.length ≤ 1048576) : AC Tryz.prog 126 [.pv (.agg (cAttr a))] [] (.pv (vint (defE a))) [] := by
  refine AC.of_awp (T := T) T_ok hm Tryz.call126 Tryz.func126 rfl rfl rfl ?_
  conv => whnf
  refine .inl ⟨_, ac_r04_Valid _, ?_⟩
  conv => whnf
  refine ⟨fun h => ?_, fun h => ?_⟩
  · conv => whnf
    simp only [Bool.not_eq_true'] at h
    exact PSub.int (by rw [defE, if_pos h])
  conv => whnf
  simp only [Bool.not_eq_false'] at h
  have h : ¬ validName a.name = false := by rw [h]; decide
  have hk : a.kind < 1 ∨ 4 < a.kind → PSub (ofConst (.int .i64 7)) (vint (defE a)) := fun hh => PSub.int (by rw [defE, if_neg h, if_pos hh])
  refine ⟨fun h2 => ?_, fun h2 => ?_⟩
  · conv => whnf
    simp only [decide_eq_true_eq] at h2
    exact hk (.inl h2)
  conv => whnf
  refine ⟨fun h3 => ?_, fun h3 => ?_⟩
  · conv => whnf
    simp only [decide_eq_true_eq] at h3
    exact hk (.inr h3)
  conv => whnf
  simp only [decide_eq_false_iff_not] at h2 h3
  have hk2 : ¬ (a.kind < 1 ∨ 4 < a.kind) := by omega
  have tail : ∀ (hq : ¬ (a.kind = 2 ∧ (inRange a.min = false ∨ inRange a.max = false ∨ a.max < a.min))) (hq2 : ¬ (a.kind ≠ 2 ∧ (a.min ≠ 0 ∨ a.max ≠ 0))), defE a = if a.kind = 3 then membersE a.enum else if 0 < a.enum.length then 4 else 0 := fun hq hq2 => by
    rw [defE, if_neg h, if_neg hk2, if_neg hq, if_neg hq2]
  have hin : ∀ n, inRange n = false ↔ ¬ (-1099511627776 ≤ n ∧ n ≤ 1099511627776) := fun n => by
    rw [← Bool.not_eq_true, inRange, Bool.and_eq_true, decide_eq_true_eq, decide_eq_true_eq]
  refine ⟨fun h4 => ?_, fun h4 => ?_⟩
  · conv => whnf
    simp only [decide_eq_true_eq] at h4
    have bad : (a.min < -1099511627776 ∨ 1099511627776 < a.max ∨ a.max < a.min) → PSub (ofConst (.int .i64 2)) (vint (defE a)) := fun hh => PSub.int (by rw [defE, if_neg h, if_neg hk2, if_pos ⟨h4, by rw [hin, hin]; omega⟩])
    refine ⟨fun h5 => ?_, fun h5 => ?_⟩
    · conv => whnf
      simp only [decide_eq_true_eq] at h5
      exact bad (.inl h5)
    conv => whnf
    refine ⟨fun h6 => ?_, fun h6 => ?_⟩
    · conv => whnf
      simp only [decide_eq_true_eq] at h6
      exact bad (.inr (.inl h6))
    conv => whnf
    refine ⟨fun h7 => ?_, fun h7 => ?_⟩
    · conv => whnf
      simp only [decide_eq_true_eq] at h7
      exact bad (.inr (.inr h7))
    conv => whnf
    simp only [decide_eq_false_iff_not] at h5 h6 h7
    have hd := tail (by rw [hin, hin]; omega) (by omega)
    rw [if_neg (by omega)] at hd
    rw [hd]
    refine ⟨fun h8 => ?_, fun h8 => ?_⟩
    · conv => whnf
      refine ⟨fun h9 => ?_, fun h9 => ?_⟩
      · conv => whnf
        simp only [decide_eq_true_eq] at h9
        exact PSub.int (by rw [if_pos (by omega)])
      · conv => whnf
        simp only [decide_eq_false_iff_not] at h9
        exact PSub.int (by rw [if_neg (by omega)])
    · simp only [Bool.not_eq_false', decide_eq_true_eq] at h8
      omega
  · conv => whnf
    simp only [decide_eq_false_iff_not] at h4
    have bad : (a.min ≠ 0 ∨ a.max ≠ 0) → PSub (ofConst (.int .i64 2)) (vint (defE a)) := fun hh => PSub.int (by rw [defE, if_neg h, if_neg hk2, if_neg (fun x => h4 x.1), if_pos ⟨h4, hh⟩])
    refine ⟨fun h5 => ?_, fun h5 => ?_⟩
    · conv => whnf
      simp only [Bool.not_eq_true', decide_eq_false_iff_not] at h5
      exact bad (.inl h5)
    conv => whnf
    refine ⟨fun h6 => ?_, fun h6 => ?_⟩
    · conv => whnf
      simp only [Bool.not_eq_true', decide_eq_false_iff_not] at h6
      exact bad (.inr h6)
    conv => whnf
    simp only [Bool.not_eq_false', decide_eq_true_eq] at h5 h6
    have hd := tail (fun x => h4 x.1) (by omega)
    rw [hd]
    refine ⟨fun h8 => ?_, fun h8 => ?_⟩
    · conv => whnf
      simp only [Bool.not_eq_true', decide_eq_false_iff_not] at h8
      rw [if_neg h8]
      refine ⟨fun h9 => ?_, fun h9 => ?_⟩
      · conv => whnf
        simp only [decide_eq_true_eq] at h9
        exact PSub.int (by rw [if_pos (by omega)])
      · conv => whnf
        simp only [decide_eq_false_iff_not] at h9
        exact PSub.int (by rw [if_neg (by omega)])
    conv => whnf
    simp only [Bool.not_eq_false', decide_eq_true_eq] at h8
    rw [if_pos h8]
    refine ⟨fun h => ?_, fun h => ?_⟩
    · conv => whnf
      simp only [decide_eq_true_eq] at h
      exact PSub.int (by rw [membersE, if_pos (by omega)])
    conv => whnf
    refine ⟨fun h9 => ?_, fun h9 => ?_⟩
    · conv => whnf
      simp only [decide_eq_true_eq] at h9
      exact PSub.int (by rw [membersE, if_pos (by omega)])
    conv => whnf
    simp only [decide_eq_false_iff_not] at h h9
    have e0 : membersE a.enum = firstE a.enum.length fun i => if validName (a.enum.getD i default) = false then 10 else if idxOf a.enum (a.enum.getD i default) < i then 9 else 0 := by rw [membersE, if_neg (by omega)]
    rw [e0]
    generalize hf : (fun i => if validName (a.enum.getD i default) = false then (10 : Int) else if idxOf a.enum (a.enum.getD i default) < (i : Int) then 9 else 0) = f
    have hfi : ∀ i, f i = if validName (a.enum.getD i default) = false then (10 : Int) else if idxOf a.enum (a.enum.getD i default) < (i : Int) then 9 else 0 := fun i => by rw [← hf]
    refine ⟨Nat, fun k => k ≤ a.enum.length ∧ ∀ j, j < k → f j = 0, fun k => ⟨[(1, .ptr 1 0), (3, .pv (vint k))], [(1, .pbox (cAttr a))]⟩, fun k => a.enum.length - k, 0, [], ⟨Nat.zero_le _, fun j h => absurd h (by omega)⟩, ⟨⟨PSubs.rfl, trivial⟩, rfl, .rfl⟩, fun k hk => ?_⟩
    conv => whnf
    refine ⟨fun h3 => ?_, fun h3 => ?_⟩
    · conv => whnf
      simp only [decide_eq_true_eq] at h3
      refine ⟨by omega, ?_⟩
      conv => whnf
      refine .inl ⟨_, ac_r04_Valid _, ?_⟩
      conv => whnf
      have hfk := hfi k
      refine ⟨fun h4 => ?_, fun h4 => ?_⟩
      · conv => whnf
        simp only [Bool.not_eq_true', Int.toNat_natCast] at h4
        rw [if_pos h4] at hfk
        exact PSub.int (by rw [firstE_at (k := k) (by omega) (by rw [hfk]; decide) hk.2, hfk])
      · conv => whnf
        simp only [Bool.not_eq_false', Int.toNat_natCast] at h4
        rw [if_neg (by rw [h4]; decide)] at hfk
        refine ⟨by kernel_rfl, ?_⟩
        conv => whnf
        refine ⟨by omega, ?_⟩
        conv => whnf
        refine ⟨by omega, ?_⟩
        conv => whnf
        refine .inl ⟨_, ac_r20_member a.enum k _ (by omega), ?_⟩
        conv => whnf
        refine ⟨by kernel_rfl, ?_⟩
        conv => whnf
        refine ⟨fun h5 => ?_, fun h5 => ?_⟩
        · conv => whnf
          rw [if_pos ((idxOf_lt (by omega)).2 h5)] at hfk
          exact PSub.int (by rw [firstE_at (k := k) (by omega) (by rw [hfk]; decide) hk.2, hfk])
        · conv => whnf
          simp only [Int.toNat_natCast] at h5
          rw [if_neg (fun x => by rw [(idxOf_lt (by omega)).1 x] at h5; cases h5)] at hfk
          refine .inl ⟨wrap64 (by omega), ?_⟩
          conv => whnf
          refine ⟨k + 1, [], ⟨by omega, fun j hj => ?_⟩, by dsimp only; omega, ⟨PSubs.rfl, trivial⟩, rfl, .rfl⟩
          by_cases e : j = k
          · subst e; exact hfk
          · exact hk.2 j (by omega)
    · conv => whnf
      simp only [decide_eq_false_iff_not] at h3
      exact PSub.int (by rw [firstE_none fun j hj => hk.2 j (by omega)])
end Go.Abs

namespace Go.Abs
open Go.Proofs
set_option maxRecDepth 10000
theorem ac_r20_Fits (a : Attr) (v : Val) (hl : a.enum.length ≤ 1048576) : AC Tryz.prog 155 [.pv (.agg (cAttr a)), .pv (.agg (cVal v))] [] (.pv (vint (fitsE a v))) [] := by
  refine AC.of_awp (T := T) T_ok hm Tryz.call155 Tryz.func155 rfl rfl rfl ?_
  conv => whnf
  iterate 14 (all_goals first | (refine ⟨fun h => ?_, fun h => ?_⟩ <;> (conv => whnf)) | (refine .inl ⟨_, ac_r20_Def a hl, ?_⟩; conv => whnf) | (refine .inl ⟨_, ac_r20_Check v, ?_⟩; conv => whnf) | skip)
  all_goals simp only [decide_eq_true_eq, decide_eq_false_iff_not, Bool.not_eq_true', Bool.not_eq_false'] at *
  all_goals first
    | contradiction
    | exact PSub.int (by simp only [fitsE]; (repeat' split) <;> first | rfl | omega | (simp_all; done) | (simp_all; omega))
    | trace_state
end Go.Abs

namespace Go.Abs
open Go.Proofs
set_option maxRecDepth 10000
def placeI (l : List Attr) (s : ByteArray) : Int := if attrAt l s < l.length then (attrAt l s : Int) else -1
theorem ac_r21_Place (c : Clu) (s : ByteArray) (hc : smallK c) : AC Tryz.prog 112 [.pv (.agg (cClu c)), .pv (vstr s)] [] (.pv (vint (placeI c.attrs s))) [] := by
  have hl : c.attrs.length ≤ 1048576 := hc.1
  refine AC.of_awp (T := T) T_ok hm Tryz.call112 Tryz.func112 rfl rfl rfl ?_
  conv => whnf
  refine ⟨Nat, fun k => k ≤ c.attrs.length ∧ ∀ j, j < k → decide ((c.attrs.getD j default).name = s) = false, fun k => ⟨[(1, .pv (vstr s)), (2, .ptr 2 0), (8, .pv (vint c.attrs.length)), (9, .pv (vint k))], [(2, .pbox (cClu c))]⟩, fun k => c.attrs.length - k, 0, [], ⟨Nat.zero_le _, fun j h => absurd h (by omega)⟩, ⟨⟨PSubs.rfl, trivial⟩, .rfl, rfl, .rfl, .rfl⟩, fun k hk => ?_⟩
  conv => whnf
  refine ⟨fun h => ?_, fun h => ?_⟩
  · simp only [decide_eq_true_eq] at h
    conv => whnf
    refine ⟨by omega, ?_⟩
    conv => whnf
    refine ⟨fun h2 => ?_, fun h2 => ?_⟩
    · conv => whnf
      have ea : attrAt c.attrs s = k := firstI_at (by omega) h2 hk.2
      exact PSub.int (by rw [placeI, ea, if_pos (by omega)])
    · conv => whnf
      refine .inl ⟨wrap64 (by omega), ?_⟩
      conv => whnf
      refine ⟨k + 1, [], ⟨by omega, fun j hj => ?_⟩, by dsimp only; omega, ⟨PSubs.rfl, trivial⟩, .rfl, rfl, .rfl, .rfl⟩
      by_cases e : j = k
      · subst e; exact h2
      · exact hk.2 j (by omega)
  · conv => whnf
    simp only [decide_eq_false_iff_not] at h
    have ea : attrAt c.attrs s = c.attrs.length := firstI_none fun j hj => hk.2 j (by omega)
    exact PSub.int (by rw [placeI, ea, if_neg (by omega)])
theorem ac_r21_Attr (c : Clu) (s : ByteArray) (hc : smallK c) : AC Tryz.prog 88 [.pv (.agg (cClu c)), .pv (vstr s)] [] (.pv (.tup [.agg (cAttr (attrOf c.attrs s)), vbool (decide (attrAt c.attrs s < c.attrs.length))])) [] := by
  refine AC.of_awp (T := T) T_ok hm Tryz.call88 Tryz.func88 rfl rfl rfl ?_
  conv => whnf
  refine .inl ⟨_, ac_r21_Place c s hc, ?_⟩
  conv => whnf
  have hp : placeI c.attrs s < 0 ↔ ¬ attrAt c.attrs s < c.attrs.length := by unfold placeI; split <;> omega
  refine ⟨fun h => ?_, fun h => ?_⟩
  · conv => whnf
    simp only [decide_eq_true_eq] at h
    have h := hp.1 h
    refine ⟨?_, ?_⟩
    · conv => whnf
      rw [attrOf, if_neg h]
      exact PSub.agg ⟨.rfl, .rfl, .rfl, .rfl, PSub.nil_ro _ _, PSub.lit_sb rfl, PSub.lit_sb rfl, trivial⟩
    · conv => whnf
      exact PSub.lit_sb (by simp [h])
  · simp only [decide_eq_false_iff_not] at h
    have h : attrAt c.attrs s < c.attrs.length := Classical.not_not.1 fun x => h (hp.2 x)
    have e : placeI c.attrs s = (attrAt c.attrs s : Int) := by rw [placeI, if_pos h]
    rw [e]
    conv => whnf
    refine ⟨by omega, ?_⟩
    conv => whnf
    refine ⟨?_, ?_⟩
    · conv => whnf
      exact PSub.of_eq (by rw [attrOf, if_pos h]; rfl)
    · conv => whnf
      exact PSub.lit_sb (by simp [h])
theorem ac_r21_TooMany (c : Clu) (hc : smallK c) : AC Tryz.prog 125 [.pv (.agg (cClu c))] [] (.pv (vbool (wideB c))) [] := by
  have hl : c.commands.length ≤ 1048576 := hc.2.2.1
  refine AC.of_awp (T := T) T_ok hm Tryz.call125 Tryz.func125 rfl rfl rfl ?_
  conv => whnf
  refine ⟨fun h => ?_, fun h => ?_⟩
  · conv => whnf
    simp only [decide_eq_true_eq] at h
    exact PSub.lit_sb (by simp [wideB, show 12 < c.attrs.length from by omega])
  conv => whnf
  refine ⟨fun h1 => ?_, fun h1 => ?_⟩
  · conv => whnf
    simp only [decide_eq_true_eq] at h1
    exact PSub.lit_sb (by simp [wideB, show 12 < c.commands.length from by omega])
  conv => whnf
  refine ⟨fun h2 => ?_, fun h2 => ?_⟩
  · conv => whnf
    simp only [decide_eq_true_eq] at h2
    exact PSub.lit_sb (by simp [wideB, show 12 < c.events.length from by omega])
  conv => whnf
  simp only [decide_eq_false_iff_not] at h h1 h2
  have e0 : wideB c = manyE c.commands := by simp [wideB, show ¬ 12 < c.attrs.length from by omega, show ¬ 12 < c.commands.length from by omega, show ¬ 12 < c.events.length from by omega]
  rw [e0]
  refine ⟨Nat, fun k => k ≤ c.commands.length ∧ ∀ j, j < k → ¬ 12 < (c.commands.getD j default).effects.length, fun k => ⟨[(1, .ptr 1 0), (22, .pv (vint c.commands.length)), (23, .pv (vint k))], [(1, .pbox (cClu c))]⟩, fun k => c.commands.length - k, 0, [], ⟨Nat.zero_le _, fun j h => absurd h (by omega)⟩, ⟨⟨PSubs.rfl, trivial⟩, rfl, .rfl, .rfl⟩, fun k hk => ?_⟩
  conv => whnf
  refine ⟨fun h => ?_, fun h => ?_⟩
  · simp only [decide_eq_true_eq] at h
    conv => whnf
    refine ⟨by omega, ?_⟩
    conv => whnf
    refine ⟨fun h2 => ?_, fun h2 => ?_⟩
    · conv => whnf
      simp only [decide_eq_true_eq, Int.toNat_natCast] at h2
      exact PSub.lit_sb (manyE_true (k := k) (by omega) (by omega)).symm
    · conv => whnf
      simp only [decide_eq_false_iff_not, Int.toNat_natCast] at h2
      refine .inl ⟨wrap64 (by omega), ?_⟩
      conv => whnf
      refine ⟨k + 1, [], ⟨by omega, fun j hj => ?_⟩, by dsimp only; omega, ⟨PSubs.rfl, trivial⟩, rfl, .rfl, .rfl⟩
      by_cases e : j = k
      · subst e; omega
      · exact hk.2 j (by omega)
  · conv => whnf
    simp only [decide_eq_false_iff_not] at h
    exact PSub.lit_sb (manyE_false fun j hj => hk.2 j (by omega)).symm
end Go.Abs

namespace Go.Abs
open Go.Proofs
set_option maxRecDepth 10000
theorem ac_r21_SameNames (a b : List ByteArray) (ha : a.length ≤ 1048576) : AC Tryz.prog 151 [.pv (roL 1 cstr a), .pv (roL 1 cstr b)] [] (.pv (vbool (decide (a = b)))) [] := by
  refine AC.of_awp (T := T) T_ok hm Tryz.call151 Tryz.func151 rfl rfl rfl ?_
  conv => whnf
  refine ⟨fun h => ?_, fun h => ?_⟩
  · conv => whnf
    simp only [Bool.not_eq_true', decide_eq_false_iff_not] at h
    exact PSub.lit_sb (by symm; simp only [decide_eq_false_iff_not]; intro e; exact h (by rw [e]))
  conv => whnf
  simp only [Bool.not_eq_false', decide_eq_true_eq] at h
  refine ⟨Nat, fun k => k ≤ a.length ∧ ∀ j, j < k → a.getD j default = b.getD j default, fun k => ⟨[(0, .pv (roL 1 cstr a)), (1, .pv (roL 1 cstr b)), (12, .pv (vint a.length)), (13, .pv (vint k))], []⟩, fun k => a.length - k, 0, [], ⟨Nat.zero_le _, fun j h => absurd h (by omega)⟩, ⟨.rfl, .rfl, .rfl, .rfl⟩, fun k hk => ?_⟩
  conv => whnf
  refine ⟨fun h2 => ?_, fun h2 => ?_⟩
  · simp only [decide_eq_true_eq] at h2
    conv => whnf
    refine ⟨by kernel_rfl, ?_⟩
    conv => whnf
    refine ⟨by omega, ?_⟩
    conv => whnf
    refine ⟨by omega, ?_⟩
    conv => whnf
    refine ⟨by kernel_rfl, ?_⟩
    conv => whnf
    refine ⟨fun h3 => ?_, fun h3 => ?_⟩
    · conv => whnf
      simp only [Bool.not_eq_true', decide_eq_false_iff_not] at h3
      exact PSub.lit_sb (by symm; simp only [decide_eq_false_iff_not]; intro e; exact h3 (by rw [e]))
    · conv => whnf
      simp only [Bool.not_eq_false', decide_eq_true_eq, Int.toNat_natCast] at h3
      refine .inl ⟨wrap64 (by omega), ?_⟩
      conv => whnf
      refine ⟨k + 1, [], ⟨by omega, fun j hj => ?_⟩, by dsimp only; omega, .rfl, .rfl, .rfl, .rfl⟩
      by_cases e : j = k
      · subst e; exact h3
      · exact hk.2 j (by omega)
  · conv => whnf
    simp only [decide_eq_false_iff_not] at h2
    exact PSub.lit_sb (by symm; simp only [decide_eq_true_eq]; exact list_eq (by omega) fun i hi => hk.2 i (by omega))
end Go.Abs

namespace Go.Abs
open Go.Proofs
set_option maxRecDepth 10000
theorem ac_r21_Suits (x : Eff) (a p : Attr) (ha : smallA a) (hp : smallA p) : AC Tryz.prog 152 [.pv (.agg (cEff x)), .pv (.agg (cAttr a)), .pv (.agg (cAttr p))] [] (.pv (vbool (suitsB x a p))) [] := by
  have e0 : alikeB a p = (decide (p.kind = a.kind) && decide (p.enum = a.enum)) := by simp only [alikeB]; congr 1 <;> (rw [Bool.eq_iff_iff]; simp only [decide_eq_true_eq]; exact ⟨fun h => h.symm, fun h => h.symm⟩)
  refine AC.of_awp (T := T) T_ok hm Tryz.call152 Tryz.func152 rfl rfl rfl ?_
  conv => whnf
  repeat (any_goals (first
    | (refine ⟨fun (h : (_ : Bool) = true) => ?_, fun (h : (_ : Bool) = false) => ?_⟩ <;> (try simp only [decide_eq_true_eq, decide_eq_false_iff_not, Bool.not_eq_true', Bool.not_eq_false', Int.toNat_natCast, beq_iff_eq, decide_eq_decide, beq_eq_false_iff_ne, ne_eq, reduceCtorEq] at h) <;> (conv => whnf))
    | (refine .inl ⟨_, ac_r20_Fits a ⟨a.kind, x.n, ⟨#[]⟩⟩ ha, ?_⟩; conv => whnf)
    | (refine .inl ⟨_, ac_r21_SameNames p.enum a.enum hp, ?_⟩; conv => whnf)
    | (refine And.intro (by (try simp only [Int.toNat_natCast]); omega) ?_; conv => whnf)
    | (refine And.intro (show (_ : Bool) = true from by kernel_rfl) ?_; conv => whnf)
    | (refine .inl ⟨wrap64 (by omega), ?_⟩; conv => whnf)))
  all_goals (try simp only [decide_eq_true_eq, decide_eq_false_iff_not, Bool.not_eq_true', Bool.not_eq_false', Int.toNat_natCast, beq_iff_eq, decide_eq_decide, beq_eq_false_iff_ne, ne_eq, reduceCtorEq] at *)
  all_goals first
    | contradiction
    | (exfalso; omega)
    | exact PSub.rfl
    | (refine PSub.int ?_; simp only [suitsB, e0]; (repeat' split) <;> first | rfl | omega | (simp_all [-List.getD_eq_getElem?_getD]; done) | (simp_all [-List.getD_eq_getElem?_getD]; omega))
    | (refine PSub.sb ?_; simp_all [suitsB, e0, -List.getD_eq_getElem?_getD]; done)
    | (refine PSub.lit_sb ?_; simp_all [suitsB, e0, -List.getD_eq_getElem?_getD]; done)
    | (refine PSub.sb_lit ?_; simp_all [suitsB, e0, -List.getD_eq_getElem?_getD]; done)
    | (refine PSub.sb ?_; rw [Bool.eq_iff_iff]; simp_all [suitsB, e0, -List.getD_eq_getElem?_getD]; done)
    | (refine PSub.lit_sb ?_; rw [Bool.eq_iff_iff]; simp_all [suitsB, e0, -List.getD_eq_getElem?_getD]; done)
    | (refine PSub.sb_lit ?_; rw [Bool.eq_iff_iff]; simp_all [suitsB, e0, -List.getD_eq_getElem?_getD]; done)
    | skip
theorem satI_ne {n : Int} : satI n ≠ n ↔ (n < -1099511627776 ∨ 1099511627776 < n) := by unfold satI; omega
theorem ac_r21_Effect (c : Clu) (p : Attr) (x : Eff) (hc : smallK c) (hp : smallA p) : AC Tryz.prog 145 [.pv (.agg (cClu c)), .pv (.agg (cAttr p)), .pv (.agg (cEff x))] [] (.pv (vint (effE c p x))) [] := by
  have e := @satI_ne x.n
  refine AC.of_awp (T := T) T_ok hm Tryz.call145 Tryz.func145 rfl rfl rfl ?_
  conv => whnf
  repeat (any_goals (first
    | (refine ⟨fun (h : (_ : Bool) = true) => ?_, fun (h : (_ : Bool) = false) => ?_⟩ <;> (try simp only [decide_eq_true_eq, decide_eq_false_iff_not, Bool.not_eq_true', Bool.not_eq_false', Int.toNat_natCast, beq_iff_eq, decide_eq_decide, beq_eq_false_iff_ne, ne_eq, reduceCtorEq] at h) <;> (conv => whnf))
    | (refine .inl ⟨_, ac_r21_Attr c x.attr hc, ?_⟩; conv => whnf)
    | (refine .inl ⟨_, ac_r21_Suits x (attrOf c.attrs x.attr) p (small_attrOf hc) hp, ?_⟩; conv => whnf)
    | (refine And.intro (by (try simp only [Int.toNat_natCast]); omega) ?_; conv => whnf)
    | (refine And.intro (show (_ : Bool) = true from by kernel_rfl) ?_; conv => whnf)
    | (refine .inl ⟨wrap64 (by omega), ?_⟩; conv => whnf)))
  all_goals rw [effE]
  all_goals (try simp only [decide_eq_true_eq, decide_eq_false_iff_not, Bool.not_eq_true', Bool.not_eq_false', Int.toNat_natCast, beq_iff_eq, decide_eq_decide, beq_eq_false_iff_ne, ne_eq, reduceCtorEq] at *)
  all_goals first
    | contradiction
    | (exfalso; omega)
    | exact PSub.rfl
    | (refine PSub.int ?_; simp only [e]; (repeat' split) <;> first | rfl | omega | (simp_all [-List.getD_eq_getElem?_getD]; done) | (simp_all [-List.getD_eq_getElem?_getD]; omega))
    | (refine PSub.sb ?_; simp_all [e, -List.getD_eq_getElem?_getD]; done)
    | (refine PSub.lit_sb ?_; simp_all [e, -List.getD_eq_getElem?_getD]; done)
    | (refine PSub.sb_lit ?_; simp_all [e, -List.getD_eq_getElem?_getD]; done)
    | (refine PSub.sb ?_; rw [Bool.eq_iff_iff]; simp_all [e, -List.getD_eq_getElem?_getD]; done)
    | (refine PSub.lit_sb ?_; rw [Bool.eq_iff_iff]; simp_all [e, -List.getD_eq_getElem?_getD]; done)
    | (refine PSub.sb_lit ?_; rw [Bool.eq_iff_iff]; simp_all [e, -List.getD_eq_getElem?_getD]; done)
    | skip
theorem ac_r21_SameAttr (a : Attr) (ha : smallA a) : AC Tryz.prog 144 [.pv (.agg (cAttr a)), .pv (.agg (cAttr noAttr))] [] (.pv (vbool (zeroA a))) [] := by
  refine AC.of_awp (T := T) T_ok hm Tryz.call144 Tryz.func144 rfl rfl rfl ?_
  conv => whnf
  repeat (any_goals (first
    | (refine ⟨fun (h : (_ : Bool) = true) => ?_, fun (h : (_ : Bool) = false) => ?_⟩ <;> (try simp only [decide_eq_true_eq, decide_eq_false_iff_not, Bool.not_eq_true', Bool.not_eq_false', Int.toNat_natCast, beq_iff_eq, decide_eq_decide, beq_eq_false_iff_ne, ne_eq, reduceCtorEq] at h) <;> (conv => whnf))
    | (refine .inl ⟨_, ac_r21_SameNames a.enum [] ha, ?_⟩; conv => whnf)
    | (refine And.intro (by (try simp only [Int.toNat_natCast]); omega) ?_; conv => whnf)
    | (refine And.intro (show (_ : Bool) = true from by kernel_rfl) ?_; conv => whnf)
    | (refine .inl ⟨wrap64 (by omega), ?_⟩; conv => whnf)))
  all_goals first | (refine PSub.sb ?_ ; rw [Bool.eq_iff_iff, zeroA_iff]; simp_all [noAttr]; done) | (refine PSub.lit_sb ?_ ; rw [Bool.eq_iff_iff, zeroA_iff]; simp_all [noAttr]; done) | skip
end Go.Abs

namespace Go.Abs
open Go.Proofs
set_option maxRecDepth 10000
theorem ac_r21_OneCommand (c : Clu) (i : Nat) (hc : smallK c) (hi : i < c.commands.length) : AC Tryz.prog 127 [.pv (.agg (cClu c)), .pv (vint i)] [] (.pv (vint (cmdE c i))) [] := by
  have hl : c.commands.length ≤ 1048576 := hc.2.2.1
  have hd := hc.2.2.2.1 i
  have hd2 : (c.commands.getD i default).effects.length ≤ 1048576 := hd.2
  refine AC.of_awp (T := T) T_ok hm Tryz.call127 Tryz.func127 rfl rfl rfl ?_
  conv => whnf
  refine And.intro (by omega) ?_
  conv => whnf
  refine .inl ⟨_, ac_r04_Valid (c.commands.getD i default).name, ?_⟩
  conv => whnf
  refine ⟨fun h => ?_, fun h => ?_⟩ <;> (try simp only [decide_eq_true_eq, decide_eq_false_iff_not, Bool.not_eq_true', Bool.not_eq_false', Int.toNat_natCast, beq_iff_eq, decide_eq_decide, beq_eq_false_iff_ne, ne_eq, reduceCtorEq] at h) <;> (conv => whnf)
  · exact PSub.int (by simp [cmdE, h, -List.getD_eq_getElem?_getD])
  have hv := h
  refine loop_k (ι := Nat) [1, 2, 5] [2, 5] (fun k => k ≤ i ∧ (∀ j, j < k → decide ((c.commands.getD j default).name = (c.commands.getD i default).name) = false)) (fun k => i - k) 0 (fun k => [(6, .pv (vint k))]) (fun _ => []) [] ⟨Nat.zero_le _, fun j h => absurd h (by omega)⟩ ?_ (fun k hk => ?_)
  · (repeat' (first | exact PSub.rfl | exact rfl | exact PSubs.rfl | exact trivial | exact PSub.lit_sb rfl | refine And.intro ?_ ?_))
  obtain ⟨hkn, hinv⟩ := hk
  conv => whnf
  repeat (any_goals (first
    | (refine ⟨fun (h : (_ : Bool) = true) => ?_, fun (h : (_ : Bool) = false) => ?_⟩ <;> (try simp only [decide_eq_true_eq, decide_eq_false_iff_not, Bool.not_eq_true', Bool.not_eq_false', Int.toNat_natCast, beq_iff_eq, decide_eq_decide, beq_eq_false_iff_ne, ne_eq, reduceCtorEq] at h) <;> (conv => whnf))
    | (refine .inl ⟨_, AC.sub2 (ac_r21_SameAttr (c.commands.getD i default).param hd.1) .rfl (PSub.agg noAttr_cells (l := zAttr)), ?_⟩; conv => whnf)
    | (refine .inl ⟨_, ac_r20_Def (c.commands.getD i default).param hd.1, ?_⟩; conv => whnf)
    | (refine And.intro (by (try simp only [Int.toNat_natCast]); omega) ?_; conv => whnf)
    | (refine And.intro (show (_ : Bool) = true from by kernel_rfl) ?_; conv => whnf)
    | (refine .inl ⟨wrap64 (by omega), ?_⟩; conv => whnf)))
  case' refine_2.refine_2.refine_1.refine_2 =>
    refine ⟨k + 1, [], ⟨by omega, ?_⟩, by first | omega | (dsimp only; omega), ?_⟩
    rotate_left
    · (repeat' (first | exact PSub.rfl | exact rfl | exact PSubs.rfl | exact trivial | exact PSub.lit_sb rfl | refine And.intro ?_ ?_))
    intro j hj
    by_cases e : j = k
    · subst e; first | exact h | simpa [-List.getD_eq_getElem?_getD] using h | simp_all [-List.getD_eq_getElem?_getD]
    · exact hinv j (by omega)
  · have e := anyN_true (n := i) (p := fun j => decide ((c.commands.getD j default).name = (c.commands.getD i default).name)) (k := k) (by omega) (by simpa [-List.getD_eq_getElem?_getD] using h)
    exact PSub.int (by simp [cmdE, hv, e, -List.getD_eq_getElem?_getD])
  all_goals have ef : anyN i (fun j => decide ((c.commands.getD j default).name = (c.commands.getD i default).name)) = false := anyN_false fun j hj => hinv j (by omega)
  all_goals try (exact PSub.int (by simp_all [cmdE, -List.getD_eq_getElem?_getD]; done))
  all_goals
    have e0 : cmdE c i = firstE (c.commands.getD i default).effects.length fun j => effE c (c.commands.getD i default).param ((c.commands.getD i default).effects.getD j default) := by simp_all [cmdE, -List.getD_eq_getElem?_getD]
    rw [e0]
    clear hinv hkn
    refine loop_k (ι := Nat) [2, 5, 50] [2, 5] (fun k2 => k2 ≤ (c.commands.getD i default).effects.length ∧ (∀ j, j < k2 → effE c (c.commands.getD i default).param ((c.commands.getD i default).effects.getD j default) = 0)) (fun k2 => (c.commands.getD i default).effects.length - k2) 0 (fun k2 => [(51, .pv (vint k2))]) (fun _ => []) [] ⟨Nat.zero_le _, fun j h => absurd h (by omega)⟩ ?_ (fun k2 hk => ?_)
    · (repeat' (first | exact PSub.rfl | exact rfl | exact PSubs.rfl | exact trivial | exact PSub.lit_sb rfl | refine And.intro ?_ ?_))
    obtain ⟨hkn, hinv⟩ := hk
    conv => whnf
    repeat (any_goals (first
      | (refine ⟨fun (h : (_ : Bool) = true) => ?_, fun (h : (_ : Bool) = false) => ?_⟩ <;> (try simp only [decide_eq_true_eq, decide_eq_false_iff_not, Bool.not_eq_true', Bool.not_eq_false', Int.toNat_natCast, beq_iff_eq, decide_eq_decide, beq_eq_false_iff_ne, ne_eq, reduceCtorEq] at h) <;> (conv => whnf))
      | (refine .inl ⟨_, ac_r21_Effect c (c.commands.getD i default).param ((c.commands.getD i default).effects.getD k2 default) hc hd.1, ?_⟩; conv => whnf)
      | (refine And.intro (by (try simp only [Int.toNat_natCast]); omega) ?_; conv => whnf)
      | (refine And.intro (show (_ : Bool) = true from by kernel_rfl) ?_; conv => whnf)
      | (refine .inl ⟨wrap64 (by omega), ?_⟩; conv => whnf)))
    · exact PSub.int (by rw [firstE_at (k := k2) (by omega) h hinv])
    · refine ⟨k2 + 1, [], ⟨by omega, ?_⟩, by first | omega | (dsimp only; omega), ?_⟩
      rotate_left
      · (repeat' (first | exact PSub.rfl | exact rfl | exact PSubs.rfl | exact trivial | exact PSub.lit_sb rfl | refine And.intro ?_ ?_))
      intro j hj
      by_cases e : j = k2
      · subst e; first | exact h | simpa [-List.getD_eq_getElem?_getD] using h | simp_all [-List.getD_eq_getElem?_getD]
      · exact hinv j (by omega)
    · exact PSub.int (by rw [firstE_none fun j hj => hinv j (by omega)])
end Go.Abs

namespace Go.Abs
open Go.Proofs
set_option maxRecDepth 10000
theorem placeI_lt {l : List Attr} {s : ByteArray} {k : Nat} (hk : k < l.length) (h : (l.getD k default).name = s) : (placeI l s < (k : Int)) ↔ anyN k (fun j => decide ((l.getD j default).name = s)) = true := by
  have hlt : attrAt l s ≤ k ∧ attrAt l s < l.length := by
    unfold attrAt firstI
    split
    · rename_i i e
      rw [List.find?_range_eq_some] at e
      refine ⟨?_, by simpa using e.2.1⟩
      rcases Nat.lt_or_ge k i with hlt | hge
      · have := e.2.2 k hlt; simp [h, -List.getD_eq_getElem?_getD] at this
      · exact hge
    · rename_i e
      rw [List.find?_eq_none] at e
      have := e k (by simpa using hk)
      simp [h, -List.getD_eq_getElem?_getD] at this
  unfold placeI
  rw [if_pos hlt.2, anyN_iff]
  constructor
  · intro hh
    refine ⟨attrAt l s, by omega, ?_⟩
    unfold attrAt firstI
    split
    · rename_i i e
      rw [List.find?_range_eq_some] at e
      exact e.1
    · rename_i e
      rw [List.find?_eq_none] at e
      have := e k (by simpa using hk)
      simp [h, -List.getD_eq_getElem?_getD] at this
  · rintro ⟨j, hj, e⟩
    have : attrAt l s ≤ j := by
      unfold attrAt firstI
      split
      · rename_i i e2
        rw [List.find?_range_eq_some] at e2
        rcases Nat.lt_or_ge j i with hlt2 | hge
        · have := e2.2.2 j hlt2; rw [e] at this; cases this
        · exact hge
      · rename_i e2
        rw [List.find?_eq_none] at e2
        have := e2 k (by simpa using hk)
        simp [h, -List.getD_eq_getElem?_getD] at this
    omega
theorem ac_r21_Check (c : Clu) (hc : smallK c) : AC Tryz.prog 95 [.pv (.agg (cClu c))] [] (.pv (vint (checkE c))) [] := by
  have hl1 : c.attrs.length ≤ 1048576 := hc.1
  have hl2 : c.commands.length ≤ 1048576 := hc.2.2.1
  have hl3 : c.events.length ≤ 1048576 := hc.2.2.2.2
  refine AC.of_awp (T := T) T_ok hm Tryz.call95 Tryz.func95 rfl rfl rfl ?_
  conv => whnf
  refine .inl ⟨_, ac_r04_Valid c.name, ?_⟩
  conv => whnf
  refine ⟨fun h => ?_, fun h => ?_⟩ <;> (try simp only [decide_eq_true_eq, decide_eq_false_iff_not, Bool.not_eq_true', Bool.not_eq_false', Int.toNat_natCast, beq_iff_eq, decide_eq_decide, beq_eq_false_iff_ne, ne_eq, reduceCtorEq] at h) <;> (conv => whnf)
  · exact PSub.int (by simp [checkE, h, -List.getD_eq_getElem?_getD])
  have hv := h
  refine .inl ⟨_, ac_r21_TooMany c hc, ?_⟩
  conv => whnf
  refine ⟨fun h => ?_, fun h => ?_⟩ <;> (try simp only [decide_eq_true_eq, decide_eq_false_iff_not, Bool.not_eq_true', Bool.not_eq_false', Int.toNat_natCast, beq_iff_eq, decide_eq_decide, beq_eq_false_iff_ne, ne_eq, reduceCtorEq] at h) <;> (conv => whnf)
  · exact PSub.int (by simp [checkE, h, hv, -List.getD_eq_getElem?_getD])
  have hw := h
  refine loop_k (ι := Nat) [1, 17] [1] (fun k => k ≤ c.attrs.length ∧ (∀ j, j < k → attrE c.attrs j = 0)) (fun k => c.attrs.length - k) 0 (fun k => [(18, .pv (vint k))]) (fun _ => []) [] ⟨Nat.zero_le _, fun j h => absurd h (by omega)⟩ ?_ (fun k hk => ?_)
  · (repeat' (first | exact PSub.rfl | exact rfl | exact PSubs.rfl | exact trivial | exact PSub.lit_sb rfl | refine And.intro ?_ ?_))
  obtain ⟨hkn, hinv⟩ := hk
  conv => whnf
  repeat (any_goals (first
    | (refine ⟨fun (h : (_ : Bool) = true) => ?_, fun (h : (_ : Bool) = false) => ?_⟩ <;> (try simp only [decide_eq_true_eq, decide_eq_false_iff_not, Bool.not_eq_true', Bool.not_eq_false', Int.toNat_natCast, beq_iff_eq, decide_eq_decide, beq_eq_false_iff_ne, ne_eq, reduceCtorEq] at h) <;> (conv => whnf))
    | (refine .inl ⟨_, ac_r20_Def (c.attrs.getD k default) (hc.2.1 k), ?_⟩; conv => whnf)
    | (refine .inl ⟨_, ac_r21_Place c (c.attrs.getD k default).name hc, ?_⟩; conv => whnf)
    | (refine And.intro (by (try simp only [Int.toNat_natCast]); omega) ?_; conv => whnf)
    | (refine And.intro (show (_ : Bool) = true from by kernel_rfl) ?_; conv => whnf)
    | (refine .inl ⟨wrap64 (by omega), ?_⟩; conv => whnf)))
  · have e : attrE c.attrs k = defE (c.attrs.getD k default) := by simp [attrE, h, -List.getD_eq_getElem?_getD]
    have e2 := firstE_at (n := c.attrs.length) (k := k) (f := attrE c.attrs) (by omega) (by rw [e]; exact h) hinv
    rw [e] at e2
    exact PSub.int (by simp [checkE, e2, h, hv, hw, -List.getD_eq_getElem?_getD])
  · rename_i hd
    rw [placeI_lt (by omega) rfl] at h
    have e : attrE c.attrs k = 9 := by simp [attrE, hd, h, -List.getD_eq_getElem?_getD]
    have e2 := firstE_at (n := c.attrs.length) (k := k) (f := attrE c.attrs) (by omega) (by rw [e]; decide) hinv
    rw [e] at e2
    exact PSub.int (by simp [checkE, e2, hv, hw, -List.getD_eq_getElem?_getD])
  · rename_i hd
    rw [placeI_lt (by omega) rfl] at h
    refine ⟨k + 1, [], ⟨by omega, ?_⟩, by first | omega | (dsimp only; omega), ?_⟩
    rotate_left
    · (repeat' (first | exact PSub.rfl | exact rfl | exact PSubs.rfl | exact trivial | exact PSub.lit_sb rfl | refine And.intro ?_ ?_))
    intro j hj
    by_cases ee : j = k
    · subst ee; simp [attrE, hd, h, -List.getD_eq_getElem?_getD]
    · exact hinv j (by omega)
  have e1 : firstE c.attrs.length (attrE c.attrs) = 0 := firstE_none fun j hj => hinv j (by omega)
  clear hinv hkn h
  refine loop_k (ι := Nat) [1, 43] [1] (fun k => k ≤ c.commands.length ∧ (∀ j, j < k → cmdE c j = 0)) (fun k => c.commands.length - k) 0 (fun k => [(44, .pv (vint k))]) (fun _ => []) [] ⟨Nat.zero_le _, fun j h => absurd h (by omega)⟩ ?_ (fun k hk => ?_)
  · (repeat' (first | exact PSub.rfl | exact rfl | exact PSubs.rfl | exact trivial | exact PSub.lit_sb rfl | refine And.intro ?_ ?_))
  obtain ⟨hkn, hinv⟩ := hk
  conv => whnf
  repeat (any_goals (first
    | (refine ⟨fun (h : (_ : Bool) = true) => ?_, fun (h : (_ : Bool) = false) => ?_⟩ <;> (try simp only [decide_eq_true_eq, decide_eq_false_iff_not, Bool.not_eq_true', Bool.not_eq_false', Int.toNat_natCast, beq_iff_eq, decide_eq_decide, beq_eq_false_iff_ne, ne_eq, reduceCtorEq] at h) <;> (conv => whnf))
    | (refine .inl ⟨_, ac_r21_OneCommand c k hc (by omega), ?_⟩; conv => whnf)
    | (refine And.intro (by (try simp only [Int.toNat_natCast]); omega) ?_; conv => whnf)
    | (refine And.intro (show (_ : Bool) = true from by kernel_rfl) ?_; conv => whnf)
    | (refine .inl ⟨wrap64 (by omega), ?_⟩; conv => whnf)))
  · have e2 := firstE_at (n := c.commands.length) (k := k) (f := cmdE c) (by omega) h hinv
    exact PSub.int (by simp [checkE, e1, e2, h, hv, hw, -List.getD_eq_getElem?_getD])
  · refine ⟨k + 1, [], ⟨by omega, ?_⟩, by first | omega | (dsimp only; omega), ?_⟩
    rotate_left
    · (repeat' (first | exact PSub.rfl | exact rfl | exact PSubs.rfl | exact trivial | exact PSub.lit_sb rfl | refine And.intro ?_ ?_))
    intro j hj
    by_cases e : j = k
    · subst e; first | exact h | simpa [-List.getD_eq_getElem?_getD] using h | simp_all [-List.getD_eq_getElem?_getD]
    · exact hinv j (by omega)
  have e2 : firstE c.commands.length (cmdE c) = 0 := firstE_none fun j hj => hinv j (by omega)
  have e0 : checkE c = firstE c.events.length (evE c.events) := by simp [checkE, e1, e2, hv, hw, -List.getD_eq_getElem?_getD]
  rw [e0]
  clear hinv hkn h
  refine loop_k (ι := Nat) [1, 56] [1] (fun k => k ≤ c.events.length ∧ (∀ j, j < k → evE c.events j = 0)) (fun k => c.events.length - k) 0 (fun k => [(57, .pv (vint k))]) (fun _ => []) [] ⟨Nat.zero_le _, fun j h => absurd h (by omega)⟩ ?_ (fun k hk => ?_)
  · (repeat' (first | exact PSub.rfl | exact rfl | exact PSubs.rfl | exact trivial | exact PSub.lit_sb rfl | refine And.intro ?_ ?_))
  obtain ⟨hkn, hinv⟩ := hk
  conv => whnf
  repeat (any_goals (first
    | (refine ⟨fun (h : (_ : Bool) = true) => ?_, fun (h : (_ : Bool) = false) => ?_⟩ <;> (try simp only [decide_eq_true_eq, decide_eq_false_iff_not, Bool.not_eq_true', Bool.not_eq_false', Int.toNat_natCast, beq_iff_eq, decide_eq_decide, beq_eq_false_iff_ne, ne_eq, reduceCtorEq] at h) <;> (conv => whnf))
    | (refine .inl ⟨_, ac_r04_Valid (c.events.getD k default), ?_⟩; conv => whnf)
    | (refine And.intro (by (try simp only [Int.toNat_natCast]); omega) ?_; conv => whnf)
    | (refine And.intro (show (_ : Bool) = true from by kernel_rfl) ?_; conv => whnf)
    | (refine .inl ⟨wrap64 (by omega), ?_⟩; conv => whnf)))
  · have e : evE c.events k = 10 := by simp [evE, h, -List.getD_eq_getElem?_getD]
    exact PSub.int (by rw [firstE_at (k := k) (by omega) (by rw [e]; decide) hinv, e])
  · have hve := h
    have hinv1 := hinv
    refine loop_k (ι := Nat) [1, 7, 56, 57] [1] (fun k2 => k2 ≤ k ∧ (∀ j, j < k2 → c.events.getD j default ≠ c.events.getD k default)) (fun k2 => k - k2) 0 (fun k2 => [(8, .pv (vint k2))]) (fun _ => []) [] ⟨Nat.zero_le _, fun j h => absurd h (by omega)⟩ ?_ (fun k2 hk => ?_)
    · (repeat' (first | exact PSub.rfl | exact rfl | exact PSubs.rfl | exact trivial | exact PSub.lit_sb rfl | refine And.intro ?_ ?_))
    obtain ⟨hkn, hinv⟩ := hk
    conv => whnf
    repeat (any_goals (first
      | (refine ⟨fun (h : (_ : Bool) = true) => ?_, fun (h : (_ : Bool) = false) => ?_⟩ <;> (try simp only [decide_eq_true_eq, decide_eq_false_iff_not, Bool.not_eq_true', Bool.not_eq_false', Int.toNat_natCast, beq_iff_eq, decide_eq_decide, beq_eq_false_iff_ne, ne_eq, reduceCtorEq] at h) <;> (conv => whnf))
      | (refine And.intro (by (try simp only [Int.toNat_natCast]); omega) ?_; conv => whnf)
      | (refine And.intro (show (_ : Bool) = true from by kernel_rfl) ?_; conv => whnf)
      | (refine .inl ⟨wrap64 (by omega), ?_⟩; conv => whnf)))
    · have e := memN_true (l := c.events) (n := k) (k := k2) (s := c.events.getD k default) (by omega) h
      have e : evE c.events k = 9 := by simp [evE, hve, e, -List.getD_eq_getElem?_getD]
      exact PSub.int (by rw [firstE_at (k := k) (by omega) (by rw [e]; decide) hinv1, e])
    · refine ⟨k2 + 1, [], ⟨by omega, ?_⟩, by first | omega | (dsimp only; omega), ?_⟩
      rotate_left
      · (repeat' (first | exact PSub.rfl | exact rfl | exact PSubs.rfl | exact trivial | exact PSub.lit_sb rfl | refine And.intro ?_ ?_))
      intro j hj
      by_cases e : j = k2
      · subst e; first | exact h | simpa [-List.getD_eq_getElem?_getD] using h | simp_all [-List.getD_eq_getElem?_getD]
      · exact hinv j (by omega)
    · have e := memN_false (l := c.events) (n := k) (s := c.events.getD k default) fun j hj => hinv j (by omega)
      refine ⟨k + 1, [], ⟨by omega, ?_⟩, by first | omega | (dsimp only; omega), ?_⟩
      rotate_left
      · (repeat' (first | exact PSub.rfl | exact rfl | exact PSubs.rfl | exact trivial | exact PSub.lit_sb rfl | refine And.intro ?_ ?_))
      intro j hj
      by_cases ee : j = k
      · subst ee; simp [evE, hve, e, -List.getD_eq_getElem?_getD]
      · exact hinv1 j (by omega)
  · exact PSub.int (by rw [firstE_none fun j hj => hinv j (by omega)])
theorem ac_r21_All (l : List Clu) (hl : smallKs l) : AC Tryz.prog 71 [.pv (roL 4 cClu l)] [] (.pv (vint (allE l))) [] := by
  have hl1 : l.length ≤ 1048576 := hl.1
  refine AC.of_awp (T := T) T_ok hm Tryz.call71 Tryz.func71 rfl rfl rfl ?_
  conv => whnf
  refine ⟨fun h => ?_, fun h => ?_⟩ <;> (try simp only [decide_eq_true_eq, decide_eq_false_iff_not, Bool.not_eq_true', Bool.not_eq_false', Int.toNat_natCast, beq_iff_eq, decide_eq_decide, beq_eq_false_iff_ne, ne_eq, reduceCtorEq] at h) <;> (conv => whnf)
  · exact PSub.int (by rw [allE, if_pos (by omega)])
  rw [allE, if_neg (by omega)]
  clear h
  refine loop_k (ι := Nat) [0, 10] [] (fun k => k ≤ l.length ∧ (∀ j, j < k → cluE l j = 0)) (fun k => l.length - k) 0 (fun k => [(11, .pv (vint k))]) (fun _ => []) [] ⟨Nat.zero_le _, fun j h => absurd h (by omega)⟩ ?_ (fun k hk => ?_)
  · (repeat' (first | exact PSub.rfl | exact rfl | exact PSubs.rfl | exact trivial | exact PSub.lit_sb rfl | refine And.intro ?_ ?_))
  obtain ⟨hkn, hinv⟩ := hk
  conv => whnf
  repeat (any_goals (first
    | (refine ⟨fun (h : (_ : Bool) = true) => ?_, fun (h : (_ : Bool) = false) => ?_⟩ <;> (try simp only [decide_eq_true_eq, decide_eq_false_iff_not, Bool.not_eq_true', Bool.not_eq_false', Int.toNat_natCast, beq_iff_eq, decide_eq_decide, beq_eq_false_iff_ne, ne_eq, reduceCtorEq] at h) <;> (conv => whnf))
    | (refine .inl ⟨_, ac_r21_Check (l.getD k default) (hl.2 k), ?_⟩; conv => whnf)
    | (refine And.intro (by (try simp only [Int.toNat_natCast]); omega) ?_; conv => whnf)
    | (refine And.intro (show (_ : Bool) = true from by kernel_rfl) ?_; conv => whnf)
    | (refine .inl ⟨wrap64 (by omega), ?_⟩; conv => whnf)))
  · have e : cluE l k = checkE (l.getD k default) := by simp [cluE, h, -List.getD_eq_getElem?_getD]
    exact PSub.int (by rw [firstE_at (k := k) (by omega) (by rw [e]; exact h) hinv, e])
  · have hd := h
    have hinv1 := hinv
    refine loop_k (ι := Nat) [0, 3, 10, 11] [] (fun k2 => k2 ≤ k ∧ (∀ j, j < k2 → decide ((l.getD j default).name = (l.getD k default).name) = false)) (fun k2 => k - k2) 0 (fun k2 => [(5, .pv (vint k2))]) (fun _ => []) [] ⟨Nat.zero_le _, fun j h => absurd h (by omega)⟩ ?_ (fun k2 hk => ?_)
    · (repeat' (first | exact PSub.rfl | exact rfl | exact PSubs.rfl | exact trivial | exact PSub.lit_sb rfl | refine And.intro ?_ ?_))
    obtain ⟨hkn, hinv⟩ := hk
    conv => whnf
    repeat (any_goals (first
      | (refine ⟨fun (h : (_ : Bool) = true) => ?_, fun (h : (_ : Bool) = false) => ?_⟩ <;> (try simp only [decide_eq_true_eq, decide_eq_false_iff_not, Bool.not_eq_true', Bool.not_eq_false', Int.toNat_natCast, beq_iff_eq, decide_eq_decide, beq_eq_false_iff_ne, ne_eq, reduceCtorEq] at h) <;> (conv => whnf))
      | (refine And.intro (by (try simp only [Int.toNat_natCast]); omega) ?_; conv => whnf)
      | (refine And.intro (show (_ : Bool) = true from by kernel_rfl) ?_; conv => whnf)
      | (refine .inl ⟨wrap64 (by omega), ?_⟩; conv => whnf)))
    · have e := anyN_true (n := k) (k := k2) (p := fun j => decide ((l.getD j default).name = (l.getD k default).name)) (by omega) (by simpa [-List.getD_eq_getElem?_getD] using h)
      have e : cluE l k = 9 := by simp [cluE, hd, e, -List.getD_eq_getElem?_getD]
      exact PSub.int (by rw [firstE_at (k := k) (by omega) (by rw [e]; decide) hinv1, e])
    · refine ⟨k2 + 1, [], ⟨by omega, ?_⟩, by first | omega | (dsimp only; omega), ?_⟩
      rotate_left
      · (repeat' (first | exact PSub.rfl | exact rfl | exact PSubs.rfl | exact trivial | exact PSub.lit_sb rfl | refine And.intro ?_ ?_))
      intro j hj
      by_cases e : j = k2
      · subst e; first | exact h | simpa [-List.getD_eq_getElem?_getD] using h | simp_all [-List.getD_eq_getElem?_getD]
      · exact hinv j (by omega)
    · have e := anyN_false (n := k) (p := fun j => decide ((l.getD j default).name = (l.getD k default).name)) fun j hj => hinv j (by omega)
      refine ⟨k + 1, [], ⟨by omega, ?_⟩, by first | omega | (dsimp only; omega), ?_⟩
      rotate_left
      · (repeat' (first | exact PSub.rfl | exact rfl | exact PSubs.rfl | exact trivial | exact PSub.lit_sb rfl | refine And.intro ?_ ?_))
      intro j hj
      by_cases ee : j = k
      · subst ee; simp [cluE, hd, e, -List.getD_eq_getElem?_getD]
      · exact hinv1 j (by omega)
  · exact PSub.int (by rw [firstE_none fun j hj => hinv j (by omega)])
end Go.Abs

namespace Go.Abs
open Go.Proofs
set_option maxRecDepth 10000
def cluAt (l : List Clu) (s : ByteArray) : Nat := firstI l.length fun i => decide ((l.getD i default).name = s)
theorem firstC_eq (l : List Clu) (s : ByteArray) : firstC l s = if cluAt l s < l.length then some (l.getD (cluAt l s) default) else none := by
  unfold firstC cluAt
  cases hf : l.find? fun c => decide (c.name = s) with
  | none =>
    rw [List.find?_eq_none] at hf
    rw [firstI_none fun i hi => ?_, if_neg (Nat.lt_irrefl _)]
    have := hf l[i] (List.getElem_mem hi)
    simpa [List.getD, hi] using this
  | some c =>
    obtain ⟨h1, xs, ys, h2, h3⟩ := List.find?_eq_some_iff_append.1 hf
    have hi : xs.length < l.length := by rw [h2]; simp
    have e : l.getD xs.length default = c := by simp [h2]
    have ef : firstI l.length (fun i => decide ((l.getD i default).name = s)) = xs.length := by
      refine firstI_at hi (by rw [e]; exact h1) fun j hj => ?_
      have := h3 xs[j] (List.getElem_mem hj)
      simpa [h2, List.getElem?_append_left hj, hj] using this
    rw [ef, if_pos hi, e]
def cluIx (l : List Clu) (s : ByteArray) : Int := if cluAt l s < l.length then (cluAt l s : Int) else -1
theorem ac_r22_cluster (H : Hom) (s : ByteArray) (hH : smallH H) : AC Tryz.prog 86 [.pv (.agg (cHom H)), .pv (vstr s)] [] (.pv (vint (cluIx H.clusters s))) [] := by
  have hl : H.clusters.length ≤ 1048576 := hH.1.1
  refine AC.of_awp (T := T) T_ok hm Tryz.call86 Tryz.func86 rfl rfl rfl ?_
  conv => whnf
  refine loop_k (ι := Nat) [1, 2] [2] (fun k => k ≤ H.clusters.length ∧ (∀ j, j < k → decide ((H.clusters.getD j default).name = s) = false)) (fun k => H.clusters.length - k) 0 (fun k => [(5, .pv (vint k))]) (fun _ => []) [] ⟨Nat.zero_le _, fun j h => absurd h (by omega)⟩ ?_ (fun k hk => ?_)
  · (repeat' (first | exact PSub.rfl | exact rfl | exact PSubs.rfl | exact trivial | exact PSub.lit_sb rfl | refine And.intro ?_ ?_))
  obtain ⟨hkn, hinv⟩ := hk
  conv => whnf
  repeat (any_goals (first
    | (refine ⟨fun (h : (_ : Bool) = true) => ?_, fun (h : (_ : Bool) = false) => ?_⟩ <;> (try simp only [decide_eq_true_eq, decide_eq_false_iff_not, Bool.not_eq_true', Bool.not_eq_false', Int.toNat_natCast, beq_iff_eq, decide_eq_decide, beq_eq_false_iff_ne, ne_eq, reduceCtorEq] at h) <;> (conv => whnf))
    | (refine And.intro (by (try simp only [Int.toNat_natCast]); omega) ?_; conv => whnf)
    | (refine And.intro (show (_ : Bool) = true from by kernel_rfl) ?_; conv => whnf)
    | (refine .inl ⟨wrap64 (by omega), ?_⟩; conv => whnf)))
  · have e : cluAt H.clusters s = k := firstI_at (by omega) (by simpa [-List.getD_eq_getElem?_getD] using h) hinv
    exact PSub.int (by rw [cluIx, e, if_pos (by omega)])
  · refine ⟨k + 1, [], ⟨by omega, ?_⟩, by first | omega | (dsimp only; omega), ?_⟩
    rotate_left
    · (repeat' (first | exact PSub.rfl | exact rfl | exact PSubs.rfl | exact trivial | exact PSub.lit_sb rfl | refine And.intro ?_ ?_))
    intro j hj
    by_cases e : j = k
    · subst e; first | exact h | simpa [-List.getD_eq_getElem?_getD] using h | simp_all [-List.getD_eq_getElem?_getD]
    · exact hinv j (by omega)
  · have e : cluAt H.clusters s = H.clusters.length := firstI_none fun j hj => hinv j (by omega)
    exact PSub.int (by rw [cluIx, e, if_neg (by omega)])
theorem firstC_ix {l : List Clu} {s : ByteArray} : (cluIx l s < 0 ∧ firstC l s = none) ∨ ∃ k : Nat, cluIx l s = k ∧ k < l.length ∧ firstC l s = some (l.getD k default) := by
  rw [firstC_eq]
  unfold cluIx
  split
  · rename_i h; exact .inr ⟨_, rfl, h, rfl⟩
  · exact .inl ⟨by omega, rfl⟩
theorem ac_r22_parts (H : Hom) (d : Dev) (hH : smallH H) : AC Tryz.prog 96 [.pv (.agg (cHom H)), .pv (.agg (cDev d))] [] (.pv (vint (capE (firstC H.clusters) d))) [] := by
  have hl : H.clusters.length ≤ 1048576 := hH.1.1
  refine AC.of_awp (T := T) T_ok hm Tryz.call96 Tryz.func96 rfl rfl rfl ?_
  conv => whnf
  refine ⟨fun h => ?_, fun h => ?_⟩
  · conv => whnf
    simp only [decide_eq_true_eq] at h
    exact PSub.int (by rw [capE, if_pos (by omega)])
  conv => whnf
  refine ⟨fun h => ?_, fun h => ?_⟩ <;> (try simp only [decide_eq_true_eq, decide_eq_false_iff_not, Bool.not_eq_true', Bool.not_eq_false', Int.toNat_natCast, beq_iff_eq, decide_eq_decide, beq_eq_false_iff_ne, ne_eq, reduceCtorEq] at h) <;> (conv => whnf)
  · exact PSub.int (by rw [capE, if_pos (by omega)])
  rename_i h0
  simp only [decide_eq_false_iff_not] at h0
  rw [capE, if_neg (by omega)]
  refine loop_k (ι := Nat × Int) [2, 3] [2, 3] (fun i => i.1 ≤ d.clusters.length ∧ (0 ≤ i.2 ∧ i.2 ≤ i.1 * 1048576) ∧ forI (capStep (firstC H.clusters) d) (d.clusters.length - i.1) i.1 i.2 = forI (capStep (firstC H.clusters) d) d.clusters.length 0 0) (fun i => d.clusters.length - i.1) (0, 0) (fun i => [(5, .pv (vint i.2)), (6, .pv (vint i.1))]) (fun _ => []) [] ⟨Nat.zero_le _, by simp, rfl⟩ ?_ (fun i hk => ?_)
  · (repeat' (first | exact PSub.rfl | exact rfl | exact PSubs.rfl | exact trivial | exact PSub.lit_sb rfl | refine And.intro ?_ ?_))
  obtain ⟨k, n⟩ := i
  obtain ⟨hkn, hn, hfor⟩ := hk
  simp only at hkn hn hfor
  conv => whnf
  refine ⟨fun h => ?_, fun h => ?_⟩ <;> (try simp only [decide_eq_true_eq, decide_eq_false_iff_not, Bool.not_eq_true', Bool.not_eq_false', Int.toNat_natCast, beq_iff_eq, decide_eq_decide, beq_eq_false_iff_ne, ne_eq, reduceCtorEq] at h) <;> (conv => whnf)
  · repeat (any_goals (first
      | (refine ⟨fun (h : (_ : Bool) = true) => ?_, fun (h : (_ : Bool) = false) => ?_⟩ <;> (try simp only [decide_eq_true_eq, decide_eq_false_iff_not, Bool.not_eq_true', Bool.not_eq_false', Int.toNat_natCast, beq_iff_eq, decide_eq_decide, beq_eq_false_iff_ne, ne_eq, reduceCtorEq] at h) <;> (conv => whnf))
      | (refine .inl ⟨_, ac_r22_cluster H (d.clusters.getD k default) hH, ?_⟩; conv => whnf)
      | (refine .inl ⟨_, ac_r04_Index d.clusters (d.clusters.getD k default) (by omega), ?_⟩; conv => whnf)
      | (refine And.intro (by (try simp only [Int.toNat_natCast]); omega) ?_; conv => whnf)
      | (refine And.intro (show (_ : Bool) = true from by kernel_rfl) ?_; conv => whnf)
      | (refine .inl ⟨wrap64 (by omega), ?_⟩; conv => whnf)))
    · have hc : firstC H.clusters (d.clusters.getD k default) = none := by
        rcases firstC_ix (l := H.clusters) (s := d.clusters.getD k default) with ⟨_, e⟩ | ⟨j, e, _, _⟩
        · exact e
        · omega
      rw [forI_stop hfor (by omega) (r := 8) (by rw [capStep, hc])]
      exact PSub.rfl
    · rcases firstC_ix (l := H.clusters) (s := d.clusters.getD k default) with ⟨_, _⟩ | ⟨j, e, hj, hc⟩
      · omega
      rw [forI_stop hfor (by omega) (r := 9) (by rw [capStep, hc]; simp only; rw [if_pos h])]
      exact PSub.rfl
    · rcases firstC_ix (l := H.clusters) (s := d.clusters.getD k default) with ⟨_, _⟩ | ⟨j, e, hj, hc⟩
      · omega
      rw [e]
      have hcl : (H.clusters.getD j default).attrs.length ≤ 1048576 := (hH.1.2 j).1
      refine And.intro (by omega) ?_
      conv => whnf
      refine .inl ⟨wrap64 (by simp only [Int.toNat_natCast]; omega), ?_⟩
      conv => whnf
      repeat (any_goals (first
        | (refine ⟨fun (h : (_ : Bool) = true) => ?_, fun (h : (_ : Bool) = false) => ?_⟩ <;> (try simp only [decide_eq_true_eq, decide_eq_false_iff_not, Bool.not_eq_true', Bool.not_eq_false', Int.toNat_natCast, beq_iff_eq, decide_eq_decide, beq_eq_false_iff_ne, ne_eq, reduceCtorEq] at h) <;> (conv => whnf))
        | (refine And.intro (by (try simp only [Int.toNat_natCast]); omega) ?_; conv => whnf)
        | (refine And.intro (show (_ : Bool) = true from by kernel_rfl) ?_; conv => whnf)
        | (refine .inl ⟨wrap64 (by omega), ?_⟩; conv => whnf)))
      refine ⟨(k + 1, n + (H.clusters.getD j default).attrs.length), [], ⟨by dsimp only; omega, ⟨by dsimp only; omega, by dsimp only; omega⟩, forI_next hfor (by omega) (by rw [capStep, hc]; simp only; rw [if_neg h])⟩, by dsimp only; omega, ?_⟩
      (repeat' (first | exact PSub.rfl | exact rfl | exact PSubs.rfl | exact trivial | exact PSub.lit_sb rfl | refine And.intro ?_ ?_))
  · rw [forI_end hfor (by omega)]
    repeat (any_goals (first
      | (refine ⟨fun (h : (_ : Bool) = true) => ?_, fun (h : (_ : Bool) = false) => ?_⟩ <;> (try simp only [decide_eq_true_eq, decide_eq_false_iff_not, Bool.not_eq_true', Bool.not_eq_false', Int.toNat_natCast, beq_iff_eq, decide_eq_decide, beq_eq_false_iff_ne, ne_eq, reduceCtorEq] at h) <;> (conv => whnf))
      | (refine And.intro (by (try simp only [Int.toNat_natCast]); omega) ?_; conv => whnf)
      | (refine And.intro (show (_ : Bool) = true from by kernel_rfl) ?_; conv => whnf)
      | (refine .inl ⟨wrap64 (by omega), ?_⟩; conv => whnf)))
    · exact PSub.int (by simp only; rw [if_pos h])
    · exact PSub.int (by simp only; rw [if_neg h])
set_option maxHeartbeats 2000000 in
theorem ac_r22_one (H : Hom) (i : Nat) (hH : smallH H) (hi : i < H.devices.length) : AC Tryz.prog 72 [.pv (.agg (cHom H)), .pv (vint i)] [] (.pv (vint (devE (firstC H.clusters) H.devices i))) [] := by
  have hl : H.devices.length ≤ 1048576 := hH.2.1
  have hpi : (↑i - 1 : Int).toNat = i - 1 := by omega
  refine AC.of_awp (T := T) T_ok hm Tryz.call72 Tryz.func72 rfl rfl rfl ?_
  conv => whnf
  repeat (any_goals (first
    | (refine ⟨fun (h : (_ : Bool) = true) => ?_, fun (h : (_ : Bool) = false) => ?_⟩ <;> (try simp only [decide_eq_true_eq, decide_eq_false_iff_not, Bool.not_eq_true', Bool.not_eq_false', Int.toNat_natCast, beq_iff_eq, decide_eq_decide, beq_eq_false_iff_ne, ne_eq, reduceCtorEq] at h) <;> (conv => whnf))
    | (refine And.intro (by (try simp only [Int.toNat_natCast]); omega) ?_; conv => whnf)
    | (refine And.intro (show (_ : Bool) = true from by kernel_rfl) ?_; conv => whnf)
    | (refine .inl ⟨wrap64 (by omega), ?_⟩; conv => whnf)))
  all_goals try rw [hpi] at h
  all_goals try (exfalso; simp_all [-List.getD_eq_getElem?_getD]; done)
  all_goals try (refine PSub.int ?_; simp only [devE, numB]; simp_all [-List.getD_eq_getElem?_getD]; done)
  all_goals try (refine PSub.int ?_; simp only [devE, numB]; simp_all [-List.getD_eq_getElem?_getD]; omega)
  all_goals trace "left"
  all_goals
    have e0 : devE (firstC H.clusters) H.devices i = if anyN i (fun j => decide ((H.devices.getD j default).eui = (H.devices.getD i default).eui)) = true then 9 else if validName (H.devices.getD i default).room = false then 10 else capE (firstC H.clusters) (H.devices.getD i default) := by
      have hn : numB (H.devices.getD i default) = true := by simp only [numB]; simp_all [-List.getD_eq_getElem?_getD]
      simp only [devE]; rw [hn]; simp only [Bool.true_eq_false, if_false]
      rw [if_neg (by omega)]
    rw [e0]
    refine loop_k (ι := Nat) [1, 2, 5] [2, 5] (fun k => k ≤ i ∧ (∀ j, j < k → decide ((H.devices.getD j default).eui = (H.devices.getD i default).eui) = false)) (fun k => i - k) 0 (fun k => [(6, .pv (vint k))]) (fun _ => []) [] ⟨Nat.zero_le _, fun j h => absurd h (by omega)⟩ ?_ (fun k hk => ?_)
    · (repeat' (first | exact PSub.rfl | exact rfl | exact PSubs.rfl | exact trivial | exact PSub.lit_sb rfl | refine And.intro ?_ ?_))
    obtain ⟨hkn, hinv⟩ := hk
    conv => whnf
    clear e0
    repeat (any_goals (first
      | (refine ⟨fun (h : (_ : Bool) = true) => ?_, fun (h : (_ : Bool) = false) => ?_⟩ <;> (try simp only [decide_eq_true_eq, decide_eq_false_iff_not, Bool.not_eq_true', Bool.not_eq_false', Int.toNat_natCast, beq_iff_eq, decide_eq_decide, beq_eq_false_iff_ne, ne_eq, reduceCtorEq] at h) <;> (conv => whnf))
      | (refine .inl ⟨_, ac_r04_Valid (H.devices.getD i default).room, ?_⟩; conv => whnf)
      | (refine .inl ⟨_, ac_r22_parts H (H.devices.getD i default) hH, ?_⟩; conv => whnf)
      | (refine And.intro (by (try simp only [Int.toNat_natCast]); omega) ?_; conv => whnf)
      | (refine And.intro (show (_ : Bool) = true from by kernel_rfl) ?_; conv => whnf)
      | (refine .inl ⟨wrap64 (by omega), ?_⟩; conv => whnf)))
    · have e := anyN_true (n := i) (k := k) (p := fun j => decide ((H.devices.getD j default).eui = (H.devices.getD i default).eui)) (by omega) (by simpa [-List.getD_eq_getElem?_getD] using h)
      exact PSub.int (by rw [if_pos e])
    · refine ⟨k + 1, [], ⟨by omega, ?_⟩, by first | omega | (dsimp only; omega), ?_⟩
      rotate_left
      · (repeat' (first | exact PSub.rfl | exact rfl | exact PSubs.rfl | exact trivial | exact PSub.lit_sb rfl | refine And.intro ?_ ?_))
      intro j hj
      by_cases e : j = k
      · subst e; first | exact h | simpa [-List.getD_eq_getElem?_getD] using h | simp_all [-List.getD_eq_getElem?_getD]
      · exact hinv j (by omega)
    · have e := anyN_false (n := i) (p := fun j => decide ((H.devices.getD j default).eui = (H.devices.getD i default).eui)) (fun j hj => hinv j (by omega))
      exact PSub.int (by rw [e, if_neg (by simp), if_pos h])
    · have e := anyN_false (n := i) (p := fun j => decide ((H.devices.getD j default).eui = (H.devices.getD i default).eui)) (fun j hj => hinv j (by omega))
      exact PSub.int (by rw [e, if_neg (by simp), if_neg (by rw [h]; decide)])
end Go.Abs

namespace Go.Abs
open Go.Proofs
set_option maxRecDepth 10000
theorem ac_r22_Check (H : Hom) (hH : smallH H) : AC Tryz.prog 37 [.pv (.agg (cHom H))] [] (.pv (vint (homE H))) [] := by
  have hl : H.devices.length ≤ 1048576 := hH.2.1
  refine AC.of_awp (T := T) T_ok hm Tryz.call37 Tryz.func37 rfl rfl rfl ?_
  conv => whnf
  refine .inl ⟨_, ac_r21_All H.clusters hH.1, ?_⟩
  conv => whnf
  refine ⟨fun h => ?_, fun h => ?_⟩ <;> (try simp only [decide_eq_true_eq, decide_eq_false_iff_not, Bool.not_eq_true', Bool.not_eq_false', Int.toNat_natCast, beq_iff_eq, decide_eq_decide, beq_eq_false_iff_ne, ne_eq, reduceCtorEq] at h) <;> (conv => whnf)
  · exact PSub.int (by rw [homE, if_pos h])
  rw [homE, if_neg (by simpa using h)]
  refine ⟨fun h => ?_, fun h => ?_⟩ <;> (try simp only [decide_eq_true_eq, decide_eq_false_iff_not, Bool.not_eq_true', Bool.not_eq_false', Int.toNat_natCast, beq_iff_eq, decide_eq_decide, beq_eq_false_iff_ne, ne_eq, reduceCtorEq] at h) <;> (conv => whnf)
  · exact PSub.int (by rw [if_pos (by omega)])
  rw [if_neg (by omega)]
  refine loop_k (ι := Nat) [1] [1] (fun k => k ≤ H.devices.length ∧ (∀ j, j < k → devE (firstC H.clusters) H.devices j = 0)) (fun k => H.devices.length - k) 0 (fun k => [(4, .pv (vint k))]) (fun _ => []) [] ⟨Nat.zero_le _, fun j h => absurd h (by omega)⟩ ?_ (fun k hk => ?_)
  · (repeat' (first | exact PSub.rfl | exact rfl | exact PSubs.rfl | exact trivial | exact PSub.lit_sb rfl | refine And.intro ?_ ?_))
  obtain ⟨hkn, hinv⟩ := hk
  conv => whnf
  refine ⟨fun h => ?_, fun h => ?_⟩ <;> (try simp only [decide_eq_true_eq, decide_eq_false_iff_not, Bool.not_eq_true', Bool.not_eq_false', Int.toNat_natCast, beq_iff_eq, decide_eq_decide, beq_eq_false_iff_ne, ne_eq, reduceCtorEq] at h) <;> (conv => whnf)
  · refine .inl ⟨_, ac_r22_one H k hH (by omega), ?_⟩
    conv => whnf
    repeat (any_goals (first
      | (refine ⟨fun (h : (_ : Bool) = true) => ?_, fun (h : (_ : Bool) = false) => ?_⟩ <;> (try simp only [decide_eq_true_eq, decide_eq_false_iff_not, Bool.not_eq_true', Bool.not_eq_false', Int.toNat_natCast, beq_iff_eq, decide_eq_decide, beq_eq_false_iff_ne, ne_eq, reduceCtorEq] at h) <;> (conv => whnf))
      | (refine And.intro (by (try simp only [Int.toNat_natCast]); omega) ?_; conv => whnf)
      | (refine And.intro (show (_ : Bool) = true from by kernel_rfl) ?_; conv => whnf)
      | (refine .inl ⟨wrap64 (by omega), ?_⟩; conv => whnf)))
    · exact PSub.int (by rw [firstE_at (k := k) (by omega) h hinv])
    · refine ⟨k + 1, [], ⟨by omega, ?_⟩, by first | omega | (dsimp only; omega), ?_⟩
      rotate_left
      · (repeat' (first | exact PSub.rfl | exact rfl | exact PSubs.rfl | exact trivial | exact PSub.lit_sb rfl | refine And.intro ?_ ?_))
      intro j hj
      by_cases e : j = k
      · subst e; first | exact h | simpa [-List.getD_eq_getElem?_getD] using h | simp_all [-List.getD_eq_getElem?_getD]
      · exact hinv j (by omega)
  · exact PSub.int (by rw [firstE_none fun j hj => hinv j (by omega)])
end Go.Abs

namespace Go.Abs
open Go.Proofs
set_option maxRecDepth 10000
theorem ixI_nonneg {n k : Nat} (h : ¬ ixI n k < 0) : k < n ∧ ixI n k = (k : Int) := by
  unfold ixI at *
  split <;> rename_i h2
  · exact ⟨h2, rfl⟩
  · rw [if_neg h2] at h; omega
end Go.Abs

namespace Go.Abs
open Go.Proofs Go.RowKit
set_option maxRecDepth 10000
section
variable {H : Type} {enc : TypeId × Value → H} {w : World} {bulk : DataW H → Nat}
theorem op_uint64 : Opens enc Tryz.prog w bulk BB 65 (fun n : Int => [.val (.int .u64 n)]) (fun _ => True) := (Opens.int Tryz.underlying65).imp id (fun _ => rfl) (fun _ _ => trivial)
def goodKey (k : Key) : Prop := inI64 k.dev
theorem op_Key (hB : BulkOk bulk) : Opens enc Tryz.prog w bulk BB 32 cKey goodKey :=
  (Opens.struct hB Tryz.underlying32 (by kernel_rfl) (.cons (size := 1) rfl (by kernel_rfl) op_int (.cons (size := 1) rfl (by kernel_rfl) (op_string hB) (.cons (size := 1) rfl (by kernel_rfl) (op_string hB) .nil)))).imp (fun x => ⟨x.1, x.2.1, x.2.2.1⟩) (fun _ => rfl) (fun _ h => h.1)
def goodVal (v : Val) : Prop := inI64 v.kind ∧ inI64 v.n
theorem op_Value (hB : BulkOk bulk) : Opens enc Tryz.prog w bulk BB 34 cVal goodVal :=
  (Opens.struct hB Tryz.underlying34 (by kernel_rfl) (.cons (size := 1) rfl (by kernel_rfl) op_int (.cons (size := 1) rfl (by kernel_rfl) op_int (.cons (size := 1) rfl (by kernel_rfl) (op_string hB) .nil)))).imp (fun x => ⟨x.1, x.2.1, x.2.2.1⟩) (fun _ => rfl) (fun _ h => ⟨h.1, h.2.1⟩)
theorem op_Attr (hB : BulkOk bulk) : Opens enc Tryz.prog w bulk BB 69 cAttr smallA :=
  (Opens.struct hB Tryz.underlying69 (by kernel_rfl) (.cons (size := 1) rfl (by kernel_rfl) (op_string hB) (.cons (size := 1) rfl (by kernel_rfl) op_int (.cons (size := 1) rfl (by kernel_rfl) op_int (.cons (size := 1) rfl (by kernel_rfl) op_int (.cons (size := 1) rfl (by kernel_rfl) (op_l_string hB) (.cons (size := 1) rfl (by kernel_rfl) op_bool (.cons (size := 1) rfl (by kernel_rfl) op_bool .nil)))))))).imp
    (fun x => ⟨x.1, x.2.1, x.2.2.1, x.2.2.2.1, x.2.2.2.2.1, x.2.2.2.2.2.1, x.2.2.2.2.2.2.1⟩) (fun _ => rfl) (fun _ h => h.2.2.2.2.1)
theorem getD_all {α : Type} [Inhabited α] {l : List α} {p : α → Prop} (h : ∀ i, i < l.length → p (l.getD i default)) (hd : p default) (i : Nat) : p (l.getD i default) := by
  by_cases hi : i < l.length
  · exact h i hi
  · have : l.getD i default = default := by simp [List.getD, Nat.le_of_not_lt hi]
    rw [this]; exact hd
theorem op_l_Attr (hB : BulkOk bulk) : Opens enc Tryz.prog w bulk BB 61 (fun l : List Attr => [roL 7 cAttr l]) (fun l => smallL l ∧ ∀ i, smallA (l.getD i default)) :=
  (Opens.slice hB Tryz.underlying61 (by kernel_rfl) (by decide) (op_Attr hB)).imp id (fun _ => rfl) (fun _ h => ⟨h.1, getD_all h.2 (Nat.zero_le _)⟩)
theorem op_Effect (hB : BulkOk bulk) : Opens enc Tryz.prog w bulk BB 173 cEff (fun _ => True) :=
  (Opens.struct hB Tryz.underlying173 (by kernel_rfl) (.cons (size := 1) rfl (by kernel_rfl) op_int (.cons (size := 1) rfl (by kernel_rfl) (op_string hB) (.cons (size := 1) rfl (by kernel_rfl) op_int .nil)))).imp (fun x => ⟨x.1, x.2.1, x.2.2.1⟩) (fun _ => rfl) (fun _ _ => trivial)
theorem op_l_Effect (hB : BulkOk bulk) : Opens enc Tryz.prog w bulk BB 167 (fun l : List Eff => [roL 3 cEff l]) smallL :=
  (Opens.slice hB Tryz.underlying167 (by kernel_rfl) (by decide) (op_Effect hB)).imp id (fun _ => rfl) (fun _ h => h.1)
theorem op_Command (hB : BulkOk bulk) : Opens enc Tryz.prog w bulk BB 169 cCmd smallC :=
  (Opens.struct hB Tryz.underlying169 (by kernel_rfl) (.cons (size := 1) rfl (by kernel_rfl) (op_string hB) (.cons (size := 7) rfl (by kernel_rfl) (op_Attr hB) (.cons (size := 1) rfl (by kernel_rfl) (op_l_Effect hB) .nil)))).imp (fun x => ⟨x.1, x.2.1, x.2.2.1⟩) (fun _ => rfl) (fun _ h => ⟨h.2.1, h.2.2.1⟩)
theorem op_l_Command (hB : BulkOk bulk) : Opens enc Tryz.prog w bulk BB 62 (fun l : List Cmd => [roL 9 cCmd l]) (fun l => smallL l ∧ ∀ i, smallC (l.getD i default)) :=
  (Opens.slice hB Tryz.underlying62 (by kernel_rfl) (by decide) (op_Command hB)).imp id (fun _ => rfl) (fun _ h => ⟨h.1, getD_all h.2 ⟨Nat.zero_le _, Nat.zero_le _⟩⟩)
theorem op_Cluster (hB : BulkOk bulk) : Opens enc Tryz.prog w bulk BB 64 cClu smallK :=
  (Opens.struct hB Tryz.underlying64 (by kernel_rfl) (.cons (size := 1) rfl (by kernel_rfl) (op_string hB) (.cons (size := 1) rfl (by kernel_rfl) (op_l_Attr hB) (.cons (size := 1) rfl (by kernel_rfl) (op_l_Command hB) (.cons (size := 1) rfl (by kernel_rfl) (op_l_string hB) .nil))))).imp (fun x => ⟨x.1, x.2.1, x.2.2.1, x.2.2.2.1⟩) (fun _ => rfl) (fun _ h => ⟨h.2.1.1, h.2.1.2, h.2.2.1.1, h.2.2.1.2, h.2.2.2.1⟩)
theorem op_l_Cluster (hB : BulkOk bulk) : Opens enc Tryz.prog w bulk BB 22 (fun l : List Clu => [roL 4 cClu l]) smallKs :=
  (Opens.slice hB Tryz.underlying22 (by kernel_rfl) (by decide) (op_Cluster hB)).imp id (fun _ => rfl) (fun _ h => ⟨h.1, getD_all h.2 small_default⟩)
theorem op_Device (hB : BulkOk bulk) : Opens enc Tryz.prog w bulk BB 67 cDev smallD :=
  (Opens.struct hB Tryz.underlying67 (by kernel_rfl) (.cons (size := 1) rfl (by kernel_rfl) op_int (.cons (size := 1) rfl (by kernel_rfl) op_uint64 (.cons (size := 1) rfl (by kernel_rfl) op_int (.cons (size := 1) rfl (by kernel_rfl) op_bool (.cons (size := 1) rfl (by kernel_rfl) op_int (.cons (size := 1) rfl (by kernel_rfl) (op_string hB) (.cons (size := 1) rfl (by kernel_rfl) (op_l_string hB) .nil)))))))).imp
    (fun x => ⟨x.1, x.2.1, x.2.2.1, x.2.2.2.1, x.2.2.2.2.1, x.2.2.2.2.2.1, x.2.2.2.2.2.2.1⟩) (fun _ => rfl) (fun _ h => ⟨h.2.2.2.2.2.2.1, h.1.1, h.1.2⟩)
theorem op_l_Device (hB : BulkOk bulk) : Opens enc Tryz.prog w bulk BB 23 (fun l : List Dev => [roL 7 cDev l]) (fun l => smallL l ∧ ∀ i, smallD (l.getD i default)) :=
  (Opens.slice hB Tryz.underlying23 (by kernel_rfl) (by decide) (op_Device hB)).imp id (fun _ => rfl) (fun _ h => ⟨h.1, getD_all h.2 ⟨Nat.zero_le _, by decide, by decide⟩⟩)
theorem op_Home (hB : BulkOk bulk) : Opens enc Tryz.prog w bulk BB 25 cHom smallH :=
  (Opens.struct hB Tryz.underlying25 (by kernel_rfl) (.cons (size := 1) rfl (by kernel_rfl) (op_l_Cluster hB) (.cons (size := 1) rfl (by kernel_rfl) (op_l_Device hB) .nil))).imp (fun x => ⟨x.1, x.2.1⟩) (fun _ => rfl) (fun _ h => ⟨h.1, h.2.1.1, h.2.1.2⟩)
end
end Go.Abs

namespace Go.Abs
theorem putK_length (l : List Key) (k : Key) : (putK l k).length ≤ l.length + 1 := by
  induction l with
  | nil => simp [putK]
  | cons y r ih =>
    unfold putK
    split
    · simp only [List.length_cons]; omega
    · simp only [List.length_cons]
      have := List.length_filter_le (fun z => decide (z ≠ k)) (y :: r)
      simp only [List.length_cons] at this
      omega
theorem foldl_putK_length {l acc : List Key} : (l.foldl putK acc).length ≤ acc.length + l.length := by
  induction l generalizing acc with
  | nil => simp
  | cons y r ih =>
    have h1 := ih (acc := putK acc y)
    have h2 := putK_length acc y
    simp only [List.foldl_cons, List.length_cons]; omega
theorem sortK_length (l : List Key) : (sortK l).length ≤ l.length := by
  have := foldl_putK_length (l := l) (acc := [])
  simpa [sortK] using this
end Go.Abs

namespace Go.Abs
theorem putS_length (l : List ByteArray) (k : ByteArray) : (putS l k).length ≤ l.length + 1 := by
  induction l with
  | nil => simp [putS]
  | cons y r ih =>
    unfold putS
    split
    · simp only [List.length_cons]; omega
    · simp only [List.length_cons]
      have := List.length_filter_le (fun z => decide (z ≠ k)) (y :: r)
      simp only [List.length_cons] at this
      omega
theorem foldl_putS_length {l acc : List ByteArray} : (l.foldl putS acc).length ≤ acc.length + l.length := by
  induction l generalizing acc with
  | nil => simp
  | cons y r ih =>
    have h1 := ih (acc := putS acc y)
    have h2 := putS_length acc y
    simp only [List.foldl_cons, List.length_cons]; omega
theorem sortS_length (l : List ByteArray) : (sortS l).length ≤ l.length := by
  have := foldl_putS_length (l := l) (acc := [])
  simpa [sortS] using this
end Go.Abs

namespace Go.Abs
open Go.Proofs
set_option maxRecDepth 10000
theorem getD_set {α : Type} [Inhabited α] {l : List α} {i j : Nat} {x : α} : (l.set i x).getD j default = if j = i ∧ i < l.length then x else l.getD j default := by
  by_cases e : j = i
  · subst e
    by_cases h : j < l.length
    · rw [if_pos ⟨rfl, h⟩]; simp [List.getD, h]
    · rw [if_neg (by omega)]; simp [List.getD, Nat.le_of_not_lt h]
  · rw [if_neg (by omega)]
    simp [List.getD, List.getElem?_set_ne (Ne.symm e)]
end Go.Abs

namespace Go.Abs
open Go.Proofs
variable [Globals]
def arrL (l : List Mem) (name : ByteArray) (home : Bool) : List Mem := if mbrAt l name < l.length then l.set (mbrAt l name) { l.getD (mbrAt l name) default with home := home } else []
def arrE (l : List Mem) (name : ByteArray) : Int := if mbrAt l name < l.length then 0 else 8
theorem mbrAt_congr {l k : List Mem} (hl : l.length = k.length) (h : ∀ i, i < k.length → (l.getD i default).name = (k.getD i default).name) (name : ByteArray) : mbrAt l name = mbrAt k name := by
  unfold mbrAt
  rw [hl]
  have hc : ∀ i, i < k.length → decide ((l.getD i default).name = name) = decide ((k.getD i default).name = name) := fun i hi => by rw [h i hi]
  rcases firstI_cases (n := k.length) (p := fun i => decide ((k.getD i default).name = name)) with ⟨h1, h2, h3⟩ | ⟨h1, h2⟩
  · exact firstI_at h1 ((hc _ h1).trans h2) fun j hj => (hc j (by omega)).trans (h3 j hj)
  · rw [h1]; exact firstI_none fun j hj => (hc j hj).trans (h2 j hj)
theorem mbrAt_name {l : List Mem} {name : ByteArray} (h : mbrAt l name < l.length) : (l.getD (mbrAt l name) default).name = name := by
  rcases firstI_cases (n := l.length) (p := fun i => decide ((l.getD i default).name = name)) with ⟨_, h2, _⟩ | ⟨h1, _⟩
  · exact of_decide_eq_true h2
  · unfold mbrAt at h; omega
theorem memE_parts {H : Hom} {l : List Mem} {i : Nat} (h : memE H l i = 0) : validName (l.getD i default).name = true ∧ (∀ j, j < i → (l.getD j default).name ≠ (l.getD i default).name) ∧ ownEnt H (l.getD i default) = 0 := by
  unfold memE at h
  split at h
  · cases h
  rename_i h1
  split at h
  · cases h
  rename_i h2
  refine ⟨by simpa using h1, fun j hj e => h2 (anyN_true hj (decide_eq_true e)), h⟩
theorem memE_mk {H : Hom} {l : List Mem} {i : Nat} (h1 : validName (l.getD i default).name = true) (h2 : ∀ j, j < i → (l.getD j default).name ≠ (l.getD i default).name) (h3 : ownEnt H (l.getD i default) = 0) : memE H l i = 0 := by
  unfold memE
  rw [if_neg (by rw [h1]; decide), if_neg]
  · exact h3
  · rw [Bool.not_eq_true]
    exact anyN_false fun j hj => decide_eq_false (h2 j hj)
end Go.Abs

namespace Go.Abs
open Go.Proofs
variable [Globals]
theorem mem_presI {l : List Mem} {x : ByteArray} : x ∈ presL l ↔ ∃ j, j < l.length ∧ (l.getD j default).home = true ∧ (l.getD j default).name = x := by
  unfold presL homeN
  rw [mem_sortS, List.mem_map]
  constructor
  · rintro ⟨m, hm, rfl⟩
    obtain ⟨h1, h2⟩ := List.mem_filter.1 hm
    obtain ⟨j, hj, rfl⟩ := List.mem_iff_getElem.1 h1
    exact ⟨j, hj, by rw [getD_getElem _ _ hj]; exact h2, by rw [getD_getElem _ _ hj]⟩
  · rintro ⟨j, hj, h1, rfl⟩
    rw [getD_getElem _ _ hj] at h1 ⊢
    exact ⟨l[j], List.mem_filter.2 ⟨List.getElem_mem _, h1⟩, rfl⟩
theorem arr_len {l : List Mem} {name : ByteArray} {b : Bool} (h : mbrAt l name < l.length) : (arrL l name b).length = l.length := by
  unfold arrL; rw [if_pos h, List.length_set]
theorem arr_get {l : List Mem} {name : ByteArray} {b : Bool} (h : mbrAt l name < l.length) {j : Nat} (hj : j < l.length) : (arrL l name b).getD j default = if j = mbrAt l name then { l.getD j default with home := b } else l.getD j default := by
  unfold arrL; rw [if_pos h]
  rw [getD_getElem _ _ (by rw [List.length_set]; exact hj), List.getElem_set, getD_getElem _ _ hj, getD_getElem _ _ h]
  by_cases e : j = mbrAt l name
  · rw [if_pos e, if_pos e.symm]; simp only [e]
  · rw [if_neg e, if_neg (fun x => e x.symm)]
theorem arr_name {l : List Mem} {name : ByteArray} {b : Bool} (h : mbrAt l name < l.length) {j : Nat} (hj : j < l.length) : ((arrL l name b).getD j default).name = (l.getD j default).name := by
  rw [arr_get h hj]; split <;> rfl
theorem arr_own {H : Hom} {l : List Mem} {name : ByteArray} {b : Bool} (h : mbrAt l name < l.length) {j : Nat} (hj : j < l.length) : ownEnt H ((arrL l name b).getD j default) = ownEnt H (l.getD j default) := by
  rw [arr_get h hj]; split <;> rfl
theorem arr_role {l : List Mem} {name : ByteArray} {b : Bool} (h : mbrAt l name < l.length) {j : Nat} (hj : j < l.length) : ((arrL l name b).getD j default).role = (l.getD j default).role := by
  rw [arr_get h hj]; split <;> rfl
theorem arr_ok {H : Hom} {l : List Mem} {name : ByteArray} {b : Bool} (h : mbrAt l name < l.length) (ho : MbrOk H l) : MbrOk H (arrL l name b) := by
  obtain ⟨h1, h2, h3, i, hi, h4⟩ := ho
  refine ⟨h1, by rw [arr_len h]; exact h2, fun j hj => ?_, i, by rw [arr_len h]; exact hi, by rw [arr_role h hi]; exact h4⟩
  rw [arr_len h] at hj
  obtain ⟨p1, p2, p3⟩ := memE_parts (h3 j hj)
  refine memE_mk ?_ (fun q hq => ?_) ?_
  · rw [arr_name h hj]; exact p1
  · rw [arr_name h hj, arr_name h (by omega)]; exact p2 q hq
  · rw [arr_own h hj]; exact p3
theorem names_eq {H : Hom} {l : List Mem} (ho : MbrOk H l) {i j : Nat} (hi : i < l.length) (hj : j < l.length) (e : (l.getD i default).name = (l.getD j default).name) : i = j := by
  rcases Nat.lt_trichotomy i j with h | h | h
  · exact absurd e ((memE_parts (ho.each _ hj)).2.1 i h)
  · exact h
  · exact absurd e.symm ((memE_parts (ho.each _ hi)).2.1 j h)
theorem memN_mem {l : List ByteArray} {x : ByteArray} : memN l l.length x = true ↔ x ∈ l := by
  unfold memN
  simp only [List.any_eq_true, List.mem_range]
  rw [List.mem_iff_getElem]
  constructor
  · rintro ⟨i, hi, h⟩
    refine ⟨i, hi, ?_⟩
    have := of_decide_eq_true h
    rwa [getD_getElem _ _ hi] at this
  · rintro ⟨i, hi, h⟩
    exact ⟨i, hi, decide_eq_true (by rw [getD_getElem _ _ hi]; exact h)⟩
theorem arr_among {H : Hom} {l : List Mem} {name : ByteArray} {b : Bool} (ho : MbrOk H l) (h : mbrAt l name < l.length) {i : Nat} (hi : i < l.length) :
    memN (presL (arrL l name b)) (presL (arrL l name b)).length (l.getD i default).name = if (l.getD i default).name = name then b else memN (presL l) (presL l).length (l.getD i default).name := by
  have hn := mbrAt_name h
  have hp : ∀ k : List Mem, k.length = l.length → (∀ j, j < l.length → (k.getD j default).name = (l.getD j default).name) → ((l.getD i default).name ∈ presL k ↔ (k.getD i default).home = true) := by
    intro k hk hkn
    rw [mem_presI]
    constructor
    · rintro ⟨j, hj, h1, h2⟩
      rw [hk] at hj
      rw [hkn j hj] at h2
      have := names_eq ho hj hi h2
      subst this; exact h1
    · intro h1; exact ⟨i, by rw [hk]; exact hi, h1, hkn i hi⟩
  have hq : ∀ k : List Mem, k.length = l.length → (∀ j, j < l.length → (k.getD j default).name = (l.getD j default).name) → memN (presL k) (presL k).length (l.getD i default).name = (k.getD i default).home := by
    intro k hk hkn
    rw [Bool.eq_iff_iff, memN_mem]
    exact hp k hk hkn
  rw [hq _ (arr_len h) (fun j hj => arr_name h hj), hq l rfl (fun _ _ => rfl), arr_get h hi]
  by_cases e : (l.getD i default).name = name
  · have : i = mbrAt l name := names_eq ho hi h (e.trans hn.symm)
    rw [if_pos e, if_pos this]
  · rw [if_neg e, if_neg]
    rintro rfl; exact e hn
theorem arr_rights {H : Hom} {l : List Mem} {name : ByteArray} {b : Bool} {m : Int} (ho : MbrOk H l) (h : mbrAt l name < l.length) : rightsL H (arrL l name b) name m = rightsL H l name m := by
  have hat : mbrAt (arrL l name b) name = mbrAt l name := mbrAt_congr (arr_len h) (fun i hi => arr_name h hi) name
  have e1 : mbrOf (arrL l name b) name = { l.getD (mbrAt l name) default with home := b } := by
    unfold mbrOf; rw [hat, arr_len h, if_pos h, arr_get h h, if_pos rfl]
  have e2 : mbrOf l name = l.getD (mbrAt l name) default := if_pos h
  unfold rightsL
  rw [if_pos ⟨by rw [hat, arr_len h]; exact h, mems_ok.2 (arr_ok h ho)⟩, if_pos ⟨h, mems_ok.2 ho⟩, e1, e2]
  rfl
end Go.Abs

namespace Go.Abs
open Go.Proofs
set_option maxRecDepth 10000
theorem ac_r06_Valid (s : Spn) : AC Tryz.prog 79 [.pv (.agg (cSpn s))] [] (.pv (vbool (spnB s))) [] := by
  refine AC.of_awp (T := T) T_ok hm Tryz.call79 Tryz.func79 rfl rfl rfl ?_
  conv => whnf
  repeat (any_goals (first
    | (refine ⟨fun (h : (_ : Bool) = true) => ?_, fun (h : (_ : Bool) = false) => ?_⟩ <;> (try simp only [decide_eq_true_eq, decide_eq_false_iff_not, Bool.not_eq_true', Bool.not_eq_false', Int.toNat_natCast, beq_iff_eq, decide_eq_decide, beq_eq_false_iff_ne, ne_eq, reduceCtorEq] at h) <;> (conv => whnf))
    | (refine And.intro (by (try simp only [Int.toNat_natCast]); omega) ?_; conv => whnf)
    | (refine And.intro (show (_ : Bool) = true from by kernel_rfl) ?_; conv => whnf)
    | (refine .inl ⟨wrap64 (by omega), ?_⟩; conv => whnf)))
  all_goals first
    | contradiction
    | (exfalso; omega)
    | exact PSub.rfl
    | (refine PSub.lit_sb ?_; (first | (simp [spnB, *]; done) | (simp_all [spnB]; done) | ((try simp only [spnB]); (repeat' split) <;> (try simp only [Bool.false_eq, Bool.true_eq, Bool.and_eq_false_iff, decide_eq_false_iff_not, Bool.and_eq_true, decide_eq_true_eq, decide_eq_decide]) <;> first | rfl | omega | (simp_all; done) | (simp_all; omega))))
    | (refine PSub.sb ?_; (first | (simp [spnB, *]; done) | (simp_all [spnB]; done) | ((try simp only [spnB]); (repeat' split) <;> (try simp only [Bool.false_eq, Bool.true_eq, Bool.and_eq_false_iff, decide_eq_false_iff_not, Bool.and_eq_true, decide_eq_true_eq, decide_eq_decide]) <;> first | rfl | omega | (simp_all; done) | (simp_all; omega))))
    | (refine PSub.sb_lit ?_; (first | (simp [spnB, *]; done) | (simp_all [spnB]; done) | ((try simp only [spnB]); (repeat' split) <;> (try simp only [Bool.false_eq, Bool.true_eq, Bool.and_eq_false_iff, decide_eq_false_iff_not, Bool.and_eq_true, decide_eq_true_eq, decide_eq_decide]) <;> first | rfl | omega | (simp_all; done) | (simp_all; omega))))
    | (refine PSub.int ?_; (first | (simp [spnB, *]; done) | (simp_all [spnB]; done) | ((try simp only [spnB]); (repeat' split) <;> (try simp only [Bool.false_eq, Bool.true_eq, Bool.and_eq_false_iff, decide_eq_false_iff_not, Bool.and_eq_true, decide_eq_true_eq, decide_eq_decide]) <;> first | rfl | omega | (simp_all; done) | (simp_all; omega))))
    | skip
theorem ac_r06_Check (l : List Spn) (hl : smallL l) : AC Tryz.prog 73 [.pv (roL 2 cSpn l)] [] (.pv (vint (spnE l))) [] := by
  have hl2 : l.length ≤ 1048576 := hl
  refine AC.of_awp (T := T) T_ok hm Tryz.call73 Tryz.func73 rfl rfl rfl ?_
  conv => whnf
  refine ⟨fun h => ?_, fun h => ?_⟩ <;> (try simp only [decide_eq_true_eq, decide_eq_false_iff_not, Bool.not_eq_true', Bool.not_eq_false', Int.toNat_natCast, beq_iff_eq, decide_eq_decide, beq_eq_false_iff_ne, ne_eq, reduceCtorEq] at h) <;> (conv => whnf)
  · exact PSub.int (by rw [spnE, if_pos (by omega)])
  rw [spnE, if_neg (by omega)]
  refine loop_k (ι := Nat) [0, 8] [] (fun k => k ≤ l.length ∧ (∀ j, j < k → (!spnB (l.getD j default)) = false)) (fun k => l.length - k) 0 (fun k => [(9, .pv (vint k))]) (fun _ => []) [] ⟨Nat.zero_le _, fun j h => absurd h (by omega)⟩ ?_ (fun k hk => ?_)
  · (repeat' (first | exact PSub.rfl | exact rfl | exact PSubs.rfl | exact trivial | exact PSub.lit_sb rfl | refine And.intro ?_ ?_))
  obtain ⟨hkn, hinv⟩ := hk
  conv => whnf
  repeat (any_goals (first
    | (refine ⟨fun (h : (_ : Bool) = true) => ?_, fun (h : (_ : Bool) = false) => ?_⟩ <;> (try simp only [decide_eq_true_eq, decide_eq_false_iff_not, Bool.not_eq_true', Bool.not_eq_false', Int.toNat_natCast, beq_iff_eq, decide_eq_decide, beq_eq_false_iff_ne, ne_eq, reduceCtorEq] at h) <;> (conv => whnf))
    | (refine .inl ⟨_, ac_r06_Valid (l.getD k default), ?_⟩; conv => whnf)
    | (refine And.intro (by (try simp only [Int.toNat_natCast]); omega) ?_; conv => whnf)
    | (refine And.intro (show (_ : Bool) = true from by kernel_rfl) ?_; conv => whnf)
    | (refine .inl ⟨wrap64 (by omega), ?_⟩; conv => whnf)))
  · refine PSub.int ?_
    rw [if_pos (anyN_true (k := k) (by omega) (by rw [h]; rfl))]
  · refine ⟨k + 1, [], ⟨by omega, ?_⟩, by first | omega | (dsimp only; omega), ?_⟩
    rotate_left
    · (repeat' (first | exact PSub.rfl | exact rfl | exact PSubs.rfl | exact trivial | exact PSub.lit_sb rfl | refine And.intro ?_ ?_))
    intro j hj
    by_cases e : j = k
    · subst e; rw [h]; rfl
    · exact hinv j (by omega)
  · refine PSub.int ?_
    rw [anyN_false (fun j hj => hinv j (by omega))]; rfl
end Go.Abs

namespace Go.Abs
open Go.Proofs
set_option maxRecDepth 10000
theorem ac_slices_Clone_Member (n : Nat) (g : Nat → List PV) (hn : n ≤ 1048576) : AC Tryz.prog 58 [.pv (.ro 5 n g)] [] (.own 0) [(0, .row 5 n g)] := by
  refine AC.nil_split (pre := []) (post := []) ?_ (fun h => ?_)
  · refine AC.of_awp_own (T := T) T_ok hm Tryz.call58 Tryz.func58 rfl rfl rfl ?_
    conv => whnf
    refine ⟨by omega, ?_⟩
    conv => whnf
    exact ⟨by omega, fun i hi => by simpa using PSubs.rfl⟩
  · refine AC.of_awp_own (T := T) T_ok hm Tryz.call58 Tryz.func58 rfl rfl rfl ?_
    conv => whnf
    exact h
end Go.Abs

namespace Go.Abs
open Go.Proofs
set_option maxRecDepth 10000
theorem ac_member_Arrive_1 (x : Mem) (s : ByteArray) : AC Tryz.prog 57 [.pv (.agg (cMem x)), .pv (.cell [vstr s])] [] (.pv (vbool (decide (x.name = s)))) [] := by
  refine AC.of_awp (T := T) T_ok hm Tryz.call57 Tryz.func57 rfl rfl rfl ?_
  conv => whnf
  exact .rfl
end Go.Abs

namespace Go.Abs
open Go.Proofs
set_option maxRecDepth 10000
theorem ac_r47_room (H : Hom) (s : ByteArray) (hH : smallH H) : AC Tryz.prog 74 [.pv (.agg (cHom H)), .pv (vstr s)] [] (.pv (vbool (inRoom H s))) [] := by
  have hl : H.devices.length ≤ 1048576 := hH.2.1
  refine AC.of_awp (T := T) T_ok hm Tryz.call74 Tryz.func74 rfl rfl rfl ?_
  conv => whnf
  refine loop_k (ι := Nat) [1, 2] [2] (fun k => k ≤ H.devices.length ∧ (∀ j, j < k → decide ((H.devices.getD j default).room = s) = false)) (fun k => H.devices.length - k) 0 (fun k => [(5, .pv (vint k))]) (fun _ => []) [] ⟨Nat.zero_le _, fun j h => absurd h (by omega)⟩ ?_ (fun k hk => ?_)
  · (repeat' (first | exact PSub.rfl | exact rfl | exact PSubs.rfl | exact trivial | exact PSub.lit_sb rfl | refine And.intro ?_ ?_))
  obtain ⟨hkn, hinv⟩ := hk
  conv => whnf
  repeat (any_goals (first
    | (refine ⟨fun (h : (_ : Bool) = true) => ?_, fun (h : (_ : Bool) = false) => ?_⟩ <;> (try simp only [decide_eq_true_eq, decide_eq_false_iff_not, Bool.not_eq_true', Bool.not_eq_false', Int.toNat_natCast, beq_iff_eq, decide_eq_decide, beq_eq_false_iff_ne, ne_eq, reduceCtorEq] at h) <;> (conv => whnf))
    | (refine And.intro (by (try simp only [Int.toNat_natCast]); omega) ?_; conv => whnf)
    | (refine And.intro (show (_ : Bool) = true from by kernel_rfl) ?_; conv => whnf)
    | (refine .inl ⟨wrap64 (by omega), ?_⟩; conv => whnf)))
  · refine PSub.lit_sb ?_
    unfold inRoom
    have := anyN_true (p := fun i => decide ((H.devices.getD i default).room = s)) (n := H.devices.length) (k := k) (by omega) (by simpa [-List.getD_eq_getElem?_getD] using h)
    rw [this]
  · refine ⟨k + 1, [], ⟨by omega, ?_⟩, by first | omega | (dsimp only; omega), ?_⟩
    rotate_left
    · (repeat' (first | exact PSub.rfl | exact rfl | exact PSubs.rfl | exact trivial | exact PSub.lit_sb rfl | refine And.intro ?_ ?_))
    intro j hj
    by_cases e : j = k
    · subst e; first | exact h | simpa [-List.getD_eq_getElem?_getD] using h | simp_all [-List.getD_eq_getElem?_getD]
    · exact hinv j (by omega)
  · refine PSub.lit_sb ?_
    unfold inRoom
    rw [anyN_false (fun j hj => hinv j (by omega))]
end Go.Abs

namespace Go.Abs
open Go.Proofs
set_option maxRecDepth 10000
theorem ac_r47_one (H : Hom) (x : Mem) (hH : smallH H) (hs : smallL x.spans) (hr : smallL x.rooms) :
    AC Tryz.prog 40 [.pv (.agg (cHom H)), .pv (.agg (cMem x))] [] (.pv (vint (ownEnt H x))) [] := by
  have hr2 : x.rooms.length ≤ 1048576 := hr
  refine AC.of_awp (T := T) T_ok hm Tryz.call40 Tryz.func40 rfl rfl rfl ?_
  conv => whnf
  repeat (any_goals (first
    | (refine ⟨fun (h : (_ : Bool) = true) => ?_, fun (h : (_ : Bool) = false) => ?_⟩ <;> (try simp only [decide_eq_true_eq, decide_eq_false_iff_not, Bool.not_eq_true', Bool.not_eq_false', Int.toNat_natCast, beq_iff_eq, decide_eq_decide, beq_eq_false_iff_ne, ne_eq, reduceCtorEq] at h) <;> (conv => whnf))
    | (refine .inl ⟨_, ac_r06_Check x.spans hs, ?_⟩; conv => whnf)
    | (refine And.intro (by (try simp only [Int.toNat_natCast]); omega) ?_; conv => whnf)
    | (refine And.intro (show (_ : Bool) = true from by kernel_rfl) ?_; conv => whnf)
    | (refine .inl ⟨wrap64 (by omega), ?_⟩; conv => whnf)))
  all_goals try (refine PSub.int ?_; unfold ownEnt; simp [*, -List.getD_eq_getElem?_getD]; done)
  all_goals try (refine PSub.int ?_; unfold ownEnt; simp [*, -List.getD_eq_getElem?_getD]; omega)
  · exact PSub.int (by rw [own_form ‹_› ‹_› ‹_› ‹_› (by omega)])
  all_goals
    have e0 : ownEnt H x = firstE x.rooms.length fun j => roomE H (x.rooms.getD j default) := by
      rw [own_rooms ‹_› ‹_› ‹_› (by omega) (by omega) (by omega)]
    rw [e0]
    refine loop_k (ι := Nat) [2, 3] [2, 3] (fun k => k ≤ x.rooms.length ∧ (∀ j, j < k → roomE H (x.rooms.getD j default) = 0)) (fun k => x.rooms.length - k) 0 (fun k => [(5, .pv (vint k))]) (fun _ => []) [] ⟨Nat.zero_le _, fun j h => absurd h (by omega)⟩ ?_ (fun k hk => ?_)
    · (repeat' (first | exact PSub.rfl | exact rfl | exact PSubs.rfl | exact trivial | exact PSub.lit_sb rfl | refine And.intro ?_ ?_))
    obtain ⟨hkn, hinv⟩ := hk
    conv => whnf
    repeat (any_goals (first
      | (refine ⟨fun (h : (_ : Bool) = true) => ?_, fun (h : (_ : Bool) = false) => ?_⟩ <;> (try simp only [decide_eq_true_eq, decide_eq_false_iff_not, Bool.not_eq_true', Bool.not_eq_false', Int.toNat_natCast, beq_iff_eq, decide_eq_decide, beq_eq_false_iff_ne, ne_eq, reduceCtorEq] at h) <;> (conv => whnf))
      | (refine .inl ⟨_, ac_r04_Valid (x.rooms.getD k default), ?_⟩; conv => whnf)
      | (refine .inl ⟨_, ac_r47_room H (x.rooms.getD k default) hH, ?_⟩; conv => whnf)
      | (refine And.intro (by (try simp only [Int.toNat_natCast]); omega) ?_; conv => whnf)
      | (refine And.intro (show (_ : Bool) = true from by kernel_rfl) ?_; conv => whnf)
      | (refine .inl ⟨wrap64 (by omega), ?_⟩; conv => whnf)))
    · have e : roomE H (x.rooms.getD k default) = 10 := by unfold roomE; rw [if_pos h]
      exact PSub.int (by rw [firstE_at (k := k) (by omega) (by rw [e]; decide) hinv, e])
    · rename_i h1
      have e : roomE H (x.rooms.getD k default) = 8 := by unfold roomE; rw [if_neg (by rw [h1]; decide), if_pos h]
      exact PSub.int (by rw [firstE_at (k := k) (by omega) (by rw [e]; decide) hinv, e])
    · rename_i h1
      have e : roomE H (x.rooms.getD k default) = 0 := by unfold roomE; rw [if_neg (by rw [h1]; decide), if_neg (by rw [h]; decide)]
      refine ⟨k + 1, [], ⟨by omega, ?_⟩, by first | omega | (dsimp only; omega), ?_⟩
      rotate_left
      · (repeat' (first | exact PSub.rfl | exact rfl | exact PSubs.rfl | exact trivial | exact PSub.lit_sb rfl | refine And.intro ?_ ?_))
      intro j hj
      by_cases ej : j = k
      · subst ej; exact e
      · exact hinv j (by omega)
    · exact PSub.int (by rw [firstE_none fun j hj => hinv j (by omega)])
end Go.Abs

namespace Go.Abs
open Go.Proofs
set_option maxRecDepth 10000
theorem anyN_more {n : Nat} {p : Nat → Bool} : anyN (n + 1) p = (anyN n p || p n) := by
  rw [Bool.eq_iff_iff, Bool.or_eq_true, anyN_iff, anyN_iff]
  constructor
  · rintro ⟨i, hi, h⟩
    by_cases e : i = n
    · subst e; exact .inr h
    · exact .inl ⟨i, by omega, h⟩
  · rintro (⟨i, hi, h⟩ | h)
    · exact ⟨i, by omega, h⟩
    · exact ⟨n, by omega, h⟩
theorem ac_r47_Check (H : Hom) (l : List Mem) (hH : smallH H) (hg : goodM l) : AC Tryz.prog 13 [.pv (.agg (cHom H)), .pv (roL 5 cMem l)] [] (.pv (vint (memsE H l))) [] := by
  have hl : l.length ≤ 1048576 := hg.1
  refine AC.of_awp (T := T) T_ok hm Tryz.call13 Tryz.func13 rfl rfl rfl ?_
  conv => whnf
  repeat (any_goals (first
    | (refine ⟨fun (h : (_ : Bool) = true) => ?_, fun (h : (_ : Bool) = false) => ?_⟩ <;> (try simp only [decide_eq_true_eq, decide_eq_false_iff_not, Bool.not_eq_true', Bool.not_eq_false', Int.toNat_natCast, beq_iff_eq, decide_eq_decide, beq_eq_false_iff_ne, ne_eq, reduceCtorEq] at h) <;> (conv => whnf))
    | (refine .inl ⟨_, ac_r22_Check H hH, ?_⟩; conv => whnf)
    | (refine And.intro (by (try simp only [Int.toNat_natCast]); omega) ?_; conv => whnf)
    | (refine And.intro (show (_ : Bool) = true from by kernel_rfl) ?_; conv => whnf)
    | (refine .inl ⟨wrap64 (by omega), ?_⟩; conv => whnf)))
  · exact PSub.int (by rw [memsE, if_pos h])
  · rename_i h0
    exact PSub.int (by rw [memsE, if_neg (fun x => x h0), if_pos (by omega)])
  · rename_i h0 h1
    exact PSub.int (by rw [memsE, if_neg (fun x => x h0), if_pos (by omega)])
  rename_i h0 h1
  rw [memsE, if_neg (fun x => x h0), if_neg (by omega)]
  refine loop_k (ι := Nat) [1, 2] [2] (fun k => k ≤ l.length ∧ (∀ j, j < k → memE H l j = 0)) (fun k => l.length - k) 0 (fun k => [(5, .pv (vbool (anyN k fun i => decide ((l.getD i default).role = 4)))), (6, .pv (vint k))]) (fun k => []) [] ⟨Nat.zero_le _, fun j h => absurd h (by omega)⟩ ?_ (fun k hk => ?_)
  · (repeat' (first | exact PSub.rfl | exact rfl | exact PSubs.rfl | exact trivial | exact PSub.lit_sb rfl | refine And.intro ?_ ?_)); all_goals (skip)
  obtain ⟨hkn, hinv⟩ := hk
  conv => whnf
  refine ⟨fun h => ?_, fun h => ?_⟩ <;> (try simp only [decide_eq_true_eq, decide_eq_false_iff_not, Bool.not_eq_true', Bool.not_eq_false', Int.toNat_natCast, beq_iff_eq, decide_eq_decide, beq_eq_false_iff_ne, ne_eq, reduceCtorEq] at h) <;> (conv => whnf)
  · have hk := hg.2 k (by omega)
    have fin : ∀ n, memE H l k = n → n ≠ 0 → PSub (vint n) (vint (if firstE l.length (memE H l) ≠ 0 then firstE l.length (memE H l) else if (anyN l.length fun i => decide ((l.getD i default).role = 4)) = false then 8 else 0)) := fun n e hn => PSub.int (by rw [firstE_at (k := k) (by omega) (by rw [e]; exact hn) hinv, e, if_pos hn])
    repeat (any_goals (first
      | (refine ⟨fun (h : (_ : Bool) = true) => ?_, fun (h : (_ : Bool) = false) => ?_⟩ <;> (try simp only [decide_eq_true_eq, decide_eq_false_iff_not, Bool.not_eq_true', Bool.not_eq_false', Int.toNat_natCast, beq_iff_eq, decide_eq_decide, beq_eq_false_iff_ne, ne_eq, reduceCtorEq] at h) <;> (conv => whnf))
      | (refine .inl ⟨_, ac_r04_Valid (l.getD k default).name, ?_⟩; conv => whnf)
      | (refine .inl ⟨_, ac_r47_index l k (l.getD k default).name (by omega), ?_⟩; conv => whnf)
      | (refine .inl ⟨_, ac_r47_one H (l.getD k default) hH hk.1 hk.2, ?_⟩; conv => whnf)
      | (refine And.intro (by (try simp only [Int.toNat_natCast]); omega) ?_; conv => whnf)
      | (refine And.intro (show (_ : Bool) = true from by kernel_rfl) ?_; conv => whnf)
      | (refine .inl ⟨wrap64 (by omega), ?_⟩; conv => whnf)))
    · exact fin 10 (by unfold memE; rw [if_pos h]) (by decide)
    · exact fin 9 (by unfold memE; rw [if_neg (by rw [‹validName _ = true›]; decide), if_pos (by rw [← ix_anyM]; exact decide_eq_true h)]) (by decide)
    · rename_i hix
      exact fin _ (memE_own ‹_› (by rw [← ix_anyM]; exact decide_eq_false hix)) h
    · rename_i hix hz
      have hz2 : memE H l k = 0 := by rw [memE_own ‹_› (by rw [← ix_anyM]; exact decide_eq_false hix), hz]
      refine ⟨k + 1, [], ⟨by omega, ?_⟩, by omega, ?_⟩
      · intro j hj
        by_cases ej : j = k
        · subst ej; exact hz2
        · exact hinv j (by omega)
      · dsimp only
        rw [anyN_more, h, Bool.true_or]
        (repeat' (first | exact PSub.rfl | exact rfl | exact PSubs.rfl | exact trivial | exact PSub.lit_sb rfl | refine And.intro ?_ ?_))
    · rename_i hix hz
      have hz2 : memE H l k = 0 := by rw [memE_own ‹_› (by rw [← ix_anyM]; exact decide_eq_false hix), hz]
      refine ⟨k + 1, [], ⟨by omega, ?_⟩, by omega, ?_⟩
      · intro j hj
        by_cases ej : j = k
        · subst ej; exact hz2
        · exact hinv j (by omega)
      · dsimp only
        rw [anyN_more, h, Bool.false_or]
        (repeat' (first | exact PSub.rfl | exact rfl | exact PSubs.rfl | exact trivial | exact PSub.lit_sb rfl | refine And.intro ?_ ?_))
  · have ek : k = l.length := by omega
    subst ek
    repeat (any_goals (first
      | (refine ⟨fun (h : (_ : Bool) = true) => ?_, fun (h : (_ : Bool) = false) => ?_⟩ <;> (try simp only [decide_eq_true_eq, decide_eq_false_iff_not, Bool.not_eq_true', Bool.not_eq_false', Int.toNat_natCast, beq_iff_eq, decide_eq_decide, beq_eq_false_iff_ne, ne_eq, reduceCtorEq] at h) <;> (conv => whnf))
      | (refine And.intro (by (try simp only [Int.toNat_natCast]); omega) ?_; conv => whnf)
      | (refine And.intro (show (_ : Bool) = true from by kernel_rfl) ?_; conv => whnf)
      | (refine .inl ⟨wrap64 (by omega), ?_⟩; conv => whnf)))
    · exact PSub.int (by rw [firstE_none fun j hj => hinv j (by omega), if_neg (by decide), if_pos h])
    · exact PSub.int (by rw [firstE_none fun j hj => hinv j (by omega), if_neg (by decide), if_neg (by rw [h]; decide)])
end Go.Abs

namespace Go.Abs
open Go.Proofs
set_option maxRecDepth 10000
theorem ac_law47_among (l : List ByteArray) (s : ByteArray) (hl : l.length ≤ 8388608) : AC Tryz.prog 31 [.pv (roL 1 cstr l), .pv (vstr s)] [] (.pv (vbool (memN l l.length s))) [] := by
  refine AC.of_awp (T := T) T_ok hm Tryz.call31 Tryz.func31 rfl rfl rfl ?_
  conv => whnf
  refine loop_k (ι := Nat) [0, 1] [] (fun k => k ≤ l.length ∧ (∀ j, j < k → l.getD j default ≠ s)) (fun k => l.length - k) 0 (fun k => [(5, .pv (vint k))]) (fun _ => []) [] ⟨Nat.zero_le _, fun j h => absurd h (by omega)⟩ ?_ (fun k hk => ?_)
  · (repeat' (first | exact PSub.rfl | exact rfl | exact PSubs.rfl | exact trivial | exact PSub.lit_sb rfl | refine And.intro ?_ ?_))
  obtain ⟨hkn, hinv⟩ := hk
  conv => whnf
  repeat (any_goals (first
    | (refine ⟨fun (h : (_ : Bool) = true) => ?_, fun (h : (_ : Bool) = false) => ?_⟩ <;> (try simp only [decide_eq_true_eq, decide_eq_false_iff_not, Bool.not_eq_true', Bool.not_eq_false', Int.toNat_natCast, beq_iff_eq, decide_eq_decide, beq_eq_false_iff_ne, ne_eq, reduceCtorEq] at h) <;> (conv => whnf))
    | (refine And.intro (by (try simp only [Int.toNat_natCast]); omega) ?_; conv => whnf)
    | (refine And.intro (show (_ : Bool) = true from by kernel_rfl) ?_; conv => whnf)
    | (refine .inl ⟨wrap64 (by omega), ?_⟩; conv => whnf)))
  · exact PSub.lit_sb (by rw [memN_true (k := k) (by omega) (by simpa [-List.getD_eq_getElem?_getD] using h)])
  · refine ⟨k + 1, [], ⟨by omega, ?_⟩, by first | omega | (dsimp only; omega), ?_⟩
    rotate_left
    · (repeat' (first | exact PSub.rfl | exact rfl | exact PSubs.rfl | exact trivial | exact PSub.lit_sb rfl | refine And.intro ?_ ?_))
    intro j hj
    by_cases e : j = k
    · subst e; simpa [-List.getD_eq_getElem?_getD] using h
    · exact hinv j (by omega)
  · exact PSub.lit_sb (by rw [memN_false fun j hj => hinv j (by omega)])
end Go.Abs

namespace Go.Abs
open Go.Proofs Go.RowKit
set_option maxRecDepth 10000
def cMeC (c : MeC) : List PV := [vstr c.name, vint c.minute] ++ cRqs c.q ++ [vbool c.home]
section
variable {H : Type} {enc : TypeId × Value → H} {w : World} {bulk : DataW H → Nat}
theorem op_Request (hB : BulkOk bulk) : Opens enc Tryz.prog w bulk BB 36 cRqs (fun _ => True) :=
  (Opens.struct hB Tryz.underlying36 (by kernel_rfl) (.cons (size := 1) rfl (by kernel_rfl) op_int (.cons (size := 1) rfl (by kernel_rfl) op_int (.cons (size := 3) rfl (by kernel_rfl) (op_Key hB) (.cons (size := 1) rfl (by kernel_rfl) (op_string hB) (.cons (size := 3) rfl (by kernel_rfl) (op_Value hB) (.cons (size := 1) rfl (by kernel_rfl) (op_string hB) .nil))))))).imp
    (fun x => ⟨x.1, x.2.1, x.2.2.1, x.2.2.2.1, x.2.2.2.2.1, x.2.2.2.2.2.1⟩) (fun _ => rfl) (fun _ _ => trivial)
theorem op_law47_Case (hB : BulkOk bulk) : Opens enc Tryz.prog w bulk BB 38 cMeC (fun _ => True) :=
  (Opens.struct hB Tryz.underlying38 (by kernel_rfl) (.cons (size := 1) rfl (by kernel_rfl) (op_string hB) (.cons (size := 1) rfl (by kernel_rfl) op_int (.cons (size := 10) rfl (by kernel_rfl) (op_Request hB) (.cons (size := 1) rfl (by kernel_rfl) op_bool .nil))))).imp
    (fun x => ⟨x.1, x.2.1, x.2.2.1, x.2.2.2.1⟩) (fun _ => rfl) (fun _ _ => trivial)
end
end Go.Abs

namespace Go.Abs
open Go.Proofs
set_option maxRecDepth 10000
theorem ac_index_arrive (l : List Mem) (s : ByteArray) (hl : smallL l) : AC Tryz.prog 56 [.pv (roL 5 cMem l), .fn 57 [.pv (.cell [vstr s])]] [] (.pv (vint (ixI l.length (mbrAt l s)))) [] := by
  refine AC.with_fn (pre := [.pv (roL 5 cMem l)]) (post := []) (ac_slices_IndexFunc_Member l l.length (nameG s) (fun _ => 0) hl) Tryz.call57 rfl rfl rfl ?_
  rintro xs ⟨x, rfl⟩
  exact ac_member_Arrive_1 x s
theorem row_updM {l : List Mem} {k : Nat} {n : Nat} : ∀ j, j < n → PSubs (updAt (updAt (fun j => cMem (l.getD j default)) k 2 [roL 2 cSpn (l.getD k default).spans]) k 3 [roL 1 cstr (l.getD k default).rooms] j) (cMem (l.getD j default)) := by
  intro j _
  by_cases e : j = k
  · subst e; rw [updAt_same, updAt_same]; exact PSubs.rfl
  · rw [updAt_ne e, updAt_ne e]; exact PSubs.rfl
theorem row_updH {l : List Mem} {k : Nat} {b : Bool} {n : Nat} (hk : k < l.length) : ∀ j, j < n → PSubs (updAt (fun j => cMem (l.getD j default)) k 4 [vbool b] j) (cMem ((l.set k { l.getD k default with home := b }).getD j default)) := by
  intro j _
  rw [getD_set]
  by_cases e : j = k
  · subst e; rw [updAt_same, if_pos ⟨rfl, hk⟩]; exact PSubs.rfl
  · rw [updAt_ne e, if_neg (fun x => e x.1)]; exact PSubs.rfl
set_option maxHeartbeats 1000000 in
theorem ac_member_Arrive (l : List Mem) (s : ByteArray) (b : Bool) (hg : goodM l) : AC Tryz.prog 23 [.pv (roL 5 cMem l), .pv (vstr s), .pv (vbool b)] [] (.pv (.tup [roL 5 cMem (arrL l s b), vint (arrE l s)])) [] := by
  have hl : l.length ≤ 1048576 := hg.1
  refine AC.of_awp (T := T) T_ok hm Tryz.call23 Tryz.func23 rfl rfl rfl ?_
  conv => whnf
  refine .inl ⟨_, ac_index_arrive l s hg.1, ?_⟩
  conv => whnf
  refine ⟨fun h => ?_, fun h => ?_⟩ <;> (try simp only [decide_eq_true_eq, decide_eq_false_iff_not, Bool.not_eq_true', Bool.not_eq_false', Int.toNat_natCast, beq_iff_eq, decide_eq_decide, beq_eq_false_iff_ne, ne_eq, reduceCtorEq] at h) <;> (conv => whnf)
  · have h1 : ¬ mbrAt l s < l.length := fun hh => by rw [ixI, if_pos hh] at h; omega
    rw [arrL, arrE, if_neg h1, if_neg h1]
    refine ⟨?_, ?_⟩ <;> (conv => whnf)
    · exact PSub.nil_ro _ _
    · exact .rfl
  have h1 : mbrAt l s < l.length := (ixI_nonneg (k := mbrAt l s) (by omega)).1
  have h2 : ixI l.length (mbrAt l s) = (mbrAt l s : Int) := by rw [ixI, if_pos h1]
  rw [h2]
  rw [arrL, arrE, if_pos h1, if_pos h1]
  clear h h2
  generalize mbrAt l s = p at *
  refine .inr (.inl ⟨_, _, _, ac_slices_Clone_Member l.length (fun i => cMem (l.getD i default)) hl, ?_⟩)
  conv => whnf
  refine loop_k (ι := Nat) [2, 8, 9, 19, 20] [] (fun k => k ≤ l.length ∧ True) (fun k => l.length - k) 0 (fun k => [(21, .pv (vint k))]) (fun k => [(18, rowL 5 cMem l)]) [] ⟨Nat.zero_le _, trivial⟩ ?_ (fun k hk => ?_)
  · (repeat' (first | exact PSub.rfl | exact rfl | exact PSubs.rfl | exact trivial | exact PSub.lit_sb rfl | refine And.intro ?_ ?_)); all_goals ((intro i hi; exact PSubs.rfl))
  obtain ⟨hkn, hinv⟩ := hk
  conv => whnf
  refine ⟨fun h => ?_, fun h => ?_⟩ <;> (try simp only [decide_eq_true_eq, decide_eq_false_iff_not, Bool.not_eq_true', Bool.not_eq_false', Int.toNat_natCast, beq_iff_eq, decide_eq_decide, beq_eq_false_iff_ne, ne_eq, reduceCtorEq] at h) <;> (conv => whnf)
  · have hk := hg.2 k (by omega)
    have c1 := ac_slices_Clone_Span_p (l.getD k default).spans.length (fun i => cSpn ((l.getD k default).spans.getD i default)) hk.1
    have c2 := ac_slices_Clone_string_p (l.getD k default).rooms.length (fun i => cstr ((l.getD k default).rooms.getD i default)) hk.2
    repeat (any_goals (first
      | (refine ⟨fun (h : (_ : Bool) = true) => ?_, fun (h : (_ : Bool) = false) => ?_⟩ <;> (try simp only [decide_eq_true_eq, decide_eq_false_iff_not, Bool.not_eq_true', Bool.not_eq_false', Int.toNat_natCast, beq_iff_eq, decide_eq_decide, beq_eq_false_iff_ne, ne_eq, reduceCtorEq] at h) <;> (conv => whnf))
      | (refine .inl ⟨_, c1, ?_⟩; conv => whnf)
      | (refine .inl ⟨_, c2, ?_⟩; conv => whnf)
      | (refine And.intro (by (try simp only [Int.toNat_natCast]); omega) ?_; conv => whnf)
      | (refine And.intro (show (_ : Bool) = true from by kernel_rfl) ?_; conv => whnf)
      | (refine .inl ⟨wrap64 (by omega), ?_⟩; conv => whnf)))
    refine ⟨k + 1, [], ⟨by omega, trivial⟩, by omega, ?_⟩
    (repeat' (first | exact PSub.rfl | exact rfl | exact PSubs.rfl | exact trivial | exact PSub.lit_sb rfl | refine And.intro ?_ ?_))
    all_goals exact row_updM
  · repeat (any_goals (first
      | (refine ⟨fun (h : (_ : Bool) = true) => ?_, fun (h : (_ : Bool) = false) => ?_⟩ <;> (try simp only [decide_eq_true_eq, decide_eq_false_iff_not, Bool.not_eq_true', Bool.not_eq_false', Int.toNat_natCast, beq_iff_eq, decide_eq_decide, beq_eq_false_iff_ne, ne_eq, reduceCtorEq] at h) <;> (conv => whnf))
      | (refine And.intro (by (try simp only [Int.toNat_natCast]); omega) ?_; conv => whnf)
      | (refine And.intro (show (_ : Bool) = true from by kernel_rfl) ?_; conv => whnf)
      | (refine .inl ⟨wrap64 (by omega), ?_⟩; conv => whnf)))
    refine ⟨?_, ?_⟩ <;> (conv => whnf)
    · refine PSub.ro (by simp) (fun i hi => ?_)
      exact row_updH h1 i hi
    · exact .rfl
end Go.Abs

namespace Go.Abs
open Go.Proofs
set_option maxRecDepth 10000
theorem arr_good {l : List Mem} {s : ByteArray} {b : Bool} (hg : goodM l) : goodM (arrL l s b) := by
  by_cases h : mbrAt l s < l.length
  · refine ⟨by show _ ≤ _; rw [arr_len h]; exact hg.1, fun i hi => ?_⟩
    rw [arr_len h] at hi
    rw [arr_get h hi]
    split
    · exact hg.2 i hi
    · exact hg.2 i hi
  · rw [arrL, if_neg h]; exact ⟨Nat.zero_le _, fun i hi => absurd hi (by show ¬ i < 0; omega)⟩
theorem pres_len {l : List Mem} (hg : goodM l) : (presL l).length ≤ 8388608 := by
  have h1 : l.length ≤ 1048576 := hg.1
  have h2 := homeN_length l l.length
  rw [List.take_length] at h2
  have h3 := sortS_length (homeN l)
  unfold presL; omega
end Go.Abs

namespace Go.Abs
open Go.Proofs
set_option maxRecDepth 10000
set_option maxHeartbeats 2000000 in
theorem ac_law47_MemberArrives (H : Hom) (l : List Mem) (c : MeC) (hH : smallH H) (hg : goodM l) : AC Tryz.prog 9 [.pv (.agg (cHom H)), .pv (roL 5 cMem l), .pv (.agg (cMeC c))] [] (.pv (vbool true)) [] := by
  have hl : l.length ≤ 1048576 := hg.1
  refine AC.of_awp (T := T) T_ok hm Tryz.call9 Tryz.func9 rfl rfl rfl ?_
  conv => whnf
  repeat (any_goals (first
    | (refine ⟨fun (h : (_ : Bool) = true) => ?_, fun (h : (_ : Bool) = false) => ?_⟩ <;> (try simp only [decide_eq_true_eq, decide_eq_false_iff_not, Bool.not_eq_true', Bool.not_eq_false', Int.toNat_natCast, beq_iff_eq, decide_eq_decide, beq_eq_false_iff_ne, ne_eq, reduceCtorEq] at h) <;> (conv => whnf))
    | (refine .inl ⟨_, ac_law47_large H l hH hg, ?_⟩; conv => whnf)
    | (refine .inl ⟨_, ac_law47_awake, ?_⟩; conv => whnf)
    | (refine .inl ⟨_, ac_r47_Check H l hH hg, ?_⟩; conv => whnf)
    | (refine And.intro (by (try simp only [Int.toNat_natCast]); omega) ?_; conv => whnf)
    | (refine And.intro (show (_ : Bool) = true from by kernel_rfl) ?_; conv => whnf)
    | (refine .inl ⟨wrap64 (by omega), ?_⟩; conv => whnf)))
  all_goals first
    | exact .rfl
    | skip
  have h0 : memsE H l = 0 := by simpa using h
  clear h
  have hok := mems_ok.1 h0
  by_cases h1 : mbrAt l c.name < l.length
  · have e1 : arrE l c.name = 0 := if_pos h1
    have ca := ac_member_Arrive l c.name c.home hg
    rw [e1] at ca
    have ga := arr_good (s := c.name) (b := c.home) hg
    have la := arr_len (b := c.home) h1
    have c1 := ac_member_Check H (arrL l c.name c.home) hH ga
    rw [mems_ok.2 (arr_ok h1 hok)] at c1
    have c2 := ac_member_Rights H (arrL l c.name c.home) c.name c.minute hH ga
    rw [arr_rights hok h1] at c2
    have hr : (rightsL H l c.name c.minute).length ≤ 4194304 := by
      have h1 := homE_few hok.hom
      unfold rightsL
      split
      · refine Nat.le_trans (sortK_length _) ?_
        have h2 := pickTo_length (rightB H (mbrOf l c.name) c.minute) H H.devices.length
        unfold pickTo at h2
        rw [List.take_length] at h2
        unfold rightA
        omega
      · exact Nat.zero_le _
    have hp1 := pres_len hg
    have hp2 := pres_len ga
    have ham := fun i (hi : i < l.length) => arr_among (b := c.home) hok h1 hi
    repeat (any_goals (first
      | (refine ⟨fun (h : (_ : Bool) = true) => ?_, fun (h : (_ : Bool) = false) => ?_⟩ <;> (try simp only [decide_eq_true_eq, decide_eq_false_iff_not, Bool.not_eq_true', Bool.not_eq_false', Int.toNat_natCast, beq_iff_eq, decide_eq_decide, beq_eq_false_iff_ne, ne_eq, reduceCtorEq] at h) <;> (conv => whnf))
      | (refine .inl ⟨_, ca, ?_⟩; conv => whnf)
      | (refine .inl ⟨_, ac_member_Present l hg.1, ?_⟩; conv => whnf)
      | (refine .inl ⟨_, ac_member_Present (arrL l c.name c.home) ga.1, ?_⟩; conv => whnf)
      | (refine And.intro (by (try simp only [Int.toNat_natCast]); omega) ?_; conv => whnf)
      | (refine And.intro (show (_ : Bool) = true from by kernel_rfl) ?_; conv => whnf)
      | (refine .inl ⟨wrap64 (by omega), ?_⟩; conv => whnf)))
    all_goals try (exact absurd trivial h)
    all_goals try (exact absurd rfl h)
    refine loop_k (ι := Nat) [1, 3, 5, 7, 11, 12] [3, 5] (fun i => i ≤ l.length ∧ True) (fun i => l.length - i) 0 (fun i => [(13, .pv (vint i))]) (fun _ => []) [] ⟨Nat.zero_le _, trivial⟩ ?_ (fun i hk => ?_)
    · (repeat' (first | exact PSub.rfl | exact rfl | exact PSubs.rfl | exact trivial | exact PSub.lit_sb rfl | refine And.intro ?_ ?_))
    obtain ⟨hkn, hinv⟩ := hk
    conv => whnf
    refine ⟨fun h => ?_, fun h => ?_⟩ <;> (try simp only [decide_eq_true_eq, decide_eq_false_iff_not, Bool.not_eq_true', Bool.not_eq_false', Int.toNat_natCast, beq_iff_eq, decide_eq_decide, beq_eq_false_iff_ne, ne_eq, reduceCtorEq] at h) <;> (conv => whnf)
    · have hi : i < l.length := by omega
      have ham := ham i hi
      have k1 := ac_law47_among (presL l) (l.getD i default).name hp1
      have k2 := ac_law47_among (presL (arrL l c.name c.home)) (l.getD i default).name hp2
      rw [ham] at k2
      by_cases hn : (l.getD i default).name = c.name
      · rw [if_pos hn] at k2
        repeat (any_goals (first
          | (refine ⟨fun (h : (_ : Bool) = true) => ?_, fun (h : (_ : Bool) = false) => ?_⟩ <;> (try simp only [decide_eq_true_eq, decide_eq_false_iff_not, Bool.not_eq_true', Bool.not_eq_false', Int.toNat_natCast, beq_iff_eq, decide_eq_decide, beq_eq_false_iff_ne, ne_eq, reduceCtorEq] at h) <;> (conv => whnf))
          | (refine .inl ⟨_, k1, ?_⟩; conv => whnf)
          | (refine .inl ⟨_, k2, ?_⟩; conv => whnf)
          | (refine And.intro (by (try simp only [Int.toNat_natCast]); omega) ?_; conv => whnf)
          | (refine And.intro (show (_ : Bool) = true from by kernel_rfl) ?_; conv => whnf)
          | (refine .inl ⟨wrap64 (by omega), ?_⟩; conv => whnf)))
        all_goals try (exact absurd hn h)
        all_goals try (exact absurd rfl h)
        all_goals try (exfalso; simp at h; done)
        all_goals try contradiction
        all_goals
          refine ⟨i + 1, [], ⟨by omega, trivial⟩, by omega, ?_⟩
          (repeat' (first | exact PSub.rfl | exact rfl | exact PSubs.rfl | exact trivial | exact PSub.lit_sb rfl | refine And.intro ?_ ?_))
      · rw [if_neg hn] at k2
        repeat (any_goals (first
          | (refine ⟨fun (h : (_ : Bool) = true) => ?_, fun (h : (_ : Bool) = false) => ?_⟩ <;> (try simp only [decide_eq_true_eq, decide_eq_false_iff_not, Bool.not_eq_true', Bool.not_eq_false', Int.toNat_natCast, beq_iff_eq, decide_eq_decide, beq_eq_false_iff_ne, ne_eq, reduceCtorEq] at h) <;> (conv => whnf))
          | (refine .inl ⟨_, k1, ?_⟩; conv => whnf)
          | (refine .inl ⟨_, k2, ?_⟩; conv => whnf)
          | (refine And.intro (by (try simp only [Int.toNat_natCast]); omega) ?_; conv => whnf)
          | (refine And.intro (show (_ : Bool) = true from by kernel_rfl) ?_; conv => whnf)
          | (refine .inl ⟨wrap64 (by omega), ?_⟩; conv => whnf)))
        all_goals try (exact absurd h hn)
        all_goals try (exact absurd rfl h)
        all_goals try (exfalso; simp at h; done)
        all_goals try contradiction
        all_goals
          refine ⟨i + 1, [], ⟨by omega, trivial⟩, by omega, ?_⟩
          (repeat' (first | exact PSub.rfl | exact rfl | exact PSubs.rfl | exact trivial | exact PSub.lit_sb rfl | refine And.intro ?_ ?_))
    · repeat (any_goals (first
        | (refine ⟨fun (h : (_ : Bool) = true) => ?_, fun (h : (_ : Bool) = false) => ?_⟩ <;> (try simp only [decide_eq_true_eq, decide_eq_false_iff_not, Bool.not_eq_true', Bool.not_eq_false', Int.toNat_natCast, beq_iff_eq, decide_eq_decide, beq_eq_false_iff_ne, ne_eq, reduceCtorEq] at h) <;> (conv => whnf))
        | (refine .inl ⟨_, c1, ?_⟩; conv => whnf)
        | (refine .inl ⟨_, ac_member_Rights H l c.name c.minute hH hg, ?_⟩; conv => whnf)
        | (refine .inl ⟨_, c2, ?_⟩; conv => whnf)
        | (refine .inl ⟨_, ac_r22_SameKeys (rightsL H l c.name c.minute) (rightsL H l c.name c.minute) hr, ?_⟩; conv => whnf)
        | (refine .inl ⟨_, ac_law47_awake, ?_⟩; conv => whnf)
        | (refine And.intro (by (try simp only [Int.toNat_natCast]); omega) ?_; conv => whnf)
        | (refine And.intro (show (_ : Bool) = true from by kernel_rfl) ?_; conv => whnf)
        | (refine .inl ⟨wrap64 (by omega), ?_⟩; conv => whnf)))
      all_goals first
        | exact .rfl
        | exact absurd trivial h
        | exact absurd rfl h
        | (exfalso; simp at h; done)
        | (exfalso; omega)
        | trace_state
  · have e1 : arrE l c.name = 8 := if_neg h1
    have ea : arrL l c.name c.home = [] := if_neg h1
    have ca := ac_member_Arrive l c.name c.home hg
    rw [e1, ea] at ca
    have cf := ac_member_Find l c.name hg
    rw [decide_eq_false h1] at cf
    repeat (any_goals (first
      | (refine ⟨fun (h : (_ : Bool) = true) => ?_, fun (h : (_ : Bool) = false) => ?_⟩ <;> (try simp only [decide_eq_true_eq, decide_eq_false_iff_not, Bool.not_eq_true', Bool.not_eq_false', Int.toNat_natCast, beq_iff_eq, decide_eq_decide, beq_eq_false_iff_ne, ne_eq, reduceCtorEq] at h) <;> (conv => whnf))
      | (refine .inl ⟨_, ca, ?_⟩; conv => whnf)
      | (refine .inl ⟨_, cf, ?_⟩; conv => whnf)
      | (refine .inl ⟨_, ac_law47_awake, ?_⟩; conv => whnf)
      | (refine And.intro (by (try simp only [Int.toNat_natCast]); omega) ?_; conv => whnf)
      | (refine And.intro (show (_ : Bool) = true from by kernel_rfl) ?_; conv => whnf)
      | (refine .inl ⟨wrap64 (by omega), ?_⟩; conv => whnf)))
    all_goals first
      | exact .rfl
      | exact absurd trivial h
      | exact absurd rfl h
      | (exfalso; simp at h; done)
      | (exfalso; omega)
      | trace_state
end Go.Abs
