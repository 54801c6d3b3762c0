/- YtajnhnloihlnbaaGreatY00: walks and contracts. -/
import Derived.Test.YtajnhnloihlnbaaGreatX07
import Derived.ChangeArms
import Derived.ChangeOld
import Derived.DataReads
import Derived.Laws.RangeString
import Derived.Shelf.Spec.SlicesInsertGrow
import Derived.Laws.CopyRow

set_option linter.unusedVariables false
set_option linter.unusedSimpArgs false
set_option linter.unusedSectionVars false

namespace Go.Abs
open Go.RowKit
section
variable {H : Type} (enc : TypeId × Value → H) (P : Program) (w : World) (bulk : DataW H → Nat) (B : Nat)
end
section
variable {H : Type} {enc : TypeId × Value → H} {P : Program} {w : World} {bulk : DataW H → Nat} {B : Nat}
theorem Opens.arg_cell {t : TypeId} {α : Type} {cs : α → PV} {good : α → Prop} {v : Value} {d : DataW H} {ps : List MemPlace} (h : Opens enc P w bulk B t (fun a => [cs a]) good) (hc : v.cells.toList = [v])
    (hd : DataW.Trod enc P w 0 (fun _ => true) true t v d ps) (hb : bulk d ≤ B) : ∃ a : α, good a ∧ PR w (fun _ => False) (cs a) v := by
  obtain ⟨n, hn⟩ := hd
  rw [hc] at hn
  obtain ⟨a, ha, hr⟩ := h _ _ _ _ hn hb
  exact ⟨a, ha, by simpa using hr.pr 0 _ rfl⟩
end
end Go.Abs

namespace Go.Abs
open Go.RowKit
theorem cells_slice {P : Program} {w : World} {r : Go.Reach} {base : Nat} {t e : TypeId} {v : Value} (ht : P.underlying t = some (.slice e)) (h : Value.okWide P w r base t v) : v.cells.toList = [v] := by
  cases v <;> first | rfl | simp [Value.okWide, ht, Cell.okWide, Cell.ok] at h
theorem cells_int {P : Program} {w : World} {r : Go.Reach} {base : Nat} {t : TypeId} {k : IntKind} {v : Value} (ht : P.underlying t = some (.int k)) (h : Value.okWide P w r base t v) : v.cells.toList = [v] := by
  cases v <;> first | rfl | simp [Value.okWide, ht, Cell.okWide, Cell.ok] at h
end Go.Abs

namespace Go.Abs
open Go.Proofs
theorem ac_r04_Index (l : List ByteArray) (x : ByteArray) (hl : l.length ≤ 1048576) : AC Tryz.prog 153 [.pv (roL 1 cstr l), .pv (vstr x)] [] (.pv (vint (idxOf l x))) [] := by
  refine AC.of_awp (T := T) T_ok hm Tryz.call153 Tryz.func153 rfl rfl rfl ?_
  conv => whnf
  refine ⟨Nat, fun k => k ≤ l.length ∧ ∀ j, j < k → l.getD j default ≠ x, fun k => ⟨[(0, .pv (roL 1 cstr l)), (1, .pv (vstr x)), (5, .pv (vint k))], []⟩, fun k => l.length - k, 0, [], ⟨Nat.zero_le _, fun j h => absurd h (by omega)⟩, ⟨.rfl, .rfl, .rfl⟩, fun k hk => ?_⟩
  conv => whnf
  refine ⟨fun h => ?_, fun h => ?_⟩
  · simp only [decide_eq_true_eq] at h
    refine ⟨by omega, ?_⟩
    conv => whnf
    refine ⟨fun h2 => ?_, fun h2 => ?_⟩
    · conv => whnf
      simp only [decide_eq_true_eq] at h2
      exact PSub.int (by rw [idxOf_some (k := k) (by omega) (by simpa using h2) hk.2])
    · conv => whnf
      refine .inl ⟨wrap64 (by omega), ?_⟩
      conv => whnf
      simp only [decide_eq_false_iff_not] at h2
      refine ⟨k + 1, [], ⟨by omega, fun j hj => ?_⟩, by dsimp only; omega, .rfl, .rfl, .rfl⟩
      by_cases e : j = k
      · subst e; simpa using h2
      · exact hk.2 j (by omega)
  · conv => whnf
    simp only [decide_eq_false_iff_not] at h
    exact PSub.int (by rw [idxOf_none fun j hj => hk.2 j (by omega)])
theorem ac_r04_Valid (s : ByteArray) : AC Tryz.prog 119 [.pv (vstr s)] [] (.pv (vbool (validName s))) [] := by
  refine AC.of_awp (T := T) T_ok hm Tryz.call119 Tryz.func119 rfl rfl rfl ?_
  conv => whnf
  refine ⟨fun h => ?_, fun h => ?_⟩
  · conv => whnf
    simp only [decide_eq_true_eq] at h
    exact PSub.lit_sb (by symm; simp [validName]; omega)
  conv => whnf
  refine ⟨fun h2 => ?_, fun h2 => ?_⟩
  · conv => whnf
    simp only [decide_eq_true_eq] at h2
    exact PSub.lit_sb (by symm; simp [validName]; omega)
  conv => whnf
  simp only [decide_eq_false_iff_not] at h h2
  refine ⟨Nat, fun k => k ≤ s.size ∧ ∀ j, j < k → letterOk j (byteAt s j) = true, fun k => ⟨[(0, .pv (vstr s)), (3, .pv (vint k))], []⟩, fun k => s.size - k, 0, [], ⟨Nat.zero_le _, fun j h => absurd h (by omega)⟩, ⟨.rfl, .rfl⟩, fun k hk => ?_⟩
  conv => whnf
  refine ⟨fun h3 => ?_, fun h3 => ?_⟩
  · conv => whnf
    simp only [decide_eq_true_eq] at h3
    refine ⟨by omega, ?_⟩
    conv => whnf
    have hb : ∀ j, j < k → letterOk j (byteAt s j) = true := hk.2
    have hkl := hk.1
    clear hk
    have hkn : (k : Int).toNat = k := rfl
    simp only [hkn]
    iterate 9 (all_goals first | (refine ⟨fun h => ?_, fun h => ?_⟩ <;> (conv => whnf)) | skip)
    all_goals simp only [decide_eq_true_eq, decide_eq_false_iff_not, Bool.not_eq_true', Bool.not_eq_false', Int.toNat_natCast] at *
    all_goals first
      | contradiction
      | exact PSub.lit_sb (validName_bad (k := k) (by omega) (by omega))
      | (refine .inl ⟨wrap64 (by omega), ?_⟩
         conv => whnf
         refine ⟨k + 1, [], ⟨by omega, fun j hj => ?_⟩, by omega, .rfl, .rfl⟩
         by_cases e : j = k
         · subst e; exact letterOk_iff.2 (by omega)
         · exact hb j (by omega))
  · conv => whnf
    simp only [decide_eq_false_iff_not] at h3
    exact PSub.lit_sb (by symm; rw [validName_iff]; exact ⟨by omega, by omega, fun i hi => hk.2 i (by omega)⟩)
end Go.Abs

namespace Go.Abs
open Go.Proofs
set_option maxRecDepth 10000
theorem ac_r20_Check (v : Val) : AC Tryz.prog 140 [.pv (.agg (cVal v))] [] (.pv (vint (valE v))) [] := by
  refine AC.of_awp (T := T) T_ok hm Tryz.call140 Tryz.func140 rfl rfl rfl ?_
  conv => whnf
  iterate 14 (all_goals first | (refine ⟨fun h => ?_, fun h => ?_⟩ <;> (conv => whnf)) | skip)
  all_goals simp only [decide_eq_true_eq, decide_eq_false_iff_not, Bool.not_eq_true', Bool.not_eq_false'] at *
  all_goals first
    | contradiction
    | exact PSub.int (by simp only [valE, inRange, Bool.and_eq_false_iff, decide_eq_false_iff_not]; (repeat' split) <;> first | rfl | omega | (simp_all; done) | (simp_all; omega))
    | trace_state
theorem ac_r20_member (l : List ByteArray) (n : Nat) (x : ByteArray) (hl : n ≤ 1048576) : AC Tryz.prog 169 [.pv (.ro 1 n fun i => cstr (l.getD i default)), .pv (vstr x)] [] (.pv (vbool (memN l n x))) [] := by
  refine AC.of_awp (T := T) T_ok hm Tryz.call169 Tryz.func169 rfl rfl rfl ?_
  conv => whnf
  refine ⟨Nat, fun k => k ≤ n ∧ ∀ j, j < k → l.getD j default ≠ x, fun k => ⟨[(0, .pv (.ro 1 n fun i => cstr (l.getD i default))), (1, .pv (vstr x)), (5, .pv (vint k))], []⟩, fun k => n - k, 0, [], ⟨Nat.zero_le _, fun j h => absurd h (by omega)⟩, ⟨.rfl, .rfl, .rfl⟩, fun k hk => ?_⟩
  conv => whnf
  refine ⟨fun h => ?_, fun h => ?_⟩
  · simp only [decide_eq_true_eq] at h
    refine ⟨by omega, ?_⟩
    conv => whnf
    refine ⟨fun h2 => ?_, fun h2 => ?_⟩
    · conv => whnf
      simp only [decide_eq_true_eq] at h2
      exact PSub.lit_sb (memN_true (k := k) (by omega) (by simpa using h2)).symm
    · conv => whnf
      refine .inl ⟨wrap64 (by omega), ?_⟩
      conv => whnf
      simp only [decide_eq_false_iff_not] at h2
      refine ⟨k + 1, [], ⟨by omega, fun j hj => ?_⟩, by dsimp only; omega, .rfl, .rfl, .rfl⟩
      by_cases e : j = k
      · subst e; simpa using h2
      · exact hk.2 j (by omega)
  · conv => whnf
    simp only [decide_eq_false_iff_not] at h
    exact PSub.lit_sb (memN_false fun j hj => hk.2 j (by omega)).symm
theorem ac_r20_Def (a : Attr) (hl : a.enum.length ≤ 1048576) : AC Tryz.prog 139 [.pv (.agg (cAttr a))] [] (.pv (vint (defE a))) [] := by
  refine AC.of_awp (T := T) T_ok hm Tryz.call139 Tryz.func139 rfl rfl rfl ?_
  conv => whnf
  refine .inl ⟨_, ac_r04_Valid _, ?_⟩
  conv => whnf
  refine ⟨fun h => ?_, fun h => ?_⟩
  · conv => whnf
    simp only [Bool.not_eq_true'] at h
    exact PSub.int (by rw [defE, if_pos h])
  conv => whnf
  simp only [Bool.not_eq_false'] at h
  have h : ¬ validName a.name = false := by rw [h]; decide
  have hk : a.kind < 1 ∨ 4 < a.kind → PSub (ofConst (.int .i64 7)) (vint (defE a)) := fun hh => PSub.int (by rw [defE, if_neg h, if_pos hh])
  refine ⟨fun h2 => ?_, fun h2 => ?_⟩
  · conv => whnf
    simp only [decide_eq_true_eq] at h2
    exact hk (.inl h2)
  conv => whnf
  refine ⟨fun h3 => ?_, fun h3 => ?_⟩
  · conv => whnf
    simp only [decide_eq_true_eq] at h3
    exact hk (.inr h3)
  conv => whnf
  simp only [decide_eq_false_iff_not] at h2 h3
  have hk2 : ¬ (a.kind < 1 ∨ 4 < a.kind) := by omega
  have tail : ∀ (hq : ¬ (a.kind = 2 ∧ (inRange a.min = false ∨ inRange a.max = false ∨ a.max < a.min))) (hq2 : ¬ (a.kind ≠ 2 ∧ (a.min ≠ 0 ∨ a.max ≠ 0))), defE a = if a.kind = 3 then membersE a.enum else if 0 < a.enum.length then 4 else 0 := fun hq hq2 => by
    rw [defE, if_neg h, if_neg hk2, if_neg hq, if_neg hq2]
  have hin : ∀ n, inRange n = false ↔ ¬ (-1099511627776 ≤ n ∧ n ≤ 1099511627776) := fun n => by
    rw [← Bool.not_eq_true, inRange, Bool.and_eq_true, decide_eq_true_eq, decide_eq_true_eq]
  refine ⟨fun h4 => ?_, fun h4 => ?_⟩
  · conv => whnf
    simp only [decide_eq_true_eq] at h4
    have bad : (a.min < -1099511627776 ∨ 1099511627776 < a.max ∨ a.max < a.min) → PSub (ofConst (.int .i64 2)) (vint (defE a)) := fun hh => PSub.int (by rw [defE, if_neg h, if_neg hk2, if_pos ⟨h4, by rw [hin, hin]; omega⟩])
    refine ⟨fun h5 => ?_, fun h5 => ?_⟩
    · conv => whnf
      simp only [decide_eq_true_eq] at h5
      exact bad (.inl h5)
    conv => whnf
    refine ⟨fun h6 => ?_, fun h6 => ?_⟩
    · conv => whnf
      simp only [decide_eq_true_eq] at h6
      exact bad (.inr (.inl h6))
    conv => whnf
    refine ⟨fun h7 => ?_, fun h7 => ?_⟩
    · conv => whnf
      simp only [decide_eq_true_eq] at h7
      exact bad (.inr (.inr h7))
    conv => whnf
    simp only [decide_eq_false_iff_not] at h5 h6 h7
    have hd := tail (by rw [hin, hin]; omega) (by omega)
    rw [if_neg (by omega)] at hd
    rw [hd]
    refine ⟨fun h8 => ?_, fun h8 => ?_⟩
    · conv => whnf
      refine ⟨fun h9 => ?_, fun h9 => ?_⟩
      · conv => whnf
        simp only [decide_eq_true_eq] at h9
        exact PSub.int (by rw [if_pos (by omega)])
      · conv => whnf
        simp only [decide_eq_false_iff_not] at h9
        exact PSub.int (by rw [if_neg (by omega)])
    · simp only [Bool.not_eq_false', decide_eq_true_eq] at h8
      omega
  · conv => whnf
    simp only [decide_eq_false_iff_not] at h4
    have bad : (a.min ≠ 0 ∨ a.max ≠ 0) → PSub (ofConst (.int .i64 2)) (vint (defE a)) := fun hh => PSub.int (by rw [defE, if_neg h, if_neg hk2, if_neg (fun x => h4 x.1), if_pos ⟨h4, hh⟩])
    refine ⟨fun h5 => ?_, fun h5 => ?_⟩
    · conv => whnf
      simp only [Bool.not_eq_true', decide_eq_false_iff_not] at h5
      exact bad (.inl h5)
    conv => whnf
    refine ⟨fun h6 => ?_, fun h6 => ?_⟩
    · conv => whnf
      simp only [Bool.not_eq_true', decide_eq_false_iff_not] at h6
      exact bad (.inr h6)
    conv => whnf
    simp only [Bool.not_eq_false', decide_eq_true_eq] at h5 h6
    have hd := tail (fun x => h4 x.1) (by omega)
    rw [hd]
    refine ⟨fun h8 => ?_, fun h8 => ?_⟩
    · conv => whnf
      simp only [Bool.not_eq_true', decide_eq_false_iff_not] at h8
      rw [if_neg h8]
      refine ⟨fun h9 => ?_, fun h9 => ?_⟩
      · conv => whnf
        simp only [decide_eq_true_eq] at h9
        exact PSub.int (by rw [if_pos (by omega)])
      · conv => whnf
        simp only [decide_eq_false_iff_not] at h9
        exact PSub.int (by rw [if_neg (by omega)])
    conv => whnf
    simp only [Bool.not_eq_false', decide_eq_true_eq] at h8
    rw [if_pos h8]
    refine ⟨fun h => ?_, fun h => ?_⟩
    · conv => whnf
      simp only [decide_eq_true_eq] at h
      exact PSub.int (by rw [membersE, if_pos (by omega)])
    conv => whnf
    refine ⟨fun h9 => ?_, fun h9 => ?_⟩
    · conv => whnf
      simp only [decide_eq_true_eq] at h9
      exact PSub.int (by rw [membersE, if_pos (by omega)])
    conv => whnf
    simp only [decide_eq_false_iff_not] at h h9
    have e0 : membersE a.enum = firstE a.enum.length fun i => if validName (a.enum.getD i default) = false then 10 else if idxOf a.enum (a.enum.getD i default) < i then 9 else 0 := by rw [membersE, if_neg (by omega)]
    rw [e0]
    generalize hf : (fun i => if validName (a.enum.getD i default) = false then (10 : Int) else if idxOf a.enum (a.enum.getD i default) < (i : Int) then 9 else 0) = f
    have hfi : ∀ i, f i = if validName (a.enum.getD i default) = false then (10 : Int) else if idxOf a.enum (a.enum.getD i default) < (i : Int) then 9 else 0 := fun i => by rw [← hf]
    refine ⟨Nat, fun k => k ≤ a.enum.length ∧ ∀ j, j < k → f j = 0, fun k => ⟨[(1, .ptr 1 0), (3, .pv (vint k))], [(1, .pbox (cAttr a))]⟩, fun k => a.enum.length - k, 0, [], ⟨Nat.zero_le _, fun j h => absurd h (by omega)⟩, ⟨⟨PSubs.rfl, trivial⟩, rfl, .rfl⟩, fun k hk => ?_⟩
    conv => whnf
    refine ⟨fun h3 => ?_, fun h3 => ?_⟩
    · conv => whnf
      simp only [decide_eq_true_eq] at h3
      refine ⟨by omega, ?_⟩
      conv => whnf
      refine .inl ⟨_, ac_r04_Valid _, ?_⟩
      conv => whnf
      have hfk := hfi k
      refine ⟨fun h4 => ?_, fun h4 => ?_⟩
      · conv => whnf
        simp only [Bool.not_eq_true', Int.toNat_natCast] at h4
        rw [if_pos h4] at hfk
        exact PSub.int (by rw [firstE_at (k := k) (by omega) (by rw [hfk]; decide) hk.2, hfk])
      · conv => whnf
        simp only [Bool.not_eq_false', Int.toNat_natCast] at h4
        rw [if_neg (by rw [h4]; decide)] at hfk
        refine ⟨by kernel_rfl, ?_⟩
        conv => whnf
        refine ⟨by omega, ?_⟩
        conv => whnf
        refine ⟨by omega, ?_⟩
        conv => whnf
        refine .inl ⟨_, ac_r20_member a.enum k _ (by omega), ?_⟩
        conv => whnf
        refine ⟨by kernel_rfl, ?_⟩
        conv => whnf
        refine ⟨fun h5 => ?_, fun h5 => ?_⟩
        · conv => whnf
          rw [if_pos ((idxOf_lt (by omega)).2 h5)] at hfk
          exact PSub.int (by rw [firstE_at (k := k) (by omega) (by rw [hfk]; decide) hk.2, hfk])
        · conv => whnf
          simp only [Int.toNat_natCast] at h5
          rw [if_neg (fun x => by rw [(idxOf_lt (by omega)).1 x] at h5; cases h5)] at hfk
          refine .inl ⟨wrap64 (by omega), ?_⟩
          conv => whnf
          refine ⟨k + 1, [], ⟨by omega, fun j hj => ?_⟩, by dsimp only; omega, ⟨PSubs.rfl, trivial⟩, rfl, .rfl⟩
          by_cases e : j = k
          · subst e; exact hfk
          · exact hk.2 j (by omega)
    · conv => whnf
      simp only [decide_eq_false_iff_not] at h3
      exact PSub.int (by rw [firstE_none fun j hj => hk.2 j (by omega)])
end Go.Abs

namespace Go.Abs
open Go.Proofs
set_option maxRecDepth 10000
theorem ac_r20_Fits (a : Attr) (v : Val) (hl : a.enum.length ≤ 1048576) : AC Tryz.prog 109 [.pv (.agg (cAttr a)), .pv (.agg (cVal v))] [] (.pv (vint (fitsE a v))) [] := by
  refine AC.of_awp (T := T) T_ok hm Tryz.call109 Tryz.func109 rfl rfl rfl ?_
  conv => whnf
  iterate 14 (all_goals first | (refine ⟨fun h => ?_, fun h => ?_⟩ <;> (conv => whnf)) | (refine .inl ⟨_, ac_r20_Def a hl, ?_⟩; conv => whnf) | (refine .inl ⟨_, ac_r20_Check v, ?_⟩; conv => whnf) | skip)
  all_goals simp only [decide_eq_true_eq, decide_eq_false_iff_not, Bool.not_eq_true', Bool.not_eq_false'] at *
  all_goals first
    | contradiction
    | exact PSub.int (by simp only [fitsE]; (repeat' split) <;> first | rfl | omega | (simp_all; done) | (simp_all; omega))
    | trace_state
end Go.Abs

namespace Go.Abs
open Go.Proofs
set_option maxRecDepth 10000
def placeI (l : List Attr) (s : ByteArray) : Int := if attrAt l s < l.length then (attrAt l s : Int) else -1
theorem ac_r21_Place (c : Clu) (s : ByteArray) (hc : smallK c) : AC Tryz.prog 151 [.pv (.agg (cClu c)), .pv (vstr s)] [] (.pv (vint (placeI c.attrs s))) [] := by
  have hl : c.attrs.length ≤ 1048576 := hc.1
  refine AC.of_awp (T := T) T_ok hm Tryz.call151 Tryz.func151 rfl rfl rfl ?_
  conv => whnf
  refine ⟨Nat, fun k => k ≤ c.attrs.length ∧ ∀ j, j < k → decide ((c.attrs.getD j default).name = s) = false, fun k => ⟨[(1, .pv (vstr s)), (2, .ptr 2 0), (8, .pv (vint c.attrs.length)), (9, .pv (vint k))], [(2, .pbox (cClu c))]⟩, fun k => c.attrs.length - k, 0, [], ⟨Nat.zero_le _, fun j h => absurd h (by omega)⟩, ⟨⟨PSubs.rfl, trivial⟩, .rfl, rfl, .rfl, .rfl⟩, fun k hk => ?_⟩
  conv => whnf
  refine ⟨fun h => ?_, fun h => ?_⟩
  · simp only [decide_eq_true_eq] at h
    conv => whnf
    refine ⟨by omega, ?_⟩
    conv => whnf
    refine ⟨fun h2 => ?_, fun h2 => ?_⟩
    · conv => whnf
      have ea : attrAt c.attrs s = k := firstI_at (by omega) h2 hk.2
      exact PSub.int (by rw [placeI, ea, if_pos (by omega)])
    · conv => whnf
      refine .inl ⟨wrap64 (by omega), ?_⟩
      conv => whnf
      refine ⟨k + 1, [], ⟨by omega, fun j hj => ?_⟩, by dsimp only; omega, ⟨PSubs.rfl, trivial⟩, .rfl, rfl, .rfl, .rfl⟩
      by_cases e : j = k
      · subst e; exact h2
      · exact hk.2 j (by omega)
  · conv => whnf
    simp only [decide_eq_false_iff_not] at h
    have ea : attrAt c.attrs s = c.attrs.length := firstI_none fun j hj => hk.2 j (by omega)
    exact PSub.int (by rw [placeI, ea, if_neg (by omega)])
theorem ac_r21_Attr (c : Clu) (s : ByteArray) (hc : smallK c) : AC Tryz.prog 129 [.pv (.agg (cClu c)), .pv (vstr s)] [] (.pv (.tup [.agg (cAttr (attrOf c.attrs s)), vbool (decide (attrAt c.attrs s < c.attrs.length))])) [] := by
  refine AC.of_awp (T := T) T_ok hm Tryz.call129 Tryz.func129 rfl rfl rfl ?_
  conv => whnf
  refine .inl ⟨_, ac_r21_Place c s hc, ?_⟩
  conv => whnf
  have hp : placeI c.attrs s < 0 ↔ ¬ attrAt c.attrs s < c.attrs.length := by unfold placeI; split <;> omega
  refine ⟨fun h => ?_, fun h => ?_⟩
  · conv => whnf
    simp only [decide_eq_true_eq] at h
    have h := hp.1 h
    refine ⟨?_, ?_⟩
    · conv => whnf
      rw [attrOf, if_neg h]
      exact PSub.agg ⟨.rfl, .rfl, .rfl, .rfl, PSub.nil_ro _ _, PSub.lit_sb rfl, PSub.lit_sb rfl, trivial⟩
    · conv => whnf
      exact PSub.lit_sb (by simp [h])
  · simp only [decide_eq_false_iff_not] at h
    have h : attrAt c.attrs s < c.attrs.length := Classical.not_not.1 fun x => h (hp.2 x)
    have e : placeI c.attrs s = (attrAt c.attrs s : Int) := by rw [placeI, if_pos h]
    rw [e]
    conv => whnf
    refine ⟨by omega, ?_⟩
    conv => whnf
    refine ⟨?_, ?_⟩
    · conv => whnf
      exact PSub.of_eq (by rw [attrOf, if_pos h]; rfl)
    · conv => whnf
      exact PSub.lit_sb (by simp [h])
theorem ac_r21_TooMany (c : Clu) (hc : smallK c) : AC Tryz.prog 150 [.pv (.agg (cClu c))] [] (.pv (vbool (wideB c))) [] := by
  have hl : c.commands.length ≤ 1048576 := hc.2.2.1
  refine AC.of_awp (T := T) T_ok hm Tryz.call150 Tryz.func150 rfl rfl rfl ?_
  conv => whnf
  refine ⟨fun h => ?_, fun h => ?_⟩
  · conv => whnf
    simp only [decide_eq_true_eq] at h
    exact PSub.lit_sb (by simp [wideB, show 12 < c.attrs.length from by omega])
  conv => whnf
  refine ⟨fun h1 => ?_, fun h1 => ?_⟩
  · conv => whnf
    simp only [decide_eq_true_eq] at h1
    exact PSub.lit_sb (by simp [wideB, show 12 < c.commands.length from by omega])
  conv => whnf
  refine ⟨fun h2 => ?_, fun h2 => ?_⟩
  · conv => whnf
    simp only [decide_eq_true_eq] at h2
    exact PSub.lit_sb (by simp [wideB, show 12 < c.events.length from by omega])
  conv => whnf
  simp only [decide_eq_false_iff_not] at h h1 h2
  have e0 : wideB c = manyE c.commands := by simp [wideB, show ¬ 12 < c.attrs.length from by omega, show ¬ 12 < c.commands.length from by omega, show ¬ 12 < c.events.length from by omega]
  rw [e0]
  refine ⟨Nat, fun k => k ≤ c.commands.length ∧ ∀ j, j < k → ¬ 12 < (c.commands.getD j default).effects.length, fun k => ⟨[(1, .ptr 1 0), (22, .pv (vint c.commands.length)), (23, .pv (vint k))], [(1, .pbox (cClu c))]⟩, fun k => c.commands.length - k, 0, [], ⟨Nat.zero_le _, fun j h => absurd h (by omega)⟩, ⟨⟨PSubs.rfl, trivial⟩, rfl, .rfl, .rfl⟩, fun k hk => ?_⟩
  conv => whnf
  refine ⟨fun h => ?_, fun h => ?_⟩
  · simp only [decide_eq_true_eq] at h
    conv => whnf
    refine ⟨by omega, ?_⟩
    conv => whnf
    refine ⟨fun h2 => ?_, fun h2 => ?_⟩
    · conv => whnf
      simp only [decide_eq_true_eq, Int.toNat_natCast] at h2
      exact PSub.lit_sb (manyE_true (k := k) (by omega) (by omega)).symm
    · conv => whnf
      simp only [decide_eq_false_iff_not, Int.toNat_natCast] at h2
      refine .inl ⟨wrap64 (by omega), ?_⟩
      conv => whnf
      refine ⟨k + 1, [], ⟨by omega, fun j hj => ?_⟩, by dsimp only; omega, ⟨PSubs.rfl, trivial⟩, rfl, .rfl, .rfl⟩
      by_cases e : j = k
      · subst e; omega
      · exact hk.2 j (by omega)
  · conv => whnf
    simp only [decide_eq_false_iff_not] at h
    exact PSub.lit_sb (manyE_false fun j hj => hk.2 j (by omega)).symm
end Go.Abs

namespace Go.Abs
open Go.Proofs
set_option maxRecDepth 10000
theorem ac_r21_SameNames (a b : List ByteArray) (ha : a.length ≤ 1048576) : AC Tryz.prog 188 [.pv (roL 1 cstr a), .pv (roL 1 cstr b)] [] (.pv (vbool (decide (a = b)))) [] := by
  refine AC.of_awp (T := T) T_ok hm Tryz.call188 Tryz.func188 rfl rfl rfl ?_
  conv => whnf
  refine ⟨fun h => ?_, fun h => ?_⟩
  · conv => whnf
    simp only [Bool.not_eq_true', decide_eq_false_iff_not] at h
    exact PSub.lit_sb (by symm; simp only [decide_eq_false_iff_not]; intro e; exact h (by rw [e]))
  conv => whnf
  simp only [Bool.not_eq_false', decide_eq_true_eq] at h
  refine ⟨Nat, fun k => k ≤ a.length ∧ ∀ j, j < k → a.getD j default = b.getD j default, fun k => ⟨[(0, .pv (roL 1 cstr a)), (1, .pv (roL 1 cstr b)), (12, .pv (vint a.length)), (13, .pv (vint k))], []⟩, fun k => a.length - k, 0, [], ⟨Nat.zero_le _, fun j h => absurd h (by omega)⟩, ⟨.rfl, .rfl, .rfl, .rfl⟩, fun k hk => ?_⟩
  conv => whnf
  refine ⟨fun h2 => ?_, fun h2 => ?_⟩
  · simp only [decide_eq_true_eq] at h2
    conv => whnf
    refine ⟨by kernel_rfl, ?_⟩
    conv => whnf
    refine ⟨by omega, ?_⟩
    conv => whnf
    refine ⟨by omega, ?_⟩
    conv => whnf
    refine ⟨by kernel_rfl, ?_⟩
    conv => whnf
    refine ⟨fun h3 => ?_, fun h3 => ?_⟩
    · conv => whnf
      simp only [Bool.not_eq_true', decide_eq_false_iff_not] at h3
      exact PSub.lit_sb (by symm; simp only [decide_eq_false_iff_not]; intro e; exact h3 (by rw [e]))
    · conv => whnf
      simp only [Bool.not_eq_false', decide_eq_true_eq, Int.toNat_natCast] at h3
      refine .inl ⟨wrap64 (by omega), ?_⟩
      conv => whnf
      refine ⟨k + 1, [], ⟨by omega, fun j hj => ?_⟩, by dsimp only; omega, .rfl, .rfl, .rfl, .rfl⟩
      by_cases e : j = k
      · subst e; exact h3
      · exact hk.2 j (by omega)
  · conv => whnf
    simp only [decide_eq_false_iff_not] at h2
    exact PSub.lit_sb (by symm; simp only [decide_eq_true_eq]; exact list_eq (by omega) fun i hi => hk.2 i (by omega))
end Go.Abs

namespace Go.Abs
open Go.Proofs
set_option maxRecDepth 10000
theorem ac_r21_Suits (x : Eff) (a p : Attr) (ha : smallA a) (hp : smallA p) : AC Tryz.prog 189 [.pv (.agg (cEff x)), .pv (.agg (cAttr a)), .pv (.agg (cAttr p))] [] (.pv (vbool (suitsB x a p))) [] := by
  have e0 : alikeB a p = (decide (p.kind = a.kind) && decide (p.enum = a.enum)) := by simp only [alikeB]; congr 1 <;> (rw [Bool.eq_iff_iff]; simp only [decide_eq_true_eq]; exact ⟨fun h => h.symm, fun h => h.symm⟩)
  refine AC.of_awp (T := T) T_ok hm Tryz.call189 Tryz.func189 rfl rfl rfl ?_
  conv => whnf
  repeat (any_goals (first
    | (refine ⟨fun (h : (_ : Bool) = true) => ?_, fun (h : (_ : Bool) = false) => ?_⟩ <;> (try simp only [decide_eq_true_eq, decide_eq_false_iff_not, Bool.not_eq_true', Bool.not_eq_false', Int.toNat_natCast, beq_iff_eq, decide_eq_decide, beq_eq_false_iff_ne, ne_eq, reduceCtorEq] at h) <;> (conv => whnf))
    | (refine .inl ⟨_, ac_r20_Fits a ⟨a.kind, x.n, ⟨#[]⟩⟩ ha, ?_⟩; conv => whnf)
    | (refine .inl ⟨_, ac_r21_SameNames p.enum a.enum hp, ?_⟩; conv => whnf)
    | (refine And.intro (by (try simp only [Int.toNat_natCast]); omega) ?_; conv => whnf)
    | (refine And.intro (show (_ : Bool) = true from by kernel_rfl) ?_; conv => whnf)
    | (refine .inl ⟨wrap64 (by omega), ?_⟩; conv => whnf)))
  all_goals (try simp only [decide_eq_true_eq, decide_eq_false_iff_not, Bool.not_eq_true', Bool.not_eq_false', Int.toNat_natCast, beq_iff_eq, decide_eq_decide, beq_eq_false_iff_ne, ne_eq, reduceCtorEq] at *)
  all_goals first
    | contradiction
    | (exfalso; omega)
    | exact PSub.rfl
    | (refine PSub.int ?_; simp only [suitsB, e0]; (repeat' split) <;> first | rfl | omega | (simp_all [-List.getD_eq_getElem?_getD]; done) | (simp_all [-List.getD_eq_getElem?_getD]; omega))
    | (refine PSub.sb ?_; simp_all [suitsB, e0, -List.getD_eq_getElem?_getD]; done)
    | (refine PSub.lit_sb ?_; simp_all [suitsB, e0, -List.getD_eq_getElem?_getD]; done)
    | (refine PSub.sb_lit ?_; simp_all [suitsB, e0, -List.getD_eq_getElem?_getD]; done)
    | (refine PSub.sb ?_; rw [Bool.eq_iff_iff]; simp_all [suitsB, e0, -List.getD_eq_getElem?_getD]; done)
    | (refine PSub.lit_sb ?_; rw [Bool.eq_iff_iff]; simp_all [suitsB, e0, -List.getD_eq_getElem?_getD]; done)
    | (refine PSub.sb_lit ?_; rw [Bool.eq_iff_iff]; simp_all [suitsB, e0, -List.getD_eq_getElem?_getD]; done)
    | skip
theorem satI_ne {n : Int} : satI n ≠ n ↔ (n < -1099511627776 ∨ 1099511627776 < n) := by unfold satI; omega
theorem ac_r21_Effect (c : Clu) (p : Attr) (x : Eff) (hc : smallK c) (hp : smallA p) : AC Tryz.prog 173 [.pv (.agg (cClu c)), .pv (.agg (cAttr p)), .pv (.agg (cEff x))] [] (.pv (vint (effE c p x))) [] := by
  have e := @satI_ne x.n
  refine AC.of_awp (T := T) T_ok hm Tryz.call173 Tryz.func173 rfl rfl rfl ?_
  conv => whnf
  repeat (any_goals (first
    | (refine ⟨fun (h : (_ : Bool) = true) => ?_, fun (h : (_ : Bool) = false) => ?_⟩ <;> (try simp only [decide_eq_true_eq, decide_eq_false_iff_not, Bool.not_eq_true', Bool.not_eq_false', Int.toNat_natCast, beq_iff_eq, decide_eq_decide, beq_eq_false_iff_ne, ne_eq, reduceCtorEq] at h) <;> (conv => whnf))
    | (refine .inl ⟨_, ac_r21_Attr c x.attr hc, ?_⟩; conv => whnf)
    | (refine .inl ⟨_, ac_r21_Suits x (attrOf c.attrs x.attr) p (small_attrOf hc) hp, ?_⟩; conv => whnf)
    | (refine And.intro (by (try simp only [Int.toNat_natCast]); omega) ?_; conv => whnf)
    | (refine And.intro (show (_ : Bool) = true from by kernel_rfl) ?_; conv => whnf)
    | (refine .inl ⟨wrap64 (by omega), ?_⟩; conv => whnf)))
  all_goals rw [effE]
  all_goals (try simp only [decide_eq_true_eq, decide_eq_false_iff_not, Bool.not_eq_true', Bool.not_eq_false', Int.toNat_natCast, beq_iff_eq, decide_eq_decide, beq_eq_false_iff_ne, ne_eq, reduceCtorEq] at *)
  all_goals first
    | contradiction
    | (exfalso; omega)
    | exact PSub.rfl
    | (refine PSub.int ?_; simp only [e]; (repeat' split) <;> first | rfl | omega | (simp_all [-List.getD_eq_getElem?_getD]; done) | (simp_all [-List.getD_eq_getElem?_getD]; omega))
    | (refine PSub.sb ?_; simp_all [e, -List.getD_eq_getElem?_getD]; done)
    | (refine PSub.lit_sb ?_; simp_all [e, -List.getD_eq_getElem?_getD]; done)
    | (refine PSub.sb_lit ?_; simp_all [e, -List.getD_eq_getElem?_getD]; done)
    | (refine PSub.sb ?_; rw [Bool.eq_iff_iff]; simp_all [e, -List.getD_eq_getElem?_getD]; done)
    | (refine PSub.lit_sb ?_; rw [Bool.eq_iff_iff]; simp_all [e, -List.getD_eq_getElem?_getD]; done)
    | (refine PSub.sb_lit ?_; rw [Bool.eq_iff_iff]; simp_all [e, -List.getD_eq_getElem?_getD]; done)
    | skip
theorem ac_r21_SameAttr (a : Attr) (ha : smallA a) : AC Tryz.prog 172 [.pv (.agg (cAttr a)), .pv (.agg (cAttr noAttr))] [] (.pv (vbool (zeroA a))) [] := by
  refine AC.of_awp (T := T) T_ok hm Tryz.call172 Tryz.func172 rfl rfl rfl ?_
  conv => whnf
  repeat (any_goals (first
    | (refine ⟨fun (h : (_ : Bool) = true) => ?_, fun (h : (_ : Bool) = false) => ?_⟩ <;> (try simp only [decide_eq_true_eq, decide_eq_false_iff_not, Bool.not_eq_true', Bool.not_eq_false', Int.toNat_natCast, beq_iff_eq, decide_eq_decide, beq_eq_false_iff_ne, ne_eq, reduceCtorEq] at h) <;> (conv => whnf))
    | (refine .inl ⟨_, ac_r21_SameNames a.enum [] ha, ?_⟩; conv => whnf)
    | (refine And.intro (by (try simp only [Int.toNat_natCast]); omega) ?_; conv => whnf)
    | (refine And.intro (show (_ : Bool) = true from by kernel_rfl) ?_; conv => whnf)
    | (refine .inl ⟨wrap64 (by omega), ?_⟩; conv => whnf)))
  all_goals first | (refine PSub.sb ?_ ; rw [Bool.eq_iff_iff, zeroA_iff]; simp_all [noAttr]; done) | (refine PSub.lit_sb ?_ ; rw [Bool.eq_iff_iff, zeroA_iff]; simp_all [noAttr]; done) | skip
end Go.Abs

namespace Go.Abs
open Go.Proofs
set_option maxRecDepth 10000
theorem anyN_iff {n : Nat} {p : Nat → Bool} : anyN n p = true ↔ ∃ k, k < n ∧ p k = true := by simp [anyN]
theorem ac_r21_OneCommand (c : Clu) (i : Nat) (hc : smallK c) (hi : i < c.commands.length) : AC Tryz.prog 152 [.pv (.agg (cClu c)), .pv (vint i)] [] (.pv (vint (cmdE c i))) [] := by
  have hl : c.commands.length ≤ 1048576 := hc.2.2.1
  have hd := hc.2.2.2.1 i
  have hd2 : (c.commands.getD i default).effects.length ≤ 1048576 := hd.2
  refine AC.of_awp (T := T) T_ok hm Tryz.call152 Tryz.func152 rfl rfl rfl ?_
  conv => whnf
  refine And.intro (by omega) ?_
  conv => whnf
  refine .inl ⟨_, ac_r04_Valid (c.commands.getD i default).name, ?_⟩
  conv => whnf
  refine ⟨fun h => ?_, fun h => ?_⟩ <;> (try simp only [decide_eq_true_eq, decide_eq_false_iff_not, Bool.not_eq_true', Bool.not_eq_false', Int.toNat_natCast, beq_iff_eq, decide_eq_decide, beq_eq_false_iff_ne, ne_eq, reduceCtorEq] at h) <;> (conv => whnf)
  · exact PSub.int (by simp [cmdE, h, -List.getD_eq_getElem?_getD])
  have hv := h
  refine loop_k (ι := Nat) [1, 2, 5] [2, 5] (fun k => k ≤ i ∧ (∀ j, j < k → decide ((c.commands.getD j default).name = (c.commands.getD i default).name) = false)) (fun k => i - k) 0 (fun k => [(6, .pv (vint k))]) (fun _ => []) [] ⟨Nat.zero_le _, fun j h => absurd h (by omega)⟩ ?_ (fun k hk => ?_)
  · (repeat' (first | exact PSub.rfl | exact rfl | exact PSubs.rfl | exact trivial | exact PSub.lit_sb rfl | refine And.intro ?_ ?_))
  obtain ⟨hkn, hinv⟩ := hk
  conv => whnf
  repeat (any_goals (first
    | (refine ⟨fun (h : (_ : Bool) = true) => ?_, fun (h : (_ : Bool) = false) => ?_⟩ <;> (try simp only [decide_eq_true_eq, decide_eq_false_iff_not, Bool.not_eq_true', Bool.not_eq_false', Int.toNat_natCast, beq_iff_eq, decide_eq_decide, beq_eq_false_iff_ne, ne_eq, reduceCtorEq] at h) <;> (conv => whnf))
    | (refine .inl ⟨_, AC.sub2 (ac_r21_SameAttr (c.commands.getD i default).param hd.1) .rfl (PSub.agg noAttr_cells (l := zAttr)), ?_⟩; conv => whnf)
    | (refine .inl ⟨_, ac_r20_Def (c.commands.getD i default).param hd.1, ?_⟩; conv => whnf)
    | (refine And.intro (by (try simp only [Int.toNat_natCast]); omega) ?_; conv => whnf)
    | (refine And.intro (show (_ : Bool) = true from by kernel_rfl) ?_; conv => whnf)
    | (refine .inl ⟨wrap64 (by omega), ?_⟩; conv => whnf)))
  case' refine_2.refine_2.refine_1.refine_2 =>
    refine ⟨k + 1, [], ⟨by omega, ?_⟩, by first | omega | (dsimp only; omega), ?_⟩
    rotate_left
    · (repeat' (first | exact PSub.rfl | exact rfl | exact PSubs.rfl | exact trivial | exact PSub.lit_sb rfl | refine And.intro ?_ ?_))
    intro j hj
    by_cases e : j = k
    · subst e; first | exact h | simpa [-List.getD_eq_getElem?_getD] using h | simp_all [-List.getD_eq_getElem?_getD]
    · exact hinv j (by omega)
  · have e := anyN_true (n := i) (p := fun j => decide ((c.commands.getD j default).name = (c.commands.getD i default).name)) (k := k) (by omega) (by simpa [-List.getD_eq_getElem?_getD] using h)
    exact PSub.int (by simp [cmdE, hv, e, -List.getD_eq_getElem?_getD])
  all_goals have ef : anyN i (fun j => decide ((c.commands.getD j default).name = (c.commands.getD i default).name)) = false := anyN_false fun j hj => hinv j (by omega)
  all_goals try (exact PSub.int (by simp_all [cmdE, -List.getD_eq_getElem?_getD]; done))
  all_goals
    have e0 : cmdE c i = firstE (c.commands.getD i default).effects.length fun j => effE c (c.commands.getD i default).param ((c.commands.getD i default).effects.getD j default) := by simp_all [cmdE, -List.getD_eq_getElem?_getD]
    rw [e0]
    clear hinv hkn
    refine loop_k (ι := Nat) [2, 5, 50] [2, 5] (fun k2 => k2 ≤ (c.commands.getD i default).effects.length ∧ (∀ j, j < k2 → effE c (c.commands.getD i default).param ((c.commands.getD i default).effects.getD j default) = 0)) (fun k2 => (c.commands.getD i default).effects.length - k2) 0 (fun k2 => [(51, .pv (vint k2))]) (fun _ => []) [] ⟨Nat.zero_le _, fun j h => absurd h (by omega)⟩ ?_ (fun k2 hk => ?_)
    · (repeat' (first | exact PSub.rfl | exact rfl | exact PSubs.rfl | exact trivial | exact PSub.lit_sb rfl | refine And.intro ?_ ?_))
    obtain ⟨hkn, hinv⟩ := hk
    conv => whnf
    repeat (any_goals (first
      | (refine ⟨fun (h : (_ : Bool) = true) => ?_, fun (h : (_ : Bool) = false) => ?_⟩ <;> (try simp only [decide_eq_true_eq, decide_eq_false_iff_not, Bool.not_eq_true', Bool.not_eq_false', Int.toNat_natCast, beq_iff_eq, decide_eq_decide, beq_eq_false_iff_ne, ne_eq, reduceCtorEq] at h) <;> (conv => whnf))
      | (refine .inl ⟨_, ac_r21_Effect c (c.commands.getD i default).param ((c.commands.getD i default).effects.getD k2 default) hc hd.1, ?_⟩; conv => whnf)
      | (refine And.intro (by (try simp only [Int.toNat_natCast]); omega) ?_; conv => whnf)
      | (refine And.intro (show (_ : Bool) = true from by kernel_rfl) ?_; conv => whnf)
      | (refine .inl ⟨wrap64 (by omega), ?_⟩; conv => whnf)))
    · exact PSub.int (by rw [firstE_at (k := k2) (by omega) h hinv])
    · refine ⟨k2 + 1, [], ⟨by omega, ?_⟩, by first | omega | (dsimp only; omega), ?_⟩
      rotate_left
      · (repeat' (first | exact PSub.rfl | exact rfl | exact PSubs.rfl | exact trivial | exact PSub.lit_sb rfl | refine And.intro ?_ ?_))
      intro j hj
      by_cases e : j = k2
      · subst e; first | exact h | simpa [-List.getD_eq_getElem?_getD] using h | simp_all [-List.getD_eq_getElem?_getD]
      · exact hinv j (by omega)
    · exact PSub.int (by rw [firstE_none fun j hj => hinv j (by omega)])
end Go.Abs

namespace Go.Abs
open Go.Proofs
set_option maxRecDepth 10000
theorem placeI_lt {l : List Attr} {s : ByteArray} {k : Nat} (hk : k < l.length) (h : (l.getD k default).name = s) : (placeI l s < (k : Int)) ↔ anyN k (fun j => decide ((l.getD j default).name = s)) = true := by
  have hlt : attrAt l s ≤ k ∧ attrAt l s < l.length := by
    unfold attrAt firstI
    split
    · rename_i i e
      rw [List.find?_range_eq_some] at e
      refine ⟨?_, by simpa using e.2.1⟩
      rcases Nat.lt_or_ge k i with hlt | hge
      · have := e.2.2 k hlt; simp [h, -List.getD_eq_getElem?_getD] at this
      · exact hge
    · rename_i e
      rw [List.find?_eq_none] at e
      have := e k (by simpa using hk)
      simp [h, -List.getD_eq_getElem?_getD] at this
  unfold placeI
  rw [if_pos hlt.2, anyN_iff]
  constructor
  · intro hh
    refine ⟨attrAt l s, by omega, ?_⟩
    unfold attrAt firstI
    split
    · rename_i i e
      rw [List.find?_range_eq_some] at e
      exact e.1
    · rename_i e
      rw [List.find?_eq_none] at e
      have := e k (by simpa using hk)
      simp [h, -List.getD_eq_getElem?_getD] at this
  · rintro ⟨j, hj, e⟩
    have : attrAt l s ≤ j := by
      unfold attrAt firstI
      split
      · rename_i i e2
        rw [List.find?_range_eq_some] at e2
        rcases Nat.lt_or_ge j i with hlt2 | hge
        · have := e2.2.2 j hlt2; rw [e] at this; cases this
        · exact hge
      · rename_i e2
        rw [List.find?_eq_none] at e2
        have := e2 k (by simpa using hk)
        simp [h, -List.getD_eq_getElem?_getD] at this
    omega
theorem ac_r21_Check (c : Clu) (hc : smallK c) : AC Tryz.prog 118 [.pv (.agg (cClu c))] [] (.pv (vint (checkE c))) [] := by
  have hl1 : c.attrs.length ≤ 1048576 := hc.1
  have hl2 : c.commands.length ≤ 1048576 := hc.2.2.1
  have hl3 : c.events.length ≤ 1048576 := hc.2.2.2.2
  refine AC.of_awp (T := T) T_ok hm Tryz.call118 Tryz.func118 rfl rfl rfl ?_
  conv => whnf
  refine .inl ⟨_, ac_r04_Valid c.name, ?_⟩
  conv => whnf
  refine ⟨fun h => ?_, fun h => ?_⟩ <;> (try simp only [decide_eq_true_eq, decide_eq_false_iff_not, Bool.not_eq_true', Bool.not_eq_false', Int.toNat_natCast, beq_iff_eq, decide_eq_decide, beq_eq_false_iff_ne, ne_eq, reduceCtorEq] at h) <;> (conv => whnf)
  · exact PSub.int (by simp [checkE, h, -List.getD_eq_getElem?_getD])
  have hv := h
  refine .inl ⟨_, ac_r21_TooMany c hc, ?_⟩
  conv => whnf
  refine ⟨fun h => ?_, fun h => ?_⟩ <;> (try simp only [decide_eq_true_eq, decide_eq_false_iff_not, Bool.not_eq_true', Bool.not_eq_false', Int.toNat_natCast, beq_iff_eq, decide_eq_decide, beq_eq_false_iff_ne, ne_eq, reduceCtorEq] at h) <;> (conv => whnf)
  · exact PSub.int (by simp [checkE, h, hv, -List.getD_eq_getElem?_getD])
  have hw := h
  refine loop_k (ι := Nat) [1, 17] [1] (fun k => k ≤ c.attrs.length ∧ (∀ j, j < k → attrE c.attrs j = 0)) (fun k => c.attrs.length - k) 0 (fun k => [(18, .pv (vint k))]) (fun _ => []) [] ⟨Nat.zero_le _, fun j h => absurd h (by omega)⟩ ?_ (fun k hk => ?_)
  · (repeat' (first | exact PSub.rfl | exact rfl | exact PSubs.rfl | exact trivial | exact PSub.lit_sb rfl | refine And.intro ?_ ?_))
  obtain ⟨hkn, hinv⟩ := hk
  conv => whnf
  repeat (any_goals (first
    | (refine ⟨fun (h : (_ : Bool) = true) => ?_, fun (h : (_ : Bool) = false) => ?_⟩ <;> (try simp only [decide_eq_true_eq, decide_eq_false_iff_not, Bool.not_eq_true', Bool.not_eq_false', Int.toNat_natCast, beq_iff_eq, decide_eq_decide, beq_eq_false_iff_ne, ne_eq, reduceCtorEq] at h) <;> (conv => whnf))
    | (refine .inl ⟨_, ac_r20_Def (c.attrs.getD k default) (hc.2.1 k), ?_⟩; conv => whnf)
    | (refine .inl ⟨_, ac_r21_Place c (c.attrs.getD k default).name hc, ?_⟩; conv => whnf)
    | (refine And.intro (by (try simp only [Int.toNat_natCast]); omega) ?_; conv => whnf)
    | (refine And.intro (show (_ : Bool) = true from by kernel_rfl) ?_; conv => whnf)
    | (refine .inl ⟨wrap64 (by omega), ?_⟩; conv => whnf)))
  · have e : attrE c.attrs k = defE (c.attrs.getD k default) := by simp [attrE, h, -List.getD_eq_getElem?_getD]
    have e2 := firstE_at (n := c.attrs.length) (k := k) (f := attrE c.attrs) (by omega) (by rw [e]; exact h) hinv
    rw [e] at e2
    exact PSub.int (by simp [checkE, e2, h, hv, hw, -List.getD_eq_getElem?_getD])
  · rename_i hd
    rw [placeI_lt (by omega) rfl] at h
    have e : attrE c.attrs k = 9 := by simp [attrE, hd, h, -List.getD_eq_getElem?_getD]
    have e2 := firstE_at (n := c.attrs.length) (k := k) (f := attrE c.attrs) (by omega) (by rw [e]; decide) hinv
    rw [e] at e2
    exact PSub.int (by simp [checkE, e2, hv, hw, -List.getD_eq_getElem?_getD])
  · rename_i hd
    rw [placeI_lt (by omega) rfl] at h
    refine ⟨k + 1, [], ⟨by omega, ?_⟩, by first | omega | (dsimp only; omega), ?_⟩
    rotate_left
    · (repeat' (first | exact PSub.rfl | exact rfl | exact PSubs.rfl | exact trivial | exact PSub.lit_sb rfl | refine And.intro ?_ ?_))
    intro j hj
    by_cases ee : j = k
    · subst ee; simp [attrE, hd, h, -List.getD_eq_getElem?_getD]
    · exact hinv j (by omega)
  have e1 : firstE c.attrs.length (attrE c.attrs) = 0 := firstE_none fun j hj => hinv j (by omega)
  clear hinv hkn h
  refine loop_k (ι := Nat) [1, 43] [1] (fun k => k ≤ c.commands.length ∧ (∀ j, j < k → cmdE c j = 0)) (fun k => c.commands.length - k) 0 (fun k => [(44, .pv (vint k))]) (fun _ => []) [] ⟨Nat.zero_le _, fun j h => absurd h (by omega)⟩ ?_ (fun k hk => ?_)
  · (repeat' (first | exact PSub.rfl | exact rfl | exact PSubs.rfl | exact trivial | exact PSub.lit_sb rfl | refine And.intro ?_ ?_))
  obtain ⟨hkn, hinv⟩ := hk
  conv => whnf
  repeat (any_goals (first
    | (refine ⟨fun (h : (_ : Bool) = true) => ?_, fun (h : (_ : Bool) = false) => ?_⟩ <;> (try simp only [decide_eq_true_eq, decide_eq_false_iff_not, Bool.not_eq_true', Bool.not_eq_false', Int.toNat_natCast, beq_iff_eq, decide_eq_decide, beq_eq_false_iff_ne, ne_eq, reduceCtorEq] at h) <;> (conv => whnf))
    | (refine .inl ⟨_, ac_r21_OneCommand c k hc (by omega), ?_⟩; conv => whnf)
    | (refine And.intro (by (try simp only [Int.toNat_natCast]); omega) ?_; conv => whnf)
    | (refine And.intro (show (_ : Bool) = true from by kernel_rfl) ?_; conv => whnf)
    | (refine .inl ⟨wrap64 (by omega), ?_⟩; conv => whnf)))
  · have e2 := firstE_at (n := c.commands.length) (k := k) (f := cmdE c) (by omega) h hinv
    exact PSub.int (by simp [checkE, e1, e2, h, hv, hw, -List.getD_eq_getElem?_getD])
  · refine ⟨k + 1, [], ⟨by omega, ?_⟩, by first | omega | (dsimp only; omega), ?_⟩
    rotate_left
    · (repeat' (first | exact PSub.rfl | exact rfl | exact PSubs.rfl | exact trivial | exact PSub.lit_sb rfl | refine And.intro ?_ ?_))
    intro j hj
    by_cases e : j = k
    · subst e; first | exact h | simpa [-List.getD_eq_getElem?_getD] using h | simp_all [-List.getD_eq_getElem?_getD]
    · exact hinv j (by omega)
  have e2 : firstE c.commands.length (cmdE c) = 0 := firstE_none fun j hj => hinv j (by omega)
  have e0 : checkE c = firstE c.events.length (evE c.events) := by simp [checkE, e1, e2, hv, hw, -List.getD_eq_getElem?_getD]
  rw [e0]
  clear hinv hkn h
  refine loop_k (ι := Nat) [1, 56] [1] (fun k => k ≤ c.events.length ∧ (∀ j, j < k → evE c.events j = 0)) (fun k => c.events.length - k) 0 (fun k => [(57, .pv (vint k))]) (fun _ => []) [] ⟨Nat.zero_le _, fun j h => absurd h (by omega)⟩ ?_ (fun k hk => ?_)
  · (repeat' (first | exact PSub.rfl | exact rfl | exact PSubs.rfl | exact trivial | exact PSub.lit_sb rfl | refine And.intro ?_ ?_))
  obtain ⟨hkn, hinv⟩ := hk
  conv => whnf
  repeat (any_goals (first
    | (refine ⟨fun (h : (_ : Bool) = true) => ?_, fun (h : (_ : Bool) = false) => ?_⟩ <;> (try simp only [decide_eq_true_eq, decide_eq_false_iff_not, Bool.not_eq_true', Bool.not_eq_false', Int.toNat_natCast, beq_iff_eq, decide_eq_decide, beq_eq_false_iff_ne, ne_eq, reduceCtorEq] at h) <;> (conv => whnf))
    | (refine .inl ⟨_, ac_r04_Valid (c.events.getD k default), ?_⟩; conv => whnf)
    | (refine And.intro (by (try simp only [Int.toNat_natCast]); omega) ?_; conv => whnf)
    | (refine And.intro (show (_ : Bool) = true from by kernel_rfl) ?_; conv => whnf)
    | (refine .inl ⟨wrap64 (by omega), ?_⟩; conv => whnf)))
  · have e : evE c.events k = 10 := by simp [evE, h, -List.getD_eq_getElem?_getD]
    exact PSub.int (by rw [firstE_at (k := k) (by omega) (by rw [e]; decide) hinv, e])
  · have hve := h
    have hinv1 := hinv
    refine loop_k (ι := Nat) [1, 7, 56, 57] [1] (fun k2 => k2 ≤ k ∧ (∀ j, j < k2 → c.events.getD j default ≠ c.events.getD k default)) (fun k2 => k - k2) 0 (fun k2 => [(8, .pv (vint k2))]) (fun _ => []) [] ⟨Nat.zero_le _, fun j h => absurd h (by omega)⟩ ?_ (fun k2 hk => ?_)
    · (repeat' (first | exact PSub.rfl | exact rfl | exact PSubs.rfl | exact trivial | exact PSub.lit_sb rfl | refine And.intro ?_ ?_))
    obtain ⟨hkn, hinv⟩ := hk
    conv => whnf
    repeat (any_goals (first
      | (refine ⟨fun (h : (_ : Bool) = true) => ?_, fun (h : (_ : Bool) = false) => ?_⟩ <;> (try simp only [decide_eq_true_eq, decide_eq_false_iff_not, Bool.not_eq_true', Bool.not_eq_false', Int.toNat_natCast, beq_iff_eq, decide_eq_decide, beq_eq_false_iff_ne, ne_eq, reduceCtorEq] at h) <;> (conv => whnf))
      | (refine And.intro (by (try simp only [Int.toNat_natCast]); omega) ?_; conv => whnf)
      | (refine And.intro (show (_ : Bool) = true from by kernel_rfl) ?_; conv => whnf)
      | (refine .inl ⟨wrap64 (by omega), ?_⟩; conv => whnf)))
    · have e := memN_true (l := c.events) (n := k) (k := k2) (s := c.events.getD k default) (by omega) h
      have e : evE c.events k = 9 := by simp [evE, hve, e, -List.getD_eq_getElem?_getD]
      exact PSub.int (by rw [firstE_at (k := k) (by omega) (by rw [e]; decide) hinv1, e])
    · refine ⟨k2 + 1, [], ⟨by omega, ?_⟩, by first | omega | (dsimp only; omega), ?_⟩
      rotate_left
      · (repeat' (first | exact PSub.rfl | exact rfl | exact PSubs.rfl | exact trivial | exact PSub.lit_sb rfl | refine And.intro ?_ ?_))
      intro j hj
      by_cases e : j = k2
      · subst e; first | exact h | simpa [-List.getD_eq_getElem?_getD] using h | simp_all [-List.getD_eq_getElem?_getD]
      · exact hinv j (by omega)
    · have e := memN_false (l := c.events) (n := k) (s := c.events.getD k default) fun j hj => hinv j (by omega)
      refine ⟨k + 1, [], ⟨by omega, ?_⟩, by first | omega | (dsimp only; omega), ?_⟩
      rotate_left
      · (repeat' (first | exact PSub.rfl | exact rfl | exact PSubs.rfl | exact trivial | exact PSub.lit_sb rfl | refine And.intro ?_ ?_))
      intro j hj
      by_cases ee : j = k
      · subst ee; simp [evE, hve, e, -List.getD_eq_getElem?_getD]
      · exact hinv1 j (by omega)
  · exact PSub.int (by rw [firstE_none fun j hj => hinv j (by omega)])
theorem ac_r21_All (l : List Clu) (hl : smallKs l) : AC Tryz.prog 82 [.pv (roL 4 cClu l)] [] (.pv (vint (allE l))) [] := by
  have hl1 : l.length ≤ 1048576 := hl.1
  refine AC.of_awp (T := T) T_ok hm Tryz.call82 Tryz.func82 rfl rfl rfl ?_
  conv => whnf
  refine ⟨fun h => ?_, fun h => ?_⟩ <;> (try simp only [decide_eq_true_eq, decide_eq_false_iff_not, Bool.not_eq_true', Bool.not_eq_false', Int.toNat_natCast, beq_iff_eq, decide_eq_decide, beq_eq_false_iff_ne, ne_eq, reduceCtorEq] at h) <;> (conv => whnf)
  · exact PSub.int (by rw [allE, if_pos (by omega)])
  rw [allE, if_neg (by omega)]
  clear h
  refine loop_k (ι := Nat) [0, 10] [] (fun k => k ≤ l.length ∧ (∀ j, j < k → cluE l j = 0)) (fun k => l.length - k) 0 (fun k => [(11, .pv (vint k))]) (fun _ => []) [] ⟨Nat.zero_le _, fun j h => absurd h (by omega)⟩ ?_ (fun k hk => ?_)
  · (repeat' (first | exact PSub.rfl | exact rfl | exact PSubs.rfl | exact trivial | exact PSub.lit_sb rfl | refine And.intro ?_ ?_))
  obtain ⟨hkn, hinv⟩ := hk
  conv => whnf
  repeat (any_goals (first
    | (refine ⟨fun (h : (_ : Bool) = true) => ?_, fun (h : (_ : Bool) = false) => ?_⟩ <;> (try simp only [decide_eq_true_eq, decide_eq_false_iff_not, Bool.not_eq_true', Bool.not_eq_false', Int.toNat_natCast, beq_iff_eq, decide_eq_decide, beq_eq_false_iff_ne, ne_eq, reduceCtorEq] at h) <;> (conv => whnf))
    | (refine .inl ⟨_, ac_r21_Check (l.getD k default) (hl.2 k), ?_⟩; conv => whnf)
    | (refine And.intro (by (try simp only [Int.toNat_natCast]); omega) ?_; conv => whnf)
    | (refine And.intro (show (_ : Bool) = true from by kernel_rfl) ?_; conv => whnf)
    | (refine .inl ⟨wrap64 (by omega), ?_⟩; conv => whnf)))
  · have e : cluE l k = checkE (l.getD k default) := by simp [cluE, h, -List.getD_eq_getElem?_getD]
    exact PSub.int (by rw [firstE_at (k := k) (by omega) (by rw [e]; exact h) hinv, e])
  · have hd := h
    have hinv1 := hinv
    refine loop_k (ι := Nat) [0, 3, 10, 11] [] (fun k2 => k2 ≤ k ∧ (∀ j, j < k2 → decide ((l.getD j default).name = (l.getD k default).name) = false)) (fun k2 => k - k2) 0 (fun k2 => [(5, .pv (vint k2))]) (fun _ => []) [] ⟨Nat.zero_le _, fun j h => absurd h (by omega)⟩ ?_ (fun k2 hk => ?_)
    · (repeat' (first | exact PSub.rfl | exact rfl | exact PSubs.rfl | exact trivial | exact PSub.lit_sb rfl | refine And.intro ?_ ?_))
    obtain ⟨hkn, hinv⟩ := hk
    conv => whnf
    repeat (any_goals (first
      | (refine ⟨fun (h : (_ : Bool) = true) => ?_, fun (h : (_ : Bool) = false) => ?_⟩ <;> (try simp only [decide_eq_true_eq, decide_eq_false_iff_not, Bool.not_eq_true', Bool.not_eq_false', Int.toNat_natCast, beq_iff_eq, decide_eq_decide, beq_eq_false_iff_ne, ne_eq, reduceCtorEq] at h) <;> (conv => whnf))
      | (refine And.intro (by (try simp only [Int.toNat_natCast]); omega) ?_; conv => whnf)
      | (refine And.intro (show (_ : Bool) = true from by kernel_rfl) ?_; conv => whnf)
      | (refine .inl ⟨wrap64 (by omega), ?_⟩; conv => whnf)))
    · have e := anyN_true (n := k) (k := k2) (p := fun j => decide ((l.getD j default).name = (l.getD k default).name)) (by omega) (by simpa [-List.getD_eq_getElem?_getD] using h)
      have e : cluE l k = 9 := by simp [cluE, hd, e, -List.getD_eq_getElem?_getD]
      exact PSub.int (by rw [firstE_at (k := k) (by omega) (by rw [e]; decide) hinv1, e])
    · refine ⟨k2 + 1, [], ⟨by omega, ?_⟩, by first | omega | (dsimp only; omega), ?_⟩
      rotate_left
      · (repeat' (first | exact PSub.rfl | exact rfl | exact PSubs.rfl | exact trivial | exact PSub.lit_sb rfl | refine And.intro ?_ ?_))
      intro j hj
      by_cases e : j = k2
      · subst e; first | exact h | simpa [-List.getD_eq_getElem?_getD] using h | simp_all [-List.getD_eq_getElem?_getD]
      · exact hinv j (by omega)
    · have e := anyN_false (n := k) (p := fun j => decide ((l.getD j default).name = (l.getD k default).name)) fun j hj => hinv j (by omega)
      refine ⟨k + 1, [], ⟨by omega, ?_⟩, by first | omega | (dsimp only; omega), ?_⟩
      rotate_left
      · (repeat' (first | exact PSub.rfl | exact rfl | exact PSubs.rfl | exact trivial | exact PSub.lit_sb rfl | refine And.intro ?_ ?_))
      intro j hj
      by_cases ee : j = k
      · subst ee; simp [cluE, hd, e, -List.getD_eq_getElem?_getD]
      · exact hinv1 j (by omega)
  · exact PSub.int (by rw [firstE_none fun j hj => hinv j (by omega)])
end Go.Abs

namespace Go.Abs
open Go.Proofs
set_option maxRecDepth 10000
def cluAt (l : List Clu) (s : ByteArray) : Nat := firstI l.length fun i => decide ((l.getD i default).name = s)
theorem firstC_eq (l : List Clu) (s : ByteArray) : firstC l s = if cluAt l s < l.length then some (l.getD (cluAt l s) default) else none := by
  unfold firstC cluAt
  cases hf : l.find? fun c => decide (c.name = s) with
  | none =>
    rw [List.find?_eq_none] at hf
    rw [firstI_none fun i hi => ?_, if_neg (Nat.lt_irrefl _)]
    have := hf l[i] (List.getElem_mem hi)
    simpa [List.getD, hi] using this
  | some c =>
    obtain ⟨h1, xs, ys, h2, h3⟩ := List.find?_eq_some_iff_append.1 hf
    have hi : xs.length < l.length := by rw [h2]; simp
    have e : l.getD xs.length default = c := by simp [h2]
    have ef : firstI l.length (fun i => decide ((l.getD i default).name = s)) = xs.length := by
      refine firstI_at hi (by rw [e]; exact h1) fun j hj => ?_
      have := h3 xs[j] (List.getElem_mem hj)
      simpa [h2, List.getElem?_append_left hj, hj] using this
    rw [ef, if_pos hi, e]
def cluIx (l : List Clu) (s : ByteArray) : Int := if cluAt l s < l.length then (cluAt l s : Int) else -1
theorem ac_r22_cluster (H : Hom) (s : ByteArray) (hH : smallH H) : AC Tryz.prog 85 [.pv (.agg (cHom H)), .pv (vstr s)] [] (.pv (vint (cluIx H.clusters s))) [] := by
  have hl : H.clusters.length ≤ 1048576 := hH.1.1
  refine AC.of_awp (T := T) T_ok hm Tryz.call85 Tryz.func85 rfl rfl rfl ?_
  conv => whnf
  refine loop_k (ι := Nat) [1, 2] [2] (fun k => k ≤ H.clusters.length ∧ (∀ j, j < k → decide ((H.clusters.getD j default).name = s) = false)) (fun k => H.clusters.length - k) 0 (fun k => [(5, .pv (vint k))]) (fun _ => []) [] ⟨Nat.zero_le _, fun j h => absurd h (by omega)⟩ ?_ (fun k hk => ?_)
  · (repeat' (first | exact PSub.rfl | exact rfl | exact PSubs.rfl | exact trivial | exact PSub.lit_sb rfl | refine And.intro ?_ ?_))
  obtain ⟨hkn, hinv⟩ := hk
  conv => whnf
  repeat (any_goals (first
    | (refine ⟨fun (h : (_ : Bool) = true) => ?_, fun (h : (_ : Bool) = false) => ?_⟩ <;> (try simp only [decide_eq_true_eq, decide_eq_false_iff_not, Bool.not_eq_true', Bool.not_eq_false', Int.toNat_natCast, beq_iff_eq, decide_eq_decide, beq_eq_false_iff_ne, ne_eq, reduceCtorEq] at h) <;> (conv => whnf))
    | (refine And.intro (by (try simp only [Int.toNat_natCast]); omega) ?_; conv => whnf)
    | (refine And.intro (show (_ : Bool) = true from by kernel_rfl) ?_; conv => whnf)
    | (refine .inl ⟨wrap64 (by omega), ?_⟩; conv => whnf)))
  · have e : cluAt H.clusters s = k := firstI_at (by omega) (by simpa [-List.getD_eq_getElem?_getD] using h) hinv
    exact PSub.int (by rw [cluIx, e, if_pos (by omega)])
  · refine ⟨k + 1, [], ⟨by omega, ?_⟩, by first | omega | (dsimp only; omega), ?_⟩
    rotate_left
    · (repeat' (first | exact PSub.rfl | exact rfl | exact PSubs.rfl | exact trivial | exact PSub.lit_sb rfl | refine And.intro ?_ ?_))
    intro j hj
    by_cases e : j = k
    · subst e; first | exact h | simpa [-List.getD_eq_getElem?_getD] using h | simp_all [-List.getD_eq_getElem?_getD]
    · exact hinv j (by omega)
  · have e : cluAt H.clusters s = H.clusters.length := firstI_none fun j hj => hinv j (by omega)
    exact PSub.int (by rw [cluIx, e, if_neg (by omega)])
def devIx (l : List Dev) (id : Int) : Int := if devAt l id < l.length then (devAt l id : Int) else -1
theorem ac_r22_At (H : Hom) (id : Int) (hH : smallH H) : AC Tryz.prog 73 [.pv (.agg (cHom H)), .pv (vint id)] [] (.pv (vint (devIx H.devices id))) [] := by
  have hl : H.devices.length ≤ 1048576 := hH.2.1
  refine AC.of_awp (T := T) T_ok hm Tryz.call73 Tryz.func73 rfl rfl rfl ?_
  conv => whnf
  refine loop_k (ι := Nat) [1, 2] [2] (fun k => k ≤ H.devices.length ∧ (∀ j, j < k → decide ((H.devices.getD j default).id = id) = false)) (fun k => H.devices.length - k) 0 (fun k => [(5, .pv (vint k))]) (fun _ => []) [] ⟨Nat.zero_le _, fun j h => absurd h (by omega)⟩ ?_ (fun k hk => ?_)
  · (repeat' (first | exact PSub.rfl | exact rfl | exact PSubs.rfl | exact trivial | exact PSub.lit_sb rfl | refine And.intro ?_ ?_))
  obtain ⟨hkn, hinv⟩ := hk
  conv => whnf
  repeat (any_goals (first
    | (refine ⟨fun (h : (_ : Bool) = true) => ?_, fun (h : (_ : Bool) = false) => ?_⟩ <;> (try simp only [decide_eq_true_eq, decide_eq_false_iff_not, Bool.not_eq_true', Bool.not_eq_false', Int.toNat_natCast, beq_iff_eq, decide_eq_decide, beq_eq_false_iff_ne, ne_eq, reduceCtorEq] at h) <;> (conv => whnf))
    | (refine And.intro (by (try simp only [Int.toNat_natCast]); omega) ?_; conv => whnf)
    | (refine And.intro (show (_ : Bool) = true from by kernel_rfl) ?_; conv => whnf)
    | (refine .inl ⟨wrap64 (by omega), ?_⟩; conv => whnf)))
  · have e : devAt H.devices id = k := firstI_at (by omega) (by simpa [-List.getD_eq_getElem?_getD] using h) hinv
    exact PSub.int (by rw [devIx, e, if_pos (by omega)])
  · refine ⟨k + 1, [], ⟨by omega, ?_⟩, by first | omega | (dsimp only; omega), ?_⟩
    rotate_left
    · (repeat' (first | exact PSub.rfl | exact rfl | exact PSubs.rfl | exact trivial | exact PSub.lit_sb rfl | refine And.intro ?_ ?_))
    intro j hj
    by_cases e : j = k
    · subst e; first | exact h | simpa [-List.getD_eq_getElem?_getD] using h | simp_all [-List.getD_eq_getElem?_getD]
    · exact hinv j (by omega)
  · have e : devAt H.devices id = H.devices.length := firstI_none fun j hj => hinv j (by omega)
    exact PSub.int (by rw [devIx, e, if_neg (by omega)])
theorem firstC_ix {l : List Clu} {s : ByteArray} : (cluIx l s < 0 ∧ firstC l s = none) ∨ ∃ k : Nat, cluIx l s = k ∧ k < l.length ∧ firstC l s = some (l.getD k default) := by
  rw [firstC_eq]
  unfold cluIx
  split
  · rename_i h; exact .inr ⟨_, rfl, h, rfl⟩
  · exact .inl ⟨by omega, rfl⟩
theorem ac_r22_parts (H : Hom) (d : Dev) (hH : smallH H) : AC Tryz.prog 120 [.pv (.agg (cHom H)), .pv (.agg (cDev d))] [] (.pv (vint (capE (firstC H.clusters) d))) [] := by
  have hl : H.clusters.length ≤ 1048576 := hH.1.1
  refine AC.of_awp (T := T) T_ok hm Tryz.call120 Tryz.func120 rfl rfl rfl ?_
  conv => whnf
  refine ⟨fun h => ?_, fun h => ?_⟩
  · conv => whnf
    simp only [decide_eq_true_eq] at h
    exact PSub.int (by rw [capE, if_pos (by omega)])
  conv => whnf
  refine ⟨fun h => ?_, fun h => ?_⟩ <;> (try simp only [decide_eq_true_eq, decide_eq_false_iff_not, Bool.not_eq_true', Bool.not_eq_false', Int.toNat_natCast, beq_iff_eq, decide_eq_decide, beq_eq_false_iff_ne, ne_eq, reduceCtorEq] at h) <;> (conv => whnf)
  · exact PSub.int (by rw [capE, if_pos (by omega)])
  rename_i h0
  simp only [decide_eq_false_iff_not] at h0
  rw [capE, if_neg (by omega)]
  refine loop_k (ι := Nat × Int) [2, 3] [2, 3] (fun i => i.1 ≤ d.clusters.length ∧ (0 ≤ i.2 ∧ i.2 ≤ i.1 * 1048576) ∧ forI (capStep (firstC H.clusters) d) (d.clusters.length - i.1) i.1 i.2 = forI (capStep (firstC H.clusters) d) d.clusters.length 0 0) (fun i => d.clusters.length - i.1) (0, 0) (fun i => [(5, .pv (vint i.2)), (6, .pv (vint i.1))]) (fun _ => []) [] ⟨Nat.zero_le _, by simp, rfl⟩ ?_ (fun i hk => ?_)
  · (repeat' (first | exact PSub.rfl | exact rfl | exact PSubs.rfl | exact trivial | exact PSub.lit_sb rfl | refine And.intro ?_ ?_))
  obtain ⟨k, n⟩ := i
  obtain ⟨hkn, hn, hfor⟩ := hk
  simp only at hkn hn hfor
  conv => whnf
  refine ⟨fun h => ?_, fun h => ?_⟩ <;> (try simp only [decide_eq_true_eq, decide_eq_false_iff_not, Bool.not_eq_true', Bool.not_eq_false', Int.toNat_natCast, beq_iff_eq, decide_eq_decide, beq_eq_false_iff_ne, ne_eq, reduceCtorEq] at h) <;> (conv => whnf)
  · repeat (any_goals (first
      | (refine ⟨fun (h : (_ : Bool) = true) => ?_, fun (h : (_ : Bool) = false) => ?_⟩ <;> (try simp only [decide_eq_true_eq, decide_eq_false_iff_not, Bool.not_eq_true', Bool.not_eq_false', Int.toNat_natCast, beq_iff_eq, decide_eq_decide, beq_eq_false_iff_ne, ne_eq, reduceCtorEq] at h) <;> (conv => whnf))
      | (refine .inl ⟨_, ac_r22_cluster H (d.clusters.getD k default) hH, ?_⟩; conv => whnf)
      | (refine .inl ⟨_, ac_r04_Index d.clusters (d.clusters.getD k default) (by omega), ?_⟩; conv => whnf)
      | (refine And.intro (by (try simp only [Int.toNat_natCast]); omega) ?_; conv => whnf)
      | (refine And.intro (show (_ : Bool) = true from by kernel_rfl) ?_; conv => whnf)
      | (refine .inl ⟨wrap64 (by omega), ?_⟩; conv => whnf)))
    · have hc : firstC H.clusters (d.clusters.getD k default) = none := by
        rcases firstC_ix (l := H.clusters) (s := d.clusters.getD k default) with ⟨_, e⟩ | ⟨j, e, _, _⟩
        · exact e
        · omega
      rw [forI_stop hfor (by omega) (r := 8) (by rw [capStep, hc])]
      exact PSub.rfl
    · rcases firstC_ix (l := H.clusters) (s := d.clusters.getD k default) with ⟨_, _⟩ | ⟨j, e, hj, hc⟩
      · omega
      rw [forI_stop hfor (by omega) (r := 9) (by rw [capStep, hc]; simp only; rw [if_pos h])]
      exact PSub.rfl
    · rcases firstC_ix (l := H.clusters) (s := d.clusters.getD k default) with ⟨_, _⟩ | ⟨j, e, hj, hc⟩
      · omega
      rw [e]
      have hcl : (H.clusters.getD j default).attrs.length ≤ 1048576 := (hH.1.2 j).1
      refine And.intro (by omega) ?_
      conv => whnf
      refine .inl ⟨wrap64 (by simp only [Int.toNat_natCast]; omega), ?_⟩
      conv => whnf
      repeat (any_goals (first
        | (refine ⟨fun (h : (_ : Bool) = true) => ?_, fun (h : (_ : Bool) = false) => ?_⟩ <;> (try simp only [decide_eq_true_eq, decide_eq_false_iff_not, Bool.not_eq_true', Bool.not_eq_false', Int.toNat_natCast, beq_iff_eq, decide_eq_decide, beq_eq_false_iff_ne, ne_eq, reduceCtorEq] at h) <;> (conv => whnf))
        | (refine And.intro (by (try simp only [Int.toNat_natCast]); omega) ?_; conv => whnf)
        | (refine And.intro (show (_ : Bool) = true from by kernel_rfl) ?_; conv => whnf)
        | (refine .inl ⟨wrap64 (by omega), ?_⟩; conv => whnf)))
      refine ⟨(k + 1, n + (H.clusters.getD j default).attrs.length), [], ⟨by dsimp only; omega, ⟨by dsimp only; omega, by dsimp only; omega⟩, forI_next hfor (by omega) (by rw [capStep, hc]; simp only; rw [if_neg h])⟩, by dsimp only; omega, ?_⟩
      (repeat' (first | exact PSub.rfl | exact rfl | exact PSubs.rfl | exact trivial | exact PSub.lit_sb rfl | refine And.intro ?_ ?_))
  · rw [forI_end hfor (by omega)]
    repeat (any_goals (first
      | (refine ⟨fun (h : (_ : Bool) = true) => ?_, fun (h : (_ : Bool) = false) => ?_⟩ <;> (try simp only [decide_eq_true_eq, decide_eq_false_iff_not, Bool.not_eq_true', Bool.not_eq_false', Int.toNat_natCast, beq_iff_eq, decide_eq_decide, beq_eq_false_iff_ne, ne_eq, reduceCtorEq] at h) <;> (conv => whnf))
      | (refine And.intro (by (try simp only [Int.toNat_natCast]); omega) ?_; conv => whnf)
      | (refine And.intro (show (_ : Bool) = true from by kernel_rfl) ?_; conv => whnf)
      | (refine .inl ⟨wrap64 (by omega), ?_⟩; conv => whnf)))
    · exact PSub.int (by simp only; rw [if_pos h])
    · exact PSub.int (by simp only; rw [if_neg h])
set_option maxHeartbeats 2000000 in
theorem ac_r22_one (H : Hom) (i : Nat) (hH : smallH H) (hi : i < H.devices.length) : AC Tryz.prog 83 [.pv (.agg (cHom H)), .pv (vint i)] [] (.pv (vint (devE (firstC H.clusters) H.devices i))) [] := by
  have hl : H.devices.length ≤ 1048576 := hH.2.1
  have hpi : (↑i - 1 : Int).toNat = i - 1 := by omega
  refine AC.of_awp (T := T) T_ok hm Tryz.call83 Tryz.func83 rfl rfl rfl ?_
  conv => whnf
  repeat (any_goals (first
    | (refine ⟨fun (h : (_ : Bool) = true) => ?_, fun (h : (_ : Bool) = false) => ?_⟩ <;> (try simp only [decide_eq_true_eq, decide_eq_false_iff_not, Bool.not_eq_true', Bool.not_eq_false', Int.toNat_natCast, beq_iff_eq, decide_eq_decide, beq_eq_false_iff_ne, ne_eq, reduceCtorEq] at h) <;> (conv => whnf))
    | (refine And.intro (by (try simp only [Int.toNat_natCast]); omega) ?_; conv => whnf)
    | (refine And.intro (show (_ : Bool) = true from by kernel_rfl) ?_; conv => whnf)
    | (refine .inl ⟨wrap64 (by omega), ?_⟩; conv => whnf)))
  all_goals try rw [hpi] at h
  all_goals try (exfalso; simp_all [-List.getD_eq_getElem?_getD]; done)
  all_goals try (refine PSub.int ?_; simp only [devE, numB]; simp_all [-List.getD_eq_getElem?_getD]; done)
  all_goals try (refine PSub.int ?_; simp only [devE, numB]; simp_all [-List.getD_eq_getElem?_getD]; omega)
  all_goals trace "left"
  all_goals
    have e0 : devE (firstC H.clusters) H.devices i = if anyN i (fun j => decide ((H.devices.getD j default).eui = (H.devices.getD i default).eui)) = true then 9 else if validName (H.devices.getD i default).room = false then 10 else capE (firstC H.clusters) (H.devices.getD i default) := by
      have hn : numB (H.devices.getD i default) = true := by simp only [numB]; simp_all [-List.getD_eq_getElem?_getD]
      simp only [devE]; rw [hn]; simp only [Bool.true_eq_false, if_false]
      rw [if_neg (by omega)]
    rw [e0]
    refine loop_k (ι := Nat) [1, 2, 5] [2, 5] (fun k => k ≤ i ∧ (∀ j, j < k → decide ((H.devices.getD j default).eui = (H.devices.getD i default).eui) = false)) (fun k => i - k) 0 (fun k => [(6, .pv (vint k))]) (fun _ => []) [] ⟨Nat.zero_le _, fun j h => absurd h (by omega)⟩ ?_ (fun k hk => ?_)
    · (repeat' (first | exact PSub.rfl | exact rfl | exact PSubs.rfl | exact trivial | exact PSub.lit_sb rfl | refine And.intro ?_ ?_))
    obtain ⟨hkn, hinv⟩ := hk
    conv => whnf
    clear e0
    repeat (any_goals (first
      | (refine ⟨fun (h : (_ : Bool) = true) => ?_, fun (h : (_ : Bool) = false) => ?_⟩ <;> (try simp only [decide_eq_true_eq, decide_eq_false_iff_not, Bool.not_eq_true', Bool.not_eq_false', Int.toNat_natCast, beq_iff_eq, decide_eq_decide, beq_eq_false_iff_ne, ne_eq, reduceCtorEq] at h) <;> (conv => whnf))
      | (refine .inl ⟨_, ac_r04_Valid (H.devices.getD i default).room, ?_⟩; conv => whnf)
      | (refine .inl ⟨_, ac_r22_parts H (H.devices.getD i default) hH, ?_⟩; conv => whnf)
      | (refine And.intro (by (try simp only [Int.toNat_natCast]); omega) ?_; conv => whnf)
      | (refine And.intro (show (_ : Bool) = true from by kernel_rfl) ?_; conv => whnf)
      | (refine .inl ⟨wrap64 (by omega), ?_⟩; conv => whnf)))
    · have e := anyN_true (n := i) (k := k) (p := fun j => decide ((H.devices.getD j default).eui = (H.devices.getD i default).eui)) (by omega) (by simpa [-List.getD_eq_getElem?_getD] using h)
      exact PSub.int (by rw [if_pos e])
    · refine ⟨k + 1, [], ⟨by omega, ?_⟩, by first | omega | (dsimp only; omega), ?_⟩
      rotate_left
      · (repeat' (first | exact PSub.rfl | exact rfl | exact PSubs.rfl | exact trivial | exact PSub.lit_sb rfl | refine And.intro ?_ ?_))
      intro j hj
      by_cases e : j = k
      · subst e; first | exact h | simpa [-List.getD_eq_getElem?_getD] using h | simp_all [-List.getD_eq_getElem?_getD]
      · exact hinv j (by omega)
    · have e := anyN_false (n := i) (p := fun j => decide ((H.devices.getD j default).eui = (H.devices.getD i default).eui)) (fun j hj => hinv j (by omega))
      exact PSub.int (by rw [e, if_neg (by simp), if_pos h])
    · have e := anyN_false (n := i) (p := fun j => decide ((H.devices.getD j default).eui = (H.devices.getD i default).eui)) (fun j hj => hinv j (by omega))
      exact PSub.int (by rw [e, if_neg (by simp), if_neg (by rw [h]; decide)])
end Go.Abs

namespace Go.Abs
open Go.Proofs
set_option maxRecDepth 10000
theorem ac_r22_Check (H : Hom) (hH : smallH H) : AC Tryz.prog 35 [.pv (.agg (cHom H))] [] (.pv (vint (homE H))) [] := by
  have hl : H.devices.length ≤ 1048576 := hH.2.1
  refine AC.of_awp (T := T) T_ok hm Tryz.call35 Tryz.func35 rfl rfl rfl ?_
  conv => whnf
  refine .inl ⟨_, ac_r21_All H.clusters hH.1, ?_⟩
  conv => whnf
  refine ⟨fun h => ?_, fun h => ?_⟩ <;> (try simp only [decide_eq_true_eq, decide_eq_false_iff_not, Bool.not_eq_true', Bool.not_eq_false', Int.toNat_natCast, beq_iff_eq, decide_eq_decide, beq_eq_false_iff_ne, ne_eq, reduceCtorEq] at h) <;> (conv => whnf)
  · exact PSub.int (by rw [homE, if_pos h])
  rw [homE, if_neg (by simpa using h)]
  refine ⟨fun h => ?_, fun h => ?_⟩ <;> (try simp only [decide_eq_true_eq, decide_eq_false_iff_not, Bool.not_eq_true', Bool.not_eq_false', Int.toNat_natCast, beq_iff_eq, decide_eq_decide, beq_eq_false_iff_ne, ne_eq, reduceCtorEq] at h) <;> (conv => whnf)
  · exact PSub.int (by rw [if_pos (by omega)])
  rw [if_neg (by omega)]
  refine loop_k (ι := Nat) [1] [1] (fun k => k ≤ H.devices.length ∧ (∀ j, j < k → devE (firstC H.clusters) H.devices j = 0)) (fun k => H.devices.length - k) 0 (fun k => [(4, .pv (vint k))]) (fun _ => []) [] ⟨Nat.zero_le _, fun j h => absurd h (by omega)⟩ ?_ (fun k hk => ?_)
  · (repeat' (first | exact PSub.rfl | exact rfl | exact PSubs.rfl | exact trivial | exact PSub.lit_sb rfl | refine And.intro ?_ ?_))
  obtain ⟨hkn, hinv⟩ := hk
  conv => whnf
  refine ⟨fun h => ?_, fun h => ?_⟩ <;> (try simp only [decide_eq_true_eq, decide_eq_false_iff_not, Bool.not_eq_true', Bool.not_eq_false', Int.toNat_natCast, beq_iff_eq, decide_eq_decide, beq_eq_false_iff_ne, ne_eq, reduceCtorEq] at h) <;> (conv => whnf)
  · refine .inl ⟨_, ac_r22_one H k hH (by omega), ?_⟩
    conv => whnf
    repeat (any_goals (first
      | (refine ⟨fun (h : (_ : Bool) = true) => ?_, fun (h : (_ : Bool) = false) => ?_⟩ <;> (try simp only [decide_eq_true_eq, decide_eq_false_iff_not, Bool.not_eq_true', Bool.not_eq_false', Int.toNat_natCast, beq_iff_eq, decide_eq_decide, beq_eq_false_iff_ne, ne_eq, reduceCtorEq] at h) <;> (conv => whnf))
      | (refine And.intro (by (try simp only [Int.toNat_natCast]); omega) ?_; conv => whnf)
      | (refine And.intro (show (_ : Bool) = true from by kernel_rfl) ?_; conv => whnf)
      | (refine .inl ⟨wrap64 (by omega), ?_⟩; conv => whnf)))
    · exact PSub.int (by rw [firstE_at (k := k) (by omega) h hinv])
    · refine ⟨k + 1, [], ⟨by omega, ?_⟩, by first | omega | (dsimp only; omega), ?_⟩
      rotate_left
      · (repeat' (first | exact PSub.rfl | exact rfl | exact PSubs.rfl | exact trivial | exact PSub.lit_sb rfl | refine And.intro ?_ ?_))
      intro j hj
      by_cases e : j = k
      · subst e; first | exact h | simpa [-List.getD_eq_getElem?_getD] using h | simp_all [-List.getD_eq_getElem?_getD]
      · exact hinv j (by omega)
  · exact PSub.int (by rw [firstE_none fun j hj => hinv j (by omega)])
end Go.Abs

namespace Go.Abs
open Go.Proofs
set_option maxRecDepth 10000
theorem forI_steps {ρ σ : Type} {f : Nat → σ → ρ ⊕ σ} : ∀ (n k : Nat) (s s' : σ), forI f n k s = .inr s' → ∀ i, k ≤ i → i < k + n → ∃ t t', f i t = .inr t'
  | 0, k, s, s', _, i, h1, h2 => by omega
  | n + 1, k, s, s', e, i, h1, h2 => by
    simp only [forI] at e
    cases hf : f k s with
    | inl r => rw [hf] at e; cases e
    | inr t =>
      rw [hf] at e
      by_cases hi : i = k
      · subst hi; exact ⟨s, t, hf⟩
      · exact forI_steps n (k + 1) t s' e i (by omega) (by omega)
theorem capE_some {f : ByteArray → Option Clu} {d : Dev} (h : capE f d = 0) {i : Nat} (hi : i < d.clusters.length) : ∃ c, f (d.clusters.getD i default) = some c := by
  unfold capE at h
  split at h
  · cases h
  · split at h
    · rename_i e he
      subst h
      exfalso
      have key : ∀ n k s, forI (capStep f d) n k s ≠ .inl 0 := by
        intro n
        induction n with
        | zero => intro k s e; cases e
        | succ n ih =>
          intro k s e
          simp only [forI] at e
          cases hf : capStep f d k s with
          | inr t => rw [hf] at e; exact ih _ _ e
          | inl r =>
            rw [hf] at e; cases e
            unfold capStep at hf
            split at hf
            · cases hf
            · split at hf <;> cases hf
      exact key _ _ _ he
    · rename_i m he
      obtain ⟨t, t', e⟩ := forI_steps _ _ _ _ he i (Nat.zero_le _) (by omega)
      unfold capStep at e
      split at e
      · cases e
      · rename_i c hc; exact ⟨c, hc⟩
theorem devIx_find {H : Hom} {id : Int} (hv : homE H = 0) : (devIx H.devices id < 0 ∧ findB H id = false) ∨ (devIx H.devices id = (devAt H.devices id : Int) ∧ devAt H.devices id < H.devices.length ∧ findB H id = true ∧ findD H id = H.devices.getD (devAt H.devices id) default) := by
  have : findB H id = decide (devAt H.devices id < H.devices.length) := by simp [findB, hv]
  unfold devIx
  split
  · rename_i h
    have e : findB H id = true := by simp [this, h]
    exact .inr ⟨rfl, h, e, by rw [findD, if_pos e]⟩
  · rename_i h; exact .inl ⟨by omega, by simp [this, h]⟩
theorem firstC_name {l : List Clu} {s : ByteArray} {c : Clu} (h : firstC l s = some c) : c.name = s := by
  have := List.find?_some h
  simpa using this
theorem ac_r22_Keys (H : Hom) (id : Int) (hH : smallH H) : AC Tryz.prog 37 [.pv (.agg (cHom H)), .pv (vint id)] [] (.pv (roL 3 cKey (keysL H id))) [] := by
  have hl : H.clusters.length ≤ 1048576 := hH.1.1
  have hd4 := @findD_length H id
  refine AC.of_awp (T := T) T_ok hm Tryz.call37 Tryz.func37 rfl rfl rfl ?_
  conv => whnf
  repeat (any_goals (first
    | (refine ⟨fun (h : (_ : Bool) = true) => ?_, fun (h : (_ : Bool) = false) => ?_⟩ <;> (try simp only [decide_eq_true_eq, decide_eq_false_iff_not, Bool.not_eq_true', Bool.not_eq_false', Int.toNat_natCast, beq_iff_eq, decide_eq_decide, beq_eq_false_iff_ne, ne_eq, reduceCtorEq] at h) <;> (conv => whnf))
    | (refine .inl ⟨_, ac_r22_At H id hH, ?_⟩; conv => whnf)
    | (refine .inl ⟨_, ac_r22_Check H hH, ?_⟩; conv => whnf)
    | (refine And.intro (by (try simp only [Int.toNat_natCast]); omega) ?_; conv => whnf)
    | (refine And.intro (show (_ : Bool) = true from by kernel_rfl) ?_; conv => whnf)
    | (refine .inl ⟨wrap64 (by omega), ?_⟩; conv => whnf)))
  · have e : findB H id = false := by simp [findB, h]
    exact PSub.nilL (by rw [keysL, findD_none e]; rfl)
  · rename_i hv
    have e : findB H id = false := by rcases devIx_find (id := id) hv with h | h; exact h.2; omega
    exact PSub.nilL (by rw [keysL, findD_none e]; rfl)
  · rename_i hv
    rcases devIx_find (id := id) hv with h2 | ⟨h2, h3, h4, h5⟩
    · omega
    have hcap := findD_cap h4
    rw [h2]
    refine And.intro (by omega) ?_
    simp only [Int.toNat_natCast]
    rw [← h5]
    have hk : keysL H id = keysTo (firstC H.clusters) id (findD H id).clusters (findD H id).clusters.length := by rw [keysL, keysTo, List.take_length]
    rw [hk]
    generalize findD H id = d at *
    conv => whnf
    refine loop_k (ι := Nat) [1, 2, 7] [2, 7] (fun k => k ≤ d.clusters.length ∧ True) (fun k => d.clusters.length - k) 0 (fun k => [(6, .own 500), (8, .pv (vint k))]) (fun k => [(500, rowL 3 cKey (keysTo (firstC H.clusters) id d.clusters k))]) [] ⟨Nat.zero_le _, trivial⟩ ?_ (fun k hk => ?_)
    · (repeat' (first | exact PSub.rfl | exact rfl | exact PSubs.rfl | exact trivial | exact PSub.lit_sb rfl | refine And.intro ?_ ?_))
    obtain ⟨hkn, hinv⟩ := hk
    conv => whnf
    refine ⟨fun h => ?_, fun h => ?_⟩ <;> (try simp only [decide_eq_true_eq, decide_eq_false_iff_not, Bool.not_eq_true', Bool.not_eq_false', Int.toNat_natCast, beq_iff_eq, decide_eq_decide, beq_eq_false_iff_ne, ne_eq, reduceCtorEq] at h) <;> (conv => whnf)
    · obtain ⟨c, h1⟩ := capE_some hcap (i := k) (by omega)
      have hkl := keysTo_len (f := firstC H.clusters) (fun _ _ => firstC_small hH.1) (id := id) (l := d.clusters) (k := k) (by omega)
      have hn := keysTo_succ (f := firstC H.clusters) (id := id) (l := d.clusters) (k := k) (by omega)
      have hcl : c.attrs.length ≤ 1048576 := (firstC_small hH.1 h1).1
      have hk1 : keysOf1 (firstC H.clusters) id (d.clusters.getD k default) = c.attrs.map fun a => ⟨id, c.name, a.name⟩ := by rw [keysOf1, h1, firstC_name h1]; rfl
      have hcn := firstC_name h1
      repeat (any_goals (first
        | (refine ⟨fun (h : (_ : Bool) = true) => ?_, fun (h : (_ : Bool) = false) => ?_⟩ <;> (try simp only [decide_eq_true_eq, decide_eq_false_iff_not, Bool.not_eq_true', Bool.not_eq_false', Int.toNat_natCast, beq_iff_eq, decide_eq_decide, beq_eq_false_iff_ne, ne_eq, reduceCtorEq] at h) <;> (conv => whnf))
        | (refine .inl ⟨_, ac_r22_cluster H (d.clusters.getD k default) hH, ?_⟩; conv => whnf)
        | (refine And.intro (by (try simp only [Int.toNat_natCast]); omega) ?_; conv => whnf)
        | (refine And.intro (show (_ : Bool) = true from by kernel_rfl) ?_; conv => whnf)
        | (refine .inl ⟨wrap64 (by omega), ?_⟩; conv => whnf)))
      rcases firstC_ix (l := H.clusters) (s := d.clusters.getD k default) with ⟨_, h6⟩ | ⟨j, h6, h7, h8⟩
      · rw [h1] at h6; cases h6
      rw [h1] at h8; cases h8
      rw [h6]
      repeat (any_goals (first
        | (refine ⟨fun (h : (_ : Bool) = true) => ?_, fun (h : (_ : Bool) = false) => ?_⟩ <;> (try simp only [decide_eq_true_eq, decide_eq_false_iff_not, Bool.not_eq_true', Bool.not_eq_false', Int.toNat_natCast, beq_iff_eq, decide_eq_decide, beq_eq_false_iff_ne, ne_eq, reduceCtorEq] at h) <;> (conv => whnf))
        | (refine And.intro (by (try simp only [Int.toNat_natCast]); omega) ?_; conv => whnf)
        | (refine And.intro (show (_ : Bool) = true from by kernel_rfl) ?_; conv => whnf)
        | (refine .inl ⟨wrap64 (by omega), ?_⟩; conv => whnf)))
      simp only [Int.toNat_natCast] at *
      generalize hc : H.clusters.getD j default = c at *
      refine loop_k (ι := Nat) [1, 2, 7, 8, 9] [2, 7, 9] (fun i => i ≤ c.attrs.length ∧ True) (fun i => c.attrs.length - i) 0 (fun i => [(6, .own 500), (10, .pv (vint i))]) (fun i => [(500, rowL 3 cKey (keysTo (firstC H.clusters) id d.clusters k ++ (c.attrs.take i).map fun a => ⟨id, c.name, a.name⟩))]) [] ⟨Nat.zero_le _, trivial⟩ ?_ (fun i hk => ?_)
      · (repeat' (first | exact PSub.rfl | exact rfl | exact PSubs.rfl | exact trivial | exact PSub.lit_sb rfl | refine And.intro ?_ ?_)); all_goals (first | (simp; done) | (intro i hi; simp [-List.getD_eq_getElem?_getD]; exact PSubs.rfl))
      obtain ⟨hkn, hinv⟩ := hk
      conv => whnf
      have hj : (keysTo (firstC H.clusters) id d.clusters k ++ (c.attrs.take i).map fun a => (⟨id, c.name, a.name⟩ : Key)).length ≤ 8388608 := by
        simp only [List.length_append, List.length_map, List.length_take]; omega
      repeat (any_goals (first
        | (refine ⟨fun (h : (_ : Bool) = true) => ?_, fun (h : (_ : Bool) = false) => ?_⟩ <;> (try simp only [decide_eq_true_eq, decide_eq_false_iff_not, Bool.not_eq_true', Bool.not_eq_false', Int.toNat_natCast, beq_iff_eq, decide_eq_decide, beq_eq_false_iff_ne, ne_eq, reduceCtorEq] at h) <;> (conv => whnf))
        | (refine And.intro (by (try simp only [Int.toNat_natCast]); omega) ?_; conv => whnf)
        | (refine And.intro (show (_ : Bool) = true from by kernel_rfl) ?_; conv => whnf)
        | (refine .inl ⟨wrap64 (by omega), ?_⟩; conv => whnf)))
      · have e : (c.attrs.take (i + 1)).map (fun a => (⟨id, c.name, a.name⟩ : Key)) = (c.attrs.take i).map (fun a => (⟨id, c.name, a.name⟩ : Key)) ++ [⟨id, c.name, (c.attrs.getD i default).name⟩] := by
          rw [take_succ_getD (by omega)]; simp only [List.map_append, List.map_cons, List.map_nil]
        refine ⟨i + 1, [(500, 63)], ⟨by omega, trivial⟩, by omega, ?_⟩
        rw [e, ← List.append_assoc]
        (repeat' (first | exact PSub.rfl | exact rfl | exact PSubs.rfl | exact trivial | exact PSub.lit_sb rfl | refine And.intro ?_ ?_))
        · simp; omega
        · refine rows_snocF (fun i hi => by simp only [if_pos hi]; exact PSubs.rfl) (by simp only [if_neg (Nat.lt_irrefl _), Nat.sub_self]; exact PSubs.rfl)
      · refine ⟨k + 1, [], ⟨by omega, trivial⟩, by omega, ?_⟩
        rw [hn, hk1]
        (repeat' (first | exact PSub.rfl | exact rfl | exact PSubs.rfl | exact trivial | exact PSub.lit_sb rfl | refine And.intro ?_ ?_))
        · rw [List.take_of_length_le (by omega)]
        · rw [List.take_of_length_le (by omega)]; intro i hi; exact PSubs.rfl
    · have e : k = d.clusters.length := by omega
      subst e
      repeat (any_goals (first
        | (refine ⟨fun (h : (_ : Bool) = true) => ?_, fun (h : (_ : Bool) = false) => ?_⟩ <;> (try simp only [decide_eq_true_eq, decide_eq_false_iff_not, Bool.not_eq_true', Bool.not_eq_false', Int.toNat_natCast, beq_iff_eq, decide_eq_decide, beq_eq_false_iff_ne, ne_eq, reduceCtorEq] at h) <;> (conv => whnf))
        | (refine And.intro (by (try simp only [Int.toNat_natCast]); omega) ?_; conv => whnf)
        | (refine And.intro (show (_ : Bool) = true from by kernel_rfl) ?_; conv => whnf)
        | (refine .inl ⟨wrap64 (by omega), ?_⟩; conv => whnf)))
      exact .rfl
end Go.Abs

namespace Go.Abs
open Go.Proofs
set_option maxRecDepth 10000
theorem keyB_item (k : Key) (x : Item) : keyB k [.agg (cItem x)] = decide (x.key = k) := rfl
end Go.Abs

namespace Go.Abs
open Go.Proofs
set_option maxRecDepth 10000
theorem putL_length {l : List Item} {i : Nat} {v : Val} : (putL l i v).length = l.length := by unfold putL; split <;> simp
theorem ac_device_Set (H : Hom) (l : List Item) (k : Key) (v : Val) (hH : smallH H) (hl : smallL l) : AC Tryz.prog 75 [.pv (.agg (cHom H)), .pv (roL 7 cItem l), .pv (.agg (cKey k)), .pv (.agg (cVal v))] [] (.pv (.tup [roL 7 cItem (setL H l k v false), vint (setE H l k v false)])) [] := by
  refine AC.of_awp (T := T) T_ok hm Tryz.call75 Tryz.func75 rfl rfl rfl ?_
  conv => whnf
  refine .inl ⟨_, ac_device_set_c H l k v false hH hl, ?_⟩
  conv => whnf
  refine ⟨?_, ?_⟩ <;> (conv => whnf)
  · exact .rfl
  · exact .rfl
end Go.Abs

namespace Go.Abs
open Go.Proofs
variable [Globals]
theorem dropD_length (l : List Item) (k : Key) : (dropD l k).length ≤ l.length := List.length_filter_le _ _
end Go.Abs

namespace Go.Abs
open Go.Proofs
set_option maxRecDepth 10000
theorem ac_shadow_Drop_1 (x : Item) (k : Key) : AC Tryz.prog 155 [.pv (.agg (cItem x)), .pv (.cell (cKey k))] [] (.pv (vbool (decide (x.key = k)))) [] := by
  refine AC.of_awp (T := T) T_ok hm Tryz.call155 Tryz.func155 rfl rfl rfl ?_
  conv => whnf
  repeat (any_goals (first
    | (refine ⟨fun (h : (_ : Bool) = true) => ?_, fun (h : (_ : Bool) = false) => ?_⟩ <;> (try simp only [decide_eq_true_eq, decide_eq_false_iff_not, Bool.not_eq_true', Bool.not_eq_false', Int.toNat_natCast, beq_iff_eq, decide_eq_decide, beq_eq_false_iff_ne, ne_eq, reduceCtorEq] at h) <;> (conv => whnf))
    | (refine And.intro (by (try simp only [Int.toNat_natCast]); omega) ?_; conv => whnf)
    | (refine And.intro (show (_ : Bool) = true from by kernel_rfl) ?_; conv => whnf)
    | (refine .inl ⟨wrap64 (by omega), ?_⟩; conv => whnf)))
  refine PSub.sb ?_
  obtain ⟨⟨a, b, c⟩, v, n⟩ := x
  obtain ⟨d, e, f⟩ := k
  rw [Bool.eq_iff_iff]; simp
end Go.Abs

namespace Go.Abs
open Go.Proofs
set_option maxRecDepth 10000
theorem room_ok {H : Hom} {dev : Int} (h : findB H dev = true) : (findD H dev).room ≠ ⟨#[]⟩ := by
  have hb := h
  simp only [findB, Bool.and_eq_true, decide_eq_true_eq] at hb
  have hd := homE_dev hb.1 hb.2
  rw [findD, if_pos h]
  intro e
  unfold devE at hd
  rw [e] at hd
  have hv : validName ⟨#[]⟩ = false := by decide
  rw [hv] at hd
  (repeat' split at hd) <;> first | omega | (simp_all; done)
end Go.Abs

namespace Go.Abs
open Go.Proofs
set_option maxRecDepth 10000
theorem take_set_succ {α : Type} {l : List α} {n : Nat} {x : α} (h : n < l.length) : (l.set n x).take (n + 1) = l.take n ++ [x] := by
  rw [List.take_add_one, List.getElem?_set_self h]
  congr 1
  rw [List.take_set_of_le (Nat.le_refl _)]
theorem getD_takeI {l : List Item} {n q : Nat} (h : q < n) : (l.take n).getD q default = l.getD q default := by
  simp only [List.getD]; rw [List.getElem?_take_of_lt h]
theorem ac_slices_DeleteFunc_Item (l : List Item) (gb : List PV → Bool) (gi : List PV → Int) (hl : l.length ≤ 1048576) : AC Tryz.prog 154 [.own 900000, .clo (fun xs => ∃ x : Item, xs = [.agg (cItem x)]) true gb gi] [(900000, rowL 7 cItem l)] (.own 1) [(900000, .gone), (1, rowL 7 cItem (l.filter fun x => !gb [.agg (cItem x)]))] := by
  have hq : ∀ x : Item, gb [.agg (cItem x)] = (fun x => gb [.agg (cItem x)]) x := fun _ => rfl
  refine AC.of_awp_gen (T := T) T_ok hm Tryz.call154 Tryz.func154 rfl rfl rfl rfl rfl rfl ?_
  conv => whnf
  refine .inl ⟨_, ac_slices_IndexFunc_Item l gb gi hl, ?_⟩
  conv => whnf
  generalize hp : (fun x : Item => !gb [.agg (cItem x)]) = p
  have hpx : ∀ x, gb [.agg (cItem x)] = !p x := fun x => by rw [← hp]; simp
  obtain ⟨c, hc⟩ : ∃ c, c = firstI l.length fun i => gb [.agg (cItem (l.getD i default))] := ⟨_, rfl⟩
  rw [← hc]
  unfold ixI
  rcases firstI_cases (n := l.length) (p := fun i => gb [.agg (cItem (l.getD i default))]) with ⟨h1, h2, h3⟩ | ⟨h1, h2⟩
  · rw [← hc] at h1 h2 h3
    rw [if_pos h1]
    refine ⟨fun h => ?_, fun h => ?_⟩ <;> (try simp only [decide_eq_true_eq, decide_eq_false_iff_not, Bool.not_eq_true', Bool.not_eq_false', Int.toNat_natCast, beq_iff_eq, decide_eq_decide, beq_eq_false_iff_ne, ne_eq, reduceCtorEq] at h) <;> (conv => whnf)
    clear h
    have hk1 : (l.take (c + 1)).filter p = l.take c := by
      rw [fil_snoc p h1, if_neg (by rw [hpx] at h2; simpa using h2), List.append_nil]
      refine List.filter_eq_self.2 fun x hx => ?_
      obtain ⟨i, hi, rfl⟩ := List.getElem_of_mem hx
      have hi2 : i < c := by rw [List.length_take] at hi; omega
      have := h3 i hi2
      rw [hpx] at this
      simpa [List.getD, show i < l.length by omega] using this
    have hkl : (l.take c).length = c := by rw [List.length_take]; omega
    repeat (any_goals (first
      | (refine ⟨fun (h : (_ : Bool) = true) => ?_, fun (h : (_ : Bool) = false) => ?_⟩ <;> (try simp only [decide_eq_true_eq, decide_eq_false_iff_not, Bool.not_eq_true', Bool.not_eq_false', Int.toNat_natCast, beq_iff_eq, decide_eq_decide, beq_eq_false_iff_ne, ne_eq, reduceCtorEq] at h) <;> (conv => whnf))
      | (refine And.intro (by (try simp only [Int.toNat_natCast]); omega) ?_; conv => whnf)
      | (refine And.intro (show (_ : Bool) = true from by kernel_rfl) ?_; conv => whnf)
      | (refine .inl ⟨wrap64 (by omega), ?_⟩; conv => whnf)))
    refine loop_k (ι := Nat × List Item) [0, 1] [] (fun x => (c + 1 ≤ x.1 ∧ x.1 ≤ l.length ∧ x.2.length = l.length) ∧ (∀ q, x.1 ≤ q → x.2.getD q default = l.getD q default) ∧ (((l.take x.1).filter p).length < x.1 ∧ x.2.take ((l.take x.1).filter p).length = (l.take x.1).filter p)) (fun x => l.length - x.1) (c + 1, l) (fun x => [(5, .pv (vint ((l.take x.1).filter p).length)), (6, .pv (vint x.1))]) (fun x => [(900000, rowL 7 cItem x.2)]) [] ⟨⟨Nat.le_refl _, h1, rfl⟩, fun q _ => rfl, by dsimp only; rw [hk1, hkl]; exact ⟨by omega, rfl⟩⟩ ?_ (fun x hk => ?_)
    · rw [hk1, hkl]
      (repeat' (first | exact PSub.rfl | exact rfl | exact PSubs.rfl | exact trivial | exact PSub.lit_sb rfl | refine And.intro ?_ ?_))
      all_goals (intro q hq; exact PSubs.rfl)
    obtain ⟨j, cur⟩ := x
    obtain ⟨⟨hj1, hj2, hcl⟩, hrest, hil, htk⟩ := hk
    dsimp only at hj1 hj2 hcl hrest hil htk ⊢
    conv => whnf
    refine ⟨fun h => ?_, fun h => ?_⟩ <;> (try simp only [decide_eq_true_eq, decide_eq_false_iff_not, Bool.not_eq_true', Bool.not_eq_false', Int.toNat_natCast, beq_iff_eq, decide_eq_decide, beq_eq_false_iff_ne, ne_eq, reduceCtorEq] at h) <;> (conv => whnf)
    · have hfs := fil_snoc p (l := l) (k := j) (by omega)
      have hrj := hrest j (Nat.le_refl _)
      generalize hF : (l.take j).filter p = F at *
      repeat (any_goals (first
        | (refine ⟨fun (h : (_ : Bool) = true) => ?_, fun (h : (_ : Bool) = false) => ?_⟩ <;> (try simp only [decide_eq_true_eq, decide_eq_false_iff_not, Bool.not_eq_true', Bool.not_eq_false', Int.toNat_natCast, beq_iff_eq, decide_eq_decide, beq_eq_false_iff_ne, ne_eq, reduceCtorEq] at h) <;> (conv => whnf))
        | (refine And.intro (by (try simp only [Int.toNat_natCast]); omega) ?_; conv => whnf)
        | (refine And.intro (show (_ : Bool) = true from by kernel_rfl) ?_; conv => whnf)
        | (refine .inl ⟨wrap64 (by omega), ?_⟩; conv => whnf)))
      refine And.intro ⟨_, rfl⟩ ?_
      conv => whnf
      repeat (any_goals (first
        | (refine ⟨fun (h : (_ : Bool) = true) => ?_, fun (h : (_ : Bool) = false) => ?_⟩ <;> (try simp only [decide_eq_true_eq, decide_eq_false_iff_not, Bool.not_eq_true', Bool.not_eq_false', Int.toNat_natCast, beq_iff_eq, decide_eq_decide, beq_eq_false_iff_ne, ne_eq, reduceCtorEq] at h) <;> (conv => whnf))
        | (refine And.intro (by (try simp only [Int.toNat_natCast]); omega) ?_; conv => whnf)
        | (refine And.intro (show (_ : Bool) = true from by kernel_rfl) ?_; conv => whnf)
        | (refine .inl ⟨wrap64 (by omega), ?_⟩; conv => whnf)))
      · have hg : gb [.agg (cItem (cur.getD j default))] = false := h
        rw [hrj, hpx] at hg
        rw [if_pos (by simpa [-List.getD_eq_getElem?_getD] using hg)] at hfs
        refine ⟨(j + 1, cur.set F.length (cur.getD j default)), [], ⟨⟨by dsimp only; omega, by dsimp only; omega, by simp; omega⟩, fun q q1 => ?_, ?_⟩, by dsimp only; omega, ?_⟩
        · dsimp only at q1 ⊢
          rw [getD_set_ne (by omega)]
          exact hrest q (by omega)
        · dsimp only
          rw [hfs, List.length_append, List.length_singleton, take_set_succ (by omega), htk, hrj]
          exact ⟨by omega, rfl⟩
        · dsimp only
          rw [hfs, List.length_append, List.length_singleton]
          (repeat' (first | exact PSub.rfl | exact rfl | exact PSubs.rfl | exact trivial | exact PSub.lit_sb rfl | refine And.intro ?_ ?_))
          · simp
          · exact rows_set (fun j hj e => by simp only [Int.toNat_natCast]; rw [updAt_ne e]; exact PSubs.rfl) (fun hi => by simp only [Int.toNat_natCast]; rw [updAt_same]; exact PSubs.rfl)
      · have hg : gb [.agg (cItem (cur.getD j default))] = true := h
        rw [hrj, hpx] at hg
        rw [if_neg (by simpa [-List.getD_eq_getElem?_getD] using hg), List.append_nil] at hfs
        refine ⟨(j + 1, cur), [], ⟨⟨by dsimp only; omega, by dsimp only; omega, by dsimp only; omega⟩, fun q q1 => hrest q (by dsimp only at q1; omega), ?_⟩, by dsimp only; omega, ?_⟩
        · dsimp only; rw [hfs]; exact ⟨by omega, htk⟩
        · dsimp only
          rw [hfs]
          (repeat' (first | exact PSub.rfl | exact rfl | exact PSubs.rfl | exact trivial | exact PSub.lit_sb rfl | refine And.intro ?_ ?_))
          all_goals (intro q hq; exact PSubs.rfl)
    · have e : j = l.length := by omega
      subst e
      rw [List.take_length] at *
      repeat (any_goals (first
        | (refine ⟨fun (h : (_ : Bool) = true) => ?_, fun (h : (_ : Bool) = false) => ?_⟩ <;> (try simp only [decide_eq_true_eq, decide_eq_false_iff_not, Bool.not_eq_true', Bool.not_eq_false', Int.toNat_natCast, beq_iff_eq, decide_eq_decide, beq_eq_false_iff_ne, ne_eq, reduceCtorEq] at h) <;> (conv => whnf))
        | (refine And.intro (by (try simp only [Int.toNat_natCast]); omega) ?_; conv => whnf)
        | (refine And.intro (show (_ : Bool) = true from by kernel_rfl) ?_; conv => whnf)
        | (refine .inl ⟨wrap64 (by omega), ?_⟩; conv => whnf)))
      refine ⟨[(1, 41)], ?_⟩
      (repeat' (first | exact PSub.rfl | exact rfl | exact PSubs.rfl | exact trivial | exact PSub.lit_sb rfl | refine And.intro ?_ ?_))
      intro q hq
      have e : cur.getD q default = (l.filter p).getD q default := by
        rw [← htk, getD_takeI hq]
      show PSubs (fillF _ _ _ _ q) (cItem ((l.filter p).getD q default))
      rw [fillF_eq, if_neg (by simp only [Int.toNat_natCast]; omega), ← e]
      exact PSubs.rfl
  · rw [← hc] at h1
    rw [if_neg (by omega)]
    refine ⟨fun h => ?_, fun h => ?_⟩ <;> (try simp only [decide_eq_true_eq, decide_eq_false_iff_not, Bool.not_eq_true', Bool.not_eq_false', Int.toNat_natCast, beq_iff_eq, decide_eq_decide, beq_eq_false_iff_ne, ne_eq, reduceCtorEq] at h) <;> (conv => whnf)
    · have hall : l.filter p = l := List.filter_eq_self.2 fun x hx => by
        obtain ⟨i, hi, rfl⟩ := List.getElem_of_mem hx
        have := h2 i hi
        rw [hpx] at this
        simpa [List.getD, hi] using this
      rw [hall]
      refine ⟨[(1, 900000)], ?_⟩
      (repeat' (first | exact PSub.rfl | exact rfl | exact PSubs.rfl | exact trivial | exact PSub.lit_sb rfl | refine And.intro ?_ ?_))
      all_goals (intro q hq; exact PSubs.rfl)
    · exact absurd trivial h
theorem dropD_eq (l : List Item) (k : Key) : (l.filter fun x => !keyB k [.agg (cItem x)]) = dropD l k := by
  unfold dropD
  congr 1
  funext x
  rw [keyB_item]
  by_cases h : x.key = k <;> simp [h]
theorem ac_DeleteFunc_shadow (l : List Item) (k : Key) (hl : l.length ≤ 1048576) : AC Tryz.prog 154 [.own 900000, .fn 155 [.pv (.cell (cKey k))]] [(900000, rowL 7 cItem l)] (.own 1) [(900000, .gone), (1, rowL 7 cItem (dropD l k))] := by
  rw [← dropD_eq]
  refine AC.with_fn_rows (caps := [.cell (cKey k)]) (pre := [.own 900000]) (post := []) (ac_slices_DeleteFunc_Item l (keyB k) (fun _ => 0) hl) Tryz.call155 rfl rfl rfl rfl rfl ?_
  rintro xs ⟨x, rfl⟩
  exact ac_shadow_Drop_1 x k
theorem ac_shadow_Drop_m (s : Shd) (k : Key) (hs : smallSh s) : AC Tryz.prog 121 [.pv (.agg (cShd s)), .pv (.agg (cKey k))] [] (.mix (mShd (dropS s k) (.own 0) (.own 1))) [(0, rowL 7 cItem s.reported), (1, rowL 7 cItem (dropD s.desired k))] := by
  refine AC.of_awp_cel (T := T) T_ok hm Tryz.call121 Tryz.func121 rfl rfl rfl rfl rfl rfl ?_
  conv => whnf
  repeat (any_goals (first
    | (refine ⟨fun (h : (_ : Bool) = true) => ?_, fun (h : (_ : Bool) = false) => ?_⟩ <;> (try simp only [decide_eq_true_eq, decide_eq_false_iff_not, Bool.not_eq_true', Bool.not_eq_false', Int.toNat_natCast, beq_iff_eq, decide_eq_decide, beq_eq_false_iff_ne, ne_eq, reduceCtorEq] at h) <;> (conv => whnf))
    | (refine .inr (.inr (.inr (.inr ⟨[], [(0, 700001), (1, 700002)], _, _, _, ac_shadow_twin_m s hs, rfl, ?_⟩))); conv => whnf)
    | (refine .inr (.inr (.inr (.inr ⟨[(900000, 700002)], [(1, 700003)], _, _, _, ac_DeleteFunc_shadow s.desired k hs.2, rfl, ?_⟩))); conv => whnf)
    | (refine And.intro (by (try simp only [Int.toNat_natCast]); omega) ?_; conv => whnf)
    | (refine And.intro (show (_ : Bool) = true from by kernel_rfl) ?_; conv => whnf)
    | (refine .inl ⟨wrap64 (by omega), ?_⟩; conv => whnf)))
  refine ⟨[(0, 700001), (1, 700003)], ?_⟩
  (repeat' (first | exact PSub.rfl | exact rfl | exact PSubs.rfl | exact trivial | exact PSub.lit_sb rfl | refine And.intro ?_ ?_))
  all_goals (intro i hi; exact PSubs.rfl)
end Go.Abs

namespace Go.Abs
open Go.Proofs
set_option maxRecDepth 10000
theorem rep_small {H : Hom} {s : Shd} {m : Msg} (hs : smallSh s) : smallSh (repS H s m) := by
  unfold repS
  split
  · refine ⟨?_, ?_⟩
    · show (repR H (baseS H s m).reported m.items).length ≤ 1048576
      rw [repR_length]; exact base_small hs
    · show (baseS H s m).desired.length ≤ 1048576
      rw [base_des]; exact hs.2
  · exact hs
theorem don_small {s : Shd} {e v : Int} (hs : smallSh s) : smallSh (donS s e v) := by
  unfold donS; split <;> exact hs
end Go.Abs

namespace Go.Abs
open Go.Proofs Go.RowKit
set_option maxRecDepth 10000
def cStp (x : Stp) : List PV := [vint x.kind, vint x.i, vint x.key] ++ cVal x.value
section
variable {H : Type} {enc : TypeId × Value → H} {w : World} {bulk : DataW H → Nat}
theorem op_law26_Step (hB : BulkOk bulk) : Opens enc Tryz.prog w bulk BB 73 cStp (fun x => inI64 x.i ∧ inI64 x.key) :=
  (Opens.struct hB Tryz.underlying73 (by kernel_rfl) (.cons (size := 1) rfl (by kernel_rfl) op_int (.cons (size := 1) rfl (by kernel_rfl) op_int (.cons (size := 1) rfl (by kernel_rfl) op_int (.cons (size := 3) rfl (by kernel_rfl) (op_Value hB) .nil))))).imp
    (fun x => ⟨x.1, x.2.1, x.2.2.1, x.2.2.2.1⟩) (fun _ => rfl) (fun _ h => ⟨h.2.1, h.2.2.1⟩)
theorem op_l_law26_Step (hB : BulkOk bulk) : Opens enc Tryz.prog w bulk BB 63 (fun l : List Stp => [roL 6 cStp l]) (fun l => smallL l ∧ ∀ i, i < l.length → inI64 (l.getD i default).i ∧ inI64 (l.getD i default).key) :=
  (Opens.slice hB Tryz.underlying63 (by kernel_rfl) (by decide) (op_law26_Step hB)).imp id (fun _ => rfl) (fun _ h => h)
end
end Go.Abs

namespace Go.Abs
open Go.Proofs
variable [Globals]
def rndN (H : Hom) (p : Ply) : Nat → Ply
  | 0 => p
  | t + 1 => rndP H (rndN H p t)
theorem PInv.rounds {H : Hom} {d B : Int} {p : Ply} (h : PInv H d B p) (h0 : 0 ≤ B) (hk : keysL H d ≠ []) : ∀ t : Nat, B + 20 * t < 1099511627776 → PInv H d (B + 20 * t) (rndN H p t) ∧ (rndN H p t).sent = p.sent ∧ (1 ≤ t → (rndN H p t).s.epoch = (rndN H p t).a.epoch ∧ openP (rndN H p t) ≤ (keysL H d).length - 7 * t ∧ openU (rndN H p t) ≤ (keysL H d).length - 7 * (t - ((keysL H d).length + 6) / 7))
  | 0, _ => ⟨h.weak (by omega), rfl, fun e => absurd e (by omega)⟩
  | t + 1, hB => by
    obtain ⟨i1, i0, i2⟩ := h.rounds h0 hk t (by omega)
    have hr := i1.round (by omega) (by omega) hk
    refine ⟨?_, hr.sent.trans i0, fun _ => ⟨hr.ep, ?_, ?_⟩⟩
    · have := hr.inv
      exact this.weak (by omega)
    · by_cases e : t = 0
      · subst e
        have := hr.p1
        show openP (rndP H (rndN H p 0)) ≤ _
        omega
      · obtain ⟨j1, j2, _⟩ := i2 (by omega)
        have := hr.p2 j1
        show openP (rndP H (rndN H p t)) ≤ _
        omega
    · show openU (rndP H (rndN H p t)) ≤ _
      by_cases e : t + 1 ≤ ((keysL H d).length + 6) / 7
      · have := hr.u1; omega
      · by_cases e0 : t = 0
        · have : 0 < (keysL H d).length := List.length_pos_iff.2 hk
          omega
        · obtain ⟨j1, j2, j3⟩ := i2 (by omega)
          have := hr.u2 j1 (by omega)
          omega
theorem PInv.agree {H : Hom} {d B : Int} {p : Ply} (h : PInv H d B p) (he : p.s.epoch = p.a.epoch) (hp : openP p = 0) (hu : openU p = 0) : eqlB p.s p.a = true ∧ p.a.items.length = (keysL H d).length := by
  refine ⟨?_, items_len h⟩
  have hl : p.s.reported.length = p.a.items.length := by
    have := congrArg List.length (h.skeys.trans h.good.keys.symm)
    rwa [List.length_map, List.length_map] at this
  unfold eqlB
  simp only [Bool.and_eq_true, decide_eq_true_eq]
  refine ⟨⟨⟨⟨h.sdev.trans h.adev.symm, he⟩, hl⟩, List.eq_nil_of_length_eq_zero hp⟩, fun i hi => ?_⟩
  have hu2 : aboveL p.a.items p.a.acked = [] := List.eq_nil_of_length_eq_zero hu
  have g1 : p.a.items.getD i default = p.a.items[i] := by rw [List.getD_eq_getElem?_getD, List.getElem?_eq_getElem hi]; rfl
  have g2 : p.s.reported.getD i default = p.s.reported[i]'(by omega) := by rw [List.getD_eq_getElem?_getD, List.getElem?_eq_getElem (by omega)]; rfl
  have hx : p.a.items[i] ∈ p.a.items := List.getElem_mem _
  have hle : p.a.items[i].version ≤ p.a.acked := by
    rcases Int.lt_or_le p.a.acked p.a.items[i].version with h1 | h1
    · have : p.a.items[i] ∈ aboveL p.a.items p.a.acked := mem_above.2 ⟨hx, h1⟩
      rw [hu2] at this; cases this
    · exact h1
  have hr := (h.cack _ hx hle).2
  obtain ⟨j, hj, ej⟩ := List.getElem_of_mem hr
  have hkey : ∀ k (hk1 : k < p.s.reported.length) (hk2 : k < p.a.items.length), p.s.reported[k].key = p.a.items[k].key := fun k hk1 hk2 => by
    have := congrArg (fun l => l[k]?) (h.skeys.trans h.good.keys.symm)
    simp only [List.getElem?_map, List.getElem?_eq_getElem hk1, List.getElem?_eq_getElem hk2, Option.map_some, Option.some.injEq] at this
    exact this
  have hij : j = i := by
    have hjl : j < p.a.items.length := by omega
    have e1 := hkey j hj hjl
    rw [ej] at e1
    have hn : (p.a.items.map Item.key).Nodup := by rw [h.good.keys]; exact keysL_nodup H d
    rw [List.nodup_iff_pairwise_ne, List.pairwise_map, List.pairwise_iff_getElem] at hn
    rcases Nat.lt_trichotomy i j with h1 | h1 | h1
    · exact absurd e1 (hn i j hi hjl h1)
    · exact h1.symm
    · exact absurd e1.symm (hn j i hjl hi h1)
  subst hij
  rw [g1, g2, ej]
  exact ⟨rfl, rfl⟩
theorem PInv.converges {H : Hom} {d B : Int} {p : Ply} (h : PInv H d B p) (h0 : 0 ≤ B) (hB : B < 1000000000) (hk : keysL H d ≠ []) : eqlB (rndN H p (2 + (keysL H d).length)).s (rndN H p (2 + (keysL H d).length)).a = true ∧ (rndN H p (2 + (keysL H d).length)).a.items.length = (keysL H d).length := by
  have h48 := @keysL_48 H d
  have hp : 0 < (keysL H d).length := List.length_pos_iff.2 hk
  obtain ⟨i1, _, i2⟩ := h.rounds h0 hk (2 + (keysL H d).length) (by omega)
  obtain ⟨j1, j2, j3⟩ := i2 (by omega)
  exact i1.agree j1 (by omega) (by omega)
end Go.Abs

namespace Go.Abs
open Go.Proofs
variable [Globals]
theorem arr_sent {H : Hom} {p : Ply} {m : Msg} : (arrP H p m).sent.length ≤ p.sent.length + 1 := by
  unfold arrP
  split
  · show (if givB p.s m = true then p.sent ++ [givM p.s m] else p.sent).length ≤ _
    split <;> simp
  · show (if takB p.a m = true then p.sent ++ [takM p.a m] else p.sent).length ≤ _
    split <;> simp
theorem mov_sent {H : Hom} {p : Ply} {x : Stp} {k : Key} {m : Msg} : (movP H p x k m).sent.length ≤ p.sent.length + 1 := by
  unfold movP
  split
  · exact Nat.le_succ _
  split
  · exact Nat.le_succ _
  split
  · show (if outB p.a (p.now + 1) = true then p.sent ++ [outM p.a (p.now + 1)] else p.sent).length ≤ _
    split <;> simp
  split
  · show (if psB p.s (p.now + 1) = true then p.sent ++ [psM p.s (p.now + 1)] else p.sent).length ≤ _
    split <;> simp
  split
  · exact Nat.le_succ _
  split
  · exact arr_sent
  · exact Nat.le_succ _
def ply0 (H : Hom) (d : Int) : Ply := ⟨newA H d 1, newS H d, [], 0⟩
theorem PInv.init {H : Hom} {d : Int} (hk : keysL H d ≠ []) (hr : findB H d = true → (findD H d).room ≠ ⟨#[]⟩) : PInv H d 48 (ply0 H d) := by
  have hb := key_findB hk
  have hA : newA H d 1 = ⟨d, 1, 0, 0, -1, initL H d⟩ := by rw [newA, if_pos hb]; rfl
  have hS : newS H d = ⟨d, 0, 0, unrepL H d, [], 0, 0, -1, 0⟩ := by rw [newS, if_neg (hr hb)]
  have hg : GoodL H d 48 (initL H d) := init_good
  have hpos : ∀ x ∈ initL H d, ¬ x.version ≤ 0 := fun x hx => by have := hg.pos x hx; omega
  unfold ply0
  rw [hA, hS]
  exact {
    good := hg
    adev := rfl
    aep := by show (0 : Int) ≤ 1 ∧ (1 : Int) ≤ 48; omega
    ack0 := Int.le_refl _
    ackr := hg.reach0 hk
    asent := by show (-1 : Int) ≤ 0; omega
    nw := by show (0 : Int) ≤ 0 ∧ (0 : Int) ≤ 48; omega
    sdev := rfl
    skeys := unrep_keys H d
    sep := by show (0 : Int) ≤ 1; omega
    ssent := by show (-1 : Int) ≤ 0; omega
    past := fun e => by
      have : (0 : Int) = 1 := e
      omega
    cack := fun x hx hv => absurd hv (hpos x hx)
    des := ⟨List.nodup_nil, fun x hx => (by cases hx), fun x hx => (by cases hx), fun x hx => (by cases hx), fun x hx => (by cases hx), by show (0 : Int) ≤ 0 ∧ (0 : Int) ≤ 48; omega⟩
    msgs := fun m hm => by cases hm }
end Go.Abs

namespace Go.Abs
open Go.Proofs
variable [Globals]
theorem tak_epoch {H : Hom} {a : Agt} {m : Msg} : (takA H a m).epoch = a.epoch ∧ a.applied ≤ (takA H a m).applied ∧ (takA H a m).items.map Item.key = a.items.map Item.key := by
  unfold takA
  split
  · unfold confA
    split
    · exact ⟨rfl, Int.le_refl _, rfl⟩
    · split <;> exact ⟨rfl, Int.le_refl _, rfl⟩
  · split
    · refine ⟨rfl, ?_, wrL_keys⟩
      show a.applied ≤ max a.applied m.version; omega
    · exact ⟨rfl, Int.le_refl _, rfl⟩
end Go.Abs

namespace Go.Abs
open Go.Proofs Go.RowKit Go.Lib
variable {P : Program} [Globals]
theorem run_copy_rowK (k : Nat) (w : World) (dT sT ty elem : TypeId) (g o dLen dCap : Nat) (a : Addr) (sLen sCap : Nat) (cur : Array Value) (t : TypeId) (cs : List Value) (m : Nat)
    (hu : P.underlying dT = some (.slice elem)) (hz : ∀ w, (Go.sizeOf elem).run P w = .ok k w) (hg : w.heap[g]? = some (.cells cur t (0, 0))) (hm : m = Nat.min sLen dLen) (hn : cs.length = m * k)
    (hsrc : ∀ j v, cs[j]? = some v → w.cell? (a.add j) = some v) (hfit : o + cs.length ≤ cur.size) (h1 : ∀ v ∈ cs, v.oneCell' = true) :
    (Builtin.copy_ #[dT, sT] ty #[.slice (some ⟨g, o, none⟩) dLen dCap, .slice (some a) sLen sCap]).run P w =
      .ok (goInt m) (w.setRow g (cur.toList.take o ++ cs ++ cur.toList.drop (o + cs.length)).toArray) := by
  have hl := run_loadCells_list (P := P) w a cs hsrc
  have hst := run_storeCells_at P g o t cs 0 cur w hg (by simpa using hfit) h1
  rw [hn] at hl
  simp [Builtin.copy_, run_underlying hu, Builtin.lenOf, Builtin.firstCells, hz, ← hm, hl, hst]
def insL {α : Type} (l : List α) (i : Nat) (x : α) : List α := l.take i ++ x :: l.drop i
theorem insL_length {α : Type} {l : List α} {i : Nat} {x : α} (h : i ≤ l.length) : (insL l i x).length = l.length + 1 := by
  unfold insL; simp; omega
theorem insL_lt {α : Type} [Inhabited α] {l : List α} {i j : Nat} {x : α} (h : i ≤ l.length) (hj : j < i) : (insL l i x).getD j default = l.getD j default := by
  unfold insL
  simp only [List.getD]
  rw [List.getElem?_append_left (by simp; omega), List.getElem?_take_of_lt hj]
theorem insL_eq {α : Type} [Inhabited α] {l : List α} {i : Nat} {x : α} (h : i ≤ l.length) : (insL l i x).getD i default = x := by
  unfold insL
  simp only [List.getD]
  rw [List.getElem?_append_right (by simp only [List.length_take]; omega)]
  simp [Nat.min_eq_left h]
theorem insL_gt {α : Type} [Inhabited α] {l : List α} {i j : Nat} {x : α} (h : i ≤ l.length) (hj : i < j) : (insL l i x).getD j default = l.getD (j - 1) default := by
  unfold insL
  simp only [List.getD]
  rw [List.getElem?_append_right (by simp; omega), List.length_take, Nat.min_eq_left h]
  obtain ⟨q, rfl⟩ : ∃ q, j = i + q + 1 := ⟨j - i - 1, by omega⟩
  rw [show i + q + 1 - i = q + 1 from by omega, List.getElem?_cons_succ, List.getElem?_drop]
  congr 2
def putC (cur : Array Value) (o : Nat) (cs : List Value) : Array Value := (cur.toList.take o ++ cs ++ cur.toList.drop (o + cs.length)).toArray
theorem putC_size {cur : Array Value} {o : Nat} {cs : List Value} (h : o + cs.length ≤ cur.size) : (putC cur o cs).size = cur.size := by
  unfold putC
  simp
  omega
theorem putC_get {cur : Array Value} {o : Nat} {cs : List Value} (h : o + cs.length ≤ cur.size) (x : Nat) : (putC cur o cs).getD x undef = if o ≤ x ∧ x < o + cs.length then cs.getD (x - o) undef else cur.getD x undef := by
  unfold putC
  simp only [Array.getD_eq_getD_getElem?, List.getD, List.getElem?_toArray]
  by_cases h1 : x < o
  · rw [if_neg (by omega), List.append_assoc, List.getElem?_append_left (by simp; omega), List.getElem?_take_of_lt h1, Array.getElem?_toList]
  · by_cases h2 : x < o + cs.length
    · rw [if_pos (by omega), List.append_assoc, List.getElem?_append_right (by simp; omega), List.getElem?_append_left (by simp; omega)]
      simp [Nat.min_eq_left (show o ≤ cur.size from by omega)]
    · rw [if_neg (by omega), List.getElem?_append_right (by simp; omega), List.getElem?_drop, Array.getElem?_toList]
      congr 2
      simp
      omega
theorem putC_one {cur : Array Value} {o : Nat} {cs : List Value} (h1 : ∀ v ∈ cur.toList, v.oneCell' = true) (h2 : ∀ v ∈ cs, v.oneCell' = true) : ∀ v ∈ (putC cur o cs).toList, v.oneCell' = true := by
  intro v hv
  unfold putC at hv
  simp only [List.mem_append] at hv
  rcases hv with (hv | hv) | hv
  · exact h1 v (List.mem_of_mem_take hv)
  · exact h2 v hv
  · exact h1 v (List.mem_of_mem_drop hv)
theorem lt_getD {a b : List Value} {y : Nat} (h : y < a.length) : (a ++ b).getD y undef = a.getD y undef := by
  simp only [List.getD]; rw [List.getElem?_append_left h]
theorem ge_getD {a b : List Value} {y : Nat} (h : a.length ≤ y) : (a ++ b).getD y undef = b.getD (y - a.length) undef := by
  simp only [List.getD]; rw [List.getElem?_append_right h]
theorem toA_getD (l : List Value) (y : Nat) : l.toArray.getD y undef = l.getD y undef := by
  simp only [List.getD, Array.getD_eq_getD_getElem?, List.getElem?_toArray]
theorem setCells_row {P : Program} {w : World} {b o : Nat} {vs : List Value} {cur : Array Value} {t : TypeId} (hb : w.heap[b]? = some (.cells cur t (0, 0))) (hf : o + vs.length ≤ cur.size) (h1 : ∀ v ∈ vs, v.oneCell' = true) : w.setCells b o vs = w.setRow b (putC cur o vs) := by
  have e1 := run_storeCells_at P b o t vs 0 cur w hb (by simpa using hf) h1
  have e2 := run_storeCells_cells (P := P) b o vs 0 w (fun j hj => by
    have h3 : o + 0 + j < cur.size := by omega
    simp only [World.cell?, hb]
    simp [show o + j < cur.size from by omega]) (fun j hj => by simp [World.frozen?, hb]) h1
  rw [e2] at e1
  exact (Result.ok.inj e1).2
theorem setRow_ext {w : World} {b : Nat} {A : Array Value} : FExt (fun c => c = b) w (w.setRow b A) := by
  refine ⟨rfl, rfl, rfl, by simp [World.setRow], fun c hc hne => ?_, Nat.le_refl _⟩
  show (w.heap.modify b _)[c]? = _
  rw [Array.getElem?_modify, if_neg (Ne.symm hne)]
theorem drew_ext {w : World} {F : Nat → Prop} : FExt F w w.drew := ⟨rfl, rfl, rfl, Nat.le_refl _, fun _ _ _ => rfl, Nat.le_succ _⟩
theorem ext_alloc {F : Nat → Prop} (w : World) (o : Obj) : FExt F w (w.alloc o) := by
  refine ⟨rfl, rfl, rfl, ?_, fun c hc _ => alloc_old w o c hc, Nat.le_refl _⟩
  show w.heap.size ≤ (w.heap.push o).size
  simp
section
variable {α : Type} [Inhabited α]
theorem ins_post {St M0 : Nat → Prop} {σ : Sig} {w w' : World} {k i : Nat} {l : List α} {x : α} {enc : α → List PV} {g : Nat → List PV} {loc0 : Loc} {b' c' : Nat} {cur nv A : Array Value} {t' : TypeId} (hi : Inv St M0 σ w) (h1 : σ 1 = none) (hl : σ 0 = some loc0) (hil : i ≤ l.length)
    (hb : loc0.blk = some b' ∨ w.heap.size ≤ b') (hx : FExt (fun b => loc0.blk = some b) w w') (hA : w'.heap[b']? = some (.cells A t' (0, 0))) (hn : l.length + 1 ≤ c') (hmax : c' ≤ maxLen) (hsz : A.size = c' * k) (hone : ∀ v ∈ A.toList, v.oneCell' = true)
    (hk : ∀ x, (enc x).length = k) (hgx : PSubs (g 0) (enc x))
    (hold : ∀ j, j < l.length → ∀ q p, (enc (l.getD j default))[q]? = some p → PR w (Mof M0 σ) p (cur.getD (j * k + q) undef)) (hnew : ∀ q p, (g 0)[q]? = some p → PR w (Mof M0 σ) p (nv.getD q undef))
    (hget : ∀ y, y < (l.length + 1) * k → A.getD y undef = if y < i * k then cur.getD y undef else if y < (i + 1) * k then nv.getD (y - i * k) undef else cur.getD (y - k) undef) :
    Post P St M0 σ w [(1, rowL k enc (insL l i x)), (0, .gone)] (.own 1) (upd1 (drop1 σ 0) 1 ⟨.slice (some ⟨b', 0, none⟩) (l.length + 1) c', some b'⟩) (.slice (some ⟨b', 0, none⟩) (l.length + 1) c') w' := by
  have hsame : Same (Mof M0 σ) w w' := hx.same.mono fun b _ h => .inr ⟨0, loc0, hl, h⟩
  have hmon : ∀ b, b < w.heap.size → Mof M0 (upd1 (drop1 σ 0) 1 ⟨.slice (some ⟨b', 0, none⟩) (l.length + 1) c', some b'⟩) b → Mof M0 σ b := by
    intro b hbw hm
    rcases hm with hm | hm
    · exact .inl hm
    · rcases owned_upd1 hm with hm | hm
      · exact .inr (owned_drop1 hm)
      · cases hm
        rcases hb with hb | hb
        · exact .inr ⟨0, loc0, hl, hb⟩
        · omega
  have hlen := insL_length (x := x) hil
  refine Post.moved hi h1 hl (fun b e => by cases e; exact hb) hx (fun e => by cases e) ?_
  show OR P w' St _ _ (.row k (insL l i x).length fun j => enc ((insL l i x).getD j default)) _
  rw [hlen]
  refine .row k (l.length + 1) _ b' c' A t' hA hn hmax hsz (fun j _ => hk _) (fun j hj q p hp => ?_) (fun j hj => ?_)
  · have hq : q < k := by have := (List.getElem?_eq_some_iff.1 hp).1; rwa [hk] at this
    have hjk : ∀ a c : Nat, a < c → a * k + q < c * k := fun a c h => Nat.lt_of_lt_of_le (by rw [Nat.succ_mul]; omega) (Nat.mul_le_mul_right k (show a + 1 ≤ c from h))
    rw [hget _ (hjk _ _ hj)]
    rcases Nat.lt_trichotomy j i with h | h | h
    · rw [if_pos (hjk _ _ h)]
      rw [insL_lt hil h] at hp
      exact (hold j (by omega) q p hp).mono hsame hmon
    · subst h
      rw [if_neg (by omega), if_pos (hjk _ _ (Nat.lt_succ_self j)), Nat.add_sub_cancel_left]
      rw [insL_eq hil] at hp
      obtain ⟨p0, hp0, hsub⟩ := hgx.get q p hp
      exact (hsub.to _ _ _ (hnew q p0 hp0)).mono hsame hmon
    · have h2 : (i + 1) * k ≤ j * k := Nat.mul_le_mul_right k h
      have h3 : i * k ≤ (i + 1) * k := Nat.mul_le_mul_right k (Nat.le_succ i)
      rw [if_neg (by omega), if_neg (by omega)]
      rw [insL_gt hil h] at hp
      have e : j * k + q - k = (j - 1) * k + q := by
        obtain ⟨m, rfl⟩ : ∃ m, j = m + 1 := ⟨j - 1, by omega⟩
        rw [Nat.succ_mul, Nat.add_sub_cancel]; omega
      rw [e]
      exact (hold (j - 1) (by omega) q p hp).mono hsame hmon
  · have := hone A[j] (by simp)
    simpa [Array.getD, hj] using this
end
end Go.Abs

namespace Go.Abs
open Go.Proofs Go.RowKit Go.Lib
set_option linter.unusedVariables false
set_option maxHeartbeats 4000000 in
set_option maxRecDepth 100000 in
theorem insItem_shift (b n c i vb vc : Nat) (cur nv : Array Value) (tb tv : TypeId) (w : World) (hi : i < n) (hroom : n + 1 ≤ c) (hc63 : c ≤ 9223372036854775807) (hvb : vb ≠ b)
    (hb : w.heap[b]? = some (.cells cur tb (0, 0))) (hcs : cur.size = c * 7) (hc1 : ∀ v ∈ cur.toList, v.oneCell' = true)
    (hv : w.heap[vb]? = some (.cells nv tv (0, 0))) (hvs : nv.size = vc * 7) (hv1 : ∀ v ∈ nv.toList, v.oneCell' = true) (hvc : 1 ≤ vc) :
    Calls Tryz.prog 122 #[.slice (some ⟨b, 0, none⟩) n c, .int .i64 i, .slice (some ⟨vb, 0, none⟩) 1 vc] w fun e w' =>
      e = .returned (.slice (some ⟨b, 0, none⟩) (n + 1) c) ∧ w' = (w.drew.setRow b (putC cur ((i + 1) * 7) ((cur.toList.drop (i * 7)).take ((n - i) * 7)))).setRow b (putC (putC cur ((i + 1) * 7) ((cur.toList.drop (i * 7)).take ((n - i) * 7))) (i * 7) (nv.toList.take 7)) := by
  have t3 := Tryz.underlying3; have a3 := Tryz.isAgg3; have z3 := Tryz.sizeOf3; have v3 := Tryz.zeroValue3
  have t4 := Tryz.underlying4; have a4 := Tryz.isAgg4; have z4 := Tryz.sizeOf4; have v4 := Tryz.zeroValue4
  have t9 := Tryz.underlying51; have a9 := Tryz.isAgg51; have z9 := Tryz.sizeOf51; have v9 := Tryz.zeroValue51
  have t24 := Tryz.underlying26; have a24 := Tryz.isAgg26; have z24 := Tryz.sizeOf26; have v24 := Tryz.zeroValue26
  have u3 := run_underlying t3; have u4 := run_underlying t4; have u9 := run_underlying t9; have u24 := run_underlying t24
  have hz2 : ¬ ((i : Int) = (n : Int)) := by omega
  have hsv : w.shape? vb = some (tv, nv.size) := by simp [World.shape?, hv]
  have hsb : w.shape? b = some (tb, cur.size) := by simp [World.shape?, hb]
  have hov : ∀ lb cb, (callFunc 156 #[.slice (some ⟨vb, 0, none⟩) 1 vc, .slice (some ⟨b, (i + 1) * 7, none⟩) lb cb]).run Tryz.prog w = .ok (.value (.bool false)) w := fun lb cb => by
    rw [run_callFunc_extern Tryz.func156 (by kernel_rfl) (by kernel_rfl) (by kernel_rfl) (e := Extern.SlicesOverlaps.overlaps #[26, 26] #[4]) (by kernel_rfl),
      Lib.run_overlaps_apart w 26 4 51 t24 7 z9 ⟨vb, 0, none⟩ ⟨b, (i + 1) * 7, none⟩ 1 vc lb cb hvb tv tb nv.size cur.size hsv hsb (by omega) (by simp [World.frozen?, hv]) (by simp [World.frozen?, hv])]
    rfl
  have hw1 : IntKind.i64.wrap ((i : Int) + 1) = (i : Int) + 1 := by rw [IntKind.wrap_i64]; omega
  have hw2 : IntKind.i64.wrap ((n : Int) + 1) = (n : Int) + 1 := by rw [IntKind.wrap_i64]; omega
  have hb1 : (0 : Int) ≤ (i : Int) + 1 := by omega
  have hin : i ≤ n := by omega
  have htn : ((i : Int) + 1).toNat = i + 1 := by omega
  have htn2 : ((n : Int) + 1).toNat = n + 1 := by omega
  have hb2 : ¬ (c = i + 1) := by omega
  have hb3 : (i : Int) ≤ (n : Int) + 1 := by omega
  have hb4 : ¬ (c = i) := by omega
  have hnc : ¬ ((c : Int) < (n : Int) + 1) := by omega
  obtain ⟨cs, hcs1⟩ : ∃ cs, cs = (cur.toList.drop (i * 7)).take ((n - i) * 7) := ⟨_, rfl⟩
  have hcl : cs.length = (n - i) * 7 := by rw [hcs1]; simp; omega
  have hcg : ∀ j v, cs[j]? = some v → cur[i * 7 + j]? = some v := fun j v hj => by
    rw [hcs1, List.getElem?_take] at hj
    split at hj
    · rw [List.getElem?_drop] at hj; simpa using hj
    · cases hj
  have hcm : ∀ v ∈ cs, v.oneCell' = true := fun v hv => by rw [hcs1] at hv; exact hc1 v (List.mem_of_mem_drop (List.mem_of_mem_take hv))
  have hcp1 : ∀ ty dc sc, (Builtin.copy_ #[26, 26] ty #[.slice (some ⟨b, (i + 1) * 7, none⟩) (n - i) dc, .slice (some ⟨b, i * 7, none⟩) (n + 1 - i) sc]).run Tryz.prog w.drew = .ok (goInt ((n - i : Nat) : Int)) (w.drew.setRow b (putC cur ((i + 1) * 7) cs)) := fun ty dc sc => by
    have h0 := run_copy_rowK (P := Tryz.prog) 7 w.drew 26 26 ty 51 b ((i + 1) * 7) (n - i) dc ⟨b, i * 7, none⟩ (n + 1 - i) sc cur tb cs (n - i) t24 z9 hb (by simp only [Nat.min_def]; split <;> omega) hcl
      (fun j v hj => by
        have h := hcg j v hj
        rw [Addr.add_lit]
        show w.cell? _ = _
        simp only [World.cell?, hb]
        simpa using h) (by rw [hcl]; omega) hcm
    exact h0
  obtain ⟨A1, hA1⟩ : ∃ A1, A1 = putC cur ((i + 1) * 7) cs := ⟨_, rfl⟩
  have hA1s : A1.size = cur.size := by rw [hA1, putC_size (by rw [hcl]; omega)]
  have hg1 : (w.drew.setRow b A1).heap[b]? = some (.cells A1 tb (0, 0)) := setRow_heap w.drew b cur _ tb _ hb
  have hv2 : (w.drew.setRow b A1).heap[vb]? = some (.cells nv tv (0, 0)) := by
    show (w.drew.heap.modify b _)[vb]? = _
    rw [Array.getElem?_modify, if_neg (Ne.symm hvb)]; exact hv
  have hvl : (nv.toList.take 7).length = 1 * 7 := by simp; omega
  have hcp2 : ∀ (W : World), W.heap = (w.drew.setRow b A1).heap → ∀ ty dc, (Builtin.copy_ #[26, 26] ty #[.slice (some ⟨b, i * 7, none⟩) (n + 1 - i) dc, .slice (some ⟨vb, 0, none⟩) 1 vc]).run Tryz.prog W = .ok (goInt ((1 : Nat) : Int)) (W.setRow b (putC A1 (i * 7) (nv.toList.take 7))) := fun W hW ty dc => by
    have h0 := run_copy_rowK (P := Tryz.prog) 7 W 26 26 ty 51 b (i * 7) (n + 1 - i) dc ⟨vb, 0, none⟩ 1 vc A1 tb (nv.toList.take 7) 1 t24 z9 (by rw [hW]; exact hg1) (by simp only [Nat.min_def]; split <;> omega) hvl
      (fun j v hj => by
        rw [Addr.add_lit, Nat.zero_add]
        simp only [World.cell?, hW, hv2]
        rw [List.getElem?_take] at hj
        split at hj
        · simpa using hj
        · cases hj) (by rw [hvl]; omega) (fun v hv => hv1 v (List.mem_of_mem_take hv))
    exact h0
  rw [← hA1] at hcp1
  rw [← hcs1, ← hA1]
  have mixed := hm
  go_enter Tryz.func122, Tryz.ntmps122
  go_wp2_with (simp only [hov])
  go_region_law_o (refine step_copy_runI rfl _ _ 26 26 rfl _ _ (by simp [Act.eval, Act.put]) (by simp [Act.eval, Act.put]) (hcp1 _ _ _) ?_)
  go_wp2_with (at_builtin; refine wpList_copy_runI _ rfl _ _ 26 26 rfl _ _ rfl rfl (hcp2 _ rfl _ _) ?_)
  go_ret
  exact ⟨rfl, by rw [hA1, hcs1]⟩
theorem srcI_row {w : World} {vb vc : Nat} {nv : Array Value} {tv : TypeId} (hv : w.heap[vb]? = some (.cells nv tv (0, 0))) (hvs : nv.size = vc * 7) (hv1 : ∀ v ∈ nv.toList, v.oneCell' = true) (hvc : 1 ≤ vc) :
    Go.Src Tryz.prog 7 26 (.slice (some ⟨vb, 0, none⟩) 1 vc) 1 (nv.toList.take 7) w :=
  Go.Src.ofSlice (w := w) Tryz.underlying26 ⟨vb, 0, none⟩ 1 vc (nv.toList.take 7) (by simp; omega) (fun j u hj => by
    rw [Addr.add_lit, Nat.zero_add]
    simp only [World.cell?, hv]
    rw [List.getElem?_take] at hj
    split at hj
    · simpa using hj
    · cases hj) (fun v hv => hv1 v (List.mem_of_mem_take hv))
set_option maxHeartbeats 4000000 in
set_option maxRecDepth 100000 in
theorem insItem_end_room (b n c vb vc : Nat) (cur nv : Array Value) (tb tv : TypeId) (w : World) (hroom : n + 1 ≤ c) (hc63 : c ≤ 9223372036854775807)
    (hb : w.heap[b]? = some (.cells cur tb (0, 0))) (hcs : cur.size = c * 7)
    (hv : w.heap[vb]? = some (.cells nv tv (0, 0))) (hvs : nv.size = vc * 7) (hv1 : ∀ v ∈ nv.toList, v.oneCell' = true) (hvc : 1 ≤ vc) :
    Calls Tryz.prog 122 #[.slice (some ⟨b, 0, none⟩) n c, .int .i64 n, .slice (some ⟨vb, 0, none⟩) 1 vc] w fun e w' =>
      e = .returned (.slice (some ⟨b, 0, none⟩) (n + 1) c) ∧ w' = w.setCells b (n * 7) (nv.toList.take 7) := by
  have t3 := Tryz.underlying3; have a3 := Tryz.isAgg3; have z3 := Tryz.sizeOf3; have v3 := Tryz.zeroValue3
  have t4 := Tryz.underlying4; have a4 := Tryz.isAgg4; have z4 := Tryz.sizeOf4; have v4 := Tryz.zeroValue4
  have t9 := Tryz.underlying51; have a9 := Tryz.isAgg51; have z9 := Tryz.sizeOf51; have v9 := Tryz.zeroValue51
  have t24 := Tryz.underlying26; have a24 := Tryz.isAgg26; have z24 := Tryz.sizeOf26; have v24 := Tryz.zeroValue26
  have u3 := run_underlying t3; have u4 := run_underlying t4; have u9 := run_underlying t9; have u24 := run_underlying t24
  have mixed := hm
  obtain ⟨i0, hi0, hz0, hzs, hzb⟩ := info_parts (show (Tryz.prog.info? 51).map (fun i => (i.zero, i.size, i.bytes)) = some (some (.agg #[.int .i64 0, .string ⟨#[]⟩, .string ⟨#[]⟩, .int .i64 0, .int .i64 0, .string ⟨#[]⟩, .int .i64 0]), 7, 80) from by kernel_rfl)
  have hvl : (nv.toList.take 7).length = 7 := by simp; omega
  have hsrc := srcI_row hv hvs hv1 hvc
  have hrun : ∀ ty, (Builtin.append_ #[26, 26] ty #[.slice (some ⟨b, 0, none⟩) n c, .slice (some ⟨vb, 0, none⟩) 1 vc]).run Tryz.prog w = .ok (.slice (some ⟨b, 0, none⟩) (n + 1) c) (w.setCells b (n * 7) (nv.toList.take 7)) := fun ty => by
    have h0 := run_append_room_src (P := Tryz.prog) (w := w) 26 26 ty 51 i0 t24 hi0 b 0 n c (.slice (some ⟨vb, 0, none⟩) 1 vc) 1 (nv.toList.take 7) (by rw [hzs]; exact hsrc) hroom
      (fun j hj => by
        rw [hzs]
        have h1 : n * 7 + j < cur.size := by omega
        simp only [World.cell?, hb, Nat.zero_add]
        simp [h1]) (fun j hj => by simp [World.frozen?, hb])
    rw [hzs, Nat.zero_add] at h0
    exact h0
  go_enter Tryz.func122, Tryz.ntmps122
  go_wp2_with (at_builtin; refine Lib.wpList_append_run _ rfl _ _ _ _ rfl _ _ rfl rfl _ _ (hrun _) ?_)
  go_ret
  exact ⟨rfl, rfl⟩
set_option maxHeartbeats 4000000 in
set_option maxRecDepth 100000 in
theorem insItem_end_grow (base : Option Addr) (n c vb vc : Nat) (olds : List Value) (nv : Array Value) (tv : TypeId) (w : World) (hnc : n ≤ c) (hroom : c < n + 1) (hbig : (n + 1) * 80 ≤ 140737488355328)
    (hold : (Builtin.firstCells 7 n (.slice base n c)).run Tryz.prog w.drew = .ok olds.toArray w.drew) (hnil : base = none → n = 0)
    (hv : w.heap[vb]? = some (.cells nv tv (0, 0))) (hvs : nv.size = vc * 7) (hv1 : ∀ v ∈ nv.toList, v.oneCell' = true) (hvc : 1 ≤ vc) :
    Calls Tryz.prog 122 #[.slice base n c, .int .i64 n, .slice (some ⟨vb, 0, none⟩) 1 vc] w fun e w' =>
      e = .returned (.slice (some ⟨w.heap.size, 0, none⟩) (n + 1) (grownCap w (n + 1) c 51)) ∧
      w' = w.drew.alloc (.cells ((olds ++ nv.toList.take 7).toArray ++ Builtin.zeroCells (Value.agg #[.int .i64 0, .string ⟨#[]⟩, .string ⟨#[]⟩, .int .i64 0, .int .i64 0, .string ⟨#[]⟩, .int .i64 0]).cells (grownCap w (n + 1) c 51 - (n + 1))) 51) := by
  have t3 := Tryz.underlying3; have a3 := Tryz.isAgg3; have z3 := Tryz.sizeOf3; have v3 := Tryz.zeroValue3
  have t4 := Tryz.underlying4; have a4 := Tryz.isAgg4; have z4 := Tryz.sizeOf4; have v4 := Tryz.zeroValue4
  have t9 := Tryz.underlying51; have a9 := Tryz.isAgg51; have z9 := Tryz.sizeOf51; have v9 := Tryz.zeroValue51
  have t24 := Tryz.underlying26; have a24 := Tryz.isAgg26; have z24 := Tryz.sizeOf26; have v24 := Tryz.zeroValue26
  have u3 := run_underlying t3; have u4 := run_underlying t4; have u9 := run_underlying t9; have u24 := run_underlying t24
  have mixed := hm
  obtain ⟨i0, hi0, hz0, hzs, hzb⟩ := info_parts (show (Tryz.prog.info? 51).map (fun i => (i.zero, i.size, i.bytes)) = some (some (.agg #[.int .i64 0, .string ⟨#[]⟩, .string ⟨#[]⟩, .int .i64 0, .int .i64 0, .string ⟨#[]⟩, .int .i64 0]), 7, 80) from by kernel_rfl)
  have hsrc := srcI_row hv hvs hv1 hvc
  have hrun : ∀ ty, (Builtin.append_ #[26, 26] ty #[.slice base n c, .slice (some ⟨vb, 0, none⟩) 1 vc]).run Tryz.prog w = _ := fun ty =>
    run_append_grow_src (P := Tryz.prog) (w := w) 26 26 ty 51 i0 _ t24 hi0 hz0 base n c olds (by rw [hzs]; exact hold) (.slice (some ⟨vb, 0, none⟩) 1 vc) 1 (nv.toList.take 7) (by rw [hzs]; exact hsrc) hroom (by omega) (by rw [hzb]; exact growslice_fits hroom hbig)
  go_enter Tryz.func122, Tryz.ntmps122
  cases base with
  | none =>
    have h0 := hnil rfl
    subst h0
    go_wp2_with (at_builtin; refine Lib.wpList_append_run _ rfl _ _ _ _ rfl _ _ rfl rfl _ _ (hrun _) ?_)
    go_ret
    exact ⟨rfl, rfl⟩
  | some a =>
    obtain ⟨ab, ao, asp⟩ := a
    go_wp2_with (at_builtin; refine Lib.wpList_append_run _ rfl _ _ _ _ rfl _ _ rfl rfl _ _ (hrun _) ?_)
    all_goals (go_ret; exact ⟨rfl, rfl⟩)
set_option maxHeartbeats 4000000 in
set_option maxRecDepth 100000 in
theorem insItem_grow (b n c i vb vc : Nat) (cur nv : Array Value) (tb tv : TypeId) (w : World) (hi : i < n) (hnc : n ≤ c) (hroom : c < n + 1) (hbig : (n + 1) * 80 ≤ 140737488355328)
    (hb : w.heap[b]? = some (.cells cur tb (0, 0))) (hcs : cur.size = c * 7) (hc1 : ∀ v ∈ cur.toList, v.oneCell' = true)
    (hv : w.heap[vb]? = some (.cells nv tv (0, 0))) (hvs : nv.size = vc * 7) (hv1 : ∀ v ∈ nv.toList, v.oneCell' = true) (hvc : 1 ≤ vc) :
    ∃ G ROW W1, n + 1 ≤ G ∧ G ≤ maxLen ∧ ROW = (cur.toList.take (i * 7)).toArray ++ Builtin.zeroCells (Value.agg #[.int .i64 0, .string ⟨#[]⟩, .string ⟨#[]⟩, .int .i64 0, .int .i64 0, .string ⟨#[]⟩, .int .i64 0]).cells (n + 1 - i) ++ Builtin.zeroCells (Value.agg #[.int .i64 0, .string ⟨#[]⟩, .string ⟨#[]⟩, .int .i64 0, .int .i64 0, .string ⟨#[]⟩, .int .i64 0]).cells (G - (n + 1)) ∧ W1 = w.drew.alloc (.cells ROW 51) ∧
    Calls Tryz.prog 122 #[.slice (some ⟨b, 0, none⟩) n c, .int .i64 i, .slice (some ⟨vb, 0, none⟩) 1 vc] w fun e w' =>
      e = .returned (.slice (some ⟨w.heap.size, 0, none⟩) (n + 1) G) ∧ w' = (((W1.setRow w.heap.size (putC ROW (i * 7) (nv.toList.take 7)))).drew).setRow w.heap.size (putC (putC ROW (i * 7) (nv.toList.take 7)) ((i + 1) * 7) ((cur.toList.drop (i * 7)).take ((n - i) * 7))) := by
  have t3 := Tryz.underlying3; have a3 := Tryz.isAgg3; have z3 := Tryz.sizeOf3; have v3 := Tryz.zeroValue3
  have t4 := Tryz.underlying4; have a4 := Tryz.isAgg4; have z4 := Tryz.sizeOf4; have v4 := Tryz.zeroValue4
  have t9 := Tryz.underlying51; have a9 := Tryz.isAgg51; have z9 := Tryz.sizeOf51; have v9 := Tryz.zeroValue51
  have t24 := Tryz.underlying26; have a24 := Tryz.isAgg26; have z24 := Tryz.sizeOf26; have v24 := Tryz.zeroValue26
  have u3 := run_underlying t3; have u4 := run_underlying t4; have u9 := run_underlying t9; have u24 := run_underlying t24
  have mixed := hm
  obtain ⟨i0, hi0, hz0, hzs, hzb⟩ := info_parts (show (Tryz.prog.info? 51).map (fun i => (i.zero, i.size, i.bytes)) = some (some (.agg #[.int .i64 0, .string ⟨#[]⟩, .string ⟨#[]⟩, .int .i64 0, .int .i64 0, .string ⟨#[]⟩, .int .i64 0]), 7, 80) from by kernel_rfl)
  have hbw : b < w.heap.size := lt_of_block hb
  have hvw : vb < w.heap.size := lt_of_block hv
  have hz2 : ¬ ((i : Int) = (n : Int)) := by omega
  have hz3 : (c : Int) < (n : Int) + 1 := by omega
  have hkk : (n : Int) + 1 - (i : Int) = ((n + 1 - i : Nat) : Int) := by omega
  have hik : i + (n + 1 - i) = n + 1 := by omega
  have hcell : ∀ (o j : Nat) (v : Value), cur[o + j]? = some v → w.cell? ⟨b, o + j, none⟩ = some v := fun o j v h => by
    simp only [World.cell?, hb]
    simpa using h
  have hold : (Builtin.firstCells i0.size i (.slice (some ⟨b, 0, none⟩) i c)).run Tryz.prog w.drew = .ok (cur.toList.take (i * 7)).toArray w.drew := by
    rw [hzs]
    exact run_firstCells_some w.drew 7 i ⟨b, 0, none⟩ i c (cur.toList.take (i * 7)) (by rw [List.length_take]; simp; omega) (fun j v hj => by
      rw [Addr.add_lit]
      rw [List.getElem?_take] at hj
      split at hj
      · exact hcell 0 j v (by simpa using hj)
      · cases hj)
  obtain ⟨G, hG⟩ : ∃ G, G = grownCap w (n + 1) c 51 := ⟨_, rfl⟩
  obtain ⟨ROW, hROW⟩ : ∃ ROW : Array Value, ROW = (cur.toList.take (i * 7)).toArray ++ Builtin.zeroCells (Value.agg #[.int .i64 0, .string ⟨#[]⟩, .string ⟨#[]⟩, .int .i64 0, .int .i64 0, .string ⟨#[]⟩, .int .i64 0]).cells (n + 1 - i) ++ Builtin.zeroCells (Value.agg #[.int .i64 0, .string ⟨#[]⟩, .string ⟨#[]⟩, .int .i64 0, .int .i64 0, .string ⟨#[]⟩, .int .i64 0]).cells (G - (n + 1)) := ⟨_, rfl⟩
  have hrz : ∀ ty, (Builtin.append_ #[26, 3] ty #[.slice (some ⟨b, 0, none⟩) i c, .int .i64 ((n : Int) + 1 - (i : Int))]).run Tryz.prog w =
      .ok (.slice (some ⟨w.heap.size, 0, none⟩) (n + 1) G) (w.drew.alloc (.cells ROW 51)) := fun ty => by
    have h := Lib.run_append_grow_zeros (P := Tryz.prog) w 26 3 ty 51 i0 _ .i64 .i64 t24 t3 hi0 hz0 (some ⟨b, 0, none⟩) i c (cur.toList.take (i * 7)) hold (n + 1 - i) (by omega) (by omega) (by omega) (by omega) (by rw [hzb]; omega) (by rw [hzb, hik]; exact growslice_fits hroom hbig)
    rw [hik] at h
    rw [hkk, hROW, hG]
    exact h
  have hGn : n + 1 ≤ G := by rw [hG]; exact grownCap_ge w _ _ _
  have hGm : G ≤ maxLen := by rw [hG]; exact grownCap_le_maxLen w (n + 1) c 51 (by unfold maxLen; omega)
  have hG63 : G ≤ 9223372036854775807 := by unfold maxLen at hGm; omega
  have hRl : ROW.size = G * 7 := by
    rw [hROW]
    simp [Builtin.zeroCells, Value.cells]
    omega
  obtain ⟨W1, hW1⟩ : ∃ W1, W1 = w.drew.alloc (.cells ROW 51) := ⟨_, rfl⟩
  refine ⟨G, ROW, W1, hGn, hGm, hROW, hW1, ?_⟩
  rw [← hW1] at hrz
  have hN1 : W1.heap[w.heap.size]? = some (.cells ROW 51 (0, 0)) := by rw [hW1]; exact alloc_new w.drew _
  have hB1 : W1.heap[b]? = some (.cells cur tb (0, 0)) := by rw [hW1]; exact (alloc_old w.drew _ b hbw).trans hb
  have hV1 : W1.heap[vb]? = some (.cells nv tv (0, 0)) := by rw [hW1]; exact (alloc_old w.drew _ vb hvw).trans hv
  have hvl : (nv.toList.take 7).length = 1 * 7 := by simp; omega
  have hcpA : ∀ (W : World), W.heap = W1.heap → ∀ ty dc, (Builtin.copy_ #[26, 26] ty #[.slice (some ⟨w.heap.size, i * 7, none⟩) (n + 1 - i) dc, .slice (some ⟨vb, 0, none⟩) 1 vc]).run Tryz.prog W = .ok (goInt ((1 : Nat) : Int)) (W.setRow w.heap.size (putC ROW (i * 7) (nv.toList.take 7))) := fun W hW ty dc => by
    have h0 := run_copy_rowK (P := Tryz.prog) 7 W 26 26 ty 51 w.heap.size (i * 7) (n + 1 - i) dc ⟨vb, 0, none⟩ 1 vc ROW 51 (nv.toList.take 7) 1 t24 z9 (by rw [hW]; exact hN1) (by simp only [Nat.min_def]; split <;> omega) hvl
      (fun j v hj => by
        rw [Addr.add_lit, Nat.zero_add]
        simp only [World.cell?, hW, hV1]
        rw [List.getElem?_take] at hj
        split at hj
        · simpa using hj
        · cases hj) (by rw [hvl]; omega) (fun v hv => hv1 v (List.mem_of_mem_take hv))
    exact h0
  obtain ⟨A1, hA1⟩ : ∃ A1, A1 = putC ROW (i * 7) (nv.toList.take 7) := ⟨_, rfl⟩
  have hA1s : A1.size = ROW.size := by rw [hA1, putC_size (by rw [hvl]; omega)]
  obtain ⟨cs, hcs1⟩ : ∃ cs, cs = (cur.toList.drop (i * 7)).take ((n - i) * 7) := ⟨_, rfl⟩
  have hcl : cs.length = (n - i) * 7 := by rw [hcs1]; simp; omega
  have hcg : ∀ j v, cs[j]? = some v → cur[i * 7 + j]? = some v := fun j v hj => by
    rw [hcs1, List.getElem?_take] at hj
    split at hj
    · rw [List.getElem?_drop] at hj; simpa using hj
    · cases hj
  have hcm : ∀ v ∈ cs, v.oneCell' = true := fun v hv => by rw [hcs1] at hv; exact hc1 v (List.mem_of_mem_drop (List.mem_of_mem_take hv))
  have hN2 : (W1.setRow w.heap.size A1).heap[w.heap.size]? = some (.cells A1 51 (0, 0)) := setRow_heap W1 w.heap.size ROW _ 51 _ hN1
  have hB2 : (W1.setRow w.heap.size A1).heap[b]? = some (.cells cur tb (0, 0)) := by
    show (W1.heap.modify w.heap.size _)[b]? = _
    rw [Array.getElem?_modify, if_neg (by omega)]; exact hB1
  have hcpB : ∀ (W : World), W.heap = (W1.setRow w.heap.size A1).heap → ∀ ty dc sc, (Builtin.copy_ #[26, 26] ty #[.slice (some ⟨w.heap.size, (i + 1) * 7, none⟩) (n - i) dc, .slice (some ⟨b, i * 7, none⟩) (n - i) sc]).run Tryz.prog W = .ok (goInt ((n - i : Nat) : Int)) (W.setRow w.heap.size (putC A1 ((i + 1) * 7) cs)) := fun W hW ty dc sc => by
    have h0 := run_copy_rowK (P := Tryz.prog) 7 W 26 26 ty 51 w.heap.size ((i + 1) * 7) (n - i) dc ⟨b, i * 7, none⟩ (n - i) sc A1 51 cs (n - i) t24 z9 (by rw [hW]; exact hN2) (by simp only [Nat.min_def]; split <;> omega) hcl
      (fun j v hj => by
        have h := hcg j v hj
        rw [Addr.add_lit]
        simp only [World.cell?, hW, hB2]
        simpa using h) (by rw [hcl]; omega) hcm
    exact h0
  have hw1 : IntKind.i64.wrap ((i : Int) + 1) = (i : Int) + 1 := by rw [IntKind.wrap_i64]; omega
  have hw2 : IntKind.i64.wrap ((n : Int) + 1) = (n : Int) + 1 := by rw [IntKind.wrap_i64]; omega
  have hw3 : IntKind.i64.wrap ((n : Int) + 1 - (i : Int)) = (n : Int) + 1 - (i : Int) := by rw [IntKind.wrap_i64]; omega
  have hb1 : (0 : Int) ≤ (i : Int) + 1 := by omega
  have hin : i ≤ n := by omega
  have htn : ((i : Int) + 1).toNat = i + 1 := by omega
  have hb3 : (i : Int) ≤ (n : Int) := by omega
  have hGi : ¬ (G = i) := by omega
  have hGim : ¬ (G = i + 1) := by omega
  have hci : ¬ (c = i) := by omega
  rw [← hA1] at hcpA
  rw [← hA1, ← hcs1]
  clear hkk hik hold hROW hG hW1 hcs1 hA1
  go_enter Tryz.func122, Tryz.ntmps122
  go_wp2_with (first
    | (at_builtin; refine Lib.wpList_append_run _ rfl _ _ _ _ rfl _ _ rfl rfl _ _ (hrz _) ?_)
    | (at_builtin; refine wpList_copy_runI _ rfl _ _ 26 26 rfl _ _ rfl rfl (hcpA _ rfl _ _) ?_))
  go_region_law_o (refine step_copy_runI rfl _ _ 26 26 rfl (.slice (some ⟨w.heap.size, (i + 1) * 7, none⟩) (n - i) (G - (i + 1))) (.slice (some ⟨b, i * 7, none⟩) (n - i) (c - i)) (by simp [Act.eval, Act.put]) (by simp [Act.eval, Act.put]) (hcpB (W1.setRow w.heap.size A1).drew rfl 3 (G - (i + 1)) (c - i)) ?_)
  go_wp2
  go_ret
  exact ⟨rfl, rfl⟩
theorem zeroI_one (m : Nat) : ∀ v ∈ (Builtin.zeroCells (Value.agg #[.int .i64 0, .string ⟨#[]⟩, .string ⟨#[]⟩, .int .i64 0, .int .i64 0, .string ⟨#[]⟩, .int .i64 0]).cells m).toList, v.oneCell' = true := by
  intro v hv
  obtain ⟨j, hj, rfl⟩ := List.getElem_of_mem hv
  have h3 : j % 7 = 0 ∨ j % 7 = 1 ∨ j % 7 = 2 ∨ j % 7 = 3 ∨ j % 7 = 4 ∨ j % 7 = 5 ∨ j % 7 = 6 := by omega
  simp only [Builtin.zeroCells, Value.cells, Array.toList_map, List.getElem_map, Array.toList_range, List.getElem_range]
  show (#[Value.int .i64 0, .string ⟨#[]⟩, .string ⟨#[]⟩, .int .i64 0, .int .i64 0, .string ⟨#[]⟩, .int .i64 0][j % 7]!).oneCell' = true
  rcases h3 with h | h | h | h | h | h | h <;> rw [h] <;> rfl
theorem zeroI_size (m : Nat) : (Builtin.zeroCells (Value.agg #[.int .i64 0, .string ⟨#[]⟩, .string ⟨#[]⟩, .int .i64 0, .int .i64 0, .string ⟨#[]⟩, .int .i64 0]).cells m).size = m * 7 := by simp [Builtin.zeroCells, Value.cells]
theorem takeI_getD {nv : Array Value} {m y : Nat} (h : y < m) : (nv.toList.take m).getD y undef = nv.getD y undef := by
  simp only [List.getD, Array.getD_eq_getD_getElem?]
  rw [List.getElem?_take_of_lt h, Array.getElem?_toList]
theorem midI_getD {cur : Array Value} {a m y : Nat} (h : y < m) : ((cur.toList.drop a).take m).getD y undef = cur.getD (a + y) undef := by
  simp only [List.getD, Array.getD_eq_getD_getElem?]
  rw [List.getElem?_take_of_lt h, List.getElem?_drop, Array.getElem?_toList]
set_option maxHeartbeats 1000000 in
theorem ac_slices_Insert_Item {l : List Item} {i : Nat} {x : Item} {g : Nat → List PV} (hil : i ≤ l.length) (hln : l.length ≤ 1048576) (hgx : PSubs (g 0) (cItem x)) :
    AC Tryz.prog 122 [.own 0, .pv (vint i), .own 2] [(0, rowL 7 cItem l), (2, .row 7 1 g)] (.own 1) [(1, rowL 7 cItem (insL l i x)), (0, .gone)] := by
  refine ⟨Tryz.call122, fun St M0 σ w vals hi hσ hos hsz hA => ?_⟩
  obtain ⟨loc0, hl0, hor⟩ := hos 0 _ (by simp [getO]; rfl)
  obtain ⟨loc2, hl2, hor2⟩ := hos 2 (.row 7 1 g) (by simp [getO])
  have h1 : σ 1 = none := hσ 1 (by simp [getO])
  have hv0 := arg_own (hA 0 (.own 0) rfl) hl0
  have hv1 := pr_val (arg_pv (hA 1 (.pv (vint i)) rfl))
  have hv2 := arg_own (hA 2 (.own 2) rfl) hl2
  have hvals : vals = #[vals.getD 0 undef, vals.getD 1 undef, vals.getD 2 undef] := by
    have hs2 : vals.size = 3 := hsz
    apply Array.ext
    · simpa using hs2
    · intro i h2 h3
      have : i = 0 ∨ i = 1 ∨ i = 2 := by omega
      rcases this with rfl | rfl | rfl <;> simp [Array.getD, hs2]
  rw [hvals, hv0, hv1, hv2]
  generalize hk1 : (1 : Nat) = n1 at hor2
  cases hor2 with
  | row0 _ _ a => cases hk1
  | row _ _ _ b2 cap2 nv tv hb2 hn2 hmax2 hsz2 hs2 hh2 hone2 =>
  subst hk1
  have hnv1 : ∀ v ∈ nv.toList, v.oneCell' = true := fun v hv => by
    obtain ⟨j, hj, rfl⟩ := List.getElem_of_mem hv
    have := hone2 j (by simpa using hj)
    simpa [Array.getD, show j < nv.size from by simpa using hj] using this
  have hnew : ∀ q p, (g 0)[q]? = some p → PR w (Mof M0 σ) p (nv.getD q undef) := fun q p e => by
    have := hh2 0 (by omega) q p e
    rwa [Nat.zero_mul, Nat.zero_add] at this
  have hnl : (nv.toList.take 7).length = 7 := by simp; omega
  have hnm : ∀ v ∈ nv.toList.take 7, v.oneCell' = true := fun v hv => hnv1 v (List.mem_of_mem_take hv)
  change OR _ _ _ _ _ (.row 7 l.length fun j => cItem (l.getD j default)) loc0 at hor
  generalize hn0 : l.length = n0 at hor
  have hml : n0 + 1 ≤ maxLen := by unfold maxLen; omega
  cases hor with
  | row0 _ _ a =>
    have hi0 : i = 0 := by omega
    subst hi0
    refine (insItem_end_grow a 0 0 b2 cap2 [] nv tv w (by omega) (by omega) (by omega) (by
      cases a with
      | none => exact run_firstCells_none w.drew 7 0 0 0
      | some ad => exact run_firstCells_some w.drew 7 0 ad 0 0 [] rfl (fun j v hj => by simp at hj)) (fun _ => rfl) hb2 hsz2 hnv1 hn2).mono (fun e w' h => ?_)
    obtain ⟨rfl, rfl⟩ := h
    have hge := grownCap_ge w (0 + 1) 0 51
    have hp := ins_post (P := Tryz.prog) (x := x) (g := g) (enc := cItem) (k := 7) (cur := #[]) (nv := nv) (A := (([] ++ nv.toList.take 7).toArray ++ Builtin.zeroCells (Value.agg #[.int .i64 0, .string ⟨#[]⟩, .string ⟨#[]⟩, .int .i64 0, .int .i64 0, .string ⟨#[]⟩, .int .i64 0]).cells (grownCap w (0 + 1) 0 51 - (0 + 1)))) (t' := 51) (c' := grownCap w (0 + 1) 0 51) hi h1 hl0 hil (.inr (Nat.le_refl _)) (drew_ext.trans (ext_alloc _ _)) (alloc_new w.drew _) (by rw [hn0]; exact hge) (grownCap_le_maxLen w _ _ _ hml) (by rw [Array.size_append, List.size_toArray, List.nil_append, hnl, zeroI_size]; omega) (fun v hv => ?_) (fun _ => rfl) hgx (fun j hj => by omega) hnew (fun y hy => ?_)
    · rw [hn0] at hp
      exact ⟨_, _, rfl, hp⟩
    · simp only [Array.toList_append, List.mem_append, List.nil_append] at hv
      rcases hv with hv | hv
      · exact hnm v hv
      · exact zeroI_one _ v hv
    · rw [hn0] at hy
      rw [if_neg (by omega), if_pos (by omega), getD_append_left (by rw [List.size_toArray, List.nil_append, hnl]; omega), Nat.zero_mul, Nat.sub_zero, toA_getD, List.nil_append, takeI_getD (m := 7) (by omega)]
  | row _ _ _ b cap vs tb hb hn hmax hsz' hs hh hone =>
    have hc1 : ∀ v ∈ vs.toList, v.oneCell' = true := fun v hv => by
      obtain ⟨j, hj, rfl⟩ := List.getElem_of_mem hv
      have := hone j (by simpa using hj)
      simpa [Array.getD, show j < vs.size from by simpa using hj] using this
    have hne : b2 ≠ b := fun e => by
      subst e
      have := hi.sep 0 2 _ _ b2 hl0 hl2 rfl rfl
      cases this
    subst hn0
    have hc63 : cap ≤ 9223372036854775807 := by unfold maxLen at hmax; omega
    have fin := fun (w' : World) (b' c' : Nat) (A : Array Value) (t' : TypeId) (hb') (hx) (hA) (hn') (hm') (hz) (ho) (hg) => ins_post (P := Tryz.prog) (w' := w') (b' := b') (c' := c') (A := A) (t' := t') (x := x) (g := g) (enc := cItem) (k := 7) (cur := vs) (nv := nv) hi h1 hl0 hil hb' hx hA hn' hm' hz ho (fun _ => rfl) hgx (fun j hj q p e => hh j hj q p e) hnew hg
    by_cases hin : i = l.length
    · subst hin
      by_cases hroom : l.length + 1 ≤ cap
      · refine (insItem_end_room b l.length cap b2 cap2 vs nv tb tv w hroom hc63 hb hsz' hb2 hsz2 hnv1 hn2).mono (fun e w' h => ?_)
        obtain ⟨rfl, rfl⟩ := h
        rw [setCells_row (P := Tryz.prog) hb (by rw [hnl]; omega) hnm]
        refine ⟨_, _, rfl, fin _ b cap (putC vs (l.length * 7) (nv.toList.take 7)) tb (.inl rfl) (setRow_ext.mono fun c _ h => by rw [h]) (setRow_heap w b vs _ tb _ hb) hroom hmax (by rw [putC_size (by rw [hnl]; omega)]; exact hsz') (putC_one hc1 hnm) (fun y hy => ?_)⟩
        rw [putC_get (by rw [hnl]; omega), hnl]
        by_cases hy1 : y < l.length * 7
        · rw [if_neg (by omega), if_pos hy1]
        · rw [if_pos (by omega), if_neg hy1, if_pos (by omega), takeI_getD (by omega)]
      · refine (insItem_end_grow (some ⟨b, 0, none⟩) l.length cap b2 cap2 (vs.toList.take (l.length * 7)) nv tv w hn (by omega) (by omega) (run_firstCells_some w.drew 7 l.length ⟨b, 0, none⟩ l.length cap _ (by simp; omega) (fun j v hj => ?_)) (fun h => by cases h) hb2 hsz2 hnv1 hn2).mono (fun e w' h => ?_)
        · rw [Addr.add_lit, Nat.zero_add]
          rw [List.getElem?_take] at hj
          split at hj
          · show w.cell? _ = _
            simp only [World.cell?, hb]
            simpa using hj
          · cases hj
        obtain ⟨rfl, rfl⟩ := h
        have htl : (vs.toList.take (l.length * 7)).length = l.length * 7 := by simp; omega
        have hge := grownCap_ge w (l.length + 1) cap 51
        refine ⟨_, _, rfl, fin _ w.heap.size (grownCap w (l.length + 1) cap 51) _ 51 (.inr (Nat.le_refl _)) (drew_ext.trans (ext_alloc _ _)) (alloc_new w.drew _) hge (grownCap_le_maxLen w _ _ _ hml) (by rw [Array.size_append, List.size_toArray, List.length_append, hnl, htl, zeroI_size]; omega) (fun v hv => ?_) (fun y hy => ?_)⟩
        · simp only [Array.toList_append, List.mem_append] at hv
          rcases hv with (hv | hv) | hv
          · exact hc1 v (List.mem_of_mem_take hv)
          · exact hnm v hv
          · exact zeroI_one _ v hv
        · rw [getD_append_left (by rw [List.size_toArray, List.length_append, hnl, htl]; omega), toA_getD]
          by_cases hy1 : y < l.length * 7
          · rw [if_pos hy1, lt_getD (by rw [htl]; exact hy1), takeI_getD hy1]
          · rw [if_neg hy1, if_pos (by omega), ge_getD (by rw [htl]; omega), htl, takeI_getD (by omega)]
    · have hcl : ((vs.toList.drop (i * 7)).take ((l.length - i) * 7)).length = (l.length - i) * 7 := by simp; omega
      have hcm : ∀ v ∈ (vs.toList.drop (i * 7)).take ((l.length - i) * 7), v.oneCell' = true := fun v hv => hc1 v (List.mem_of_mem_drop (List.mem_of_mem_take hv))
      by_cases hroom : l.length + 1 ≤ cap
      · refine (insItem_shift b l.length cap i b2 cap2 vs nv tb tv w (by omega) hroom hc63 hne hb hsz' hc1 hb2 hsz2 hnv1 hn2).mono (fun e w' h => ?_)
        obtain ⟨rfl, rfl⟩ := h
        have hs1 : (putC vs ((i + 1) * 7) ((vs.toList.drop (i * 7)).take ((l.length - i) * 7))).size = vs.size := putC_size (by rw [hcl]; omega)
        refine ⟨_, _, rfl, fin _ b cap _ tb (.inl rfl) ((drew_ext.trans setRow_ext).trans setRow_ext |>.mono fun c _ h => by rw [h]) (setRow_heap _ b _ _ tb _ (setRow_heap w.drew b vs _ tb _ hb)) hroom hmax (by rw [putC_size (by rw [hs1, hnl]; omega), hs1]; exact hsz') (putC_one (putC_one hc1 hcm) hnm) (fun y hy => ?_)⟩
        rw [putC_get (by rw [hs1, hnl]; omega), hnl, putC_get (by rw [hcl]; omega), hcl]
        by_cases hy1 : y < i * 7
        · rw [if_neg (by omega), if_neg (by omega), if_pos hy1]
        · rw [if_neg hy1]
          by_cases hy2 : y < (i + 1) * 7
          · rw [if_pos (by omega), if_pos hy2, takeI_getD (by omega)]
          · rw [if_neg (by omega), if_pos (by omega), if_neg hy2, midI_getD (by omega)]
            congr 1
            omega
      · obtain ⟨G, ROW, W1, hG1, hG2, hROW, hW1, hcalls⟩ := insItem_grow b l.length cap i b2 cap2 vs nv tb tv w (by omega) hn (by omega) (by omega) hb hsz' hc1 hb2 hsz2 hnv1 hn2
        refine hcalls.mono (fun e w' h => ?_)
        obtain ⟨rfl, rfl⟩ := h
        have hRs : ROW.size = G * 7 := by rw [hROW]; simp [Builtin.zeroCells, Value.cells]; omega
        have hRo : ∀ v ∈ ROW.toList, v.oneCell' = true := fun v hv => by
          rw [hROW] at hv
          simp only [Array.toList_append, List.mem_append] at hv
          rcases hv with (hv | hv) | hv
          · exact hc1 v (List.mem_of_mem_take hv)
          · exact zeroI_one _ v hv
          · exact zeroI_one _ v hv
        have hRg : ∀ y, y < i * 7 → ROW.getD y undef = vs.getD y undef := fun y hy => by
          rw [hROW, Array.append_assoc, getD_append_left (by simp; omega), toA_getD, takeI_getD hy]
        have hN1 : W1.heap[w.heap.size]? = some (.cells ROW 51 (0, 0)) := by rw [hW1]; exact alloc_new w.drew _
        have hs1 : (putC ROW (i * 7) (nv.toList.take 7)).size = ROW.size := putC_size (by rw [hnl]; omega)
        have hN2 := setRow_heap W1 w.heap.size ROW (putC ROW (i * 7) (nv.toList.take 7)) 51 _ hN1
        refine ⟨_, _, rfl, fin _ w.heap.size G _ 51 (.inr (Nat.le_refl _)) ?_ (setRow_heap _ w.heap.size _ _ 51 _ hN2) hG1 hG2 (by rw [putC_size (by rw [hs1, hcl]; omega), hs1]; exact hRs) (putC_one (putC_one hRo hnm) hcm) (fun y hy => ?_)⟩
        · have e1 : FExt (fun b => b = w.heap.size) w W1 := by rw [hW1]; exact drew_ext.trans (ext_alloc _ _)
          have e2 := ((e1.trans (setRow_ext (A := putC ROW (i * 7) (nv.toList.take 7)))).trans drew_ext).trans (setRow_ext (A := putC (putC ROW (i * 7) (nv.toList.take 7)) ((i + 1) * 7) ((vs.toList.drop (i * 7)).take ((l.length - i) * 7))))
          exact e2.mono fun c hc h => absurd h (by omega)
        · rw [putC_get (by rw [hs1, hcl]; omega), hcl, putC_get (by rw [hnl]; omega), hnl]
          by_cases hy1 : y < i * 7
          · rw [if_neg (by omega), if_neg (by omega), if_pos hy1, hRg y hy1]
          · rw [if_neg hy1]
            by_cases hy2 : y < (i + 1) * 7
            · rw [if_neg (by omega), if_pos (by omega), if_pos hy2, takeI_getD (by omega)]
            · rw [if_pos (by omega), if_neg hy2, midI_getD (by omega)]
              congr 1
              omega
end Go.Abs

namespace Go.Abs
open Go.Proofs
set_option maxRecDepth 10000
theorem desE_eq (H : Hom) (s : Shd) (k : Key) (v : Val) : desE H s k v = if (findA H k).isSome = false then 8 else if k.dev ≠ s.dev then 8 else if ((findA H k).getD noAttr).writable = false then 24 else fitsE ((findA H k).getD noAttr) v := by
  unfold desE
  cases findA H k <;> simp
theorem des_err {H : Hom} {s : Shd} {k : Key} {v : Val} {e : Int} (h : desE H s k v = e) (h0 : e ≠ 0) : desS H s k v = noShd := by rw [desS, if_pos (by rw [h]; exact h0)]
theorem noShd_cells : PSub (.agg [vint 0, vint 0, vint 0, .val (.slice none 0 0), .val (.slice none 0 0), vint 0, vint 0, vint 0, vint 0]) (.agg (cShd noShd)) := PSub.agg ⟨.rfl, .rfl, .rfl, PSub.nil_ro _ _, PSub.nil_ro _ _, .rfl, .rfl, .rfl, .rfl, trivial⟩
set_option maxHeartbeats 4000000 in
theorem ac_shadow_Desire (H : Hom) (s : Shd) (k : Key) (v : Val) (hH : smallH H) (hs : smallSh s) : AC Tryz.prog 88 [.pv (.agg (cHom H)), .pv (.agg (cShd s)), .pv (.agg (cKey k)), .pv (.agg (cVal v))] [] (.pv (.tup [.agg (cShd (desS H s k v)), vint (desE H s k v)])) [] := by
  have h2 : s.desired.length ≤ 1048576 := hs.2
  have hde := desE_eq H s k v
  have c := ac_shadow_index s.desired k hs.2
  have hhas : hasD s k v = (decide (itemAt s.desired k < s.desired.length) && decide ((s.desired.getD (itemAt s.desired k) default).value = v)) := rfl
  refine AC.of_awp (T := T) T_ok hm Tryz.call88 Tryz.func88 rfl rfl rfl ?_
  conv => whnf
  by_cases hlt : itemAt s.desired k < s.desired.length
  · rw [ixI, if_pos hlt] at c
    repeat (any_goals (first
      | (refine ⟨fun (h : (_ : Bool) = true) => ?_, fun (h : (_ : Bool) = false) => ?_⟩ <;> (try simp only [decide_eq_true_eq, decide_eq_false_iff_not, Bool.not_eq_true', Bool.not_eq_false', Int.toNat_natCast, beq_iff_eq, decide_eq_decide, beq_eq_false_iff_ne, ne_eq, reduceCtorEq] at h) <;> (conv => whnf))
      | (refine .inl ⟨_, ac_device_Find H k hH, ?_⟩; conv => whnf)
      | (refine .inl ⟨_, ac_value_Fits ((findA H k).getD noAttr) v (small_findA hH), ?_⟩; conv => whnf)
      | (refine .inl ⟨_, c, ?_⟩; conv => whnf)
      | (refine .inl ⟨_, ac_shadow_twin s hs, ?_⟩; conv => whnf)
      | (refine .inr (.inr (.inr (.inr ⟨[], [(0, 700001), (1, 700002)], _, _, _, ac_shadow_Drop_m s k hs, rfl, ?_⟩))); conv => whnf)
      | (refine And.intro (by (try simp only [Int.toNat_natCast]); omega) ?_; conv => whnf)
      | (refine And.intro (show (_ : Bool) = true from by kernel_rfl) ?_; conv => whnf)
      | (refine .inl ⟨wrap64 (by omega), ?_⟩; conv => whnf)))
    · have he : desE H s k v = 8 := by rw [hde, if_pos h]
      rw [des_err he (by decide), he]
      refine ⟨?_, ?_⟩ <;> (conv => whnf)
      · exact noShd_cells
      · exact .rfl
    · have he : desE H s k v = 8 := by rw [hde, if_neg (by rename_i h1; rw [h1]; decide), if_pos h]
      rw [des_err he (by decide), he]
      refine ⟨?_, ?_⟩ <;> (conv => whnf)
      · exact noShd_cells
      · exact .rfl
    · have he : desE H s k v = 24 := by rw [hde, if_neg (by rename_i h1 h3; rw [h1]; decide), if_neg (by rename_i h1 h3; exact fun x => x h3), if_pos h]
      rw [des_err he (by decide), he]
      refine ⟨?_, ?_⟩ <;> (conv => whnf)
      · exact noShd_cells
      · exact .rfl
    · have he : desE H s k v = fitsE ((findA H k).getD noAttr) v := by rw [hde, if_neg (by rename_i h1 h3 h4; rw [h1]; decide), if_neg (by rename_i h1 h3 h4; exact fun x => x h3), if_neg (by rename_i h1 h3 h4; rw [h4]; decide)]
      rw [des_err he h, he]
      refine ⟨?_, ?_⟩ <;> (conv => whnf)
      · exact noShd_cells
      · exact .rfl
    · have he : desE H s k v = 0 := by
        rw [hde]
        have a1 : (findA H k).isSome = true := by assumption
        have a2 : k.dev = s.dev := by assumption
        have a3 : ((findA H k).getD noAttr).writable = true := by assumption
        have a4 : fitsE ((findA H k).getD noAttr) v = 0 := by assumption
        rw [a1, a3, if_neg (by decide), if_neg (fun x => x a2), if_neg (by decide), a4]
      have hyes : hasD s k v = true := by
        rw [hhas, decide_eq_true hlt, Bool.true_and, decide_eq_true_eq]
        exact of_decide_eq_true ((val_eq _ _).symm.trans h)
      rw [desS, if_neg (by rw [he]; decide), if_pos hyes, he]
      refine ⟨?_, ?_⟩ <;> (conv => whnf)
      · exact .rfl
      · exact .rfl
    · have he : desE H s k v = 0 := by
        rw [hde]
        have a1 : (findA H k).isSome = true := by assumption
        have a2 : k.dev = s.dev := by assumption
        have a3 : ((findA H k).getD noAttr).writable = true := by assumption
        have a4 : fitsE ((findA H k).getD noAttr) v = 0 := by assumption
        rw [a1, a3, if_neg (by decide), if_neg (fun x => x a2), if_neg (by decide), a4]
      have hno : hasD s k v = false := by
        rw [hhas, decide_eq_true hlt, Bool.true_and]
        exact (val_eq _ _).symm.trans h
      obtain ⟨D, hD⟩ : ∃ D, D = dropD s.desired k := ⟨_, rfl⟩
      have hDl : D.length ≤ s.desired.length := by rw [hD]; exact dropD_length _ _
      have hds : desS H s k v = { dropS s k with desired := insL D (seatD D k) ⟨k, v, wantI s.want⟩, want := wantI s.want, sent := -1 } := by
        rw [desS, if_neg (by rw [he]; decide), if_neg (by rw [hno]; decide), hD]; rfl
      have hwi : (if (1099511627775 : Int) < (if s.want < 0 then 0 else s.want) then 1099511627775 else if s.want < 0 then 0 else s.want) + 1 = wantI s.want := by
        unfold wantI maxTick
        simp only [Int.max_def, Int.min_def]
        (repeat' split) <;> omega
      rw [hwi, hds, he, ← hD]
      refine loop_k (ι := Nat) [6, 7, 8, 14] [6, 7, 8, 14, 700001, 700002] (fun j => j ≤ D.length ∧ ∀ q, q < j → keyLess k (D.getD q default).key = false) (fun j => D.length - j) 0 (fun j => [(15, .pv (vint j))]) (fun j => []) [] ⟨Nat.zero_le _, fun q hq => absurd hq (by omega)⟩ ?_ (fun j hj => ?_)
      · (repeat' (first | exact PSub.rfl | exact rfl | exact PSubs.rfl | exact trivial | exact PSub.lit_sb rfl | refine And.intro ?_ ?_))
        all_goals (intro q hq; exact PSubs.rfl)
      obtain ⟨hj1, hj2⟩ := hj
      conv => whnf
      repeat (any_goals (first
        | (refine ⟨fun (h : (_ : Bool) = true) => ?_, fun (h : (_ : Bool) = false) => ?_⟩ <;> (try simp only [decide_eq_true_eq, decide_eq_false_iff_not, Bool.not_eq_true', Bool.not_eq_false', Int.toNat_natCast, beq_iff_eq, decide_eq_decide, beq_eq_false_iff_ne, ne_eq, reduceCtorEq] at h) <;> (conv => whnf))
        | (refine .inl ⟨_, ac_device_Less k (D.getD j default).key, ?_⟩; conv => whnf)
        | (refine And.intro (by (try simp only [Int.toNat_natCast]); omega) ?_; conv => whnf)
        | (refine And.intro (show (_ : Bool) = true from by kernel_rfl) ?_; conv => whnf)
        | (refine .inl ⟨wrap64 (by omega), ?_⟩; conv => whnf)))
      · refine ⟨j + 1, [], ⟨by omega, fun q hq => ?_⟩, by omega, ?_⟩
        · by_cases e : q = j
          · rw [e]; exact h
          · exact hj2 q (by omega)
        (repeat' (first | exact PSub.rfl | exact rfl | exact PSubs.rfl | exact trivial | exact PSub.lit_sb rfl | refine And.intro ?_ ?_))
        all_goals (intro q hq; exact PSubs.rfl)
      · have e : seatD D k = j := firstI_at (by omega) h hj2
        rw [e]
        repeat (any_goals (first
          | (refine ⟨fun (h : (_ : Bool) = true) => ?_, fun (h : (_ : Bool) = false) => ?_⟩ <;> (try simp only [decide_eq_true_eq, decide_eq_false_iff_not, Bool.not_eq_true', Bool.not_eq_false', Int.toNat_natCast, beq_iff_eq, decide_eq_decide, beq_eq_false_iff_ne, ne_eq, reduceCtorEq] at h) <;> (conv => whnf))
          | (refine .inr (.inr (.inr (.inr ⟨[(0, 700002), (2, 96)], [(1, 700003)], _, _, _, (ac_slices_Insert_Item (l := D) (i := j) (x := ⟨k, v, wantI s.want⟩) hj1 (by omega) (by exact PSubs.rfl)), rfl, ?_⟩))); conv => whnf)
          | (refine And.intro (by (try simp only [Int.toNat_natCast]); omega) ?_; conv => whnf)
          | (refine And.intro (show (_ : Bool) = true from by kernel_rfl) ?_; conv => whnf)
          | (refine .inl ⟨wrap64 (by omega), ?_⟩; conv => whnf)))
        refine ⟨?_, ?_⟩ <;> (conv => whnf)
        · exact .rfl
        · exact .rfl
      · have e : seatD D k = j := by
          have e2 : j = D.length := by omega
          subst e2
          exact firstI_none hj2
        rw [e]
        repeat (any_goals (first
          | (refine ⟨fun (h : (_ : Bool) = true) => ?_, fun (h : (_ : Bool) = false) => ?_⟩ <;> (try simp only [decide_eq_true_eq, decide_eq_false_iff_not, Bool.not_eq_true', Bool.not_eq_false', Int.toNat_natCast, beq_iff_eq, decide_eq_decide, beq_eq_false_iff_ne, ne_eq, reduceCtorEq] at h) <;> (conv => whnf))
          | (refine .inr (.inr (.inr (.inr ⟨[(0, 700002), (2, 96)], [(1, 700003)], _, _, _, (ac_slices_Insert_Item (l := D) (i := j) (x := ⟨k, v, wantI s.want⟩) hj1 (by omega) (by exact PSubs.rfl)), rfl, ?_⟩))); conv => whnf)
          | (refine And.intro (by (try simp only [Int.toNat_natCast]); omega) ?_; conv => whnf)
          | (refine And.intro (show (_ : Bool) = true from by kernel_rfl) ?_; conv => whnf)
          | (refine .inl ⟨wrap64 (by omega), ?_⟩; conv => whnf)))
        refine ⟨?_, ?_⟩ <;> (conv => whnf)
        · exact .rfl
        · exact .rfl
    · exfalso; omega
  · rw [ixI, if_neg hlt] at c
    repeat (any_goals (first
      | (refine ⟨fun (h : (_ : Bool) = true) => ?_, fun (h : (_ : Bool) = false) => ?_⟩ <;> (try simp only [decide_eq_true_eq, decide_eq_false_iff_not, Bool.not_eq_true', Bool.not_eq_false', Int.toNat_natCast, beq_iff_eq, decide_eq_decide, beq_eq_false_iff_ne, ne_eq, reduceCtorEq] at h) <;> (conv => whnf))
      | (refine .inl ⟨_, ac_device_Find H k hH, ?_⟩; conv => whnf)
      | (refine .inl ⟨_, ac_value_Fits ((findA H k).getD noAttr) v (small_findA hH), ?_⟩; conv => whnf)
      | (refine .inl ⟨_, c, ?_⟩; conv => whnf)
      | (refine .inl ⟨_, ac_shadow_twin s hs, ?_⟩; conv => whnf)
      | (refine .inr (.inr (.inr (.inr ⟨[], [(0, 700001), (1, 700002)], _, _, _, ac_shadow_Drop_m s k hs, rfl, ?_⟩))); conv => whnf)
      | (refine And.intro (by (try simp only [Int.toNat_natCast]); omega) ?_; conv => whnf)
      | (refine And.intro (show (_ : Bool) = true from by kernel_rfl) ?_; conv => whnf)
      | (refine .inl ⟨wrap64 (by omega), ?_⟩; conv => whnf)))
    · have he : desE H s k v = 8 := by rw [hde, if_pos h]
      rw [des_err he (by decide), he]
      refine ⟨?_, ?_⟩ <;> (conv => whnf)
      · exact noShd_cells
      · exact .rfl
    · have he : desE H s k v = 8 := by rw [hde, if_neg (by rename_i h1; rw [h1]; decide), if_pos h]
      rw [des_err he (by decide), he]
      refine ⟨?_, ?_⟩ <;> (conv => whnf)
      · exact noShd_cells
      · exact .rfl
    · have he : desE H s k v = 24 := by rw [hde, if_neg (by rename_i h1 h3; rw [h1]; decide), if_neg (by rename_i h1 h3; exact fun x => x h3), if_pos h]
      rw [des_err he (by decide), he]
      refine ⟨?_, ?_⟩ <;> (conv => whnf)
      · exact noShd_cells
      · exact .rfl
    · have he : desE H s k v = fitsE ((findA H k).getD noAttr) v := by rw [hde, if_neg (by rename_i h1 h3 h4; rw [h1]; decide), if_neg (by rename_i h1 h3 h4; exact fun x => x h3), if_neg (by rename_i h1 h3 h4; rw [h4]; decide)]
      rw [des_err he h, he]
      refine ⟨?_, ?_⟩ <;> (conv => whnf)
      · exact noShd_cells
      · exact .rfl
    rotate_right
    · have he : desE H s k v = 0 := by
        rw [hde]
        have a1 : (findA H k).isSome = true := by assumption
        have a2 : k.dev = s.dev := by assumption
        have a3 : ((findA H k).getD noAttr).writable = true := by assumption
        have a4 : fitsE ((findA H k).getD noAttr) v = 0 := by assumption
        rw [a1, a3, if_neg (by decide), if_neg (fun x => x a2), if_neg (by decide), a4]
      have hno : hasD s k v = false := by rw [hhas, decide_eq_false hlt, Bool.false_and]
      obtain ⟨D, hD⟩ : ∃ D, D = dropD s.desired k := ⟨_, rfl⟩
      have hDl : D.length ≤ s.desired.length := by rw [hD]; exact dropD_length _ _
      have hds : desS H s k v = { dropS s k with desired := insL D (seatD D k) ⟨k, v, wantI s.want⟩, want := wantI s.want, sent := -1 } := by
        rw [desS, if_neg (by rw [he]; decide), if_neg (by rw [hno]; decide), hD]; rfl
      have hwi : (if (1099511627775 : Int) < (if s.want < 0 then 0 else s.want) then 1099511627775 else if s.want < 0 then 0 else s.want) + 1 = wantI s.want := by
        unfold wantI maxTick
        simp only [Int.max_def, Int.min_def]
        (repeat' split) <;> omega
      rw [hwi, hds, he, ← hD]
      refine loop_k (ι := Nat) [6, 7, 8, 14] [6, 7, 8, 14, 700001, 700002] (fun j => j ≤ D.length ∧ ∀ q, q < j → keyLess k (D.getD q default).key = false) (fun j => D.length - j) 0 (fun j => [(15, .pv (vint j))]) (fun j => []) [] ⟨Nat.zero_le _, fun q hq => absurd hq (by omega)⟩ ?_ (fun j hj => ?_)
      · (repeat' (first | exact PSub.rfl | exact rfl | exact PSubs.rfl | exact trivial | exact PSub.lit_sb rfl | refine And.intro ?_ ?_))
        all_goals (intro q hq; exact PSubs.rfl)
      obtain ⟨hj1, hj2⟩ := hj
      conv => whnf
      repeat (any_goals (first
        | (refine ⟨fun (h : (_ : Bool) = true) => ?_, fun (h : (_ : Bool) = false) => ?_⟩ <;> (try simp only [decide_eq_true_eq, decide_eq_false_iff_not, Bool.not_eq_true', Bool.not_eq_false', Int.toNat_natCast, beq_iff_eq, decide_eq_decide, beq_eq_false_iff_ne, ne_eq, reduceCtorEq] at h) <;> (conv => whnf))
        | (refine .inl ⟨_, ac_device_Less k (D.getD j default).key, ?_⟩; conv => whnf)
        | (refine And.intro (by (try simp only [Int.toNat_natCast]); omega) ?_; conv => whnf)
        | (refine And.intro (show (_ : Bool) = true from by kernel_rfl) ?_; conv => whnf)
        | (refine .inl ⟨wrap64 (by omega), ?_⟩; conv => whnf)))
      · refine ⟨j + 1, [], ⟨by omega, fun q hq => ?_⟩, by omega, ?_⟩
        · by_cases e : q = j
          · rw [e]; exact h
          · exact hj2 q (by omega)
        (repeat' (first | exact PSub.rfl | exact rfl | exact PSubs.rfl | exact trivial | exact PSub.lit_sb rfl | refine And.intro ?_ ?_))
        all_goals (intro q hq; exact PSubs.rfl)
      · have e : seatD D k = j := firstI_at (by omega) h hj2
        rw [e]
        repeat (any_goals (first
          | (refine ⟨fun (h : (_ : Bool) = true) => ?_, fun (h : (_ : Bool) = false) => ?_⟩ <;> (try simp only [decide_eq_true_eq, decide_eq_false_iff_not, Bool.not_eq_true', Bool.not_eq_false', Int.toNat_natCast, beq_iff_eq, decide_eq_decide, beq_eq_false_iff_ne, ne_eq, reduceCtorEq] at h) <;> (conv => whnf))
          | (refine .inr (.inr (.inr (.inr ⟨[(0, 700002), (2, 96)], [(1, 700003)], _, _, _, (ac_slices_Insert_Item (l := D) (i := j) (x := ⟨k, v, wantI s.want⟩) hj1 (by omega) (by exact PSubs.rfl)), rfl, ?_⟩))); conv => whnf)
          | (refine And.intro (by (try simp only [Int.toNat_natCast]); omega) ?_; conv => whnf)
          | (refine And.intro (show (_ : Bool) = true from by kernel_rfl) ?_; conv => whnf)
          | (refine .inl ⟨wrap64 (by omega), ?_⟩; conv => whnf)))
        refine ⟨?_, ?_⟩ <;> (conv => whnf)
        · exact .rfl
        · exact .rfl
      · have e : seatD D k = j := by
          have e2 : j = D.length := by omega
          subst e2
          exact firstI_none hj2
        rw [e]
        repeat (any_goals (first
          | (refine ⟨fun (h : (_ : Bool) = true) => ?_, fun (h : (_ : Bool) = false) => ?_⟩ <;> (try simp only [decide_eq_true_eq, decide_eq_false_iff_not, Bool.not_eq_true', Bool.not_eq_false', Int.toNat_natCast, beq_iff_eq, decide_eq_decide, beq_eq_false_iff_ne, ne_eq, reduceCtorEq] at h) <;> (conv => whnf))
          | (refine .inr (.inr (.inr (.inr ⟨[(0, 700002), (2, 96)], [(1, 700003)], _, _, _, (ac_slices_Insert_Item (l := D) (i := j) (x := ⟨k, v, wantI s.want⟩) hj1 (by omega) (by exact PSubs.rfl)), rfl, ?_⟩))); conv => whnf)
          | (refine And.intro (by (try simp only [Int.toNat_natCast]); omega) ?_; conv => whnf)
          | (refine And.intro (show (_ : Bool) = true from by kernel_rfl) ?_; conv => whnf)
          | (refine .inl ⟨wrap64 (by omega), ?_⟩; conv => whnf)))
        refine ⟨?_, ?_⟩ <;> (conv => whnf)
        · exact .rfl
        · exact .rfl
    all_goals (exfalso; omega)
end Go.Abs

namespace Go.Abs
open Go.Proofs
set_option maxRecDepth 10000
theorem ac_sync_Push_1 (x : Item) : AC Tryz.prog 58 [.pv (.agg (cItem x))] [] (.pv (vbool true)) [] := by
  refine AC.of_awp (T := T) T_ok hm Tryz.call58 Tryz.func58 rfl rfl rfl ?_
  conv => whnf
  exact PSub.lit_sb rfl
theorem ac_sync_pick_Push (l : List Item) (hl : smallL l) : AC Tryz.prog 45 [.pv (roL 7 cItem l), .fn 58 []] [] (.own 1) [(1, rowL 7 cItem (sortV l))] := by
  have hl : l.length ≤ 1048576 := hl
  obtain ⟨p, hpd⟩ : ∃ p : Item → Bool, p = fun x => true := ⟨_, rfl⟩
  have hc : ∀ x, AC Tryz.prog 58 [.pv (.agg (cItem x))] [] (.pv (vbool (p x))) [] := fun x => by rw [hpd]; exact ac_sync_Push_1 x
  have hp : ∀ x : Item, p x = true → p x = true := fun x h => h
  have hq : ∀ x : Item, p x = false → ¬ p x = true := fun x h => by rw [h]; decide
  have hab : l = l.filter p := by rw [hpd]; exact (List.filter_eq_self.2 fun _ _ => rfl).symm
  have hgoal : sortV l = sortV (l.filter p) := by rw [← hab]
  rw [hgoal]
  clear hpd hab hgoal
  refine AC.of_awp_gen (T := T) T_ok hm Tryz.call45 Tryz.func45 rfl rfl rfl rfl rfl rfl ?_
  conv => whnf
  refine loop_k (ι := Nat) [1, 8, 9] [] (fun k => k ≤ l.length ∧ True) (fun k => l.length - k) 0 (fun k => [(5, .own 500), (10, .pv (vint k))]) (fun k => [(500, rowL 7 cItem ((l.take k).filter p))]) [] ⟨Nat.zero_le _, trivial⟩ ?_ (fun k hk => ?_)
  · (repeat' (first | exact PSub.rfl | exact rfl | exact PSubs.rfl | exact trivial | exact PSub.lit_sb rfl | refine And.intro ?_ ?_))
  obtain ⟨hkn, hinv⟩ := hk
  conv => whnf
  have hfl := fil_length p l k
  repeat (any_goals (first
    | (refine ⟨fun (h : (_ : Bool) = true) => ?_, fun (h : (_ : Bool) = false) => ?_⟩ <;> (try simp only [decide_eq_true_eq, decide_eq_false_iff_not, Bool.not_eq_true', Bool.not_eq_false', Int.toNat_natCast, beq_iff_eq, decide_eq_decide, beq_eq_false_iff_ne, ne_eq, reduceCtorEq] at h) <;> (conv => whnf))
    | (refine .inl ⟨_, hc (l.getD k default), ?_⟩; conv => whnf)
    | (refine And.intro (by (try simp only [Int.toNat_natCast]); omega) ?_; conv => whnf)
    | (refine And.intro (show (_ : Bool) = true from by kernel_rfl) ?_; conv => whnf)
    | (refine .inl ⟨wrap64 (by omega), ?_⟩; conv => whnf)))
  · have hfs := fil_snoc p (l := l) (k := k) (by omega)
    rw [if_pos (hp _ h)] at hfs
    refine ⟨k + 1, [(500, 20)], ⟨by omega, trivial⟩, by omega, ?_⟩
    rw [hfs]
    (repeat' (first | exact PSub.rfl | exact rfl | exact PSubs.rfl | exact trivial | exact PSub.lit_sb rfl | refine And.intro ?_ ?_))
    · simp [-List.getD_eq_getElem?_getD]
    · refine rows_snocF (fun i hi => by simp only [if_pos hi]; exact PSubs.rfl) (by simp only [if_neg (Nat.lt_irrefl _), Nat.sub_self]; exact PSubs.rfl)
  · have hfs := fil_snoc p (l := l) (k := k) (by omega)
    rw [if_neg (hq _ h), List.append_nil] at hfs
    refine ⟨k + 1, [], ⟨by omega, trivial⟩, by omega, ?_⟩
    rw [hfs]
    (repeat' (first | exact PSub.rfl | exact rfl | exact PSubs.rfl | exact trivial | exact PSub.lit_sb rfl | refine And.intro ?_ ?_))
    all_goals (intro i hi; exact PSubs.rfl)
  · have e : k = l.length := by omega
    subst e
    rw [List.take_length] at *
    have c := ac_slices_SortStableFunc_Item 92 Tryz.call92 (cmpOf oldLt) oldLt oldLt_swo (cmpOf_s oldLt) ac_sync_byVersion (l.filter p) (by omega)
    repeat (any_goals (first
      | (refine ⟨fun (h : (_ : Bool) = true) => ?_, fun (h : (_ : Bool) = false) => ?_⟩ <;> (try simp only [decide_eq_true_eq, decide_eq_false_iff_not, Bool.not_eq_true', Bool.not_eq_false', Int.toNat_natCast, beq_iff_eq, decide_eq_decide, beq_eq_false_iff_ne, ne_eq, reduceCtorEq] at h) <;> (conv => whnf))
      | (refine .inr (.inr (.inr (.inr ⟨[(900000, 500)], [], _, _, _, c, rfl, ?_⟩))); conv => whnf)
      | (refine And.intro (by (try simp only [Int.toNat_natCast]); omega) ?_; conv => whnf)
      | (refine And.intro (show (_ : Bool) = true from by kernel_rfl) ?_; conv => whnf)
      | (refine .inl ⟨wrap64 (by omega), ?_⟩; conv => whnf)))
    refine ⟨[(1, 500)], ?_⟩
    (repeat' (first | exact PSub.rfl | exact rfl | exact PSubs.rfl | exact trivial | exact PSub.lit_sb rfl | refine And.intro ?_ ?_))
    all_goals (intro i hi; exact PSubs.rfl)
end Go.Abs

namespace Go.Abs
open Go.Proofs
set_option maxRecDepth 10000
theorem setL_small {H : Hom} {l : List Item} {k : Key} {v : Val} {w : Bool} (hl : smallL l) : smallL (setL H l k v w) := by
  have : l.length ≤ 1048576 := hl
  unfold setL smallL
  split
  · rw [putL_length]; exact this
  · exact Nat.zero_le _
theorem loc_err {H : Hom} {a : Agt} {k : Key} {v : Val} {e : Int} (h : locE H a k v = e) (h0 : e ≠ 0) : locA H a k v = noAgt := by rw [locA, if_pos (by rw [h]; exact h0)]
theorem ac_sync_Local (H : Hom) (a : Agt) (k : Key) (v : Val) (hH : smallH H) (ha : smallL a.items) : AC Tryz.prog 30 [.pv (.agg (cHom H)), .pv (.agg (cAgt a)), .pv (.agg (cKey k)), .pv (.agg (cVal v))] [] (.pv (.tup [.agg (cAgt (locA H a k v)), vint (locE H a k v)])) [] := by
  have hs : (setL H a.items k v false).length ≤ 1048576 := setL_small ha
  refine AC.of_awp (T := T) T_ok hm Tryz.call30 Tryz.func30 rfl rfl rfl ?_
  conv => whnf
  repeat (any_goals (first
    | (refine ⟨fun (h : (_ : Bool) = true) => ?_, fun (h : (_ : Bool) = false) => ?_⟩ <;> (try simp only [decide_eq_true_eq, decide_eq_false_iff_not, Bool.not_eq_true', Bool.not_eq_false', Int.toNat_natCast, beq_iff_eq, decide_eq_decide, beq_eq_false_iff_ne, ne_eq, reduceCtorEq] at h) <;> (conv => whnf))
    | (refine .inl ⟨_, ac_device_Set H a.items k v hH ha, ?_⟩; conv => whnf)
    | (refine .inl ⟨_, ac_slices_Equal_Item (setL H a.items k v false) a.items (by omega), ?_⟩; conv => whnf)
    | (refine And.intro (by (try simp only [Int.toNat_natCast]); omega) ?_; conv => whnf)
    | (refine And.intro (show (_ : Bool) = true from by kernel_rfl) ?_; conv => whnf)
    | (refine .inl ⟨wrap64 (by omega), ?_⟩; conv => whnf)))
  · have e : locE H a k v = 8 := by rw [locE, if_pos (by assumption)]
    rw [loc_err e (by decide), e]
    refine ⟨?_, ?_⟩ <;> (conv => whnf)
    · exact noAgt_cells
    · exact .rfl
  · have e : locE H a k v = setE H a.items k v false := by rw [locE, if_neg (by rename_i h1; exact fun x => x h1)]
    rw [loc_err e h, e]
    refine ⟨?_, ?_⟩ <;> (conv => whnf)
    · exact noAgt_cells
    · exact .rfl
  all_goals
    have e : locE H a k v = 0 := by rw [locE, if_neg (by rename_i h1 h2; exact fun x => x h1)]; assumption
    rw [locA, if_neg (by rw [e]; decide), e]
  · rw [if_neg h]
    refine ⟨?_, ?_⟩ <;> (conv => whnf)
    · exact .rfl
    · exact .rfl
  · rw [if_pos h]
    refine ⟨?_, ?_⟩ <;> (conv => whnf)
    · exact .rfl
    · exact .rfl
end Go.Abs

namespace Go.Abs
open Go.Proofs
set_option maxRecDepth 10000
theorem psL_small {s : Shd} (hs : smallSh s) : smallL (psL s) := by
  have h1 := penL_length s
  have h2 : s.desired.length ≤ 1048576 := hs.2
  show (sortV _).length ≤ 1048576
  rw [sortV_length]; omega
theorem ps_no {s : Shd} {now : Int} (h : psB s now = false) : psS s now = s ∧ psM s now = noMsg := by
  rw [psS, psM, if_neg (by rw [h]; decide), if_neg (by rw [h]; decide)]; exact ⟨rfl, rfl⟩
theorem ps_yes {s : Shd} {now : Int} (h : psB s now = true) : psS s now = { s with sent := tickI now } ∧ psM s now = batchM 3 s.dev s.epoch (psL s) := by
  rw [psS, psM, if_pos h, if_pos h]; exact ⟨rfl, rfl⟩
theorem ac_sync_Push (s : Shd) (now : Int) (hs : smallSh s) : AC Tryz.prog 19 [.pv (.agg (cShd s)), .pv (vint now)] [] (.pv (.tup [.agg (cShd (psS s now)), .agg (cMsg (psM s now)), vbool (psB s now)])) [] := by
  have hpl : (penL s).length ≤ 1048576 := Nat.le_trans (penL_length s) hs.2
  have hb : (psL s).length ≠ 0 → AC Tryz.prog 60 [.pv (vint 3), .pv (vint s.dev), .pv (vint s.epoch), .pv (roL 7 cItem (psL s))] [] (.pv (.agg (cMsg (batchM 3 s.dev s.epoch (psL s))))) [] := fun h => ac_sync_batch 3 s.dev s.epoch (psL s) (psL_small hs) (by intro e; rw [e] at h; exact h rfl)
  have hO : psB s now = (decide (penL s ≠ []) && dueB s.sent (tickI now)) := rfl
  have hN : penL s = [] ↔ (psL s).length = 0 := by
    unfold psL; rw [sortV_length]; exact List.length_eq_zero_iff.symm
  have cp := ac_sync_pick_Push (penL s) hpl
  change AC _ _ _ _ _ [(1, rowL 7 cItem (psL s))] at cp
  refine AC.of_awp (T := T) T_ok hm Tryz.call19 Tryz.func19 rfl rfl rfl ?_
  conv => whnf
  repeat (any_goals (first
    | (refine ⟨fun (h : (_ : Bool) = true) => ?_, fun (h : (_ : Bool) = false) => ?_⟩ <;> (try simp only [decide_eq_true_eq, decide_eq_false_iff_not, Bool.not_eq_true', Bool.not_eq_false', Int.toNat_natCast, beq_iff_eq, decide_eq_decide, beq_eq_false_iff_ne, ne_eq, reduceCtorEq] at h) <;> (conv => whnf))
    | (refine .inl ⟨_, ac_sync_held s hs, ?_⟩; conv => whnf)
    | (refine .inl ⟨_, ac_sync_tick now, ?_⟩; conv => whnf)
    | (refine .inl ⟨_, ac_shadow_Pending s hs, ?_⟩; conv => whnf)
    | (refine .inr (.inr (.inr (.inr ⟨[], [(1, 700001)], _, _, _, cp, rfl, ?_⟩))); conv => whnf)
    | (refine .inl ⟨_, ac_sync_due s.sent (tickI now) (tick_range now), ?_⟩; conv => whnf)
    | (refine .inl ⟨_, (hb (by omega)), ?_⟩; conv => whnf)
    | (refine And.intro (by (try simp only [Int.toNat_natCast]); omega) ?_; conv => whnf)
    | (refine And.intro (show (_ : Bool) = true from by kernel_rfl) ?_; conv => whnf)
    | (refine .inl ⟨wrap64 (by omega), ?_⟩; conv => whnf)))
  · have e0 : penL s = [] := hN.2 (by omega)
    have hB : psB s now = false := by rw [hO, e0]; simp
    rw [(ps_no hB).1, (ps_no hB).2, hB]
    refine ⟨?_, ?_, ?_⟩ <;> (conv => whnf)
    · exact .rfl
    · exact noMsg_cells
    · exact PSub.lit_sb rfl
  · have hB : psB s now = false := by rw [hO, h, Bool.and_false]
    rw [(ps_no hB).1, (ps_no hB).2, hB]
    refine ⟨?_, ?_, ?_⟩ <;> (conv => whnf)
    · exact .rfl
    · exact noMsg_cells
    · exact PSub.lit_sb rfl
  · have hB : psB s now = true := by rw [hO, h, decide_eq_true (show penL s ≠ [] from fun e => by have := hN.1 e; omega)]; rfl
    rw [(ps_yes hB).1, (ps_yes hB).2, hB]
    refine ⟨?_, ?_, ?_⟩ <;> (conv => whnf)
    · exact .rfl
    · exact .rfl
    · exact PSub.lit_sb rfl
end Go.Abs
