/- Contracts: clusters. -/
import Derived.Test.YthelcfpfbnhcjaaX03

set_option linter.unusedVariables false
set_option linter.unusedSimpArgs false
set_option linter.unusedSectionVars false

namespace Go.Abs
open Go.Proofs
set_option maxRecDepth 10000

def noAttr : Attr := ⟨⟨#[]⟩, 0, 0, 0, [], false, false⟩
def smallL {α : Type} (l : List α) : Prop := l.length ≤ 1048576
def smallA (a : Attr) : Prop := smallL a.enum
def smallC (c : Cmd) : Prop := smallA c.param ∧ smallL c.effects
def smallK (c : Clu) : Prop := smallL c.attrs ∧ (∀ i, smallA (c.attrs.getD i default)) ∧ smallL c.commands ∧ (∀ i, smallC (c.commands.getD i default)) ∧ smallL c.events

/-- the first index whose element is as p says, or the length -/
def firstI (n : Nat) (p : Nat → Bool) : Nat := match (List.range n).find? p with | some i => i | none => n

theorem firstI_at {n k : Nat} {p : Nat → Bool} (hk : k < n) (h : p k = true) (hf : ∀ j, j < k → p j = false) : firstI n p = k := by
  have : (List.range n).find? p = some k := by
    rw [List.find?_range_eq_some]
    exact ⟨h, by simpa using hk, fun j hj => by simpa using hf j hj⟩
  simp only [firstI, this]

theorem firstI_none {n : Nat} {p : Nat → Bool} (hf : ∀ j, j < n → p j = false) : firstI n p = n := by
  have : (List.range n).find? p = none := by
    rw [List.find?_eq_none]
    intro x hx
    simpa using hf x (by simpa using hx)
  simp only [firstI, this]

def attrAt (l : List Attr) (s : ByteArray) : Nat := firstI l.length fun i => decide ((l.getD i default).name = s)

/-- cluster.Attr -/
def attrOf (l : List Attr) (s : ByteArray) : Attr := if attrAt l s < l.length then l.getD (attrAt l s) default else noAttr

theorem ac_cluster_Attr (c : Clu) (s : ByteArray) (hc : smallK c) : AC Try.prog 69 [.pv (.agg (cClu c)), .pv (vstr s)] [] (.pv (.tup [.agg (cAttr (attrOf c.attrs s)), vbool (decide (attrAt c.attrs s < c.attrs.length))])) [] := by
  have hl : c.attrs.length ≤ 1048576 := hc.1
  refine AC.of_awp (T := T) T_ok hm Try.call69 Try.func69 rfl rfl rfl ?_
  conv => whnf
  refine ⟨Nat, fun k => k ≤ c.attrs.length ∧ ∀ j, j < k → decide ((c.attrs.getD j default).name = s) = false, fun k => ⟨[(1, .pv (vstr s)), (4, .ptr 4 0), (9, .pv (roL 7 cAttr c.attrs)), (10, .pv (vint c.attrs.length)), (11, .pv (vint k))], [(4, .pbox (cAttr noAttr))]⟩, fun k => c.attrs.length - k, 0, [], ⟨Nat.zero_le _, fun j h => absurd h (by omega)⟩, ?_, fun k hk => ?_⟩
  · exact ⟨⟨⟨.rfl, .rfl, .rfl, .rfl, PSub.nil_ro _ _, PSub.lit_sb rfl, PSub.lit_sb rfl, trivial⟩, trivial⟩, .rfl, rfl, .rfl, .rfl, .rfl⟩
  conv => whnf
  refine ⟨fun h => ?_, fun h => ?_⟩
  · simp only [decide_eq_true_eq] at h
    conv => whnf
    refine ⟨by omega, ?_⟩
    conv => whnf
    refine ⟨fun h2 => ?_, fun h2 => ?_⟩
    · conv => whnf
      refine .inr (.inl ⟨_, _, _, ac_slices_Clone_string _ _ (hc.2.1 k), ?_⟩)
      conv => whnf
      have ea : attrAt c.attrs s = k := firstI_at (by omega) h2 hk.2
      have hlt : k < c.attrs.length := by omega
      refine ⟨?_, ?_⟩
      · conv => whnf
        exact PSub.of_eq (by rw [attrOf, ea, if_pos hlt]; rfl)
      · conv => whnf
        exact PSub.lit_sb (by rw [ea]; simp [hlt])
    · conv => whnf
      refine .inl ⟨wrap64 (by omega), ?_⟩
      conv => whnf
      refine ⟨k + 1, [], ⟨by omega, fun j hj => ?_⟩, by dsimp only; omega, ⟨PSubs.rfl, trivial⟩, .rfl, rfl, .rfl, .rfl, .rfl⟩
      by_cases e : j = k
      · subst e; exact h2
      · exact hk.2 j (by omega)
  · conv => whnf
    simp only [decide_eq_false_iff_not] at h
    have ea : attrAt c.attrs s = c.attrs.length := firstI_none fun j hj => hk.2 j (by omega)
    refine ⟨?_, ?_⟩
    · conv => whnf
      rw [attrOf, ea, if_neg (by omega)]
      exact PSub.agg ⟨.rfl, .rfl, .rfl, .rfl, PSub.nil_ro _ _, PSub.lit_sb rfl, PSub.lit_sb rfl, trivial⟩
    · conv => whnf
      exact PSub.lit_sb (by rw [ea]; simp)

/-- R21.Place -/
def placeI (l : List Attr) (s : ByteArray) : Int := if attrAt l s < l.length then (attrAt l s : Int) else -1

theorem ac_r21_Place (c : Clu) (s : ByteArray) (hc : smallK c) : AC Try.prog 98 [.pv (.agg (cClu c)), .pv (vstr s)] [] (.pv (vint (placeI c.attrs s))) [] := by
  have hl : c.attrs.length ≤ 1048576 := hc.1
  refine AC.of_awp (T := T) T_ok hm Try.call98 Try.func98 rfl rfl rfl ?_
  conv => whnf
  refine ⟨Nat, fun k => k ≤ c.attrs.length ∧ ∀ j, j < k → decide ((c.attrs.getD j default).name = s) = false, fun k => ⟨[(1, .pv (vstr s)), (2, .ptr 2 0), (8, .pv (vint c.attrs.length)), (9, .pv (vint k))], [(2, .pbox (cClu c))]⟩, fun k => c.attrs.length - k, 0, [], ⟨Nat.zero_le _, fun j h => absurd h (by omega)⟩, ⟨⟨PSubs.rfl, trivial⟩, .rfl, rfl, .rfl, .rfl⟩, fun k hk => ?_⟩
  conv => whnf
  refine ⟨fun h => ?_, fun h => ?_⟩
  · simp only [decide_eq_true_eq] at h
    conv => whnf
    refine ⟨by omega, ?_⟩
    conv => whnf
    refine ⟨fun h2 => ?_, fun h2 => ?_⟩
    · conv => whnf
      have ea : attrAt c.attrs s = k := firstI_at (by omega) h2 hk.2
      exact PSub.int (by rw [placeI, ea, if_pos (by omega)])
    · conv => whnf
      refine .inl ⟨wrap64 (by omega), ?_⟩
      conv => whnf
      refine ⟨k + 1, [], ⟨by omega, fun j hj => ?_⟩, by dsimp only; omega, ⟨PSubs.rfl, trivial⟩, .rfl, rfl, .rfl, .rfl⟩
      by_cases e : j = k
      · subst e; exact h2
      · exact hk.2 j (by omega)
  · conv => whnf
    simp only [decide_eq_false_iff_not] at h
    have ea : attrAt c.attrs s = c.attrs.length := firstI_none fun j hj => hk.2 j (by omega)
    exact PSub.int (by rw [placeI, ea, if_neg (by omega)])

theorem ac_r21_Attr (c : Clu) (s : ByteArray) (hc : smallK c) : AC Try.prog 75 [.pv (.agg (cClu c)), .pv (vstr s)] [] (.pv (.tup [.agg (cAttr (attrOf c.attrs s)), vbool (decide (attrAt c.attrs s < c.attrs.length))])) [] := by
  refine AC.of_awp (T := T) T_ok hm Try.call75 Try.func75 rfl rfl rfl ?_
  conv => whnf
  refine .inl ⟨_, ac_r21_Place c s hc, ?_⟩
  conv => whnf
  have hp : placeI c.attrs s < 0 ↔ ¬ attrAt c.attrs s < c.attrs.length := by unfold placeI; split <;> omega
  refine ⟨fun h => ?_, fun h => ?_⟩
  · conv => whnf
    simp only [decide_eq_true_eq] at h
    have h := hp.1 h
    refine ⟨?_, ?_⟩
    · conv => whnf
      rw [attrOf, if_neg h]
      exact PSub.agg ⟨.rfl, .rfl, .rfl, .rfl, PSub.nil_ro _ _, PSub.lit_sb rfl, PSub.lit_sb rfl, trivial⟩
    · conv => whnf
      exact PSub.lit_sb (by simp [h])
  · simp only [decide_eq_false_iff_not] at h
    have h : attrAt c.attrs s < c.attrs.length := Classical.not_not.1 fun x => h (hp.2 x)
    have e : placeI c.attrs s = (attrAt c.attrs s : Int) := by rw [placeI, if_pos h]
    rw [e]
    conv => whnf
    refine ⟨by omega, ?_⟩
    conv => whnf
    refine ⟨?_, ?_⟩
    · conv => whnf
      exact PSub.of_eq (by rw [attrOf, if_pos h]; rfl)
    · conv => whnf
      exact PSub.lit_sb (by simp [h])

def manyE (l : List Cmd) : Bool := (List.range l.length).any fun i => decide (12 < (l.getD i default).effects.length)

theorem manyE_true {l : List Cmd} {k : Nat} (hk : k < l.length) (h : 12 < (l.getD k default).effects.length) : manyE l = true := by
  simp only [manyE, List.any_eq_true, List.mem_range, decide_eq_true_eq]
  exact ⟨k, hk, h⟩

theorem manyE_false {l : List Cmd} (h : ∀ j, j < l.length → ¬ 12 < (l.getD j default).effects.length) : manyE l = false := by
  rw [← Bool.not_eq_true]
  simp only [manyE, List.any_eq_true, List.mem_range, decide_eq_true_eq]
  rintro ⟨j, hj, e⟩
  exact h j hj e

/-- cluster.wide -/
def wideB (c : Clu) : Bool := decide (12 < c.attrs.length) || decide (12 < c.commands.length) || decide (12 < c.events.length) || manyE c.commands

theorem ac_r21_TooMany (c : Clu) (hc : smallK c) : AC Try.prog 106 [.pv (.agg (cClu c))] [] (.pv (vbool (wideB c))) [] := by
  have hl : c.commands.length ≤ 1048576 := hc.2.2.1
  refine AC.of_awp (T := T) T_ok hm Try.call106 Try.func106 rfl rfl rfl ?_
  conv => whnf
  refine ⟨fun h => ?_, fun h => ?_⟩
  · conv => whnf
    simp only [decide_eq_true_eq] at h
    exact PSub.lit_sb (by simp [wideB, show 12 < c.attrs.length from by omega])
  conv => whnf
  refine ⟨fun h1 => ?_, fun h1 => ?_⟩
  · conv => whnf
    simp only [decide_eq_true_eq] at h1
    exact PSub.lit_sb (by simp [wideB, show 12 < c.commands.length from by omega])
  conv => whnf
  refine ⟨fun h2 => ?_, fun h2 => ?_⟩
  · conv => whnf
    simp only [decide_eq_true_eq] at h2
    exact PSub.lit_sb (by simp [wideB, show 12 < c.events.length from by omega])
  conv => whnf
  simp only [decide_eq_false_iff_not] at h h1 h2
  have e0 : wideB c = manyE c.commands := by simp [wideB, show ¬ 12 < c.attrs.length from by omega, show ¬ 12 < c.commands.length from by omega, show ¬ 12 < c.events.length from by omega]
  rw [e0]
  refine ⟨Nat, fun k => k ≤ c.commands.length ∧ ∀ j, j < k → ¬ 12 < (c.commands.getD j default).effects.length, fun k => ⟨[(1, .ptr 1 0), (22, .pv (vint c.commands.length)), (23, .pv (vint k))], [(1, .pbox (cClu c))]⟩, fun k => c.commands.length - k, 0, [], ⟨Nat.zero_le _, fun j h => absurd h (by omega)⟩, ⟨⟨PSubs.rfl, trivial⟩, rfl, .rfl, .rfl⟩, fun k hk => ?_⟩
  conv => whnf
  refine ⟨fun h => ?_, fun h => ?_⟩
  · simp only [decide_eq_true_eq] at h
    conv => whnf
    refine ⟨by omega, ?_⟩
    conv => whnf
    refine ⟨fun h2 => ?_, fun h2 => ?_⟩
    · conv => whnf
      simp only [decide_eq_true_eq, Int.toNat_natCast] at h2
      exact PSub.lit_sb (manyE_true (k := k) (by omega) (by omega)).symm
    · conv => whnf
      simp only [decide_eq_false_iff_not, Int.toNat_natCast] at h2
      refine .inl ⟨wrap64 (by omega), ?_⟩
      conv => whnf
      refine ⟨k + 1, [], ⟨by omega, fun j hj => ?_⟩, by dsimp only; omega, ⟨PSubs.rfl, trivial⟩, rfl, .rfl, .rfl⟩
      by_cases e : j = k
      · subst e; omega
      · exact hk.2 j (by omega)
  · conv => whnf
    simp only [decide_eq_false_iff_not] at h
    exact PSub.lit_sb (manyE_false fun j hj => hk.2 j (by omega)).symm

theorem ac_cluster_wide (c : Clu) (hc : smallK c) : AC Try.prog 103 [.pv (.agg (cClu c))] [] (.pv (vbool (wideB c))) [] := by
  have hl : c.commands.length ≤ 1048576 := hc.2.2.1
  refine AC.of_awp (T := T) T_ok hm Try.call103 Try.func103 rfl rfl rfl ?_
  conv => whnf
  refine ⟨Nat, fun k => k ≤ c.commands.length ∧ ∀ j, j < k → ¬ 12 < (c.commands.getD j default).effects.length, fun k => ⟨[(1, .ptr 1 0), (6, .pv (roL 9 cCmd c.commands)), (7, .pv (vint c.commands.length)), (8, .pv (vint k))], [(1, .pbox (cClu c))]⟩, fun k => c.commands.length - k, 0, [], ⟨Nat.zero_le _, fun j h => absurd h (by omega)⟩, ⟨⟨PSubs.rfl, trivial⟩, rfl, .rfl, .rfl, .rfl⟩, fun k hk => ?_⟩
  conv => whnf
  refine ⟨fun h => ?_, fun h => ?_⟩
  · simp only [decide_eq_true_eq] at h
    conv => whnf
    refine ⟨by omega, ?_⟩
    conv => whnf
    refine ⟨fun h2 => ?_, fun h2 => ?_⟩
    · conv => whnf
      simp only [decide_eq_true_eq, Int.toNat_natCast] at h2
      exact PSub.lit_sb (by rw [wideB, manyE_true (k := k) (by omega) (by omega)]; simp)
    · conv => whnf
      simp only [decide_eq_false_iff_not, Int.toNat_natCast] at h2
      refine .inl ⟨wrap64 (by omega), ?_⟩
      conv => whnf
      refine ⟨k + 1, [], ⟨by omega, fun j hj => ?_⟩, by dsimp only; omega, ⟨PSubs.rfl, trivial⟩, rfl, .rfl, .rfl, .rfl⟩
      by_cases e : j = k
      · subst e; omega
      · exact hk.2 j (by omega)
  · simp only [decide_eq_false_iff_not] at h
    have em : manyE c.commands = false := manyE_false fun j hj => hk.2 j (by omega)
    have e0 : wideB c = (decide (12 < c.attrs.length) || decide (12 < c.commands.length) || decide (12 < c.events.length)) := by rw [wideB, em]; simp
    rw [e0]
    conv => whnf
    iterate 3 (all_goals first | (refine ⟨fun h => ?_, fun h => ?_⟩ <;> (conv => whnf)) | skip)
    all_goals simp only [decide_eq_true_eq, decide_eq_false_iff_not] at *
    all_goals first
      | exact PSub.lit_sb (by symm; simp; omega)
      | exact PSub.sb (by rw [Bool.eq_iff_iff]; simp; omega)
      | trace_state

end Go.Abs

namespace Go.Abs
open Go.Proofs
set_option maxRecDepth 10000

theorem list_eq {α : Type} [Inhabited α] {a b : List α} (hl : a.length = b.length) (h : ∀ i, i < a.length → a.getD i default = b.getD i default) : a = b := by
  apply List.ext_getElem hl
  intro i h1 h2
  have := h i h1
  simpa [List.getD, h1, h2] using this

theorem ac_slices_Equal_string (a b : List ByteArray) (ha : a.length ≤ 1048576) : AC Try.prog 134 [.pv (roL 1 cstr a), .pv (roL 1 cstr b)] [] (.pv (vbool (decide (a = b)))) [] := by
  refine AC.of_awp (T := T) T_ok hm Try.call134 Try.func134 rfl rfl rfl ?_
  conv => whnf
  refine ⟨fun h => ?_, fun h => ?_⟩
  · conv => whnf
    simp only [Bool.not_eq_true', decide_eq_false_iff_not] at h
    exact PSub.lit_sb (by symm; simp only [decide_eq_false_iff_not]; intro e; exact h (by rw [e]))
  conv => whnf
  simp only [Bool.not_eq_false', decide_eq_true_eq] at h
  refine ⟨Nat, fun k => k ≤ a.length ∧ ∀ j, j < k → a.getD j default = b.getD j default, fun k => ⟨[(0, .pv (roL 1 cstr a)), (1, .pv (roL 1 cstr b)), (12, .pv (vint a.length)), (13, .pv (vint k))], []⟩, fun k => a.length - k, 0, [], ⟨Nat.zero_le _, fun j h => absurd h (by omega)⟩, ⟨.rfl, .rfl, .rfl, .rfl⟩, fun k hk => ?_⟩
  conv => whnf
  refine ⟨fun h2 => ?_, fun h2 => ?_⟩
  · simp only [decide_eq_true_eq] at h2
    conv => whnf
    refine ⟨by kernel_rfl, ?_⟩
    conv => whnf
    refine ⟨by omega, ?_⟩
    conv => whnf
    refine ⟨by omega, ?_⟩
    conv => whnf
    refine ⟨by kernel_rfl, ?_⟩
    conv => whnf
    refine ⟨fun h3 => ?_, fun h3 => ?_⟩
    · conv => whnf
      simp only [Bool.not_eq_true', decide_eq_false_iff_not] at h3
      exact PSub.lit_sb (by symm; simp only [decide_eq_false_iff_not]; intro e; exact h3 (by rw [e]))
    · conv => whnf
      simp only [Bool.not_eq_false', decide_eq_true_eq, Int.toNat_natCast] at h3
      refine .inl ⟨wrap64 (by omega), ?_⟩
      conv => whnf
      refine ⟨k + 1, [], ⟨by omega, fun j hj => ?_⟩, by dsimp only; omega, .rfl, .rfl, .rfl, .rfl⟩
      by_cases e : j = k
      · subst e; exact h3
      · exact hk.2 j (by omega)
  · conv => whnf
    simp only [decide_eq_false_iff_not] at h2
    exact PSub.lit_sb (by symm; simp only [decide_eq_true_eq]; exact list_eq (by omega) fun i hi => hk.2 i (by omega))

theorem ac_r21_SameNames (a b : List ByteArray) (ha : a.length ≤ 1048576) : AC Try.prog 130 [.pv (roL 1 cstr a), .pv (roL 1 cstr b)] [] (.pv (vbool (decide (a = b)))) [] := by
  refine AC.of_awp (T := T) T_ok hm Try.call130 Try.func130 rfl rfl rfl ?_
  conv => whnf
  refine ⟨fun h => ?_, fun h => ?_⟩
  · conv => whnf
    simp only [Bool.not_eq_true', decide_eq_false_iff_not] at h
    exact PSub.lit_sb (by symm; simp only [decide_eq_false_iff_not]; intro e; exact h (by rw [e]))
  conv => whnf
  simp only [Bool.not_eq_false', decide_eq_true_eq] at h
  refine ⟨Nat, fun k => k ≤ a.length ∧ ∀ j, j < k → a.getD j default = b.getD j default, fun k => ⟨[(0, .pv (roL 1 cstr a)), (1, .pv (roL 1 cstr b)), (12, .pv (vint a.length)), (13, .pv (vint k))], []⟩, fun k => a.length - k, 0, [], ⟨Nat.zero_le _, fun j h => absurd h (by omega)⟩, ⟨.rfl, .rfl, .rfl, .rfl⟩, fun k hk => ?_⟩
  conv => whnf
  refine ⟨fun h2 => ?_, fun h2 => ?_⟩
  · simp only [decide_eq_true_eq] at h2
    conv => whnf
    refine ⟨by kernel_rfl, ?_⟩
    conv => whnf
    refine ⟨by omega, ?_⟩
    conv => whnf
    refine ⟨by omega, ?_⟩
    conv => whnf
    refine ⟨by kernel_rfl, ?_⟩
    conv => whnf
    refine ⟨fun h3 => ?_, fun h3 => ?_⟩
    · conv => whnf
      simp only [Bool.not_eq_true', decide_eq_false_iff_not] at h3
      exact PSub.lit_sb (by symm; simp only [decide_eq_false_iff_not]; intro e; exact h3 (by rw [e]))
    · conv => whnf
      simp only [Bool.not_eq_false', decide_eq_true_eq, Int.toNat_natCast] at h3
      refine .inl ⟨wrap64 (by omega), ?_⟩
      conv => whnf
      refine ⟨k + 1, [], ⟨by omega, fun j hj => ?_⟩, by dsimp only; omega, .rfl, .rfl, .rfl, .rfl⟩
      by_cases e : j = k
      · subst e; exact h3
      · exact hk.2 j (by omega)
  · conv => whnf
    simp only [decide_eq_false_iff_not] at h2
    exact PSub.lit_sb (by symm; simp only [decide_eq_true_eq]; exact list_eq (by omega) fun i hi => hk.2 i (by omega))

theorem ac_slices_Contains_string (l : List ByteArray) (n : Nat) (x : ByteArray) (hl : l.length ≤ 1048576) : AC Try.prog 105 [.pv (roL 1 cstr l), .pv (vstr x)] [] (.pv (vbool (decide (0 ≤ idxOf l x)))) [] := by
  refine AC.of_awp (T := T) T_ok hm Try.call105 Try.func105 rfl rfl rfl ?_
  conv => whnf
  refine .inl ⟨_, ac_slices_Index_string l x hl, ?_⟩
  conv => whnf
  exact PSub.rfl

end Go.Abs

namespace Go.Abs
open Go.Proofs
set_option maxRecDepth 10000

def idxN (l : List ByteArray) (n : Nat) (x : ByteArray) : Int := if firstI n (fun i => decide (l.getD i default = x)) < n then (firstI n (fun i => decide (l.getD i default = x)) : Int) else -1

theorem ac_slices_Index_string_n (l : List ByteArray) (n : Nat) (x : ByteArray) (hl : n ≤ 1048576) : AC Try.prog 89 [.pv (.ro 1 n fun i => cstr (l.getD i default)), .pv (vstr x)] [] (.pv (vint (idxN l n x))) [] := by
  refine AC.of_awp (T := T) T_ok hm Try.call89 Try.func89 rfl rfl rfl ?_
  conv => whnf
  refine ⟨Nat, fun k => k ≤ n ∧ ∀ j, j < k → decide (l.getD j default = x) = false, fun k => ⟨[(0, .pv (.ro 1 n fun i => cstr (l.getD i default))), (1, .pv (vstr x)), (7, .pv (vint n)), (8, .pv (vint k))], []⟩, fun k => n - k, 0, [], ⟨Nat.zero_le _, fun j h => absurd h (by omega)⟩, ⟨.rfl, .rfl, .rfl, .rfl⟩, fun k hk => ?_⟩
  conv => whnf
  refine ⟨fun h => ?_, fun h => ?_⟩
  · simp only [decide_eq_true_eq] at h
    refine ⟨by omega, ?_⟩
    conv => whnf
    refine ⟨fun h2 => ?_, fun h2 => ?_⟩
    · conv => whnf
      simp only [decide_eq_true_eq, Int.toNat_natCast] at h2
      have e : firstI n (fun i => decide (l.getD i default = x)) = k := firstI_at (by omega) (by simpa using h2.symm) hk.2
      exact PSub.int (by rw [idxN, e, if_pos (by omega)])
    · conv => whnf
      refine .inl ⟨wrap64 (by omega), ?_⟩
      conv => whnf
      simp only [decide_eq_false_iff_not, Int.toNat_natCast] at h2
      refine ⟨k + 1, [], ⟨by omega, fun j hj => ?_⟩, by dsimp only; omega, .rfl, .rfl, .rfl, .rfl⟩
      by_cases e : j = k
      · subst e; simpa using fun e => h2 e.symm
      · exact hk.2 j (by omega)
  · conv => whnf
    simp only [decide_eq_false_iff_not] at h
    have e : firstI n (fun i => decide (l.getD i default = x)) = n := firstI_none fun j hj => hk.2 j (by omega)
    exact PSub.int (by rw [idxN, e, if_neg (by omega)])

theorem idxN_mem {l : List ByteArray} {n : Nat} {x : ByteArray} : decide (0 ≤ idxN l n x) = memN l n x := by
  by_cases h : ∃ j, j < n ∧ l.getD j default = x
  · obtain ⟨j, hj, e⟩ := h
    rw [memN_true hj e]
    unfold idxN
    split
    · simp
    · rename_i hn
      exfalso
      have hnone : (List.range n).find? (fun i => decide (l.getD i default = x)) = none := by
        cases hf : (List.range n).find? (fun i => decide (l.getD i default = x)) with
        | none => rfl
        | some i =>
          exfalso
          apply hn
          simp only [firstI, hf]
          have := List.mem_of_find?_eq_some hf
          simpa using this
      rw [List.find?_eq_none] at hnone
      exact hnone j (by simpa using hj) (by simpa using e)
  · rw [memN_false fun j hj e => h ⟨j, hj, e⟩]
    have e : firstI n (fun i => decide (l.getD i default = x)) = n := firstI_none fun j hj => by simpa using fun e => h ⟨j, hj, e⟩
    unfold idxN
    rw [e, if_neg (by omega)]
    simp

theorem ac_slices_Contains_string_n (l : List ByteArray) (n : Nat) (x : ByteArray) (hl : n ≤ 1048576) : AC Try.prog 105 [.pv (.ro 1 n fun i => cstr (l.getD i default)), .pv (vstr x)] [] (.pv (vbool (memN l n x))) [] := by
  refine AC.of_awp (T := T) T_ok hm Try.call105 Try.func105 rfl rfl rfl ?_
  conv => whnf
  refine .inl ⟨_, ac_slices_Index_string_n l n x hl, ?_⟩
  conv => whnf
  exact PSub.sb idxN_mem

end Go.Abs

namespace Go.Abs
open Go.Proofs
set_option maxRecDepth 10000

def alikeB (a b : Attr) : Bool := decide (a.kind = b.kind) && decide (a.enum = b.enum)

theorem ac_cluster_alike (a b : Attr) (ha : smallA a) : AC Try.prog 133 [.pv (.agg (cAttr a)), .pv (.agg (cAttr b))] [] (.pv (vbool (alikeB a b))) [] := by
  refine AC.of_awp (T := T) T_ok hm Try.call133 Try.func133 rfl rfl rfl ?_
  conv => whnf
  refine ⟨fun h => ?_, fun h => ?_⟩
  · conv => whnf
    refine .inl ⟨_, ac_slices_Equal_string a.enum b.enum ha, ?_⟩
    conv => whnf
    exact PSub.sb (by simp [alikeB, h])
  · conv => whnf
    exact PSub.lit_sb (by simp [alikeB, h])

end Go.Abs

namespace Go.Abs
open Go.Proofs
set_option maxRecDepth 10000

def cmdAt (l : List Cmd) (s : ByteArray) : Nat := firstI l.length fun i => decide ((l.getD i default).name = s)
def noCmd : Cmd := ⟨⟨#[]⟩, noAttr, []⟩
/-- cluster.Command -/
def cmdOf (l : List Cmd) (s : ByteArray) : Cmd := if cmdAt l s < l.length then l.getD (cmdAt l s) default else noCmd

end Go.Abs

namespace Go.Abs
open Go.Proofs
set_option maxRecDepth 10000

/-- num.Sat -/
def satI (n : Int) : Int := min (max n (-1099511627776)) 1099511627776

theorem ac_num_Sat (n : Int) : AC Try.prog 129 [.pv (vint n)] [] (.pv (vint (satI n))) [] := by
  refine AC.of_awp (T := T) T_ok hm Try.call129 Try.func129 rfl rfl rfl ?_
  conv => whnf
  exact PSub.int (by simp only [satI]; (repeat' split) <;> omega)

/-- num.Add of bounded numbers -/
def smallN (n : Int) : Prop := -4611686018427387904 ≤ n ∧ n ≤ 4611686018427387903

/-- cluster.suits -/
def suitsB (x : Eff) (a p : Attr) : Bool := if x.kind = 1 then decide (a.kind ≠ 4) && decide (fitsE a ⟨a.kind, x.n, ⟨#[]⟩⟩ = 0) else if x.kind = 2 then alikeB a p else if x.kind = 3 then decide (a.kind = 2) else decide (a.kind = 1)

theorem ac_cluster_suits (x : Eff) (a p : Attr) (ha : smallA a) : AC Try.prog 128 [.pv (.agg (cEff x)), .pv (.agg (cAttr a)), .pv (.agg (cAttr p))] [] (.pv (vbool (suitsB x a p))) [] := by
  refine AC.of_awp (T := T) T_ok hm Try.call128 Try.func128 rfl rfl rfl ?_
  conv => whnf
  repeat (any_goals (first
    | (refine ⟨fun (h : (_ : Bool) = true) => ?_, fun (h : (_ : Bool) = false) => ?_⟩ <;> (try simp only [decide_eq_true_eq, decide_eq_false_iff_not, Bool.not_eq_true', Bool.not_eq_false', Int.toNat_natCast, beq_iff_eq, decide_eq_decide, beq_eq_false_iff_ne, ne_eq, reduceCtorEq] at h) <;> (conv => whnf))
    | (refine .inl ⟨_, ac_value_Fits a ⟨a.kind, x.n, ⟨#[]⟩⟩ ha, ?_⟩; conv => whnf)
    | (refine .inl ⟨_, ac_cluster_alike a p ha, ?_⟩; conv => whnf)
    | (refine And.intro (by (try simp only [Int.toNat_natCast]); omega) ?_; conv => whnf)
    | (refine And.intro (show (_ : Bool) = true from by kernel_rfl) ?_; conv => whnf)
    | (refine .inl ⟨wrap64 (by omega), ?_⟩; conv => whnf)))
  all_goals (try simp only [decide_eq_true_eq, decide_eq_false_iff_not, Bool.not_eq_true', Bool.not_eq_false', Int.toNat_natCast, beq_iff_eq, decide_eq_decide, beq_eq_false_iff_ne, ne_eq, reduceCtorEq] at *)
  all_goals first
    | contradiction
    | (exfalso; omega)
    | exact PSub.rfl
    | (refine PSub.int ?_; simp only [suitsB]; (repeat' split) <;> first | rfl | omega | (simp_all [-List.getD_eq_getElem?_getD]; done) | (simp_all [-List.getD_eq_getElem?_getD]; omega))
    | (refine PSub.sb ?_; simp_all [suitsB, -List.getD_eq_getElem?_getD]; done)
    | (refine PSub.lit_sb ?_; simp_all [suitsB, -List.getD_eq_getElem?_getD]; done)
    | (refine PSub.sb_lit ?_; simp_all [suitsB, -List.getD_eq_getElem?_getD]; done)
    | (refine PSub.sb ?_; rw [Bool.eq_iff_iff]; simp_all [suitsB, -List.getD_eq_getElem?_getD]; done)
    | (refine PSub.lit_sb ?_; rw [Bool.eq_iff_iff]; simp_all [suitsB, -List.getD_eq_getElem?_getD]; done)
    | (refine PSub.sb_lit ?_; rw [Bool.eq_iff_iff]; simp_all [suitsB, -List.getD_eq_getElem?_getD]; done)
    | skip

theorem ac_r21_Suits (x : Eff) (a p : Attr) (ha : smallA a) (hp : smallA p) : AC Try.prog 131 [.pv (.agg (cEff x)), .pv (.agg (cAttr a)), .pv (.agg (cAttr p))] [] (.pv (vbool (suitsB x a p))) [] := by
  have e0 : alikeB a p = (decide (p.kind = a.kind) && decide (p.enum = a.enum)) := by simp only [alikeB]; congr 1 <;> (rw [Bool.eq_iff_iff]; simp only [decide_eq_true_eq]; exact ⟨fun h => h.symm, fun h => h.symm⟩)
  refine AC.of_awp (T := T) T_ok hm Try.call131 Try.func131 rfl rfl rfl ?_
  conv => whnf
  repeat (any_goals (first
    | (refine ⟨fun (h : (_ : Bool) = true) => ?_, fun (h : (_ : Bool) = false) => ?_⟩ <;> (try simp only [decide_eq_true_eq, decide_eq_false_iff_not, Bool.not_eq_true', Bool.not_eq_false', Int.toNat_natCast, beq_iff_eq, decide_eq_decide, beq_eq_false_iff_ne, ne_eq, reduceCtorEq] at h) <;> (conv => whnf))
    | (refine .inl ⟨_, ac_r20_Fits a ⟨a.kind, x.n, ⟨#[]⟩⟩ ha, ?_⟩; conv => whnf)
    | (refine .inl ⟨_, ac_r21_SameNames p.enum a.enum hp, ?_⟩; conv => whnf)
    | (refine And.intro (by (try simp only [Int.toNat_natCast]); omega) ?_; conv => whnf)
    | (refine And.intro (show (_ : Bool) = true from by kernel_rfl) ?_; conv => whnf)
    | (refine .inl ⟨wrap64 (by omega), ?_⟩; conv => whnf)))
  all_goals (try simp only [decide_eq_true_eq, decide_eq_false_iff_not, Bool.not_eq_true', Bool.not_eq_false', Int.toNat_natCast, beq_iff_eq, decide_eq_decide, beq_eq_false_iff_ne, ne_eq, reduceCtorEq] at *)
  all_goals first
    | contradiction
    | (exfalso; omega)
    | exact PSub.rfl
    | (refine PSub.int ?_; simp only [suitsB, e0]; (repeat' split) <;> first | rfl | omega | (simp_all [-List.getD_eq_getElem?_getD]; done) | (simp_all [-List.getD_eq_getElem?_getD]; omega))
    | (refine PSub.sb ?_; simp_all [suitsB, e0, -List.getD_eq_getElem?_getD]; done)
    | (refine PSub.lit_sb ?_; simp_all [suitsB, e0, -List.getD_eq_getElem?_getD]; done)
    | (refine PSub.sb_lit ?_; simp_all [suitsB, e0, -List.getD_eq_getElem?_getD]; done)
    | (refine PSub.sb ?_; rw [Bool.eq_iff_iff]; simp_all [suitsB, e0, -List.getD_eq_getElem?_getD]; done)
    | (refine PSub.lit_sb ?_; rw [Bool.eq_iff_iff]; simp_all [suitsB, e0, -List.getD_eq_getElem?_getD]; done)
    | (refine PSub.sb_lit ?_; rw [Bool.eq_iff_iff]; simp_all [suitsB, e0, -List.getD_eq_getElem?_getD]; done)
    | skip

/-- cluster.effect -/
def effE (c : Clu) (p : Attr) (x : Eff) : Int :=
  if x.kind < 1 ∨ 4 < x.kind then 7 else if ¬ attrAt c.attrs x.attr < c.attrs.length then 8 else if (attrOf c.attrs x.attr).writable = false then 24
  else if suitsB x (attrOf c.attrs x.attr) p = false then 11 else if x.kind = 3 ∧ satI x.n ≠ x.n then 2 else if (x.kind = 2 ∨ x.kind = 4) ∧ x.n ≠ 0 then 4 else 0

theorem small_attrOf {c : Clu} {s : ByteArray} (hc : smallK c) : smallA (attrOf c.attrs s) := by
  unfold attrOf
  split
  · exact hc.2.1 _
  · exact Nat.zero_le _

theorem ac_cluster_effect (c : Clu) (p : Attr) (x : Eff) (hc : smallK c) : AC Try.prog 120 [.pv (.agg (cClu c)), .pv (.agg (cAttr p)), .pv (.agg (cEff x))] [] (.pv (vint (effE c p x))) [] := by
  refine AC.of_awp (T := T) T_ok hm Try.call120 Try.func120 rfl rfl rfl ?_
  conv => whnf
  repeat (any_goals (first
    | (refine ⟨fun (h : (_ : Bool) = true) => ?_, fun (h : (_ : Bool) = false) => ?_⟩ <;> (try simp only [decide_eq_true_eq, decide_eq_false_iff_not, Bool.not_eq_true', Bool.not_eq_false', Int.toNat_natCast, beq_iff_eq, decide_eq_decide, beq_eq_false_iff_ne, ne_eq, reduceCtorEq] at h) <;> (conv => whnf))
    | (refine .inl ⟨_, ac_cluster_Attr c x.attr hc, ?_⟩; conv => whnf)
    | (refine .inl ⟨_, ac_cluster_suits x (attrOf c.attrs x.attr) p (small_attrOf hc), ?_⟩; conv => whnf)
    | (refine .inl ⟨_, ac_num_Sat x.n, ?_⟩; conv => whnf)
    | (refine And.intro (by (try simp only [Int.toNat_natCast]); omega) ?_; conv => whnf)
    | (refine And.intro (show (_ : Bool) = true from by kernel_rfl) ?_; conv => whnf)
    | (refine .inl ⟨wrap64 (by omega), ?_⟩; conv => whnf)))
  all_goals (try simp only [decide_eq_true_eq, decide_eq_false_iff_not, Bool.not_eq_true', Bool.not_eq_false', Int.toNat_natCast, beq_iff_eq, decide_eq_decide, beq_eq_false_iff_ne, ne_eq, reduceCtorEq] at *)
  all_goals first
    | contradiction
    | (exfalso; omega)
    | exact PSub.rfl
    | (refine PSub.int ?_; simp only [effE]; (repeat' split) <;> first | rfl | omega | (simp_all [-List.getD_eq_getElem?_getD]; done) | (simp_all [-List.getD_eq_getElem?_getD]; omega))
    | (refine PSub.sb ?_; simp_all [effE, -List.getD_eq_getElem?_getD]; done)
    | (refine PSub.lit_sb ?_; simp_all [effE, -List.getD_eq_getElem?_getD]; done)
    | (refine PSub.sb_lit ?_; simp_all [effE, -List.getD_eq_getElem?_getD]; done)
    | (refine PSub.sb ?_; rw [Bool.eq_iff_iff]; simp_all [effE, -List.getD_eq_getElem?_getD]; done)
    | (refine PSub.lit_sb ?_; rw [Bool.eq_iff_iff]; simp_all [effE, -List.getD_eq_getElem?_getD]; done)
    | (refine PSub.sb_lit ?_; rw [Bool.eq_iff_iff]; simp_all [effE, -List.getD_eq_getElem?_getD]; done)
    | skip

theorem satI_ne {n : Int} : satI n ≠ n ↔ (n < -1099511627776 ∨ 1099511627776 < n) := by unfold satI; omega

theorem ac_r21_Effect (c : Clu) (p : Attr) (x : Eff) (hc : smallK c) (hp : smallA p) : AC Try.prog 122 [.pv (.agg (cClu c)), .pv (.agg (cAttr p)), .pv (.agg (cEff x))] [] (.pv (vint (effE c p x))) [] := by
  have e := @satI_ne x.n
  refine AC.of_awp (T := T) T_ok hm Try.call122 Try.func122 rfl rfl rfl ?_
  conv => whnf
  repeat (any_goals (first
    | (refine ⟨fun (h : (_ : Bool) = true) => ?_, fun (h : (_ : Bool) = false) => ?_⟩ <;> (try simp only [decide_eq_true_eq, decide_eq_false_iff_not, Bool.not_eq_true', Bool.not_eq_false', Int.toNat_natCast, beq_iff_eq, decide_eq_decide, beq_eq_false_iff_ne, ne_eq, reduceCtorEq] at h) <;> (conv => whnf))
    | (refine .inl ⟨_, ac_r21_Attr c x.attr hc, ?_⟩; conv => whnf)
    | (refine .inl ⟨_, ac_r21_Suits x (attrOf c.attrs x.attr) p (small_attrOf hc) hp, ?_⟩; conv => whnf)
    | (refine And.intro (by (try simp only [Int.toNat_natCast]); omega) ?_; conv => whnf)
    | (refine And.intro (show (_ : Bool) = true from by kernel_rfl) ?_; conv => whnf)
    | (refine .inl ⟨wrap64 (by omega), ?_⟩; conv => whnf)))
  all_goals rw [effE]
  all_goals (try simp only [decide_eq_true_eq, decide_eq_false_iff_not, Bool.not_eq_true', Bool.not_eq_false', Int.toNat_natCast, beq_iff_eq, decide_eq_decide, beq_eq_false_iff_ne, ne_eq, reduceCtorEq] at *)
  all_goals first
    | contradiction
    | (exfalso; omega)
    | exact PSub.rfl
    | (refine PSub.int ?_; simp only [e]; (repeat' split) <;> first | rfl | omega | (simp_all [-List.getD_eq_getElem?_getD]; done) | (simp_all [-List.getD_eq_getElem?_getD]; omega))
    | (refine PSub.sb ?_; simp_all [e, -List.getD_eq_getElem?_getD]; done)
    | (refine PSub.lit_sb ?_; simp_all [e, -List.getD_eq_getElem?_getD]; done)
    | (refine PSub.sb_lit ?_; simp_all [e, -List.getD_eq_getElem?_getD]; done)
    | (refine PSub.sb ?_; rw [Bool.eq_iff_iff]; simp_all [e, -List.getD_eq_getElem?_getD]; done)
    | (refine PSub.lit_sb ?_; rw [Bool.eq_iff_iff]; simp_all [e, -List.getD_eq_getElem?_getD]; done)
    | (refine PSub.sb_lit ?_; rw [Bool.eq_iff_iff]; simp_all [e, -List.getD_eq_getElem?_getD]; done)
    | skip

/-- cluster.zero -/
def zeroA (a : Attr) : Bool := decide (a = noAttr)
theorem zeroA_iff {a : Attr} : zeroA a = true ↔ (a.name = ⟨#[]⟩ ∧ a.kind = 0 ∧ a.min = 0 ∧ a.max = 0 ∧ a.enum.length = 0 ∧ a.writable = false ∧ a.safety = false) := by
  obtain ⟨a1, a2, a3, a4, a5, a6, a7⟩ := a
  simp [zeroA, noAttr]

theorem ac_cluster_zero (a : Attr) : AC Try.prog 119 [.pv (.agg (cAttr a))] [] (.pv (vbool (zeroA a))) [] := by
  refine AC.of_awp (T := T) T_ok hm Try.call119 Try.func119 rfl rfl rfl ?_
  conv => whnf
  repeat (any_goals (first
    | (refine ⟨fun (h : (_ : Bool) = true) => ?_, fun (h : (_ : Bool) = false) => ?_⟩ <;> (try simp only [decide_eq_true_eq, decide_eq_false_iff_not, Bool.not_eq_true', Bool.not_eq_false', Int.toNat_natCast, beq_iff_eq, decide_eq_decide, beq_eq_false_iff_ne, ne_eq, reduceCtorEq] at h) <;> (conv => whnf))
    | (refine And.intro (by (try simp only [Int.toNat_natCast]); omega) ?_; conv => whnf)
    | (refine And.intro (show (_ : Bool) = true from by kernel_rfl) ?_; conv => whnf)
    | (refine .inl ⟨wrap64 (by omega), ?_⟩; conv => whnf)))
  all_goals first | (refine PSub.sb ?_ ; rw [Bool.eq_iff_iff, zeroA_iff]; simp_all; done) | (refine PSub.lit_sb ?_ ; rw [Bool.eq_iff_iff, zeroA_iff]; simp_all; done) | skip

theorem ac_r21_SameAttr (a : Attr) (ha : smallA a) : AC Try.prog 121 [.pv (.agg (cAttr a)), .pv (.agg (cAttr noAttr))] [] (.pv (vbool (zeroA a))) [] := by
  refine AC.of_awp (T := T) T_ok hm Try.call121 Try.func121 rfl rfl rfl ?_
  conv => whnf
  repeat (any_goals (first
    | (refine ⟨fun (h : (_ : Bool) = true) => ?_, fun (h : (_ : Bool) = false) => ?_⟩ <;> (try simp only [decide_eq_true_eq, decide_eq_false_iff_not, Bool.not_eq_true', Bool.not_eq_false', Int.toNat_natCast, beq_iff_eq, decide_eq_decide, beq_eq_false_iff_ne, ne_eq, reduceCtorEq] at h) <;> (conv => whnf))
    | (refine .inl ⟨_, ac_r21_SameNames a.enum [] ha, ?_⟩; conv => whnf)
    | (refine And.intro (by (try simp only [Int.toNat_natCast]); omega) ?_; conv => whnf)
    | (refine And.intro (show (_ : Bool) = true from by kernel_rfl) ?_; conv => whnf)
    | (refine .inl ⟨wrap64 (by omega), ?_⟩; conv => whnf)))
  all_goals first | (refine PSub.sb ?_ ; rw [Bool.eq_iff_iff, zeroA_iff]; simp_all [noAttr]; done) | (refine PSub.lit_sb ?_ ; rw [Bool.eq_iff_iff, zeroA_iff]; simp_all [noAttr]; done) | skip

end Go.Abs

namespace Go.Abs
open Go.Proofs
set_option maxRecDepth 10000

def anyN (n : Nat) (p : Nat → Bool) : Bool := (List.range n).any p

theorem anyN_true {n k : Nat} {p : Nat → Bool} (hk : k < n) (h : p k = true) : anyN n p = true := by
  simp only [anyN, List.any_eq_true, List.mem_range]
  exact ⟨k, hk, h⟩
theorem anyN_false {n : Nat} {p : Nat → Bool} (h : ∀ j, j < n → p j = false) : anyN n p = false := by
  rw [← Bool.not_eq_true]
  simp only [anyN, List.any_eq_true, List.mem_range]
  rintro ⟨j, hj, e⟩
  rw [h j hj] at e; cases e
theorem anyN_iff {n : Nat} {p : Nat → Bool} : anyN n p = true ↔ ∃ k, k < n ∧ p k = true := by simp [anyN]

/-- cluster.numbered -/
def cmdE (c : Clu) (i : Nat) : Int :=
  if validName (c.commands.getD i default).name = false then 10 else if anyN i (fun j => decide ((c.commands.getD j default).name = (c.commands.getD i default).name)) = true then 9
  else if (c.commands.getD i default).param.kind = 0 ∧ zeroA (c.commands.getD i default).param = false then 4
  else if (c.commands.getD i default).param.kind ≠ 0 ∧ defE (c.commands.getD i default).param ≠ 0 then defE (c.commands.getD i default).param
  else firstE (c.commands.getD i default).effects.length fun j => effE c (c.commands.getD i default).param ((c.commands.getD i default).effects.getD j default)

def zAttr : List PV := [vstr ⟨#[]⟩, vint 0, vint 0, vint 0, .val (.slice none 0 0), .val (.bool false), .val (.bool false)]
theorem noAttr_cells : PSubs zAttr (cAttr noAttr) := ⟨.rfl, .rfl, .rfl, .rfl, PSub.nil_ro _ _, PSub.lit_sb rfl, PSub.lit_sb rfl, trivial⟩

theorem ac_cluster_numbered (c : Clu) (i : Nat) (hc : smallK c) (hi : i < c.commands.length) : AC Try.prog 104 [.pv (.agg (cClu c)), .pv (vint i)] [] (.pv (vint (cmdE c i))) [] := by
  have hl : c.commands.length ≤ 1048576 := hc.2.2.1
  have hd := hc.2.2.2.1 i
  have hd2 : (c.commands.getD i default).effects.length ≤ 1048576 := hd.2
  refine AC.of_awp (T := T) T_ok hm Try.call104 Try.func104 rfl rfl rfl ?_
  conv => whnf
  refine And.intro (by omega) ?_
  conv => whnf
  refine .inl ⟨_, ac_names_Valid (c.commands.getD i default).name, ?_⟩
  conv => whnf
  refine ⟨fun h => ?_, fun h => ?_⟩ <;> (try simp only [decide_eq_true_eq, decide_eq_false_iff_not, Bool.not_eq_true', Bool.not_eq_false', Int.toNat_natCast, beq_iff_eq, decide_eq_decide, beq_eq_false_iff_ne, ne_eq, reduceCtorEq] at h) <;> (conv => whnf)
  · exact PSub.int (by simp [cmdE, h, -List.getD_eq_getElem?_getD])
  refine And.intro (by omega) ?_
  conv => whnf
  have hv := h
  refine loop_k (ι := Nat) [2, 5, 24, 25] [2, 5] (fun k => k ≤ i ∧ (∀ j, j < k → decide ((c.commands.getD j default).name = (c.commands.getD i default).name) = false)) (fun k => i - k) 0 (fun k => [(26, .pv (vint k))]) (fun _ => []) [] ⟨Nat.zero_le _, fun j h => absurd h (by omega)⟩ ?_ (fun k hk => ?_)
  · (repeat' (first | exact PSub.rfl | exact rfl | exact PSubs.rfl | exact trivial | refine And.intro ?_ ?_))
  obtain ⟨hkn, hinv⟩ := hk
  conv => whnf
  repeat (any_goals (first
    | (refine ⟨fun (h : (_ : Bool) = true) => ?_, fun (h : (_ : Bool) = false) => ?_⟩ <;> (try simp only [decide_eq_true_eq, decide_eq_false_iff_not, Bool.not_eq_true', Bool.not_eq_false', Int.toNat_natCast, beq_iff_eq, decide_eq_decide, beq_eq_false_iff_ne, ne_eq, reduceCtorEq] at h) <;> (conv => whnf))
    | (refine .inl ⟨_, ac_cluster_zero (c.commands.getD i default).param, ?_⟩; conv => whnf)
    | (refine .inl ⟨_, ac_value_Def (c.commands.getD i default).param hd.1, ?_⟩; conv => whnf)
    | (refine And.intro (by (try simp only [Int.toNat_natCast]); omega) ?_; conv => whnf)
    | (refine And.intro (show (_ : Bool) = true from by kernel_rfl) ?_; conv => whnf)
    | (refine .inl ⟨wrap64 (by omega), ?_⟩; conv => whnf)))
  case' refine_2.refine_2.refine_1.refine_2 =>
    refine ⟨k + 1, [], ⟨by omega, ?_⟩, by first | omega | (dsimp only; omega), ?_⟩
    rotate_left
    · (repeat' (first | exact PSub.rfl | exact rfl | exact PSubs.rfl | exact trivial | refine And.intro ?_ ?_))
    intro j hj
    by_cases e : j = k
    · subst e; first | exact h | simpa [-List.getD_eq_getElem?_getD] using h | simp_all [-List.getD_eq_getElem?_getD]
    · exact hinv j (by omega)
  · have e := anyN_true (n := i) (p := fun j => decide ((c.commands.getD j default).name = (c.commands.getD i default).name)) (k := k) (by omega) (by simpa [-List.getD_eq_getElem?_getD] using h)
    exact PSub.int (by simp [cmdE, hv, e, -List.getD_eq_getElem?_getD])
  all_goals have ef : anyN i (fun j => decide ((c.commands.getD j default).name = (c.commands.getD i default).name)) = false := anyN_false fun j hj => hinv j (by omega)
  all_goals try (exact PSub.int (by simp_all [cmdE, -List.getD_eq_getElem?_getD]; done))
  all_goals
    have e0 : cmdE c i = firstE (c.commands.getD i default).effects.length fun j => effE c (c.commands.getD i default).param ((c.commands.getD i default).effects.getD j default) := by simp_all [cmdE, -List.getD_eq_getElem?_getD]
    rw [e0]
    clear hinv hkn
    refine loop_k (ι := Nat) [2, 5, 51, 52] [2, 5] (fun k2 => k2 ≤ (c.commands.getD i default).effects.length ∧ (∀ j, j < k2 → effE c (c.commands.getD i default).param ((c.commands.getD i default).effects.getD j default) = 0)) (fun k2 => (c.commands.getD i default).effects.length - k2) 0 (fun k2 => [(53, .pv (vint k2))]) (fun _ => []) [] ⟨Nat.zero_le _, fun j h => absurd h (by omega)⟩ ?_ (fun k2 hk => ?_)
    · (repeat' (first | exact PSub.rfl | exact rfl | exact PSubs.rfl | exact trivial | refine And.intro ?_ ?_))
    obtain ⟨hkn, hinv⟩ := hk
    conv => whnf
    repeat (any_goals (first
      | (refine ⟨fun (h : (_ : Bool) = true) => ?_, fun (h : (_ : Bool) = false) => ?_⟩ <;> (try simp only [decide_eq_true_eq, decide_eq_false_iff_not, Bool.not_eq_true', Bool.not_eq_false', Int.toNat_natCast, beq_iff_eq, decide_eq_decide, beq_eq_false_iff_ne, ne_eq, reduceCtorEq] at h) <;> (conv => whnf))
      | (refine .inl ⟨_, ac_cluster_effect c (c.commands.getD i default).param ((c.commands.getD i default).effects.getD k2 default) hc, ?_⟩; conv => whnf)
      | (refine And.intro (by (try simp only [Int.toNat_natCast]); omega) ?_; conv => whnf)
      | (refine And.intro (show (_ : Bool) = true from by kernel_rfl) ?_; conv => whnf)
      | (refine .inl ⟨wrap64 (by omega), ?_⟩; conv => whnf)))
    · exact PSub.int (by rw [firstE_at (k := k2) (by omega) h hinv])
    · refine ⟨k2 + 1, [], ⟨by omega, ?_⟩, by first | omega | (dsimp only; omega), ?_⟩
      rotate_left
      · (repeat' (first | exact PSub.rfl | exact rfl | exact PSubs.rfl | exact trivial | refine And.intro ?_ ?_))
      intro j hj
      by_cases e : j = k2
      · subst e; first | exact h | simpa [-List.getD_eq_getElem?_getD] using h | simp_all [-List.getD_eq_getElem?_getD]
      · exact hinv j (by omega)
    · exact PSub.int (by rw [firstE_none fun j hj => hinv j (by omega)])

theorem ac_r21_OneCommand (c : Clu) (i : Nat) (hc : smallK c) (hi : i < c.commands.length) : AC Try.prog 107 [.pv (.agg (cClu c)), .pv (vint i)] [] (.pv (vint (cmdE c i))) [] := by
  have hl : c.commands.length ≤ 1048576 := hc.2.2.1
  have hd := hc.2.2.2.1 i
  have hd2 : (c.commands.getD i default).effects.length ≤ 1048576 := hd.2
  refine AC.of_awp (T := T) T_ok hm Try.call107 Try.func107 rfl rfl rfl ?_
  conv => whnf
  refine And.intro (by omega) ?_
  conv => whnf
  refine .inl ⟨_, ac_r04_Valid (c.commands.getD i default).name, ?_⟩
  conv => whnf
  refine ⟨fun h => ?_, fun h => ?_⟩ <;> (try simp only [decide_eq_true_eq, decide_eq_false_iff_not, Bool.not_eq_true', Bool.not_eq_false', Int.toNat_natCast, beq_iff_eq, decide_eq_decide, beq_eq_false_iff_ne, ne_eq, reduceCtorEq] at h) <;> (conv => whnf)
  · exact PSub.int (by simp [cmdE, h, -List.getD_eq_getElem?_getD])
  have hv := h
  refine loop_k (ι := Nat) [1, 2, 5] [2, 5] (fun k => k ≤ i ∧ (∀ j, j < k → decide ((c.commands.getD j default).name = (c.commands.getD i default).name) = false)) (fun k => i - k) 0 (fun k => [(6, .pv (vint k))]) (fun _ => []) [] ⟨Nat.zero_le _, fun j h => absurd h (by omega)⟩ ?_ (fun k hk => ?_)
  · (repeat' (first | exact PSub.rfl | exact rfl | exact PSubs.rfl | exact trivial | refine And.intro ?_ ?_))
  obtain ⟨hkn, hinv⟩ := hk
  conv => whnf
  repeat (any_goals (first
    | (refine ⟨fun (h : (_ : Bool) = true) => ?_, fun (h : (_ : Bool) = false) => ?_⟩ <;> (try simp only [decide_eq_true_eq, decide_eq_false_iff_not, Bool.not_eq_true', Bool.not_eq_false', Int.toNat_natCast, beq_iff_eq, decide_eq_decide, beq_eq_false_iff_ne, ne_eq, reduceCtorEq] at h) <;> (conv => whnf))
    | (refine .inl ⟨_, AC.sub2 (ac_r21_SameAttr (c.commands.getD i default).param hd.1) .rfl (PSub.agg noAttr_cells (l := zAttr)), ?_⟩; conv => whnf)
    | (refine .inl ⟨_, ac_r20_Def (c.commands.getD i default).param hd.1, ?_⟩; conv => whnf)
    | (refine And.intro (by (try simp only [Int.toNat_natCast]); omega) ?_; conv => whnf)
    | (refine And.intro (show (_ : Bool) = true from by kernel_rfl) ?_; conv => whnf)
    | (refine .inl ⟨wrap64 (by omega), ?_⟩; conv => whnf)))
  case' refine_2.refine_2.refine_1.refine_2 =>
    refine ⟨k + 1, [], ⟨by omega, ?_⟩, by first | omega | (dsimp only; omega), ?_⟩
    rotate_left
    · (repeat' (first | exact PSub.rfl | exact rfl | exact PSubs.rfl | exact trivial | refine And.intro ?_ ?_))
    intro j hj
    by_cases e : j = k
    · subst e; first | exact h | simpa [-List.getD_eq_getElem?_getD] using h | simp_all [-List.getD_eq_getElem?_getD]
    · exact hinv j (by omega)
  · have e := anyN_true (n := i) (p := fun j => decide ((c.commands.getD j default).name = (c.commands.getD i default).name)) (k := k) (by omega) (by simpa [-List.getD_eq_getElem?_getD] using h)
    exact PSub.int (by simp [cmdE, hv, e, -List.getD_eq_getElem?_getD])
  all_goals have ef : anyN i (fun j => decide ((c.commands.getD j default).name = (c.commands.getD i default).name)) = false := anyN_false fun j hj => hinv j (by omega)
  all_goals try (exact PSub.int (by simp_all [cmdE, -List.getD_eq_getElem?_getD]; done))
  all_goals
    have e0 : cmdE c i = firstE (c.commands.getD i default).effects.length fun j => effE c (c.commands.getD i default).param ((c.commands.getD i default).effects.getD j default) := by simp_all [cmdE, -List.getD_eq_getElem?_getD]
    rw [e0]
    clear hinv hkn
    refine loop_k (ι := Nat) [2, 5, 50] [2, 5] (fun k2 => k2 ≤ (c.commands.getD i default).effects.length ∧ (∀ j, j < k2 → effE c (c.commands.getD i default).param ((c.commands.getD i default).effects.getD j default) = 0)) (fun k2 => (c.commands.getD i default).effects.length - k2) 0 (fun k2 => [(51, .pv (vint k2))]) (fun _ => []) [] ⟨Nat.zero_le _, fun j h => absurd h (by omega)⟩ ?_ (fun k2 hk => ?_)
    · (repeat' (first | exact PSub.rfl | exact rfl | exact PSubs.rfl | exact trivial | refine And.intro ?_ ?_))
    obtain ⟨hkn, hinv⟩ := hk
    conv => whnf
    repeat (any_goals (first
      | (refine ⟨fun (h : (_ : Bool) = true) => ?_, fun (h : (_ : Bool) = false) => ?_⟩ <;> (try simp only [decide_eq_true_eq, decide_eq_false_iff_not, Bool.not_eq_true', Bool.not_eq_false', Int.toNat_natCast, beq_iff_eq, decide_eq_decide, beq_eq_false_iff_ne, ne_eq, reduceCtorEq] at h) <;> (conv => whnf))
      | (refine .inl ⟨_, ac_r21_Effect c (c.commands.getD i default).param ((c.commands.getD i default).effects.getD k2 default) hc hd.1, ?_⟩; conv => whnf)
      | (refine And.intro (by (try simp only [Int.toNat_natCast]); omega) ?_; conv => whnf)
      | (refine And.intro (show (_ : Bool) = true from by kernel_rfl) ?_; conv => whnf)
      | (refine .inl ⟨wrap64 (by omega), ?_⟩; conv => whnf)))
    · exact PSub.int (by rw [firstE_at (k := k2) (by omega) h hinv])
    · refine ⟨k2 + 1, [], ⟨by omega, ?_⟩, by first | omega | (dsimp only; omega), ?_⟩
      rotate_left
      · (repeat' (first | exact PSub.rfl | exact rfl | exact PSubs.rfl | exact trivial | refine And.intro ?_ ?_))
      intro j hj
      by_cases e : j = k2
      · subst e; first | exact h | simpa [-List.getD_eq_getElem?_getD] using h | simp_all [-List.getD_eq_getElem?_getD]
      · exact hinv j (by omega)
    · exact PSub.int (by rw [firstE_none fun j hj => hinv j (by omega)])

end Go.Abs

namespace Go.Abs
open Go.Proofs
set_option maxRecDepth 10000

def attrE (l : List Attr) (i : Nat) : Int := if defE (l.getD i default) ≠ 0 then defE (l.getD i default) else if anyN i (fun j => decide ((l.getD j default).name = (l.getD i default).name)) = true then 9 else 0
def evE (l : List ByteArray) (i : Nat) : Int := if validName (l.getD i default) = false then 10 else if memN l i (l.getD i default) = true then 9 else 0

/-- cluster.Check -/
def checkE (c : Clu) : Int :=
  if validName c.name = false then 10 else if wideB c = true then 3
  else if firstE c.attrs.length (attrE c.attrs) ≠ 0 then firstE c.attrs.length (attrE c.attrs)
  else if firstE c.commands.length (cmdE c) ≠ 0 then firstE c.commands.length (cmdE c)
  else firstE c.events.length (evE c.events)

theorem ac_cluster_Check (c : Clu) (hc : smallK c) : AC Try.prog 88 [.pv (.agg (cClu c))] [] (.pv (vint (checkE c))) [] := by
  have hl1 : c.attrs.length ≤ 1048576 := hc.1
  have hl2 : c.commands.length ≤ 1048576 := hc.2.2.1
  have hl3 : c.events.length ≤ 1048576 := hc.2.2.2.2
  refine AC.of_awp (T := T) T_ok hm Try.call88 Try.func88 rfl rfl rfl ?_
  conv => whnf
  refine .inl ⟨_, ac_names_Valid c.name, ?_⟩
  conv => whnf
  refine ⟨fun h => ?_, fun h => ?_⟩ <;> (try simp only [decide_eq_true_eq, decide_eq_false_iff_not, Bool.not_eq_true', Bool.not_eq_false', Int.toNat_natCast, beq_iff_eq, decide_eq_decide, beq_eq_false_iff_ne, ne_eq, reduceCtorEq] at h) <;> (conv => whnf)
  · exact PSub.int (by simp [checkE, h, -List.getD_eq_getElem?_getD])
  have hv := h
  refine .inl ⟨_, ac_cluster_wide c hc, ?_⟩
  conv => whnf
  refine ⟨fun h => ?_, fun h => ?_⟩ <;> (try simp only [decide_eq_true_eq, decide_eq_false_iff_not, Bool.not_eq_true', Bool.not_eq_false', Int.toNat_natCast, beq_iff_eq, decide_eq_decide, beq_eq_false_iff_ne, ne_eq, reduceCtorEq] at h) <;> (conv => whnf)
  · exact PSub.int (by simp [checkE, h, hv, -List.getD_eq_getElem?_getD])
  have hw := h
  refine loop_k (ι := Nat) [1, 19, 20] [1] (fun k => k ≤ c.attrs.length ∧ (∀ j, j < k → attrE c.attrs j = 0)) (fun k => c.attrs.length - k) 0 (fun k => [(21, .pv (vint k))]) (fun _ => []) [] ⟨Nat.zero_le _, fun j h => absurd h (by omega)⟩ ?_ (fun k hk => ?_)
  · (repeat' (first | exact PSub.rfl | exact rfl | exact PSubs.rfl | exact trivial | refine And.intro ?_ ?_))
  obtain ⟨hkn, hinv⟩ := hk
  conv => whnf
  refine ⟨fun h => ?_, fun h => ?_⟩ <;> (try simp only [decide_eq_true_eq, decide_eq_false_iff_not, Bool.not_eq_true', Bool.not_eq_false', Int.toNat_natCast, beq_iff_eq, decide_eq_decide, beq_eq_false_iff_ne, ne_eq, reduceCtorEq] at h) <;> (conv => whnf)
  · refine And.intro (by omega) ?_
    conv => whnf
    refine .inl ⟨_, ac_value_Def (c.attrs.getD k default) (hc.2.1 k), ?_⟩
    conv => whnf
    refine ⟨fun h => ?_, fun h => ?_⟩ <;> (try simp only [decide_eq_true_eq, decide_eq_false_iff_not, Bool.not_eq_true', Bool.not_eq_false', Int.toNat_natCast, beq_iff_eq, decide_eq_decide, beq_eq_false_iff_ne, ne_eq, reduceCtorEq] at h) <;> (conv => whnf)
    · have e : attrE c.attrs k = defE (c.attrs.getD k default) := by simp [attrE, h, -List.getD_eq_getElem?_getD]
      have e2 := firstE_at (n := c.attrs.length) (k := k) (f := attrE c.attrs) (by omega) (by rw [e]; exact h) hinv
      rw [e] at e2
      exact PSub.int (by simp [checkE, e2, h, hv, hw, -List.getD_eq_getElem?_getD])
    have hd := h
    refine And.intro (by omega) ?_
    conv => whnf
    have hinv1 := hinv
    refine loop_k (ι := Nat) [1, 4, 19, 20, 21, 34, 35] [1, 4] (fun k2 => k2 ≤ k ∧ (∀ j, j < k2 → decide ((c.attrs.getD j default).name = (c.attrs.getD k default).name) = false)) (fun k2 => k - k2) 0 (fun k2 => [(36, .pv (vint k2))]) (fun _ => []) [] ⟨Nat.zero_le _, fun j h => absurd h (by omega)⟩ ?_ (fun k2 hk => ?_)
    · (repeat' (first | exact PSub.rfl | exact rfl | exact PSubs.rfl | exact trivial | refine And.intro ?_ ?_))
    obtain ⟨hkn, hinv⟩ := hk
    conv => whnf
    repeat (any_goals (first
      | (refine ⟨fun (h : (_ : Bool) = true) => ?_, fun (h : (_ : Bool) = false) => ?_⟩ <;> (try simp only [decide_eq_true_eq, decide_eq_false_iff_not, Bool.not_eq_true', Bool.not_eq_false', Int.toNat_natCast, beq_iff_eq, decide_eq_decide, beq_eq_false_iff_ne, ne_eq, reduceCtorEq] at h) <;> (conv => whnf))
      | (refine And.intro (by (try simp only [Int.toNat_natCast]); omega) ?_; conv => whnf)
      | (refine And.intro (show (_ : Bool) = true from by kernel_rfl) ?_; conv => whnf)
      | (refine .inl ⟨wrap64 (by omega), ?_⟩; conv => whnf)))
    · have e0 := anyN_true (n := k) (k := k2) (p := fun j => decide ((c.attrs.getD j default).name = (c.attrs.getD k default).name)) (by omega) (by simpa [-List.getD_eq_getElem?_getD] using h)
      have e : attrE c.attrs k = 9 := by simp [attrE, hd, e0, -List.getD_eq_getElem?_getD]
      have e2 := firstE_at (n := c.attrs.length) (k := k) (f := attrE c.attrs) (by omega) (by rw [e]; decide) hinv1
      rw [e] at e2
      exact PSub.int (by simp [checkE, e2, hv, hw, -List.getD_eq_getElem?_getD])
    · refine ⟨k2 + 1, [], ⟨by omega, ?_⟩, by first | omega | (dsimp only; omega), ?_⟩
      rotate_left
      · (repeat' (first | exact PSub.rfl | exact rfl | exact PSubs.rfl | exact trivial | refine And.intro ?_ ?_))
      intro j hj
      by_cases e : j = k2
      · subst e; first | exact h | simpa [-List.getD_eq_getElem?_getD] using h | simp_all [-List.getD_eq_getElem?_getD]
      · exact hinv j (by omega)
    · have e0 := anyN_false (n := k) (p := fun j => decide ((c.attrs.getD j default).name = (c.attrs.getD k default).name)) (fun j hj => hinv j (by omega))
      have e : attrE c.attrs k = 0 := by simp [attrE, hd, e0, -List.getD_eq_getElem?_getD]
      refine ⟨k + 1, [], ⟨by omega, ?_⟩, by first | omega | (dsimp only; omega), ?_⟩
      rotate_left
      · (repeat' (first | exact PSub.rfl | exact rfl | exact PSubs.rfl | exact trivial | refine And.intro ?_ ?_))
      intro j hj
      by_cases ee : j = k
      · subst ee; exact e
      · exact hinv1 j (by omega)
  have e1 : firstE c.attrs.length (attrE c.attrs) = 0 := firstE_none fun j hj => hinv j (by omega)
  clear hinv hkn h
  refine loop_k (ι := Nat) [1, 49] [1] (fun k => k ≤ c.commands.length ∧ (∀ j, j < k → cmdE c j = 0)) (fun k => c.commands.length - k) 0 (fun k => [(50, .pv (vint k))]) (fun _ => []) [] ⟨Nat.zero_le _, fun j h => absurd h (by omega)⟩ ?_ (fun k hk => ?_)
  · (repeat' (first | exact PSub.rfl | exact rfl | exact PSubs.rfl | exact trivial | refine And.intro ?_ ?_))
  obtain ⟨hkn, hinv⟩ := hk
  conv => whnf
  refine ⟨fun h => ?_, fun h => ?_⟩ <;> (try simp only [decide_eq_true_eq, decide_eq_false_iff_not, Bool.not_eq_true', Bool.not_eq_false', Int.toNat_natCast, beq_iff_eq, decide_eq_decide, beq_eq_false_iff_ne, ne_eq, reduceCtorEq] at h) <;> (conv => whnf)
  · refine .inl ⟨_, ac_cluster_numbered c k hc (by omega), ?_⟩
    conv => whnf
    refine ⟨fun h => ?_, fun h => ?_⟩ <;> (try simp only [decide_eq_true_eq, decide_eq_false_iff_not, Bool.not_eq_true', Bool.not_eq_false', Int.toNat_natCast, beq_iff_eq, decide_eq_decide, beq_eq_false_iff_ne, ne_eq, reduceCtorEq] at h) <;> (conv => whnf)
    · have e2 := firstE_at (n := c.commands.length) (k := k) (f := cmdE c) (by omega) h hinv
      exact PSub.int (by simp [checkE, e1, e2, h, hv, hw, -List.getD_eq_getElem?_getD])
    refine .inl ⟨wrap64 (by omega), ?_⟩
    conv => whnf
    refine ⟨k + 1, [], ⟨by omega, ?_⟩, by first | omega | (dsimp only; omega), ?_⟩
    rotate_left
    · (repeat' (first | exact PSub.rfl | exact rfl | exact PSubs.rfl | exact trivial | refine And.intro ?_ ?_))
    intro j hj
    by_cases e : j = k
    · subst e; first | exact h | simpa [-List.getD_eq_getElem?_getD] using h | simp_all [-List.getD_eq_getElem?_getD]
    · exact hinv j (by omega)
  have e2 : firstE c.commands.length (cmdE c) = 0 := firstE_none fun j hj => hinv j (by omega)
  have e0 : checkE c = firstE c.events.length (evE c.events) := by simp [checkE, e1, e2, hv, hw, -List.getD_eq_getElem?_getD]
  rw [e0]
  clear hinv hkn h
  refine loop_k (ι := Nat) [1, 61, 62] [1] (fun k => k ≤ c.events.length ∧ (∀ j, j < k → evE c.events j = 0)) (fun k => c.events.length - k) 0 (fun k => [(63, .pv (vint k))]) (fun _ => []) [] ⟨Nat.zero_le _, fun j h => absurd h (by omega)⟩ ?_ (fun k hk => ?_)
  · (repeat' (first | exact PSub.rfl | exact rfl | exact PSubs.rfl | exact trivial | refine And.intro ?_ ?_))
  obtain ⟨hkn, hinv⟩ := hk
  conv => whnf
  repeat (any_goals (first
    | (refine ⟨fun (h : (_ : Bool) = true) => ?_, fun (h : (_ : Bool) = false) => ?_⟩ <;> (try simp only [decide_eq_true_eq, decide_eq_false_iff_not, Bool.not_eq_true', Bool.not_eq_false', Int.toNat_natCast, beq_iff_eq, decide_eq_decide, beq_eq_false_iff_ne, ne_eq, reduceCtorEq] at h) <;> (conv => whnf))
    | (refine .inl ⟨_, ac_names_Valid (c.events.getD k default), ?_⟩; conv => whnf)
    | (refine .inl ⟨_, ac_slices_Contains_string_n c.events k (c.events.getD k default) (by omega), ?_⟩; conv => whnf)
    | (refine And.intro (by (try simp only [Int.toNat_natCast]); omega) ?_; conv => whnf)
    | (refine And.intro (show (_ : Bool) = true from by kernel_rfl) ?_; conv => whnf)
    | (refine .inl ⟨wrap64 (by omega), ?_⟩; conv => whnf)))
  · have e : evE c.events k = 10 := by simp [evE, h, -List.getD_eq_getElem?_getD]
    exact PSub.int (by rw [firstE_at (k := k) (by omega) (by rw [e]; decide) hinv, e])
  · rename_i h' 
    have e : evE c.events k = 9 := by simp [evE, h, h', -List.getD_eq_getElem?_getD]
    exact PSub.int (by rw [firstE_at (k := k) (by omega) (by rw [e]; decide) hinv, e])
  · rename_i h'
    refine ⟨k + 1, [], ⟨by omega, ?_⟩, by first | omega | (dsimp only; omega), ?_⟩
    rotate_left
    · (repeat' (first | exact PSub.rfl | exact rfl | exact PSubs.rfl | exact trivial | refine And.intro ?_ ?_))
    intro j hj
    by_cases ee : j = k
    · subst ee; simp [evE, h, h', -List.getD_eq_getElem?_getD]
    · exact hinv j (by omega)
  · exact PSub.int (by rw [firstE_none fun j hj => hinv j (by omega)])

end Go.Abs

namespace Go.Abs
open Go.Proofs
set_option maxRecDepth 10000

theorem placeI_lt {l : List Attr} {s : ByteArray} {k : Nat} (hk : k < l.length) (h : (l.getD k default).name = s) : (placeI l s < (k : Int)) ↔ anyN k (fun j => decide ((l.getD j default).name = s)) = true := by
  have hlt : attrAt l s ≤ k ∧ attrAt l s < l.length := by
    unfold attrAt firstI
    split
    · rename_i i e
      rw [List.find?_range_eq_some] at e
      refine ⟨?_, by simpa using e.2.1⟩
      rcases Nat.lt_or_ge k i with hlt | hge
      · have := e.2.2 k hlt; simp [h, -List.getD_eq_getElem?_getD] at this
      · exact hge
    · rename_i e
      rw [List.find?_eq_none] at e
      have := e k (by simpa using hk)
      simp [h, -List.getD_eq_getElem?_getD] at this
  unfold placeI
  rw [if_pos hlt.2, anyN_iff]
  constructor
  · intro hh
    refine ⟨attrAt l s, by omega, ?_⟩
    unfold attrAt firstI
    split
    · rename_i i e
      rw [List.find?_range_eq_some] at e
      exact e.1
    · rename_i e
      rw [List.find?_eq_none] at e
      have := e k (by simpa using hk)
      simp [h, -List.getD_eq_getElem?_getD] at this
  · rintro ⟨j, hj, e⟩
    have : attrAt l s ≤ j := by
      unfold attrAt firstI
      split
      · rename_i i e2
        rw [List.find?_range_eq_some] at e2
        rcases Nat.lt_or_ge j i with hlt2 | hge
        · have := e2.2.2 j hlt2; rw [e] at this; cases this
        · exact hge
      · rename_i e2
        rw [List.find?_eq_none] at e2
        have := e2 k (by simpa using hk)
        simp [h, -List.getD_eq_getElem?_getD] at this
    omega

theorem ac_r21_Check (c : Clu) (hc : smallK c) : AC Try.prog 93 [.pv (.agg (cClu c))] [] (.pv (vint (checkE c))) [] := by
  have hl1 : c.attrs.length ≤ 1048576 := hc.1
  have hl2 : c.commands.length ≤ 1048576 := hc.2.2.1
  have hl3 : c.events.length ≤ 1048576 := hc.2.2.2.2
  refine AC.of_awp (T := T) T_ok hm Try.call93 Try.func93 rfl rfl rfl ?_
  conv => whnf
  refine .inl ⟨_, ac_r04_Valid c.name, ?_⟩
  conv => whnf
  refine ⟨fun h => ?_, fun h => ?_⟩ <;> (try simp only [decide_eq_true_eq, decide_eq_false_iff_not, Bool.not_eq_true', Bool.not_eq_false', Int.toNat_natCast, beq_iff_eq, decide_eq_decide, beq_eq_false_iff_ne, ne_eq, reduceCtorEq] at h) <;> (conv => whnf)
  · exact PSub.int (by simp [checkE, h, -List.getD_eq_getElem?_getD])
  have hv := h
  refine .inl ⟨_, ac_r21_TooMany c hc, ?_⟩
  conv => whnf
  refine ⟨fun h => ?_, fun h => ?_⟩ <;> (try simp only [decide_eq_true_eq, decide_eq_false_iff_not, Bool.not_eq_true', Bool.not_eq_false', Int.toNat_natCast, beq_iff_eq, decide_eq_decide, beq_eq_false_iff_ne, ne_eq, reduceCtorEq] at h) <;> (conv => whnf)
  · exact PSub.int (by simp [checkE, h, hv, -List.getD_eq_getElem?_getD])
  have hw := h
  refine loop_k (ι := Nat) [1, 17] [1] (fun k => k ≤ c.attrs.length ∧ (∀ j, j < k → attrE c.attrs j = 0)) (fun k => c.attrs.length - k) 0 (fun k => [(18, .pv (vint k))]) (fun _ => []) [] ⟨Nat.zero_le _, fun j h => absurd h (by omega)⟩ ?_ (fun k hk => ?_)
  · (repeat' (first | exact PSub.rfl | exact rfl | exact PSubs.rfl | exact trivial | refine And.intro ?_ ?_))
  obtain ⟨hkn, hinv⟩ := hk
  conv => whnf
  repeat (any_goals (first
    | (refine ⟨fun (h : (_ : Bool) = true) => ?_, fun (h : (_ : Bool) = false) => ?_⟩ <;> (try simp only [decide_eq_true_eq, decide_eq_false_iff_not, Bool.not_eq_true', Bool.not_eq_false', Int.toNat_natCast, beq_iff_eq, decide_eq_decide, beq_eq_false_iff_ne, ne_eq, reduceCtorEq] at h) <;> (conv => whnf))
    | (refine .inl ⟨_, ac_r20_Def (c.attrs.getD k default) (hc.2.1 k), ?_⟩; conv => whnf)
    | (refine .inl ⟨_, ac_r21_Place c (c.attrs.getD k default).name hc, ?_⟩; conv => whnf)
    | (refine And.intro (by (try simp only [Int.toNat_natCast]); omega) ?_; conv => whnf)
    | (refine And.intro (show (_ : Bool) = true from by kernel_rfl) ?_; conv => whnf)
    | (refine .inl ⟨wrap64 (by omega), ?_⟩; conv => whnf)))
  · have e : attrE c.attrs k = defE (c.attrs.getD k default) := by simp [attrE, h, -List.getD_eq_getElem?_getD]
    have e2 := firstE_at (n := c.attrs.length) (k := k) (f := attrE c.attrs) (by omega) (by rw [e]; exact h) hinv
    rw [e] at e2
    exact PSub.int (by simp [checkE, e2, h, hv, hw, -List.getD_eq_getElem?_getD])
  · rename_i hd
    rw [placeI_lt (by omega) rfl] at h
    have e : attrE c.attrs k = 9 := by simp [attrE, hd, h, -List.getD_eq_getElem?_getD]
    have e2 := firstE_at (n := c.attrs.length) (k := k) (f := attrE c.attrs) (by omega) (by rw [e]; decide) hinv
    rw [e] at e2
    exact PSub.int (by simp [checkE, e2, hv, hw, -List.getD_eq_getElem?_getD])
  · rename_i hd
    rw [placeI_lt (by omega) rfl] at h
    refine ⟨k + 1, [], ⟨by omega, ?_⟩, by first | omega | (dsimp only; omega), ?_⟩
    rotate_left
    · (repeat' (first | exact PSub.rfl | exact rfl | exact PSubs.rfl | exact trivial | refine And.intro ?_ ?_))
    intro j hj
    by_cases ee : j = k
    · subst ee; simp [attrE, hd, h, -List.getD_eq_getElem?_getD]
    · exact hinv j (by omega)
  have e1 : firstE c.attrs.length (attrE c.attrs) = 0 := firstE_none fun j hj => hinv j (by omega)
  clear hinv hkn h
  refine loop_k (ι := Nat) [1, 43] [1] (fun k => k ≤ c.commands.length ∧ (∀ j, j < k → cmdE c j = 0)) (fun k => c.commands.length - k) 0 (fun k => [(44, .pv (vint k))]) (fun _ => []) [] ⟨Nat.zero_le _, fun j h => absurd h (by omega)⟩ ?_ (fun k hk => ?_)
  · (repeat' (first | exact PSub.rfl | exact rfl | exact PSubs.rfl | exact trivial | refine And.intro ?_ ?_))
  obtain ⟨hkn, hinv⟩ := hk
  conv => whnf
  repeat (any_goals (first
    | (refine ⟨fun (h : (_ : Bool) = true) => ?_, fun (h : (_ : Bool) = false) => ?_⟩ <;> (try simp only [decide_eq_true_eq, decide_eq_false_iff_not, Bool.not_eq_true', Bool.not_eq_false', Int.toNat_natCast, beq_iff_eq, decide_eq_decide, beq_eq_false_iff_ne, ne_eq, reduceCtorEq] at h) <;> (conv => whnf))
    | (refine .inl ⟨_, ac_r21_OneCommand c k hc (by omega), ?_⟩; conv => whnf)
    | (refine And.intro (by (try simp only [Int.toNat_natCast]); omega) ?_; conv => whnf)
    | (refine And.intro (show (_ : Bool) = true from by kernel_rfl) ?_; conv => whnf)
    | (refine .inl ⟨wrap64 (by omega), ?_⟩; conv => whnf)))
  · have e2 := firstE_at (n := c.commands.length) (k := k) (f := cmdE c) (by omega) h hinv
    exact PSub.int (by simp [checkE, e1, e2, h, hv, hw, -List.getD_eq_getElem?_getD])
  · refine ⟨k + 1, [], ⟨by omega, ?_⟩, by first | omega | (dsimp only; omega), ?_⟩
    rotate_left
    · (repeat' (first | exact PSub.rfl | exact rfl | exact PSubs.rfl | exact trivial | refine And.intro ?_ ?_))
    intro j hj
    by_cases e : j = k
    · subst e; first | exact h | simpa [-List.getD_eq_getElem?_getD] using h | simp_all [-List.getD_eq_getElem?_getD]
    · exact hinv j (by omega)
  have e2 : firstE c.commands.length (cmdE c) = 0 := firstE_none fun j hj => hinv j (by omega)
  have e0 : checkE c = firstE c.events.length (evE c.events) := by simp [checkE, e1, e2, hv, hw, -List.getD_eq_getElem?_getD]
  rw [e0]
  clear hinv hkn h
  refine loop_k (ι := Nat) [1, 56] [1] (fun k => k ≤ c.events.length ∧ (∀ j, j < k → evE c.events j = 0)) (fun k => c.events.length - k) 0 (fun k => [(57, .pv (vint k))]) (fun _ => []) [] ⟨Nat.zero_le _, fun j h => absurd h (by omega)⟩ ?_ (fun k hk => ?_)
  · (repeat' (first | exact PSub.rfl | exact rfl | exact PSubs.rfl | exact trivial | refine And.intro ?_ ?_))
  obtain ⟨hkn, hinv⟩ := hk
  conv => whnf
  repeat (any_goals (first
    | (refine ⟨fun (h : (_ : Bool) = true) => ?_, fun (h : (_ : Bool) = false) => ?_⟩ <;> (try simp only [decide_eq_true_eq, decide_eq_false_iff_not, Bool.not_eq_true', Bool.not_eq_false', Int.toNat_natCast, beq_iff_eq, decide_eq_decide, beq_eq_false_iff_ne, ne_eq, reduceCtorEq] at h) <;> (conv => whnf))
    | (refine .inl ⟨_, ac_r04_Valid (c.events.getD k default), ?_⟩; conv => whnf)
    | (refine And.intro (by (try simp only [Int.toNat_natCast]); omega) ?_; conv => whnf)
    | (refine And.intro (show (_ : Bool) = true from by kernel_rfl) ?_; conv => whnf)
    | (refine .inl ⟨wrap64 (by omega), ?_⟩; conv => whnf)))
  · have e : evE c.events k = 10 := by simp [evE, h, -List.getD_eq_getElem?_getD]
    exact PSub.int (by rw [firstE_at (k := k) (by omega) (by rw [e]; decide) hinv, e])
  · have hve := h
    have hinv1 := hinv
    refine loop_k (ι := Nat) [1, 7, 56, 57] [1] (fun k2 => k2 ≤ k ∧ (∀ j, j < k2 → c.events.getD j default ≠ c.events.getD k default)) (fun k2 => k - k2) 0 (fun k2 => [(8, .pv (vint k2))]) (fun _ => []) [] ⟨Nat.zero_le _, fun j h => absurd h (by omega)⟩ ?_ (fun k2 hk => ?_)
    · (repeat' (first | exact PSub.rfl | exact rfl | exact PSubs.rfl | exact trivial | refine And.intro ?_ ?_))
    obtain ⟨hkn, hinv⟩ := hk
    conv => whnf
    repeat (any_goals (first
      | (refine ⟨fun (h : (_ : Bool) = true) => ?_, fun (h : (_ : Bool) = false) => ?_⟩ <;> (try simp only [decide_eq_true_eq, decide_eq_false_iff_not, Bool.not_eq_true', Bool.not_eq_false', Int.toNat_natCast, beq_iff_eq, decide_eq_decide, beq_eq_false_iff_ne, ne_eq, reduceCtorEq] at h) <;> (conv => whnf))
      | (refine And.intro (by (try simp only [Int.toNat_natCast]); omega) ?_; conv => whnf)
      | (refine And.intro (show (_ : Bool) = true from by kernel_rfl) ?_; conv => whnf)
      | (refine .inl ⟨wrap64 (by omega), ?_⟩; conv => whnf)))
    · have e := memN_true (l := c.events) (n := k) (k := k2) (s := c.events.getD k default) (by omega) h
      have e : evE c.events k = 9 := by simp [evE, hve, e, -List.getD_eq_getElem?_getD]
      exact PSub.int (by rw [firstE_at (k := k) (by omega) (by rw [e]; decide) hinv1, e])
    · refine ⟨k2 + 1, [], ⟨by omega, ?_⟩, by first | omega | (dsimp only; omega), ?_⟩
      rotate_left
      · (repeat' (first | exact PSub.rfl | exact rfl | exact PSubs.rfl | exact trivial | refine And.intro ?_ ?_))
      intro j hj
      by_cases e : j = k2
      · subst e; first | exact h | simpa [-List.getD_eq_getElem?_getD] using h | simp_all [-List.getD_eq_getElem?_getD]
      · exact hinv j (by omega)
    · have e := memN_false (l := c.events) (n := k) (s := c.events.getD k default) fun j hj => hinv j (by omega)
      refine ⟨k + 1, [], ⟨by omega, ?_⟩, by first | omega | (dsimp only; omega), ?_⟩
      rotate_left
      · (repeat' (first | exact PSub.rfl | exact rfl | exact PSubs.rfl | exact trivial | refine And.intro ?_ ?_))
      intro j hj
      by_cases ee : j = k
      · subst ee; simp [evE, hve, e, -List.getD_eq_getElem?_getD]
      · exact hinv1 j (by omega)
  · exact PSub.int (by rw [firstE_none fun j hj => hinv j (by omega)])

def smallKs (l : List Clu) : Prop := smallL l ∧ ∀ i, smallK (l.getD i default)

def cluE (l : List Clu) (i : Nat) : Int := if checkE (l.getD i default) ≠ 0 then checkE (l.getD i default) else if anyN i (fun j => decide ((l.getD j default).name = (l.getD i default).name)) = true then 9 else 0
/-- cluster.All -/
def allE (l : List Clu) : Int := if 256 < l.length then 3 else firstE l.length (cluE l)

theorem ac_cluster_All (l : List Clu) (hl : smallKs l) : AC Try.prog 62 [.pv (roL 4 cClu l)] [] (.pv (vint (allE l))) [] := by
  have hl1 : l.length ≤ 1048576 := hl.1
  refine AC.of_awp (T := T) T_ok hm Try.call62 Try.func62 rfl rfl rfl ?_
  conv => whnf
  refine ⟨fun h => ?_, fun h => ?_⟩ <;> (try simp only [decide_eq_true_eq, decide_eq_false_iff_not, Bool.not_eq_true', Bool.not_eq_false', Int.toNat_natCast, beq_iff_eq, decide_eq_decide, beq_eq_false_iff_ne, ne_eq, reduceCtorEq] at h) <;> (conv => whnf)
  · exact PSub.int (by rw [allE, if_pos (by omega)])
  rw [allE, if_neg (by omega)]
  clear h
  refine loop_k (ι := Nat) [0, 11, 12] [] (fun k => k ≤ l.length ∧ (∀ j, j < k → cluE l j = 0)) (fun k => l.length - k) 0 (fun k => [(13, .pv (vint k))]) (fun _ => []) [] ⟨Nat.zero_le _, fun j h => absurd h (by omega)⟩ ?_ (fun k hk => ?_)
  · (repeat' (first | exact PSub.rfl | exact rfl | exact PSubs.rfl | exact trivial | refine And.intro ?_ ?_))
  obtain ⟨hkn, hinv⟩ := hk
  conv => whnf
  repeat (any_goals (first
    | (refine ⟨fun (h : (_ : Bool) = true) => ?_, fun (h : (_ : Bool) = false) => ?_⟩ <;> (try simp only [decide_eq_true_eq, decide_eq_false_iff_not, Bool.not_eq_true', Bool.not_eq_false', Int.toNat_natCast, beq_iff_eq, decide_eq_decide, beq_eq_false_iff_ne, ne_eq, reduceCtorEq] at h) <;> (conv => whnf))
    | (refine .inl ⟨_, ac_cluster_Check (l.getD k default) (hl.2 k), ?_⟩; conv => whnf)
    | (refine And.intro (by (try simp only [Int.toNat_natCast]); omega) ?_; conv => whnf)
    | (refine And.intro (show (_ : Bool) = true from by kernel_rfl) ?_; conv => whnf)
    | (refine .inl ⟨wrap64 (by omega), ?_⟩; conv => whnf)))
  · have e : cluE l k = checkE (l.getD k default) := by simp [cluE, h, -List.getD_eq_getElem?_getD]
    exact PSub.int (by rw [firstE_at (k := k) (by omega) (by rw [e]; exact h) hinv, e])
  · have hd := h
    have hinv1 := hinv
    refine loop_k (ι := Nat) [0, 4, 11, 12, 13, 25, 26] [4] (fun k2 => k2 ≤ k ∧ (∀ j, j < k2 → decide ((l.getD j default).name = (l.getD k default).name) = false)) (fun k2 => k - k2) 0 (fun k2 => [(27, .pv (vint k2))]) (fun _ => []) [] ⟨Nat.zero_le _, fun j h => absurd h (by omega)⟩ ?_ (fun k2 hk => ?_)
    · (repeat' (first | exact PSub.rfl | exact rfl | exact PSubs.rfl | exact trivial | refine And.intro ?_ ?_))
    obtain ⟨hkn, hinv⟩ := hk
    conv => whnf
    repeat (any_goals (first
      | (refine ⟨fun (h : (_ : Bool) = true) => ?_, fun (h : (_ : Bool) = false) => ?_⟩ <;> (try simp only [decide_eq_true_eq, decide_eq_false_iff_not, Bool.not_eq_true', Bool.not_eq_false', Int.toNat_natCast, beq_iff_eq, decide_eq_decide, beq_eq_false_iff_ne, ne_eq, reduceCtorEq] at h) <;> (conv => whnf))
      | (refine And.intro (by (try simp only [Int.toNat_natCast]); omega) ?_; conv => whnf)
      | (refine And.intro (show (_ : Bool) = true from by kernel_rfl) ?_; conv => whnf)
      | (refine .inl ⟨wrap64 (by omega), ?_⟩; conv => whnf)))
    · have e := anyN_true (n := k) (k := k2) (p := fun j => decide ((l.getD j default).name = (l.getD k default).name)) (by omega) (by simpa [-List.getD_eq_getElem?_getD] using h)
      have e : cluE l k = 9 := by simp [cluE, hd, e, -List.getD_eq_getElem?_getD]
      exact PSub.int (by rw [firstE_at (k := k) (by omega) (by rw [e]; decide) hinv1, e])
    · refine ⟨k2 + 1, [], ⟨by omega, ?_⟩, by first | omega | (dsimp only; omega), ?_⟩
      rotate_left
      · (repeat' (first | exact PSub.rfl | exact rfl | exact PSubs.rfl | exact trivial | refine And.intro ?_ ?_))
      intro j hj
      by_cases e : j = k2
      · subst e; first | exact h | simpa [-List.getD_eq_getElem?_getD] using h | simp_all [-List.getD_eq_getElem?_getD]
      · exact hinv j (by omega)
    · have e := anyN_false (n := k) (p := fun j => decide ((l.getD j default).name = (l.getD k default).name)) fun j hj => hinv j (by omega)
      refine ⟨k + 1, [], ⟨by omega, ?_⟩, by first | omega | (dsimp only; omega), ?_⟩
      rotate_left
      · (repeat' (first | exact PSub.rfl | exact rfl | exact PSubs.rfl | exact trivial | refine And.intro ?_ ?_))
      intro j hj
      by_cases ee : j = k
      · subst ee; simp [cluE, hd, e, -List.getD_eq_getElem?_getD]
      · exact hinv1 j (by omega)
  · exact PSub.int (by rw [firstE_none fun j hj => hinv j (by omega)])

theorem ac_r21_All (l : List Clu) (hl : smallKs l) : AC Try.prog 72 [.pv (roL 4 cClu l)] [] (.pv (vint (allE l))) [] := by
  have hl1 : l.length ≤ 1048576 := hl.1
  refine AC.of_awp (T := T) T_ok hm Try.call72 Try.func72 rfl rfl rfl ?_
  conv => whnf
  refine ⟨fun h => ?_, fun h => ?_⟩ <;> (try simp only [decide_eq_true_eq, decide_eq_false_iff_not, Bool.not_eq_true', Bool.not_eq_false', Int.toNat_natCast, beq_iff_eq, decide_eq_decide, beq_eq_false_iff_ne, ne_eq, reduceCtorEq] at h) <;> (conv => whnf)
  · exact PSub.int (by rw [allE, if_pos (by omega)])
  rw [allE, if_neg (by omega)]
  clear h
  refine loop_k (ι := Nat) [0, 10] [] (fun k => k ≤ l.length ∧ (∀ j, j < k → cluE l j = 0)) (fun k => l.length - k) 0 (fun k => [(11, .pv (vint k))]) (fun _ => []) [] ⟨Nat.zero_le _, fun j h => absurd h (by omega)⟩ ?_ (fun k hk => ?_)
  · (repeat' (first | exact PSub.rfl | exact rfl | exact PSubs.rfl | exact trivial | refine And.intro ?_ ?_))
  obtain ⟨hkn, hinv⟩ := hk
  conv => whnf
  repeat (any_goals (first
    | (refine ⟨fun (h : (_ : Bool) = true) => ?_, fun (h : (_ : Bool) = false) => ?_⟩ <;> (try simp only [decide_eq_true_eq, decide_eq_false_iff_not, Bool.not_eq_true', Bool.not_eq_false', Int.toNat_natCast, beq_iff_eq, decide_eq_decide, beq_eq_false_iff_ne, ne_eq, reduceCtorEq] at h) <;> (conv => whnf))
    | (refine .inl ⟨_, ac_r21_Check (l.getD k default) (hl.2 k), ?_⟩; conv => whnf)
    | (refine And.intro (by (try simp only [Int.toNat_natCast]); omega) ?_; conv => whnf)
    | (refine And.intro (show (_ : Bool) = true from by kernel_rfl) ?_; conv => whnf)
    | (refine .inl ⟨wrap64 (by omega), ?_⟩; conv => whnf)))
  · have e : cluE l k = checkE (l.getD k default) := by simp [cluE, h, -List.getD_eq_getElem?_getD]
    exact PSub.int (by rw [firstE_at (k := k) (by omega) (by rw [e]; exact h) hinv, e])
  · have hd := h
    have hinv1 := hinv
    refine loop_k (ι := Nat) [0, 3, 10, 11] [] (fun k2 => k2 ≤ k ∧ (∀ j, j < k2 → decide ((l.getD j default).name = (l.getD k default).name) = false)) (fun k2 => k - k2) 0 (fun k2 => [(5, .pv (vint k2))]) (fun _ => []) [] ⟨Nat.zero_le _, fun j h => absurd h (by omega)⟩ ?_ (fun k2 hk => ?_)
    · (repeat' (first | exact PSub.rfl | exact rfl | exact PSubs.rfl | exact trivial | refine And.intro ?_ ?_))
    obtain ⟨hkn, hinv⟩ := hk
    conv => whnf
    repeat (any_goals (first
      | (refine ⟨fun (h : (_ : Bool) = true) => ?_, fun (h : (_ : Bool) = false) => ?_⟩ <;> (try simp only [decide_eq_true_eq, decide_eq_false_iff_not, Bool.not_eq_true', Bool.not_eq_false', Int.toNat_natCast, beq_iff_eq, decide_eq_decide, beq_eq_false_iff_ne, ne_eq, reduceCtorEq] at h) <;> (conv => whnf))
      | (refine And.intro (by (try simp only [Int.toNat_natCast]); omega) ?_; conv => whnf)
      | (refine And.intro (show (_ : Bool) = true from by kernel_rfl) ?_; conv => whnf)
      | (refine .inl ⟨wrap64 (by omega), ?_⟩; conv => whnf)))
    · have e := anyN_true (n := k) (k := k2) (p := fun j => decide ((l.getD j default).name = (l.getD k default).name)) (by omega) (by simpa [-List.getD_eq_getElem?_getD] using h)
      have e : cluE l k = 9 := by simp [cluE, hd, e, -List.getD_eq_getElem?_getD]
      exact PSub.int (by rw [firstE_at (k := k) (by omega) (by rw [e]; decide) hinv1, e])
    · refine ⟨k2 + 1, [], ⟨by omega, ?_⟩, by first | omega | (dsimp only; omega), ?_⟩
      rotate_left
      · (repeat' (first | exact PSub.rfl | exact rfl | exact PSubs.rfl | exact trivial | refine And.intro ?_ ?_))
      intro j hj
      by_cases e : j = k2
      · subst e; first | exact h | simpa [-List.getD_eq_getElem?_getD] using h | simp_all [-List.getD_eq_getElem?_getD]
      · exact hinv j (by omega)
    · have e := anyN_false (n := k) (p := fun j => decide ((l.getD j default).name = (l.getD k default).name)) fun j hj => hinv j (by omega)
      refine ⟨k + 1, [], ⟨by omega, ?_⟩, by first | omega | (dsimp only; omega), ?_⟩
      rotate_left
      · (repeat' (first | exact PSub.rfl | exact rfl | exact PSubs.rfl | exact trivial | refine And.intro ?_ ?_))
      intro j hj
      by_cases ee : j = k
      · subst ee; simp [cluE, hd, e, -List.getD_eq_getElem?_getD]
      · exact hinv1 j (by omega)
  · exact PSub.int (by rw [firstE_none fun j hj => hinv j (by omega)])

end Go.Abs

namespace Go.Abs
open Go.Proofs
set_option maxRecDepth 10000

/-- the last of the first k clusters with a name -/
def lastC (l : List Clu) : Nat → ByteArray → Option Clu
  | 0, _ => none
  | k + 1, s => if (l.getD k default).name = s then some (l.getD k default) else lastC l k s

def cluLook (f : ByteArray → Option Clu) : Value → Option PV
  | .string s => (f s).map fun c => .agg (cClu c)
  | _ => none

/-- device.clusters -/
theorem ac_device_clusters (H : Hom) (hh : smallL H.clusters) : AC Try.prog 63 [.pv (.agg (cHom H))] [] (.pv (.map (.one .str) (cluLook (lastC H.clusters H.clusters.length)))) [] := by
  have hl : H.clusters.length ≤ 1048576 := hh
  refine AC.of_awp (T := T) T_ok hm Try.call63 Try.func63 rfl rfl rfl ?_
  conv => whnf
  refine loop_k (ι := Nat) [3, 8, 9] [] (fun k => k ≤ H.clusters.length ∧ True) (fun k => H.clusters.length - k) 0 (fun k => [(10, .pv (vint k))]) (fun k => [(6, .map (.one .str) (cluLook (lastC H.clusters k)))]) [] ⟨Nat.zero_le _, trivial⟩ ?_ (fun k hk => ?_)
  · (repeat' (first | exact PSub.rfl | exact rfl | exact PSubs.rfl | exact trivial | refine And.intro ?_ ?_)); all_goals (rintro _ ⟨s, rfl⟩; rfl)
  obtain ⟨hkn, hinv⟩ := hk
  conv => whnf
  repeat (any_goals (first
    | (refine ⟨fun (h : (_ : Bool) = true) => ?_, fun (h : (_ : Bool) = false) => ?_⟩ <;> (try simp only [decide_eq_true_eq, decide_eq_false_iff_not, Bool.not_eq_true', Bool.not_eq_false', Int.toNat_natCast, beq_iff_eq, decide_eq_decide, beq_eq_false_iff_ne, ne_eq, reduceCtorEq] at h) <;> (conv => whnf))
    | (refine And.intro (by (try simp only [Int.toNat_natCast]); omega) ?_; conv => whnf)
    | (refine And.intro (show (_ : Bool) = true from by kernel_rfl) ?_; conv => whnf)
    | (refine .inl ⟨wrap64 (by omega), ?_⟩; conv => whnf)))
  · refine ⟨k + 1, [], ⟨by omega, trivial⟩, by omega, ?_⟩
    (repeat' (first | exact PSub.rfl | exact rfl | exact PSubs.rfl | exact trivial | refine And.intro ?_ ?_))
    rintro _ ⟨s, rfl⟩
    simp only [Int.toNat_natCast, lookPut, cluLook, lastC, Value.string.injEq]
    by_cases e : s = (H.clusters.getD k default).name
    · simp [e, -List.getD_eq_getElem?_getD]; rfl
    · rw [if_neg e, if_neg (fun x => e x.symm)]
  · have e : k = H.clusters.length := by omega
    subst e
    exact PSub.rfl

/-- device.numbers -/
def numB (d : Dev) : Bool := !(decide (d.id < 1) || decide (250 < d.id) || decide (d.vendor < 0) || decide (255 < d.vendor)) && (if d.sleepy then decide (4 ≤ d.poll) && decide (d.poll ≤ 3600) else decide (d.poll = 0))

theorem ac_device_numbers (d : Dev) : AC Try.prog 64 [.pv (.agg (cDev d))] [] (.pv (vbool (numB d))) [] := by
  refine AC.of_awp (T := T) T_ok hm Try.call64 Try.func64 rfl rfl rfl ?_
  conv => whnf
  repeat (any_goals (first
    | (refine ⟨fun (h : (_ : Bool) = true) => ?_, fun (h : (_ : Bool) = false) => ?_⟩ <;> (try simp only [decide_eq_true_eq, decide_eq_false_iff_not, Bool.not_eq_true', Bool.not_eq_false', Int.toNat_natCast, beq_iff_eq, decide_eq_decide, beq_eq_false_iff_ne, ne_eq, reduceCtorEq] at h) <;> (conv => whnf))
    | (refine And.intro (by (try simp only [Int.toNat_natCast]); omega) ?_; conv => whnf)
    | (refine And.intro (show (_ : Bool) = true from by kernel_rfl) ?_; conv => whnf)
    | (refine .inl ⟨wrap64 (by omega), ?_⟩; conv => whnf)))
  all_goals first | (refine PSub.sb ?_; rw [numB, Bool.eq_iff_iff]; simp_all; done) | (refine PSub.lit_sb ?_; rw [numB, Bool.eq_iff_iff]; simp_all; omega) | (refine PSub.lit_sb ?_; rw [numB, Bool.eq_iff_iff]; simp_all; done) | skip

def firstC (l : List Clu) (s : ByteArray) : Option Clu := l.find? fun c => decide (c.name = s)

def capStep (f : ByteArray → Option Clu) (d : Dev) (i : Nat) (n : Int) : Int ⊕ Int :=
  match f (d.clusters.getD i default) with
  | none => .inl 8
  | some c => if idxOf d.clusters (d.clusters.getD i default) < i then .inl 9 else .inr (n + c.attrs.length)

/-- device.capabilities -/
def capE (f : ByteArray → Option Clu) (d : Dev) : Int :=
  if d.clusters.length < 1 ∨ 4 < d.clusters.length then 3 else match forI (capStep f d) d.clusters.length 0 0 with
  | .inl e => e
  | .inr n => if 24 < n then 3 else 0

theorem ac_device_capabilities (d : Dev) (f : ByteArray → Option Clu) (hf : ∀ s c, f s = some c → smallK c) : AC Try.prog 65 [.pv (.agg (cDev d)), .pv (.map (.one .str) (cluLook f))] [] (.pv (vint (capE f d))) [] := by
  refine AC.of_awp (T := T) T_ok hm Try.call65 Try.func65 rfl rfl rfl ?_
  conv => whnf
  refine ⟨fun h => ?_, fun h => ?_⟩
  · conv => whnf
    simp only [decide_eq_true_eq] at h
    exact PSub.int (by rw [capE, if_pos (by omega)])
  conv => whnf
  refine ⟨fun h => ?_, fun h => ?_⟩ <;> (try simp only [decide_eq_true_eq, decide_eq_false_iff_not, Bool.not_eq_true', Bool.not_eq_false', Int.toNat_natCast, beq_iff_eq, decide_eq_decide, beq_eq_false_iff_ne, ne_eq, reduceCtorEq] at h) <;> (conv => whnf)
  · exact PSub.int (by rw [capE, if_pos (by omega)])
  rename_i h0
  simp only [decide_eq_false_iff_not] at h0
  rw [capE, if_neg (by omega)]
  refine loop_k (ι := Nat × Int) [1, 2, 21, 22] [2] (fun i => i.1 ≤ d.clusters.length ∧ (0 ≤ i.2 ∧ i.2 ≤ i.1 * 1048576) ∧ forI (capStep f d) (d.clusters.length - i.1) i.1 i.2 = forI (capStep f d) d.clusters.length 0 0) (fun i => d.clusters.length - i.1) (0, 0) (fun i => [(5, .pv (vint i.2)), (23, .pv (vint i.1))]) (fun _ => []) [] ⟨Nat.zero_le _, by simp, rfl⟩ ?_ (fun i hk => ?_)
  · (repeat' (first | exact PSub.rfl | exact rfl | exact PSubs.rfl | exact trivial | refine And.intro ?_ ?_))
  obtain ⟨k, n⟩ := i
  obtain ⟨hkn, hn, hfor⟩ := hk
  simp only at hkn hn hfor
  conv => whnf
  refine ⟨fun h => ?_, fun h => ?_⟩ <;> (try simp only [decide_eq_true_eq, decide_eq_false_iff_not, Bool.not_eq_true', Bool.not_eq_false', Int.toNat_natCast, beq_iff_eq, decide_eq_decide, beq_eq_false_iff_ne, ne_eq, reduceCtorEq] at h) <;> (conv => whnf)
  · refine And.intro (by omega) ?_
    conv => whnf
    refine ⟨fun p hp => ?_, fun hp => ?_⟩
    · simp only [cluLook, Int.toNat_natCast] at hp
      cases hf0 : f (d.clusters.getD k default) with
      | none => rw [hf0] at hp; cases hp
      | some c =>
        rw [hf0] at hp
        cases hp
        have hcl : c.attrs.length ≤ 1048576 := (hf _ _ hf0).1
        conv => whnf
        repeat (any_goals (first
          | (refine ⟨fun (h : (_ : Bool) = true) => ?_, fun (h : (_ : Bool) = false) => ?_⟩ <;> (try simp only [decide_eq_true_eq, decide_eq_false_iff_not, Bool.not_eq_true', Bool.not_eq_false', Int.toNat_natCast, beq_iff_eq, decide_eq_decide, beq_eq_false_iff_ne, ne_eq, reduceCtorEq] at h) <;> (conv => whnf))
          | (refine .inl ⟨_, ac_names_Index d.clusters (d.clusters.getD k default) (by omega), ?_⟩; conv => whnf)
          | (refine And.intro (by (try simp only [Int.toNat_natCast]); omega) ?_; conv => whnf)
          | (refine And.intro (show (_ : Bool) = true from by kernel_rfl) ?_; conv => whnf)
          | (refine .inl ⟨wrap64 (by omega), ?_⟩; conv => whnf)))
        · rw [forI_stop hfor (by omega) (r := 9) (by rw [capStep, hf0]; simp only; rw [if_pos h])]
          exact PSub.rfl
        · refine ⟨(k + 1, n + c.attrs.length), [], ⟨by dsimp only; omega, ⟨by dsimp only; omega, by dsimp only; omega⟩, forI_next hfor (by omega) (by rw [capStep, hf0]; simp only; rw [if_neg h])⟩, by dsimp only; omega, ?_⟩
          (repeat' (first | exact PSub.rfl | exact rfl | exact PSubs.rfl | exact trivial | refine And.intro ?_ ?_))
    · simp only [cluLook, Int.toNat_natCast] at hp
      have hf0 : f (d.clusters.getD k default) = none := by simpa using hp
      conv => whnf
      repeat (any_goals (first
        | (refine ⟨fun (h : (_ : Bool) = true) => ?_, fun (h : (_ : Bool) = false) => ?_⟩ <;> (try simp only [decide_eq_true_eq, decide_eq_false_iff_not, Bool.not_eq_true', Bool.not_eq_false', Int.toNat_natCast, beq_iff_eq, decide_eq_decide, beq_eq_false_iff_ne, ne_eq, reduceCtorEq] at h) <;> (conv => whnf))
        | (refine And.intro (by (try simp only [Int.toNat_natCast]); omega) ?_; conv => whnf)
        | (refine And.intro (show (_ : Bool) = true from by kernel_rfl) ?_; conv => whnf)
        | (refine .inl ⟨wrap64 (by omega), ?_⟩; conv => whnf)))
      rw [forI_stop hfor (by omega) (r := 8) (by rw [capStep, hf0])]
      exact PSub.rfl
  · rw [forI_end hfor (by omega)]
    repeat (any_goals (first
      | (refine ⟨fun (h : (_ : Bool) = true) => ?_, fun (h : (_ : Bool) = false) => ?_⟩ <;> (try simp only [decide_eq_true_eq, decide_eq_false_iff_not, Bool.not_eq_true', Bool.not_eq_false', Int.toNat_natCast, beq_iff_eq, decide_eq_decide, beq_eq_false_iff_ne, ne_eq, reduceCtorEq] at h) <;> (conv => whnf))
      | (refine And.intro (by (try simp only [Int.toNat_natCast]); omega) ?_; conv => whnf)
      | (refine And.intro (show (_ : Bool) = true from by kernel_rfl) ?_; conv => whnf)
      | (refine .inl ⟨wrap64 (by omega), ?_⟩; conv => whnf)))
    · exact PSub.int (by simp only; rw [if_pos h])
    · exact PSub.int (by simp only; rw [if_neg h])

/-- device.Check: the i-th device -/
def devE (f : ByteArray → Option Clu) (l : List Dev) (i : Nat) : Int :=
  if numB (l.getD i default) = false then 2 else if 0 < i ∧ (l.getD i default).id ≤ (l.getD (i - 1) default).id then 14
  else if anyN i (fun j => decide ((l.getD j default).eui = (l.getD i default).eui)) = true then 9 else if validName (l.getD i default).room = false then 10
  else capE f (l.getD i default)

/-- device.Check -/
def homE (H : Hom) : Int := if allE H.clusters ≠ 0 then allE H.clusters else if 20 < H.devices.length then 3 else firstE H.devices.length (devE (firstC H.clusters) H.devices)

theorem cluE_distinct {l : List Clu} {k : Nat} (h : ∀ i, i < k → cluE l i = 0) {i j : Nat} (hi : i < j) (hj : j < k) : (l.getD i default).name ≠ (l.getD j default).name := by
  intro e
  have := h j hj
  unfold cluE at this
  split at this
  · contradiction
  · rw [if_pos (anyN_true hi (by simpa [-List.getD_eq_getElem?_getD] using e))] at this
    cases this

theorem firstE_zero {n : Nat} {f : Nat → Int} (h : firstE n f = 0) : ∀ i, i < n → f i = 0 := by
  intro i hi
  unfold firstE at h
  split at h
  · rename_i j e
    rw [List.find?_range_eq_some] at e
    exact absurd h (by simpa using e.1)
  · rename_i e
    rw [List.find?_eq_none] at e
    simpa using e i (by simpa using hi)

theorem lastC_first {l : List Clu} (h : ∀ i, i < l.length → cluE l i = 0) (s : ByteArray) : lastC l l.length s = firstC l s := by
  have hnone : ∀ k, k ≤ l.length → (∀ i, i < k → (l.getD i default).name ≠ s) → lastC l k s = none := by
    intro k
    induction k with
    | zero => intro _ _; rfl
    | succ k ih => intro hk hn; rw [lastC, if_neg (hn k (by omega)), ih (by omega) fun i hi => hn i (by omega)]
  have hsome : ∀ k, k ≤ l.length → ∀ i, i < k → (l.getD i default).name = s → lastC l k s = some (l.getD i default) := by
    intro k
    induction k with
    | zero => intro _ i hi; omega
    | succ k ih =>
      intro hk i hi e
      rw [lastC]
      by_cases e2 : i = k
      · subst e2; rw [if_pos e]
      · rw [if_neg fun e3 => cluE_distinct (k := l.length) h (i := i) (j := k) (by omega) (by omega) (e.trans e3.symm)]
        exact ih (by omega) i (by omega) e
  unfold firstC
  cases hf : l.find? fun c => decide (c.name = s) with
  | none =>
    rw [List.find?_eq_none] at hf
    refine hnone _ (Nat.le_refl _) fun i hi => ?_
    have := hf l[i] (List.getElem_mem hi)
    simpa [List.getD, hi] using this
  | some c =>
    obtain ⟨h1, xs, ys, h2, h3⟩ := List.find?_eq_some_iff_append.1 hf
    have hi : xs.length < l.length := by rw [h2]; simp
    have e : l.getD xs.length default = c := by simp [h2]
    rw [← e]
    exact hsome _ (Nat.le_refl _) _ hi (by rw [e]; simpa using h1)

theorem firstC_small {l : List Clu} (hl : smallKs l) {s : ByteArray} {c : Clu} (h : firstC l s = some c) : smallK c := by
  have := List.mem_of_find?_eq_some h
  obtain ⟨i, hi, rfl⟩ := List.getElem_of_mem this
  have := hl.2 i
  simpa [List.getD, hi] using this

def smallD (d : Dev) : Prop := smallL d.clusters ∧ -9223372036854775808 ≤ d.id ∧ d.id ≤ 9223372036854775807
def smallH (H : Hom) : Prop := smallKs H.clusters ∧ smallL H.devices ∧ ∀ i, smallD (H.devices.getD i default)

def euiLook (l : List Dev) (k : Nat) : Value → Option PV
  | .int .u64 n => if anyN k (fun j => decide ((l.getD j default).eui = n)) = true then some (.val (.bool true)) else none
  | _ => none

theorem anyN_succ {n : Nat} {p : Nat → Bool} : anyN (n + 1) p = (anyN n p || p n) := by simp [anyN, List.range_succ]

theorem euiLook_put (l : List Dev) (k : Nat) (s : Int) : lookPut (euiLook l k) (.int .u64 (l.getD k default).eui) (.val (.bool true)) (.int .u64 s) = euiLook l (k + 1) (.int .u64 s) := by
  simp only [lookPut, euiLook, anyN_succ, Value.int.injEq, true_and]
  by_cases e : s = (l.getD k default).eui
  · rw [if_pos e, if_pos (by simp [e, -List.getD_eq_getElem?_getD])]
  · rw [if_neg e]
    have e2 : decide ((l.getD k default).eui = s) = false := by simpa [-List.getD_eq_getElem?_getD] using fun x => e x.symm
    rw [e2, Bool.or_false]

theorem ac_device_Check (H : Hom) (hH : smallH H) : AC Try.prog 38 [.pv (.agg (cHom H))] [] (.pv (vint (homE H))) [] := by
  have hl : H.devices.length ≤ 1048576 := hH.2.1
  refine AC.of_awp (T := T) T_ok hm Try.call38 Try.func38 rfl rfl rfl ?_
  conv => whnf
  refine .inl ⟨_, ac_cluster_All H.clusters hH.1, ?_⟩
  conv => whnf
  refine ⟨fun h => ?_, fun h => ?_⟩ <;> (try simp only [decide_eq_true_eq, decide_eq_false_iff_not, Bool.not_eq_true', Bool.not_eq_false', Int.toNat_natCast, beq_iff_eq, decide_eq_decide, beq_eq_false_iff_ne, ne_eq, reduceCtorEq] at h) <;> (conv => whnf)
  · exact PSub.int (by rw [homE, if_pos h])
  rw [homE, if_neg (by simpa using h)]
  have ha := h
  refine ⟨fun h => ?_, fun h => ?_⟩ <;> (try simp only [decide_eq_true_eq, decide_eq_false_iff_not, Bool.not_eq_true', Bool.not_eq_false', Int.toNat_natCast, beq_iff_eq, decide_eq_decide, beq_eq_false_iff_ne, ne_eq, reduceCtorEq] at h) <;> (conv => whnf)
  · exact PSub.int (by rw [if_pos (by omega)])
  rw [if_neg (by omega)]
  refine .inl ⟨_, ac_device_clusters H hH.1.1, ?_⟩
  conv => whnf
  clear h
  have hu : ∀ i, i < H.clusters.length → cluE H.clusters i = 0 := firstE_zero (by
    unfold allE at ha
    split at ha
    · cases ha
    · exact ha)
  have hm : PSub (.map (.one .str) (cluLook (lastC H.clusters H.clusters.length))) (.map (.one .str) (cluLook (firstC H.clusters))) := PSub.map (by
    rintro _ ⟨s, rfl⟩
    simp only [cluLook, lastC_first hu])
  refine loop_k (ι := Nat) [1, 4, 5, 23, 24] [1] (fun k => k ≤ H.devices.length ∧ (∀ j, j < k → devE (firstC H.clusters) H.devices j = 0)) (fun k => H.devices.length - k) 0 (fun k => [(25, .pv (vint k))]) (fun k => [(21, .map (.one (.int .u64)) (euiLook H.devices k))]) [] ⟨Nat.zero_le _, fun j h => absurd h (by omega)⟩ ?_ (fun k hk => ?_)
  · (repeat' (first | exact PSub.rfl | exact rfl | exact PSubs.rfl | exact trivial | refine And.intro ?_ ?_)); all_goals (rintro _ ⟨s, rfl⟩; rfl)
  obtain ⟨hkn, hinv⟩ := hk
  conv => whnf
  repeat (any_goals (first
    | (refine ⟨fun (h : (_ : Bool) = true) => ?_, fun (h : (_ : Bool) = false) => ?_⟩ <;> (try simp only [decide_eq_true_eq, decide_eq_false_iff_not, Bool.not_eq_true', Bool.not_eq_false', Int.toNat_natCast, beq_iff_eq, decide_eq_decide, beq_eq_false_iff_ne, ne_eq, reduceCtorEq] at h) <;> (conv => whnf))
    | (refine .inl ⟨_, ac_device_numbers (H.devices.getD k default), ?_⟩; conv => whnf)
    | (refine And.intro (by (try simp only [Int.toNat_natCast]); omega) ?_; conv => whnf)
    | (refine And.intro (show (_ : Bool) = true from by kernel_rfl) ?_; conv => whnf)
    | (refine .inl ⟨wrap64 (by omega), ?_⟩; conv => whnf)))
  · have e : devE (firstC H.clusters) H.devices k = 2 := by simp [devE, h, -List.getD_eq_getElem?_getD]
    exact PSub.int (by rw [firstE_at (k := k) (by omega) (by rw [e]; decide) hinv, e])
  · rename_i h0 h1
    rw [show (↑k - 1 : Int).toNat = k - 1 from by omega] at h
    have e : devE (firstC H.clusters) H.devices k = 14 := by simp [devE, h0, h, -List.getD_eq_getElem?_getD]; omega
    exact PSub.int (by rw [firstE_at (k := k) (by omega) (by rw [e]; decide) hinv, e])
  · rw [show (↑k - 1 : Int).toNat = k - 1 from by omega] at h
    refine ⟨fun p => ?_, fun h => ?_⟩
    · intro hp
      rename_i h0 h1
      have hnum : numB (H.devices.getD k default) = true := by assumption
      rw [Int.toNat_natCast] at hp
      simp only [euiLook] at hp
      split at hp
      · rename_i hany
        cases hp
        conv => whnf
        have e : devE (firstC H.clusters) H.devices k = 9 := by simp [devE, hnum, h0, h1, hany, -List.getD_eq_getElem?_getD]; try omega
        exact PSub.int (by rw [firstE_at (k := k) (by omega) (by rw [e]; decide) hinv, e])
      · cases hp
    · rw [Int.toNat_natCast] at h
      conv => whnf
      have hany : anyN k (fun j => decide ((H.devices.getD j default).eui = (H.devices.getD k default).eui)) = false := by
        simp only [euiLook] at h
        split at h
        · cases h
        · rename_i hx; simpa using hx
      rename_i h0 h1
      have hnum : numB (H.devices.getD k default) = true := by assumption
      repeat (any_goals (first
        | (refine ⟨fun (h : (_ : Bool) = true) => ?_, fun (h : (_ : Bool) = false) => ?_⟩ <;> (try simp only [decide_eq_true_eq, decide_eq_false_iff_not, Bool.not_eq_true', Bool.not_eq_false', Int.toNat_natCast, beq_iff_eq, decide_eq_decide, beq_eq_false_iff_ne, ne_eq, reduceCtorEq] at h) <;> (conv => whnf))
        | (refine .inl ⟨_, ac_names_Valid (H.devices.getD k default).room, ?_⟩; conv => whnf)
        | (refine .inl ⟨_, AC.sub2 (ac_device_capabilities (H.devices.getD k default) (firstC H.clusters) (fun _ _ => firstC_small hH.1)) .rfl hm, ?_⟩; conv => whnf)
        | (refine And.intro (by (try simp only [Int.toNat_natCast]); omega) ?_; conv => whnf)
        | (refine And.intro (show (_ : Bool) = true from by kernel_rfl) ?_; conv => whnf)
        | (refine .inl ⟨wrap64 (by omega), ?_⟩; conv => whnf)))
      · have e : devE (firstC H.clusters) H.devices k = 10 := by simp [devE, hnum, h0, h1, hany, h, -List.getD_eq_getElem?_getD]; try omega
        exact PSub.int (by rw [firstE_at (k := k) (by omega) (by rw [e]; decide) hinv, e])
      · rename_i h2
        have e : devE (firstC H.clusters) H.devices k = capE (firstC H.clusters) (H.devices.getD k default) := by simp [devE, hnum, h0, h1, hany, h2, -List.getD_eq_getElem?_getD]; try omega
        exact PSub.int (by rw [firstE_at (k := k) (by omega) (by rw [e]; exact h) hinv, e])
      · rename_i h2
        have e : devE (firstC H.clusters) H.devices k = 0 := by simp [devE, hnum, h0, h1, hany, h2, h, -List.getD_eq_getElem?_getD]; try omega
        refine ⟨k + 1, [], ⟨by omega, ?_⟩, by omega, ?_⟩
        · intro j hj
          by_cases ee : j = k
          · subst ee; exact e
          · exact hinv j (by omega)
        · (repeat' (first | exact PSub.rfl | exact rfl | exact PSubs.rfl | exact trivial | refine And.intro ?_ ?_))
          rintro _ ⟨s, rfl⟩
          exact euiLook_put H.devices k s
  · refine ⟨fun p => ?_, fun h => ?_⟩
    · intro hp
      rename_i h0 h1
      have hnum : numB (H.devices.getD k default) = true := by assumption
      rw [Int.toNat_natCast] at hp
      simp only [euiLook] at hp
      split at hp
      · rename_i hany
        cases hp
        conv => whnf
        have e : devE (firstC H.clusters) H.devices k = 9 := by simp [devE, hnum, h0, h1, hany, -List.getD_eq_getElem?_getD]; try omega
        exact PSub.int (by rw [firstE_at (k := k) (by omega) (by rw [e]; decide) hinv, e])
      · cases hp
    · rw [Int.toNat_natCast] at h
      conv => whnf
      have hany : anyN k (fun j => decide ((H.devices.getD j default).eui = (H.devices.getD k default).eui)) = false := by
        simp only [euiLook] at h
        split at h
        · cases h
        · rename_i hx; simpa using hx
      rename_i h0 h1
      have hnum : numB (H.devices.getD k default) = true := by assumption
      repeat (any_goals (first
        | (refine ⟨fun (h : (_ : Bool) = true) => ?_, fun (h : (_ : Bool) = false) => ?_⟩ <;> (try simp only [decide_eq_true_eq, decide_eq_false_iff_not, Bool.not_eq_true', Bool.not_eq_false', Int.toNat_natCast, beq_iff_eq, decide_eq_decide, beq_eq_false_iff_ne, ne_eq, reduceCtorEq] at h) <;> (conv => whnf))
        | (refine .inl ⟨_, ac_names_Valid (H.devices.getD k default).room, ?_⟩; conv => whnf)
        | (refine .inl ⟨_, AC.sub2 (ac_device_capabilities (H.devices.getD k default) (firstC H.clusters) (fun _ _ => firstC_small hH.1)) .rfl hm, ?_⟩; conv => whnf)
        | (refine And.intro (by (try simp only [Int.toNat_natCast]); omega) ?_; conv => whnf)
        | (refine And.intro (show (_ : Bool) = true from by kernel_rfl) ?_; conv => whnf)
        | (refine .inl ⟨wrap64 (by omega), ?_⟩; conv => whnf)))
      · have e : devE (firstC H.clusters) H.devices k = 10 := by simp [devE, hnum, h0, h1, hany, h, -List.getD_eq_getElem?_getD]; try omega
        exact PSub.int (by rw [firstE_at (k := k) (by omega) (by rw [e]; decide) hinv, e])
      · rename_i h2
        have e : devE (firstC H.clusters) H.devices k = capE (firstC H.clusters) (H.devices.getD k default) := by simp [devE, hnum, h0, h1, hany, h2, -List.getD_eq_getElem?_getD]; try omega
        exact PSub.int (by rw [firstE_at (k := k) (by omega) (by rw [e]; exact h) hinv, e])
      · rename_i h2
        have e : devE (firstC H.clusters) H.devices k = 0 := by simp [devE, hnum, h0, h1, hany, h2, h, -List.getD_eq_getElem?_getD]; try omega
        refine ⟨k + 1, [], ⟨by omega, ?_⟩, by omega, ?_⟩
        · intro j hj
          by_cases ee : j = k
          · subst ee; exact e
          · exact hinv j (by omega)
        · (repeat' (first | exact PSub.rfl | exact rfl | exact PSubs.rfl | exact trivial | refine And.intro ?_ ?_))
          rintro _ ⟨s, rfl⟩
          exact euiLook_put H.devices k s
  · exact PSub.int (by rw [firstE_none fun j hj => hinv j (by omega)])

end Go.Abs

namespace Go.Abs
open Go.Proofs
set_option maxRecDepth 10000

def cluAt (l : List Clu) (s : ByteArray) : Nat := firstI l.length fun i => decide ((l.getD i default).name = s)
theorem firstC_eq (l : List Clu) (s : ByteArray) : firstC l s = if cluAt l s < l.length then some (l.getD (cluAt l s) default) else none := by
  unfold firstC cluAt
  cases hf : l.find? fun c => decide (c.name = s) with
  | none =>
    rw [List.find?_eq_none] at hf
    rw [firstI_none fun i hi => ?_, if_neg (Nat.lt_irrefl _)]
    have := hf l[i] (List.getElem_mem hi)
    simpa [List.getD, hi] using this
  | some c =>
    obtain ⟨h1, xs, ys, h2, h3⟩ := List.find?_eq_some_iff_append.1 hf
    have hi : xs.length < l.length := by rw [h2]; simp
    have e : l.getD xs.length default = c := by simp [h2]
    have ef : firstI l.length (fun i => decide ((l.getD i default).name = s)) = xs.length := by
      refine firstI_at hi (by rw [e]; exact h1) fun j hj => ?_
      have := h3 xs[j] (List.getElem_mem hj)
      simpa [h2, List.getElem?_append_left hj, hj] using this
    rw [ef, if_pos hi, e]

def cluIx (l : List Clu) (s : ByteArray) : Int := if cluAt l s < l.length then (cluAt l s : Int) else -1

theorem ac_r22_cluster (H : Hom) (s : ByteArray) (hH : smallH H) : AC Try.prog 97 [.pv (.agg (cHom H)), .pv (vstr s)] [] (.pv (vint (cluIx H.clusters s))) [] := by
  have hl : H.clusters.length ≤ 1048576 := hH.1.1
  refine AC.of_awp (T := T) T_ok hm Try.call97 Try.func97 rfl rfl rfl ?_
  conv => whnf
  refine loop_k (ι := Nat) [1, 2] [2] (fun k => k ≤ H.clusters.length ∧ (∀ j, j < k → decide ((H.clusters.getD j default).name = s) = false)) (fun k => H.clusters.length - k) 0 (fun k => [(5, .pv (vint k))]) (fun _ => []) [] ⟨Nat.zero_le _, fun j h => absurd h (by omega)⟩ ?_ (fun k hk => ?_)
  · (repeat' (first | exact PSub.rfl | exact rfl | exact PSubs.rfl | exact trivial | refine And.intro ?_ ?_))
  obtain ⟨hkn, hinv⟩ := hk
  conv => whnf
  repeat (any_goals (first
    | (refine ⟨fun (h : (_ : Bool) = true) => ?_, fun (h : (_ : Bool) = false) => ?_⟩ <;> (try simp only [decide_eq_true_eq, decide_eq_false_iff_not, Bool.not_eq_true', Bool.not_eq_false', Int.toNat_natCast, beq_iff_eq, decide_eq_decide, beq_eq_false_iff_ne, ne_eq, reduceCtorEq] at h) <;> (conv => whnf))
    | (refine And.intro (by (try simp only [Int.toNat_natCast]); omega) ?_; conv => whnf)
    | (refine And.intro (show (_ : Bool) = true from by kernel_rfl) ?_; conv => whnf)
    | (refine .inl ⟨wrap64 (by omega), ?_⟩; conv => whnf)))
  · have e : cluAt H.clusters s = k := firstI_at (by omega) (by simpa [-List.getD_eq_getElem?_getD] using h) hinv
    exact PSub.int (by rw [cluIx, e, if_pos (by omega)])
  · refine ⟨k + 1, [], ⟨by omega, ?_⟩, by first | omega | (dsimp only; omega), ?_⟩
    rotate_left
    · (repeat' (first | exact PSub.rfl | exact rfl | exact PSubs.rfl | exact trivial | refine And.intro ?_ ?_))
    intro j hj
    by_cases e : j = k
    · subst e; first | exact h | simpa [-List.getD_eq_getElem?_getD] using h | simp_all [-List.getD_eq_getElem?_getD]
    · exact hinv j (by omega)
  · have e : cluAt H.clusters s = H.clusters.length := firstI_none fun j hj => hinv j (by omega)
    exact PSub.int (by rw [cluIx, e, if_neg (by omega)])

def devAt (l : List Dev) (id : Int) : Nat := firstI l.length fun i => decide ((l.getD i default).id = id)
def devIx (l : List Dev) (id : Int) : Int := if devAt l id < l.length then (devAt l id : Int) else -1

theorem ac_r22_At (H : Hom) (id : Int) (hH : smallH H) : AC Try.prog 95 [.pv (.agg (cHom H)), .pv (vint id)] [] (.pv (vint (devIx H.devices id))) [] := by
  have hl : H.devices.length ≤ 1048576 := hH.2.1
  refine AC.of_awp (T := T) T_ok hm Try.call95 Try.func95 rfl rfl rfl ?_
  conv => whnf
  refine loop_k (ι := Nat) [1, 2] [2] (fun k => k ≤ H.devices.length ∧ (∀ j, j < k → decide ((H.devices.getD j default).id = id) = false)) (fun k => H.devices.length - k) 0 (fun k => [(5, .pv (vint k))]) (fun _ => []) [] ⟨Nat.zero_le _, fun j h => absurd h (by omega)⟩ ?_ (fun k hk => ?_)
  · (repeat' (first | exact PSub.rfl | exact rfl | exact PSubs.rfl | exact trivial | refine And.intro ?_ ?_))
  obtain ⟨hkn, hinv⟩ := hk
  conv => whnf
  repeat (any_goals (first
    | (refine ⟨fun (h : (_ : Bool) = true) => ?_, fun (h : (_ : Bool) = false) => ?_⟩ <;> (try simp only [decide_eq_true_eq, decide_eq_false_iff_not, Bool.not_eq_true', Bool.not_eq_false', Int.toNat_natCast, beq_iff_eq, decide_eq_decide, beq_eq_false_iff_ne, ne_eq, reduceCtorEq] at h) <;> (conv => whnf))
    | (refine And.intro (by (try simp only [Int.toNat_natCast]); omega) ?_; conv => whnf)
    | (refine And.intro (show (_ : Bool) = true from by kernel_rfl) ?_; conv => whnf)
    | (refine .inl ⟨wrap64 (by omega), ?_⟩; conv => whnf)))
  · have e : devAt H.devices id = k := firstI_at (by omega) (by simpa [-List.getD_eq_getElem?_getD] using h) hinv
    exact PSub.int (by rw [devIx, e, if_pos (by omega)])
  · refine ⟨k + 1, [], ⟨by omega, ?_⟩, by first | omega | (dsimp only; omega), ?_⟩
    rotate_left
    · (repeat' (first | exact PSub.rfl | exact rfl | exact PSubs.rfl | exact trivial | refine And.intro ?_ ?_))
    intro j hj
    by_cases e : j = k
    · subst e; first | exact h | simpa [-List.getD_eq_getElem?_getD] using h | simp_all [-List.getD_eq_getElem?_getD]
    · exact hinv j (by omega)
  · have e : devAt H.devices id = H.devices.length := firstI_none fun j hj => hinv j (by omega)
    exact PSub.int (by rw [devIx, e, if_neg (by omega)])

theorem firstC_ix {l : List Clu} {s : ByteArray} : (cluIx l s < 0 ∧ firstC l s = none) ∨ ∃ k : Nat, cluIx l s = k ∧ k < l.length ∧ firstC l s = some (l.getD k default) := by
  rw [firstC_eq]
  unfold cluIx
  split
  · rename_i h; exact .inr ⟨_, rfl, h, rfl⟩
  · exact .inl ⟨by omega, rfl⟩

theorem ac_r22_parts (H : Hom) (d : Dev) (hH : smallH H) : AC Try.prog 94 [.pv (.agg (cHom H)), .pv (.agg (cDev d))] [] (.pv (vint (capE (firstC H.clusters) d))) [] := by
  have hl : H.clusters.length ≤ 1048576 := hH.1.1
  refine AC.of_awp (T := T) T_ok hm Try.call94 Try.func94 rfl rfl rfl ?_
  conv => whnf
  refine ⟨fun h => ?_, fun h => ?_⟩
  · conv => whnf
    simp only [decide_eq_true_eq] at h
    exact PSub.int (by rw [capE, if_pos (by omega)])
  conv => whnf
  refine ⟨fun h => ?_, fun h => ?_⟩ <;> (try simp only [decide_eq_true_eq, decide_eq_false_iff_not, Bool.not_eq_true', Bool.not_eq_false', Int.toNat_natCast, beq_iff_eq, decide_eq_decide, beq_eq_false_iff_ne, ne_eq, reduceCtorEq] at h) <;> (conv => whnf)
  · exact PSub.int (by rw [capE, if_pos (by omega)])
  rename_i h0
  simp only [decide_eq_false_iff_not] at h0
  rw [capE, if_neg (by omega)]
  refine loop_k (ι := Nat × Int) [2, 3] [2, 3] (fun i => i.1 ≤ d.clusters.length ∧ (0 ≤ i.2 ∧ i.2 ≤ i.1 * 1048576) ∧ forI (capStep (firstC H.clusters) d) (d.clusters.length - i.1) i.1 i.2 = forI (capStep (firstC H.clusters) d) d.clusters.length 0 0) (fun i => d.clusters.length - i.1) (0, 0) (fun i => [(5, .pv (vint i.2)), (6, .pv (vint i.1))]) (fun _ => []) [] ⟨Nat.zero_le _, by simp, rfl⟩ ?_ (fun i hk => ?_)
  · (repeat' (first | exact PSub.rfl | exact rfl | exact PSubs.rfl | exact trivial | refine And.intro ?_ ?_))
  obtain ⟨k, n⟩ := i
  obtain ⟨hkn, hn, hfor⟩ := hk
  simp only at hkn hn hfor
  conv => whnf
  refine ⟨fun h => ?_, fun h => ?_⟩ <;> (try simp only [decide_eq_true_eq, decide_eq_false_iff_not, Bool.not_eq_true', Bool.not_eq_false', Int.toNat_natCast, beq_iff_eq, decide_eq_decide, beq_eq_false_iff_ne, ne_eq, reduceCtorEq] at h) <;> (conv => whnf)
  · repeat (any_goals (first
      | (refine ⟨fun (h : (_ : Bool) = true) => ?_, fun (h : (_ : Bool) = false) => ?_⟩ <;> (try simp only [decide_eq_true_eq, decide_eq_false_iff_not, Bool.not_eq_true', Bool.not_eq_false', Int.toNat_natCast, beq_iff_eq, decide_eq_decide, beq_eq_false_iff_ne, ne_eq, reduceCtorEq] at h) <;> (conv => whnf))
      | (refine .inl ⟨_, ac_r22_cluster H (d.clusters.getD k default) hH, ?_⟩; conv => whnf)
      | (refine .inl ⟨_, ac_r04_Index d.clusters (d.clusters.getD k default) (by omega), ?_⟩; conv => whnf)
      | (refine And.intro (by (try simp only [Int.toNat_natCast]); omega) ?_; conv => whnf)
      | (refine And.intro (show (_ : Bool) = true from by kernel_rfl) ?_; conv => whnf)
      | (refine .inl ⟨wrap64 (by omega), ?_⟩; conv => whnf)))
    · have hc : firstC H.clusters (d.clusters.getD k default) = none := by
        rcases firstC_ix (l := H.clusters) (s := d.clusters.getD k default) with ⟨_, e⟩ | ⟨j, e, _, _⟩
        · exact e
        · omega
      rw [forI_stop hfor (by omega) (r := 8) (by rw [capStep, hc])]
      exact PSub.rfl
    · rcases firstC_ix (l := H.clusters) (s := d.clusters.getD k default) with ⟨_, _⟩ | ⟨j, e, hj, hc⟩
      · omega
      rw [forI_stop hfor (by omega) (r := 9) (by rw [capStep, hc]; simp only; rw [if_pos h])]
      exact PSub.rfl
    · rcases firstC_ix (l := H.clusters) (s := d.clusters.getD k default) with ⟨_, _⟩ | ⟨j, e, hj, hc⟩
      · omega
      rw [e]
      have hcl : (H.clusters.getD j default).attrs.length ≤ 1048576 := (hH.1.2 j).1
      refine And.intro (by omega) ?_
      conv => whnf
      refine .inl ⟨wrap64 (by simp only [Int.toNat_natCast]; omega), ?_⟩
      conv => whnf
      repeat (any_goals (first
        | (refine ⟨fun (h : (_ : Bool) = true) => ?_, fun (h : (_ : Bool) = false) => ?_⟩ <;> (try simp only [decide_eq_true_eq, decide_eq_false_iff_not, Bool.not_eq_true', Bool.not_eq_false', Int.toNat_natCast, beq_iff_eq, decide_eq_decide, beq_eq_false_iff_ne, ne_eq, reduceCtorEq] at h) <;> (conv => whnf))
        | (refine And.intro (by (try simp only [Int.toNat_natCast]); omega) ?_; conv => whnf)
        | (refine And.intro (show (_ : Bool) = true from by kernel_rfl) ?_; conv => whnf)
        | (refine .inl ⟨wrap64 (by omega), ?_⟩; conv => whnf)))
      refine ⟨(k + 1, n + (H.clusters.getD j default).attrs.length), [], ⟨by dsimp only; omega, ⟨by dsimp only; omega, by dsimp only; omega⟩, forI_next hfor (by omega) (by rw [capStep, hc]; simp only; rw [if_neg h])⟩, by dsimp only; omega, ?_⟩
      (repeat' (first | exact PSub.rfl | exact rfl | exact PSubs.rfl | exact trivial | refine And.intro ?_ ?_))
  · rw [forI_end hfor (by omega)]
    repeat (any_goals (first
      | (refine ⟨fun (h : (_ : Bool) = true) => ?_, fun (h : (_ : Bool) = false) => ?_⟩ <;> (try simp only [decide_eq_true_eq, decide_eq_false_iff_not, Bool.not_eq_true', Bool.not_eq_false', Int.toNat_natCast, beq_iff_eq, decide_eq_decide, beq_eq_false_iff_ne, ne_eq, reduceCtorEq] at h) <;> (conv => whnf))
      | (refine And.intro (by (try simp only [Int.toNat_natCast]); omega) ?_; conv => whnf)
      | (refine And.intro (show (_ : Bool) = true from by kernel_rfl) ?_; conv => whnf)
      | (refine .inl ⟨wrap64 (by omega), ?_⟩; conv => whnf)))
    · exact PSub.int (by simp only; rw [if_pos h])
    · exact PSub.int (by simp only; rw [if_neg h])

set_option maxHeartbeats 2000000 in
theorem ac_r22_one (H : Hom) (i : Nat) (hH : smallH H) (hi : i < H.devices.length) : AC Try.prog 73 [.pv (.agg (cHom H)), .pv (vint i)] [] (.pv (vint (devE (firstC H.clusters) H.devices i))) [] := by
  have hl : H.devices.length ≤ 1048576 := hH.2.1
  have hpi : (↑i - 1 : Int).toNat = i - 1 := by omega
  refine AC.of_awp (T := T) T_ok hm Try.call73 Try.func73 rfl rfl rfl ?_
  conv => whnf
  repeat (any_goals (first
    | (refine ⟨fun (h : (_ : Bool) = true) => ?_, fun (h : (_ : Bool) = false) => ?_⟩ <;> (try simp only [decide_eq_true_eq, decide_eq_false_iff_not, Bool.not_eq_true', Bool.not_eq_false', Int.toNat_natCast, beq_iff_eq, decide_eq_decide, beq_eq_false_iff_ne, ne_eq, reduceCtorEq] at h) <;> (conv => whnf))
    | (refine And.intro (by (try simp only [Int.toNat_natCast]); omega) ?_; conv => whnf)
    | (refine And.intro (show (_ : Bool) = true from by kernel_rfl) ?_; conv => whnf)
    | (refine .inl ⟨wrap64 (by omega), ?_⟩; conv => whnf)))
  all_goals try rw [hpi] at h
  all_goals try (exfalso; simp_all [-List.getD_eq_getElem?_getD]; done)
  all_goals try (refine PSub.int ?_; simp only [devE, numB]; simp_all [-List.getD_eq_getElem?_getD]; done)
  all_goals try (refine PSub.int ?_; simp only [devE, numB]; simp_all [-List.getD_eq_getElem?_getD]; omega)
  all_goals trace "left"
  all_goals
    have e0 : devE (firstC H.clusters) H.devices i = if anyN i (fun j => decide ((H.devices.getD j default).eui = (H.devices.getD i default).eui)) = true then 9 else if validName (H.devices.getD i default).room = false then 10 else capE (firstC H.clusters) (H.devices.getD i default) := by
      have hn : numB (H.devices.getD i default) = true := by simp only [numB]; simp_all [-List.getD_eq_getElem?_getD]
      simp only [devE]; rw [hn]; simp only [Bool.true_eq_false, if_false]
      rw [if_neg (by omega)]
    rw [e0]
    refine loop_k (ι := Nat) [1, 2, 5] [2, 5] (fun k => k ≤ i ∧ (∀ j, j < k → decide ((H.devices.getD j default).eui = (H.devices.getD i default).eui) = false)) (fun k => i - k) 0 (fun k => [(6, .pv (vint k))]) (fun _ => []) [] ⟨Nat.zero_le _, fun j h => absurd h (by omega)⟩ ?_ (fun k hk => ?_)
    · (repeat' (first | exact PSub.rfl | exact rfl | exact PSubs.rfl | exact trivial | refine And.intro ?_ ?_))
    obtain ⟨hkn, hinv⟩ := hk
    conv => whnf
    clear e0
    repeat (any_goals (first
      | (refine ⟨fun (h : (_ : Bool) = true) => ?_, fun (h : (_ : Bool) = false) => ?_⟩ <;> (try simp only [decide_eq_true_eq, decide_eq_false_iff_not, Bool.not_eq_true', Bool.not_eq_false', Int.toNat_natCast, beq_iff_eq, decide_eq_decide, beq_eq_false_iff_ne, ne_eq, reduceCtorEq] at h) <;> (conv => whnf))
      | (refine .inl ⟨_, ac_r04_Valid (H.devices.getD i default).room, ?_⟩; conv => whnf)
      | (refine .inl ⟨_, ac_r22_parts H (H.devices.getD i default) hH, ?_⟩; conv => whnf)
      | (refine And.intro (by (try simp only [Int.toNat_natCast]); omega) ?_; conv => whnf)
      | (refine And.intro (show (_ : Bool) = true from by kernel_rfl) ?_; conv => whnf)
      | (refine .inl ⟨wrap64 (by omega), ?_⟩; conv => whnf)))
    · have e := anyN_true (n := i) (k := k) (p := fun j => decide ((H.devices.getD j default).eui = (H.devices.getD i default).eui)) (by omega) (by simpa [-List.getD_eq_getElem?_getD] using h)
      exact PSub.int (by rw [if_pos e])
    · refine ⟨k + 1, [], ⟨by omega, ?_⟩, by first | omega | (dsimp only; omega), ?_⟩
      rotate_left
      · (repeat' (first | exact PSub.rfl | exact rfl | exact PSubs.rfl | exact trivial | refine And.intro ?_ ?_))
      intro j hj
      by_cases e : j = k
      · subst e; first | exact h | simpa [-List.getD_eq_getElem?_getD] using h | simp_all [-List.getD_eq_getElem?_getD]
      · exact hinv j (by omega)
    · have e := anyN_false (n := i) (p := fun j => decide ((H.devices.getD j default).eui = (H.devices.getD i default).eui)) (fun j hj => hinv j (by omega))
      exact PSub.int (by rw [e, if_neg (by simp), if_pos h])
    · have e := anyN_false (n := i) (p := fun j => decide ((H.devices.getD j default).eui = (H.devices.getD i default).eui)) (fun j hj => hinv j (by omega))
      exact PSub.int (by rw [e, if_neg (by simp), if_neg (by rw [h]; decide)])

end Go.Abs

namespace Go.Abs
open Go.Proofs
set_option maxRecDepth 10000

theorem ac_r22_Check (H : Hom) (hH : smallH H) : AC Try.prog 42 [.pv (.agg (cHom H))] [] (.pv (vint (homE H))) [] := by
  have hl : H.devices.length ≤ 1048576 := hH.2.1
  refine AC.of_awp (T := T) T_ok hm Try.call42 Try.func42 rfl rfl rfl ?_
  conv => whnf
  refine .inl ⟨_, ac_r21_All H.clusters hH.1, ?_⟩
  conv => whnf
  refine ⟨fun h => ?_, fun h => ?_⟩ <;> (try simp only [decide_eq_true_eq, decide_eq_false_iff_not, Bool.not_eq_true', Bool.not_eq_false', Int.toNat_natCast, beq_iff_eq, decide_eq_decide, beq_eq_false_iff_ne, ne_eq, reduceCtorEq] at h) <;> (conv => whnf)
  · exact PSub.int (by rw [homE, if_pos h])
  rw [homE, if_neg (by simpa using h)]
  refine ⟨fun h => ?_, fun h => ?_⟩ <;> (try simp only [decide_eq_true_eq, decide_eq_false_iff_not, Bool.not_eq_true', Bool.not_eq_false', Int.toNat_natCast, beq_iff_eq, decide_eq_decide, beq_eq_false_iff_ne, ne_eq, reduceCtorEq] at h) <;> (conv => whnf)
  · exact PSub.int (by rw [if_pos (by omega)])
  rw [if_neg (by omega)]
  refine loop_k (ι := Nat) [1] [1] (fun k => k ≤ H.devices.length ∧ (∀ j, j < k → devE (firstC H.clusters) H.devices j = 0)) (fun k => H.devices.length - k) 0 (fun k => [(4, .pv (vint k))]) (fun _ => []) [] ⟨Nat.zero_le _, fun j h => absurd h (by omega)⟩ ?_ (fun k hk => ?_)
  · (repeat' (first | exact PSub.rfl | exact rfl | exact PSubs.rfl | exact trivial | refine And.intro ?_ ?_))
  obtain ⟨hkn, hinv⟩ := hk
  conv => whnf
  refine ⟨fun h => ?_, fun h => ?_⟩ <;> (try simp only [decide_eq_true_eq, decide_eq_false_iff_not, Bool.not_eq_true', Bool.not_eq_false', Int.toNat_natCast, beq_iff_eq, decide_eq_decide, beq_eq_false_iff_ne, ne_eq, reduceCtorEq] at h) <;> (conv => whnf)
  · refine .inl ⟨_, ac_r22_one H k hH (by omega), ?_⟩
    conv => whnf
    repeat (any_goals (first
      | (refine ⟨fun (h : (_ : Bool) = true) => ?_, fun (h : (_ : Bool) = false) => ?_⟩ <;> (try simp only [decide_eq_true_eq, decide_eq_false_iff_not, Bool.not_eq_true', Bool.not_eq_false', Int.toNat_natCast, beq_iff_eq, decide_eq_decide, beq_eq_false_iff_ne, ne_eq, reduceCtorEq] at h) <;> (conv => whnf))
      | (refine And.intro (by (try simp only [Int.toNat_natCast]); omega) ?_; conv => whnf)
      | (refine And.intro (show (_ : Bool) = true from by kernel_rfl) ?_; conv => whnf)
      | (refine .inl ⟨wrap64 (by omega), ?_⟩; conv => whnf)))
    · exact PSub.int (by rw [firstE_at (k := k) (by omega) h hinv])
    · refine ⟨k + 1, [], ⟨by omega, ?_⟩, by first | omega | (dsimp only; omega), ?_⟩
      rotate_left
      · (repeat' (first | exact PSub.rfl | exact rfl | exact PSubs.rfl | exact trivial | refine And.intro ?_ ?_))
      intro j hj
      by_cases e : j = k
      · subst e; first | exact h | simpa [-List.getD_eq_getElem?_getD] using h | simp_all [-List.getD_eq_getElem?_getD]
      · exact hinv j (by omega)
  · exact PSub.int (by rw [firstE_none fun j hj => hinv j (by omega)])

/-- device.Less -/
def keyLess (a b : Key) : Bool := if a.dev ≠ b.dev then decide (a.dev < b.dev) else if a.cluster ≠ b.cluster then Op.bytesLess a.cluster.toList b.cluster.toList else Op.bytesLess a.attr.toList b.attr.toList

theorem ac_device_Less (a b : Key) : AC Try.prog 33 [.pv (.agg (cKey a)), .pv (.agg (cKey b))] [] (.pv (vbool (keyLess a b))) [] := by
  refine AC.of_awp (T := T) T_ok hm Try.call33 Try.func33 rfl rfl rfl ?_
  conv => whnf
  repeat (any_goals (first
    | (refine ⟨fun (h : (_ : Bool) = true) => ?_, fun (h : (_ : Bool) = false) => ?_⟩ <;> (try simp only [decide_eq_true_eq, decide_eq_false_iff_not, Bool.not_eq_true', Bool.not_eq_false', Int.toNat_natCast, beq_iff_eq, decide_eq_decide, beq_eq_false_iff_ne, ne_eq, reduceCtorEq] at h) <;> (conv => whnf))
    | (refine And.intro (by (try simp only [Int.toNat_natCast]); omega) ?_; conv => whnf)
    | (refine And.intro (show (_ : Bool) = true from by kernel_rfl) ?_; conv => whnf)
    | (refine .inl ⟨wrap64 (by omega), ?_⟩; conv => whnf)))
  all_goals (try simp only [decide_eq_true_eq, decide_eq_false_iff_not, Bool.not_eq_true', Bool.not_eq_false', Int.toNat_natCast, beq_iff_eq, decide_eq_decide, beq_eq_false_iff_ne, ne_eq, reduceCtorEq] at *)
  all_goals first
    | contradiction
    | (exfalso; omega)
    | exact PSub.rfl
    | (refine PSub.int ?_; simp only [keyLess]; (repeat' split) <;> first | rfl | omega | (simp_all [-List.getD_eq_getElem?_getD]; done) | (simp_all [-List.getD_eq_getElem?_getD]; omega))
    | (refine PSub.sb ?_; simp_all [keyLess, -List.getD_eq_getElem?_getD]; done)
    | (refine PSub.lit_sb ?_; simp_all [keyLess, -List.getD_eq_getElem?_getD]; done)
    | (refine PSub.sb_lit ?_; simp_all [keyLess, -List.getD_eq_getElem?_getD]; done)
    | (refine PSub.sb ?_; rw [Bool.eq_iff_iff]; simp_all [keyLess, -List.getD_eq_getElem?_getD]; done)
    | (refine PSub.lit_sb ?_; rw [Bool.eq_iff_iff]; simp_all [keyLess, -List.getD_eq_getElem?_getD]; done)
    | (refine PSub.sb_lit ?_; rw [Bool.eq_iff_iff]; simp_all [keyLess, -List.getD_eq_getElem?_getD]; done)
    | skip
theorem ac_r22_Less (a b : Key) : AC Try.prog 46 [.pv (.agg (cKey a)), .pv (.agg (cKey b))] [] (.pv (vbool (keyLess a b))) [] := by
  refine AC.of_awp (T := T) T_ok hm Try.call46 Try.func46 rfl rfl rfl ?_
  conv => whnf
  repeat (any_goals (first
    | (refine ⟨fun (h : (_ : Bool) = true) => ?_, fun (h : (_ : Bool) = false) => ?_⟩ <;> (try simp only [decide_eq_true_eq, decide_eq_false_iff_not, Bool.not_eq_true', Bool.not_eq_false', Int.toNat_natCast, beq_iff_eq, decide_eq_decide, beq_eq_false_iff_ne, ne_eq, reduceCtorEq] at h) <;> (conv => whnf))
    | (refine And.intro (by (try simp only [Int.toNat_natCast]); omega) ?_; conv => whnf)
    | (refine And.intro (show (_ : Bool) = true from by kernel_rfl) ?_; conv => whnf)
    | (refine .inl ⟨wrap64 (by omega), ?_⟩; conv => whnf)))
  all_goals (try simp only [decide_eq_true_eq, decide_eq_false_iff_not, Bool.not_eq_true', Bool.not_eq_false', Int.toNat_natCast, beq_iff_eq, decide_eq_decide, beq_eq_false_iff_ne, ne_eq, reduceCtorEq] at *)
  all_goals first
    | contradiction
    | (exfalso; omega)
    | exact PSub.rfl
    | (refine PSub.int ?_; simp only [keyLess]; (repeat' split) <;> first | rfl | omega | (simp_all [-List.getD_eq_getElem?_getD]; done) | (simp_all [-List.getD_eq_getElem?_getD]; omega))
    | (refine PSub.sb ?_; simp_all [keyLess, -List.getD_eq_getElem?_getD]; done)
    | (refine PSub.lit_sb ?_; simp_all [keyLess, -List.getD_eq_getElem?_getD]; done)
    | (refine PSub.sb_lit ?_; simp_all [keyLess, -List.getD_eq_getElem?_getD]; done)
    | (refine PSub.sb ?_; rw [Bool.eq_iff_iff]; simp_all [keyLess, -List.getD_eq_getElem?_getD]; done)
    | (refine PSub.lit_sb ?_; rw [Bool.eq_iff_iff]; simp_all [keyLess, -List.getD_eq_getElem?_getD]; done)
    | (refine PSub.sb_lit ?_; rw [Bool.eq_iff_iff]; simp_all [keyLess, -List.getD_eq_getElem?_getD]; done)
    | skip

def noDev : Dev := ⟨0, 0, 0, false, 0, ⟨#[]⟩, []⟩
def findB (H : Hom) (id : Int) : Bool := decide (homE H = 0) && decide (devAt H.devices id < H.devices.length)
def findD (H : Hom) (id : Int) : Dev := if findB H id = true then H.devices.getD (devAt H.devices id) default else noDev

theorem noDev_cells : PSub (.agg [vint 0, .val (.int .u64 0), vint 0, .val (.bool false), vint 0, vstr ⟨#[]⟩, .val (.slice none 0 0)]) (.agg (cDev noDev)) := PSub.agg ⟨.rfl, .rfl, .rfl, PSub.lit_sb rfl, .rfl, .rfl, PSub.nil_ro _ _, trivial⟩

theorem ac_device_find (H : Hom) (id : Int) (hH : smallH H) : AC Try.prog 67 [.pv (.agg (cHom H)), .pv (vint id)] [] (.pv (.tup [.agg (cDev (findD H id)), vbool (findB H id)])) [] := by
  have hl : H.devices.length ≤ 1048576 := hH.2.1
  refine AC.of_awp (T := T) T_ok hm Try.call67 Try.func67 rfl rfl rfl ?_
  conv => whnf
  refine .inl ⟨_, ac_device_Check H hH, ?_⟩
  conv => whnf
  refine ⟨fun h => ?_, fun h => ?_⟩ <;> (try simp only [decide_eq_true_eq, decide_eq_false_iff_not, Bool.not_eq_true', Bool.not_eq_false', Int.toNat_natCast, beq_iff_eq, decide_eq_decide, beq_eq_false_iff_ne, ne_eq, reduceCtorEq] at h) <;> (conv => whnf)
  · have e : findB H id = false := by simp [findB, h]
    rw [findD, e]
    refine ⟨?_, ?_⟩ <;> (conv => whnf)
    · exact noDev_cells
    · exact PSub.lit_sb rfl
  have h0 := h
  refine loop_k (ι := Nat) [1, 4, 13, 14] [4] (fun k => k ≤ H.devices.length ∧ (∀ j, j < k → decide ((H.devices.getD j default).id = id) = false)) (fun k => H.devices.length - k) 0 (fun k => [(15, .pv (vint k))]) (fun _ => []) [] ⟨Nat.zero_le _, fun j h => absurd h (by omega)⟩ ?_ (fun k hk => ?_)
  · (repeat' (first | exact PSub.rfl | exact rfl | exact PSubs.rfl | exact trivial | refine And.intro ?_ ?_))
  obtain ⟨hkn, hinv⟩ := hk
  conv => whnf
  repeat (any_goals (first
    | (refine ⟨fun (h : (_ : Bool) = true) => ?_, fun (h : (_ : Bool) = false) => ?_⟩ <;> (try simp only [decide_eq_true_eq, decide_eq_false_iff_not, Bool.not_eq_true', Bool.not_eq_false', Int.toNat_natCast, beq_iff_eq, decide_eq_decide, beq_eq_false_iff_ne, ne_eq, reduceCtorEq] at h) <;> (conv => whnf))
    | (refine And.intro (by (try simp only [Int.toNat_natCast]); omega) ?_; conv => whnf)
    | (refine And.intro (show (_ : Bool) = true from by kernel_rfl) ?_; conv => whnf)
    | (refine .inl ⟨wrap64 (by omega), ?_⟩; conv => whnf)))
  · have e : devAt H.devices id = k := firstI_at (by omega) (by simpa [-List.getD_eq_getElem?_getD] using h) hinv
    have e2 : findB H id = true := by simp [findB, h0, e]; omega
    rw [findD, e2, e, if_pos rfl]
    refine ⟨?_, ?_⟩ <;> (conv => whnf)
    · exact .rfl
    · exact PSub.lit_sb rfl
  · refine ⟨k + 1, [], ⟨by omega, ?_⟩, by first | omega | (dsimp only; omega), ?_⟩
    rotate_left
    · (repeat' (first | exact PSub.rfl | exact rfl | exact PSubs.rfl | exact trivial | refine And.intro ?_ ?_))
    intro j hj
    by_cases e : j = k
    · subst e; first | exact h | simpa [-List.getD_eq_getElem?_getD] using h | simp_all [-List.getD_eq_getElem?_getD]
    · exact hinv j (by omega)
  · have e : devAt H.devices id = H.devices.length := firstI_none fun j hj => hinv j (by omega)
    have e2 : findB H id = false := by simp [findB, e]
    rw [findD, e2]
    refine ⟨?_, ?_⟩ <;> (conv => whnf)
    · exact noDev_cells
    · exact PSub.lit_sb rfl

end Go.Abs

namespace Go.Abs
open Go.Proofs
set_option maxRecDepth 10000

def attrsOf (o : Option Clu) : List Attr := match o with | some c => c.attrs | none => []
def keysOf1 (f : ByteArray → Option Clu) (id : Int) (s : ByteArray) : List Key := (attrsOf (f s)).map fun a => ⟨id, s, a.name⟩
/-- device.Keys -/
def keysL (H : Hom) (id : Int) : List Key := (findD H id).clusters.flatMap (keysOf1 (firstC H.clusters) id)

theorem allE_distinct {l : List Clu} (ha : allE l = 0) : ∀ i, i < l.length → cluE l i = 0 := firstE_zero (by
    unfold allE at ha
    split at ha
    · cases ha
    · exact ha)
theorem homE_all {H : Hom} (h : homE H = 0) : allE H.clusters = 0 := by
  unfold homE at h
  split at h
  · contradiction
  · omega

theorem capE_clusters {f : ByteArray → Option Clu} {d : Dev} (h : capE f d = 0) : 1 ≤ d.clusters.length ∧ d.clusters.length ≤ 4 := by
  unfold capE at h
  split at h
  · cases h
  · omega

theorem homE_dev {H : Hom} (h : homE H = 0) {i : Nat} (hi : i < H.devices.length) : devE (firstC H.clusters) H.devices i = 0 := by
  unfold homE at h
  split at h
  · contradiction
  · split at h
    · cases h
    · exact firstE_zero h i hi

theorem devE_cap {f : ByteArray → Option Clu} {l : List Dev} {i : Nat} (h : devE f l i = 0) : capE f (l.getD i default) = 0 := by
  unfold devE at h
  split at h
  · cases h
  · split at h
    · cases h
    · split at h
      · cases h
      · split at h
        · cases h
        · exact h

theorem findD_cap {H : Hom} {id : Int} (h : findB H id = true) : capE (firstC H.clusters) (findD H id) = 0 := by
  rw [findD, if_pos h]
  simp only [findB, Bool.and_eq_true, decide_eq_true_eq] at h
  exact devE_cap (homE_dev h.1 h.2)

theorem findD_none {H : Hom} {id : Int} (h : findB H id = false) : findD H id = noDev := by rw [findD, h]; rfl

theorem findD_length {H : Hom} {id : Int} : (findD H id).clusters.length ≤ 4 := by
  cases h : findB H id with
  | true => exact (capE_clusters (findD_cap h)).2
  | false => rw [findD_none h]; decide

theorem lookRes_clu {f : ByteArray → Option Clu} (s : ByteArray) : (∃ c, f s = some c ∧ cluLook f (.string s) = some (.agg (cClu c))) ∨ (f s = none ∧ cluLook f (.string s) = none) := by
  simp only [cluLook]
  cases f s with
  | none => exact .inr ⟨rfl, rfl⟩
  | some c => exact .inl ⟨c, rfl, rfl⟩

/-- the keys of the first k clusters -/
def keysTo (f : ByteArray → Option Clu) (id : Int) (l : List ByteArray) (k : Nat) : List Key := (l.take k).flatMap (keysOf1 f id)
theorem keysTo_succ {f : ByteArray → Option Clu} {id : Int} {l : List ByteArray} {k : Nat} (h : k < l.length) : keysTo f id l (k + 1) = keysTo f id l k ++ keysOf1 f id (l.getD k default) := by
  simp only [keysTo, take_succ_getD h, List.flatMap_append, List.flatMap_cons, List.flatMap_nil, List.append_nil]

theorem keysTo_len {f : ByteArray → Option Clu} (hf : ∀ s c, f s = some c → smallK c) {id : Int} {l : List ByteArray} {k : Nat} (h : k ≤ l.length) : (keysTo f id l k).length ≤ k * 1048576 := by
  induction k with
  | zero => simp [keysTo]
  | succ k ih =>
    rw [keysTo_succ h, List.length_append]
    have := ih (by omega)
    have : (keysOf1 f id (l.getD k default)).length ≤ 1048576 := by
      simp only [keysOf1, attrsOf, List.length_map]
      split
      · rename_i c e; exact (hf _ _ e).1
      · exact Nat.zero_le _
    omega

theorem ac_device_Keys (H : Hom) (id : Int) (hH : smallH H) : AC Try.prog 57 [.pv (.agg (cHom H)), .pv (vint id)] [] (.pv (roL 3 cKey (keysL H id))) [] := by
  have hl : H.clusters.length ≤ 1048576 := hH.1.1
  have hd4 := @findD_length H id
  -- the map: of the first clusters if the home is valid, of some small ones else
  obtain ⟨f, hf, hmap, hk⟩ : ∃ f : ByteArray → Option Clu, (∀ s c, f s = some c → smallK c) ∧ PSub (.map (.one .str) (cluLook (lastC H.clusters H.clusters.length))) (.map (.one .str) (cluLook f)) ∧ keysL H id = keysTo f id (findD H id).clusters (findD H id).clusters.length := by
    cases h : findB H id with
    | true =>
      refine ⟨firstC H.clusters, fun _ _ => firstC_small hH.1, PSub.map ?_, by rw [keysL, keysTo, List.take_length]⟩
      rintro _ ⟨s, rfl⟩
      simp only [findB, Bool.and_eq_true, decide_eq_true_eq] at h
      simp only [cluLook, lastC_first (allE_distinct (homE_all h.1))]
    | false =>
      refine ⟨lastC H.clusters H.clusters.length, ?_, .rfl, by rw [keysL, findD_none h]; rfl⟩
      intro s c
      have : ∀ k, lastC H.clusters k s = some c → smallK c := by
        intro k
        induction k with
        | zero => intro e; cases e
        | succ k ih =>
          intro e
          rw [lastC] at e
          split at e
          · cases e; exact hH.1.2 k
          · exact ih e
      exact this _
  rw [hk]
  clear hk
  refine AC.of_awp (T := T) T_ok hm Try.call57 Try.func57 rfl rfl rfl ?_
  conv => whnf
  refine .inl ⟨_, ac_device_find H id hH, ?_⟩
  conv => whnf
  refine .inl ⟨_, (ac_device_clusters H hl).weak hmap, ?_⟩
  conv => whnf
  generalize findD H id = d at *
  refine loop_k (ι := Nat) [1, 7, 22, 23] [] (fun k => k ≤ d.clusters.length ∧ True) (fun k => d.clusters.length - k) 0 (fun k => [(8, .own 500), (24, .pv (vint k))]) (fun k => [(500, rowL 3 cKey (keysTo f id d.clusters k))]) [] ⟨Nat.zero_le _, trivial⟩ ?_ (fun k hk => ?_)
  · (repeat' (first | exact PSub.rfl | exact rfl | exact PSubs.rfl | exact trivial | refine And.intro ?_ ?_))
  obtain ⟨hkn, hinv⟩ := hk
  conv => whnf
  refine ⟨fun h => ?_, fun h => ?_⟩ <;> (try simp only [decide_eq_true_eq, decide_eq_false_iff_not, Bool.not_eq_true', Bool.not_eq_false', Int.toNat_natCast, beq_iff_eq, decide_eq_decide, beq_eq_false_iff_ne, ne_eq, reduceCtorEq] at h) <;> (conv => whnf)
  · repeat (any_goals (first
      | (refine ⟨fun (h : (_ : Bool) = true) => ?_, fun (h : (_ : Bool) = false) => ?_⟩ <;> (try simp only [decide_eq_true_eq, decide_eq_false_iff_not, Bool.not_eq_true', Bool.not_eq_false', Int.toNat_natCast, beq_iff_eq, decide_eq_decide, beq_eq_false_iff_ne, ne_eq, reduceCtorEq] at h) <;> (conv => whnf))
      | (refine And.intro (by (try simp only [Int.toNat_natCast]); omega) ?_; conv => whnf)
      | (refine And.intro (show (_ : Bool) = true from by kernel_rfl) ?_; conv => whnf)
      | (refine .inl ⟨wrap64 (by omega), ?_⟩; conv => whnf)))
    have hkl := keysTo_len hf (id := id) (l := d.clusters) (k := k) (by omega)
    have hn := keysTo_succ (f := f) (id := id) (l := d.clusters) (k := k) (by omega)
    simp only [Int.toNat_natCast]
    rcases lookRes_clu (f := f) (d.clusters.getD k default) with ⟨c, h1, h2⟩ | ⟨h1, h2⟩
    · rw [h2]
      have hcl : c.attrs.length ≤ 1048576 := (hf _ _ h1).1
      have hk1 : keysOf1 f id (d.clusters.getD k default) = c.attrs.map fun a => ⟨id, d.clusters.getD k default, a.name⟩ := by rw [keysOf1, h1]; rfl
      refine ⟨fun p hp => ?_, fun hp => by cases hp⟩
      cases hp
      conv => whnf
      refine loop_k (ι := Nat) [1, 7, 10, 22, 23, 24, 31, 32] [] (fun j => j ≤ c.attrs.length ∧ True) (fun j => c.attrs.length - j) 0 (fun j => [(8, .own 500), (33, .pv (vint j))]) (fun j => [(500, rowL 3 cKey (keysTo f id d.clusters k ++ (c.attrs.take j).map fun a => ⟨id, d.clusters.getD k default, a.name⟩))]) [] ⟨Nat.zero_le _, trivial⟩ ?_ (fun j hk => ?_)
      · (repeat' (first | exact PSub.rfl | exact rfl | exact PSubs.rfl | exact trivial | refine And.intro ?_ ?_)); all_goals (first | (simp; done) | (intro i hi; simp [-List.getD_eq_getElem?_getD]; exact PSubs.rfl))
      obtain ⟨hkn, hinv⟩ := hk
      conv => whnf
      have hj : (keysTo f id d.clusters k ++ (c.attrs.take j).map fun a => (⟨id, d.clusters.getD k default, a.name⟩ : Key)).length ≤ 8388608 := by
        simp only [List.length_append, List.length_map, List.length_take]; omega
      repeat (any_goals (first
        | (refine ⟨fun (h : (_ : Bool) = true) => ?_, fun (h : (_ : Bool) = false) => ?_⟩ <;> (try simp only [decide_eq_true_eq, decide_eq_false_iff_not, Bool.not_eq_true', Bool.not_eq_false', Int.toNat_natCast, beq_iff_eq, decide_eq_decide, beq_eq_false_iff_ne, ne_eq, reduceCtorEq] at h) <;> (conv => whnf))
        | (refine And.intro (by (try simp only [Int.toNat_natCast]); omega) ?_; conv => whnf)
        | (refine And.intro (show (_ : Bool) = true from by kernel_rfl) ?_; conv => whnf)
        | (refine .inl ⟨wrap64 (by omega), ?_⟩; conv => whnf)))
      · have e : (c.attrs.take (j + 1)).map (fun a => (⟨id, d.clusters.getD k default, a.name⟩ : Key)) = (c.attrs.take j).map (fun a => (⟨id, d.clusters.getD k default, a.name⟩ : Key)) ++ [⟨id, d.clusters.getD k default, (c.attrs.getD j default).name⟩] := by
          rw [take_succ_getD (by omega)]; simp only [List.map_append, List.map_cons, List.map_nil]
        refine ⟨j + 1, [(500, 44)], ⟨by omega, trivial⟩, by omega, ?_⟩
        rw [e, ← List.append_assoc]
        (repeat' (first | exact PSub.rfl | exact rfl | exact PSubs.rfl | exact trivial | refine And.intro ?_ ?_))
        · simp; omega
        · refine rows_snocF (fun i hi => by simp only [if_pos hi]; exact PSubs.rfl) (by simp only [if_neg (Nat.lt_irrefl _), Nat.sub_self]; exact PSubs.rfl)
      · refine ⟨k + 1, [], ⟨by omega, trivial⟩, by omega, ?_⟩
        rw [hn, hk1]
        (repeat' (first | exact PSub.rfl | exact rfl | exact PSubs.rfl | exact trivial | refine And.intro ?_ ?_))
        · rw [List.take_of_length_le (by omega)]
        · rw [List.take_of_length_le (by omega)]; intro i hi; exact PSubs.rfl
    · rw [h2]
      refine ⟨fun p hp => (by cases hp), fun hp => ?_⟩
      have hk1 : keysOf1 f id (d.clusters.getD k default) = [] := by rw [keysOf1, h1]; rfl
      conv => whnf
      refine loop_k (ι := Nat) [1, 7, 10, 22, 23, 24, 31, 32] [] (fun j => j ≤ 0 ∧ True) (fun j => 0 - j) 0 (fun j => [(8, .own 500), (33, .pv (vint j))]) (fun j => [(500, rowL 3 cKey (keysTo f id d.clusters k))]) [] ⟨Nat.zero_le _, trivial⟩ ?_ (fun j hk => ?_)
      · (repeat' (first | exact PSub.rfl | exact rfl | exact PSubs.rfl | exact trivial | refine And.intro ?_ ?_)); all_goals (first | (simp; done) | (intro i hi; simp [-List.getD_eq_getElem?_getD]; exact PSubs.rfl))
      obtain ⟨hkn, hinv⟩ := hk
      conv => whnf
      repeat (any_goals (first
        | (refine ⟨fun (h : (_ : Bool) = true) => ?_, fun (h : (_ : Bool) = false) => ?_⟩ <;> (try simp only [decide_eq_true_eq, decide_eq_false_iff_not, Bool.not_eq_true', Bool.not_eq_false', Int.toNat_natCast, beq_iff_eq, decide_eq_decide, beq_eq_false_iff_ne, ne_eq, reduceCtorEq] at h) <;> (conv => whnf))
        | (refine And.intro (by (try simp only [Int.toNat_natCast]); omega) ?_; conv => whnf)
        | (refine And.intro (show (_ : Bool) = true from by kernel_rfl) ?_; conv => whnf)
        | (refine .inl ⟨wrap64 (by omega), ?_⟩; conv => whnf)))
      · exfalso; omega
      refine ⟨k + 1, [], ⟨by omega, trivial⟩, by omega, ?_⟩
      rw [hn, hk1, List.append_nil]
      (repeat' (first | exact PSub.rfl | exact rfl | exact PSubs.rfl | exact trivial | refine And.intro ?_ ?_))
      intro i hi; exact PSubs.rfl
  · have e : k = d.clusters.length := by omega
    subst e
    repeat (any_goals (first
      | (refine ⟨fun (h : (_ : Bool) = true) => ?_, fun (h : (_ : Bool) = false) => ?_⟩ <;> (try simp only [decide_eq_true_eq, decide_eq_false_iff_not, Bool.not_eq_true', Bool.not_eq_false', Int.toNat_natCast, beq_iff_eq, decide_eq_decide, beq_eq_false_iff_ne, ne_eq, reduceCtorEq] at h) <;> (conv => whnf))
      | (refine And.intro (by (try simp only [Int.toNat_natCast]); omega) ?_; conv => whnf)
      | (refine And.intro (show (_ : Bool) = true from by kernel_rfl) ?_; conv => whnf)
      | (refine .inl ⟨wrap64 (by omega), ?_⟩; conv => whnf)))
    exact .rfl

end Go.Abs

namespace Go.Abs
open Go.Proofs
set_option maxRecDepth 10000

theorem forI_steps {ρ σ : Type} {f : Nat → σ → ρ ⊕ σ} : ∀ (n k : Nat) (s s' : σ), forI f n k s = .inr s' → ∀ i, k ≤ i → i < k + n → ∃ t t', f i t = .inr t'
  | 0, k, s, s', _, i, h1, h2 => by omega
  | n + 1, k, s, s', e, i, h1, h2 => by
    simp only [forI] at e
    cases hf : f k s with
    | inl r => rw [hf] at e; cases e
    | inr t =>
      rw [hf] at e
      by_cases hi : i = k
      · subst hi; exact ⟨s, t, hf⟩
      · exact forI_steps n (k + 1) t s' e i (by omega) (by omega)

theorem capE_some {f : ByteArray → Option Clu} {d : Dev} (h : capE f d = 0) {i : Nat} (hi : i < d.clusters.length) : ∃ c, f (d.clusters.getD i default) = some c := by
  unfold capE at h
  split at h
  · cases h
  · split at h
    · rename_i e he
      subst h
      exfalso
      have key : ∀ n k s, forI (capStep f d) n k s ≠ .inl 0 := by
        intro n
        induction n with
        | zero => intro k s e; cases e
        | succ n ih =>
          intro k s e
          simp only [forI] at e
          cases hf : capStep f d k s with
          | inr t => rw [hf] at e; exact ih _ _ e
          | inl r =>
            rw [hf] at e; cases e
            unfold capStep at hf
            split at hf
            · cases hf
            · split at hf <;> cases hf
      exact key _ _ _ he
    · rename_i m he
      obtain ⟨t, t', e⟩ := forI_steps _ _ _ _ he i (Nat.zero_le _) (by omega)
      unfold capStep at e
      split at e
      · cases e
      · rename_i c hc; exact ⟨c, hc⟩

theorem idxOf_mem {l : List ByteArray} {s : ByteArray} (h : 0 ≤ idxOf l s) : ∃ i, i < l.length ∧ l.getD i default = s := by
  unfold idxOf at h
  split at h
  · rename_i i e
    rw [List.findIdx?_eq_some_iff_getElem] at e
    obtain ⟨hi, he, _⟩ := e
    exact ⟨i, hi, by simpa [List.getD, hi] using he⟩
  · omega

theorem devIx_find {H : Hom} {id : Int} (hv : homE H = 0) : (devIx H.devices id < 0 ∧ findB H id = false) ∨ (devIx H.devices id = (devAt H.devices id : Int) ∧ devAt H.devices id < H.devices.length ∧ findB H id = true ∧ findD H id = H.devices.getD (devAt H.devices id) default) := by
  have : findB H id = decide (devAt H.devices id < H.devices.length) := by simp [findB, hv]
  unfold devIx
  split
  · rename_i h
    have e : findB H id = true := by simp [this, h]
    exact .inr ⟨rfl, h, e, by rw [findD, if_pos e]⟩
  · rename_i h; exact .inl ⟨by omega, by simp [this, h]⟩

theorem firstC_name {l : List Clu} {s : ByteArray} {c : Clu} (h : firstC l s = some c) : c.name = s := by
  have := List.find?_some h
  simpa using this

end Go.Abs

namespace Go.Abs
open Go.Proofs
set_option maxRecDepth 10000

def noClu : Clu := ⟨⟨#[]⟩, [], [], []⟩
/-- the cluster of a device of a valid home -/
def partO (H : Hom) (id : Int) (s : ByteArray) : Option Clu := if findB H id = true ∧ 0 ≤ idxOf (findD H id).clusters s then firstC H.clusters s else none
def attrO (o : Option Clu) (s : ByteArray) : Option Attr := match o with
  | some c => if attrAt c.attrs s < c.attrs.length then some (c.attrs.getD (attrAt c.attrs s) default) else none
  | none => none
/-- device.Find -/
def findA (H : Hom) (k : Key) : Option Attr := attrO (partO H k.dev k.cluster) k.attr

theorem attrOf_some {c : Clu} {s : ByteArray} : attrOf c.attrs s = (attrO (some c) s).getD noAttr ∧ decide (attrAt c.attrs s < c.attrs.length) = (attrO (some c) s).isSome := by
  unfold attrOf attrO
  simp only
  split <;> simp [*]

theorem noAttr_cells2 : PSub (.agg zAttr) (.agg (cAttr noAttr)) := PSub.agg noAttr_cells
theorem noClu_cells : PSub (.agg [vstr ⟨#[]⟩, .val (.slice none 0 0), .val (.slice none 0 0), .val (.slice none 0 0)]) (.agg (cClu noClu)) := PSub.agg ⟨.rfl, PSub.nil_ro _ _, PSub.nil_ro _ _, PSub.nil_ro _ _, trivial⟩
theorem smallK_noClu : smallK noClu := ⟨Nat.zero_le _, fun _ => Nat.zero_le _, Nat.zero_le _, fun _ => ⟨Nat.zero_le _, Nat.zero_le _⟩, Nat.zero_le _⟩

theorem ac_device_Find (H : Hom) (k : Key) (hH : smallH H) : AC Try.prog 40 [.pv (.agg (cHom H)), .pv (.agg (cKey k))] [] (.pv (.tup [.agg (cAttr ((findA H k).getD noAttr)), vbool (findA H k).isSome])) [] := by
  have hl : H.clusters.length ≤ 1048576 := hH.1.1
  have hd4 := @findD_length H k.dev
  refine AC.of_awp (T := T) T_ok hm Try.call40 Try.func40 rfl rfl rfl ?_
  conv => whnf
  refine .inl ⟨_, ac_device_find H k.dev hH, ?_⟩
  conv => whnf
  repeat (any_goals (first
    | (refine ⟨fun (h : (_ : Bool) = true) => ?_, fun (h : (_ : Bool) = false) => ?_⟩ <;> (try simp only [decide_eq_true_eq, decide_eq_false_iff_not, Bool.not_eq_true', Bool.not_eq_false', Int.toNat_natCast, beq_iff_eq, decide_eq_decide, beq_eq_false_iff_ne, ne_eq, reduceCtorEq] at h) <;> (conv => whnf))
    | (refine .inl ⟨_, ac_names_Index (findD H k.dev).clusters k.cluster (by omega), ?_⟩; conv => whnf)
    | (refine .inl ⟨_, ac_device_clusters H hl, ?_⟩; conv => whnf)
    | (refine And.intro (by (try simp only [Int.toNat_natCast]); omega) ?_; conv => whnf)
    | (refine And.intro (show (_ : Bool) = true from by kernel_rfl) ?_; conv => whnf)
    | (refine .inl ⟨wrap64 (by omega), ?_⟩; conv => whnf)))
  · have e : findA H k = none := by simp [findA, partO, h, attrO]
    rw [e]
    refine ⟨?_, ?_⟩ <;> (conv => whnf)
    · exact noAttr_cells2
    · exact PSub.lit_sb rfl
  · have e : findA H k = none := by rw [findA, partO, if_neg (by omega)]; rfl
    rw [e]
    refine ⟨?_, ?_⟩ <;> (conv => whnf)
    · exact noAttr_cells2
    · exact PSub.lit_sb rfl
  · rename_i hb
    have hpart : partO H k.dev k.cluster = firstC H.clusters k.cluster := by rw [partO, if_pos ⟨hb, by omega⟩]
    have hv : homE H = 0 := by simp only [findB, Bool.and_eq_true, decide_eq_true_eq] at hb; exact hb.1
    have hla := lastC_first (allE_distinct (homE_all hv)) k.cluster
    rw [show cluLook (lastC H.clusters H.clusters.length) (.string k.cluster) = cluLook (firstC H.clusters) (.string k.cluster) from by simp only [cluLook, hla]]
    rcases lookRes_clu (f := firstC H.clusters) k.cluster with ⟨c, h1, h2⟩ | ⟨h1, h2⟩
    · rw [h2]
      refine ⟨fun p hp => ?_, fun hp => by cases hp⟩
      cases hp
      conv => whnf
      repeat (any_goals (first
        | (refine ⟨fun (h : (_ : Bool) = true) => ?_, fun (h : (_ : Bool) = false) => ?_⟩ <;> (try simp only [decide_eq_true_eq, decide_eq_false_iff_not, Bool.not_eq_true', Bool.not_eq_false', Int.toNat_natCast, beq_iff_eq, decide_eq_decide, beq_eq_false_iff_ne, ne_eq, reduceCtorEq] at h) <;> (conv => whnf))
        | (refine .inl ⟨_, ac_cluster_Attr c k.attr (firstC_small hH.1 h1), ?_⟩; conv => whnf)
        | (refine And.intro (by (try simp only [Int.toNat_natCast]); omega) ?_; conv => whnf)
        | (refine And.intro (show (_ : Bool) = true from by kernel_rfl) ?_; conv => whnf)
        | (refine .inl ⟨wrap64 (by omega), ?_⟩; conv => whnf)))
      · have e : findA H k = none := by rw [findA, hpart, h1, attrO]; rw [if_neg h]
        rw [e]
        refine ⟨?_, ?_⟩ <;> (conv => whnf)
        · exact noAttr_cells2
        · exact PSub.lit_sb rfl
      · have e : findA H k = some (attrOf c.attrs k.attr) := by rw [findA, hpart, h1, attrO, attrOf]; rw [if_pos h, if_pos h]
        rw [e]
        refine ⟨?_, ?_⟩ <;> (conv => whnf)
        · exact .rfl
        · exact PSub.lit_sb rfl
    · rw [h2]
      refine ⟨fun p hp => (by cases hp), fun hp => ?_⟩
      conv => whnf
      repeat (any_goals (first
        | (refine ⟨fun (h : (_ : Bool) = true) => ?_, fun (h : (_ : Bool) = false) => ?_⟩ <;> (try simp only [decide_eq_true_eq, decide_eq_false_iff_not, Bool.not_eq_true', Bool.not_eq_false', Int.toNat_natCast, beq_iff_eq, decide_eq_decide, beq_eq_false_iff_ne, ne_eq, reduceCtorEq] at h) <;> (conv => whnf))
        | (refine .inl ⟨_, AC.sub2 (ac_cluster_Attr noClu k.attr smallK_noClu) noClu_cells .rfl, ?_⟩; conv => whnf)
        | (refine And.intro (by (try simp only [Int.toNat_natCast]); omega) ?_; conv => whnf)
        | (refine And.intro (show (_ : Bool) = true from by kernel_rfl) ?_; conv => whnf)
        | (refine .inl ⟨wrap64 (by omega), ?_⟩; conv => whnf)))
      · have e : findA H k = none := by rw [findA, hpart, h1, attrO]
        rw [e]
        refine ⟨?_, ?_⟩ <;> (conv => whnf)
        · exact noAttr_cells2
        · exact PSub.lit_sb rfl
      · exact absurd h (by simp [noClu])

theorem ac_r22_Part (H : Hom) (id : Int) (s : ByteArray) (hH : smallH H) : AC Try.prog 74 [.pv (.agg (cHom H)), .pv (vint id), .pv (vstr s)] [] (.pv (.tup [.agg (cClu ((partO H id s).getD noClu)), vbool (partO H id s).isSome])) [] := by
  have hl : H.clusters.length ≤ 1048576 := hH.1.1
  have hd4 := @findD_length H id
  refine AC.of_awp (T := T) T_ok hm Try.call74 Try.func74 rfl rfl rfl ?_
  conv => whnf
  refine .inl ⟨_, ac_r22_At H id hH, ?_⟩
  conv => whnf
  refine ⟨fun h => ?_, fun h => ?_⟩
  · simp only [decide_eq_true_eq] at h
    conv => whnf
    have e : partO H id s = none := by
      rw [partO, if_neg]
      rintro ⟨h1, _⟩
      simp only [findB, Bool.and_eq_true, decide_eq_true_eq] at h1
      rcases devIx_find (id := id) h1.1 with h2 | h2
      · have := h2.2; simp [findB, h1] at this
      · omega
    rw [e]
    refine ⟨?_, ?_⟩ <;> (conv => whnf)
    · exact noClu_cells
    · exact PSub.lit_sb rfl
  simp only [decide_eq_false_iff_not] at h
  conv => whnf
  refine .inl ⟨_, ac_r22_Check H hH, ?_⟩
  conv => whnf
  refine ⟨fun hv => ?_, fun hv => ?_⟩
  · conv => whnf
    simp at hv
    have e : partO H id s = none := by rw [partO, if_neg (by simp [findB, hv])]
    rw [e]
    refine ⟨?_, ?_⟩ <;> (conv => whnf)
    · exact noClu_cells
    · exact PSub.lit_sb rfl
  simp at hv
  rcases devIx_find (id := id) hv with h2 | ⟨h2, h3, h4, h5⟩
  · omega
  rw [h2]
  conv => whnf
  refine And.intro (by omega) ?_
  rw [Int.toNat_natCast]
  conv => whnf
  have hcap := findD_cap h4
  repeat (any_goals (first
    | (refine ⟨fun (h : (_ : Bool) = true) => ?_, fun (h : (_ : Bool) = false) => ?_⟩ <;> (try simp only [decide_eq_true_eq, decide_eq_false_iff_not, Bool.not_eq_true', Bool.not_eq_false', Int.toNat_natCast, beq_iff_eq, decide_eq_decide, beq_eq_false_iff_ne, ne_eq, reduceCtorEq] at h) <;> (conv => whnf))
    | (refine .inl ⟨_, ac_r04_Index (H.devices.getD (devAt H.devices id) default).clusters s (by rw [← h5]; omega), ?_⟩; conv => whnf)
    | (refine And.intro (by (try simp only [Int.toNat_natCast]); omega) ?_; conv => whnf)
    | (refine And.intro (show (_ : Bool) = true from by kernel_rfl) ?_; conv => whnf)
    | (refine .inl ⟨wrap64 (by omega), ?_⟩; conv => whnf)))
  all_goals rw [← h5] at h
  · have e : partO H id s = none := by rw [partO, if_neg (by omega)]
    rw [e]
    refine ⟨?_, ?_⟩ <;> (conv => whnf)
    · exact noClu_cells
    · exact PSub.lit_sb rfl
  · have hp : partO H id s = firstC H.clusters s := by rw [partO, if_pos ⟨h4, by omega⟩]
    obtain ⟨i, hi, he⟩ := idxOf_mem (by omega : 0 ≤ idxOf (findD H id).clusters s)
    obtain ⟨c, h1⟩ := capE_some hcap hi
    rw [he] at h1
    repeat (any_goals (first
      | (refine ⟨fun (h : (_ : Bool) = true) => ?_, fun (h : (_ : Bool) = false) => ?_⟩ <;> (try simp only [decide_eq_true_eq, decide_eq_false_iff_not, Bool.not_eq_true', Bool.not_eq_false', Int.toNat_natCast, beq_iff_eq, decide_eq_decide, beq_eq_false_iff_ne, ne_eq, reduceCtorEq] at h) <;> (conv => whnf))
      | (refine .inl ⟨_, ac_r22_cluster H s hH, ?_⟩; conv => whnf)
      | (refine And.intro (by (try simp only [Int.toNat_natCast]); omega) ?_; conv => whnf)
      | (refine And.intro (show (_ : Bool) = true from by kernel_rfl) ?_; conv => whnf)
      | (refine .inl ⟨wrap64 (by omega), ?_⟩; conv => whnf)))
    rcases firstC_ix (l := H.clusters) (s := s) with ⟨_, h6⟩ | ⟨j, h6, h7, h8⟩
    · rw [h1] at h6; cases h6
    rw [h6]
    repeat (any_goals (first
      | (refine ⟨fun (h : (_ : Bool) = true) => ?_, fun (h : (_ : Bool) = false) => ?_⟩ <;> (try simp only [decide_eq_true_eq, decide_eq_false_iff_not, Bool.not_eq_true', Bool.not_eq_false', Int.toNat_natCast, beq_iff_eq, decide_eq_decide, beq_eq_false_iff_ne, ne_eq, reduceCtorEq] at h) <;> (conv => whnf))
      | (refine And.intro (by (try simp only [Int.toNat_natCast]); omega) ?_; conv => whnf)
      | (refine And.intro (show (_ : Bool) = true from by kernel_rfl) ?_; conv => whnf)
      | (refine .inl ⟨wrap64 (by omega), ?_⟩; conv => whnf)))
    rw [hp, h8]
    refine ⟨?_, ?_⟩ <;> (conv => whnf)
    · exact .rfl
    · exact PSub.lit_sb rfl

theorem small_part {H : Hom} {id : Int} {s : ByteArray} (hH : smallH H) : smallK ((partO H id s).getD noClu) := by
  unfold partO
  split
  · cases h : firstC H.clusters s with
    | none => exact smallK_noClu
    | some c => exact firstC_small hH.1 h
  · exact smallK_noClu

theorem ac_r22_Find (H : Hom) (k : Key) (hH : smallH H) : AC Try.prog 44 [.pv (.agg (cHom H)), .pv (.agg (cKey k))] [] (.pv (.tup [.agg (cAttr ((findA H k).getD noAttr)), vbool (findA H k).isSome])) [] := by
  refine AC.of_awp (T := T) T_ok hm Try.call44 Try.func44 rfl rfl rfl ?_
  conv => whnf
  repeat (any_goals (first
    | (refine ⟨fun (h : (_ : Bool) = true) => ?_, fun (h : (_ : Bool) = false) => ?_⟩ <;> (try simp only [decide_eq_true_eq, decide_eq_false_iff_not, Bool.not_eq_true', Bool.not_eq_false', Int.toNat_natCast, beq_iff_eq, decide_eq_decide, beq_eq_false_iff_ne, ne_eq, reduceCtorEq] at h) <;> (conv => whnf))
    | (refine .inl ⟨_, ac_r22_Part H k.dev k.cluster hH, ?_⟩; conv => whnf)
    | (refine .inl ⟨_, ac_r21_Attr ((partO H k.dev k.cluster).getD noClu) k.attr (small_part hH), ?_⟩; conv => whnf)
    | (refine And.intro (by (try simp only [Int.toNat_natCast]); omega) ?_; conv => whnf)
    | (refine And.intro (show (_ : Bool) = true from by kernel_rfl) ?_; conv => whnf)
    | (refine .inl ⟨wrap64 (by omega), ?_⟩; conv => whnf)))
  · have e : findA H k = none := by
      rw [findA]
      cases h3 : partO H k.dev k.cluster with
      | none => rfl
      | some c => rw [h3] at h; cases h
    rw [e]
    refine ⟨?_, ?_⟩ <;> (conv => whnf)
    · exact noAttr_cells2
    · exact PSub.lit_sb rfl
  · cases h3 : partO H k.dev k.cluster with
    | none => rw [h3] at h; cases h
    | some c =>
      rw [findA, h3]
      obtain ⟨e1, e2⟩ := @attrOf_some c k.attr
      refine ⟨?_, ?_⟩ <;> (conv => whnf)
      · simp only [Option.getD_some]; rw [e1]; exact .rfl
      · simp only [Option.getD_some]; rw [e2]; exact .rfl

/-- device.Safe -/
def safeB (H : Hom) (k : Key) : Bool := ((findA H k).getD noAttr).safety
end Go.Abs

namespace Go.Abs
open Go.Proofs
set_option maxRecDepth 10000

def ixI (n k : Nat) : Int := if k < n then (k : Int) else -1

/-- slices.IndexFunc -/
theorem ac_slices_IndexFunc_Item (l : List Item) (gb : List PV → Bool) (gi : List PV → Int) (hl : smallL l) : AC Try.prog 84 [.pv (roL 7 cItem l), .clo (fun xs => ∃ x : Item, xs = [.agg (cItem x)]) true gb gi] [] (.pv (vint (ixI l.length (firstI l.length fun i => gb [.agg (cItem (l.getD i default))])))) [] := by
  have hl : l.length ≤ 1048576 := hl
  refine AC.of_awp (T := T) T_ok hm Try.call84 Try.func84 rfl rfl rfl ?_
  conv => whnf
  refine loop_k (ι := Nat) [0, 1, 7] [] (fun k => k ≤ l.length ∧ (∀ j, j < k → gb [.agg (cItem (l.getD j default))] = false)) (fun k => l.length - k) 0 (fun k => [(8, .pv (vint k))]) (fun _ => []) [] ⟨Nat.zero_le _, fun j h => absurd h (by omega)⟩ ?_ (fun k hk => ?_)
  · (repeat' (first | exact PSub.rfl | exact rfl | exact PSubs.rfl | exact trivial | refine And.intro ?_ ?_))
  obtain ⟨hkn, hinv⟩ := hk
  conv => whnf
  repeat (any_goals (first
    | (refine ⟨fun (h : (_ : Bool) = true) => ?_, fun (h : (_ : Bool) = false) => ?_⟩ <;> (try simp only [decide_eq_true_eq, decide_eq_false_iff_not, Bool.not_eq_true', Bool.not_eq_false', Int.toNat_natCast, beq_iff_eq, decide_eq_decide, beq_eq_false_iff_ne, ne_eq, reduceCtorEq] at h) <;> (conv => whnf))
    | (refine And.intro (by (try simp only [Int.toNat_natCast]); omega) ?_; conv => whnf)
    | (refine And.intro (show (_ : Bool) = true from by kernel_rfl) ?_; conv => whnf)
    | (refine .inl ⟨wrap64 (by omega), ?_⟩; conv => whnf)))
  refine And.intro ⟨l.getD k default, rfl⟩ ?_
  conv => whnf
  repeat (any_goals (first
    | (refine ⟨fun (h : (_ : Bool) = true) => ?_, fun (h : (_ : Bool) = false) => ?_⟩ <;> (try simp only [decide_eq_true_eq, decide_eq_false_iff_not, Bool.not_eq_true', Bool.not_eq_false', Int.toNat_natCast, beq_iff_eq, decide_eq_decide, beq_eq_false_iff_ne, ne_eq, reduceCtorEq] at h) <;> (conv => whnf))
    | (refine And.intro (by (try simp only [Int.toNat_natCast]); omega) ?_; conv => whnf)
    | (refine And.intro (show (_ : Bool) = true from by kernel_rfl) ?_; conv => whnf)
    | (refine .inl ⟨wrap64 (by omega), ?_⟩; conv => whnf)))
  · have e : firstI l.length (fun i => gb [.agg (cItem (l.getD i default))]) = k := firstI_at (by omega) h hinv
    exact PSub.int (by rw [e, ixI, if_pos (by omega)])
  · refine ⟨k + 1, [], ⟨by omega, ?_⟩, by first | omega | (dsimp only; omega), ?_⟩
    rotate_left
    · (repeat' (first | exact PSub.rfl | exact rfl | exact PSubs.rfl | exact trivial | refine And.intro ?_ ?_))
    intro j hj
    by_cases e : j = k
    · subst e; first | exact h | simpa [-List.getD_eq_getElem?_getD] using h | simp_all [-List.getD_eq_getElem?_getD]
    · exact hinv j (by omega)
  · have e : firstI l.length (fun i => gb [.agg (cItem (l.getD i default))]) = l.length := firstI_none fun j hj => hinv j (by omega)
    exact PSub.int (by rw [e, ixI, if_neg (by omega)])

def keyB (k : Key) : List PV → Bool
  | [.agg (.val (.int .i64 d) :: .val (.string c) :: .val (.string a) :: _)] => decide ((⟨d, c, a⟩ : Key) = k)
  | _ => false

theorem keyB_item (k : Key) (x : Item) : keyB k [.agg (cItem x)] = decide (x.key = k) := rfl

theorem ac_device_index_1 (x : Item) (k : Key) : AC Try.prog 85 [.pv (.agg (cItem x)), .pv (.cell (cKey k))] [] (.pv (vbool (decide (x.key = k)))) [] := by
  refine AC.of_awp (T := T) T_ok hm Try.call85 Try.func85 rfl rfl rfl ?_
  conv => whnf
  repeat (any_goals (first
    | (refine ⟨fun (h : (_ : Bool) = true) => ?_, fun (h : (_ : Bool) = false) => ?_⟩ <;> (try simp only [decide_eq_true_eq, decide_eq_false_iff_not, Bool.not_eq_true', Bool.not_eq_false', Int.toNat_natCast, beq_iff_eq, decide_eq_decide, beq_eq_false_iff_ne, ne_eq, reduceCtorEq] at h) <;> (conv => whnf))
    | (refine And.intro (by (try simp only [Int.toNat_natCast]); omega) ?_; conv => whnf)
    | (refine And.intro (show (_ : Bool) = true from by kernel_rfl) ?_; conv => whnf)
    | (refine .inl ⟨wrap64 (by omega), ?_⟩; conv => whnf)))
  refine PSub.sb ?_
  obtain ⟨⟨a, b, c⟩, v, n⟩ := x
  obtain ⟨d, e, f⟩ := k
  rw [Bool.eq_iff_iff]; simp

def itemAt (l : List Item) (k : Key) : Nat := firstI l.length fun i => decide ((l.getD i default).key = k)

theorem ac_slices_IndexFunc_Item_f (l : List Item) (k : Key) (hl : smallL l) : AC Try.prog 84 [.pv (roL 7 cItem l), .fn 85 [.pv (.cell (cKey k))]] [] (.pv (vint (ixI l.length (itemAt l k)))) [] := by
  refine AC.with_fn (pre := [.pv (roL 7 cItem l)]) (post := []) (ac_slices_IndexFunc_Item l (keyB k) (fun _ => 0) hl) Try.call85 rfl rfl rfl ?_
  rintro xs ⟨x, rfl⟩
  exact ac_device_index_1 x k

theorem ac_device_index (l : List Item) (k : Key) (hl : smallL l) : AC Try.prog 55 [.pv (roL 7 cItem l), .pv (.agg (cKey k))] [] (.pv (vint (ixI l.length (itemAt l k)))) [] := by
  refine AC.of_awp (T := T) T_ok hm Try.call55 Try.func55 rfl rfl rfl ?_
  conv => whnf
  refine .inl ⟨_, ac_slices_IndexFunc_Item_f l k hl, ?_⟩
  conv => whnf
  exact .rfl

theorem ac_r22_index (l : List Item) (k : Key) (hl : smallL l) : AC Try.prog 83 [.pv (roL 7 cItem l), .pv (.agg (cKey k))] [] (.pv (vint (ixI l.length (itemAt l k)))) [] := by
  have hl : l.length ≤ 1048576 := hl
  have hk (x : Item) : (decide (x.key.dev = k.dev) && (decide (x.key.cluster = k.cluster) && (decide (x.key.attr = k.attr) && true))) = decide (x.key = k) := by
    obtain ⟨⟨a, b, c⟩, v, n⟩ := x
    obtain ⟨d, e, f⟩ := k
    rw [Bool.eq_iff_iff]; simp
  refine AC.of_awp (T := T) T_ok hm Try.call83 Try.func83 rfl rfl rfl ?_
  conv => whnf
  refine loop_k (ι := Nat) [0, 3] [3] (fun i => i ≤ l.length ∧ (∀ j, j < i → decide ((l.getD j default).key = k) = false)) (fun i => l.length - i) 0 (fun i => [(5, .pv (vint i))]) (fun _ => []) [] ⟨Nat.zero_le _, fun j h => absurd h (by omega)⟩ ?_ (fun i hk => ?_)
  · (repeat' (first | exact PSub.rfl | exact rfl | exact PSubs.rfl | exact trivial | refine And.intro ?_ ?_))
  obtain ⟨hkn, hinv⟩ := hk
  conv => whnf
  repeat (any_goals (first
    | (refine ⟨fun (h : (_ : Bool) = true) => ?_, fun (h : (_ : Bool) = false) => ?_⟩ <;> (try simp only [decide_eq_true_eq, decide_eq_false_iff_not, Bool.not_eq_true', Bool.not_eq_false', Int.toNat_natCast, beq_iff_eq, decide_eq_decide, beq_eq_false_iff_ne, ne_eq, reduceCtorEq] at h) <;> (conv => whnf))
    | (refine And.intro (by (try simp only [Int.toNat_natCast]); omega) ?_; conv => whnf)
    | (refine And.intro (show (_ : Bool) = true from by kernel_rfl) ?_; conv => whnf)
    | (refine .inl ⟨wrap64 (by omega), ?_⟩; conv => whnf)))
  · rw [hk] at h
    have e : itemAt l k = i := firstI_at (by omega) h hinv
    exact PSub.int (by rw [e, ixI, if_pos (by omega)])
  · rw [hk] at h
    refine ⟨i + 1, [], ⟨by omega, ?_⟩, by first | omega | (dsimp only; omega), ?_⟩
    rotate_left
    · (repeat' (first | exact PSub.rfl | exact rfl | exact PSubs.rfl | exact trivial | refine And.intro ?_ ?_))
    intro j hj
    by_cases e : j = i
    · subst e; first | exact h | simpa [-List.getD_eq_getElem?_getD] using h | simp_all [-List.getD_eq_getElem?_getD]
    · exact hinv j (by omega)
  · have e : itemAt l k = l.length := firstI_none fun j hj => hinv j (by omega)
    exact PSub.int (by rw [e, ixI, if_neg (by omega)])

def noItem : Item := ⟨⟨0, ⟨#[]⟩, ⟨#[]⟩⟩, noVal, 0⟩
def getI (l : List Item) (k : Key) : Item := if itemAt l k < l.length then l.getD (itemAt l k) default else noItem

theorem ac_device_Get (l : List Item) (k : Key) (hl : smallL l) : AC Try.prog 32 [.pv (roL 7 cItem l), .pv (.agg (cKey k))] [] (.pv (.tup [.agg (cItem (getI l k)), vbool (decide (itemAt l k < l.length))])) [] := by
  refine AC.of_awp (T := T) T_ok hm Try.call32 Try.func32 rfl rfl rfl ?_
  conv => whnf
  refine .inl ⟨_, ac_device_index l k hl, ?_⟩
  conv => whnf
  unfold ixI
  by_cases hlt : itemAt l k < l.length
  · rw [if_pos hlt]
    repeat (any_goals (first
      | (refine ⟨fun (h : (_ : Bool) = true) => ?_, fun (h : (_ : Bool) = false) => ?_⟩ <;> (try simp only [decide_eq_true_eq, decide_eq_false_iff_not, Bool.not_eq_true', Bool.not_eq_false', Int.toNat_natCast, beq_iff_eq, decide_eq_decide, beq_eq_false_iff_ne, ne_eq, reduceCtorEq] at h) <;> (conv => whnf))
      | (refine And.intro (by (try simp only [Int.toNat_natCast]); omega) ?_; conv => whnf)
      | (refine And.intro (show (_ : Bool) = true from by kernel_rfl) ?_; conv => whnf)
      | (refine .inl ⟨wrap64 (by omega), ?_⟩; conv => whnf)))
    · refine ⟨?_, ?_⟩ <;> (conv => whnf)
      · exact PSub.of_eq (by rw [getI, if_pos hlt]; rfl)
      · exact PSub.lit_sb (by simp [hlt])
    · exfalso; omega
  · rw [if_neg hlt]
    repeat (any_goals (first
      | (refine ⟨fun (h : (_ : Bool) = true) => ?_, fun (h : (_ : Bool) = false) => ?_⟩ <;> (try simp only [decide_eq_true_eq, decide_eq_false_iff_not, Bool.not_eq_true', Bool.not_eq_false', Int.toNat_natCast, beq_iff_eq, decide_eq_decide, beq_eq_false_iff_ne, ne_eq, reduceCtorEq] at h) <;> (conv => whnf))
      | (refine And.intro (by (try simp only [Int.toNat_natCast]); omega) ?_; conv => whnf)
      | (refine And.intro (show (_ : Bool) = true from by kernel_rfl) ?_; conv => whnf)
      | (refine .inl ⟨wrap64 (by omega), ?_⟩; conv => whnf)))
    · exfalso; omega
    · refine ⟨?_, ?_⟩ <;> (conv => whnf)
      · exact PSub.of_eq (by rw [getI, if_neg hlt]; rfl)
      · exact PSub.lit_sb (by simp [hlt])

theorem ac_r22_Get (l : List Item) (k : Key) (hl : smallL l) : AC Try.prog 50 [.pv (roL 7 cItem l), .pv (.agg (cKey k))] [] (.pv (.tup [.agg (cItem (getI l k)), vbool (decide (itemAt l k < l.length))])) [] := by
  refine AC.of_awp (T := T) T_ok hm Try.call50 Try.func50 rfl rfl rfl ?_
  conv => whnf
  refine .inl ⟨_, ac_r22_index l k hl, ?_⟩
  conv => whnf
  unfold ixI
  by_cases hlt : itemAt l k < l.length
  · rw [if_pos hlt]
    repeat (any_goals (first
      | (refine ⟨fun (h : (_ : Bool) = true) => ?_, fun (h : (_ : Bool) = false) => ?_⟩ <;> (try simp only [decide_eq_true_eq, decide_eq_false_iff_not, Bool.not_eq_true', Bool.not_eq_false', Int.toNat_natCast, beq_iff_eq, decide_eq_decide, beq_eq_false_iff_ne, ne_eq, reduceCtorEq] at h) <;> (conv => whnf))
      | (refine And.intro (by (try simp only [Int.toNat_natCast]); omega) ?_; conv => whnf)
      | (refine And.intro (show (_ : Bool) = true from by kernel_rfl) ?_; conv => whnf)
      | (refine .inl ⟨wrap64 (by omega), ?_⟩; conv => whnf)))
    · exfalso; omega
    · refine ⟨?_, ?_⟩ <;> (conv => whnf)
      · exact PSub.of_eq (by rw [getI, if_pos hlt]; rfl)
      · exact PSub.lit_sb (by simp [hlt])
  · rw [if_neg hlt]
    repeat (any_goals (first
      | (refine ⟨fun (h : (_ : Bool) = true) => ?_, fun (h : (_ : Bool) = false) => ?_⟩ <;> (try simp only [decide_eq_true_eq, decide_eq_false_iff_not, Bool.not_eq_true', Bool.not_eq_false', Int.toNat_natCast, beq_iff_eq, decide_eq_decide, beq_eq_false_iff_ne, ne_eq, reduceCtorEq] at h) <;> (conv => whnf))
      | (refine And.intro (by (try simp only [Int.toNat_natCast]); omega) ?_; conv => whnf)
      | (refine And.intro (show (_ : Bool) = true from by kernel_rfl) ?_; conv => whnf)
      | (refine .inl ⟨wrap64 (by omega), ?_⟩; conv => whnf)))
    · refine ⟨?_, ?_⟩ <;> (conv => whnf)
      · exact PSub.of_eq (by rw [getI, if_neg hlt]; rfl)
      · exact PSub.lit_sb (by simp [hlt])
    · exfalso; omega

/-- the greatest version of a device among the first k -/
def maxV (l : List Item) (dev : Int) : Nat → Int
  | 0 => 0
  | k + 1 => if (l.getD k default).key.dev = dev then max (maxV l dev k) (l.getD k default).version else maxV l dev k
def nextV (l : List Item) (dev : Int) : Int := min (maxV l dev l.length) 1099511627775 + 1
theorem maxV_nonneg {l : List Item} {dev : Int} : ∀ {k : Nat}, 0 ≤ maxV l dev k
  | 0 => Int.le_refl _
  | k + 1 => by
    have := @maxV_nonneg l dev k
    rw [maxV]; split <;> omega

theorem ac_device_next (l : List Item) (dev : Int) (hl : smallL l) : AC Try.prog 118 [.pv (roL 7 cItem l), .pv (vint dev)] [] (.pv (vint (nextV l dev))) [] := by
  have hl : l.length ≤ 1048576 := hl
  refine AC.of_awp (T := T) T_ok hm Try.call118 Try.func118 rfl rfl rfl ?_
  conv => whnf
  refine loop_k (ι := Nat) [1, 8, 9] [] (fun k => k ≤ l.length ∧ True) (fun k => l.length - k) 0 (fun k => [(5, .pv (vint (min (maxV l dev k) 1099511627775))), (10, .pv (vint k))]) (fun k => []) [] ⟨Nat.zero_le _, trivial⟩ ?_ (fun k hk => ?_)
  · (repeat' (first | exact PSub.rfl | exact rfl | exact PSubs.rfl | exact trivial | refine And.intro ?_ ?_))
  obtain ⟨hkn, hinv⟩ := hk
  conv => whnf
  repeat (any_goals (first
    | (refine ⟨fun (h : (_ : Bool) = true) => ?_, fun (h : (_ : Bool) = false) => ?_⟩ <;> (try simp only [decide_eq_true_eq, decide_eq_false_iff_not, Bool.not_eq_true', Bool.not_eq_false', Int.toNat_natCast, beq_iff_eq, decide_eq_decide, beq_eq_false_iff_ne, ne_eq, reduceCtorEq] at h) <;> (conv => whnf))
    | (refine And.intro (by (try simp only [Int.toNat_natCast]); omega) ?_; conv => whnf)
    | (refine And.intro (show (_ : Bool) = true from by kernel_rfl) ?_; conv => whnf)
    | (refine .inl ⟨wrap64 (by omega), ?_⟩; conv => whnf)))
  · have h0 := @maxV_nonneg l dev k
    refine ⟨k + 1, [], ⟨by omega, trivial⟩, by omega, ?_⟩
    (repeat' (first | exact PSub.rfl | exact rfl | exact PSubs.rfl | exact trivial | refine And.intro ?_ ?_))
    exact PSub.int (by simp only [Int.toNat_natCast]; rw [maxV, if_pos h]; (repeat' split) <;> omega)
  · refine ⟨k + 1, [], ⟨by omega, trivial⟩, by omega, ?_⟩
    (repeat' (first | exact PSub.rfl | exact rfl | exact PSubs.rfl | exact trivial | refine And.intro ?_ ?_))
    exact PSub.int (by rw [maxV, if_neg h])
  · have h0 := @maxV_nonneg l dev l.length
    have e : k = l.length := by omega
    subst e
    refine .inl ⟨wrap64 (by omega), ?_⟩
    conv => whnf
    exact .rfl

end Go.Abs
