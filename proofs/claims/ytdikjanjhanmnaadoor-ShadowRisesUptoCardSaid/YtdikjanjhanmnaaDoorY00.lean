/- YtdikjanjhanmnaaDoorY00: walks and contracts. -/
import Derived.Test.YtdikjanjhanmnaaDoorX07

set_option linter.unusedVariables false
set_option linter.unusedSimpArgs false
set_option linter.unusedSectionVars false

namespace Go.Abs
open Go.Proofs
set_option maxRecDepth 10000
theorem ac_r22_index (l : List Item) (k : Key) (hl : smallL l) : AC Tryd.prog 30 [.pv (roL 7 cItem l), .pv (.agg (cKey k))] [] (.pv (vint (ixI l.length (itemAt l k)))) [] := by
  have hl : l.length ≤ 1048576 := hl
  have hk (x : Item) : (decide (x.key.dev = k.dev) && (decide (x.key.cluster = k.cluster) && (decide (x.key.attr = k.attr) && true))) = decide (x.key = k) := by
    obtain ⟨⟨a, b, c⟩, v, n⟩ := x
    obtain ⟨d, e, f⟩ := k
    rw [Bool.eq_iff_iff]; simp
  refine AC.of_awp (T := T) T_ok hm Tryd.call30 Tryd.func30 rfl rfl rfl ?_
  conv => whnf
  refine loop_k (ι := Nat) [0, 3] [3] (fun i => i ≤ l.length ∧ (∀ j, j < i → decide ((l.getD j default).key = k) = false)) (fun i => l.length - i) 0 (fun i => [(5, .pv (vint i))]) (fun _ => []) [] ⟨Nat.zero_le _, fun j h => absurd h (by omega)⟩ ?_ (fun i hk => ?_)
  · (repeat' (first | exact PSub.rfl | exact rfl | exact PSubs.rfl | exact trivial | exact PSub.lit_sb rfl | refine And.intro ?_ ?_))
  obtain ⟨hkn, hinv⟩ := hk
  conv => whnf
  repeat (any_goals (first
    | (refine ⟨fun (h : (_ : Bool) = true) => ?_, fun (h : (_ : Bool) = false) => ?_⟩ <;> (try simp only [decide_eq_true_eq, decide_eq_false_iff_not, Bool.not_eq_true', Bool.not_eq_false', Int.toNat_natCast, beq_iff_eq, decide_eq_decide, beq_eq_false_iff_ne, ne_eq, reduceCtorEq] at h) <;> (conv => whnf))
    | (refine And.intro (by (try simp only [Int.toNat_natCast]); omega) ?_; conv => whnf)
    | (refine And.intro (show (_ : Bool) = true from by kernel_rfl) ?_; conv => whnf)
    | (refine .inl ⟨wrap64 (by omega), ?_⟩; conv => whnf)))
  · rw [hk] at h
    have e : itemAt l k = i := firstI_at (by omega) h hinv
    exact PSub.int (by rw [e, ixI, if_pos (by omega)])
  · rw [hk] at h
    refine ⟨i + 1, [], ⟨by omega, ?_⟩, by first | omega | (dsimp only; omega), ?_⟩
    rotate_left
    · (repeat' (first | exact PSub.rfl | exact rfl | exact PSubs.rfl | exact trivial | exact PSub.lit_sb rfl | refine And.intro ?_ ?_))
    intro j hj
    by_cases e : j = i
    · subst e; first | exact h | simpa [-List.getD_eq_getElem?_getD] using h | simp_all [-List.getD_eq_getElem?_getD]
    · exact hinv j (by omega)
  · have e : itemAt l k = l.length := firstI_none fun j hj => hinv j (by omega)
    exact PSub.int (by rw [e, ixI, if_neg (by omega)])
theorem ac_r22_Get (l : List Item) (k : Key) (hl : smallL l) : AC Tryd.prog 13 [.pv (roL 7 cItem l), .pv (.agg (cKey k))] [] (.pv (.tup [.agg (cItem (getI l k)), vbool (decide (itemAt l k < l.length))])) [] := by
  refine AC.of_awp (T := T) T_ok hm Tryd.call13 Tryd.func13 rfl rfl rfl ?_
  conv => whnf
  refine .inl ⟨_, ac_r22_index l k hl, ?_⟩
  conv => whnf
  unfold ixI
  by_cases hlt : itemAt l k < l.length
  · rw [if_pos hlt]
    repeat (any_goals (first
      | (refine ⟨fun (h : (_ : Bool) = true) => ?_, fun (h : (_ : Bool) = false) => ?_⟩ <;> (try simp only [decide_eq_true_eq, decide_eq_false_iff_not, Bool.not_eq_true', Bool.not_eq_false', Int.toNat_natCast, beq_iff_eq, decide_eq_decide, beq_eq_false_iff_ne, ne_eq, reduceCtorEq] at h) <;> (conv => whnf))
      | (refine And.intro (by (try simp only [Int.toNat_natCast]); omega) ?_; conv => whnf)
      | (refine And.intro (show (_ : Bool) = true from by kernel_rfl) ?_; conv => whnf)
      | (refine .inl ⟨wrap64 (by omega), ?_⟩; conv => whnf)))
    · exfalso; omega
    · refine ⟨?_, ?_⟩ <;> (conv => whnf)
      · exact PSub.of_eq (by rw [getI, if_pos hlt]; rfl)
      · exact PSub.lit_sb (by simp [hlt])
  · rw [if_neg hlt]
    repeat (any_goals (first
      | (refine ⟨fun (h : (_ : Bool) = true) => ?_, fun (h : (_ : Bool) = false) => ?_⟩ <;> (try simp only [decide_eq_true_eq, decide_eq_false_iff_not, Bool.not_eq_true', Bool.not_eq_false', Int.toNat_natCast, beq_iff_eq, decide_eq_decide, beq_eq_false_iff_ne, ne_eq, reduceCtorEq] at h) <;> (conv => whnf))
      | (refine And.intro (by (try simp only [Int.toNat_natCast]); omega) ?_; conv => whnf)
      | (refine And.intro (show (_ : Bool) = true from by kernel_rfl) ?_; conv => whnf)
      | (refine .inl ⟨wrap64 (by omega), ?_⟩; conv => whnf)))
    · refine ⟨?_, ?_⟩ <;> (conv => whnf)
      · exact PSub.of_eq (by rw [getI, if_neg hlt]; rfl)
      · exact PSub.lit_sb (by simp [hlt])
    · exfalso; omega
end Go.Abs

namespace Go.Abs
open Go.Proofs
variable [Globals]
theorem firstI_congr {n : Nat} {p q : Nat → Bool} (h : ∀ i, i < n → p i = q i) : firstI n p = firstI n q := by
  rcases firstI_cases (n := n) (p := q) with ⟨h1, h2, h3⟩ | ⟨h1, h2⟩
  · exact firstI_at h1 ((h _ h1).trans h2) fun j hj => (h j (by omega)).trans (h3 j hj)
  · rw [h1]; exact firstI_none fun j hj => (h j hj).trans (h2 j hj)
theorem itemAt_keys {l k : List Item} (h : l.map Item.key = k.map Item.key) (q : Key) : itemAt l q = itemAt k q := by
  have hl : l.length = k.length := by have := congrArg List.length h; simpa using this
  unfold itemAt
  rw [hl]
  have : ∀ i, i < k.length → (l.getD i default).key = (k.getD i default).key := fun i hi => by
    have h2 := congrArg (fun m => m[i]?) h
    simp only [List.getElem?_map] at h2
    rw [List.getElem?_eq_getElem (by omega), List.getElem?_eq_getElem hi] at h2
    simp only [Option.map_some, Option.some.injEq] at h2
    simpa [List.getD, hi, hl] using h2
  exact firstI_congr fun i hi => by rw [this i hi]
theorem stepI_length (H : Hom) (r : List Item) (x : Item) : (stepI H r x).length = r.length := by
  have := congrArg List.length (stepI_keys H r x); simpa using this
theorem getD_set_eq {r : List Item} {i : Nat} {x : Item} (h : i < r.length) : (r.set i x).getD i default = x := by
  simp only [List.getD, List.getElem?_set, if_pos h, if_true, Option.getD_some]
theorem stepI_rise (H : Hom) (r : List Item) (x : Item) (j : Nat) : (r.getD j default).version ≤ ((stepI H r x).getD j default).version := by
  unfold stepI
  split
  · rename_i h
    by_cases e : itemAt r x.key = j
    · rw [← e, getD_set_eq h.1]; exact Int.le_of_lt h.2.1
    · rw [getD_set_ne e]; exact Int.le_refl _
  · exact Int.le_refl _
theorem repR_rise (H : Hom) : ∀ (l r : List Item) (j : Nat), (r.getD j default).version ≤ ((repR H r l).getD j default).version
  | [], r, j => Int.le_refl _
  | x :: l, r, j => Int.le_trans (stepI_rise H r x j) (repR_rise H l (stepI H r x) j)
def doneI (H : Hom) (r : List Item) (x : Item) : Prop := itemAt r x.key < r.length → okI H x = true → x.version ≤ (r.getD (itemAt r x.key) default).version
theorem stepI_done {H : Hom} {r : List Item} {x : Item} (h : doneI H r x) : stepI H r x = r := by
  unfold stepI
  rw [if_neg]
  rintro ⟨h1, h2, h3⟩
  have := h h1 h3
  omega
theorem done_step (H : Hom) (r : List Item) (x : Item) : doneI H (stepI H r x) x := by
  intro h1 h2
  have hi := itemAt_keys (stepI_keys H r x) x.key
  rw [hi] at h1 ⊢
  rw [stepI_length] at h1
  by_cases hv : (r.getD (itemAt r x.key) default).version < x.version
  · unfold stepI
    rw [if_pos ⟨h1, hv, h2⟩, getD_set_eq h1]
    exact Int.le_refl _
  · exact Int.le_trans (by omega) (stepI_rise H r x _)
theorem done_rep {H : Hom} {r : List Item} {x : Item} (l : List Item) (h : doneI H r x) : doneI H (repR H r l) x := by
  intro h1 h2
  have hi := itemAt_keys (repR_keys H l r) x.key
  rw [hi] at h1 ⊢
  rw [repR_length] at h1
  exact Int.le_trans (h h1 h2) (repR_rise H l r _)
theorem rep_done (H : Hom) : ∀ (l r : List Item), ∀ x ∈ l, doneI H (repR H r l) x
  | y :: l, r, x, hx => by
    rcases List.mem_cons.1 hx with rfl | hx
    · exact done_rep l (done_step H r x)
    · exact rep_done H l (stepI H r y) x hx
theorem rep_still {H : Hom} : ∀ {l r : List Item}, (∀ x ∈ l, doneI H r x) → repR H r l = r
  | [], r, _ => rfl
  | x :: l, r, h => by
    show repR H (stepI H r x) l = r
    rw [stepI_done (h x (by simp))]
    exact rep_still fun y hy => h y (by simp [hy])
theorem rep_twice (H : Hom) (l r : List Item) : repR H (repR H r l) l = repR H r l := rep_still (rep_done H l r)
end Go.Abs

namespace Go.Abs
open Go.Proofs Go.RowKit
set_option maxRecDepth 10000
section
variable {H : Type} {enc : TypeId × Value → H} {w : World} {bulk : DataW H → Nat}
theorem op_Message (hB : BulkOk bulk) : Opens enc Tryd.prog w bulk BB 30 cMsg (fun m => smallL m.items) :=
  (Opens.struct hB Tryd.underlying30 (by kernel_rfl) (.cons (size := 1) rfl (by kernel_rfl) op_int (.cons (size := 1) rfl (by kernel_rfl) op_int (.cons (size := 1) rfl (by kernel_rfl) op_int (.cons (size := 1) rfl (by kernel_rfl) op_int (.cons (size := 1) rfl (by kernel_rfl) (op_l_Item hB) (.cons (size := 1) rfl (by kernel_rfl) (op_string hB) (.cons (size := 1) rfl (by kernel_rfl) (op_string hB) (.cons (size := 1) rfl (by kernel_rfl) (op_string hB) .nil))))))))).imp
    (fun x => ⟨x.1, x.2.1, x.2.2.1, x.2.2.2.1, x.2.2.2.2.1, x.2.2.2.2.2.1, x.2.2.2.2.2.2.1, x.2.2.2.2.2.2.2.1⟩) (fun _ => rfl) (fun _ h => h.2.2.2.2.1.1)
end
end Go.Abs

namespace Go.Abs
open Go.Proofs
set_option maxRecDepth 10000
theorem ac_r25_Same (a b : Shd) (ha : smallSh a) : AC Tryd.prog 9 [.pv (.agg (cShd a)), .pv (.agg (cShd b))] [] (.pv (vbool (decide (a = b)))) [] := by
  have h1 : a.reported.length ≤ 1048576 := ha.1
  have h2 : a.desired.length ≤ 1048576 := ha.2
  obtain ⟨a1, a2, a3, a4, a5, a6, a7, a8, a9⟩ := a
  obtain ⟨b1, b2, b3, b4, b5, b6, b7, b8, b9⟩ := b
  dsimp only at h1 h2
  refine AC.of_awp (T := T) T_ok hm Tryd.call9 Tryd.func9 rfl rfl rfl ?_
  conv => whnf
  repeat (any_goals (first
    | (refine ⟨fun (h : (_ : Bool) = true) => ?_, fun (h : (_ : Bool) = false) => ?_⟩ <;> (try simp only [decide_eq_true_eq, decide_eq_false_iff_not, Bool.not_eq_true', Bool.not_eq_false', Int.toNat_natCast, beq_iff_eq, decide_eq_decide, beq_eq_false_iff_ne, ne_eq, reduceCtorEq] at h) <;> (conv => whnf))
    | (refine .inl ⟨_, ac_r22_Same a4 b4 (by omega), ?_⟩; conv => whnf)
    | (refine .inl ⟨_, ac_r22_Same a5 b5 (by omega), ?_⟩; conv => whnf)
    | (refine And.intro (by (try simp only [Int.toNat_natCast]); omega) ?_; conv => whnf)
    | (refine And.intro (show (_ : Bool) = true from by kernel_rfl) ?_; conv => whnf)
    | (refine .inl ⟨wrap64 (by omega), ?_⟩; conv => whnf)))
  all_goals first
    | (refine PSub.sb ?_; simp_all; done)
    | (refine PSub.lit_sb ?_; symm; simp_all; done)
    | (refine PSub.lit_sb ?_; simp_all; done)
    | trace_state
end Go.Abs

namespace Go.Abs
open Go.Proofs
set_option maxRecDepth 10000
theorem chg_self (a : List Item) : chgL a a = [] := by
  unfold chgL
  have : ((a ++ a).map Item.key).filter (chgB a a) = [] := by
    rw [List.filter_eq_nil_iff]
    intro k _
    simp [chgB]
  rw [this]; rfl
end Go.Abs

namespace Go.Abs
open Go.Proofs
set_option maxRecDepth 10000
theorem rep_small {H : Hom} {s : Shd} {m : Msg} (hs : smallSh s) : smallSh (repS H s m) := by
  unfold repS
  split
  · refine ⟨?_, ?_⟩
    · show (repR H (baseS H s m).reported m.items).length ≤ 1048576
      rw [repR_length]; exact base_small hs
    · show (baseS H s m).desired.length ≤ 1048576
      rw [base_des]; exact hs.2
  · exact hs
theorem mine_iff' {s : Shd} {m : Msg} : mineB s m = true ↔ m.kind = 1 ∧ m.dev = s.dev ∧ s.epoch ≤ m.epoch := by
  unfold mineB; simp only [Bool.and_eq_true, decide_eq_true_eq, and_assoc]
theorem base_dev {H : Hom} {s : Shd} {m : Msg} : (baseS H s m).dev = s.dev := by unfold baseS; split <;> rfl
theorem base_epoch {H : Hom} {s : Shd} {m : Msg} (h : s.epoch ≤ m.epoch) : (baseS H s m).epoch = m.epoch := by
  unfold baseS; split
  · rfl
  · show s.epoch = m.epoch; omega
theorem base_same {H : Hom} {s : Shd} {m : Msg} (h : s.epoch = m.epoch) : baseS H s m = s := by unfold baseS; rw [if_neg (by omega)]
theorem rep_mine {H : Hom} {s : Shd} {m : Msg} (h : mineB s m = true) : repS H s m = { baseS H s m with reported := repR H (baseS H s m).reported m.items, version := max (baseS H s m).version m.version } := by rw [repS, if_pos h]
theorem rep_not {H : Hom} {s : Shd} {m : Msg} (h : ¬ mineB s m = true) : repS H s m = s := by rw [repS, if_neg h]
theorem rep_dev {H : Hom} {s : Shd} {m : Msg} : (repS H s m).dev = s.dev := by
  by_cases h : mineB s m = true
  · rw [rep_mine h]; exact base_dev
  · rw [rep_not h]
theorem rep_epoch {H : Hom} {s : Shd} {m : Msg} (h : mineB s m = true) : (repS H s m).epoch = m.epoch := by
  rw [rep_mine h]; exact base_epoch (mine_iff'.1 h).2.2
theorem repS_twice (H : Hom) (s : Shd) (m : Msg) : repS H (repS H s m) m = repS H s m ∧ repK H (repS H s m) m = [] := by
  by_cases h : mineB s m = true
  · have he := rep_epoch (H := H) h
    have hd : (repS H s m).dev = s.dev := rep_dev
    have hm : mineB (repS H s m) m = true := by
      have := mine_iff'.1 h
      exact mine_iff'.2 ⟨this.1, by rw [hd]; exact this.2.1, by omega⟩
    have hb : baseS H (repS H s m) m = repS H s m := base_same he
    have h2 : repS H (repS H s m) m = repS H s m := by
      rw [rep_mine hm, hb, rep_mine h]
      simp only [Shd.mk.injEq, true_and, and_true]
      exact ⟨by omega, rep_twice H m.items _⟩
    refine ⟨h2, ?_⟩
    rw [repK, if_pos hm, h2]; exact chg_self _
  · rw [rep_not h, rep_not h]
    exact ⟨rfl, by rw [repK, if_neg h]⟩
theorem repS_epoch (H : Hom) (s : Shd) (m : Msg) : s.epoch ≤ (repS H s m).epoch := by
  by_cases h : mineB s m = true
  · rw [rep_epoch h]; exact (mine_iff'.1 h).2.2
  · rw [rep_not h]; exact Int.le_refl _
theorem getI_rise (H : Hom) (r l : List Item) (k : Key) : (getI r k).version ≤ (getI (repR H r l) k).version := by
  have hi := itemAt_keys (repR_keys H l r) k
  unfold getI
  rw [hi, repR_length]
  split
  · exact repR_rise H l r _
  · exact Int.le_refl _
theorem repS_rise (H : Hom) (s : Shd) (m : Msg) (k : Key) (he : (repS H s m).epoch = s.epoch) : s.version ≤ (repS H s m).version ∧ (getI s.reported k).version ≤ (getI (repS H s m).reported k).version := by
  by_cases h : mineB s m = true
  · rw [rep_epoch h] at he
    rw [rep_mine h, base_same he.symm]
    exact ⟨Int.le_max_left _ _, getI_rise H _ _ k⟩
  · rw [rep_not h]; exact ⟨Int.le_refl _, Int.le_refl _⟩
end Go.Abs

namespace Go.Abs
open Go.Proofs
set_option maxRecDepth 10000
theorem ac_law25_version (s : Shd) (k : Key) (hs : smallSh s) : AC Tryd.prog 10 [.pv (.agg (cShd s)), .pv (.agg (cKey k))] [] (.pv (vint (getI s.reported k).version)) [] := by
  refine AC.of_awp (T := T) T_ok hm Tryd.call10 Tryd.func10 rfl rfl rfl ?_
  conv => whnf
  repeat (any_goals (first
    | (refine ⟨fun (h : (_ : Bool) = true) => ?_, fun (h : (_ : Bool) = false) => ?_⟩ <;> (try simp only [decide_eq_true_eq, decide_eq_false_iff_not, Bool.not_eq_true', Bool.not_eq_false', Int.toNat_natCast, beq_iff_eq, decide_eq_decide, beq_eq_false_iff_ne, ne_eq, reduceCtorEq] at h) <;> (conv => whnf))
    | (refine .inl ⟨_, ac_r22_Get s.reported k hs.1, ?_⟩; conv => whnf)
    | (refine And.intro (by (try simp only [Int.toNat_natCast]); omega) ?_; conv => whnf)
    | (refine And.intro (show (_ : Bool) = true from by kernel_rfl) ?_; conv => whnf)
    | (refine .inl ⟨wrap64 (by omega), ?_⟩; conv => whnf)))
  exact .rfl
theorem ac_law25_ShadowRises (H : Hom) (s : Shd) (m : Msg) (k : Key) (hH : smallH H) (hs : smallSh s) (hmi : smallL m.items) : AC Tryd.prog 3 [.pv (.agg (cHom H)), .pv (.agg (cShd s)), .pv (.agg (cMsg m)), .pv (.agg (cKey k))] [] (.pv (vbool true)) [] := by
  have h1 := repS_twice H s m
  have h2 := repS_epoch H s m
  have h3 := repS_rise H s m k
  have c := ac_shadow_Report H (repS H s m) m hH (rep_small hs) hmi
  rw [h1.1, h1.2] at c
  refine AC.of_awp (T := T) T_ok hm Tryd.call3 Tryd.func3 rfl rfl rfl ?_
  conv => whnf
  repeat (any_goals (first
    | (refine ⟨fun (h : (_ : Bool) = true) => ?_, fun (h : (_ : Bool) = false) => ?_⟩ <;> (try simp only [decide_eq_true_eq, decide_eq_false_iff_not, Bool.not_eq_true', Bool.not_eq_false', Int.toNat_natCast, beq_iff_eq, decide_eq_decide, beq_eq_false_iff_ne, ne_eq, reduceCtorEq] at h) <;> (conv => whnf))
    | (refine .inl ⟨_, ac_law25_great H s m, ?_⟩; conv => whnf)
    | (refine .inl ⟨_, ac_law25_lives, ?_⟩; conv => whnf)
    | (refine .inl ⟨_, ac_shadow_Report H s m hH hs hmi, ?_⟩; conv => whnf)
    | (refine .inl ⟨_, c, ?_⟩; conv => whnf)
    | (refine .inl ⟨_, ac_r25_Same (repS H s m) (repS H s m) (rep_small hs), ?_⟩; conv => whnf)
    | (refine .inl ⟨_, ac_law25_version (repS H s m) k (rep_small hs), ?_⟩; conv => whnf)
    | (refine .inl ⟨_, ac_law25_version s k hs, ?_⟩; conv => whnf)
    | (refine And.intro (by (try simp only [Int.toNat_natCast]); omega) ?_; conv => whnf)
    | (refine And.intro (show (_ : Bool) = true from by kernel_rfl) ?_; conv => whnf)
    | (refine .inl ⟨wrap64 (by omega), ?_⟩; conv => whnf)))
  all_goals first
    | exact .rfl
    | exact absurd trivial h
    | exact absurd rfl h
    | (exfalso; omega)
    | (exfalso; simp at h; done)
    | exact PSub.sb (by simp)
    | trace_state
end Go.Abs
