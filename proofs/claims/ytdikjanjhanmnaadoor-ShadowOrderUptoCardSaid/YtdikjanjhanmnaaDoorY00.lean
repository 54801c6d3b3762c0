/- YtdikjanjhanmnaaDoorY00: walks and contracts. -/
import Derived.Test.YtdikjanjhanmnaaDoorX07

set_option linter.unusedVariables false
set_option linter.unusedSimpArgs false
set_option linter.unusedSectionVars false

namespace Go.Abs
open Go.Proofs
set_option maxRecDepth 10000
theorem key_eq (a b : Key) : (decide (a.dev = b.dev) && (decide (a.cluster = b.cluster) && (decide (a.attr = b.attr) && true))) = decide (a = b) := by
  obtain ⟨a1, a2, a3⟩ := a
  obtain ⟨b1, b2, b3⟩ := b
  rw [Bool.eq_iff_iff]; simp
end Go.Abs

namespace Go.Abs
open Go.Proofs
variable [Globals]
theorem firstI_congr {n : Nat} {p q : Nat → Bool} (h : ∀ i, i < n → p i = q i) : firstI n p = firstI n q := by
  rcases firstI_cases (n := n) (p := q) with ⟨h1, h2, h3⟩ | ⟨h1, h2⟩
  · exact firstI_at h1 ((h _ h1).trans h2) fun j hj => (h j (by omega)).trans (h3 j hj)
  · rw [h1]; exact firstI_none fun j hj => (h j hj).trans (h2 j hj)
theorem itemAt_keys {l k : List Item} (h : l.map Item.key = k.map Item.key) (q : Key) : itemAt l q = itemAt k q := by
  have hl : l.length = k.length := by have := congrArg List.length h; simpa using this
  unfold itemAt
  rw [hl]
  have : ∀ i, i < k.length → (l.getD i default).key = (k.getD i default).key := fun i hi => by
    have h2 := congrArg (fun m => m[i]?) h
    simp only [List.getElem?_map] at h2
    rw [List.getElem?_eq_getElem (by omega), List.getElem?_eq_getElem hi] at h2
    simp only [Option.map_some, Option.some.injEq] at h2
    simpa [List.getD, hi, hl] using h2
  exact firstI_congr fun i hi => by rw [this i hi]
theorem stepI_length (H : Hom) (r : List Item) (x : Item) : (stepI H r x).length = r.length := by
  have := congrArg List.length (stepI_keys H r x); simpa using this
theorem getD_set_eq {r : List Item} {i : Nat} {x : Item} (h : i < r.length) : (r.set i x).getD i default = x := by
  simp only [List.getD, List.getElem?_set, if_pos h, if_true, Option.getD_some]
theorem stepI_getD (H : Hom) (r : List Item) (x : Item) (j : Nat) : (stepI H r x).getD j default = if (itemAt r x.key = j ∧ j < r.length ∧ okI H x = true) ∧ (r.getD j default).version < x.version then x else r.getD j default := by
  unfold stepI
  generalize itemAt r x.key = i
  by_cases e : i = j
  · subst e
    by_cases h : i < r.length ∧ (r.getD i default).version < x.version ∧ okI H x = true
    · rw [if_pos h, getD_set_eq h.1, if_pos ⟨⟨rfl, h.1, h.2.2⟩, h.2.1⟩]
    · rw [if_neg h, if_neg fun h2 => h ⟨h2.1.2.1, h2.2, h2.1.2.2⟩]
  · have hR : (if (i = j ∧ j < r.length ∧ okI H x = true) ∧ (r.getD j default).version < x.version then x else r.getD j default) = r.getD j default := if_neg fun h => e h.1.1
    rw [hR]
    split
    · exact getD_set_ne e
    · rfl
theorem pick_comm (c x y : Item) (a b : Prop) [Decidable a] [Decidable b] (h : a → b → x.version = y.version → x = y) :
    (if b ∧ (if a ∧ c.version < x.version then x else c).version < y.version then y else (if a ∧ c.version < x.version then x else c)) =
    (if a ∧ (if b ∧ c.version < y.version then y else c).version < x.version then x else (if b ∧ c.version < y.version then y else c)) := by
  by_cases ha : a <;> by_cases hb : b
  · simp only [ha, hb, true_and]
    by_cases hx : c.version < x.version <;> by_cases hy : c.version < y.version
    · rw [if_pos hx, if_pos hy]
      by_cases h1 : x.version < y.version
      · rw [if_pos h1, if_neg (by omega)]
      · by_cases h2 : y.version < x.version
        · rw [if_neg h1, if_pos h2]
        · rw [if_neg h1, if_neg h2]; exact h ha hb (by omega)
    · simp only [hx, hy, if_true, if_false]; rw [if_neg (by omega)]
    · simp only [hx, hy, if_true, if_false]; exact (if_neg (by omega)).symm
    · simp only [hx, hy, if_false]
  · simp only [ha, hb, true_and, false_and, if_false]
  · simp only [ha, hb, true_and, false_and, if_false]
  · simp only [ha, hb, false_and, if_false]
theorem stepI_comm (H : Hom) (r : List Item) (x y : Item) (h : x.key = y.key → x.version = y.version → x.value = y.value) : stepI H (stepI H r x) y = stepI H (stepI H r y) x := by
  have kx := itemAt_keys (stepI_keys H r x) y.key
  have ky := itemAt_keys (stepI_keys H r y) x.key
  have lx := stepI_length H r x
  have ly := stepI_length H r y
  apply List.ext_getElem (by rw [stepI_length H (stepI H r x) y, stepI_length H (stepI H r y) x, lx, ly])
  intro j h1 h2
  have g1 : (stepI H (stepI H r x) y)[j] = (stepI H (stepI H r x) y).getD j default := by simp [List.getD, h1]
  have g2 : (stepI H (stepI H r y) x)[j] = (stepI H (stepI H r y) x).getD j default := by simp [List.getD, h2]
  rw [g1, g2, stepI_getD, stepI_getD, stepI_getD, stepI_getD, kx, ky, lx, ly]
  refine pick_comm _ _ _ _ _ fun ha hb hv => ?_
  have hk : x.key = y.key := by
    have e1 := itemAt_keyS (l := r) (q := x.key) (by rw [ha.1]; exact ha.2.1)
    have e2 := itemAt_keyS (l := r) (q := y.key) (by rw [hb.1]; exact hb.2.1)
    rw [← e1, ← e2, ha.1, hb.1]
  obtain ⟨a1, a2, a3⟩ := x
  obtain ⟨b1, b2, b3⟩ := y
  simp only at hk hv h
  rw [hk, hv, h hk hv]
theorem rep_comm (H : Hom) (r a b : List Item) (h : ∀ x ∈ a ++ b, ∀ y ∈ a ++ b, x.key = y.key → x.version = y.version → x.value = y.value) : repR H (repR H r a) b = repR H (repR H r b) a := by
  unfold repR
  rw [← List.foldl_append, ← List.foldl_append]
  exact List.Perm.foldl_eq' List.perm_append_comm (fun x hx y hy z => stepI_comm H z x y (h x hx y hy)) r
end Go.Abs

namespace Go.Abs
open Go.Proofs Go.RowKit
set_option maxRecDepth 10000
section
variable {H : Type} {enc : TypeId × Value → H} {w : World} {bulk : DataW H → Nat}
theorem op_Message (hB : BulkOk bulk) : Opens enc Tryd.prog w bulk BB 30 cMsg (fun m => smallL m.items) :=
  (Opens.struct hB Tryd.underlying30 (by kernel_rfl) (.cons (size := 1) rfl (by kernel_rfl) op_int (.cons (size := 1) rfl (by kernel_rfl) op_int (.cons (size := 1) rfl (by kernel_rfl) op_int (.cons (size := 1) rfl (by kernel_rfl) op_int (.cons (size := 1) rfl (by kernel_rfl) (op_l_Item hB) (.cons (size := 1) rfl (by kernel_rfl) (op_string hB) (.cons (size := 1) rfl (by kernel_rfl) (op_string hB) (.cons (size := 1) rfl (by kernel_rfl) (op_string hB) .nil))))))))).imp
    (fun x => ⟨x.1, x.2.1, x.2.2.1, x.2.2.2.1, x.2.2.2.2.1, x.2.2.2.2.2.1, x.2.2.2.2.2.2.1, x.2.2.2.2.2.2.2.1⟩) (fun _ => rfl) (fun _ h => h.2.2.2.2.1.1)
end
end Go.Abs

namespace Go.Abs
open Go.Proofs
set_option maxRecDepth 10000
theorem ac_r25_Same (a b : Shd) (ha : smallSh a) : AC Tryd.prog 9 [.pv (.agg (cShd a)), .pv (.agg (cShd b))] [] (.pv (vbool (decide (a = b)))) [] := by
  have h1 : a.reported.length ≤ 1048576 := ha.1
  have h2 : a.desired.length ≤ 1048576 := ha.2
  obtain ⟨a1, a2, a3, a4, a5, a6, a7, a8, a9⟩ := a
  obtain ⟨b1, b2, b3, b4, b5, b6, b7, b8, b9⟩ := b
  dsimp only at h1 h2
  refine AC.of_awp (T := T) T_ok hm Tryd.call9 Tryd.func9 rfl rfl rfl ?_
  conv => whnf
  repeat (any_goals (first
    | (refine ⟨fun (h : (_ : Bool) = true) => ?_, fun (h : (_ : Bool) = false) => ?_⟩ <;> (try simp only [decide_eq_true_eq, decide_eq_false_iff_not, Bool.not_eq_true', Bool.not_eq_false', Int.toNat_natCast, beq_iff_eq, decide_eq_decide, beq_eq_false_iff_ne, ne_eq, reduceCtorEq] at h) <;> (conv => whnf))
    | (refine .inl ⟨_, ac_r22_Same a4 b4 (by omega), ?_⟩; conv => whnf)
    | (refine .inl ⟨_, ac_r22_Same a5 b5 (by omega), ?_⟩; conv => whnf)
    | (refine And.intro (by (try simp only [Int.toNat_natCast]); omega) ?_; conv => whnf)
    | (refine And.intro (show (_ : Bool) = true from by kernel_rfl) ?_; conv => whnf)
    | (refine .inl ⟨wrap64 (by omega), ?_⟩; conv => whnf)))
  all_goals first
    | (refine PSub.sb ?_; simp_all; done)
    | (refine PSub.lit_sb ?_; symm; simp_all; done)
    | (refine PSub.lit_sb ?_; simp_all; done)
    | trace_state
end Go.Abs

namespace Go.Abs
open Go.Proofs
set_option maxRecDepth 10000
theorem rep_small {H : Hom} {s : Shd} {m : Msg} (hs : smallSh s) : smallSh (repS H s m) := by
  unfold repS
  split
  · refine ⟨?_, ?_⟩
    · show (repR H (baseS H s m).reported m.items).length ≤ 1048576
      rw [repR_length]; exact base_small hs
    · show (baseS H s m).desired.length ≤ 1048576
      rw [base_des]; exact hs.2
  · exact hs
theorem mine_iff' {s : Shd} {m : Msg} : mineB s m = true ↔ m.kind = 1 ∧ m.dev = s.dev ∧ s.epoch ≤ m.epoch := by
  unfold mineB; simp only [Bool.and_eq_true, decide_eq_true_eq, and_assoc]
theorem base_dev {H : Hom} {s : Shd} {m : Msg} : (baseS H s m).dev = s.dev := by unfold baseS; split <;> rfl
theorem base_epoch {H : Hom} {s : Shd} {m : Msg} (h : s.epoch ≤ m.epoch) : (baseS H s m).epoch = m.epoch := by
  unfold baseS; split
  · rfl
  · show s.epoch = m.epoch; omega
theorem base_same {H : Hom} {s : Shd} {m : Msg} (h : s.epoch = m.epoch) : baseS H s m = s := by unfold baseS; rw [if_neg (by omega)]
theorem base_eq {H : Hom} {s : Shd} {a b : Msg} (h : a.epoch = b.epoch) : baseS H s a = baseS H s b := by unfold baseS; rw [h]
theorem rep_mine {H : Hom} {s : Shd} {m : Msg} (h : mineB s m = true) : repS H s m = { baseS H s m with reported := repR H (baseS H s m).reported m.items, version := max (baseS H s m).version m.version } := by rw [repS, if_pos h]
theorem rep_not {H : Hom} {s : Shd} {m : Msg} (h : ¬ mineB s m = true) : repS H s m = s := by rw [repS, if_neg h]
theorem rep_dev {H : Hom} {s : Shd} {m : Msg} : (repS H s m).dev = s.dev := by
  by_cases h : mineB s m = true
  · rw [rep_mine h]; exact base_dev
  · rw [rep_not h]
theorem rep_epoch {H : Hom} {s : Shd} {m : Msg} (h : mineB s m = true) : (repS H s m).epoch = m.epoch := by
  rw [rep_mine h]; exact base_epoch (mine_iff'.1 h).2.2
def unlB (L : List Item) : Bool := decide (¬ ∀ x ∈ L, ∀ y ∈ L, x.key = y.key → x.version = y.version → x.value = y.value)
theorem repS_comm (H : Hom) (s : Shd) (a b : Msg) (he : a.epoch = b.epoch) (h : unlB (a.items ++ b.items) = false) : repS H (repS H s a) b = repS H (repS H s b) a := by
  have hu : ∀ x ∈ a.items ++ b.items, ∀ y ∈ a.items ++ b.items, x.key = y.key → x.version = y.version → x.value = y.value := by
    have := of_decide_eq_false h; exact Decidable.not_not.1 this
  have keep : ∀ {t : Shd} {c d : Msg}, c.epoch = d.epoch → (mineB (repS H t c) d = true ↔ mineB t d = true) := by
    intro t c d e
    rw [mine_iff', mine_iff', rep_dev]
    by_cases hc : mineB t c = true
    · rw [rep_epoch hc]
      have := mine_iff'.1 hc
      constructor <;> rintro ⟨h1, h2, h3⟩ <;> exact ⟨h1, h2, by omega⟩
    · rw [rep_not hc]
  by_cases ha : mineB s a = true <;> by_cases hb : mineB s b = true
  · have hab := (keep (t := s) he).2 hb
    have hba := (keep (t := s) he.symm).2 ha
    have e1 : baseS H (repS H s a) b = repS H s a := base_same ((rep_epoch ha).trans he)
    have e2 : baseS H (repS H s b) a = repS H s b := base_same ((rep_epoch hb).trans he.symm)
    rw [rep_mine hab, rep_mine hba, e1, e2, rep_mine ha, rep_mine hb, base_eq he]
    simp only [Shd.mk.injEq, true_and, and_true]
    exact ⟨by omega, rep_comm H _ _ _ hu⟩
  · rw [rep_not hb, rep_not fun x => hb ((keep (t := s) he).1 x)]
  · rw [rep_not ha, rep_not fun x => ha ((keep (t := s) he.symm).1 x)]
  · rw [rep_not ha, rep_not hb, rep_not ha]
theorem getD_mem {l : List Item} {i : Nat} (h : i < l.length) : l.getD i default ∈ l := by simp [List.getD, h]
end Go.Abs

namespace Go.Abs
open Go.Proofs
set_option maxRecDepth 10000
def badB (L : List Item) (i j : Nat) : Bool := decide ((L.getD i default).key = (L.getD j default).key ∧ (L.getD i default).version = (L.getD j default).version ∧ (L.getD i default).value ≠ (L.getD j default).value)
theorem unlB_no {L : List Item} (h : ∀ i, i < L.length → ∀ j, j < i → badB L i j = false) : unlB L = false := by
  unfold unlB
  rw [decide_eq_false_iff_not, Decidable.not_not]
  intro x hx y hy e1 e2
  obtain ⟨i, hi, rfl⟩ := List.getElem_of_mem hx
  obtain ⟨j, hj, rfl⟩ := List.getElem_of_mem hy
  have key : ∀ i j, ∀ hi : i < L.length, ∀ hj : j < L.length, j < i → L[i].key = L[j].key → L[i].version = L[j].version → L[i].value = L[j].value := by
    intro i j hi hj hij e1 e2
    have := h i hi j hij
    unfold badB at this
    rw [decide_eq_false_iff_not] at this
    simp only [List.getD, List.getElem?_eq_getElem hi, List.getElem?_eq_getElem hj, Option.getD_some] at this
    exact Decidable.not_not.1 fun hn => this ⟨e1, e2, hn⟩
  rcases Nat.lt_trichotomy i j with hij | hij | hij
  · exact (key j i hj hi hij e1.symm e2.symm).symm
  · subst hij; rfl
  · exact key i j hi hj hij e1 e2
theorem unlB_yes {L : List Item} {i j : Nat} (hi : i < L.length) (hj : j < i) (h : badB L i j = true) : unlB L = true := by
  unfold badB at h
  have h := of_decide_eq_true h
  unfold unlB
  rw [decide_eq_true_eq]
  intro ha
  exact h.2.2 (ha _ (getD_mem hi) _ (getD_mem (Nat.lt_trans hj hi)) h.1 h.2.1)
theorem ac_law25_unlike (a b : Msg) (ha : smallL a.items) (hb : smallL b.items) : AC Tryd.prog 11 [.pv (.agg (cMsg a)), .pv (.agg (cMsg b))] [] (.pv (vbool (unlB (a.items ++ b.items)))) [] := by
  have ha2 : a.items.length ≤ 1048576 := ha
  have hb2 : b.items.length ≤ 1048576 := hb
  refine AC.of_awp (T := T) T_ok hm Tryd.call11 Tryd.func11 rfl rfl rfl ?_
  conv => whnf
  repeat (any_goals (first
    | (refine ⟨fun (h : (_ : Bool) = true) => ?_, fun (h : (_ : Bool) = false) => ?_⟩ <;> (try simp only [decide_eq_true_eq, decide_eq_false_iff_not, Bool.not_eq_true', Bool.not_eq_false', Int.toNat_natCast, beq_iff_eq, decide_eq_decide, beq_eq_false_iff_ne, ne_eq, reduceCtorEq] at h) <;> (conv => whnf))
    | (refine And.intro (by (try simp only [Int.toNat_natCast]); omega) ?_; conv => whnf)
    | (refine And.intro (show (_ : Bool) = true from by kernel_rfl) ?_; conv => whnf)
    | (refine .inl ⟨wrap64 (by omega), ?_⟩; conv => whnf)))
  obtain ⟨L, hL⟩ : ∃ L, L = a.items ++ b.items := ⟨_, rfl⟩
  have hLl : L.length = a.items.length + b.items.length := by rw [hL, List.length_append]
  rw [← hL]
  refine loop_k (ι := Nat) [] [] (fun k => k ≤ L.length ∧ ∀ i, i < k → ∀ j, j < i → badB L i j = false) (fun k => L.length - k) 0 (fun k => [(5, .own 500), (6, .pv (vint k))]) (fun _ => [(500, rowL 7 cItem L)]) [(500, 14)] ⟨Nat.zero_le _, fun i hi => absurd hi (by omega)⟩ ?_ (fun k hk => ?_)
  · (repeat' (first | exact PSub.rfl | exact rfl | exact PSubs.rfl | exact trivial | exact PSub.lit_sb rfl | refine And.intro ?_ ?_))
    · omega
    intro i hi
    dsimp only
    by_cases h1 : i < 0 + a.items.length
    · rw [if_pos h1, if_neg (by omega)]
      have e : L.getD i default = a.items.getD i default := by rw [hL]; simp [List.getD, List.getElem?_append_left (show i < a.items.length by omega)]
      rw [e]; exact PSubs.rfl
    · rw [if_neg h1]
      have e : L.getD i default = b.items.getD (i - (0 + a.items.length)) default := by rw [hL]; simp [List.getD, List.getElem?_append_right (show a.items.length ≤ i by omega)]
      rw [e]; exact PSubs.rfl
  obtain ⟨hk1, hk2⟩ := hk
  conv => whnf
  repeat (any_goals (first
    | (refine ⟨fun (h : (_ : Bool) = true) => ?_, fun (h : (_ : Bool) = false) => ?_⟩ <;> (try simp only [decide_eq_true_eq, decide_eq_false_iff_not, Bool.not_eq_true', Bool.not_eq_false', Int.toNat_natCast, beq_iff_eq, decide_eq_decide, beq_eq_false_iff_ne, ne_eq, reduceCtorEq] at h) <;> (conv => whnf))
    | (refine And.intro (by (try simp only [Int.toNat_natCast]); omega) ?_; conv => whnf)
    | (refine And.intro (show (_ : Bool) = true from by kernel_rfl) ?_; conv => whnf)
    | (refine .inl ⟨wrap64 (by omega), ?_⟩; conv => whnf)))
  · refine loop_k (ι := Nat) [5, 6] [500] (fun j => j ≤ k ∧ ∀ q, q < j → badB L k q = false) (fun j => k - j) 0 (fun j => [(7, .pv (vint j))]) (fun _ => []) [] ⟨Nat.zero_le _, fun i hi => absurd hi (by omega)⟩ ?_ (fun j hj => ?_)
    · (repeat' (first | exact PSub.rfl | exact rfl | exact PSubs.rfl | exact trivial | exact PSub.lit_sb rfl | refine And.intro ?_ ?_))
      all_goals (intro i hi; exact PSubs.rfl)
    obtain ⟨hj1, hj2⟩ := hj
    have hnext : badB L k j = false → ∀ q, q < j + 1 → badB L k q = false := fun hb q hq => by
      by_cases e : q = j
      · rw [e]; exact hb
      · exact hj2 q (by omega)
    conv => whnf
    repeat (any_goals (first
      | (refine ⟨fun (h : (_ : Bool) = true) => ?_, fun (h : (_ : Bool) = false) => ?_⟩ <;> (try simp only [decide_eq_true_eq, decide_eq_false_iff_not, Bool.not_eq_true', Bool.not_eq_false', Int.toNat_natCast, beq_iff_eq, decide_eq_decide, beq_eq_false_iff_ne, ne_eq, reduceCtorEq] at h) <;> (conv => whnf))
      | (refine And.intro (by (try simp only [Int.toNat_natCast]); omega) ?_; conv => whnf)
      | (refine And.intro (show (_ : Bool) = true from by kernel_rfl) ?_; conv => whnf)
      | (refine .inl ⟨wrap64 (by omega), ?_⟩; conv => whnf)))
    · rename_i h1 h2
      have e1 := of_decide_eq_true ((key_eq _ _).symm.trans h1)
      have e2 := of_decide_eq_false ((val_eq _ _).symm.trans h)
      rw [unlB_yes (i := k) (j := j) (by omega) (by omega) (decide_eq_true ⟨e1, h2, e2⟩)]
      exact PSub.lit_sb rfl
    · have e2 := of_decide_eq_true ((val_eq _ _).symm.trans h)
      refine ⟨j + 1, [], ⟨by omega, hnext (decide_eq_false fun x => x.2.2 e2)⟩, by omega, ?_⟩
      (repeat' (first | exact PSub.rfl | exact rfl | exact PSubs.rfl | exact trivial | exact PSub.lit_sb rfl | refine And.intro ?_ ?_))
      all_goals (intro i hi; exact PSubs.rfl)
    · refine ⟨j + 1, [], ⟨by omega, hnext (decide_eq_false fun x => h x.2.1)⟩, by omega, ?_⟩
      (repeat' (first | exact PSub.rfl | exact rfl | exact PSubs.rfl | exact trivial | exact PSub.lit_sb rfl | refine And.intro ?_ ?_))
      all_goals (intro i hi; exact PSubs.rfl)
    · have e2 := of_decide_eq_false ((key_eq _ _).symm.trans h)
      refine ⟨j + 1, [], ⟨by omega, hnext (decide_eq_false fun x => e2 x.1)⟩, by omega, ?_⟩
      (repeat' (first | exact PSub.rfl | exact rfl | exact PSubs.rfl | exact trivial | exact PSub.lit_sb rfl | refine And.intro ?_ ?_))
      all_goals (intro i hi; exact PSubs.rfl)
    · have e : j = k := by omega
      subst e
      refine ⟨j + 1, [], ⟨by omega, fun i hi q hq => ?_⟩, by omega, ?_⟩
      · by_cases e : i = j
        · subst e; exact hj2 q hq
        · exact hk2 i (by omega) q hq
      (repeat' (first | exact PSub.rfl | exact rfl | exact PSubs.rfl | exact trivial | exact PSub.lit_sb rfl | refine And.intro ?_ ?_))
      all_goals (intro i hi; exact PSubs.rfl)
  · have e : k = L.length := by omega
    subst e
    rw [unlB_no hk2]
    exact PSub.lit_sb rfl
theorem ac_law25_ShadowOrder (H : Hom) (s : Shd) (a b : Msg) (hH : smallH H) (hs : smallSh s) (ha : smallL a.items) (hb : smallL b.items) : AC Tryd.prog 4 [.pv (.agg (cHom H)), .pv (.agg (cShd s)), .pv (.agg (cMsg a)), .pv (.agg (cMsg b))] [] (.pv (vbool true)) [] := by
  have hcom := repS_comm H s a b
  have c1 := ac_shadow_Report H (repS H s a) b hH (rep_small hs) hb
  have c2 := ac_shadow_Report H (repS H s b) a hH (rep_small hs) ha
  refine AC.of_awp (T := T) T_ok hm Tryd.call4 Tryd.func4 rfl rfl rfl ?_
  conv => whnf
  repeat (any_goals (first
    | (refine ⟨fun (h : (_ : Bool) = true) => ?_, fun (h : (_ : Bool) = false) => ?_⟩ <;> (try simp only [decide_eq_true_eq, decide_eq_false_iff_not, Bool.not_eq_true', Bool.not_eq_false', Int.toNat_natCast, beq_iff_eq, decide_eq_decide, beq_eq_false_iff_ne, ne_eq, reduceCtorEq] at h) <;> (conv => whnf))
    | (refine .inl ⟨_, ac_law25_great H s a, ?_⟩; conv => whnf)
    | (refine .inl ⟨_, ac_law25_great H s b, ?_⟩; conv => whnf)
    | (refine .inl ⟨_, ac_law25_lives, ?_⟩; conv => whnf)
    | (refine .inl ⟨_, ac_law25_unlike a b ha hb, ?_⟩; conv => whnf)
    | (refine .inl ⟨_, ac_shadow_Report H s a hH hs ha, ?_⟩; conv => whnf)
    | (refine .inl ⟨_, ac_shadow_Report H s b hH hs hb, ?_⟩; conv => whnf)
    | (refine .inl ⟨_, c1, ?_⟩; conv => whnf)
    | (refine .inl ⟨_, c2, ?_⟩; conv => whnf)
    | (refine .inl ⟨_, ac_r25_Same (repS H (repS H s a) b) (repS H (repS H s b) a) (rep_small (rep_small hs)), ?_⟩; conv => whnf)
    | (refine And.intro (by (try simp only [Int.toNat_natCast]); omega) ?_; conv => whnf)
    | (refine And.intro (show (_ : Bool) = true from by kernel_rfl) ?_; conv => whnf)
    | (refine .inl ⟨wrap64 (by omega), ?_⟩; conv => whnf)))
  all_goals first
    | exact .rfl
    | exact absurd trivial h
    | exact absurd rfl h
    | (exfalso; exact h (hcom (by assumption) (by assumption)))
    | (exfalso; simp at h; done)
    | trace_state
end Go.Abs
