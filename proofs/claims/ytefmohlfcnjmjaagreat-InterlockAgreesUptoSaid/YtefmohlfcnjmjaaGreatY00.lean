/- YtefmohlfcnjmjaaGreatY00: walks and contracts. -/
import Derived.Test.YtefmohlfcnjmjaaGreatX07

set_option linter.unusedVariables false
set_option linter.unusedSimpArgs false
set_option linter.unusedSectionVars false

namespace Go.Abs
open Go.Proofs Go.RowKit
set_option maxRecDepth 10000
section
variable {H : Type} {enc : TypeId × Value → H} {w : World} {bulk : DataW H → Nat}
theorem op_uint64 : Opens enc Tryz.prog w bulk BB 71 (fun n : Int => [.val (.int .u64 n)]) (fun _ => True) := (Opens.int Tryz.underlying71).imp id (fun _ => rfl) (fun _ _ => trivial)
theorem op_Attr (hB : BulkOk bulk) : Opens enc Tryz.prog w bulk BB 100 cAttr smallA :=
  (Opens.struct hB Tryz.underlying100 (by kernel_rfl) (.cons (size := 1) rfl (by kernel_rfl) (op_string hB) (.cons (size := 1) rfl (by kernel_rfl) op_int (.cons (size := 1) rfl (by kernel_rfl) op_int (.cons (size := 1) rfl (by kernel_rfl) op_int (.cons (size := 1) rfl (by kernel_rfl) (op_l_string hB) (.cons (size := 1) rfl (by kernel_rfl) op_bool (.cons (size := 1) rfl (by kernel_rfl) op_bool .nil)))))))).imp
    (fun x => ⟨x.1, x.2.1, x.2.2.1, x.2.2.2.1, x.2.2.2.2.1, x.2.2.2.2.2.1, x.2.2.2.2.2.2.1⟩) (fun _ => rfl) (fun _ h => h.2.2.2.2.1)
theorem getD_all {α : Type} [Inhabited α] {l : List α} {p : α → Prop} (h : ∀ i, i < l.length → p (l.getD i default)) (hd : p default) (i : Nat) : p (l.getD i default) := by
  by_cases hi : i < l.length
  · exact h i hi
  · have : l.getD i default = default := by simp [List.getD, Nat.le_of_not_lt hi]
    rw [this]; exact hd
theorem op_l_Attr (hB : BulkOk bulk) : Opens enc Tryz.prog w bulk BB 67 (fun l : List Attr => [roL 7 cAttr l]) (fun l => smallL l ∧ ∀ i, smallA (l.getD i default)) :=
  (Opens.slice hB Tryz.underlying67 (by kernel_rfl) (by decide) (op_Attr hB)).imp id (fun _ => rfl) (fun _ h => ⟨h.1, getD_all h.2 (Nat.zero_le _)⟩)
theorem op_Effect (hB : BulkOk bulk) : Opens enc Tryz.prog w bulk BB 97 cEff (fun _ => True) :=
  (Opens.struct hB Tryz.underlying97 (by kernel_rfl) (.cons (size := 1) rfl (by kernel_rfl) op_int (.cons (size := 1) rfl (by kernel_rfl) (op_string hB) (.cons (size := 1) rfl (by kernel_rfl) op_int .nil)))).imp (fun x => ⟨x.1, x.2.1, x.2.2.1⟩) (fun _ => rfl) (fun _ _ => trivial)
theorem op_l_Effect (hB : BulkOk bulk) : Opens enc Tryz.prog w bulk BB 98 (fun l : List Eff => [roL 3 cEff l]) smallL :=
  (Opens.slice hB Tryz.underlying98 (by kernel_rfl) (by decide) (op_Effect hB)).imp id (fun _ => rfl) (fun _ h => h.1)
theorem op_Command (hB : BulkOk bulk) : Opens enc Tryz.prog w bulk BB 102 cCmd smallC :=
  (Opens.struct hB Tryz.underlying102 (by kernel_rfl) (.cons (size := 1) rfl (by kernel_rfl) (op_string hB) (.cons (size := 7) rfl (by kernel_rfl) (op_Attr hB) (.cons (size := 1) rfl (by kernel_rfl) (op_l_Effect hB) .nil)))).imp (fun x => ⟨x.1, x.2.1, x.2.2.1⟩) (fun _ => rfl) (fun _ h => ⟨h.2.1, h.2.2.1⟩)
theorem op_l_Command (hB : BulkOk bulk) : Opens enc Tryz.prog w bulk BB 68 (fun l : List Cmd => [roL 9 cCmd l]) (fun l => smallL l ∧ ∀ i, smallC (l.getD i default)) :=
  (Opens.slice hB Tryz.underlying68 (by kernel_rfl) (by decide) (op_Command hB)).imp id (fun _ => rfl) (fun _ h => ⟨h.1, getD_all h.2 ⟨Nat.zero_le _, Nat.zero_le _⟩⟩)
theorem op_Cluster (hB : BulkOk bulk) : Opens enc Tryz.prog w bulk BB 70 cClu smallK :=
  (Opens.struct hB Tryz.underlying70 (by kernel_rfl) (.cons (size := 1) rfl (by kernel_rfl) (op_string hB) (.cons (size := 1) rfl (by kernel_rfl) (op_l_Attr hB) (.cons (size := 1) rfl (by kernel_rfl) (op_l_Command hB) (.cons (size := 1) rfl (by kernel_rfl) (op_l_string hB) .nil))))).imp (fun x => ⟨x.1, x.2.1, x.2.2.1, x.2.2.2.1⟩) (fun _ => rfl) (fun _ h => ⟨h.2.1.1, h.2.1.2, h.2.2.1.1, h.2.2.1.2, h.2.2.2.1⟩)
theorem small_default : smallK default := ⟨Nat.zero_le _, fun _ => Nat.zero_le _, Nat.zero_le _, fun _ => ⟨Nat.zero_le _, Nat.zero_le _⟩, Nat.zero_le _⟩
theorem op_l_Cluster (hB : BulkOk bulk) : Opens enc Tryz.prog w bulk BB 22 (fun l : List Clu => [roL 4 cClu l]) smallKs :=
  (Opens.slice hB Tryz.underlying22 (by kernel_rfl) (by decide) (op_Cluster hB)).imp id (fun _ => rfl) (fun _ h => ⟨h.1, getD_all h.2 small_default⟩)
theorem op_Device (hB : BulkOk bulk) : Opens enc Tryz.prog w bulk BB 73 cDev smallD :=
  (Opens.struct hB Tryz.underlying73 (by kernel_rfl) (.cons (size := 1) rfl (by kernel_rfl) op_int (.cons (size := 1) rfl (by kernel_rfl) op_uint64 (.cons (size := 1) rfl (by kernel_rfl) op_int (.cons (size := 1) rfl (by kernel_rfl) op_bool (.cons (size := 1) rfl (by kernel_rfl) op_int (.cons (size := 1) rfl (by kernel_rfl) (op_string hB) (.cons (size := 1) rfl (by kernel_rfl) (op_l_string hB) .nil)))))))).imp
    (fun x => ⟨x.1, x.2.1, x.2.2.1, x.2.2.2.1, x.2.2.2.2.1, x.2.2.2.2.2.1, x.2.2.2.2.2.2.1⟩) (fun _ => rfl) (fun _ h => ⟨h.2.2.2.2.2.2.1, h.1.1, h.1.2⟩)
theorem op_l_Device (hB : BulkOk bulk) : Opens enc Tryz.prog w bulk BB 23 (fun l : List Dev => [roL 7 cDev l]) (fun l => smallL l ∧ ∀ i, smallD (l.getD i default)) :=
  (Opens.slice hB Tryz.underlying23 (by kernel_rfl) (by decide) (op_Device hB)).imp id (fun _ => rfl) (fun _ h => ⟨h.1, getD_all h.2 ⟨Nat.zero_le _, by decide, by decide⟩⟩)
theorem op_Home (hB : BulkOk bulk) : Opens enc Tryz.prog w bulk BB 25 cHom smallH :=
  (Opens.struct hB Tryz.underlying25 (by kernel_rfl) (.cons (size := 1) rfl (by kernel_rfl) (op_l_Cluster hB) (.cons (size := 1) rfl (by kernel_rfl) (op_l_Device hB) .nil))).imp (fun x => ⟨x.1, x.2.1⟩) (fun _ => rfl) (fun _ h => ⟨h.1, h.2.1.1, h.2.1.2⟩)
end
end Go.Abs

namespace Go.Abs
open Go.Proofs Go.RowKit
set_option maxRecDepth 10000
section
variable {H : Type} {enc : TypeId × Value → H} {w : World} {bulk : DataW H → Nat}
theorem op_Scope (hB : BulkOk bulk) : Opens enc Tryz.prog w bulk BB 28 cSco smallS :=
  (Opens.struct hB Tryz.underlying28 (by kernel_rfl) (.cons (size := 2) rfl (by kernel_rfl) (op_Home hB) (.cons (size := 1) rfl (by kernel_rfl) (op_l_string hB) (.cons (size := 1) rfl (by kernel_rfl) (op_l_string hB) .nil)))).imp (fun x => ⟨x.1, x.2.1, x.2.2.1⟩) (fun _ => rfl) (fun _ h => ⟨h.1, h.2.1, h.2.2.1⟩)
end
end Go.Abs

namespace Go.Abs
open Go.Proofs
set_option maxRecDepth 10000
def cluFew (c : Clu) : Bool := !(decide (20 < c.attrs.length) || decide (20 < c.commands.length) || decide (20 < c.events.length))
def scoB (s : Sco) : Bool := !(decide (12 < s.home.clusters.length) || decide (8 < s.home.devices.length) || decide (20 < s.modes.length) || decide (20 < s.scenes.length)) &&
  (s.home.clusters.all cluFew && s.home.devices.all fun d => !decide (20 < d.clusters.length))
theorem ac_law45_scope (s : Sco) (hs : smallS s) : AC Tryz.prog 11 [.pv (.agg (cSco s))] [] (.pv (vbool (scoB s))) [] := by
  refine AC.of_awp (T := T) T_ok hm Tryz.call11 Tryz.func11 rfl rfl rfl ?_
  conv => whnf
  repeat (any_goals (first
    | (refine ⟨fun (h : (_ : Bool) = true) => ?_, fun (h : (_ : Bool) = false) => ?_⟩ <;> (try simp only [decide_eq_true_eq, decide_eq_false_iff_not, Bool.not_eq_true', Bool.not_eq_false', Int.toNat_natCast, beq_iff_eq, decide_eq_decide, beq_eq_false_iff_ne, ne_eq, reduceCtorEq] at h) <;> (conv => whnf))
    | (refine And.intro (by (try simp only [Int.toNat_natCast]); omega) ?_; conv => whnf)
    | (refine And.intro (show (_ : Bool) = true from by kernel_rfl) ?_; conv => whnf)
    | (refine .inl ⟨wrap64 (by omega), ?_⟩; conv => whnf)))
  · exact PSub.lit_sb (by unfold scoB; rw [decide_eq_true (show 12 < s.home.clusters.length by omega)]; rfl)
  · exact PSub.lit_sb (by unfold scoB; rw [decide_eq_true (show 8 < s.home.devices.length by omega)]; simp)
  · exact PSub.lit_sb (by unfold scoB; rw [decide_eq_true (show 20 < s.modes.length by omega)]; simp)
  · exact PSub.lit_sb (by unfold scoB; rw [decide_eq_true (show 20 < s.scenes.length by omega)]; simp)
  rename_i g1 g2 g3
  have hd : scoB s = (s.home.clusters.all cluFew && s.home.devices.all fun d => !decide (20 < d.clusters.length)) := by
    unfold scoB
    rw [decide_eq_false (show ¬ 12 < s.home.clusters.length by omega), decide_eq_false (show ¬ 8 < s.home.devices.length by omega), decide_eq_false (show ¬ 20 < s.modes.length by omega), decide_eq_false (show ¬ 20 < s.scenes.length by omega)]
    rfl
  rw [hd]
  have hcl : s.home.clusters.length ≤ 12 := by omega
  have hdl : s.home.devices.length ≤ 8 := by omega
  clear h g1 g2 g3 hd
  refine loop_k (ι := Nat) [1, 33, 34] [1] (fun k => k ≤ s.home.clusters.length ∧ (∀ j, j < k → cluFew (s.home.clusters.getD j default) = true)) (fun k => s.home.clusters.length - k) 0 (fun k => [(35, .pv (vint k))]) (fun _ => []) [] ⟨Nat.zero_le _, fun j h => absurd h (by omega)⟩ ?_ (fun k hk => ?_)
  · (repeat' (first | exact PSub.rfl | exact rfl | exact PSubs.rfl | exact trivial | exact PSub.lit_sb rfl | refine And.intro ?_ ?_))
  obtain ⟨hkn, hinv⟩ := hk
  conv => whnf
  refine ⟨fun h => ?_, fun h => ?_⟩ <;> (try simp only [decide_eq_true_eq, decide_eq_false_iff_not, Bool.not_eq_true', Bool.not_eq_false', Int.toNat_natCast, beq_iff_eq, decide_eq_decide, beq_eq_false_iff_ne, ne_eq, reduceCtorEq] at h) <;> (conv => whnf)
  · have hk : k < s.home.clusters.length := by omega
    repeat (any_goals (first
      | (refine ⟨fun (h : (_ : Bool) = true) => ?_, fun (h : (_ : Bool) = false) => ?_⟩ <;> (try simp only [decide_eq_true_eq, decide_eq_false_iff_not, Bool.not_eq_true', Bool.not_eq_false', Int.toNat_natCast, beq_iff_eq, decide_eq_decide, beq_eq_false_iff_ne, ne_eq, reduceCtorEq] at h) <;> (conv => whnf))
      | (refine And.intro (by (try simp only [Int.toNat_natCast]); omega) ?_; conv => whnf)
      | (refine And.intro (show (_ : Bool) = true from by kernel_rfl) ?_; conv => whnf)
      | (refine .inl ⟨wrap64 (by omega), ?_⟩; conv => whnf)))
    all_goals first
      | exact PSub.lit_sb (by rw [all_getD_false (j := k) hk (by unfold cluFew; rw [decide_eq_true (show 20 < (s.home.clusters.getD k default).attrs.length by omega)]; rfl)]; rfl)
      | exact PSub.lit_sb (by rw [all_getD_false (j := k) hk (by unfold cluFew; rw [decide_eq_true (show 20 < (s.home.clusters.getD k default).commands.length by omega)]; simp)]; rfl)
      | exact PSub.lit_sb (by rw [all_getD_false (j := k) hk (by unfold cluFew; rw [decide_eq_true (show 20 < (s.home.clusters.getD k default).events.length by omega)]; simp)]; rfl)
      | skip
    refine ⟨k + 1, [], ⟨by omega, ?_⟩, by first | omega | (dsimp only; omega), ?_⟩
    rotate_left
    · (repeat' (first | exact PSub.rfl | exact rfl | exact PSubs.rfl | exact trivial | exact PSub.lit_sb rfl | refine And.intro ?_ ?_))
    intro j hj
    by_cases e : j = k
    · subst e
      unfold cluFew
      rw [decide_eq_false (show ¬ 20 < (s.home.clusters.getD j default).attrs.length by omega), decide_eq_false (show ¬ 20 < (s.home.clusters.getD j default).commands.length by omega), decide_eq_false (show ¬ 20 < (s.home.clusters.getD j default).events.length by omega)]; rfl
    · exact hinv j (by omega)
  · rw [all_getD (l := s.home.clusters) fun j hj => hinv j (by omega), Bool.true_and]
    clear hinv hkn h
    have hdl2 : s.home.devices.length ≤ 8 := hdl
    refine loop_k (ι := Nat) [58, 59] [] (fun k => k ≤ s.home.devices.length ∧ (∀ j, j < k → decide (20 < (s.home.devices.getD j default).clusters.length) = false)) (fun k => s.home.devices.length - k) 0 (fun k => [(60, .pv (vint k))]) (fun _ => []) [] ⟨Nat.zero_le _, fun j h => absurd h (by omega)⟩ ?_ (fun k hk => ?_)
    · (repeat' (first | exact PSub.rfl | exact rfl | exact PSubs.rfl | exact trivial | exact PSub.lit_sb rfl | refine And.intro ?_ ?_))
    obtain ⟨hkn, hinv⟩ := hk
    conv => whnf
    refine ⟨fun h => ?_, fun h => ?_⟩ <;> (try simp only [decide_eq_true_eq, decide_eq_false_iff_not, Bool.not_eq_true', Bool.not_eq_false', Int.toNat_natCast, beq_iff_eq, decide_eq_decide, beq_eq_false_iff_ne, ne_eq, reduceCtorEq] at h) <;> (conv => whnf)
    · have hk : k < s.home.devices.length := by omega
      repeat (any_goals (first
        | (refine ⟨fun (h : (_ : Bool) = true) => ?_, fun (h : (_ : Bool) = false) => ?_⟩ <;> (try simp only [decide_eq_true_eq, decide_eq_false_iff_not, Bool.not_eq_true', Bool.not_eq_false', Int.toNat_natCast, beq_iff_eq, decide_eq_decide, beq_eq_false_iff_ne, ne_eq, reduceCtorEq] at h) <;> (conv => whnf))
        | (refine And.intro (by (try simp only [Int.toNat_natCast]); omega) ?_; conv => whnf)
        | (refine And.intro (show (_ : Bool) = true from by kernel_rfl) ?_; conv => whnf)
        | (refine .inl ⟨wrap64 (by omega), ?_⟩; conv => whnf)))
      · exact PSub.lit_sb (all_getD_false (j := k) hk (by rw [decide_eq_true (show 20 < (s.home.devices.getD k default).clusters.length by omega)]; rfl)).symm
      refine ⟨k + 1, [], ⟨by omega, ?_⟩, by first | omega | (dsimp only; omega), ?_⟩
      rotate_left
      · (repeat' (first | exact PSub.rfl | exact rfl | exact PSubs.rfl | exact trivial | exact PSub.lit_sb rfl | refine And.intro ?_ ?_))
      intro j hj
      by_cases e : j = k
      · subst e; exact decide_eq_false (by omega)
      · exact hinv j (by omega)
    · exact PSub.lit_sb (all_getD fun j hj => by rw [hinv j (by omega)]; rfl).symm
end Go.Abs

namespace Go.Abs
open Go.Proofs
set_option maxRecDepth 10000
theorem locksE_one {s : Sco} {l : List Lck} (h : locksE s l = 0) {i : Nat} (hi : i < l.length) : oneE s l i = 0 := by
  unfold locksE at h
  split at h
  · rename_i h1; exact absurd h h1
  split at h
  · cases h
  · exact firstE_zero h i hi
theorem otherB_symm {a b : Lck} (h : otherB a b = false) : otherB b a = false := by
  unfold otherB at h ⊢
  rw [List.any_eq_false] at h ⊢
  intro x hx
  rw [List.any_eq_true]
  rintro ⟨y, hy, hxy⟩
  rw [Bool.and_eq_true, decide_eq_true_eq, decide_eq_true_eq] at hxy
  refine h y hy ?_
  rw [List.any_eq_true]
  exact ⟨x, hx, by rw [Bool.and_eq_true, decide_eq_true_eq, decide_eq_true_eq]; exact ⟨hxy.1.symm, fun e => hxy.2 e.symm⟩⟩
theorem other_self2 {k : Lck} (hu : uniqK k.force) : otherB k k = false := by
  unfold otherB
  rw [List.any_eq_false]
  intro x hx
  rw [List.any_eq_true]
  rintro ⟨y, hy, hxy⟩
  rw [Bool.and_eq_true, decide_eq_true_eq, decide_eq_true_eq] at hxy
  obtain ⟨i, hi, rfl⟩ := List.getElem_of_mem hx
  obtain ⟨j, hj, rfl⟩ := List.getElem_of_mem hy
  have gi : k.force.getD i default = k.force[i] := by simp [List.getD, hi]
  have gj : k.force.getD j default = k.force[j] := by simp [List.getD, hj]
  rcases Nat.lt_trichotomy i j with h | h | h
  · exact hu j hj i h (by rw [gi, gj]; exact hxy.1)
  · subst h; exact hxy.2 rfl
  · exact hu i hi j h (by rw [gi, gj]; exact hxy.1.symm)
theorem anyN_at2 {n : Nat} {p : Nat → Bool} (h : anyN n p = false) (i : Nat) (hi : i < n) : p i = false := by
  cases hp : p i with
  | false => rfl
  | true => rw [anyN_true hi hp] at h; cases h
theorem against_at {a b : Lck} (h : againstB a b = false) {p q : Nat} (hp : p < a.force.length) (hq : q < b.forbid.length) (hk : (a.force.getD p default).key = (b.forbid.getD q default).key) : (a.force.getD p default).value ≠ (b.forbid.getD q default).value := by
  unfold againstB at h
  rw [← anyN_any] at h
  have h1 := anyN_at2 h p hp
  rw [← anyN_any] at h1
  have h2 := anyN_at2 h1 q hq
  rw [decide_eq_true hk, Bool.true_and, decide_eq_false_iff_not] at h2
  exact h2
theorem other_at {a b : Lck} (h : otherB a b = false) {p q : Nat} (hp : p < a.force.length) (hq : q < b.force.length) (hk : (a.force.getD p default).key = (b.force.getD q default).key) : (a.force.getD p default).value = (b.force.getD q default).value := by
  unfold otherB at h
  rw [← anyN_any] at h
  have h1 := anyN_at2 h p hp
  rw [← anyN_any] at h1
  have h2 := anyN_at2 h1 q hq
  rw [decide_eq_true hk, Bool.true_and, decide_eq_false_iff_not] at h2
  exact Classical.not_not.1 h2
theorem locks_agree {s : Sco} {l : List Lck} (h : locksE s l = 0) {i k : Nat} (hi : i < l.length) (hk : k < l.length) (hr : (l.getD i default).rank = (l.getD k default).rank) :
    againstB (l.getD i default) (l.getD k default) = false ∧ otherB (l.getD i default) (l.getD k default) = false := by
  have hc : ∀ i, i < l.length → headE s l i = 0 ∧ clashAt l i = false := fun i hi => by
    have := locksE_one h hi
    rw [oneE_eq] at this
    split at this
    · rename_i h1; exact absurd this h1
    · rename_i h1
      split at this
      · cases this
      · rename_i h2; exact ⟨by simpa using h1, by simpa using h2⟩
  have two : ∀ j i, i < l.length → j < i → (l.getD j default).rank = (l.getD i default).rank → againstB (l.getD j default) (l.getD i default) = false ∧ againstB (l.getD i default) (l.getD j default) = false ∧ otherB (l.getD j default) (l.getD i default) = false := fun j i hi hj hr => by
    have h1 := (hc i hi).2
    unfold clashAt at h1
    rw [Bool.or_eq_false_iff] at h1
    have h2 := anyN_at2 h1.2 j hj
    unfold clashB at h2
    rw [decide_eq_true hr, Bool.true_and, Bool.or_eq_false_iff, Bool.or_eq_false_iff] at h2
    exact ⟨h2.1.1, h2.1.2, h2.2⟩
  rcases Nat.lt_trichotomy i k with hlt | he | hlt
  · have := two i k hk hlt hr
    exact ⟨this.1, this.2.2⟩
  · subst he
    have h1 := (hc i hi).2
    unfold clashAt at h1
    rw [Bool.or_eq_false_iff] at h1
    refine ⟨h1.1, other_self2 ?_⟩
    have h2 := (hc i hi).1
    unfold headE at h2
    split at h2; · cases h2
    split at h2; · cases h2
    split at h2; · cases h2
    split at h2
    · rename_i h3; exact absurd h2 h3
    split at h2; · cases h2
    exact force_uniq (itemsE_force h2)
  · have := two k i hi hlt hr.symm
    exact ⟨this.2.1, otherB_symm this.2.2⟩
set_option maxHeartbeats 4000000 in
theorem ac_law45_InterlockAgrees (s : Sco) (l : List Lck) (hs : smallS s) (hl : smallL l) : AC Tryz.prog 4 [.pv (.agg (cSco s)), .pv (roL 16 cLck l)] [] (.pv (vbool true)) [] := by
  have hl2 : l.length ≤ 1048576 := hl
  refine AC.of_awp (T := T) T_ok hm Tryz.call4 Tryz.func4 rfl rfl rfl ?_
  conv => whnf
  repeat (any_goals (first
    | (refine ⟨fun (h : (_ : Bool) = true) => ?_, fun (h : (_ : Bool) = false) => ?_⟩ <;> (try simp only [decide_eq_true_eq, decide_eq_false_iff_not, Bool.not_eq_true', Bool.not_eq_false', Int.toNat_natCast, beq_iff_eq, decide_eq_decide, beq_eq_false_iff_ne, ne_eq, reduceCtorEq] at h) <;> (conv => whnf))
    | (refine .inl ⟨_, ac_law45_scope s hs, ?_⟩; conv => whnf)
    | (refine .inl ⟨_, ac_law45_few l hl, ?_⟩; conv => whnf)
    | (refine .inl ⟨_, ac_law45_awake, ?_⟩; conv => whnf)
    | (refine .inl ⟨_, ac_interlock_Check s l hs (few_good hl (by assumption)), ?_⟩; conv => whnf)
    | (refine And.intro (by (try simp only [Int.toNat_natCast]); omega) ?_; conv => whnf)
    | (refine And.intro (show (_ : Bool) = true from by kernel_rfl) ?_; conv => whnf)
    | (refine .inl ⟨wrap64 (by omega), ?_⟩; conv => whnf)))
  all_goals try (exact PSub.rfl)
  rename_i hz
  have hgood := few_good hl (by assumption)
  have hcheck : locksE s l = 0 := by assumption
  refine loop_k (ι := Nat) [1, 30, 31] [] (fun i => i ≤ l.length ∧ True) (fun i => l.length - i) 0 (fun i => [(32, .pv (vint i))]) (fun _ => []) [] ⟨Nat.zero_le _, trivial⟩ ?_ (fun i hk => ?_)
  · (repeat' (first | exact PSub.rfl | exact rfl | exact PSubs.rfl | exact trivial | exact PSub.lit_sb rfl | refine And.intro ?_ ?_))
  obtain ⟨hkn, hinv⟩ := hk
  conv => whnf
  repeat (any_goals (first
    | (refine ⟨fun (h : (_ : Bool) = true) => ?_, fun (h : (_ : Bool) = false) => ?_⟩ <;> (try simp only [decide_eq_true_eq, decide_eq_false_iff_not, Bool.not_eq_true', Bool.not_eq_false', Int.toNat_natCast, beq_iff_eq, decide_eq_decide, beq_eq_false_iff_ne, ne_eq, reduceCtorEq] at h) <;> (conv => whnf))
    | (refine And.intro (by (try simp only [Int.toNat_natCast]); omega) ?_; conv => whnf)
    | (refine And.intro (show (_ : Bool) = true from by kernel_rfl) ?_; conv => whnf)
    | (refine .inl ⟨wrap64 (by omega), ?_⟩; conv => whnf)))
  · have hi : i < l.length := by omega
    have hgi := hgood.2 i hi
    have hf1 : (l.getD i default).force.length ≤ 1048576 := hgi.1
    refine loop_k (ι := Nat) [1, 6, 30, 31, 32, 36, 37] [6] (fun k => k ≤ l.length ∧ True) (fun k => l.length - k) 0 (fun k => [(38, .pv (vint k))]) (fun _ => []) [] ⟨Nat.zero_le _, trivial⟩ ?_ (fun k hk => ?_)
    · (repeat' (first | exact PSub.rfl | exact rfl | exact PSubs.rfl | exact trivial | exact PSub.lit_sb rfl | refine And.intro ?_ ?_))
    obtain ⟨hkn, hinv⟩ := hk
    conv => whnf
    repeat (any_goals (first
      | (refine ⟨fun (h : (_ : Bool) = true) => ?_, fun (h : (_ : Bool) = false) => ?_⟩ <;> (try simp only [decide_eq_true_eq, decide_eq_false_iff_not, Bool.not_eq_true', Bool.not_eq_false', Int.toNat_natCast, beq_iff_eq, decide_eq_decide, beq_eq_false_iff_ne, ne_eq, reduceCtorEq] at h) <;> (conv => whnf))
      | (refine And.intro (by (try simp only [Int.toNat_natCast]); omega) ?_; conv => whnf)
      | (refine And.intro (show (_ : Bool) = true from by kernel_rfl) ?_; conv => whnf)
      | (refine .inl ⟨wrap64 (by omega), ?_⟩; conv => whnf)))
    · refine ⟨k + 1, [], ⟨by omega, ?_⟩, by first | omega | (dsimp only; omega), ?_⟩
      rotate_left
      · (repeat' (first | exact PSub.rfl | exact rfl | exact PSubs.rfl | exact trivial | exact PSub.lit_sb rfl | refine And.intro ?_ ?_))
      trivial
    · have hk : k < l.length := by omega
      have hag := locks_agree hcheck hi hk h
      have hgk := hgood.2 k hk
      have hf2 : (l.getD k default).force.length ≤ 1048576 := hgk.1
      have hf3 : (l.getD k default).forbid.length ≤ 1048576 := hgk.2.1
      refine loop_k (ι := Nat) [1, 6, 8, 30, 31, 32, 36, 37, 38, 48, 49] [6, 8] (fun p => p ≤ (l.getD i default).force.length ∧ True) (fun p => (l.getD i default).force.length - p) 0 (fun p => [(50, .pv (vint p))]) (fun _ => []) [] ⟨Nat.zero_le _, trivial⟩ ?_ (fun p hk => ?_)
      · (repeat' (first | exact PSub.rfl | exact rfl | exact PSubs.rfl | exact trivial | exact PSub.lit_sb rfl | refine And.intro ?_ ?_))
      obtain ⟨hkn, hinv⟩ := hk
      conv => whnf
      repeat (any_goals (first
        | (refine ⟨fun (h : (_ : Bool) = true) => ?_, fun (h : (_ : Bool) = false) => ?_⟩ <;> (try simp only [decide_eq_true_eq, decide_eq_false_iff_not, Bool.not_eq_true', Bool.not_eq_false', Int.toNat_natCast, beq_iff_eq, decide_eq_decide, beq_eq_false_iff_ne, ne_eq, reduceCtorEq] at h) <;> (conv => whnf))
        | (refine And.intro (by (try simp only [Int.toNat_natCast]); omega) ?_; conv => whnf)
        | (refine And.intro (show (_ : Bool) = true from by kernel_rfl) ?_; conv => whnf)
        | (refine .inl ⟨wrap64 (by omega), ?_⟩; conv => whnf)))
      · have hp : p < (l.getD i default).force.length := by omega
        refine loop_k (ι := Nat) [1, 6, 8, 10, 30, 31, 32, 36, 37, 38, 48, 49, 50, 55, 56] [6, 8, 10] (fun q => q ≤ (l.getD k default).force.length ∧ True) (fun q => (l.getD k default).force.length - q) 0 (fun q => [(57, .pv (vint q))]) (fun _ => []) [] ⟨Nat.zero_le _, trivial⟩ ?_ (fun q hk => ?_)
        · (repeat' (first | exact PSub.rfl | exact rfl | exact PSubs.rfl | exact trivial | exact PSub.lit_sb rfl | refine And.intro ?_ ?_))
        obtain ⟨hkn, hinv⟩ := hk
        conv => whnf
        repeat (any_goals (first
          | (refine ⟨fun (h : (_ : Bool) = true) => ?_, fun (h : (_ : Bool) = false) => ?_⟩ <;> (try simp only [decide_eq_true_eq, decide_eq_false_iff_not, Bool.not_eq_true', Bool.not_eq_false', Int.toNat_natCast, beq_iff_eq, decide_eq_decide, beq_eq_false_iff_ne, ne_eq, reduceCtorEq] at h) <;> (conv => whnf))
          | (refine And.intro (by (try simp only [Int.toNat_natCast]); omega) ?_; conv => whnf)
          | (refine And.intro (show (_ : Bool) = true from by kernel_rfl) ?_; conv => whnf)
          | (refine .inl ⟨wrap64 (by omega), ?_⟩; conv => whnf)))
        · rename_i h1
          have hq : q < (l.getD k default).force.length := by omega
          have hkey := of_decide_eq_true ((key_eq _ _).symm.trans h1)
          exact absurd (other_at hag.2 hp hq hkey) (of_decide_eq_false ((val_eq _ _).symm.trans h))
        · refine ⟨q + 1, [], ⟨by omega, ?_⟩, by first | omega | (dsimp only; omega), ?_⟩
          rotate_left
          · (repeat' (first | exact PSub.rfl | exact rfl | exact PSubs.rfl | exact trivial | exact PSub.lit_sb rfl | refine And.intro ?_ ?_))
          trivial
        · refine ⟨q + 1, [], ⟨by omega, ?_⟩, by first | omega | (dsimp only; omega), ?_⟩
          rotate_left
          · (repeat' (first | exact PSub.rfl | exact rfl | exact PSubs.rfl | exact trivial | exact PSub.lit_sb rfl | refine And.intro ?_ ?_))
          trivial
        · clear hinv hkn
          refine loop_k (ι := Nat) [1, 6, 8, 10, 30, 31, 32, 36, 37, 38, 48, 49, 50, 75, 76] [6, 8, 10] (fun q2 => q2 ≤ (l.getD k default).forbid.length ∧ True) (fun q2 => (l.getD k default).forbid.length - q2) 0 (fun q2 => [(77, .pv (vint q2))]) (fun _ => []) [] ⟨Nat.zero_le _, trivial⟩ ?_ (fun q2 hk => ?_)
          · (repeat' (first | exact PSub.rfl | exact rfl | exact PSubs.rfl | exact trivial | exact PSub.lit_sb rfl | refine And.intro ?_ ?_))
          obtain ⟨hkn, hinv⟩ := hk
          conv => whnf
          repeat (any_goals (first
            | (refine ⟨fun (h : (_ : Bool) = true) => ?_, fun (h : (_ : Bool) = false) => ?_⟩ <;> (try simp only [decide_eq_true_eq, decide_eq_false_iff_not, Bool.not_eq_true', Bool.not_eq_false', Int.toNat_natCast, beq_iff_eq, decide_eq_decide, beq_eq_false_iff_ne, ne_eq, reduceCtorEq] at h) <;> (conv => whnf))
            | (refine And.intro (by (try simp only [Int.toNat_natCast]); omega) ?_; conv => whnf)
            | (refine And.intro (show (_ : Bool) = true from by kernel_rfl) ?_; conv => whnf)
            | (refine .inl ⟨wrap64 (by omega), ?_⟩; conv => whnf)))
          · rename_i h1
            have hq : q2 < (l.getD k default).forbid.length := by omega
            have hkey := of_decide_eq_true ((key_eq _ _).symm.trans h1)
            exact absurd (of_decide_eq_true ((val_eq _ _).symm.trans h)) (against_at hag.1 hp hq hkey)
          · refine ⟨q2 + 1, [], ⟨by omega, ?_⟩, by first | omega | (dsimp only; omega), ?_⟩
            rotate_left
            · (repeat' (first | exact PSub.rfl | exact rfl | exact PSubs.rfl | exact trivial | exact PSub.lit_sb rfl | refine And.intro ?_ ?_))
            trivial
          · refine ⟨q2 + 1, [], ⟨by omega, ?_⟩, by first | omega | (dsimp only; omega), ?_⟩
            rotate_left
            · (repeat' (first | exact PSub.rfl | exact rfl | exact PSubs.rfl | exact trivial | exact PSub.lit_sb rfl | refine And.intro ?_ ?_))
            trivial
          · refine ⟨p + 1, [], ⟨by omega, ?_⟩, by first | omega | (dsimp only; omega), ?_⟩
            rotate_left
            · (repeat' (first | exact PSub.rfl | exact rfl | exact PSubs.rfl | exact trivial | exact PSub.lit_sb rfl | refine And.intro ?_ ?_))
            trivial
      · refine ⟨k + 1, [], ⟨by omega, ?_⟩, by first | omega | (dsimp only; omega), ?_⟩
        rotate_left
        · (repeat' (first | exact PSub.rfl | exact rfl | exact PSubs.rfl | exact trivial | exact PSub.lit_sb rfl | refine And.intro ?_ ?_))
        trivial
    · refine ⟨i + 1, [], ⟨by omega, ?_⟩, by first | omega | (dsimp only; omega), ?_⟩
      rotate_left
      · (repeat' (first | exact PSub.rfl | exact rfl | exact PSubs.rfl | exact trivial | exact PSub.lit_sb rfl | refine And.intro ?_ ?_))
      trivial
  · repeat (any_goals (first
      | (refine ⟨fun (h : (_ : Bool) = true) => ?_, fun (h : (_ : Bool) = false) => ?_⟩ <;> (try simp only [decide_eq_true_eq, decide_eq_false_iff_not, Bool.not_eq_true', Bool.not_eq_false', Int.toNat_natCast, beq_iff_eq, decide_eq_decide, beq_eq_false_iff_ne, ne_eq, reduceCtorEq] at h) <;> (conv => whnf))
      | (refine .inl ⟨_, ac_law45_awake, ?_⟩; conv => whnf)
      | (refine And.intro (by (try simp only [Int.toNat_natCast]); omega) ?_; conv => whnf)
      | (refine And.intro (show (_ : Bool) = true from by kernel_rfl) ?_; conv => whnf)
      | (refine .inl ⟨wrap64 (by omega), ?_⟩; conv => whnf)))
    exact PSub.rfl
end Go.Abs
