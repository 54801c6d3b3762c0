/- Contracts: scenes joined, captured. -/
import Derived.Test.YthelcfpfbnhcjaaX05

set_option linter.unusedVariables false
set_option linter.unusedSimpArgs false
set_option linter.unusedSectionVars false

namespace Go.Abs
open Go.Proofs
set_option maxRecDepth 10000

theorem map_succ {α β : Type} [Inhabited α] {l : List α} {k : Nat} {f : α → β} (hk : k < l.length) : (l.take (k + 1)).map f = (l.take k).map f ++ [f (l.getD k default)] := by
  rw [take_succ_getD hk, List.map_append]; rfl

theorem ac_scene_Join (a b : Scene) (ha : smallL a.items) (hb : smallL b.items) : AC Try.prog 30 [.pv (.agg (cSce a)), .pv (.agg (cSce b))] [] (.pv (.agg (cSce (joinS a b)))) [] := by
  have ha' : a.items.length ≤ 1048576 := ha
  have hb' : b.items.length ≤ 1048576 := hb
  refine AC.of_awp (T := T) T_ok hm Try.call30 Try.func30 rfl rfl rfl ?_
  conv => whnf
  repeat (any_goals (first
    | (refine ⟨fun (h : (_ : Bool) = true) => ?_, fun (h : (_ : Bool) = false) => ?_⟩ <;> (try simp only [decide_eq_true_eq, decide_eq_false_iff_not, Bool.not_eq_true', Bool.not_eq_false', Int.toNat_natCast, beq_iff_eq, decide_eq_decide, beq_eq_false_iff_ne, ne_eq, reduceCtorEq] at h) <;> (conv => whnf))
    | (refine .inl ⟨_, ac_scene_index a.items ha, ?_⟩; conv => whnf)
    | (refine .inl ⟨_, ac_scene_index b.items hb, ?_⟩; conv => whnf)
    | (refine And.intro (by (try simp only [Int.toNat_natCast]); omega) ?_; conv => whnf)
    | (refine And.intro (show (_ : Bool) = true from by kernel_rfl) ?_; conv => whnf)
    | (refine .inl ⟨wrap64 (by omega), ?_⟩; conv => whnf)))
  refine loop_k (ι := Nat) [2, 3, 4, 5, 6, 24, 25] [2, 3, 4] (fun k => k ≤ a.items.length ∧ True) (fun k => a.items.length - k) 0 (fun k => [(7, .own 500), (26, .pv (vint k))]) (fun k => [(500, rowL 3 cKey ((a.items.take k).map Item.key))]) [] ⟨Nat.zero_le _, trivial⟩ ?_ (fun k hk => ?_)
  · (repeat' (first | exact PSub.rfl | exact rfl | exact PSubs.rfl | exact trivial | refine And.intro ?_ ?_)); all_goals (skip)
  obtain ⟨hkn, hinv⟩ := hk
  conv => whnf
  have hlen : ((a.items.take k).map Item.key).length = k := by simp; omega
  repeat (any_goals (first
    | (refine ⟨fun (h : (_ : Bool) = true) => ?_, fun (h : (_ : Bool) = false) => ?_⟩ <;> (try simp only [decide_eq_true_eq, decide_eq_false_iff_not, Bool.not_eq_true', Bool.not_eq_false', Int.toNat_natCast, beq_iff_eq, decide_eq_decide, beq_eq_false_iff_ne, ne_eq, reduceCtorEq] at h) <;> (conv => whnf))
    | (refine And.intro (by (try simp only [Int.toNat_natCast]); omega) ?_; conv => whnf)
    | (refine And.intro (show (_ : Bool) = true from by kernel_rfl) ?_; conv => whnf)
    | (refine .inl ⟨wrap64 (by omega), ?_⟩; conv => whnf)))
  · refine ⟨k + 1, [(500, 34)], ⟨by omega, trivial⟩, by omega, ?_⟩
    rw [map_succ (by omega)]
    (repeat' (first | exact PSub.rfl | exact rfl | exact PSubs.rfl | exact trivial | refine And.intro ?_ ?_))
    · simp
    · refine rows_snocF (fun i hi => by simp only [if_pos hi]; exact PSubs.rfl) (by simp only [if_neg (Nat.lt_irrefl _), Nat.sub_self]; exact PSubs.rfl)
  have ek : k = a.items.length := by omega
  subst ek
  clear hlen h hkn
  rw [List.take_length]
  refine loop_k (ι := Nat) [2, 4, 5, 6, 37, 38] [2, 4] (fun k => k ≤ b.items.length ∧ True) (fun k => b.items.length - k) 0 (fun k => [(7, .own 500), (39, .pv (vint k))]) (fun k => [(500, rowL 3 cKey (a.items.map Item.key ++ (b.items.take k).map Item.key))]) [] ⟨Nat.zero_le _, trivial⟩ ?_ (fun k hk => ?_)
  · (repeat' (first | exact PSub.rfl | exact rfl | exact PSubs.rfl | exact trivial | refine And.intro ?_ ?_)); all_goals (first | (simp; done) | (simp only [List.take_zero, List.map_nil, List.append_nil]; intro i hi; exact PSubs.rfl))
  obtain ⟨hkn, hinv⟩ := hk
  conv => whnf
  have hlen : (a.items.map Item.key ++ (b.items.take k).map Item.key).length = a.items.length + k := by simp; omega
  repeat (any_goals (first
    | (refine ⟨fun (h : (_ : Bool) = true) => ?_, fun (h : (_ : Bool) = false) => ?_⟩ <;> (try simp only [decide_eq_true_eq, decide_eq_false_iff_not, Bool.not_eq_true', Bool.not_eq_false', Int.toNat_natCast, beq_iff_eq, decide_eq_decide, beq_eq_false_iff_ne, ne_eq, reduceCtorEq] at h) <;> (conv => whnf))
    | (refine .inl ⟨_, ac_scene_ascending (a.items.map Item.key ++ (b.items.take k).map Item.key) (by omega), ?_⟩; conv => whnf)
    | (refine And.intro (by (try simp only [Int.toNat_natCast]); omega) ?_; conv => whnf)
    | (refine And.intro (show (_ : Bool) = true from by kernel_rfl) ?_; conv => whnf)
    | (refine .inl ⟨wrap64 (by omega), ?_⟩; conv => whnf)))
  · refine ⟨k + 1, [(500, 47)], ⟨by omega, trivial⟩, by omega, ?_⟩
    rw [map_succ (by omega), ← List.append_assoc]
    (repeat' (first | exact PSub.rfl | exact rfl | exact PSubs.rfl | exact trivial | refine And.intro ?_ ?_))
    · simp; omega
    · refine rows_snocF (fun i hi => by simp only [if_pos hi]; exact PSubs.rfl) (by simp only [if_neg (Nat.lt_irrefl _), Nat.sub_self]; exact PSubs.rfl)
  have ek : k = b.items.length := by omega
  subst ek
  rw [List.take_length] at *
  unfold joinS
  have hkl := sortK_length (a.items.map Item.key ++ b.items.map Item.key)
  rw [hlen] at hkl
  generalize sortK (a.items.map Item.key ++ b.items.map Item.key) = ks at *
  clear hlen h hkn
  refine loop_k (ι := Nat) [4, 5, 6, 12, 53, 54] [4] (fun k => k ≤ ks.length ∧ True) (fun k => ks.length - k) 0 (fun k => [(55, .pv (vint k))]) (fun k => [(12, .box [.pv (vstr a.name), .own 501]), (501, rowL 7 cItem ((ks.take k).map (joinI a.items b.items)))]) [] ⟨Nat.zero_le _, trivial⟩ ?_ (fun k hk => ?_)
  · (repeat' (first | exact PSub.rfl | exact rfl | exact PSubs.rfl | exact trivial | refine And.intro ?_ ?_)); all_goals (skip)
  obtain ⟨hkn, hinv⟩ := hk
  conv => whnf
  have hlen : ((ks.take k).map (joinI a.items b.items)).length = k := by simp; omega
  repeat (any_goals (first
    | (refine ⟨fun (h : (_ : Bool) = true) => ?_, fun (h : (_ : Bool) = false) => ?_⟩ <;> (try simp only [decide_eq_true_eq, decide_eq_false_iff_not, Bool.not_eq_true', Bool.not_eq_false', Int.toNat_natCast, beq_iff_eq, decide_eq_decide, beq_eq_false_iff_ne, ne_eq, reduceCtorEq] at h) <;> (conv => whnf))
    | (refine And.intro (by (try simp only [Int.toNat_natCast]); omega) ?_; conv => whnf)
    | (refine And.intro (show (_ : Bool) = true from by kernel_rfl) ?_; conv => whnf)
    | (refine .inl ⟨wrap64 (by omega), ?_⟩; conv => whnf)))
  · have hms := map_succ (l := ks) (k := k) (f := joinI a.items b.items) (by omega)
    refine ⟨fun p hp => ?_, fun hp => ?_⟩
    · change (findI b.items (ks.getD k default)).map _ = some p at hp
      cases hz : findI b.items (ks.getD k default) with
      | none => rw [hz] at hp; cases hp
      | some z =>
        rw [hz] at hp; cases hp
        rw [show joinI a.items b.items (ks.getD k default) = z by rw [joinI, hz]; rfl] at hms
        conv => whnf
        repeat (any_goals (first
          | (refine ⟨fun (h : (_ : Bool) = true) => ?_, fun (h : (_ : Bool) = false) => ?_⟩ <;> (try simp only [decide_eq_true_eq, decide_eq_false_iff_not, Bool.not_eq_true', Bool.not_eq_false', Int.toNat_natCast, beq_iff_eq, decide_eq_decide, beq_eq_false_iff_ne, ne_eq, reduceCtorEq] at h) <;> (conv => whnf))
          | (refine And.intro (by (try simp only [Int.toNat_natCast]); omega) ?_; conv => whnf)
          | (refine And.intro (show (_ : Bool) = true from by kernel_rfl) ?_; conv => whnf)
          | (refine .inl ⟨wrap64 (by omega), ?_⟩; conv => whnf)))
        refine ⟨k + 1, [(501, 70)], ⟨by omega, trivial⟩, by omega, ?_⟩
        rw [hms]
        (repeat' (first | exact PSub.rfl | exact rfl | exact PSubs.rfl | exact trivial | refine And.intro ?_ ?_))
        · simp
        · refine rows_snocF (fun i hi => by simp only [if_pos hi]; exact PSubs.rfl) (by simp only [if_neg (Nat.lt_irrefl _), Nat.sub_self]; exact PSubs.rfl)
    · change (findI b.items (ks.getD k default)).map _ = none at hp
      have hz : findI b.items (ks.getD k default) = none := by simpa using hp
      conv => whnf
      repeat (any_goals (first
        | (refine ⟨fun (h : (_ : Bool) = true) => ?_, fun (h : (_ : Bool) = false) => ?_⟩ <;> (try simp only [decide_eq_true_eq, decide_eq_false_iff_not, Bool.not_eq_true', Bool.not_eq_false', Int.toNat_natCast, beq_iff_eq, decide_eq_decide, beq_eq_false_iff_ne, ne_eq, reduceCtorEq] at h) <;> (conv => whnf))
        | (refine And.intro (by (try simp only [Int.toNat_natCast]); omega) ?_; conv => whnf)
        | (refine And.intro (show (_ : Bool) = true from by kernel_rfl) ?_; conv => whnf)
        | (refine .inl ⟨wrap64 (by omega), ?_⟩; conv => whnf)))
      refine ⟨fun p hp => ?_, fun hp => ?_⟩
      · change (findI a.items (ks.getD k default)).map _ = some p at hp
        cases hy : findI a.items (ks.getD k default) with
        | none => rw [hy] at hp; cases hp
        | some y =>
          rw [hy] at hp; cases hp
          rw [show joinI a.items b.items (ks.getD k default) = y by rw [joinI, hz, hy]; rfl] at hms
          conv => whnf
          repeat (any_goals (first
            | (refine ⟨fun (h : (_ : Bool) = true) => ?_, fun (h : (_ : Bool) = false) => ?_⟩ <;> (try simp only [decide_eq_true_eq, decide_eq_false_iff_not, Bool.not_eq_true', Bool.not_eq_false', Int.toNat_natCast, beq_iff_eq, decide_eq_decide, beq_eq_false_iff_ne, ne_eq, reduceCtorEq] at h) <;> (conv => whnf))
            | (refine And.intro (by (try simp only [Int.toNat_natCast]); omega) ?_; conv => whnf)
            | (refine And.intro (show (_ : Bool) = true from by kernel_rfl) ?_; conv => whnf)
            | (refine .inl ⟨wrap64 (by omega), ?_⟩; conv => whnf)))
          refine ⟨k + 1, [(501, 78)], ⟨by omega, trivial⟩, by omega, ?_⟩
          rw [hms]
          (repeat' (first | exact PSub.rfl | exact rfl | exact PSubs.rfl | exact trivial | refine And.intro ?_ ?_))
          · simp
          · refine rows_snocF (fun i hi => by simp only [if_pos hi]; exact PSubs.rfl) (by simp only [if_neg (Nat.lt_irrefl _), Nat.sub_self]; exact PSubs.rfl)
      · change (findI a.items (ks.getD k default)).map _ = none at hp
        have hy : findI a.items (ks.getD k default) = none := by simpa using hp
        rw [show joinI a.items b.items (ks.getD k default) = noItem by rw [joinI, hz, hy]; rfl] at hms
        conv => whnf
        repeat (any_goals (first
          | (refine ⟨fun (h : (_ : Bool) = true) => ?_, fun (h : (_ : Bool) = false) => ?_⟩ <;> (try simp only [decide_eq_true_eq, decide_eq_false_iff_not, Bool.not_eq_true', Bool.not_eq_false', Int.toNat_natCast, beq_iff_eq, decide_eq_decide, beq_eq_false_iff_ne, ne_eq, reduceCtorEq] at h) <;> (conv => whnf))
          | (refine And.intro (by (try simp only [Int.toNat_natCast]); omega) ?_; conv => whnf)
          | (refine And.intro (show (_ : Bool) = true from by kernel_rfl) ?_; conv => whnf)
          | (refine .inl ⟨wrap64 (by omega), ?_⟩; conv => whnf)))
        refine ⟨k + 1, [(501, 78)], ⟨by omega, trivial⟩, by omega, ?_⟩
        rw [hms]
        (repeat' (first | exact PSub.rfl | exact rfl | exact PSubs.rfl | exact trivial | refine And.intro ?_ ?_))
        · simp
        · refine rows_snocF (fun i hi => by simp only [if_pos hi]; exact PSubs.rfl) (by simp only [if_neg (Nat.lt_irrefl _), Nat.sub_self]; exact PSubs.rfl)
  · rw [List.take_of_length_le (by omega)]
    exact .rfl

theorem ac_r36_Join (a b : Scene) (ha : smallL a.items) (hb : smallL b.items) : AC Try.prog 31 [.pv (.agg (cSce a)), .pv (.agg (cSce b))] [] (.pv (.agg (cSce (joinS a b)))) [] := by
  have ha' : a.items.length ≤ 1048576 := ha
  have hb' : b.items.length ≤ 1048576 := hb
  refine AC.of_awp (T := T) T_ok hm Try.call31 Try.func31 rfl rfl rfl ?_
  conv => whnf
  refine loop_k (ι := Nat) [2, 3, 4, 14] [2, 3, 4] (fun k => k ≤ a.items.length ∧ True) (fun k => a.items.length - k) 0 (fun k => [(5, .own 500), (15, .pv (vint k))]) (fun k => [(500, rowL 3 cKey ((a.items.take k).map Item.key))]) [] ⟨Nat.zero_le _, trivial⟩ ?_ (fun k hk => ?_)
  · (repeat' (first | exact PSub.rfl | exact rfl | exact PSubs.rfl | exact trivial | refine And.intro ?_ ?_)); all_goals (skip)
  obtain ⟨hkn, hinv⟩ := hk
  conv => whnf
  have hlen : ((a.items.take k).map Item.key).length = k := by simp; omega
  repeat (any_goals (first
    | (refine ⟨fun (h : (_ : Bool) = true) => ?_, fun (h : (_ : Bool) = false) => ?_⟩ <;> (try simp only [decide_eq_true_eq, decide_eq_false_iff_not, Bool.not_eq_true', Bool.not_eq_false', Int.toNat_natCast, beq_iff_eq, decide_eq_decide, beq_eq_false_iff_ne, ne_eq, reduceCtorEq] at h) <;> (conv => whnf))
    | (refine And.intro (by (try simp only [Int.toNat_natCast]); omega) ?_; conv => whnf)
    | (refine And.intro (show (_ : Bool) = true from by kernel_rfl) ?_; conv => whnf)
    | (refine .inl ⟨wrap64 (by omega), ?_⟩; conv => whnf)))
  · refine ⟨k + 1, [(500, 26)], ⟨by omega, trivial⟩, by omega, ?_⟩
    rw [map_succ (by omega)]
    (repeat' (first | exact PSub.rfl | exact rfl | exact PSubs.rfl | exact trivial | refine And.intro ?_ ?_))
    · simp
    · refine rows_snocF (fun i hi => by simp only [if_pos hi]; exact PSubs.rfl) (by simp only [if_neg (Nat.lt_irrefl _), Nat.sub_self]; exact PSubs.rfl)
  have ek : k = a.items.length := by omega
  subst ek
  clear hlen h hkn
  rw [List.take_length]
  refine loop_k (ι := Nat) [2, 3, 4, 30] [2, 3, 4] (fun k => k ≤ b.items.length ∧ True) (fun k => b.items.length - k) 0 (fun k => [(5, .own 500), (31, .pv (vint k))]) (fun k => [(500, rowL 3 cKey (a.items.map Item.key ++ (b.items.take k).map Item.key))]) [] ⟨Nat.zero_le _, trivial⟩ ?_ (fun k hk => ?_)
  · (repeat' (first | exact PSub.rfl | exact rfl | exact PSubs.rfl | exact trivial | refine And.intro ?_ ?_)); all_goals (first | (simp; done) | (simp only [List.take_zero, List.map_nil, List.append_nil]; intro i hi; exact PSubs.rfl))
  obtain ⟨hkn, hinv⟩ := hk
  conv => whnf
  have hlen : (a.items.map Item.key ++ (b.items.take k).map Item.key).length = a.items.length + k := by simp; omega
  repeat (any_goals (first
    | (refine ⟨fun (h : (_ : Bool) = true) => ?_, fun (h : (_ : Bool) = false) => ?_⟩ <;> (try simp only [decide_eq_true_eq, decide_eq_false_iff_not, Bool.not_eq_true', Bool.not_eq_false', Int.toNat_natCast, beq_iff_eq, decide_eq_decide, beq_eq_false_iff_ne, ne_eq, reduceCtorEq] at h) <;> (conv => whnf))
    | (refine .inl ⟨_, ac_r36_Sorted (a.items.map Item.key ++ (b.items.take k).map Item.key) (by omega), ?_⟩; conv => whnf)
    | (refine And.intro (by (try simp only [Int.toNat_natCast]); omega) ?_; conv => whnf)
    | (refine And.intro (show (_ : Bool) = true from by kernel_rfl) ?_; conv => whnf)
    | (refine .inl ⟨wrap64 (by omega), ?_⟩; conv => whnf)))
  · refine ⟨k + 1, [(500, 42)], ⟨by omega, trivial⟩, by omega, ?_⟩
    rw [map_succ (by omega), ← List.append_assoc]
    (repeat' (first | exact PSub.rfl | exact rfl | exact PSubs.rfl | exact trivial | refine And.intro ?_ ?_))
    · simp; omega
    · refine rows_snocF (fun i hi => by simp only [if_pos hi]; exact PSubs.rfl) (by simp only [if_neg (Nat.lt_irrefl _), Nat.sub_self]; exact PSubs.rfl)
  have ek : k = b.items.length := by omega
  subst ek
  rw [List.take_length] at *
  unfold joinS
  have hkl := sortK_length (a.items.map Item.key ++ b.items.map Item.key)
  rw [hlen] at hkl
  generalize sortK (a.items.map Item.key ++ b.items.map Item.key) = ks at *
  clear hlen h hkn
  refine loop_k (ι := Nat) [2, 3, 4, 5, 8, 50] [2, 3, 4] (fun k => k ≤ ks.length ∧ True) (fun k => ks.length - k) 0 (fun k => [(51, .pv (vint k))]) (fun k => [(8, .box [.pv (vstr a.name), .own 501]), (501, rowL 7 cItem ((ks.take k).map (joinI a.items b.items)))]) [] ⟨Nat.zero_le _, trivial⟩ ?_ (fun k hk => ?_)
  · (repeat' (first | exact PSub.rfl | exact rfl | exact PSubs.rfl | exact trivial | refine And.intro ?_ ?_)); all_goals (skip)
  obtain ⟨hkn, hinv⟩ := hk
  conv => whnf
  have hlen : ((ks.take k).map (joinI a.items b.items)).length = k := by simp; omega
  have hms := map_succ (l := ks) (k := k) (f := joinI a.items b.items)
  repeat (any_goals (first
    | (refine ⟨fun (h : (_ : Bool) = true) => ?_, fun (h : (_ : Bool) = false) => ?_⟩ <;> (try simp only [decide_eq_true_eq, decide_eq_false_iff_not, Bool.not_eq_true', Bool.not_eq_false', Int.toNat_natCast, beq_iff_eq, decide_eq_decide, beq_eq_false_iff_ne, ne_eq, reduceCtorEq] at h) <;> (conv => whnf))
    | (refine .inl ⟨_, ac_r22_Get b.items (ks.getD k default) hb, ?_⟩; conv => whnf)
    | (refine .inl ⟨_, ac_r22_Get a.items (ks.getD k default) ha, ?_⟩; conv => whnf)
    | (refine And.intro (by (try simp only [Int.toNat_natCast]); omega) ?_; conv => whnf)
    | (refine And.intro (show (_ : Bool) = true from by kernel_rfl) ?_; conv => whnf)
    | (refine .inl ⟨wrap64 (by omega), ?_⟩; conv => whnf)))
  · have hz : findI b.items (ks.getD k default) = none := by rw [findI_eq, if_neg h]
    have e : joinI a.items b.items (ks.getD k default) = getI a.items (ks.getD k default) := by rw [joinI, hz, getI_find]; rfl
    rw [e] at hms
    refine ⟨k + 1, [(501, 80)], ⟨by omega, trivial⟩, by omega, ?_⟩
    rw [hms (by omega)]
    (repeat' (first | exact PSub.rfl | exact rfl | exact PSubs.rfl | exact trivial | refine And.intro ?_ ?_))
    · simp
    · refine rows_snocF (fun i hi => by simp only [if_pos hi]; exact PSubs.rfl) (by simp only [if_neg (Nat.lt_irrefl _), Nat.sub_self]; exact PSubs.rfl)
  · have hz : findI b.items (ks.getD k default) = some (b.items.getD (itemAt b.items (ks.getD k default)) default) := by rw [findI_eq, if_pos h]
    have e : joinI a.items b.items (ks.getD k default) = getI b.items (ks.getD k default) := by rw [joinI, getI_find, hz]; rfl
    rw [e] at hms
    refine ⟨k + 1, [(501, 80)], ⟨by omega, trivial⟩, by omega, ?_⟩
    rw [hms (by omega)]
    (repeat' (first | exact PSub.rfl | exact rfl | exact PSubs.rfl | exact trivial | refine And.intro ?_ ?_))
    · simp
    · refine rows_snocF (fun i hi => by simp only [if_pos hi]; exact PSubs.rfl) (by simp only [if_neg (Nat.lt_irrefl _), Nat.sub_self]; exact PSubs.rfl)
  · rw [List.take_of_length_le (by omega)]
    exact .rfl

end Go.Abs

namespace Go.Abs
open Go.Proofs
set_option maxRecDepth 10000

theorem capI_eq (H : Hom) (l : List Item) (k : Key) : capI H l k = if (findA H k).isSome = true ∧ (findI l k).isSome = true ∧ ((findA H k).getD noAttr).writable = true ∧ fitsE ((findA H k).getD noAttr) ((findI l k).getD noItem).value = 0 then some ⟨k, ((findI l k).getD noItem).value, 0⟩ else none := by
  unfold capI
  cases findA H k with
  | none => simp
  | some a =>
    cases findI l k with
    | none => simp
    | some x => simp

theorem capTo_some {H : Hom} {l : List Item} {ks : List Key} {k : Nat} {y : Item} (hk : k < ks.length) (h : capI H l (ks.getD k default) = some y) : capTo H l (ks.take (k + 1)) = capTo H l (ks.take k) ++ [y] := by
  unfold capTo; rw [take_succ_getD hk, List.filterMap_append]; simp only [List.filterMap_cons, List.filterMap_nil, h]
theorem capTo_none {H : Hom} {l : List Item} {ks : List Key} {k : Nat} (hk : k < ks.length) (h : capI H l (ks.getD k default) = none) : capTo H l (ks.take (k + 1)) = capTo H l (ks.take k) := by
  unfold capTo; rw [take_succ_getD hk, List.filterMap_append]; simp only [List.filterMap_cons, List.filterMap_nil, h, List.append_nil]
theorem capTo_length {H : Hom} {l : List Item} {ks : List Key} {k : Nat} : (capTo H l (ks.take k)).length ≤ k := fm_length

theorem ac_scene_Capture (H : Hom) (l : List Item) (name : ByteArray) (keys : List Key) (hH : smallH H) (hl : smallL l) (hk : smallL keys) :
    AC Try.prog 15 [.pv (.agg (cHom H)), .pv (roL 7 cItem l), .pv (vstr name), .pv (roL 3 cKey keys)] [] (.pv (.tup [.agg (cSce (capS H l name keys)), vint (capSE H name)])) [] := by
  have hk' : keys.length ≤ 1048576 := hk
  refine AC.of_awp (T := T) T_ok hm Try.call15 Try.func15 rfl rfl rfl ?_
  conv => whnf
  repeat (any_goals (first
    | (refine ⟨fun (h : (_ : Bool) = true) => ?_, fun (h : (_ : Bool) = false) => ?_⟩ <;> (try simp only [decide_eq_true_eq, decide_eq_false_iff_not, Bool.not_eq_true', Bool.not_eq_false', Int.toNat_natCast, beq_iff_eq, decide_eq_decide, beq_eq_false_iff_ne, ne_eq, reduceCtorEq] at h) <;> (conv => whnf))
    | (refine .inl ⟨_, ac_device_Check H hH, ?_⟩; conv => whnf)
    | (refine .inl ⟨_, ac_names_Valid name, ?_⟩; conv => whnf)
    | (refine And.intro (by (try simp only [Int.toNat_natCast]); omega) ?_; conv => whnf)
    | (refine And.intro (show (_ : Bool) = true from by kernel_rfl) ?_; conv => whnf)
    | (refine .inl ⟨wrap64 (by omega), ?_⟩; conv => whnf)))
  · have e0 : capSE H name = homE H := by rw [capSE, if_pos h]
    rw [capS, if_pos (by rw [e0]; exact h), e0]
    refine ⟨?_, ?_⟩ <;> (conv => whnf)
    · exact PSub.agg ⟨.rfl, PSub.nil_ro _ _, trivial⟩
    · exact .rfl
  · rename_i h0
    have e0 : capSE H name = 10 := by rw [capSE, if_neg (by simpa using h0), if_pos h]
    rw [capS, if_pos (by rw [e0]; decide), e0]
    refine ⟨?_, ?_⟩ <;> (conv => whnf)
    · exact PSub.agg ⟨.rfl, PSub.nil_ro _ _, trivial⟩
    · exact .rfl
  rename_i h0
  have e0 : capSE H name = 0 := by rw [capSE, if_neg (by simpa using h0), if_neg (by simp [h])]
  rw [capS, if_neg (by simp [e0]), e0]
  refine .inl ⟨_, ac_scene_index l hl, ?_⟩
  conv => whnf
  refine .inl ⟨_, ac_scene_ascending keys (by omega), ?_⟩
  conv => whnf
  have hkl := sortK_length keys
  generalize sortK keys = ks at *
  refine loop_k (ι := Nat) [4, 8, 11, 12, 34, 35] [4, 8] (fun k => k ≤ ks.length ∧ True) (fun k => ks.length - k) 0 (fun k => [(36, .pv (vint k))]) (fun k => [(11, .box [.pv (vstr name), .own 501]), (501, rowL 7 cItem (capTo H l (ks.take k)))]) [] ⟨Nat.zero_le _, trivial⟩ ?_ (fun k hk => ?_)
  · (repeat' (first | exact PSub.rfl | exact rfl | exact PSubs.rfl | exact trivial | refine And.intro ?_ ?_)); all_goals (skip)
  obtain ⟨hkn, hinv⟩ := hk
  conv => whnf
  have hlen := capTo_length (H := H) (l := l) (ks := ks) (k := k)
  have no : capI H l (ks.getD k default) = none → k < ks.length → capTo H l (ks.take (k + 1)) = capTo H l (ks.take k) := fun h1 h2 => capTo_none h2 h1
  repeat (any_goals (first
    | (refine ⟨fun (h : (_ : Bool) = true) => ?_, fun (h : (_ : Bool) = false) => ?_⟩ <;> (try simp only [decide_eq_true_eq, decide_eq_false_iff_not, Bool.not_eq_true', Bool.not_eq_false', Int.toNat_natCast, beq_iff_eq, decide_eq_decide, beq_eq_false_iff_ne, ne_eq, reduceCtorEq] at h) <;> (conv => whnf))
    | (refine .inl ⟨_, ac_device_Find H (ks.getD k default) hH, ?_⟩; conv => whnf)
    | (refine And.intro (by (try simp only [Int.toNat_natCast]); omega) ?_; conv => whnf)
    | (refine And.intro (show (_ : Bool) = true from by kernel_rfl) ?_; conv => whnf)
    | (refine .inl ⟨wrap64 (by omega), ?_⟩; conv => whnf)))
  · refine ⟨fun p hp => ?_, fun hp => ?_⟩
    · change (findI l (ks.getD k default)).map _ = some p at hp
      cases hz : findI l (ks.getD k default) with
      | none => rw [hz] at hp; cases hp
      | some z =>
        rw [hz] at hp; cases hp
        conv => whnf
        repeat (any_goals (first
          | (refine ⟨fun (h : (_ : Bool) = true) => ?_, fun (h : (_ : Bool) = false) => ?_⟩ <;> (try simp only [decide_eq_true_eq, decide_eq_false_iff_not, Bool.not_eq_true', Bool.not_eq_false', Int.toNat_natCast, beq_iff_eq, decide_eq_decide, beq_eq_false_iff_ne, ne_eq, reduceCtorEq] at h) <;> (conv => whnf))
          | (refine .inl ⟨_, ac_value_Fits ((findA H (ks.getD k default)).getD noAttr) z.value (small_findA hH), ?_⟩; conv => whnf)
          | (refine And.intro (by (try simp only [Int.toNat_natCast]); omega) ?_; conv => whnf)
          | (refine And.intro (show (_ : Bool) = true from by kernel_rfl) ?_; conv => whnf)
          | (refine .inl ⟨wrap64 (by omega), ?_⟩; conv => whnf)))
        · have hyes : capI H l (ks.getD k default) = some ⟨ks.getD k default, z.value, 0⟩ := by rw [capI_eq, hz]; simp [*, -List.getD_eq_getElem?_getD]
          have hfm := capTo_some (by omega) hyes
          refine ⟨k + 1, [(501, 74)], ⟨by omega, trivial⟩, by omega, ?_⟩
          rw [hfm]
          (repeat' (first | exact PSub.rfl | exact rfl | exact PSubs.rfl | exact trivial | refine And.intro ?_ ?_))
          · simp
          · refine rows_snocF (fun i hi => by simp only [if_pos hi]; exact PSubs.rfl) (by simp only [if_neg (Nat.lt_irrefl _), Nat.sub_self]; exact PSubs.rfl)
        all_goals
          have hno : capI H l (ks.getD k default) = none := by rw [capI_eq, hz]; simp [*, -List.getD_eq_getElem?_getD]
          refine ⟨k + 1, [], ⟨by omega, trivial⟩, by omega, ?_⟩
          rw [no hno (by omega)]
          (repeat' (first | exact PSub.rfl | exact rfl | exact PSubs.rfl | exact trivial | refine And.intro ?_ ?_))
          intro i hi; exact PSubs.rfl
    · change (findI l (ks.getD k default)).map _ = none at hp
      have hz : findI l (ks.getD k default) = none := by simpa using hp
      conv => whnf
      repeat (any_goals (first
        | (refine ⟨fun (h : (_ : Bool) = true) => ?_, fun (h : (_ : Bool) = false) => ?_⟩ <;> (try simp only [decide_eq_true_eq, decide_eq_false_iff_not, Bool.not_eq_true', Bool.not_eq_false', Int.toNat_natCast, beq_iff_eq, decide_eq_decide, beq_eq_false_iff_ne, ne_eq, reduceCtorEq] at h) <;> (conv => whnf))
        | (refine And.intro (by (try simp only [Int.toNat_natCast]); omega) ?_; conv => whnf)
        | (refine And.intro (show (_ : Bool) = true from by kernel_rfl) ?_; conv => whnf)
        | (refine .inl ⟨wrap64 (by omega), ?_⟩; conv => whnf)))
      all_goals
        have hno : capI H l (ks.getD k default) = none := by rw [capI_eq, hz]; simp
        refine ⟨k + 1, [], ⟨by omega, trivial⟩, by omega, ?_⟩
        rw [no hno (by omega)]
        (repeat' (first | exact PSub.rfl | exact rfl | exact PSubs.rfl | exact trivial | refine And.intro ?_ ?_))
        intro i hi; exact PSubs.rfl
  · rw [List.take_of_length_le (by omega)]
    refine ⟨?_, ?_⟩ <;> (conv => whnf)
    all_goals exact .rfl

theorem ac_r36_Capture (H : Hom) (l : List Item) (name : ByteArray) (keys : List Key) (hH : smallH H) (hl : smallL l) (hk : smallL keys) :
    AC Try.prog 16 [.pv (.agg (cHom H)), .pv (roL 7 cItem l), .pv (vstr name), .pv (roL 3 cKey keys)] [] (.pv (.tup [.agg (cSce (capS H l name keys)), vint (capSE H name)])) [] := by
  have hk' : keys.length ≤ 1048576 := hk
  refine AC.of_awp (T := T) T_ok hm Try.call16 Try.func16 rfl rfl rfl ?_
  conv => whnf
  repeat (any_goals (first
    | (refine ⟨fun (h : (_ : Bool) = true) => ?_, fun (h : (_ : Bool) = false) => ?_⟩ <;> (try simp only [decide_eq_true_eq, decide_eq_false_iff_not, Bool.not_eq_true', Bool.not_eq_false', Int.toNat_natCast, beq_iff_eq, decide_eq_decide, beq_eq_false_iff_ne, ne_eq, reduceCtorEq] at h) <;> (conv => whnf))
    | (refine .inl ⟨_, ac_r22_Check H hH, ?_⟩; conv => whnf)
    | (refine .inl ⟨_, ac_r04_Valid name, ?_⟩; conv => whnf)
    | (refine And.intro (by (try simp only [Int.toNat_natCast]); omega) ?_; conv => whnf)
    | (refine And.intro (show (_ : Bool) = true from by kernel_rfl) ?_; conv => whnf)
    | (refine .inl ⟨wrap64 (by omega), ?_⟩; conv => whnf)))
  · have e0 : capSE H name = homE H := by rw [capSE, if_pos h]
    rw [capS, if_pos (by rw [e0]; exact h), e0]
    refine ⟨?_, ?_⟩ <;> (conv => whnf)
    · exact PSub.agg ⟨.rfl, PSub.nil_ro _ _, trivial⟩
    · exact .rfl
  · rename_i h0
    have e0 : capSE H name = 10 := by rw [capSE, if_neg (by simpa using h0), if_pos h]
    rw [capS, if_pos (by rw [e0]; decide), e0]
    refine ⟨?_, ?_⟩ <;> (conv => whnf)
    · exact PSub.agg ⟨.rfl, PSub.nil_ro _ _, trivial⟩
    · exact .rfl
  rename_i h0
  have e0 : capSE H name = 0 := by rw [capSE, if_neg (by simpa using h0), if_neg (by simp [h])]
  rw [capS, if_neg (by simp [e0]), e0]
  refine .inl ⟨_, ac_r36_Sorted keys (by omega), ?_⟩
  conv => whnf
  have hkl := sortK_length keys
  generalize sortK keys = ks at *
  refine loop_k (ι := Nat) [1, 4, 8, 11, 12, 33] [4, 8] (fun k => k ≤ ks.length ∧ True) (fun k => ks.length - k) 0 (fun k => [(34, .pv (vint k))]) (fun k => [(11, .box [.pv (vstr name), .own 501]), (501, rowL 7 cItem (capTo H l (ks.take k)))]) [] ⟨Nat.zero_le _, trivial⟩ ?_ (fun k hk => ?_)
  · (repeat' (first | exact PSub.rfl | exact rfl | exact PSubs.rfl | exact trivial | refine And.intro ?_ ?_)); all_goals (skip)
  obtain ⟨hkn, hinv⟩ := hk
  conv => whnf
  have hlen := capTo_length (H := H) (l := l) (ks := ks) (k := k)
  have no : capI H l (ks.getD k default) = none → k < ks.length → capTo H l (ks.take (k + 1)) = capTo H l (ks.take k) := fun h1 h2 => capTo_none h2 h1
  repeat (any_goals (first
    | (refine ⟨fun (h : (_ : Bool) = true) => ?_, fun (h : (_ : Bool) = false) => ?_⟩ <;> (try simp only [decide_eq_true_eq, decide_eq_false_iff_not, Bool.not_eq_true', Bool.not_eq_false', Int.toNat_natCast, beq_iff_eq, decide_eq_decide, beq_eq_false_iff_ne, ne_eq, reduceCtorEq] at h) <;> (conv => whnf))
    | (refine .inl ⟨_, ac_r22_Find H (ks.getD k default) hH, ?_⟩; conv => whnf)
    | (refine .inl ⟨_, ac_r22_Get l (ks.getD k default) hl, ?_⟩; conv => whnf)
    | (refine .inl ⟨_, ac_r20_Fits ((findA H (ks.getD k default)).getD noAttr) (getI l (ks.getD k default)).value (small_findA hH), ?_⟩; conv => whnf)
    | (refine And.intro (by (try simp only [Int.toNat_natCast]); omega) ?_; conv => whnf)
    | (refine And.intro (show (_ : Bool) = true from by kernel_rfl) ?_; conv => whnf)
    | (refine .inl ⟨wrap64 (by omega), ?_⟩; conv => whnf)))
  · have hz : findI l (ks.getD k default) = some (l.getD (itemAt l (ks.getD k default)) default) := by rw [findI_eq, if_pos (by assumption)]
    have hyes : capI H l (ks.getD k default) = some ⟨ks.getD k default, (getI l (ks.getD k default)).value, 0⟩ := by rw [capI_eq, getI_find, if_pos]; refine ⟨by assumption, by rw [hz]; rfl, by assumption, by rw [← getI_find]; assumption⟩
    have hfm := capTo_some (by omega) hyes
    refine ⟨k + 1, [(501, 80)], ⟨by omega, trivial⟩, by omega, ?_⟩
    rw [hfm]
    (repeat' (first | exact PSub.rfl | exact rfl | exact PSubs.rfl | exact trivial | refine And.intro ?_ ?_))
    · simp
    · refine rows_snocF (fun i hi => by simp only [if_pos hi]; exact PSubs.rfl) (by simp only [if_neg (Nat.lt_irrefl _), Nat.sub_self]; exact PSubs.rfl)
  · have hno : capI H l (ks.getD k default) = none := by rw [capI_eq, ← getI_find, if_neg (fun hh => h hh.2.2.2)]
    refine ⟨k + 1, [], ⟨by omega, trivial⟩, by omega, ?_⟩
    rw [no hno (by omega)]
    (repeat' (first | exact PSub.rfl | exact rfl | exact PSubs.rfl | exact trivial | refine And.intro ?_ ?_))
    intro i hi; exact PSubs.rfl
  · have hno : capI H l (ks.getD k default) = none := by rw [capI_eq, if_neg (fun hh => by rw [h] at hh; cases hh.2.2.1)]
    refine ⟨k + 1, [], ⟨by omega, trivial⟩, by omega, ?_⟩
    rw [no hno (by omega)]
    (repeat' (first | exact PSub.rfl | exact rfl | exact PSubs.rfl | exact trivial | refine And.intro ?_ ?_))
    intro i hi; exact PSubs.rfl
  · have hno : capI H l (ks.getD k default) = none := by rw [capI_eq, findI_eq, if_neg h, if_neg (fun hh => by cases hh.2.1)]
    refine ⟨k + 1, [], ⟨by omega, trivial⟩, by omega, ?_⟩
    rw [no hno (by omega)]
    (repeat' (first | exact PSub.rfl | exact rfl | exact PSubs.rfl | exact trivial | refine And.intro ?_ ?_))
    intro i hi; exact PSubs.rfl
  · have hno : capI H l (ks.getD k default) = none := by rw [capI_eq, if_neg (fun hh => by rw [h] at hh; cases hh.1)]
    refine ⟨k + 1, [], ⟨by omega, trivial⟩, by omega, ?_⟩
    rw [no hno (by omega)]
    (repeat' (first | exact PSub.rfl | exact rfl | exact PSubs.rfl | exact trivial | refine And.intro ?_ ?_))
    intro i hi; exact PSubs.rfl
  · rw [List.take_of_length_le (by omega)]
    refine ⟨?_, ?_⟩ <;> (conv => whnf)
    all_goals exact .rfl

end Go.Abs

namespace Go.Abs
open Go.Proofs
set_option maxRecDepth 10000

theorem ac_r21_Flag (s : ByteArray) (w sf : Bool) : AC Try.prog 60 [.pv (vstr s), .pv (.val (.bool w)), .pv (.val (.bool sf))] [] (.pv (.agg (cAttr ⟨s, 1, 0, 0, [], w, sf⟩))) [] := by
  refine AC.of_awp (T := T) T_ok hm Try.call60 Try.func60 rfl rfl rfl ?_
  conv => whnf
  exact PSub.agg ⟨.rfl, .rfl, .rfl, .rfl, PSub.nil_ro _ _, PSub.lit_sb rfl, PSub.lit_sb rfl, trivial⟩
theorem ac_r21_Number (s : ByteArray) (lo hi : Int) (w : Bool) : AC Try.prog 59 [.pv (vstr s), .pv (vint lo), .pv (vint hi), .pv (.val (.bool w))] [] (.pv (.agg (cAttr ⟨s, 2, lo, hi, [], w, false⟩))) [] := by
  refine AC.of_awp (T := T) T_ok hm Try.call59 Try.func59 rfl rfl rfl ?_
  conv => whnf
  exact PSub.agg ⟨.rfl, .rfl, .rfl, .rfl, PSub.nil_ro _ _, PSub.lit_sb rfl, PSub.lit_sb rfl, trivial⟩
theorem ac_r21_Sets (s a : ByteArray) (n : Int) : AC Try.prog 61 [.pv (vstr s), .pv (vstr a), .pv (vint n)] [] (.pv (.agg (cCmd ⟨s, noAttr, [⟨1, a, n⟩]⟩))) [] := by
  refine AC.of_awp (T := T) T_ok hm Try.call61 Try.func61 rfl rfl rfl ?_
  conv => whnf
  repeat (any_goals (first
    | (refine ⟨fun (h : (_ : Bool) = true) => ?_, fun (h : (_ : Bool) = false) => ?_⟩ <;> (try simp only [decide_eq_true_eq, decide_eq_false_iff_not, Bool.not_eq_true', Bool.not_eq_false', Int.toNat_natCast, beq_iff_eq, decide_eq_decide, beq_eq_false_iff_ne, ne_eq, reduceCtorEq] at h) <;> (conv => whnf))
    | (refine And.intro (by (try simp only [Int.toNat_natCast]); omega) ?_; conv => whnf)
    | (refine And.intro (show (_ : Bool) = true from by kernel_rfl) ?_; conv => whnf)
    | (refine .inl ⟨wrap64 (by omega), ?_⟩; conv => whnf)))
  exact PSub.agg ⟨.rfl, .rfl, .rfl, .rfl, .rfl, PSub.nil_ro _ _, PSub.lit_sb rfl, PSub.lit_sb rfl, PSub.ro rfl (all_lt_succ all_lt_zero PSubs.rfl), trivial⟩

set_option maxHeartbeats 2000000 in
theorem ac_r21_Standard : AC Try.prog 36 [] [] (.pv (roL 4 cClu stdC)) [] := by
  refine AC.of_awp (T := T) T_ok hm Try.call36 Try.func36 rfl rfl rfl ?_
  conv => whnf
  repeat (any_goals (first
    | (refine ⟨fun (h : (_ : Bool) = true) => ?_, fun (h : (_ : Bool) = false) => ?_⟩ <;> (try simp only [decide_eq_true_eq, decide_eq_false_iff_not, Bool.not_eq_true', Bool.not_eq_false', Int.toNat_natCast, beq_iff_eq, decide_eq_decide, beq_eq_false_iff_ne, ne_eq, reduceCtorEq] at h) <;> (conv => whnf))
    | (refine And.intro (by (try simp only [Int.toNat_natCast]); omega) ?_; conv => whnf)
    | (refine And.intro (show (_ : Bool) = true from by kernel_rfl) ?_; conv => whnf)
    | (refine .inl ⟨wrap64 (by omega), ?_⟩; conv => whnf)))
  refine .inl ⟨_, ac_r21_Number (⟨#[116, 111]⟩ : ByteArray) 0 100 false, ?_⟩
  conv => whnf
  repeat (any_goals (first
    | (refine ⟨fun (h : (_ : Bool) = true) => ?_, fun (h : (_ : Bool) = false) => ?_⟩ <;> (try simp only [decide_eq_true_eq, decide_eq_false_iff_not, Bool.not_eq_true', Bool.not_eq_false', Int.toNat_natCast, beq_iff_eq, decide_eq_decide, beq_eq_false_iff_ne, ne_eq, reduceCtorEq] at h) <;> (conv => whnf))
    | (refine And.intro (by (try simp only [Int.toNat_natCast]); omega) ?_; conv => whnf)
    | (refine And.intro (show (_ : Bool) = true from by kernel_rfl) ?_; conv => whnf)
    | (refine .inl ⟨wrap64 (by omega), ?_⟩; conv => whnf)))
  refine .inl ⟨_, ac_r21_Flag (⟨#[111, 110]⟩ : ByteArray) true false, ?_⟩
  conv => whnf
  repeat (any_goals (first
    | (refine ⟨fun (h : (_ : Bool) = true) => ?_, fun (h : (_ : Bool) = false) => ?_⟩ <;> (try simp only [decide_eq_true_eq, decide_eq_false_iff_not, Bool.not_eq_true', Bool.not_eq_false', Int.toNat_natCast, beq_iff_eq, decide_eq_decide, beq_eq_false_iff_ne, ne_eq, reduceCtorEq] at h) <;> (conv => whnf))
    | (refine And.intro (by (try simp only [Int.toNat_natCast]); omega) ?_; conv => whnf)
    | (refine And.intro (show (_ : Bool) = true from by kernel_rfl) ?_; conv => whnf)
    | (refine .inl ⟨wrap64 (by omega), ?_⟩; conv => whnf)))
  refine .inl ⟨_, ac_r21_Sets (⟨#[111, 110]⟩ : ByteArray) (⟨#[111, 110]⟩ : ByteArray) 1, ?_⟩
  conv => whnf
  repeat (any_goals (first
    | (refine ⟨fun (h : (_ : Bool) = true) => ?_, fun (h : (_ : Bool) = false) => ?_⟩ <;> (try simp only [decide_eq_true_eq, decide_eq_false_iff_not, Bool.not_eq_true', Bool.not_eq_false', Int.toNat_natCast, beq_iff_eq, decide_eq_decide, beq_eq_false_iff_ne, ne_eq, reduceCtorEq] at h) <;> (conv => whnf))
    | (refine And.intro (by (try simp only [Int.toNat_natCast]); omega) ?_; conv => whnf)
    | (refine And.intro (show (_ : Bool) = true from by kernel_rfl) ?_; conv => whnf)
    | (refine .inl ⟨wrap64 (by omega), ?_⟩; conv => whnf)))
  refine .inl ⟨_, ac_r21_Sets (⟨#[111, 102, 102]⟩ : ByteArray) (⟨#[111, 110]⟩ : ByteArray) 0, ?_⟩
  conv => whnf
  repeat (any_goals (first
    | (refine ⟨fun (h : (_ : Bool) = true) => ?_, fun (h : (_ : Bool) = false) => ?_⟩ <;> (try simp only [decide_eq_true_eq, decide_eq_false_iff_not, Bool.not_eq_true', Bool.not_eq_false', Int.toNat_natCast, beq_iff_eq, decide_eq_decide, beq_eq_false_iff_ne, ne_eq, reduceCtorEq] at h) <;> (conv => whnf))
    | (refine And.intro (by (try simp only [Int.toNat_natCast]); omega) ?_; conv => whnf)
    | (refine And.intro (show (_ : Bool) = true from by kernel_rfl) ?_; conv => whnf)
    | (refine .inl ⟨wrap64 (by omega), ?_⟩; conv => whnf)))
  refine .inl ⟨_, ac_r21_Number (⟨#[108, 101, 118, 101, 108]⟩ : ByteArray) 0 100 true, ?_⟩
  conv => whnf
  repeat (any_goals (first
    | (refine ⟨fun (h : (_ : Bool) = true) => ?_, fun (h : (_ : Bool) = false) => ?_⟩ <;> (try simp only [decide_eq_true_eq, decide_eq_false_iff_not, Bool.not_eq_true', Bool.not_eq_false', Int.toNat_natCast, beq_iff_eq, decide_eq_decide, beq_eq_false_iff_ne, ne_eq, reduceCtorEq] at h) <;> (conv => whnf))
    | (refine And.intro (by (try simp only [Int.toNat_natCast]); omega) ?_; conv => whnf)
    | (refine And.intro (show (_ : Bool) = true from by kernel_rfl) ?_; conv => whnf)
    | (refine .inl ⟨wrap64 (by omega), ?_⟩; conv => whnf)))
  refine .inl ⟨_, ac_r21_Flag (⟨#[108, 111, 99, 107, 101, 100]⟩ : ByteArray) true true, ?_⟩
  conv => whnf
  repeat (any_goals (first
    | (refine ⟨fun (h : (_ : Bool) = true) => ?_, fun (h : (_ : Bool) = false) => ?_⟩ <;> (try simp only [decide_eq_true_eq, decide_eq_false_iff_not, Bool.not_eq_true', Bool.not_eq_false', Int.toNat_natCast, beq_iff_eq, decide_eq_decide, beq_eq_false_iff_ne, ne_eq, reduceCtorEq] at h) <;> (conv => whnf))
    | (refine And.intro (by (try simp only [Int.toNat_natCast]); omega) ?_; conv => whnf)
    | (refine And.intro (show (_ : Bool) = true from by kernel_rfl) ?_; conv => whnf)
    | (refine .inl ⟨wrap64 (by omega), ?_⟩; conv => whnf)))
  refine .inl ⟨_, ac_r21_Sets (⟨#[108, 111, 99, 107]⟩ : ByteArray) (⟨#[108, 111, 99, 107, 101, 100]⟩ : ByteArray) 1, ?_⟩
  conv => whnf
  repeat (any_goals (first
    | (refine ⟨fun (h : (_ : Bool) = true) => ?_, fun (h : (_ : Bool) = false) => ?_⟩ <;> (try simp only [decide_eq_true_eq, decide_eq_false_iff_not, Bool.not_eq_true', Bool.not_eq_false', Int.toNat_natCast, beq_iff_eq, decide_eq_decide, beq_eq_false_iff_ne, ne_eq, reduceCtorEq] at h) <;> (conv => whnf))
    | (refine And.intro (by (try simp only [Int.toNat_natCast]); omega) ?_; conv => whnf)
    | (refine And.intro (show (_ : Bool) = true from by kernel_rfl) ?_; conv => whnf)
    | (refine .inl ⟨wrap64 (by omega), ?_⟩; conv => whnf)))
  refine .inl ⟨_, ac_r21_Sets (⟨#[117, 110, 108, 111, 99, 107]⟩ : ByteArray) (⟨#[108, 111, 99, 107, 101, 100]⟩ : ByteArray) 0, ?_⟩
  conv => whnf
  repeat (any_goals (first
    | (refine ⟨fun (h : (_ : Bool) = true) => ?_, fun (h : (_ : Bool) = false) => ?_⟩ <;> (try simp only [decide_eq_true_eq, decide_eq_false_iff_not, Bool.not_eq_true', Bool.not_eq_false', Int.toNat_natCast, beq_iff_eq, decide_eq_decide, beq_eq_false_iff_ne, ne_eq, reduceCtorEq] at h) <;> (conv => whnf))
    | (refine And.intro (by (try simp only [Int.toNat_natCast]); omega) ?_; conv => whnf)
    | (refine And.intro (show (_ : Bool) = true from by kernel_rfl) ?_; conv => whnf)
    | (refine .inl ⟨wrap64 (by omega), ?_⟩; conv => whnf)))
  refine .inl ⟨_, ac_r21_Number (⟨#[116, 97, 114, 103, 101, 116]⟩ : ByteArray) 50 300 true, ?_⟩
  conv => whnf
  repeat (any_goals (first
    | (refine ⟨fun (h : (_ : Bool) = true) => ?_, fun (h : (_ : Bool) = false) => ?_⟩ <;> (try simp only [decide_eq_true_eq, decide_eq_false_iff_not, Bool.not_eq_true', Bool.not_eq_false', Int.toNat_natCast, beq_iff_eq, decide_eq_decide, beq_eq_false_iff_ne, ne_eq, reduceCtorEq] at h) <;> (conv => whnf))
    | (refine And.intro (by (try simp only [Int.toNat_natCast]); omega) ?_; conv => whnf)
    | (refine And.intro (show (_ : Bool) = true from by kernel_rfl) ?_; conv => whnf)
    | (refine .inl ⟨wrap64 (by omega), ?_⟩; conv => whnf)))
  refine .inl ⟨_, ac_r21_Number (⟨#[116, 101, 109, 112]⟩ : ByteArray) (-500) 1000 false, ?_⟩
  conv => whnf
  repeat (any_goals (first
    | (refine ⟨fun (h : (_ : Bool) = true) => ?_, fun (h : (_ : Bool) = false) => ?_⟩ <;> (try simp only [decide_eq_true_eq, decide_eq_false_iff_not, Bool.not_eq_true', Bool.not_eq_false', Int.toNat_natCast, beq_iff_eq, decide_eq_decide, beq_eq_false_iff_ne, ne_eq, reduceCtorEq] at h) <;> (conv => whnf))
    | (refine And.intro (by (try simp only [Int.toNat_natCast]); omega) ?_; conv => whnf)
    | (refine And.intro (show (_ : Bool) = true from by kernel_rfl) ?_; conv => whnf)
    | (refine .inl ⟨wrap64 (by omega), ?_⟩; conv => whnf)))
  refine .inl ⟨_, ac_r21_Flag (⟨#[97, 108, 97, 114, 109]⟩ : ByteArray) false true, ?_⟩
  conv => whnf
  repeat (any_goals (first
    | (refine ⟨fun (h : (_ : Bool) = true) => ?_, fun (h : (_ : Bool) = false) => ?_⟩ <;> (try simp only [decide_eq_true_eq, decide_eq_false_iff_not, Bool.not_eq_true', Bool.not_eq_false', Int.toNat_natCast, beq_iff_eq, decide_eq_decide, beq_eq_false_iff_ne, ne_eq, reduceCtorEq] at h) <;> (conv => whnf))
    | (refine And.intro (by (try simp only [Int.toNat_natCast]); omega) ?_; conv => whnf)
    | (refine And.intro (show (_ : Bool) = true from by kernel_rfl) ?_; conv => whnf)
    | (refine .inl ⟨wrap64 (by omega), ?_⟩; conv => whnf)))
  refine .inl ⟨_, ac_r21_Flag (⟨#[119, 101, 116]⟩ : ByteArray) false true, ?_⟩
  conv => whnf
  repeat (any_goals (first
    | (refine ⟨fun (h : (_ : Bool) = true) => ?_, fun (h : (_ : Bool) = false) => ?_⟩ <;> (try simp only [decide_eq_true_eq, decide_eq_false_iff_not, Bool.not_eq_true', Bool.not_eq_false', Int.toNat_natCast, beq_iff_eq, decide_eq_decide, beq_eq_false_iff_ne, ne_eq, reduceCtorEq] at h) <;> (conv => whnf))
    | (refine And.intro (by (try simp only [Int.toNat_natCast]); omega) ?_; conv => whnf)
    | (refine And.intro (show (_ : Bool) = true from by kernel_rfl) ?_; conv => whnf)
    | (refine .inl ⟨wrap64 (by omega), ?_⟩; conv => whnf)))
  refine .inl ⟨_, ac_r21_Flag (⟨#[111, 112, 101, 110]⟩ : ByteArray) true true, ?_⟩
  conv => whnf
  repeat (any_goals (first
    | (refine ⟨fun (h : (_ : Bool) = true) => ?_, fun (h : (_ : Bool) = false) => ?_⟩ <;> (try simp only [decide_eq_true_eq, decide_eq_false_iff_not, Bool.not_eq_true', Bool.not_eq_false', Int.toNat_natCast, beq_iff_eq, decide_eq_decide, beq_eq_false_iff_ne, ne_eq, reduceCtorEq] at h) <;> (conv => whnf))
    | (refine And.intro (by (try simp only [Int.toNat_natCast]); omega) ?_; conv => whnf)
    | (refine And.intro (show (_ : Bool) = true from by kernel_rfl) ?_; conv => whnf)
    | (refine .inl ⟨wrap64 (by omega), ?_⟩; conv => whnf)))
  refine .inl ⟨_, ac_r21_Sets (⟨#[111, 112, 101, 110]⟩ : ByteArray) (⟨#[111, 112, 101, 110]⟩ : ByteArray) 1, ?_⟩
  conv => whnf
  repeat (any_goals (first
    | (refine ⟨fun (h : (_ : Bool) = true) => ?_, fun (h : (_ : Bool) = false) => ?_⟩ <;> (try simp only [decide_eq_true_eq, decide_eq_false_iff_not, Bool.not_eq_true', Bool.not_eq_false', Int.toNat_natCast, beq_iff_eq, decide_eq_decide, beq_eq_false_iff_ne, ne_eq, reduceCtorEq] at h) <;> (conv => whnf))
    | (refine And.intro (by (try simp only [Int.toNat_natCast]); omega) ?_; conv => whnf)
    | (refine And.intro (show (_ : Bool) = true from by kernel_rfl) ?_; conv => whnf)
    | (refine .inl ⟨wrap64 (by omega), ?_⟩; conv => whnf)))
  refine .inl ⟨_, ac_r21_Sets (⟨#[99, 108, 111, 115, 101]⟩ : ByteArray) (⟨#[111, 112, 101, 110]⟩ : ByteArray) 0, ?_⟩
  conv => whnf
  repeat (any_goals (first
    | (refine ⟨fun (h : (_ : Bool) = true) => ?_, fun (h : (_ : Bool) = false) => ?_⟩ <;> (try simp only [decide_eq_true_eq, decide_eq_false_iff_not, Bool.not_eq_true', Bool.not_eq_false', Int.toNat_natCast, beq_iff_eq, decide_eq_decide, beq_eq_false_iff_ne, ne_eq, reduceCtorEq] at h) <;> (conv => whnf))
    | (refine And.intro (by (try simp only [Int.toNat_natCast]); omega) ?_; conv => whnf)
    | (refine And.intro (show (_ : Bool) = true from by kernel_rfl) ?_; conv => whnf)
    | (refine .inl ⟨wrap64 (by omega), ?_⟩; conv => whnf)))
  refine .inl ⟨_, ac_r21_Number (⟨#[112, 111, 119, 101, 114]⟩ : ByteArray) 0 100000 false, ?_⟩
  conv => whnf
  repeat (any_goals (first
    | (refine ⟨fun (h : (_ : Bool) = true) => ?_, fun (h : (_ : Bool) = false) => ?_⟩ <;> (try simp only [decide_eq_true_eq, decide_eq_false_iff_not, Bool.not_eq_true', Bool.not_eq_false', Int.toNat_natCast, beq_iff_eq, decide_eq_decide, beq_eq_false_iff_ne, ne_eq, reduceCtorEq] at h) <;> (conv => whnf))
    | (refine And.intro (by (try simp only [Int.toNat_natCast]); omega) ?_; conv => whnf)
    | (refine And.intro (show (_ : Bool) = true from by kernel_rfl) ?_; conv => whnf)
    | (refine .inl ⟨wrap64 (by omega), ?_⟩; conv => whnf)))
  repeat' (first | exact PSub.rfl | exact PSub.nil_ro _ _ | exact PSub.lit_sb rfl | exact trivial | exact all_lt_zero | refine PSub.agg ?_ | refine PSub.ro rfl ?_ | refine all_lt_succ ?_ ?_ | refine And.intro ?_ ?_)

theorem ac_law36_level (n : Int) : AC Try.prog 37 [.pv (vint n)] [] (.pv (.agg (cVal ⟨2, n, ⟨#[]⟩⟩))) [] := by
  refine AC.of_awp (T := T) T_ok hm Try.call37 Try.func37 rfl rfl rfl ?_
  conv => whnf
  exact .rfl

theorem ac_law36_few (n : Nat) (f : Nat → List Item) (hn : n ≤ 1048576) : AC Try.prog 11 [.pv (.ro 1 n fun i => [roL 7 cItem (f i)])] [] (.pv (vbool (decide (∀ i, i < n → (f i).length ≤ 60)))) [] := by
  refine AC.of_awp (T := T) T_ok hm Try.call11 Try.func11 rfl rfl rfl ?_
  conv => whnf
  refine loop_k (ι := Nat) [5, 6] [] (fun k => k ≤ n ∧ (∀ j, j < k → (f j).length ≤ 60)) (fun k => n - k) 0 (fun k => [(7, .pv (vint k))]) (fun _ => []) [] ⟨Nat.zero_le _, fun j h => absurd h (by omega)⟩ ?_ (fun k hk => ?_)
  · (repeat' (first | exact PSub.rfl | exact rfl | exact PSubs.rfl | exact trivial | refine And.intro ?_ ?_))
  obtain ⟨hkn, hinv⟩ := hk
  conv => whnf
  repeat (any_goals (first
    | (refine ⟨fun (h : (_ : Bool) = true) => ?_, fun (h : (_ : Bool) = false) => ?_⟩ <;> (try simp only [decide_eq_true_eq, decide_eq_false_iff_not, Bool.not_eq_true', Bool.not_eq_false', Int.toNat_natCast, beq_iff_eq, decide_eq_decide, beq_eq_false_iff_ne, ne_eq, reduceCtorEq] at h) <;> (conv => whnf))
    | (refine And.intro (by (try simp only [Int.toNat_natCast]); omega) ?_; conv => whnf)
    | (refine And.intro (show (_ : Bool) = true from by kernel_rfl) ?_; conv => whnf)
    | (refine .inl ⟨wrap64 (by omega), ?_⟩; conv => whnf)))
  · exact PSub.lit_sb (by symm; simp only [decide_eq_false_iff_not]; intro hh; have := hh k (by omega); omega)
  · refine ⟨k + 1, [], ⟨by omega, ?_⟩, by first | omega | (dsimp only; omega), ?_⟩
    rotate_left
    · (repeat' (first | exact PSub.rfl | exact rfl | exact PSubs.rfl | exact trivial | refine And.intro ?_ ?_))
    intro j hj
    by_cases e : j = k
    · subst e; omega
    · exact hinv j (by omega)
  · exact PSub.lit_sb (by symm; simp only [decide_eq_true_eq]; exact fun i hi => hinv i (by omega))

/-- is the home small? -/
def homeB (H : Hom) : Bool := decide (H.clusters.length ≤ 12 ∧ H.devices.length ≤ 8 ∧ (∀ i, i < H.clusters.length → (H.clusters.getD i default).attrs.length ≤ 20 ∧ (H.clusters.getD i default).commands.length ≤ 20 ∧ (H.clusters.getD i default).events.length ≤ 20) ∧ ∀ i, i < H.devices.length → (H.devices.getD i default).clusters.length ≤ 20)

theorem ac_law36_home (H : Hom) : AC Try.prog 10 [.pv (.agg (cHom H))] [] (.pv (vbool (homeB H))) [] := by
  refine AC.of_awp (T := T) T_ok hm Try.call10 Try.func10 rfl rfl rfl ?_
  conv => whnf
  repeat (any_goals (first
    | (refine ⟨fun (h : (_ : Bool) = true) => ?_, fun (h : (_ : Bool) = false) => ?_⟩ <;> (try simp only [decide_eq_true_eq, decide_eq_false_iff_not, Bool.not_eq_true', Bool.not_eq_false', Int.toNat_natCast, beq_iff_eq, decide_eq_decide, beq_eq_false_iff_ne, ne_eq, reduceCtorEq] at h) <;> (conv => whnf))
    | (refine And.intro (by (try simp only [Int.toNat_natCast]); omega) ?_; conv => whnf)
    | (refine And.intro (show (_ : Bool) = true from by kernel_rfl) ?_; conv => whnf)
    | (refine .inl ⟨wrap64 (by omega), ?_⟩; conv => whnf)))
  · exact PSub.lit_sb (by symm; simp only [homeB, decide_eq_false_iff_not]; intro hh; omega)
  · exact PSub.lit_sb (by symm; simp only [homeB, decide_eq_false_iff_not]; intro hh; omega)
  refine loop_k (ι := Nat) [1, 18, 19] [1] (fun k => k ≤ H.clusters.length ∧ (∀ i, i < k → (H.clusters.getD i default).attrs.length ≤ 20 ∧ (H.clusters.getD i default).commands.length ≤ 20 ∧ (H.clusters.getD i default).events.length ≤ 20)) (fun k => H.clusters.length - k) 0 (fun k => [(20, .pv (vint k))]) (fun _ => []) [] ⟨Nat.zero_le _, fun j h => absurd h (by omega)⟩ ?_ (fun k hk => ?_)
  · (repeat' (first | exact PSub.rfl | exact rfl | exact PSubs.rfl | exact trivial | refine And.intro ?_ ?_))
  obtain ⟨hkn, hinv⟩ := hk
  conv => whnf
  repeat (any_goals (first
    | (refine ⟨fun (h : (_ : Bool) = true) => ?_, fun (h : (_ : Bool) = false) => ?_⟩ <;> (try simp only [decide_eq_true_eq, decide_eq_false_iff_not, Bool.not_eq_true', Bool.not_eq_false', Int.toNat_natCast, beq_iff_eq, decide_eq_decide, beq_eq_false_iff_ne, ne_eq, reduceCtorEq] at h) <;> (conv => whnf))
    | (refine And.intro (by (try simp only [Int.toNat_natCast]); omega) ?_; conv => whnf)
    | (refine And.intro (show (_ : Bool) = true from by kernel_rfl) ?_; conv => whnf)
    | (refine .inl ⟨wrap64 (by omega), ?_⟩; conv => whnf)))
  iterate 3 (first | (next => exact PSub.lit_sb (by symm; simp only [homeB, decide_eq_false_iff_not]; intro hh; have := hh.2.2.1 k (by omega); omega)) | skip)
  · refine ⟨k + 1, [], ⟨by omega, ?_⟩, by first | omega | (dsimp only; omega), ?_⟩
    rotate_left
    · (repeat' (first | exact PSub.rfl | exact rfl | exact PSubs.rfl | exact trivial | refine And.intro ?_ ?_))
    intro j hj
    by_cases e : j = k
    · subst e; omega
    · exact hinv j (by omega)
  have hinv1 := hinv
  clear hinv
  refine loop_k (ι := Nat) [42, 43] [] (fun q => q ≤ H.devices.length ∧ (∀ i, i < q → (H.devices.getD i default).clusters.length ≤ 20)) (fun q => H.devices.length - q) 0 (fun q => [(44, .pv (vint q))]) (fun _ => []) [] ⟨Nat.zero_le _, fun j h => absurd h (by omega)⟩ ?_ (fun q hk => ?_)
  · (repeat' (first | exact PSub.rfl | exact rfl | exact PSubs.rfl | exact trivial | refine And.intro ?_ ?_))
  obtain ⟨hkn, hinv⟩ := hk
  conv => whnf
  repeat (any_goals (first
    | (refine ⟨fun (h : (_ : Bool) = true) => ?_, fun (h : (_ : Bool) = false) => ?_⟩ <;> (try simp only [decide_eq_true_eq, decide_eq_false_iff_not, Bool.not_eq_true', Bool.not_eq_false', Int.toNat_natCast, beq_iff_eq, decide_eq_decide, beq_eq_false_iff_ne, ne_eq, reduceCtorEq] at h) <;> (conv => whnf))
    | (refine And.intro (by (try simp only [Int.toNat_natCast]); omega) ?_; conv => whnf)
    | (refine And.intro (show (_ : Bool) = true from by kernel_rfl) ?_; conv => whnf)
    | (refine .inl ⟨wrap64 (by omega), ?_⟩; conv => whnf)))
  · exact PSub.lit_sb (by symm; simp only [homeB, decide_eq_false_iff_not]; intro hh; have := hh.2.2.2 q (by omega); omega)
  · refine ⟨q + 1, [], ⟨by omega, ?_⟩, by first | omega | (dsimp only; omega), ?_⟩
    rotate_left
    · (repeat' (first | exact PSub.rfl | exact rfl | exact PSubs.rfl | exact trivial | refine And.intro ?_ ?_))
    intro j hj
    by_cases e : j = q
    · subst e; omega
    · exact hinv j (by omega)
  · exact PSub.lit_sb (by symm; simp only [homeB, decide_eq_true_eq]; exact ⟨by omega, by omega, fun i hi => hinv1 i (by omega), fun i hi => hinv i (by omega)⟩)

/-- the writes of law36's run -/
def stepL (H : Hom) (l : List Item) (w : Write) : List Item := if setE H l w.key w.value true = 0 then setL H l w.key w.value true else l
def runL (H : Hom) (l : List Item) (ws : List Write) : List Item := ws.foldl (stepL H) l
theorem stepL_length {H : Hom} {l : List Item} {w : Write} : (stepL H l w).length = l.length := by
  unfold stepL
  split
  · rename_i h; rw [setL, if_pos h, putL_length]
  · rfl
theorem runL_length {H : Hom} : ∀ {ws : List Write} {l : List Item}, (runL H l ws).length = l.length
  | [], l => rfl
  | w :: ws, l => by rw [runL, List.foldl_cons]; exact (runL_length (ws := ws)).trans stepL_length
theorem runL_take {H : Hom} {l : List Item} {ws : List Write} {k : Nat} (hk : k < ws.length) : runL H l (ws.take (k + 1)) = stepL H (runL H l (ws.take k)) (ws.getD k default) := by
  unfold runL; rw [take_succ_getD hk, List.foldl_append]; rfl

theorem ac_law36_run (H : Hom) (l : List Item) (ws : List Write) (hH : smallH H) (hl : smallL l) (hw : ws.length ≤ 8388600) : AC Try.prog 34 [.pv (.agg (cHom H)), .pv (roL 7 cItem l), .pv (roL 10 cWrite ws)] [] (.pv (roL 7 cItem (runL H l ws))) [] := by
  refine AC.of_awp (T := T) T_ok hm Try.call34 Try.func34 rfl rfl rfl ?_
  conv => whnf
  refine loop_k (ι := Nat) [3, 11, 12] [3] (fun k => k ≤ ws.length ∧ True) (fun k => ws.length - k) 0 (fun k => [(13, .pv (vint k)), (1, .pv (roL 7 cItem (runL H l (ws.take k))))]) (fun k => []) [] ⟨Nat.zero_le _, trivial⟩ ?_ (fun k hk => ?_)
  · (repeat' (first | exact PSub.rfl | exact rfl | exact PSubs.rfl | exact trivial | refine And.intro ?_ ?_)); all_goals (skip)
  obtain ⟨hkn, hinv⟩ := hk
  conv => whnf
  have hs : smallL (runL H l (ws.take k)) := by unfold smallL; rw [runL_length]; exact hl
  repeat (any_goals (first
    | (refine ⟨fun (h : (_ : Bool) = true) => ?_, fun (h : (_ : Bool) = false) => ?_⟩ <;> (try simp only [decide_eq_true_eq, decide_eq_false_iff_not, Bool.not_eq_true', Bool.not_eq_false', Int.toNat_natCast, beq_iff_eq, decide_eq_decide, beq_eq_false_iff_ne, ne_eq, reduceCtorEq] at h) <;> (conv => whnf))
    | (refine .inl ⟨_, ac_device_Write H (runL H l (ws.take k)) (ws.getD k default).key (ws.getD k default).value hH hs, ?_⟩; conv => whnf)
    | (refine And.intro (by (try simp only [Int.toNat_natCast]); omega) ?_; conv => whnf)
    | (refine And.intro (show (_ : Bool) = true from by kernel_rfl) ?_; conv => whnf)
    | (refine .inl ⟨wrap64 (by omega), ?_⟩; conv => whnf)))
  · refine ⟨k + 1, [], ⟨by omega, trivial⟩, by omega, ?_⟩
    rw [runL_take (by omega), stepL, if_pos h]
    (repeat' (first | exact PSub.rfl | exact rfl | exact PSubs.rfl | exact trivial | refine And.intro ?_ ?_))
  · refine ⟨k + 1, [], ⟨by omega, trivial⟩, by omega, ?_⟩
    rw [runL_take (by omega), stepL, if_neg h]
    (repeat' (first | exact PSub.rfl | exact rfl | exact PSubs.rfl | exact trivial | refine And.intro ?_ ?_))
  · rw [List.take_of_length_le (by omega)]
    exact .rfl

/-! the examples -/
def kX : Key := ⟨3, (⟨#[108, 101, 118, 101, 108]⟩ : ByteArray), (⟨#[108, 101, 118, 101, 108]⟩ : ByteArray)⟩
def homeY : Hom := ⟨stdC, [⟨3, 0, 0, false, 0, (⟨#[104, 97, 108, 108]⟩ : ByteArray), [(⟨#[108, 101, 118, 101, 108]⟩ : ByteArray), (⟨#[116, 104, 101, 114, 109, 111, 115, 116, 97, 116]⟩ : ByteArray)]⟩]⟩
def levV (n : Int) : Val := ⟨2, n, ⟨#[]⟩⟩
def nowX : List Item := [⟨kX, levV 40, 4⟩]
def outX : List Item := [⟨kX, levV 70, 5⟩]
def filmX : Scene := ⟨(⟨#[102, 105, 108, 109]⟩ : ByteArray), [⟨kX, levV 40, 0⟩]⟩
def causeX : Cause := ⟨2, (⟨#[114]⟩ : ByteArray), 0⟩
def colX : Item := ⟨⟨3, (⟨#[116, 104, 101, 114, 109, 111, 115, 116, 97, 116]⟩ : ByteArray), (⟨#[116, 101, 109, 112]⟩ : ByteArray)⟩, levV 5, 0⟩

theorem exa1 : capSE homeY (⟨#[102, 105, 108, 109]⟩ : ByteArray) = 0 := by kernel_rfl
theorem exa2 : capS homeY nowX (⟨#[102, 105, 108, 109]⟩ : ByteArray) [kX, kX] = filmX := by kernel_rfl
theorem exa3 : difS filmX.items nowX = [] := by kernel_rfl
theorem exa4 : difS filmX.items outX = [kX] := by kernel_rfl
theorem exa5 : applyS filmX causeX 1 = [⟨kX, levV 40, causeX, 0⟩] := by kernel_rfl
theorem exa6 : undoS filmX outX = ⟨(⟨#[102, 105, 108, 109]⟩ : ByteArray), [⟨kX, levV 70, 0⟩]⟩ := by kernel_rfl
theorem exa7 : checkS homeY filmX = 0 := by kernel_rfl
theorem exa8 : checkS homeY ⟨(⟨#[97]⟩ : ByteArray), [colX]⟩ = 24 := by kernel_rfl
theorem exa9 : checkS homeY ⟨(⟨#[97]⟩ : ByteArray), [⟨kX, levV 40, 0⟩, ⟨kX, levV 40, 0⟩]⟩ = 14 := by kernel_rfl

theorem smallH_Y : smallH homeY := by
  refine ⟨⟨sl rfl, smallK_std⟩, sl rfl, fun i => ?_⟩
  cases i with
  | zero => exact ⟨sl rfl, by decide, by decide⟩
  | succ i =>
    have : homeY.devices.getD (i + 1) default = default := rfl
    rw [this]; exact ⟨Nat.zero_le _, by decide, by decide⟩

theorem ac_law36_awake : AC Try.prog 12 [] [] (.pv (vbool true)) [] := by
  have c1 := ac_scene_Capture homeY nowX (⟨#[102, 105, 108, 109]⟩ : ByteArray) [kX, kX] smallH_Y (sl rfl) (sl rfl)
  rw [exa1, exa2] at c1
  have c2 := ac_r36_Same filmX filmX (Nat.le_of_ble_eq_true rfl)
  rw [decide_eq_true rfl] at c2
  have c3 := ac_scene_Active filmX nowX (sl rfl) (sl rfl)
  rw [decide_eq_true exa3] at c3
  have c4 := ac_scene_Active filmX outX (sl rfl) (sl rfl)
  rw [exa4, decide_eq_false (by decide)] at c4
  have c5 := ac_scene_Apply filmX causeX (Nat.le_of_ble_eq_true rfl)
  rw [show applyS filmX causeX filmX.items.length = [⟨kX, levV 40, causeX, 0⟩] from exa5] at c5
  have c6 := ac_r36_SameWrites [⟨kX, levV 40, causeX, 0⟩] [⟨kX, levV 40, causeX, 0⟩] (Nat.le_of_ble_eq_true rfl)
  rw [decide_eq_true rfl] at c6
  have c7 := ac_scene_Undo filmX outX (sl rfl) (sl rfl)
  rw [exa6] at c7
  have c8 := ac_r36_Same ⟨(⟨#[102, 105, 108, 109]⟩ : ByteArray), [⟨kX, levV 70, 0⟩]⟩ ⟨(⟨#[102, 105, 108, 109]⟩ : ByteArray), [⟨kX, levV 70, 0⟩]⟩ (Nat.le_of_ble_eq_true rfl)
  rw [decide_eq_true rfl] at c8
  have d1 := ac_scene_Check homeY filmX smallH_Y (sl rfl)
  rw [exa7] at d1
  have d2 := ac_scene_Check homeY ⟨(⟨#[97]⟩ : ByteArray), [colX]⟩ smallH_Y (sl rfl)
  rw [exa8] at d2
  have d3 := ac_scene_Check homeY ⟨(⟨#[97]⟩ : ByteArray), [⟨kX, levV 40, 0⟩, ⟨kX, levV 40, 0⟩]⟩ smallH_Y (sl rfl)
  rw [exa9] at d3
  refine AC.of_awp (T := T) T_ok hm Try.call12 Try.func12 rfl rfl rfl ?_
  conv => whnf
  refine .inl ⟨_, ac_r21_Standard, ?_⟩
  conv => whnf
  repeat (any_goals (first
    | (refine ⟨fun (h : (_ : Bool) = true) => ?_, fun (h : (_ : Bool) = false) => ?_⟩ <;> (try simp only [decide_eq_true_eq, decide_eq_false_iff_not, Bool.not_eq_true', Bool.not_eq_false', Int.toNat_natCast, beq_iff_eq, decide_eq_decide, beq_eq_false_iff_ne, ne_eq, reduceCtorEq] at h) <;> (conv => whnf))
    | (refine .inl ⟨_, ac_law36_level 40, ?_⟩; conv => whnf)
    | (refine .inl ⟨_, ac_law36_level 70, ?_⟩; conv => whnf)
    | (refine And.intro (by (try simp only [Int.toNat_natCast]); omega) ?_; conv => whnf)
    | (refine And.intro (show (_ : Bool) = true from by kernel_rfl) ?_; conv => whnf)
    | (refine .inl ⟨wrap64 (by omega), ?_⟩; conv => whnf)))
  refine .inl ⟨_, AC.sub4 (c1) (by repeat' (first | exact PSub.rfl | exact PSub.nil_ro _ _ | exact PSub.lit_sb rfl | exact trivial | exact all_lt_zero | refine PSub.agg ?_ | refine PSub.ro rfl ?_ | refine all_lt_succ ?_ ?_ | refine And.intro ?_ ?_)) (by repeat' (first | exact PSub.rfl | exact PSub.nil_ro _ _ | exact PSub.lit_sb rfl | exact trivial | exact all_lt_zero | refine PSub.agg ?_ | refine PSub.ro rfl ?_ | refine all_lt_succ ?_ ?_ | refine And.intro ?_ ?_)) (by repeat' (first | exact PSub.rfl | exact PSub.nil_ro _ _ | exact PSub.lit_sb rfl | exact trivial | exact all_lt_zero | refine PSub.agg ?_ | refine PSub.ro rfl ?_ | refine all_lt_succ ?_ ?_ | refine And.intro ?_ ?_)) (by repeat' (first | exact PSub.rfl | exact PSub.nil_ro _ _ | exact PSub.lit_sb rfl | exact trivial | exact all_lt_zero | refine PSub.agg ?_ | refine PSub.ro rfl ?_ | refine all_lt_succ ?_ ?_ | refine And.intro ?_ ?_)), ?_⟩
  conv => whnf
  repeat (any_goals (first
    | (refine ⟨fun (h : (_ : Bool) = true) => ?_, fun (h : (_ : Bool) = false) => ?_⟩ <;> (try simp only [decide_eq_true_eq, decide_eq_false_iff_not, Bool.not_eq_true', Bool.not_eq_false', Int.toNat_natCast, beq_iff_eq, decide_eq_decide, beq_eq_false_iff_ne, ne_eq, reduceCtorEq] at h) <;> (conv => whnf))
    | (refine .inl ⟨_, ac_law36_level 40, ?_⟩; conv => whnf)
    | (refine And.intro (by (try simp only [Int.toNat_natCast]); omega) ?_; conv => whnf)
    | (refine And.intro (show (_ : Bool) = true from by kernel_rfl) ?_; conv => whnf)
    | (refine .inl ⟨wrap64 (by omega), ?_⟩; conv => whnf)))
  all_goals try (exact absurd trivial h)
  all_goals try (exact absurd rfl h)
  refine .inl ⟨_, AC.sub2 (c2) (by repeat' (first | exact PSub.rfl | exact PSub.nil_ro _ _ | exact PSub.lit_sb rfl | exact trivial | exact all_lt_zero | refine PSub.agg ?_ | refine PSub.ro rfl ?_ | refine all_lt_succ ?_ ?_ | refine And.intro ?_ ?_)) (by repeat' (first | exact PSub.rfl | exact PSub.nil_ro _ _ | exact PSub.lit_sb rfl | exact trivial | exact all_lt_zero | refine PSub.agg ?_ | refine PSub.ro rfl ?_ | refine all_lt_succ ?_ ?_ | refine And.intro ?_ ?_)), ?_⟩
  conv => whnf
  repeat (any_goals (first
    | (refine ⟨fun (h : (_ : Bool) = true) => ?_, fun (h : (_ : Bool) = false) => ?_⟩ <;> (try simp only [decide_eq_true_eq, decide_eq_false_iff_not, Bool.not_eq_true', Bool.not_eq_false', Int.toNat_natCast, beq_iff_eq, decide_eq_decide, beq_eq_false_iff_ne, ne_eq, reduceCtorEq] at h) <;> (conv => whnf))
    | (refine .inl ⟨_, ac_law36_level 40, ?_⟩; conv => whnf)
    | (refine .inl ⟨_, ac_law36_level 70, ?_⟩; conv => whnf)
    | (refine .inl ⟨_, ac_law36_level 5, ?_⟩; conv => whnf)
    | (refine And.intro (by (try simp only [Int.toNat_natCast]); omega) ?_; conv => whnf)
    | (refine And.intro (show (_ : Bool) = true from by kernel_rfl) ?_; conv => whnf)
    | (refine .inl ⟨wrap64 (by omega), ?_⟩; conv => whnf)))
  all_goals try (exact absurd trivial h)
  all_goals try (exact absurd rfl h)
  refine .inl ⟨_, AC.sub2 (c3) (by repeat' (first | exact PSub.rfl | exact PSub.nil_ro _ _ | exact PSub.lit_sb rfl | exact trivial | exact all_lt_zero | refine PSub.agg ?_ | refine PSub.ro rfl ?_ | refine all_lt_succ ?_ ?_ | refine And.intro ?_ ?_)) (by repeat' (first | exact PSub.rfl | exact PSub.nil_ro _ _ | exact PSub.lit_sb rfl | exact trivial | exact all_lt_zero | refine PSub.agg ?_ | refine PSub.ro rfl ?_ | refine all_lt_succ ?_ ?_ | refine And.intro ?_ ?_)), ?_⟩
  conv => whnf
  repeat (any_goals (first
    | (refine ⟨fun (h : (_ : Bool) = true) => ?_, fun (h : (_ : Bool) = false) => ?_⟩ <;> (try simp only [decide_eq_true_eq, decide_eq_false_iff_not, Bool.not_eq_true', Bool.not_eq_false', Int.toNat_natCast, beq_iff_eq, decide_eq_decide, beq_eq_false_iff_ne, ne_eq, reduceCtorEq] at h) <;> (conv => whnf))
    | (refine .inl ⟨_, ac_law36_level 40, ?_⟩; conv => whnf)
    | (refine .inl ⟨_, ac_law36_level 70, ?_⟩; conv => whnf)
    | (refine .inl ⟨_, ac_law36_level 5, ?_⟩; conv => whnf)
    | (refine And.intro (by (try simp only [Int.toNat_natCast]); omega) ?_; conv => whnf)
    | (refine And.intro (show (_ : Bool) = true from by kernel_rfl) ?_; conv => whnf)
    | (refine .inl ⟨wrap64 (by omega), ?_⟩; conv => whnf)))
  all_goals try (exact absurd trivial h)
  all_goals try (exact absurd rfl h)
  refine .inl ⟨_, AC.sub2 (c4) (by repeat' (first | exact PSub.rfl | exact PSub.nil_ro _ _ | exact PSub.lit_sb rfl | exact trivial | exact all_lt_zero | refine PSub.agg ?_ | refine PSub.ro rfl ?_ | refine all_lt_succ ?_ ?_ | refine And.intro ?_ ?_)) (by repeat' (first | exact PSub.rfl | exact PSub.nil_ro _ _ | exact PSub.lit_sb rfl | exact trivial | exact all_lt_zero | refine PSub.agg ?_ | refine PSub.ro rfl ?_ | refine all_lt_succ ?_ ?_ | refine And.intro ?_ ?_)), ?_⟩
  conv => whnf
  repeat (any_goals (first
    | (refine ⟨fun (h : (_ : Bool) = true) => ?_, fun (h : (_ : Bool) = false) => ?_⟩ <;> (try simp only [decide_eq_true_eq, decide_eq_false_iff_not, Bool.not_eq_true', Bool.not_eq_false', Int.toNat_natCast, beq_iff_eq, decide_eq_decide, beq_eq_false_iff_ne, ne_eq, reduceCtorEq] at h) <;> (conv => whnf))
    | (refine .inl ⟨_, ac_law36_level 40, ?_⟩; conv => whnf)
    | (refine .inl ⟨_, ac_law36_level 70, ?_⟩; conv => whnf)
    | (refine .inl ⟨_, ac_law36_level 5, ?_⟩; conv => whnf)
    | (refine And.intro (by (try simp only [Int.toNat_natCast]); omega) ?_; conv => whnf)
    | (refine And.intro (show (_ : Bool) = true from by kernel_rfl) ?_; conv => whnf)
    | (refine .inl ⟨wrap64 (by omega), ?_⟩; conv => whnf)))
  all_goals try (exact absurd trivial h)
  all_goals try (exact absurd rfl h)
  refine .inl ⟨_, AC.sub2 (c5) (by repeat' (first | exact PSub.rfl | exact PSub.nil_ro _ _ | exact PSub.lit_sb rfl | exact trivial | exact all_lt_zero | refine PSub.agg ?_ | refine PSub.ro rfl ?_ | refine all_lt_succ ?_ ?_ | refine And.intro ?_ ?_)) (by repeat' (first | exact PSub.rfl | exact PSub.nil_ro _ _ | exact PSub.lit_sb rfl | exact trivial | exact all_lt_zero | refine PSub.agg ?_ | refine PSub.ro rfl ?_ | refine all_lt_succ ?_ ?_ | refine And.intro ?_ ?_)), ?_⟩
  conv => whnf
  repeat (any_goals (first
    | (refine ⟨fun (h : (_ : Bool) = true) => ?_, fun (h : (_ : Bool) = false) => ?_⟩ <;> (try simp only [decide_eq_true_eq, decide_eq_false_iff_not, Bool.not_eq_true', Bool.not_eq_false', Int.toNat_natCast, beq_iff_eq, decide_eq_decide, beq_eq_false_iff_ne, ne_eq, reduceCtorEq] at h) <;> (conv => whnf))
    | (refine .inl ⟨_, ac_law36_level 40, ?_⟩; conv => whnf)
    | (refine .inl ⟨_, ac_law36_level 70, ?_⟩; conv => whnf)
    | (refine .inl ⟨_, ac_law36_level 5, ?_⟩; conv => whnf)
    | (refine And.intro (by (try simp only [Int.toNat_natCast]); omega) ?_; conv => whnf)
    | (refine And.intro (show (_ : Bool) = true from by kernel_rfl) ?_; conv => whnf)
    | (refine .inl ⟨wrap64 (by omega), ?_⟩; conv => whnf)))
  all_goals try (exact absurd trivial h)
  all_goals try (exact absurd rfl h)
  refine .inl ⟨_, AC.sub2 (c6) (by repeat' (first | exact PSub.rfl | exact PSub.nil_ro _ _ | exact PSub.lit_sb rfl | exact trivial | exact all_lt_zero | refine PSub.agg ?_ | refine PSub.ro rfl ?_ | refine all_lt_succ ?_ ?_ | refine And.intro ?_ ?_)) (by repeat' (first | exact PSub.rfl | exact PSub.nil_ro _ _ | exact PSub.lit_sb rfl | exact trivial | exact all_lt_zero | refine PSub.agg ?_ | refine PSub.ro rfl ?_ | refine all_lt_succ ?_ ?_ | refine And.intro ?_ ?_)), ?_⟩
  conv => whnf
  repeat (any_goals (first
    | (refine ⟨fun (h : (_ : Bool) = true) => ?_, fun (h : (_ : Bool) = false) => ?_⟩ <;> (try simp only [decide_eq_true_eq, decide_eq_false_iff_not, Bool.not_eq_true', Bool.not_eq_false', Int.toNat_natCast, beq_iff_eq, decide_eq_decide, beq_eq_false_iff_ne, ne_eq, reduceCtorEq] at h) <;> (conv => whnf))
    | (refine .inl ⟨_, ac_law36_level 40, ?_⟩; conv => whnf)
    | (refine .inl ⟨_, ac_law36_level 70, ?_⟩; conv => whnf)
    | (refine .inl ⟨_, ac_law36_level 5, ?_⟩; conv => whnf)
    | (refine And.intro (by (try simp only [Int.toNat_natCast]); omega) ?_; conv => whnf)
    | (refine And.intro (show (_ : Bool) = true from by kernel_rfl) ?_; conv => whnf)
    | (refine .inl ⟨wrap64 (by omega), ?_⟩; conv => whnf)))
  all_goals try (exact absurd trivial h)
  all_goals try (exact absurd rfl h)
  refine .inl ⟨_, AC.sub2 (c7) (by repeat' (first | exact PSub.rfl | exact PSub.nil_ro _ _ | exact PSub.lit_sb rfl | exact trivial | exact all_lt_zero | refine PSub.agg ?_ | refine PSub.ro rfl ?_ | refine all_lt_succ ?_ ?_ | refine And.intro ?_ ?_)) (by repeat' (first | exact PSub.rfl | exact PSub.nil_ro _ _ | exact PSub.lit_sb rfl | exact trivial | exact all_lt_zero | refine PSub.agg ?_ | refine PSub.ro rfl ?_ | refine all_lt_succ ?_ ?_ | refine And.intro ?_ ?_)), ?_⟩
  conv => whnf
  repeat (any_goals (first
    | (refine ⟨fun (h : (_ : Bool) = true) => ?_, fun (h : (_ : Bool) = false) => ?_⟩ <;> (try simp only [decide_eq_true_eq, decide_eq_false_iff_not, Bool.not_eq_true', Bool.not_eq_false', Int.toNat_natCast, beq_iff_eq, decide_eq_decide, beq_eq_false_iff_ne, ne_eq, reduceCtorEq] at h) <;> (conv => whnf))
    | (refine .inl ⟨_, ac_law36_level 40, ?_⟩; conv => whnf)
    | (refine .inl ⟨_, ac_law36_level 70, ?_⟩; conv => whnf)
    | (refine .inl ⟨_, ac_law36_level 5, ?_⟩; conv => whnf)
    | (refine And.intro (by (try simp only [Int.toNat_natCast]); omega) ?_; conv => whnf)
    | (refine And.intro (show (_ : Bool) = true from by kernel_rfl) ?_; conv => whnf)
    | (refine .inl ⟨wrap64 (by omega), ?_⟩; conv => whnf)))
  all_goals try (exact absurd trivial h)
  all_goals try (exact absurd rfl h)
  refine .inl ⟨_, AC.sub2 (c8) (by repeat' (first | exact PSub.rfl | exact PSub.nil_ro _ _ | exact PSub.lit_sb rfl | exact trivial | exact all_lt_zero | refine PSub.agg ?_ | refine PSub.ro rfl ?_ | refine all_lt_succ ?_ ?_ | refine And.intro ?_ ?_)) (by repeat' (first | exact PSub.rfl | exact PSub.nil_ro _ _ | exact PSub.lit_sb rfl | exact trivial | exact all_lt_zero | refine PSub.agg ?_ | refine PSub.ro rfl ?_ | refine all_lt_succ ?_ ?_ | refine And.intro ?_ ?_)), ?_⟩
  conv => whnf
  repeat (any_goals (first
    | (refine ⟨fun (h : (_ : Bool) = true) => ?_, fun (h : (_ : Bool) = false) => ?_⟩ <;> (try simp only [decide_eq_true_eq, decide_eq_false_iff_not, Bool.not_eq_true', Bool.not_eq_false', Int.toNat_natCast, beq_iff_eq, decide_eq_decide, beq_eq_false_iff_ne, ne_eq, reduceCtorEq] at h) <;> (conv => whnf))
    | (refine .inl ⟨_, ac_law36_level 40, ?_⟩; conv => whnf)
    | (refine .inl ⟨_, ac_law36_level 70, ?_⟩; conv => whnf)
    | (refine .inl ⟨_, ac_law36_level 5, ?_⟩; conv => whnf)
    | (refine And.intro (by (try simp only [Int.toNat_natCast]); omega) ?_; conv => whnf)
    | (refine And.intro (show (_ : Bool) = true from by kernel_rfl) ?_; conv => whnf)
    | (refine .inl ⟨wrap64 (by omega), ?_⟩; conv => whnf)))
  all_goals try (exact absurd trivial h)
  all_goals try (exact absurd rfl h)
  refine .inl ⟨_, AC.sub2 (d1) (by repeat' (first | exact PSub.rfl | exact PSub.nil_ro _ _ | exact PSub.lit_sb rfl | exact trivial | exact all_lt_zero | refine PSub.agg ?_ | refine PSub.ro rfl ?_ | refine all_lt_succ ?_ ?_ | refine And.intro ?_ ?_)) (by repeat' (first | exact PSub.rfl | exact PSub.nil_ro _ _ | exact PSub.lit_sb rfl | exact trivial | exact all_lt_zero | refine PSub.agg ?_ | refine PSub.ro rfl ?_ | refine all_lt_succ ?_ ?_ | refine And.intro ?_ ?_)), ?_⟩
  conv => whnf
  repeat (any_goals (first
    | (refine ⟨fun (h : (_ : Bool) = true) => ?_, fun (h : (_ : Bool) = false) => ?_⟩ <;> (try simp only [decide_eq_true_eq, decide_eq_false_iff_not, Bool.not_eq_true', Bool.not_eq_false', Int.toNat_natCast, beq_iff_eq, decide_eq_decide, beq_eq_false_iff_ne, ne_eq, reduceCtorEq] at h) <;> (conv => whnf))
    | (refine .inl ⟨_, ac_law36_level 40, ?_⟩; conv => whnf)
    | (refine .inl ⟨_, ac_law36_level 70, ?_⟩; conv => whnf)
    | (refine .inl ⟨_, ac_law36_level 5, ?_⟩; conv => whnf)
    | (refine And.intro (by (try simp only [Int.toNat_natCast]); omega) ?_; conv => whnf)
    | (refine And.intro (show (_ : Bool) = true from by kernel_rfl) ?_; conv => whnf)
    | (refine .inl ⟨wrap64 (by omega), ?_⟩; conv => whnf)))
  all_goals try (exact absurd trivial h)
  all_goals try (exact absurd rfl h)
  refine .inl ⟨_, AC.sub2 (d2) (by repeat' (first | exact PSub.rfl | exact PSub.nil_ro _ _ | exact PSub.lit_sb rfl | exact trivial | exact all_lt_zero | refine PSub.agg ?_ | refine PSub.ro rfl ?_ | refine all_lt_succ ?_ ?_ | refine And.intro ?_ ?_)) (by repeat' (first | exact PSub.rfl | exact PSub.nil_ro _ _ | exact PSub.lit_sb rfl | exact trivial | exact all_lt_zero | refine PSub.agg ?_ | refine PSub.ro rfl ?_ | refine all_lt_succ ?_ ?_ | refine And.intro ?_ ?_)), ?_⟩
  conv => whnf
  repeat (any_goals (first
    | (refine ⟨fun (h : (_ : Bool) = true) => ?_, fun (h : (_ : Bool) = false) => ?_⟩ <;> (try simp only [decide_eq_true_eq, decide_eq_false_iff_not, Bool.not_eq_true', Bool.not_eq_false', Int.toNat_natCast, beq_iff_eq, decide_eq_decide, beq_eq_false_iff_ne, ne_eq, reduceCtorEq] at h) <;> (conv => whnf))
    | (refine .inl ⟨_, ac_law36_level 40, ?_⟩; conv => whnf)
    | (refine .inl ⟨_, ac_law36_level 70, ?_⟩; conv => whnf)
    | (refine .inl ⟨_, ac_law36_level 5, ?_⟩; conv => whnf)
    | (refine And.intro (by (try simp only [Int.toNat_natCast]); omega) ?_; conv => whnf)
    | (refine And.intro (show (_ : Bool) = true from by kernel_rfl) ?_; conv => whnf)
    | (refine .inl ⟨wrap64 (by omega), ?_⟩; conv => whnf)))
  all_goals try (exact absurd trivial h)
  all_goals try (exact absurd rfl h)
  refine And.intro (show (0 : Int) ≤ 0 ∧ (0 : Int) < ((1 : Nat) : Int) from by decide) ?_
  conv => whnf
  refine And.intro (show (0 : Int) ≤ 0 ∧ (0 : Int) < ((1 : Nat) : Int) from by decide) ?_
  conv => whnf
  repeat (any_goals (first
    | (refine ⟨fun (h : (_ : Bool) = true) => ?_, fun (h : (_ : Bool) = false) => ?_⟩ <;> (try simp only [decide_eq_true_eq, decide_eq_false_iff_not, Bool.not_eq_true', Bool.not_eq_false', Int.toNat_natCast, beq_iff_eq, decide_eq_decide, beq_eq_false_iff_ne, ne_eq, reduceCtorEq] at h) <;> (conv => whnf))
    | (refine And.intro (by (try simp only [Int.toNat_natCast]); omega) ?_; conv => whnf)
    | (refine And.intro (show (_ : Bool) = true from by kernel_rfl) ?_; conv => whnf)
    | (refine .inl ⟨wrap64 (by omega), ?_⟩; conv => whnf)))
  refine .inl ⟨_, AC.sub2 (d3) (by repeat' (first | exact PSub.rfl | exact PSub.nil_ro _ _ | exact PSub.lit_sb rfl | exact trivial | exact all_lt_zero | refine PSub.agg ?_ | refine PSub.ro rfl ?_ | refine all_lt_succ ?_ ?_ | refine And.intro ?_ ?_)) (by repeat' (first | exact PSub.rfl | exact PSub.nil_ro _ _ | exact PSub.lit_sb rfl | exact trivial | exact all_lt_zero | refine PSub.agg ?_ | refine PSub.ro rfl ?_ | refine all_lt_succ ?_ ?_ | refine And.intro ?_ ?_)), ?_⟩
  conv => whnf
  repeat (any_goals (first
    | (refine ⟨fun (h : (_ : Bool) = true) => ?_, fun (h : (_ : Bool) = false) => ?_⟩ <;> (try simp only [decide_eq_true_eq, decide_eq_false_iff_not, Bool.not_eq_true', Bool.not_eq_false', Int.toNat_natCast, beq_iff_eq, decide_eq_decide, beq_eq_false_iff_ne, ne_eq, reduceCtorEq] at h) <;> (conv => whnf))
    | (refine .inl ⟨_, ac_law36_level 40, ?_⟩; conv => whnf)
    | (refine .inl ⟨_, ac_law36_level 70, ?_⟩; conv => whnf)
    | (refine .inl ⟨_, ac_law36_level 5, ?_⟩; conv => whnf)
    | (refine And.intro (by (try simp only [Int.toNat_natCast]); omega) ?_; conv => whnf)
    | (refine And.intro (show (_ : Bool) = true from by kernel_rfl) ?_; conv => whnf)
    | (refine .inl ⟨wrap64 (by omega), ?_⟩; conv => whnf)))
  all_goals try (exact absurd trivial h)
  all_goals try (exact absurd rfl h)
  exact PSub.sb (by decide)

end Go.Abs

namespace Go.Abs
open Go.Proofs
set_option maxRecDepth 10000

theorem capTo_le {H : Hom} {l : List Item} {ks : List Key} : (capTo H l ks).length ≤ ks.length := List.length_filterMap_le _ _
theorem capS_length {H : Hom} {l : List Item} {name : ByteArray} {keys : List Key} : (capS H l name keys).items.length ≤ keys.length := by
  unfold capS
  split
  · exact Nat.zero_le _
  · exact Nat.le_trans capTo_le (sortK_length keys)
theorem undoS_length {s : Scene} {l : List Item} : (undoS s l).items.length ≤ s.items.length := List.length_filterMap_le _ _
theorem joinS_length {a b : Scene} : (joinS a b).items.length ≤ a.items.length + b.items.length := by
  simp only [joinS, List.length_map]
  exact Nat.le_trans (sortK_length _) (by simp)
theorem difS_length {s l : List Item} : (difS s l).length ≤ s.length := by
  unfold difS
  exact Nat.le_trans (List.length_filter_le _ _) (Nat.le_trans (sortK_length _) (by simp))

theorem ac_law36_SceneChecks (H : Hom) (s : Scene) (hH : smallH H) (hs : smallL s.items) : AC Try.prog 3 [.pv (.agg (cHom H)), .pv (.agg (cSce s))] [] (.pv (vbool true)) [] := by
  refine AC.of_awp (T := T) T_ok hm Try.call3 Try.func3 rfl rfl rfl ?_
  conv => whnf
  repeat (any_goals (first
    | (refine ⟨fun (h : (_ : Bool) = true) => ?_, fun (h : (_ : Bool) = false) => ?_⟩ <;> (try simp only [decide_eq_true_eq, decide_eq_false_iff_not, Bool.not_eq_true', Bool.not_eq_false', Int.toNat_natCast, beq_iff_eq, decide_eq_decide, beq_eq_false_iff_ne, ne_eq, reduceCtorEq] at h) <;> (conv => whnf))
    | (refine .inl ⟨_, ac_law36_home H, ?_⟩; conv => whnf)
    | (refine .inl ⟨_, ac_law36_awake, ?_⟩; conv => whnf)
    | (refine .inl ⟨_, AC.sub1 (ac_law36_few 1 (fun _ => s.items) (by omega)) (by repeat' (first | exact PSub.rfl | exact PSub.nil_ro _ _ | exact PSub.lit_sb rfl | exact trivial | exact all_lt_zero | refine PSub.agg ?_ | refine PSub.ro rfl ?_ | refine all_lt_succ ?_ ?_ | refine And.intro ?_ ?_)), ?_⟩; conv => whnf)
    | (refine .inl ⟨_, ac_scene_Check H s hH hs, ?_⟩; conv => whnf)
    | (refine .inl ⟨_, ac_r36_Check H s hH hs, ?_⟩; conv => whnf)
    | (refine And.intro (by (try simp only [Int.toNat_natCast]); omega) ?_; conv => whnf)
    | (refine And.intro (show (_ : Bool) = true from by kernel_rfl) ?_; conv => whnf)
    | (refine .inl ⟨wrap64 (by omega), ?_⟩; conv => whnf)))
  all_goals first | exact .rfl | exact absurd trivial h | exact absurd rfl h | exact PSub.sb (by simp)

theorem ac_law36_SceneCaptures (H : Hom) (l : List Item) (name : ByteArray) (keys : List Key) (c : Cause) (hH : smallH H) (hl : smallL l) (hk : smallL keys) :
    AC Try.prog 4 [.pv (.agg (cHom H)), .pv (roL 7 cItem l), .pv (vstr name), .pv (roL 3 cKey keys), .pv (.agg (cCause c))] [] (.pv (vbool true)) [] := by
  have hk2 : keys.length ≤ 1048576 := hk
  have hcl := capS_length (H := H) (l := l) (name := name) (keys := keys)
  refine AC.of_awp (T := T) T_ok hm Try.call4 Try.func4 rfl rfl rfl ?_
  conv => whnf
  repeat (any_goals (first
    | (refine ⟨fun (h : (_ : Bool) = true) => ?_, fun (h : (_ : Bool) = false) => ?_⟩ <;> (try simp only [decide_eq_true_eq, decide_eq_false_iff_not, Bool.not_eq_true', Bool.not_eq_false', Int.toNat_natCast, beq_iff_eq, decide_eq_decide, beq_eq_false_iff_ne, ne_eq, reduceCtorEq] at h) <;> (conv => whnf))
    | (refine .inl ⟨_, ac_law36_home H, ?_⟩; conv => whnf)
    | (refine .inl ⟨_, ac_law36_awake, ?_⟩; conv => whnf)
    | (refine .inl ⟨_, AC.sub1 (ac_law36_few 1 (fun _ => l) (by omega)) (by repeat' (first | exact PSub.rfl | exact PSub.nil_ro _ _ | exact PSub.lit_sb rfl | exact trivial | exact all_lt_zero | refine PSub.agg ?_ | refine PSub.ro rfl ?_ | refine all_lt_succ ?_ ?_ | refine And.intro ?_ ?_)), ?_⟩; conv => whnf)
    | (refine .inl ⟨_, ac_scene_Capture H l name keys hH hl hk, ?_⟩; conv => whnf)
    | (refine .inl ⟨_, ac_r36_Capture H l name keys hH hl hk, ?_⟩; conv => whnf)
    | (refine .inl ⟨_, ac_r36_Same (capS H l name keys) (capS H l name keys) (by omega), ?_⟩; conv => whnf)
    | (refine .inl ⟨_, ac_scene_Apply (capS H l name keys) c (by omega), ?_⟩; conv => whnf)
    | (refine .inl ⟨_, ac_r36_Apply (capS H l name keys) c (by omega), ?_⟩; conv => whnf)
    | (refine .inl ⟨_, ac_r36_SameWrites (applyS (capS H l name keys) c (capS H l name keys).items.length) (applyS (capS H l name keys) c (capS H l name keys).items.length) (by simp [applyS]; omega), ?_⟩; conv => whnf)
    | (refine And.intro (by (try simp only [Int.toNat_natCast]); omega) ?_; conv => whnf)
    | (refine And.intro (show (_ : Bool) = true from by kernel_rfl) ?_; conv => whnf)
    | (refine .inl ⟨wrap64 (by omega), ?_⟩; conv => whnf)))
  all_goals first | exact .rfl | exact absurd trivial h | exact absurd rfl h | exact PSub.sb (by simp)

theorem ac_law36_SceneCompares (s : Scene) (l : List Item) (hs : smallL s.items) (hl : smallL l) : AC Try.prog 5 [.pv (.agg (cSce s)), .pv (roL 7 cItem l)] [] (.pv (vbool true)) [] := by
  have hs2 : s.items.length ≤ 1048576 := hs
  have h1 := difS_length (s := s.items) (l := l)
  have h2 := undoS_length (s := s) (l := l)
  refine AC.of_awp (T := T) T_ok hm Try.call5 Try.func5 rfl rfl rfl ?_
  conv => whnf
  repeat (any_goals (first
    | (refine ⟨fun (h : (_ : Bool) = true) => ?_, fun (h : (_ : Bool) = false) => ?_⟩ <;> (try simp only [decide_eq_true_eq, decide_eq_false_iff_not, Bool.not_eq_true', Bool.not_eq_false', Int.toNat_natCast, beq_iff_eq, decide_eq_decide, beq_eq_false_iff_ne, ne_eq, reduceCtorEq] at h) <;> (conv => whnf))
    | (refine .inl ⟨_, ac_law36_awake, ?_⟩; conv => whnf)
    | (refine .inl ⟨_, AC.sub1 (ac_law36_few 2 (fun i => [s.items, l].getD i default) (by omega)) (by repeat' (first | exact PSub.rfl | exact PSub.nil_ro _ _ | exact PSub.lit_sb rfl | exact trivial | exact all_lt_zero | refine PSub.agg ?_ | refine PSub.ro rfl ?_ | refine all_lt_succ ?_ ?_ | refine And.intro ?_ ?_)), ?_⟩; conv => whnf)
    | (refine .inl ⟨_, ac_scene_Differs s l hs hl, ?_⟩; conv => whnf)
    | (refine .inl ⟨_, ac_r36_Differs s l hs hl, ?_⟩; conv => whnf)
    | (refine .inl ⟨_, ac_r22_SameKeys (difS s.items l) (difS s.items l) (by omega), ?_⟩; conv => whnf)
    | (refine .inl ⟨_, ac_scene_Active s l hs hl, ?_⟩; conv => whnf)
    | (refine .inl ⟨_, ac_r36_Active s l hs hl, ?_⟩; conv => whnf)
    | (refine .inl ⟨_, ac_scene_Undo s l hs hl, ?_⟩; conv => whnf)
    | (refine .inl ⟨_, ac_r36_Undo s l hs hl, ?_⟩; conv => whnf)
    | (refine .inl ⟨_, ac_r36_Same (undoS s l) (undoS s l) (by omega), ?_⟩; conv => whnf)
    | (refine And.intro (by (try simp only [Int.toNat_natCast]); omega) ?_; conv => whnf)
    | (refine And.intro (show (_ : Bool) = true from by kernel_rfl) ?_; conv => whnf)
    | (refine .inl ⟨wrap64 (by omega), ?_⟩; conv => whnf)))
  all_goals first | exact .rfl | exact absurd trivial h | exact absurd rfl h | exact PSub.sb (by simp)

theorem ac_law36_SceneJoins (a b : Scene) (name : ByteArray) (ha : smallL a.items) (hb : smallL b.items) : AC Try.prog 7 [.pv (.agg (cSce a)), .pv (.agg (cSce b)), .pv (vstr name)] [] (.pv (vbool true)) [] := by
  have ha2 : a.items.length ≤ 1048576 := ha
  have hb2 : b.items.length ≤ 1048576 := hb
  have hj := joinS_length (a := a) (b := b)
  have hl : smallL [a, b] := sl rfl
  have hi : ∀ i, smallL ([a, b].getD i default).items := fun i => by
    rcases i with _ | _ | i
    · exact ha
    · exact hb
    · exact Nat.zero_le _
  have hf : (findS [a, b] name).items.length ≤ 4194304 := by
    unfold findS
    split
    · exact Nat.le_trans (hi _) (by decide)
    · exact Nat.zero_le _
  refine AC.of_awp (T := T) T_ok hm Try.call7 Try.func7 rfl rfl rfl ?_
  conv => whnf
  repeat (any_goals (first
    | (refine ⟨fun (h : (_ : Bool) = true) => ?_, fun (h : (_ : Bool) = false) => ?_⟩ <;> (try simp only [decide_eq_true_eq, decide_eq_false_iff_not, Bool.not_eq_true', Bool.not_eq_false', Int.toNat_natCast, beq_iff_eq, decide_eq_decide, beq_eq_false_iff_ne, ne_eq, reduceCtorEq] at h) <;> (conv => whnf))
    | (refine .inl ⟨_, ac_law36_awake, ?_⟩; conv => whnf)
    | (refine .inl ⟨_, AC.sub1 (ac_law36_few 2 (fun i => [a.items, b.items].getD i default) (by omega)) (by repeat' (first | exact PSub.rfl | exact PSub.nil_ro _ _ | exact PSub.lit_sb rfl | exact trivial | exact all_lt_zero | refine PSub.agg ?_ | refine PSub.ro rfl ?_ | refine all_lt_succ ?_ ?_ | refine And.intro ?_ ?_)), ?_⟩; conv => whnf)
    | (refine .inl ⟨_, AC.sub2 (ac_scene_Find [a, b] name hl hi) (by repeat' (first | exact PSub.rfl | exact PSub.nil_ro _ _ | exact PSub.lit_sb rfl | exact trivial | exact all_lt_zero | refine PSub.agg ?_ | refine PSub.ro rfl ?_ | refine all_lt_succ ?_ ?_ | refine And.intro ?_ ?_)) (by repeat' (first | exact PSub.rfl | exact PSub.nil_ro _ _ | exact PSub.lit_sb rfl | exact trivial | exact all_lt_zero | refine PSub.agg ?_ | refine PSub.ro rfl ?_ | refine all_lt_succ ?_ ?_ | refine And.intro ?_ ?_)), ?_⟩; conv => whnf)
    | (refine .inl ⟨_, AC.sub2 (ac_r36_Find [a, b] name hl) (by repeat' (first | exact PSub.rfl | exact PSub.nil_ro _ _ | exact PSub.lit_sb rfl | exact trivial | exact all_lt_zero | refine PSub.agg ?_ | refine PSub.ro rfl ?_ | refine all_lt_succ ?_ ?_ | refine And.intro ?_ ?_)) (by repeat' (first | exact PSub.rfl | exact PSub.nil_ro _ _ | exact PSub.lit_sb rfl | exact trivial | exact all_lt_zero | refine PSub.agg ?_ | refine PSub.ro rfl ?_ | refine all_lt_succ ?_ ?_ | refine And.intro ?_ ?_)), ?_⟩; conv => whnf)
    | (refine .inl ⟨_, ac_scene_Join a b ha hb, ?_⟩; conv => whnf)
    | (refine .inl ⟨_, ac_r36_Join a b ha hb, ?_⟩; conv => whnf)
    | (refine .inl ⟨_, ac_r36_Same (joinS a b) (joinS a b) (by omega), ?_⟩; conv => whnf)
    | (refine .inl ⟨_, ac_r36_Same (findS [a, b] name) (findS [a, b] name) hf, ?_⟩; conv => whnf)
    | (refine And.intro (by (try simp only [Int.toNat_natCast]); omega) ?_; conv => whnf)
    | (refine And.intro (show (_ : Bool) = true from by kernel_rfl) ?_; conv => whnf)
    | (refine .inl ⟨wrap64 (by omega), ?_⟩; conv => whnf)))
  all_goals first | exact .rfl | exact absurd trivial h | exact absurd rfl h | exact PSub.sb (by simp)

end Go.Abs

namespace Go.Abs
open Go.Proofs
set_option maxRecDepth 10000

/-! plain laws -/
theorem capI_some {H : Hom} {l : List Item} {k : Key} {x : Item} (h : capI H l k = some x) : x.key = k ∧ x.version = 0 ∧ (∃ a, findA H k = some a ∧ a.writable = true ∧ fitsE a x.value = 0) ∧ ∃ y, findI l k = some y ∧ y.value = x.value := by
  unfold capI at h
  split at h
  · rename_i a y ha hy
    split at h
    · rename_i hc
      cases h
      exact ⟨rfl, rfl, ⟨a, ha, hc.1, hc.2⟩, y, hy, rfl⟩
    · cases h
  · cases h

theorem capTo_mem {H : Hom} {l : List Item} {ks : List Key} {x : Item} (h : x ∈ capTo H l ks) : capI H l x.key = some x := by
  unfold capTo at h
  obtain ⟨k, _, hk⟩ := List.mem_filterMap.1 h
  rw [(capI_some hk).1]; exact hk

theorem capTo_sub {H : Hom} {l : List Item} : ∀ {ks : List Key}, ((capTo H l ks).map Item.key).Sublist ks
  | [] => .slnil
  | k :: ks => by
    unfold capTo
    rw [List.filterMap_cons]
    cases hk : capI H l k with
    | none => exact .cons _ capTo_sub
    | some x =>
      simp only [List.map_cons]
      rw [(capI_some hk).1]
      exact .cons_cons _ capTo_sub

theorem asc_get {l : List Item} (h : Asc (l.map Item.key)) {i j : Nat} (hij : i < j) (hj : j < l.length) : keyLess (l.getD i default).key (l.getD j default).key = true := by
  have := (List.pairwise_iff_getElem.1 h) i j (by simp; omega) (by simp; omega) hij
  rw [getD_getElem _ _ (by omega), getD_getElem _ _ hj]
  simpa using this

theorem caught_check {H : Hom} {l : List Item} {name : ByteArray} {keys : List Key} (he : capSE H name = 0) (hk : keys.length ≤ 60) : checkS H (capS H l name keys) = 0 := by
  have hlen := capS_length (H := H) (l := l) (name := name) (keys := keys)
  have h1 : homE H = 0 := by
    unfold capSE at he
    split at he
    · exact he
    · rename_i h; simpa using h
  have h2 : validName name = true := by
    unfold capSE at he
    rw [if_neg (by simpa using h1)] at he
    split at he
    · cases he
    · rename_i h; simpa using h
  have hcs : capS H l name keys = ⟨name, capTo H l (sortK keys)⟩ := by rw [capS, if_neg (by simp [he])]
  rw [hcs] at hlen ⊢
  simp only at hlen
  have hasc : Asc ((capTo H l (sortK keys)).map Item.key) := List.Pairwise.sublist capTo_sub (asc_sortK keys)
  unfold checkS
  rw [if_neg (by simpa using h1), if_neg (by simp [h2]), if_neg (by simp only; omega)]
  refine firstE_none fun i hi => ?_
  simp only at hi ⊢
  have hmem : (capTo H l (sortK keys)).getD i default ∈ capTo H l (sortK keys) := by rw [getD_getElem _ _ hi]; exact List.getElem_mem hi
  obtain ⟨_, hv, ⟨a, ha, hw, hf⟩, _⟩ := capI_some (capTo_mem hmem)
  unfold sceE
  rw [if_neg (by rw [ha]; simp), if_neg (by rw [ha]; simp [hw]), if_neg (by rw [ha]; simp [hf, -List.getD_eq_getElem?_getD]), if_neg (by simp [hv, -List.getD_eq_getElem?_getD]), if_neg]
  rintro ⟨h0, hl⟩
  rw [asc_get hasc (show i - 1 < i by omega) hi] at hl
  cases hl

theorem findI_of_mem {l : List Item} {x : Item} (h : x ∈ l) : ∃ y, findI l x.key = some y ∧ y ∈ l ∧ y.key = x.key := by
  cases hf : findI l x.key with
  | none => exact absurd rfl (findI_none.1 hf x h)
  | some y => exact ⟨y, rfl, findI_mem hf, findI_key hf⟩

theorem difS_nil {s l : List Item} : difS s l = [] ↔ ∀ k, k ∈ s.map Item.key → difB (findI s k) (findI l k) = false := by
  unfold difS
  rw [List.filter_eq_nil_iff]
  constructor
  · intro h k hk
    have := h k (mem_sortK.2 hk)
    simpa using this
  · intro h k hk
    have := h k (mem_sortK.1 hk)
    simp [this]

theorem caught_active {H : Hom} {l : List Item} {name : ByteArray} {keys : List Key} : difS (capS H l name keys).items l = [] := by
  rw [difS_nil]
  intro k hk
  unfold capS at hk ⊢
  split at hk
  · simp [noScene] at hk
  rename_i he
  rw [if_neg he]
  simp only at hk ⊢
  obtain ⟨x, hx, rfl⟩ := List.mem_map.1 hk
  obtain ⟨y, h1, h2, h3⟩ := findI_of_mem hx
  obtain ⟨_, _, _, z, hz, hv⟩ := capI_some (capTo_mem h2)
  rw [h1]
  rw [h3] at hz
  rw [hz]
  simp [difB, hv]

theorem ac_law36_SceneCaught (H : Hom) (l : List Item) (name : ByteArray) (keys : List Key) (hH : smallH H) (hl : smallL l) (hk : smallL keys) :
    AC Try.prog 6 [.pv (.agg (cHom H)), .pv (roL 7 cItem l), .pv (vstr name), .pv (roL 3 cKey keys)] [] (.pv (vbool true)) [] := by
  have hk2 : keys.length ≤ 1048576 := hk
  have hcl := capS_length (H := H) (l := l) (name := name) (keys := keys)
  have hcs : smallL (capS H l name keys).items := Nat.le_trans hcl hk2
  have hnil : capSE H name ≠ 0 → (capS H l name keys).items.length = 0 := fun h => by rw [capS, if_pos h]; rfl
  have hname : capSE H name = 0 → (capS H l name keys).name = name := fun h => by rw [capS, if_neg (by simp [h])]
  have hact := caught_active (H := H) (l := l) (name := name) (keys := keys)
  have hchk := fun h1 h2 => caught_check (H := H) (l := l) (name := name) (keys := keys) h1 h2
  refine AC.of_awp (T := T) T_ok hm Try.call6 Try.func6 rfl rfl rfl ?_
  conv => whnf
  repeat (any_goals (first
    | (refine ⟨fun (h : (_ : Bool) = true) => ?_, fun (h : (_ : Bool) = false) => ?_⟩ <;> (try simp only [decide_eq_true_eq, decide_eq_false_iff_not, Bool.not_eq_true', Bool.not_eq_false', Int.toNat_natCast, beq_iff_eq, decide_eq_decide, beq_eq_false_iff_ne, ne_eq, reduceCtorEq] at h) <;> (conv => whnf))
    | (refine .inl ⟨_, ac_law36_home H, ?_⟩; conv => whnf)
    | (refine .inl ⟨_, ac_law36_awake, ?_⟩; conv => whnf)
    | (refine .inl ⟨_, AC.sub1 (ac_law36_few 1 (fun _ => l) (by omega)) (by repeat' (first | exact PSub.rfl | exact PSub.nil_ro _ _ | exact PSub.lit_sb rfl | exact trivial | exact all_lt_zero | refine PSub.agg ?_ | refine PSub.ro rfl ?_ | refine all_lt_succ ?_ ?_ | refine And.intro ?_ ?_)), ?_⟩; conv => whnf)
    | (refine .inl ⟨_, ac_scene_Capture H l name keys hH hl hk, ?_⟩; conv => whnf)
    | (refine .inl ⟨_, ac_scene_Check H (capS H l name keys) hH hcs, ?_⟩; conv => whnf)
    | (refine .inl ⟨_, ac_scene_Active (capS H l name keys) l hcs hl, ?_⟩; conv => whnf)
    | (refine And.intro (by (try simp only [Int.toNat_natCast]); omega) ?_; conv => whnf)
    | (refine And.intro (show (_ : Bool) = true from by kernel_rfl) ?_; conv => whnf)
    | (refine .inl ⟨wrap64 (by omega), ?_⟩; conv => whnf)))
  all_goals try first | exact .rfl | exact absurd trivial h | exact absurd rfl h
  all_goals first
    | exact absurd (hchk ‹_› (by omega)) h
    | exact absurd (hname ‹_›) h
    | exact absurd hact h
    | (exfalso; have := hnil ‹_›; omega)

end Go.Abs

namespace Go.Abs
open Go.Proofs
set_option maxRecDepth 10000

/-! plain laws -/
theorem joinI_key {a b : List Item} {k : Key} (h : k ∈ a.map Item.key ++ b.map Item.key) : (joinI a b k).key = k := by
  unfold joinI
  cases hb : findI b k with
  | some y => exact findI_key hb
  | none =>
    cases ha : findI a k with
    | some y => exact findI_key ha
    | none =>
      rcases List.mem_append.1 h with h | h
      · obtain ⟨x, hx, rfl⟩ := List.mem_map.1 h
        exact absurd rfl (findI_none.1 ha x hx)
      · obtain ⟨x, hx, rfl⟩ := List.mem_map.1 h
        exact absurd rfl (findI_none.1 hb x hx)

theorem map_key_id {f : Key → Item} {ks : List Key} (h : ∀ k, k ∈ ks → (f k).key = k) : (ks.map f).map Item.key = ks := by
  rw [List.map_map]
  conv => rhs; rw [← List.map_id ks]
  exact List.map_congr_left fun k hk => h k hk

theorem joinS_keys {a b : Scene} : (joinS a b).items.map Item.key = sortK (a.items.map Item.key ++ b.items.map Item.key) :=
  map_key_id fun k hk => joinI_key (mem_sortK.1 hk)

theorem joinS_asc {a b : Scene} : Asc ((joinS a b).items.map Item.key) := by rw [joinS_keys]; exact asc_sortK _

theorem isSome_itemAt {l : List Item} {q : Key} (h : ∃ x ∈ l, x.key = q) : itemAt l q < l.length := by
  have := itemAt_isSome l q
  rw [findI_some.2 h] at this
  simpa using this

theorem getD_mem' {α : Type} [Inhabited α] {l : List α} {i : Nat} (h : i < l.length) : l.getD i default ∈ l := by rw [getD_getElem _ _ h]; exact List.getElem_mem h

theorem joinS_from {a b : Scene} {i : Nat} (hi : i < (joinS a b).items.length) : itemAt a.items ((joinS a b).items.getD i default).key < a.items.length ∨ itemAt b.items ((joinS a b).items.getD i default).key < b.items.length := by
  have hm : ((joinS a b).items.getD i default).key ∈ (joinS a b).items.map Item.key := List.mem_map.2 ⟨_, getD_mem' hi, rfl⟩
  rw [joinS_keys, mem_sortK] at hm
  rcases List.mem_append.1 hm with h | h
  · obtain ⟨x, hx, e⟩ := List.mem_map.1 h
    exact .inl (isSome_itemAt ⟨x, hx, e⟩)
  · obtain ⟨x, hx, e⟩ := List.mem_map.1 h
    exact .inr (isSome_itemAt ⟨x, hx, e⟩)

theorem joinS_all {a b : Scene} {i : Nat} (hi : i < (a.items ++ b.items).length) : itemAt (joinS a b).items ((a.items ++ b.items).getD i default).key < (joinS a b).items.length := by
  have hm := getD_mem' hi
  have hk : ((a.items ++ b.items).getD i default).key ∈ (joinS a b).items.map Item.key := by
    rw [joinS_keys, mem_sortK, ← List.map_append]
    exact List.mem_map.2 ⟨_, hm, rfl⟩
  obtain ⟨x, hx, e⟩ := List.mem_map.1 hk
  exact isSome_itemAt ⟨x, hx, e⟩

theorem find_of_nodup : ∀ {l : List Item} {x : Item}, (l.map Item.key).Nodup → x ∈ l → findI l x.key = some x
  | [], x, _, hx => by cases hx
  | y :: r, x, hn, hx => by
    rw [List.map_cons, List.nodup_cons] at hn
    unfold findI
    rw [List.find?_cons]
    rcases List.mem_cons.1 hx with rfl | hx
    · simp
    · have hne : y.key ≠ x.key := fun e => hn.1 (e ▸ List.mem_map.2 ⟨x, hx, rfl⟩)
      rw [decide_eq_false hne]
      exact find_of_nodup hn.2 hx

theorem join_active {a b : Scene} {l : List Item} (h : difS (joinS a b).items l = []) : difS b.items l = [] := by
  rw [difS_nil] at h ⊢
  intro k hk
  have hK : k ∈ sortK (a.items.map Item.key ++ b.items.map Item.key) := mem_sortK.2 (List.mem_append.2 (.inr hk))
  have h1 := h k (by rw [joinS_keys]; exact hK)
  have hx : joinI a.items b.items k ∈ (joinS a b).items := List.mem_map.2 ⟨k, hK, rfl⟩
  have hf := find_of_nodup (by rw [joinS_keys]; exact (asc_sortK _).nodup) hx
  rw [joinI_key (mem_sortK.1 hK)] at hf
  obtain ⟨x, hx2, rfl⟩ := List.mem_map.1 hk
  obtain ⟨y, hy, _, _⟩ := findI_of_mem hx2
  rw [hf] at h1
  rw [hy]
  have : joinI a.items b.items x.key = y := by unfold joinI; rw [hy]; rfl
  rw [this] at h1
  exact h1

theorem ac_law36_SceneUnites (a b : Scene) (l : List Item) (ha : smallL a.items) (hb : smallL b.items) (hl : smallL l) :
    AC Try.prog 8 [.pv (.agg (cSce a)), .pv (.agg (cSce b)), .pv (roL 7 cItem l)] [] (.pv (vbool true)) [] := by
  have ha2 : a.items.length ≤ 1048576 := ha
  have hb2 : b.items.length ≤ 1048576 := hb
  have hj := joinS_length (a := a) (b := b)
  refine AC.of_awp (T := T) T_ok hm Try.call8 Try.func8 rfl rfl rfl ?_
  conv => whnf
  repeat (any_goals (first
    | (refine ⟨fun (h : (_ : Bool) = true) => ?_, fun (h : (_ : Bool) = false) => ?_⟩ <;> (try simp only [decide_eq_true_eq, decide_eq_false_iff_not, Bool.not_eq_true', Bool.not_eq_false', Int.toNat_natCast, beq_iff_eq, decide_eq_decide, beq_eq_false_iff_ne, ne_eq, reduceCtorEq] at h) <;> (conv => whnf))
    | (refine .inl ⟨_, ac_law36_awake, ?_⟩; conv => whnf)
    | (refine .inl ⟨_, AC.sub1 (ac_law36_few 3 (fun i => [a.items, b.items, l].getD i default) (by omega)) (by repeat' (first | exact PSub.rfl | exact PSub.nil_ro _ _ | exact PSub.lit_sb rfl | exact trivial | exact all_lt_zero | refine PSub.agg ?_ | refine PSub.ro rfl ?_ | refine all_lt_succ ?_ ?_ | refine And.intro ?_ ?_)), ?_⟩; conv => whnf)
    | (refine .inl ⟨_, ac_scene_Join a b ha hb, ?_⟩; conv => whnf)
    | (refine And.intro (by (try simp only [Int.toNat_natCast]); omega) ?_; conv => whnf)
    | (refine And.intro (show (_ : Bool) = true from by kernel_rfl) ?_; conv => whnf)
    | (refine .inl ⟨wrap64 (by omega), ?_⟩; conv => whnf)))
  all_goals try first | exact .rfl | exact absurd trivial h | exact absurd rfl h
  have hfew := h
  have hfa : a.items.length ≤ 60 := hfew 0 (by omega)
  have hfb : b.items.length ≤ 60 := hfew 1 (by omega)
  have hjs : smallL (joinS a b).items := by unfold smallL; omega
  have hfrom := fun i hi => joinS_from (a := a) (b := b) (i := i) hi
  have hasc := joinS_asc (a := a) (b := b)
  have hall := fun i hi => joinS_all (a := a) (b := b) (i := i) hi
  have hact := fun h => join_active (a := a) (b := b) (l := l) h
  have hname : (joinS a b).name = a.name := rfl
  generalize joinS a b = J at *
  refine loop_k (ι := Nat) [2, 3, 4, 7, 31, 32] [3, 4, 7] (fun k => k ≤ J.items.length ∧ True) (fun k => J.items.length - k) 0 (fun k => [(33, .pv (vint k))]) (fun _ => []) [] ⟨Nat.zero_le _, trivial⟩ ?_ (fun k hk => ?_)
  · (repeat' (first | exact PSub.rfl | exact rfl | exact PSubs.rfl | exact trivial | refine And.intro ?_ ?_))
  obtain ⟨hkn, hinv⟩ := hk
  conv => whnf
  repeat (any_goals (first
    | (refine ⟨fun (h : (_ : Bool) = true) => ?_, fun (h : (_ : Bool) = false) => ?_⟩ <;> (try simp only [decide_eq_true_eq, decide_eq_false_iff_not, Bool.not_eq_true', Bool.not_eq_false', Int.toNat_natCast, beq_iff_eq, decide_eq_decide, beq_eq_false_iff_ne, ne_eq, reduceCtorEq] at h) <;> (conv => whnf))
    | (refine .inl ⟨_, ac_device_Get a.items (J.items.getD k default).key ha, ?_⟩; conv => whnf)
    | (refine .inl ⟨_, ac_device_Get b.items (J.items.getD k default).key hb, ?_⟩; conv => whnf)
    | (refine .inl ⟨_, ac_device_Less (J.items.getD ((k : Int) - 1).toNat default).key (J.items.getD k default).key, ?_⟩; conv => whnf)
    | (refine And.intro (by (try simp only [Int.toNat_natCast]); omega) ?_; conv => whnf)
    | (refine And.intro (show (_ : Bool) = true from by kernel_rfl) ?_; conv => whnf)
    | (refine .inl ⟨wrap64 (by omega), ?_⟩; conv => whnf)))
  all_goals try (exfalso; rcases hfrom k (by omega) with h1 | h1 <;> contradiction; done)
  all_goals try (exfalso; have := asc_get hasc (i := ((k : Int) - 1).toNat) (j := k) (by omega) (by omega); rw [this] at h; cases h; done)
  all_goals try (refine ⟨k + 1, [], ⟨by omega, trivial⟩, by omega, ?_⟩; (repeat' (first | exact PSub.rfl | exact rfl | exact PSubs.rfl | exact trivial | refine And.intro ?_ ?_)); done)
  clear hkn hinv
  have hab : (a.items ++ b.items).length = a.items.length + b.items.length := List.length_append
  refine loop_k (ι := Nat) [2, 3, 4, 7, 85] [3, 4, 7] (fun q => q ≤ (a.items ++ b.items).length ∧ True) (fun q => (a.items ++ b.items).length - q) 0 (fun q => [(84, .own 500), (86, .pv (vint q))]) (fun q => [(500, rowL 7 cItem (a.items ++ b.items))]) [(500, 84)] ⟨Nat.zero_le _, trivial⟩ ?_ (fun q hk => ?_)
  · (repeat' (first | exact PSub.rfl | exact rfl | exact PSubs.rfl | exact trivial | refine And.intro ?_ ?_))
    · omega
    · intro i hi
      dsimp only
      by_cases hia : i < a.items.length
      · rw [if_pos (by omega), if_neg (by omega), show (a.items ++ b.items).getD i default = a.items.getD i default from by simp only [List.getD_eq_getElem?_getD]; rw [List.getElem?_append_left hia]]
        exact PSubs.rfl
      · rw [if_neg (by omega), show (a.items ++ b.items).getD i default = b.items.getD (i - (0 + a.items.length)) default from by simp only [List.getD_eq_getElem?_getD]; rw [List.getElem?_append_right (by omega), Nat.zero_add]]
        exact PSubs.rfl
  obtain ⟨hkn, -⟩ := hk
  dsimp only
  conv => whnf
  repeat (any_goals (first
    | (refine ⟨fun (h : (_ : Bool) = true) => ?_, fun (h : (_ : Bool) = false) => ?_⟩ <;> (try simp only [decide_eq_true_eq, decide_eq_false_iff_not, Bool.not_eq_true', Bool.not_eq_false', Int.toNat_natCast, beq_iff_eq, decide_eq_decide, beq_eq_false_iff_ne, ne_eq, reduceCtorEq] at h) <;> (conv => whnf))
    | (refine .inl ⟨_, ac_device_Get J.items ((a.items ++ b.items).getD q default).key hjs, ?_⟩; conv => whnf)
    | (refine .inl ⟨_, ac_scene_Active J l hjs hl, ?_⟩; conv => whnf)
    | (refine .inl ⟨_, ac_scene_Active b l hb hl, ?_⟩; conv => whnf)
    | (refine .inl ⟨_, ac_law36_awake, ?_⟩; conv => whnf)
    | (refine And.intro (by (try simp only [Int.toNat_natCast]); omega) ?_; conv => whnf)
    | (refine And.intro (show (_ : Bool) = true from by kernel_rfl) ?_; conv => whnf)
    | (refine .inl ⟨wrap64 (by omega), ?_⟩; conv => whnf)))
  all_goals first
    | exact .rfl
    | exact absurd (hall q (by omega)) h
    | exact absurd (hact ‹_›) h
    | exact absurd hname h
    | (refine ⟨q + 1, [], ⟨by omega, trivial⟩, by omega, ?_⟩; (repeat' (first | exact PSub.rfl | exact rfl | exact PSubs.rfl | exact trivial | refine And.intro ?_ ?_)); intro i hi; exact PSubs.rfl; done)

end Go.Abs

namespace Go.Abs
open Go.Proofs
set_option maxRecDepth 10000

/-- cluster.after -/
def afterV (x : Eff) (a : Attr) (p v : Val) : Val :=
  limitV a (if x.kind = 1 then ⟨a.kind, x.n, ⟨#[]⟩⟩ else if x.kind = 2 then p else if x.kind = 3 then ⟨v.kind, satI (v.n + x.n), v.s⟩ else if x.kind = 4 then ⟨v.kind, 1 - v.n, v.s⟩ else v)
/-- R21.Done -/
def doneV (x : Eff) (a : Attr) (p v : Val) : Val :=
  limitV a (if x.kind = 1 then ⟨v.kind, x.n, v.s⟩ else if x.kind = 2 then p else if x.kind = 3 then ⟨v.kind, v.n + x.n, v.s⟩ else if x.kind = 4 then ⟨v.kind, 1 - v.n, v.s⟩ else v)

theorem fits_iff {a : Attr} {v : Val} : fitsE a v = 0 ↔ (defE a = 0 ∧ valE v = 0 ∧ v.kind = a.kind ∧ ¬ ((v.kind = 2 ∧ (v.n < a.min ∨ a.max < v.n)) ∨ (v.kind = 3 ∧ (a.enum.length : Int) ≤ v.n))) := by
  unfold fitsE
  constructor
  · intro h
    split at h
    · contradiction
    · split at h
      · contradiction
      · split at h
        · cases h
        · split at h
          · cases h
          · refine ⟨by omega, by omega, by omega, by assumption⟩
  · rintro ⟨h1, h2, h3, h4⟩
    rw [if_neg (by omega), if_neg (by omega), if_neg (by omega), if_neg h4]

theorem val_iff {v : Val} : valE v = 0 ↔ (0 ≤ v.kind ∧ v.kind ≤ 4 ∧ ((v.kind = 0 ∨ v.kind = 4) → v.n = 0) ∧ (v.kind = 1 → v.n = 0 ∨ v.n = 1) ∧ (v.kind = 2 → inRange v.n = true) ∧ (v.kind = 3 → 0 ≤ v.n ∧ v.n ≤ 63) ∧ v.s.size ≤ 60 ∧ (v.s = ⟨#[]⟩ ∨ v.kind = 4)) := by
  unfold valE
  constructor
  · intro h
    split at h
    · cases h
    · rename_i h1
      split at h
      · cases h
      · rename_i h2
        split at h
        · cases h
        · rename_i h3
          split at h
          · cases h
          · rename_i h4
            refine ⟨by omega, by omega, by omega, by omega, fun hk => ?_, by omega, by omega, ?_⟩
            · cases hi : inRange v.n with
              | true => rfl
              | false => exact absurd (.inr (.inr (.inl ⟨hk, hi⟩))) h2
            · by_cases hs : v.s = ⟨#[]⟩
              · exact .inl hs
              · exact .inr (Classical.not_not.1 fun hk => h4 ⟨hs, hk⟩)
  · rintro ⟨h1, h2, h3, h4, h5, h6, h7, h8⟩
    rw [if_neg (by omega), if_neg, if_neg (by omega), if_neg]
    · rintro ⟨hs, hk⟩; rcases h8 with h | h
      · exact hs h
      · exact hk h
    · rintro (h | h | h | h)
      · omega
      · omega
      · rw [h5 h.1] at h; cases h.2
      · omega

theorem def_int {a : Attr} (h : defE a = 0) (hk : a.kind = 2) : inRange a.min = true ∧ inRange a.max = true ∧ a.min ≤ a.max := by
  unfold defE at h
  split at h
  · cases h
  · split at h
    · cases h
    · split at h
      · cases h
      · rename_i h1
        have h2 : ¬ (inRange a.min = false ∨ inRange a.max = false ∨ a.max < a.min) := fun x => h1 ⟨hk, x⟩
        refine ⟨?_, ?_, ?_⟩
        · cases e : inRange a.min with
          | true => rfl
          | false => exact absurd (.inl e) h2
        · cases e : inRange a.max with
          | true => rfl
          | false => exact absurd (.inr (.inl e)) h2
        · exact Int.not_lt.1 fun x => h2 (.inr (.inr x))

theorem inRange_iff {n : Int} : inRange n = true ↔ -1099511627776 ≤ n ∧ n ≤ 1099511627776 := by simp [inRange]

theorem limit_fits {a : Attr} {v : Val} (h : fitsE a v = 0) : limitV a v = v := by
  rw [fits_iff] at h
  unfold limitV
  split
  · rename_i hh
    obtain ⟨k, n, s⟩ := v
    simp only at *
    congr 1
    unfold clampI
    have := def_int h.1 hh.2.1
    rw [if_neg (by omega), if_neg (by omega)]
  · rfl

/-- An integer value, limited, fits. -/
theorem limit_int {a : Attr} {n : Int} {s : ByteArray} (hd : defE a = 0) (hk : a.kind = 2) (hs : s = ⟨#[]⟩) : limitV a ⟨2, n, s⟩ = ⟨2, clampI n a.min a.max, s⟩ ∧ fitsE a (limitV a ⟨2, n, s⟩) = 0 := by
  have e : limitV a ⟨2, n, s⟩ = ⟨2, clampI n a.min a.max, s⟩ := by
    unfold limitV; rw [if_pos ⟨hd, hk, rfl⟩]
  refine ⟨e, ?_⟩
  rw [e, fits_iff, val_iff]
  obtain ⟨h1, h2, h3⟩ := def_int hd hk
  rw [inRange_iff] at h1 h2
  have hc : a.min ≤ clampI n a.min a.max ∧ clampI n a.min a.max ≤ a.max := by unfold clampI; (repeat' split) <;> omega
  simp only [inRange_iff]
  subst hs
  refine ⟨hd, ⟨by omega, by omega, by omega, by omega, by omega, by omega, by decide, .inl rfl⟩, by omega, by omega⟩

theorem suits_cases {x : Eff} {a p : Attr} (h : suitsB x a p = true) : (x.kind = 1 ∧ a.kind ≠ 4 ∧ fitsE a ⟨a.kind, x.n, ⟨#[]⟩⟩ = 0) ∨ (x.kind = 2 ∧ a.kind = p.kind ∧ a.enum = p.enum) ∨ (x.kind = 3 ∧ a.kind = 2) ∨ (x.kind ≠ 1 ∧ x.kind ≠ 2 ∧ x.kind ≠ 3 ∧ a.kind = 1) := by
  unfold suitsB at h
  split at h
  · rename_i hk; simp only [Bool.and_eq_true, decide_eq_true_eq] at h; exact .inl ⟨hk, h⟩
  · split at h
    · rename_i hk; simp only [alikeB, Bool.and_eq_true, decide_eq_true_eq] at h; exact .inr (.inl ⟨hk, h⟩)
    · split at h
      · rename_i hk; simp only [decide_eq_true_eq] at h; exact .inr (.inr (.inl ⟨hk, h⟩))
      · simp only [decide_eq_true_eq] at h; exact .inr (.inr (.inr ⟨by assumption, by assumption, by assumption, h⟩))

/-- cluster.accepts -/
def acceptsE (d : Cmd) (p : Val) : Int := if d.param.kind ≠ 0 then fitsE d.param p else if p ≠ noVal then 11 else 0

/-- An effect that suits its attribute: what it leaves fits, and both texts leave the same. -/
theorem after_ok {x : Eff} {a : Attr} {d : Cmd} {p v : Val} (hk : 1 ≤ x.kind ∧ x.kind ≤ 4) (hs : suitsB x a d.param = true) (hp : acceptsE d p = 0) (hv : fitsE a v = 0) (hn : x.kind = 3 → satI x.n = x.n) :
    fitsE a (afterV x a p v) = 0 ∧ doneV x a p v = afterV x a p v := by
  obtain ⟨hd, hval, hvk, hvb⟩ := fits_iff.1 hv
  have hv2 := val_iff.1 hval
  rcases suits_cases hs with ⟨h1, h2, h3⟩ | ⟨h1, h2, h3⟩ | ⟨h1, h2⟩ | ⟨h1, h2, h3, h4⟩
  · have hvs : v.s = ⟨#[]⟩ := by rcases hv2.2.2.2.2.2.2.2 with h | h; exact h; omega
    unfold afterV doneV
    rw [if_pos h1, if_pos h1, hvk, hvs]
    exact ⟨by rw [limit_fits h3]; exact h3, rfl⟩
  · unfold afterV doneV
    rw [if_neg (by omega), if_pos h1, if_neg (by omega), if_pos h1]
    refine ⟨?_, rfl⟩
    have hak : 1 ≤ a.kind := by
      unfold defE at hd
      split at hd
      · cases hd
      · split at hd
        · cases hd
        · omega
    have hpf : fitsE d.param p = 0 := by
      unfold acceptsE at hp; rw [if_pos (by omega)] at hp; exact hp
    obtain ⟨hpd, hpv, hpk, hpb⟩ := fits_iff.1 hpf
    have hp2 := val_iff.1 hpv
    by_cases hk2 : a.kind = 2
    · have e : p = ⟨2, p.n, p.s⟩ := by cases p; simp only at *; congr 1; omega
      rw [e]
      refine (limit_int hd hk2 ?_).2
      rcases hp2.2.2.2.2.2.2.2 with h | h; exact h; omega
    · have e : limitV a p = p := by unfold limitV; rw [if_neg (by omega)]
      rw [e, fits_iff]
      refine ⟨hd, hpv, by omega, ?_⟩
      rw [h3]; omega
  · have hvs : v.s = ⟨#[]⟩ := by rcases hv2.2.2.2.2.2.2.2 with h | h; exact h; omega
    have hvk2 : v.kind = 2 := by omega
    unfold afterV doneV
    rw [if_neg (by omega), if_neg (by omega), if_pos h1, if_neg (by omega), if_neg (by omega), if_pos h1, hvk2]
    have e1 := limit_int (n := satI (v.n + x.n)) hd h2 hvs
    have e2 := limit_int (n := v.n + x.n) hd h2 hvs
    refine ⟨e1.2, ?_⟩
    rw [e1.1, e2.1]
    congr 1
    obtain ⟨h3, h4, h5⟩ := def_int hd h2
    rw [inRange_iff] at h3 h4
    unfold clampI satI
    (repeat' split) <;> omega
  · have h5 : x.kind = 4 := by omega
    unfold afterV doneV
    simp only [h5, if_true, if_false, reduceIte, Int.reduceEq]
    have e : limitV a ⟨v.kind, 1 - v.n, v.s⟩ = ⟨v.kind, 1 - v.n, v.s⟩ := by unfold limitV; rw [if_neg (by omega)]
    rw [e, fits_iff, val_iff]
    simp only
    refine ⟨⟨hd, ⟨by omega, by omega, ?_, ?_, ?_, ?_, by omega, hv2.2.2.2.2.2.2.2⟩, hvk, ?_⟩, trivial⟩
    all_goals first | omega | (intro h; omega)

theorem fits_small {a : Attr} {v : Val} (h : fitsE a v = 0) : smallN v.n := by
  have h2 := val_iff.1 (fits_iff.1 h).2.1
  have : v.kind = 0 ∨ v.kind = 1 ∨ v.kind = 2 ∨ v.kind = 3 ∨ v.kind = 4 := by omega
  unfold smallN
  rcases this with e | e | e | e | e
  · have := h2.2.2.1 (.inl e); omega
  · have := h2.2.2.2.1 e; omega
  · have := inRange_iff.1 (h2.2.2.2.2.1 e); omega
  · have := h2.2.2.2.2.2.1 e; omega
  · have := h2.2.2.1 (.inr e); omega

end Go.Abs

namespace Go.Abs

theorem keysL_small {H : Hom} {id : Int} (h : homeB H = true) : (keysL H id).length ≤ 80 := by
  have h20 : ∀ s, (keysOf1 (firstC H.clusters) id s).length ≤ 20 := by
    intro s
    simp only [keysOf1, List.length_map]
    unfold attrsOf
    split
    · rename_i c e
      obtain ⟨i, hi, rfl⟩ := List.getElem_of_mem (List.mem_of_find?_eq_some e)
      simp only [homeB, decide_eq_true_eq] at h
      have := (h.2.2.1 i hi).1
      rwa [getD_getElem _ _ hi] at this
    · exact Nat.zero_le _
  have key : ∀ l : List ByteArray, (l.flatMap (keysOf1 (firstC H.clusters) id)).length ≤ l.length * 20 := by
    intro l
    induction l with
    | nil => simp
    | cons x r ih => rw [List.flatMap_cons, List.length_append, List.length_cons]; have := h20 x; omega
  have h4 := @findD_length H id
  have := key (findD H id).clusters
  unfold keysL; omega

/-! items with one written -/
theorem withL_length {L : List Item} {k : Key} {v : Val} : (withL L k v).length = L.length := by
  unfold withL; split
  · exact putL_length
  · rfl

theorem set_getD {l : List Item} {i j : Nat} {x : Item} (hi : i < l.length) : (l.set i x).getD j default = if j = i then x else l.getD j default := by
  by_cases e : j = i
  · subst e; simp [List.getD, hi]
  · rw [if_neg e]; simp [List.getD, List.getElem?_set_ne (Ne.symm e)]

theorem withL_key {L : List Item} {k : Key} {v : Val} {i : Nat} : ((withL L k v).getD i default).key = (L.getD i default).key := by
  unfold withL; split
  · rename_i h
    unfold putL; split
    · rw [set_getD h]
      split
      · rename_i e; subst e; rfl
      · rfl
    · rfl
  · rfl

theorem withL_val {L : List Item} {k : Key} {v : Val} {i : Nat} (hi : i < L.length) : ((withL L k v).getD i default).value = if i = itemAt L k then v else (L.getD i default).value := by
  unfold withL; split
  · rename_i h
    unfold putL; split
    · rw [set_getD h]
      split <;> rfl
    · rename_i h2
      split
      · rename_i e; subst e; simpa using h2
      · rfl
  · rename_i h
    rw [if_neg (by omega)]

theorem itemAt_congr {L L' : List Item} (hl : L'.length = L.length) (hk : ∀ i, (L'.getD i default).key = (L.getD i default).key) (q : Key) : itemAt L' q = itemAt L q := by
  unfold itemAt; rw [hl]; congr 1; funext i; rw [hk]

def putAll (L xs : List Item) : List Item := xs.foldl (fun L x => withL L x.key x.value) L
theorem putAll_length : ∀ {xs L : List Item}, (putAll L xs).length = L.length
  | [], L => rfl
  | x :: xs, L => by
    show (putAll (withL L x.key x.value) xs).length = _
    rw [putAll_length, withL_length]
theorem putAll_key : ∀ {xs L : List Item} {i : Nat}, ((putAll L xs).getD i default).key = (L.getD i default).key
  | [], L, i => rfl
  | x :: xs, L, i => by
    show ((putAll (withL L x.key x.value) xs).getD i default).key = _
    rw [putAll_key, withL_key]
theorem putAll_at {xs L : List Item} (q : Key) : itemAt (putAll L xs) q = itemAt L q := itemAt_congr putAll_length (fun _ => putAll_key) q

theorem findI_cons {x : Item} {xs : List Item} {q : Key} : findI (x :: xs) q = if x.key = q then some x else findI xs q := by
  unfold findI
  rw [List.find?_cons]
  by_cases e : x.key = q
  · rw [decide_eq_true e, if_pos e]
  · rw [decide_eq_false e, if_neg e]

theorem putAll_val : ∀ {xs L : List Item} {i : Nat}, (xs.map Item.key).Nodup → i < L.length →
    ((putAll L xs).getD i default).value = if i = itemAt L (L.getD i default).key then ((findI xs (L.getD i default).key).map Item.value).getD (L.getD i default).value else (L.getD i default).value
  | [], L, i, _, hi => by simp [putAll, findI]
  | x :: xs, L, i, hn, hi => by
    rw [List.map_cons, List.nodup_cons] at hn
    show ((putAll (withL L x.key x.value) xs).getD i default).value = _
    rw [putAll_val hn.2 (by rw [withL_length]; exact hi), withL_key, itemAt_congr withL_length (fun _ => withL_key), withL_val hi, findI_cons]
    by_cases c : i = itemAt L (L.getD i default).key
    · rw [if_pos c, if_pos c]
      by_cases e : x.key = (L.getD i default).key
      · rw [if_pos e, if_pos (by rw [e]; exact c)]
        have : findI xs (L.getD i default).key = none := findI_none.2 fun y hy e2 => hn.1 (by rw [e, ← e2]; exact List.mem_map.2 ⟨y, hy, rfl⟩)
        rw [this]; rfl
      · rw [if_neg e, if_neg (fun h => e (by have := itemAt_key (l := L) (k := x.key) (by rw [← h]; exact hi); rw [← h] at this; exact this.symm))]
    · rw [if_neg c, if_neg c, if_neg (fun h => c (by have := itemAt_key (l := L) (k := x.key) (by rw [← h]; exact hi); rw [← h] at this; rw [this]; exact h))]

/-! the run -/
def goodW (H : Hom) (k : Key) (v : Val) : Prop := (findA H k).isSome = true ∧ ((findA H k).getD noAttr).writable = true ∧ fitsE ((findA H k).getD noAttr) v = 0

theorem stepL_with {H : Hom} {L : List Item} {w : Write} (h0 : homE H = 0) (hg : goodW H w.key w.value) : stepL H L w = withL L w.key w.value := by
  have hs : setE H L w.key w.value true = if itemAt L w.key < L.length then 0 else 8 := by
    unfold setE
    rw [if_neg (by simpa using h0), if_neg (by rw [hg.1]; simp)]
    unfold ixI
    by_cases h : itemAt L w.key < L.length
    · rw [if_pos h, if_neg (by omega), if_neg (by rw [hg.2.1]; simp), hg.2.2, if_pos h]
    · rw [if_neg h, if_pos (by omega), if_neg h]
  unfold stepL withL setL
  rw [hs]
  by_cases h : itemAt L w.key < L.length
  · simp only [if_pos h]; rfl
  · simp only [if_neg h]; rw [if_neg (by decide)]

theorem runL_eq {H : Hom} (h0 : homE H = 0) : ∀ {ws : List Write} {L : List Item}, (∀ w ∈ ws, goodW H w.key w.value) → runL H L ws = ws.foldl (fun L w => withL L w.key w.value) L
  | [], L, _ => rfl
  | w :: ws, L, h => by
    show runL H (stepL H L w) ws = _
    rw [stepL_with h0 (h w (by simp)), List.foldl_cons]
    exact runL_eq h0 fun x hx => h x (by simp [hx])

theorem range_map_getD {l : List Item} : (List.range l.length).map (fun i => l.getD i default) = l := by
  apply List.ext_getElem
  · simp
  · intro i h1 h2
    simp only [List.getElem_map, List.getElem_range]
    exact getD_getElem _ _ h2

theorem run_putAll {H : Hom} {s : Scene} {c : Cause} {L : List Item} (h0 : homE H = 0) (hg : ∀ x ∈ s.items, goodW H x.key x.value) : runL H L (applyS s c s.items.length) = putAll L s.items := by
  rw [runL_eq h0]
  · unfold applyS putAll
    rw [List.foldl_map]
    conv => rhs; rw [← range_map_getD (l := s.items)]
    rw [List.foldl_map]
  · intro w hw
    unfold applyS at hw
    obtain ⟨i, hi, rfl⟩ := List.mem_map.1 hw
    exact hg _ (getD_mem' (by simpa using hi))

end Go.Abs

namespace Go.Abs
open Go.Proofs
set_option maxRecDepth 10000

theorem zero_fits {a : Attr} (h : defE a = 0) : fitsE a (zeroV a) = 0 := by
  have hz : zeroV a = if a.kind = 2 then ⟨a.kind, clampI 0 a.min a.max, ⟨#[]⟩⟩ else ⟨a.kind, 0, ⟨#[]⟩⟩ := by unfold zeroV; rw [if_neg (by simpa using h)]
  have hd := h
  unfold defE at hd
  split at hd
  · cases hd
  split at hd
  · cases hd
  rename_i hk
  split at hd
  · cases hd
  rename_i h2
  split at hd
  · cases hd
  by_cases e2 : a.kind = 2
  · have hr : inRange a.min = true ∧ inRange a.max = true ∧ a.min ≤ a.max := by
      refine ⟨?_, ?_, ?_⟩
      · cases hh : inRange a.min with
        | true => rfl
        | false => exact absurd ⟨e2, .inl hh⟩ h2
      · cases hh : inRange a.max with
        | true => rfl
        | false => exact absurd ⟨e2, .inr (.inl hh)⟩ h2
      · exact Int.not_lt.1 fun hh => h2 ⟨e2, .inr (.inr hh)⟩
    have hc : a.min ≤ clampI 0 a.min a.max ∧ clampI 0 a.min a.max ≤ a.max := by
      unfold clampI; split
      · omega
      · split <;> omega
    rw [fits_iff, hz, if_pos e2]
    refine ⟨h, ?_, rfl, ?_⟩
    · have hi : inRange (clampI 0 a.min a.max) = true := by
        obtain ⟨h3, h4, _⟩ := hr
        simp only [inRange, Bool.and_eq_true, decide_eq_true_eq] at h3 h4 ⊢
        omega
      simp only [valE]
      rw [if_neg (by omega), if_neg (by rw [e2, hi]; simp), if_neg (by decide), if_neg (by simp)]
    · simp only
      omega
  · rw [fits_iff, hz, if_neg e2]
    refine ⟨h, ?_, rfl, ?_⟩
    · simp only [valE]
      rw [if_neg (by omega), if_neg (by omega), if_neg (by decide), if_neg (by simp)]
    · simp only
      rintro (⟨h3, _⟩ | ⟨h3, h4⟩)
      · exact e2 h3
      · rw [if_pos h3] at hd
        unfold membersE at hd
        split at hd
        · cases hd
        · omega

/-! what a scene's check tells -/
theorem sceE_zero {H : Hom} {l : List Item} {i : Nat} (h : sceE H l i = 0) : goodW H (l.getD i default).key (l.getD i default).value ∧ (0 < i → keyLess (l.getD (i - 1) default).key (l.getD i default).key = true) := by
  unfold sceE at h
  split at h
  · cases h
  rename_i h1
  split at h
  · cases h
  rename_i h2
  split at h
  · contradiction
  rename_i h3
  split at h
  · cases h
  split at h
  · cases h
  rename_i h5
  rw [Bool.not_eq_false] at h1 h2
  refine ⟨⟨h1, h2, Classical.not_not.1 h3⟩, fun h0 => ?_⟩
  cases hh : keyLess (l.getD (i - 1) default).key (l.getD i default).key with
  | true => rfl
  | false => exact absurd ⟨h0, hh⟩ h5

theorem asc_of_adj {l : List Item} (h : ∀ i, 0 < i → i < l.length → keyLess (l.getD (i - 1) default).key (l.getD i default).key = true) : Asc (l.map Item.key) := by
  have key : ∀ d i, 0 < d → i + d < l.length → keyLess (l.getD i default).key (l.getD (i + d) default).key = true := by
    intro d
    induction d with
    | zero => intro i h0; omega
    | succ d ih =>
      intro i _ hl
      have h1 := h (i + (d + 1)) (by omega) hl
      rw [show i + (d + 1) - 1 = i + d from by omega] at h1
      by_cases e : d = 0
      · subst e; exact h1
      · exact keyLess_trans (ih i (by omega) (by omega)) h1
  refine List.pairwise_iff_getElem.2 fun i j hi hj hij => ?_
  have hj' : j < l.length := by simpa using hj
  have := key (j - i) i (by omega) (by omega)
  rw [show i + (j - i) = j from by omega, getD_getElem _ _ (by omega), getD_getElem _ _ hj'] at this
  simpa using this

theorem check_facts {H : Hom} {s : Scene} (h : checkS H s = 0) : homE H = 0 ∧ (∀ x ∈ s.items, goodW H x.key x.value) ∧ (s.items.map Item.key).Nodup := by
  unfold checkS at h
  split at h
  · contradiction
  rename_i h1
  split at h
  · cases h
  split at h
  · cases h
  have hz := firstE_zero h
  refine ⟨Classical.not_not.1 h1, fun x hx => ?_, (asc_of_adj fun i h0 hi => (sceE_zero (hz i hi)).2 h0).nodup⟩
  obtain ⟨i, hi, rfl⟩ := List.getElem_of_mem hx
  have := (sceE_zero (hz i hi)).1
  rwa [getD_getElem _ _ hi] at this

/-! undone and written back -/
theorem undoI_key {L : List Item} {x y : Item} (h : undoI L x = some y) : y.key = x.key := by
  unfold undoI at h
  cases hf : findI L x.key with
  | none => rw [hf] at h; cases h
  | some z => rw [hf] at h; cases h; show z.key = x.key; exact findI_key hf

theorem undo_sub {L : List Item} : ∀ {xs : List Item}, ((xs.filterMap (undoI L)).map Item.key).Sublist (xs.map Item.key)
  | [] => .slnil
  | x :: xs => by
    rw [List.filterMap_cons]
    cases hk : undoI L x with
    | none => exact .cons _ undo_sub
    | some y =>
      simp only [List.map_cons]
      rw [undoI_key hk]
      exact .cons_cons _ undo_sub

theorem findI_undo {L : List Item} {q : Key} : ∀ {xs : List Item}, findI (xs.filterMap (undoI L)) q = if (findI xs q).isSome = true then (findI L q).map (fun y => ⟨y.key, y.value, 0⟩) else none
  | [] => rfl
  | x :: xs => by
    rw [List.filterMap_cons, findI_cons]
    by_cases e : x.key = q
    · rw [if_pos e, if_pos (show (some x).isSome = true from rfl)]
      unfold undoI
      rw [e]
      cases hf : findI L q with
      | none =>
        simp only [Option.map_none]
        have := findI_undo (L := L) (q := q) (xs := xs)
        unfold undoI at this
        rw [this, hf]; simp
      | some y =>
        simp only [Option.map_some]
        rw [findI_cons, if_pos (show y.key = q from findI_key hf)]
    · rw [if_neg e]
      cases hk : undoI L x with
      | none => exact findI_undo
      | some y =>
        simp only
        rw [findI_cons, if_neg (by rw [undoI_key hk]; exact e)]
        exact findI_undo

theorem initL_get {H : Hom} {id : Int} {i : Nat} (hi : i < (initL H id).length) : ((initL H id).getD i default).value = zeroV ((findA H ((initL H id).getD i default).key).getD noAttr) := by
  rw [getD_getElem _ _ hi]
  simp [initL]

section
variable {H : Hom} {id : Int} {s t : Scene}

theorem findI_at {L : List Item} {q : Key} (h : itemAt L q < L.length) : findI L q = some (L.getD (itemAt L q) default) := by rw [findI_eq, if_pos h]

/-- what lives fits where a scene may write -/
theorem live_fits (hs : checkS H s = 0) {k : Key} (hd : defE ((findA H k).getD noAttr) = 0) (hk : itemAt (putAll (initL H id) s.items) k < (putAll (initL H id) s.items).length) :
    fitsE ((findA H k).getD noAttr) ((putAll (initL H id) s.items).getD (itemAt (putAll (initL H id) s.items) k) default).value = 0 := by
  obtain ⟨_, hg, hn⟩ := check_facts hs
  have hlen := putAll_length (xs := s.items) (L := initL H id)
  rw [putAll_at] at hk ⊢
  rw [hlen] at hk
  have hkey := itemAt_key hk
  rw [putAll_val hn hk, hkey, if_pos rfl]
  cases hf : findI s.items k with
  | some x =>
    have := (hg x (findI_mem hf)).2.2
    rw [findI_key hf] at this
    exact this
  | none =>
    simp only [Option.map_none, Option.getD_none]
    rw [initL_get hk, hkey]
    exact zero_fits hd

theorem restore_dev (ht : checkS H t = 0) {L : List Item} {k : Key} (hk : k ∈ difS t.items (putAll L t.items)) : ¬ itemAt L k < L.length := by
  intro hlt
  obtain ⟨_, hg, hn⟩ := check_facts ht
  unfold difS at hk
  obtain ⟨h1, h2⟩ := List.mem_filter.1 hk
  rw [mem_sortK] at h1
  obtain ⟨x, hx, rfl⟩ := List.mem_map.1 h1
  obtain ⟨y, hy, _, _⟩ := findI_of_mem hx
  have hlt2 : itemAt (putAll L t.items) x.key < (putAll L t.items).length := by rw [putAll_at, putAll_length]; exact hlt
  rw [findI_at hlt2, hy] at h2
  have hkey := itemAt_key hlt
  simp only [difB, decide_eq_true_eq, ne_eq] at h2
  apply h2
  rw [putAll_at, putAll_val hn hlt, hkey, if_pos rfl, hy]
  rfl

theorem restore_back (ht : checkS H t = 0) {L : List Item} {i : Nat} (hi : i < L.length) :
    ((putAll (putAll L t.items) (undoS t L).items).getD i default).value = (L.getD i default).value := by
  obtain ⟨_, hg, hn⟩ := check_facts ht
  have hnu : ((undoS t L).items.map Item.key).Nodup := undo_sub.nodup hn
  rw [putAll_val hnu (by rw [putAll_length]; exact hi), putAll_key, putAll_at, putAll_val hn hi]
  by_cases c : i = itemAt L (L.getD i default).key
  · rw [if_pos c, if_pos c]
    have hf : findI L (L.getD i default).key = some (L.getD i default) := by
      have := findI_at (L := L) (q := (L.getD i default).key) (by rw [← c]; exact hi)
      rw [← c] at this; exact this
    show ((findI (t.items.filterMap (undoI L)) _).map Item.value).getD _ = _
    rw [findI_undo, hf]
    cases hft : findI t.items (L.getD i default).key with
    | some x => rfl
    | none => rfl
  · rw [if_neg c, if_neg c]

theorem undo_good (hs : checkS H s = 0) (ht : checkS H t = 0) : ∀ x ∈ (undoS t (putAll (initL H id) s.items)).items, goodW H x.key x.value := by
  intro z hz
  obtain ⟨x, hx, hu⟩ := List.mem_filterMap.1 hz
  obtain ⟨_, hg, _⟩ := check_facts ht
  obtain ⟨g1, g2, g3⟩ := hg x hx
  have hkey := undoI_key hu
  unfold undoI at hu
  cases hf : findI (putAll (initL H id) s.items) x.key with
  | none => rw [hf] at hu; cases hu
  | some y =>
    rw [hf] at hu
    cases hu
    have hlt : itemAt (putAll (initL H id) s.items) x.key < (putAll (initL H id) s.items).length := isSome_itemAt ⟨y, findI_mem hf, findI_key hf⟩
    have hfit := live_fits (H := H) (id := id) (s := s) hs (fits_iff.1 g3).1 hlt
    rw [findI_at hlt] at hf
    cases hf
    have hk2 := itemAt_key hlt
    simp only
    rw [hk2]
    exact ⟨g1, g2, hfit⟩
end

end Go.Abs

namespace Go.Abs
open Go.Proofs
set_option maxRecDepth 10000

theorem mem_getD {l : List Key} {i : Nat} (h : i < l.length) : l.getD i default ∈ l := by rw [getD_getElem _ _ h]; exact List.getElem_mem h
theorem item_kv {a b : Item} (h1 : a.key = b.key) (h2 : a.value = b.value) : True := trivial

def noCause : Cause := ⟨0, ⟨#[]⟩, 0⟩

theorem ac_law36_SceneRestores (H : Hom) (id : Int) (s t : Scene) (hH : smallH H) (hs : smallL s.items) (ht : smallL t.items) :
    AC Try.prog 9 [.pv (.agg (cHom H)), .pv (vint id), .pv (.agg (cSce s)), .pv (.agg (cSce t))] [] (.pv (vbool true)) [] := by
  have hs2 : s.items.length ≤ 1048576 := hs
  have ht2 : t.items.length ≤ 1048576 := ht
  refine AC.of_awp (T := T) T_ok hm Try.call9 Try.func9 rfl rfl rfl ?_
  conv => whnf
  repeat (any_goals (first
    | (refine ⟨fun (h : (_ : Bool) = true) => ?_, fun (h : (_ : Bool) = false) => ?_⟩ <;> (try simp only [decide_eq_true_eq, decide_eq_false_iff_not, Bool.not_eq_true', Bool.not_eq_false', Int.toNat_natCast, beq_iff_eq, decide_eq_decide, beq_eq_false_iff_ne, ne_eq, reduceCtorEq] at h) <;> (conv => whnf))
    | (refine .inl ⟨_, ac_law36_home H, ?_⟩; conv => whnf)
    | (refine .inl ⟨_, ac_law36_awake, ?_⟩; conv => whnf)
    | (refine .inl ⟨_, AC.sub1 (ac_law36_few 2 (fun i => [s.items, t.items].getD i default) (by omega)) (by repeat' (first | exact PSub.rfl | exact PSub.nil_ro _ _ | exact PSub.lit_sb rfl | exact trivial | exact all_lt_zero | refine PSub.agg ?_ | refine PSub.ro rfl ?_ | refine all_lt_succ ?_ ?_ | refine And.intro ?_ ?_)), ?_⟩; conv => whnf)
    | (refine .inl ⟨_, ac_scene_Check H s hH hs, ?_⟩; conv => whnf)
    | (refine .inl ⟨_, ac_scene_Check H t hH ht, ?_⟩; conv => whnf)
    | (refine And.intro (by (try simp only [Int.toNat_natCast]); omega) ?_; conv => whnf)
    | (refine And.intro (show (_ : Bool) = true from by kernel_rfl) ?_; conv => whnf)
    | (refine .inl ⟨wrap64 (by omega), ?_⟩; conv => whnf)))
  all_goals try first | exact .rfl | exact absurd trivial h | exact absurd rfl h
  rename_i hhome hfew hS
  have hT := h
  clear h
  have hfew2 : t.items.length ≤ 60 := hfew 1 (by omega)
  have fS := check_facts hS
  have fT := check_facts hT
  have hn0 : (initL H id).length ≤ 80 := by rw [initL_length]; exact keysL_small hhome
  have c1 := ac_law36_run H (initL H id) (applyS s noCause s.items.length) hH (by unfold smallL; omega) (by simp [applyS]; omega)
  rw [run_putAll fS.1 fS.2.1] at c1
  have hUg := undo_good (id := id) hS hT
  have hLl := putAll_length (xs := s.items) (L := initL H id)
  generalize putAll (initL H id) s.items = L at *
  have sL : smallL L := by unfold smallL; omega
  have c4 := ac_law36_run H L (applyS t noCause t.items.length) hH sL (by simp [applyS]; omega)
  rw [run_putAll fT.1 fT.2.1] at c4
  have hdev := fun k hk => restore_dev hT (L := L) (k := k) hk
  have hback := fun i hi => restore_back hT (L := L) (i := i) hi
  have hul := undoS_length (s := t) (l := L)
  have hOl := putAll_length (xs := t.items) (L := L)
  have hBl := putAll_length (xs := (undoS t L).items) (L := putAll L t.items)
  have hBk : ∀ i, ((putAll (putAll L t.items) (undoS t L).items).getD i default).key = (L.getD i default).key := fun i => by rw [putAll_key, putAll_key]
  have sO : smallL (putAll L t.items) := by unfold smallL; omega
  have c7 := ac_law36_run H (putAll L t.items) (applyS (undoS t L) noCause (undoS t L).items.length) hH sO (by simp [applyS]; omega)
  rw [run_putAll fT.1 hUg] at c7
  generalize putAll (putAll L t.items) (undoS t L).items = B at *
  generalize putAll L t.items = O at *
  generalize hU : undoS t L = U at *
  have c2 := ac_scene_Undo t L ht sL
  rw [hU] at c2
  repeat (any_goals (first
    | (refine ⟨fun (h : (_ : Bool) = true) => ?_, fun (h : (_ : Bool) = false) => ?_⟩ <;> (try simp only [decide_eq_true_eq, decide_eq_false_iff_not, Bool.not_eq_true', Bool.not_eq_false', Int.toNat_natCast, beq_iff_eq, decide_eq_decide, beq_eq_false_iff_ne, ne_eq, reduceCtorEq] at h) <;> (conv => whnf))
    | (refine .inl ⟨_, ac_device_Init H id hH, ?_⟩; conv => whnf)
    | (refine .inl ⟨_, ac_scene_Apply s noCause (by omega), ?_⟩; conv => whnf)
    | (refine .inl ⟨_, c1, ?_⟩; conv => whnf)
    | (refine .inl ⟨_, c2, ?_⟩; conv => whnf)
    | (refine .inl ⟨_, ac_scene_Apply t noCause (by omega), ?_⟩; conv => whnf)
    | (refine .inl ⟨_, c4, ?_⟩; conv => whnf)
    | (refine .inl ⟨_, ac_scene_Differs t O ht sO, ?_⟩; conv => whnf)
    | (refine And.intro (by (try simp only [Int.toNat_natCast]); omega) ?_; conv => whnf)
    | (refine And.intro (show (_ : Bool) = true from by kernel_rfl) ?_; conv => whnf)
    | (refine .inl ⟨wrap64 (by omega), ?_⟩; conv => whnf)))
  have hDl := difS_length (s := t.items) (l := O)
  generalize difS t.items O = D at *
  refine loop_k (ι := Nat) [1, 4, 9, 10, 11, 62, 63] [4, 10] (fun k => k ≤ D.length ∧ True) (fun k => D.length - k) 0 (fun k => [(64, .pv (vint k))]) (fun _ => []) [] ⟨Nat.zero_le _, trivial⟩ ?_ (fun k hk => ?_)
  · (repeat' (first | exact PSub.rfl | exact rfl | exact PSubs.rfl | exact trivial | refine And.intro ?_ ?_))
  obtain ⟨hkn, hinv⟩ := hk
  conv => whnf
  repeat (any_goals (first
    | (refine ⟨fun (h : (_ : Bool) = true) => ?_, fun (h : (_ : Bool) = false) => ?_⟩ <;> (try simp only [decide_eq_true_eq, decide_eq_false_iff_not, Bool.not_eq_true', Bool.not_eq_false', Int.toNat_natCast, beq_iff_eq, decide_eq_decide, beq_eq_false_iff_ne, ne_eq, reduceCtorEq] at h) <;> (conv => whnf))
    | (refine .inl ⟨_, ac_device_Get L (D.getD k default) sL, ?_⟩; conv => whnf)
    | (refine And.intro (by (try simp only [Int.toNat_natCast]); omega) ?_; conv => whnf)
    | (refine And.intro (show (_ : Bool) = true from by kernel_rfl) ?_; conv => whnf)
    | (refine .inl ⟨wrap64 (by omega), ?_⟩; conv => whnf)))
  all_goals try (exact absurd h (hdev _ (mem_getD (by omega))))
  all_goals try (refine ⟨k + 1, [], ⟨by omega, trivial⟩, by omega, ?_⟩; (repeat' (first | exact PSub.rfl | exact rfl | exact PSubs.rfl | exact trivial | refine And.intro ?_ ?_)); done)
  clear hkn hinv
  repeat (any_goals (first
    | (refine ⟨fun (h : (_ : Bool) = true) => ?_, fun (h : (_ : Bool) = false) => ?_⟩ <;> (try simp only [decide_eq_true_eq, decide_eq_false_iff_not, Bool.not_eq_true', Bool.not_eq_false', Int.toNat_natCast, beq_iff_eq, decide_eq_decide, beq_eq_false_iff_ne, ne_eq, reduceCtorEq] at h) <;> (conv => whnf))
    | (refine .inl ⟨_, ac_scene_Apply U noCause (by omega), ?_⟩; conv => whnf)
    | (refine .inl ⟨_, c7, ?_⟩; conv => whnf)
    | (refine And.intro (by (try simp only [Int.toNat_natCast]); omega) ?_; conv => whnf)
    | (refine And.intro (show (_ : Bool) = true from by kernel_rfl) ?_; conv => whnf)
    | (refine .inl ⟨wrap64 (by omega), ?_⟩; conv => whnf)))
  · exfalso; omega
  refine loop_k (ι := Nat) [9, 16, 92] [] (fun q => q ≤ L.length ∧ True) (fun q => L.length - q) 0 (fun q => [(93, .pv (vint q))]) (fun _ => []) [] ⟨Nat.zero_le _, trivial⟩ ?_ (fun q hk => ?_)
  · (repeat' (first | exact PSub.rfl | exact rfl | exact PSubs.rfl | exact trivial | refine And.intro ?_ ?_))
  obtain ⟨hkn, hinv⟩ := hk
  conv => whnf
  have e1 := hBk q
  have e2 := hback q
  repeat (any_goals (first
    | (refine ⟨fun (h : (_ : Bool) = true) => ?_, fun (h : (_ : Bool) = false) => ?_⟩ <;> (try simp only [decide_eq_true_eq, decide_eq_false_iff_not, Bool.not_eq_true', Bool.not_eq_false', Int.toNat_natCast, beq_iff_eq, decide_eq_decide, beq_eq_false_iff_ne, ne_eq, reduceCtorEq] at h) <;> (conv => whnf))
    | (refine .inl ⟨_, ac_law36_awake, ?_⟩; conv => whnf)
    | (refine And.intro (by (try simp only [Int.toNat_natCast]); omega) ?_; conv => whnf)
    | (refine And.intro (show (_ : Bool) = true from by kernel_rfl) ?_; conv => whnf)
    | (refine .inl ⟨wrap64 (by omega), ?_⟩; conv => whnf)))
  all_goals first
    | exact .rfl
    | (refine ⟨q + 1, [], ⟨by omega, trivial⟩, by omega, ?_⟩; (repeat' (first | exact PSub.rfl | exact rfl | exact PSubs.rfl | exact trivial | refine And.intro ?_ ?_)); done)
    | (exfalso
       have h2 : decide ((L.getD q default).key = (B.getD q default).key) = false := (key_eq _ _).symm.trans h
       rw [e1] at h2; simp at h2; done)
    | (exfalso
       have h2 : decide ((L.getD q default).value = (B.getD q default).value) = false := (val_eq _ _).symm.trans h
       rw [e2 (by omega)] at h2; simp at h2; done)

end Go.Abs
