/- YtajnhnloihlnbaaGreatY00: walks and contracts. -/
import Derived.Test.YtajnhnloihlnbaaGreatX07

set_option linter.unusedVariables false
set_option linter.unusedSimpArgs false
set_option linter.unusedSectionVars false

namespace Go.Abs
open Go.Proofs
variable [Globals]
def capV (l : List Item) : Prop := ∀ i, i < l.length → 0 ≤ (l.getD i default).version ∧ (l.getD i default).version ≤ 1099511627776
def devK (l : List Item) (d : Int) : Prop := ∀ i, i < l.length → (l.getD i default).key.dev = d
theorem keys_at {l k : List Item} (h : l.map Item.key = k.map Item.key) (i : Nat) : (l.getD i default).key = (k.getD i default).key := by
  have h2 := congrArg (fun m => m[i]?) h
  simp only [List.getElem?_map] at h2
  simp only [List.getD]
  cases e1 : l[i]? <;> cases e2 : k[i]? <;> rw [e1, e2] at h2 <;> simp at h2 ⊢
  exact h2
theorem wrI_rise {H : Hom} {l : List Item} {x : Item} {d : Int} (hd : devK l d) (hc : capV l) : devK (wrI H l x) d ∧ capV (wrI H l x) ∧ ∀ i, i < l.length → (l.getD i default).version ≤ ((wrI H l x).getD i default).version := by
  have hdk : devK (wrI H l x) d := fun i hi => by
    have hl : (wrI H l x).length = l.length := by have := congrArg List.length (wrI_keys (H := H) (l := l) (x := x)); simpa using this
    rw [keys_at wrI_keys i]; exact hd i (by omega)
  refine ⟨hdk, ?_⟩
  unfold wrI
  split
  · rename_i h
    rw [setL, if_pos h]
    generalize itemAt l x.key = j
    unfold putL
    split
    · by_cases hj : j < l.length
      · have hn0 : 1 ≤ nextV l (l.getD j default).key.dev ∧ nextV l (l.getD j default).key.dev ≤ 1099511627776 := by
          have h0 := @maxV_nonneg l (l.getD j default).key.dev l.length
          unfold nextV; omega
        have hnj : (l.getD j default).version ≤ nextV l (l.getD j default).key.dev := by
          have h1 := maxV_ge (l := l) (dev := (l.getD j default).key.dev) hj rfl
          have h2 := hc j hj
          unfold nextV; omega
        refine ⟨fun i hi => ?_, fun i hi => ?_⟩
        · rw [List.length_set] at hi
          by_cases e : j = i
          · subst e; rw [getD_set_eq hi]
            show 0 ≤ nextV l (l.getD j default).key.dev ∧ nextV l (l.getD j default).key.dev ≤ 1099511627776
            omega
          · rw [getD_set_ne e]; exact hc i hi
        · by_cases e : j = i
          · subst e; rw [getD_set_eq hi]; exact hnj
          · rw [getD_set_ne e]; exact Int.le_refl _
      · rw [List.set_eq_of_length_le (by omega)]
        exact ⟨hc, fun i _ => Int.le_refl _⟩
    · exact ⟨hc, fun i _ => Int.le_refl _⟩
  · exact ⟨hc, fun i _ => Int.le_refl _⟩
theorem wrL_rise {H : Hom} {d : Int} : ∀ {ws l : List Item}, devK l d → capV l → ∀ i, i < l.length → (l.getD i default).version ≤ ((wrL H l ws).getD i default).version
  | [], l, _, _, i, _ => Int.le_refl _
  | x :: ws, l, hd, hc, i, hi => by
    obtain ⟨h1, h2, h3⟩ := wrI_rise (H := H) (x := x) hd hc
    have hl : (wrI H l x).length = l.length := by have := congrArg List.length (wrI_keys (H := H) (l := l) (x := x)); simpa using this
    exact Int.le_trans (h3 i hi) (wrL_rise (ws := ws) h1 h2 i (by omega))
theorem tak_epoch {H : Hom} {a : Agt} {m : Msg} : (takA H a m).epoch = a.epoch ∧ a.applied ≤ (takA H a m).applied ∧ (takA H a m).items.map Item.key = a.items.map Item.key := by
  unfold takA
  split
  · unfold confA
    split
    · exact ⟨rfl, Int.le_refl _, rfl⟩
    · split <;> exact ⟨rfl, Int.le_refl _, rfl⟩
  · split
    · refine ⟨rfl, ?_, wrL_keys⟩
      show a.applied ≤ max a.applied m.version; omega
    · exact ⟨rfl, Int.le_refl _, rfl⟩
theorem tak_acked {H : Hom} {a : Agt} {m : Msg} (h : (takA H a m).acked < a.acked) : m.kind = 2 ∧ (m.version = 0 ∨ m.epoch < a.epoch) ∧ (takA H a m).acked = 0 := by
  unfold takA at h ⊢
  split at h
  · rename_i hc
    rw [if_pos hc]
    unfold confA at h ⊢
    split at h
    · exfalso
      have h2 : max a.acked (min m.version (greatI a.items)) < a.acked := h
      omega
    · rename_i h1
      rw [if_neg h1]
      split at h
      · rename_i h2
        rw [if_pos h2]
        exact ⟨hc.2, by omega, rfl⟩
      · exfalso; exact absurd h (Int.lt_irrefl _)
  · exfalso
    split at h
    · exact absurd h (Int.lt_irrefl _)
    · exact absurd h (Int.lt_irrefl _)
theorem tak_rise {H : Hom} {a : Agt} {m : Msg} (hd : devK a.items a.dev) (hc : capV a.items) : ∀ i, i < a.items.length → ((takA H a m).items.getD i default).key = (a.items.getD i default).key ∧ (a.items.getD i default).version ≤ ((takA H a m).items.getD i default).version := by
  intro i hi
  refine ⟨keys_at tak_epoch.2.2 i, ?_⟩
  unfold takA
  split
  · unfold confA
    split
    · exact Int.le_refl _
    · split <;> exact Int.le_refl _
  · split
    · exact wrL_rise hd hc i hi
    · exact Int.le_refl _
end Go.Abs

namespace Go.Abs
open Go.Proofs
set_option maxRecDepth 10000
def riseC (a : Agt) (j : Nat) : Prop := (a.items.getD j default).key.dev = a.dev ∧ 0 ≤ (a.items.getD j default).version ∧ (a.items.getD j default).version ≤ 1099511627776
instance riseDec (a : Agt) (j : Nat) : Decidable (riseC a j) := by unfold riseC; exact inferInstance
def riseB (a : Agt) (k : Nat) : Bool := decide (∀ j, j < k → riseC a j)
theorem rise_no {a : Agt} {k : Nat} (h : ¬ riseC a k) : false = riseB a (k + 1) := by
  symm
  unfold riseB
  rw [decide_eq_false_iff_not]
  exact fun h2 => h (h2 k (by omega))
theorem rise_yes {a : Agt} {k : Nat} (h : riseC a k) : riseB a k = riseB a (k + 1) := by
  unfold riseB
  rw [decide_eq_decide]
  refine ⟨fun h2 j hj => ?_, fun h2 j hj => h2 j (by omega)⟩
  by_cases e : j = k
  · rw [e]; exact h
  · exact h2 j (by omega)
set_option maxHeartbeats 4000000 in
theorem ac_law26_SyncGrows (c : SyC) (hc : smallSyC c) : AC Tryz.prog 5 [.pv (.agg (cSyC c))] [] (.pv (vbool true)) [] := by
  have hal : c.a.items.length ≤ 1048576 := hc.a
  obtain ⟨t1, t2, t3⟩ := tak_epoch (H := c.h) (a := c.a) (m := c.m)
  have t4 : (takA c.h c.a c.m).items.length = c.a.items.length := by have := congrArg List.length t3; simpa using this
  have f2 : ¬ ((takA c.h c.a c.m).acked < c.a.acked) ∨ (c.m.kind = 2 ∧ (c.m.version = 0 ∨ c.m.epoch < c.a.epoch) ∧ (takA c.h c.a c.m).acked = 0) := by
    by_cases h : (takA c.h c.a c.m).acked < c.a.acked
    · exact .inr (tak_acked h)
    · exact .inl h
  refine AC.of_awp (T := T) T_ok hm Tryz.call5 Tryz.func5 rfl rfl rfl ?_
  conv => whnf
  repeat (any_goals (first
    | (refine ⟨fun (h : (_ : Bool) = true) => ?_, fun (h : (_ : Bool) = false) => ?_⟩ <;> (try simp only [decide_eq_true_eq, decide_eq_false_iff_not, Bool.not_eq_true', Bool.not_eq_false', Int.toNat_natCast, beq_iff_eq, decide_eq_decide, beq_eq_false_iff_ne, ne_eq, reduceCtorEq] at h) <;> (conv => whnf))
    | (refine .inl ⟨_, ac_law26_long c hc, ?_⟩; conv => whnf)
    | (refine .inl ⟨_, ac_law26_awake, ?_⟩; conv => whnf)
    | (refine .inl ⟨_, ac_sync_Take c.h c.a c.m hc.h hc.a hc.m, ?_⟩; conv => whnf)
    | (refine And.intro (by (try simp only [Int.toNat_natCast]); omega) ?_; conv => whnf)
    | (refine And.intro (show (_ : Bool) = true from by kernel_rfl) ?_; conv => whnf)
    | (refine .inl ⟨wrap64 (by omega), ?_⟩; conv => whnf)))
  all_goals (try (exfalso; omega))
  · exact .rfl
  iterate 3
    · refine loop_k (ι := Nat) [1, 3] [1, 3] (fun k => k ≤ c.a.items.length) (fun k => c.a.items.length - k) 0 (fun k => [(6, .pv (.sb (riseB c.a k))), (7, .pv (vint k))]) (fun _ => []) [] (Nat.zero_le _) ?_ (fun k hk => ?_)
      · (repeat' (first | exact PSub.rfl | exact rfl | exact PSubs.rfl | exact trivial | exact PSub.lit_sb rfl | refine And.intro ?_ ?_))
        all_goals exact PSub.lit_sb (by unfold riseB; simp)
      conv => whnf
      repeat (any_goals (first
        | (refine ⟨fun (h : (_ : Bool) = true) => ?_, fun (h : (_ : Bool) = false) => ?_⟩ <;> (try simp only [decide_eq_true_eq, decide_eq_false_iff_not, Bool.not_eq_true', Bool.not_eq_false', Int.toNat_natCast, beq_iff_eq, decide_eq_decide, beq_eq_false_iff_ne, ne_eq, reduceCtorEq] at h) <;> (conv => whnf))
        | (refine And.intro (by (try simp only [Int.toNat_natCast]); omega) ?_; conv => whnf)
        | (refine And.intro (show (_ : Bool) = true from by kernel_rfl) ?_; conv => whnf)
        | (refine .inl ⟨wrap64 (by omega), ?_⟩; conv => whnf)))
      · refine ⟨k + 1, [], by omega, by omega, ?_⟩
        (repeat' (first | exact PSub.rfl | exact rfl | exact PSubs.rfl | exact trivial | exact PSub.lit_sb rfl | refine And.intro ?_ ?_))
        all_goals exact PSub.lit_sb (rise_no fun x => h x.1)
      · refine ⟨k + 1, [], by omega, by omega, ?_⟩
        (repeat' (first | exact PSub.rfl | exact rfl | exact PSubs.rfl | exact trivial | exact PSub.lit_sb rfl | refine And.intro ?_ ?_))
        all_goals exact PSub.lit_sb (rise_no fun x => by have := x.2.1; omega)
      · refine ⟨k + 1, [], by omega, by omega, ?_⟩
        (repeat' (first | exact PSub.rfl | exact rfl | exact PSubs.rfl | exact trivial | exact PSub.lit_sb rfl | refine And.intro ?_ ?_))
        all_goals exact PSub.lit_sb (rise_no fun x => by have := x.2.2; omega)
      · have hr : riseC c.a k := ⟨by assumption, by omega, by omega⟩
        refine ⟨k + 1, [], by omega, by omega, ?_⟩
        (repeat' (first | exact PSub.rfl | exact rfl | exact PSubs.rfl | exact trivial | exact PSub.lit_sb rfl | refine And.intro ?_ ?_))
        all_goals exact PSub.sb (rise_yes hr)
      · have e : k = c.a.items.length := by omega
        subst e
        refine loop_k (ι := Nat) [1, 3, 6] [1, 3] (fun j => j ≤ c.a.items.length) (fun j => c.a.items.length - j) 0 (fun j => [(8, .pv (vint j))]) (fun _ => []) [] (Nat.zero_le _) ?_ (fun j hj => ?_)
        · (repeat' (first | exact PSub.rfl | exact rfl | exact PSubs.rfl | exact trivial | exact PSub.lit_sb rfl | refine And.intro ?_ ?_))
        have hrise : riseB c.a c.a.items.length = true → ∀ i, i < c.a.items.length → ((takA c.h c.a c.m).items.getD i default).key = (c.a.items.getD i default).key ∧ (c.a.items.getD i default).version ≤ ((takA c.h c.a c.m).items.getD i default).version := fun h => by
          have h2 := of_decide_eq_true h
          exact tak_rise (fun i hi => (h2 i hi).1) (fun i hi => ⟨(h2 i hi).2.1, (h2 i hi).2.2⟩)
        conv => whnf
        repeat (any_goals (first
          | (refine ⟨fun (h : (_ : Bool) = true) => ?_, fun (h : (_ : Bool) = false) => ?_⟩ <;> (try simp only [decide_eq_true_eq, decide_eq_false_iff_not, Bool.not_eq_true', Bool.not_eq_false', Int.toNat_natCast, beq_iff_eq, decide_eq_decide, beq_eq_false_iff_ne, ne_eq, reduceCtorEq] at h) <;> (conv => whnf))
          | (refine .inl ⟨_, ac_law26_awake, ?_⟩; conv => whnf)
          | (refine And.intro (by (try simp only [Int.toNat_natCast]); omega) ?_; conv => whnf)
          | (refine And.intro (show (_ : Bool) = true from by kernel_rfl) ?_; conv => whnf)
          | (refine .inl ⟨wrap64 (by omega), ?_⟩; conv => whnf)))
        · exfalso
          have q := hrise (by assumption) j (by omega)
          have e := of_decide_eq_false ((key_eq _ _).symm.trans h)
          exact e q.1
        · exfalso
          have q := hrise (by assumption) j (by omega)
          have q2 := q.2
          omega
        · refine ⟨j + 1, [], by omega, by omega, ?_⟩
          (repeat' (first | exact PSub.rfl | exact rfl | exact PSubs.rfl | exact trivial | exact PSub.lit_sb rfl | refine And.intro ?_ ?_))
        · exact .rfl
        · exact .rfl
end Go.Abs
