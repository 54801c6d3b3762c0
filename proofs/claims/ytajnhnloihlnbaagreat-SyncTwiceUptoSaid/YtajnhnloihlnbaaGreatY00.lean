/- YtajnhnloihlnbaaGreatY00: walks and contracts. -/
import Derived.Test.YtajnhnloihlnbaaGreatX07

set_option linter.unusedVariables false
set_option linter.unusedSimpArgs false
set_option linter.unusedSectionVars false

namespace Go.Abs
open Go.Proofs
variable [Globals]
theorem stepI_done {H : Hom} {r : List Item} {x : Item} (h : doneI H r x) : stepI H r x = r := by
  unfold stepI
  rw [if_neg]
  rintro ⟨h1, h2, h3⟩
  have := h h1 h3
  omega
theorem rep_still {H : Hom} : ∀ {l r : List Item}, (∀ x ∈ l, doneI H r x) → repR H r l = r
  | [], r, _ => rfl
  | x :: l, r, h => by
    show repR H (stepI H r x) l = r
    rw [stepI_done (h x (by simp))]
    exact rep_still fun y hy => h y (by simp [hy])
theorem rep_twice (H : Hom) (l r : List Item) : repR H (repR H r l) l = repR H r l := rep_still (rep_done H l r)
end Go.Abs

namespace Go.Abs
open Go.Proofs
set_option maxRecDepth 10000
theorem ac_r25_Same (a b : Shd) (ha : smallSh a) : AC Tryz.prog 18 [.pv (.agg (cShd a)), .pv (.agg (cShd b))] [] (.pv (vbool (decide (a = b)))) [] := by
  have h1 : a.reported.length ≤ 1048576 := ha.1
  have h2 : a.desired.length ≤ 1048576 := ha.2
  obtain ⟨a1, a2, a3, a4, a5, a6, a7, a8, a9⟩ := a
  obtain ⟨b1, b2, b3, b4, b5, b6, b7, b8, b9⟩ := b
  dsimp only at h1 h2
  refine AC.of_awp (T := T) T_ok hm Tryz.call18 Tryz.func18 rfl rfl rfl ?_
  conv => whnf
  repeat (any_goals (first
    | (refine ⟨fun (h : (_ : Bool) = true) => ?_, fun (h : (_ : Bool) = false) => ?_⟩ <;> (try simp only [decide_eq_true_eq, decide_eq_false_iff_not, Bool.not_eq_true', Bool.not_eq_false', Int.toNat_natCast, beq_iff_eq, decide_eq_decide, beq_eq_false_iff_ne, ne_eq, reduceCtorEq] at h) <;> (conv => whnf))
    | (refine .inl ⟨_, ac_r22_Same a4 b4 (by omega), ?_⟩; conv => whnf)
    | (refine .inl ⟨_, ac_r22_Same a5 b5 (by omega), ?_⟩; conv => whnf)
    | (refine And.intro (by (try simp only [Int.toNat_natCast]); omega) ?_; conv => whnf)
    | (refine And.intro (show (_ : Bool) = true from by kernel_rfl) ?_; conv => whnf)
    | (refine .inl ⟨wrap64 (by omega), ?_⟩; conv => whnf)))
  all_goals first
    | (refine PSub.sb ?_; simp_all; done)
    | (refine PSub.lit_sb ?_; symm; simp_all; done)
    | (refine PSub.lit_sb ?_; simp_all; done)
    | trace_state
end Go.Abs

namespace Go.Abs
open Go.Proofs
set_option maxRecDepth 10000
theorem chg_self (a : List Item) : chgL a a = [] := by
  unfold chgL
  have : ((a ++ a).map Item.key).filter (chgB a a) = [] := by
    rw [List.filter_eq_nil_iff]
    intro k _
    simp [chgB]
  rw [this]; rfl
end Go.Abs

namespace Go.Abs
open Go.Proofs
set_option maxRecDepth 10000
theorem rep_small {H : Hom} {s : Shd} {m : Msg} (hs : smallSh s) : smallSh (repS H s m) := by
  unfold repS
  split
  · refine ⟨?_, ?_⟩
    · show (repR H (baseS H s m).reported m.items).length ≤ 1048576
      rw [repR_length]; exact base_small hs
    · show (baseS H s m).desired.length ≤ 1048576
      rw [base_des]; exact hs.2
  · exact hs
theorem don_small {s : Shd} {e v : Int} (hs : smallSh s) : smallSh (donS s e v) := by
  unfold donS; split <;> exact hs
theorem repS_twice (H : Hom) (s : Shd) (m : Msg) : repS H (repS H s m) m = repS H s m ∧ repK H (repS H s m) m = [] := by
  by_cases h : mineB s m = true
  · have he := rep_epoch (H := H) h
    have hd : (repS H s m).dev = s.dev := rep_dev
    have hm : mineB (repS H s m) m = true := by
      have := mine_iff'.1 h
      exact mine_iff'.2 ⟨this.1, by rw [hd]; exact this.2.1, by omega⟩
    have hb : baseS H (repS H s m) m = repS H s m := base_same he
    have h2 : repS H (repS H s m) m = repS H s m := by
      rw [rep_mine hm, hb, rep_mine h]
      simp only [Shd.mk.injEq, true_and, and_true]
      exact ⟨by omega, rep_twice H m.items _⟩
    refine ⟨h2, ?_⟩
    rw [repK, if_pos hm, h2]; exact chg_self _
  · rw [rep_not h, rep_not h]
    exact ⟨rfl, by rw [repK, if_neg h]⟩
end Go.Abs

namespace Go.Abs
open Go.Proofs
variable [Globals]
theorem conf_twice {a : Agt} {m : Msg} (h : m.version ≠ 0 ∧ a.epoch ≤ m.epoch) : confA (confA a m) m = confA a m := by
  by_cases he : m.epoch = a.epoch
  · have h1 : confA a m = { a with acked := max a.acked (min m.version (greatI a.items)), sent := -1 } := by rw [confA, if_pos ⟨he, h.1⟩]
    rw [h1, confA, if_pos ⟨he, h.1⟩]
    simp only [Agt.mk.injEq, true_and, and_true]
    omega
  · have h1 : confA a m = a := by rw [confA, if_neg (fun x => he x.1), if_neg (fun x => by omega)]
    rw [h1, h1]
theorem above_none {l : List Item} {n : Int} (h : ∀ x ∈ l, x.version ≤ n) : aboveL l n = [] := by
  unfold aboveL
  rw [List.filter_eq_nil_iff]
  intro x hx h2
  have := h x hx
  have := of_decide_eq_true h2
  omega
theorem tak_twice {H : Hom} {a : Agt} {m : Msg} (h1 : aboveL m.items m.version = []) (h2 : m.kind = 2 → m.version ≠ 0 ∧ a.epoch ≤ m.epoch) : takA H (takA H a m) m = takA H a m ∧ takB (takA H a m) m = takB a m ∧ takM (takA H a m) m = takM a m := by
  have gen : ∀ b : Agt, b.dev = a.dev → b.epoch = a.epoch → takB b m = takB a m ∧ takM b m = takM a m := fun b e1 e2 => by
    have : takB b m = takB a m := by unfold takB; rw [e1, e2]
    exact ⟨this, by unfold takM; rw [this]⟩
  by_cases hc : m.dev = a.dev ∧ m.kind = 2
  · have e : takA H a m = confA a m := by rw [takA, if_pos hc]
    have hd : (confA a m).dev = a.dev ∧ (confA a m).epoch = a.epoch := by
      unfold confA; split
      · exact ⟨rfl, rfl⟩
      · split <;> exact ⟨rfl, rfl⟩
    rw [e, takA, if_pos ⟨by rw [hd.1]; exact hc.1, hc.2⟩, conf_twice (h2 hc.2)]
    exact ⟨rfl, gen _ hd.1 hd.2⟩
  · by_cases hb : takB a m = true
    · have e : takA H a m = { a with items := takL H a m, applied := max a.applied m.version, sent := if takL H a m = a.items then a.sent else -1 } := by rw [takA, if_neg hc, if_pos hb]
      have g := gen (takA H a m) (by rw [e]) (by rw [e])
      refine ⟨?_, g⟩
      have hc2 : ¬ (m.dev = (takA H a m).dev ∧ m.kind = 2) := by rw [e]; exact hc
      have hL : takL H (takA H a m) m = (takA H a m).items := by
        unfold takL
        have : aboveL m.items (takA H a m).applied = [] := by
          refine above_none fun x hx => ?_
          rw [e]
          show x.version ≤ max a.applied m.version
          rcases Int.lt_or_le m.version x.version with h3 | h3
          · have : x ∈ aboveL m.items m.version := mem_above.2 ⟨hx, h3⟩
            rw [h1] at this; cases this
          · omega
        rw [this]; rfl
      have e2 : takA H (takA H a m) m = { (takA H a m) with items := (takA H a m).items, applied := max (takA H a m).applied m.version, sent := (takA H a m).sent } := by
        rw [takA, if_neg hc2, if_pos (g.1.trans hb), hL, if_pos rfl]
      rw [e2, e]
      simp only [Agt.mk.injEq, true_and, and_true]
      omega
    · have e : takA H a m = a := by rw [takA, if_neg hc, if_neg hb]
      rw [e, e]; exact ⟨rfl, rfl, rfl⟩
theorem giv_twice {H : Hom} {s : Shd} {m : Msg} : givS H (givS H s m) m = givS H s m ∧ givK H (givS H s m) m = [] ∧ givB (givS H s m) m = givB s m ∧ givM (givS H s m) m = givM s m := by
  by_cases hb : givB s m = true
  · have e : givS H s m = repS H s m := by rw [givS, if_pos hb]
    have hb2 : mineB s m = true := by
      unfold givB at hb
      simp only [Bool.and_eq_true, decide_eq_true_eq] at hb
      exact mine_iff'.2 ⟨hb.1.2, hb.1.1, hb.2⟩
    have hg : givB (repS H s m) m = true := by
      have h3 := mine_iff'.1 hb2
      unfold givB
      simp only [Bool.and_eq_true, decide_eq_true_eq]
      rw [rep_dev, rep_epoch hb2]
      exact ⟨⟨h3.2.1, h3.1⟩, Int.le_refl _⟩
    obtain ⟨t1, t2⟩ := repS_twice H s m
    rw [e, givS, if_pos hg, t1, givK, if_pos hg, t2, hg, hb, givM, if_pos hg, givM, if_pos hb]
    exact ⟨rfl, rfl, rfl, rfl⟩
  · by_cases hd : m.dev = s.dev ∧ m.kind = 4 ∧ m.epoch = s.epoch
    · have e : givS H s m = { s with done := max s.done (min m.version s.want), sent := -1 } := by
        rw [givS, if_neg hb, if_pos hd, donS, if_pos hd.2.2]
      have hg : ¬ givB { s with done := max s.done (min m.version s.want), sent := -1 } m = true := by
        unfold givB
        simp only [Bool.and_eq_true, decide_eq_true_eq]
        omega
      rw [e, givS, if_neg hg, if_pos hd, donS, if_pos hd.2.2, givK, if_neg hg, givM, if_neg hg, givM, if_neg hb]
      refine ⟨?_, rfl, ?_, rfl⟩
      · simp only [Shd.mk.injEq, true_and, and_true]
        omega
      · rw [Bool.eq_iff_iff]; exact ⟨fun h => absurd h hg, fun h => absurd h hb⟩
    · have e : givS H s m = s := by rw [givS, if_neg hb, if_neg hd]
      rw [e, e, givK, if_neg hb]
      exact ⟨rfl, rfl, rfl, rfl⟩
end Go.Abs

namespace Go.Abs
open Go.Proofs
variable [Globals]
theorem tak_epoch {H : Hom} {a : Agt} {m : Msg} : (takA H a m).epoch = a.epoch ∧ a.applied ≤ (takA H a m).applied ∧ (takA H a m).items.map Item.key = a.items.map Item.key := by
  unfold takA
  split
  · unfold confA
    split
    · exact ⟨rfl, Int.le_refl _, rfl⟩
    · split <;> exact ⟨rfl, Int.le_refl _, rfl⟩
  · split
    · refine ⟨rfl, ?_, wrL_keys⟩
      show a.applied ≤ max a.applied m.version; omega
    · exact ⟨rfl, Int.le_refl _, rfl⟩
end Go.Abs

namespace Go.Abs
open Go.Proofs
set_option maxRecDepth 10000
theorem ac_r26_Same (a b : Agt) (ha : smallL a.items) : AC Tryz.prog 14 [.pv (.agg (cAgt a)), .pv (.agg (cAgt b))] [] (.pv (vbool (decide (a = b)))) [] := by
  have h1 : a.items.length ≤ 1048576 := ha
  obtain ⟨a1, a2, a3, a4, a5, a6⟩ := a
  obtain ⟨b1, b2, b3, b4, b5, b6⟩ := b
  dsimp only at h1
  refine AC.of_awp (T := T) T_ok hm Tryz.call14 Tryz.func14 rfl rfl rfl ?_
  conv => whnf
  repeat (any_goals (first
    | (refine ⟨fun (h : (_ : Bool) = true) => ?_, fun (h : (_ : Bool) = false) => ?_⟩ <;> (try simp only [decide_eq_true_eq, decide_eq_false_iff_not, Bool.not_eq_true', Bool.not_eq_false', Int.toNat_natCast, beq_iff_eq, decide_eq_decide, beq_eq_false_iff_ne, ne_eq, reduceCtorEq] at h) <;> (conv => whnf))
    | (refine .inl ⟨_, ac_r22_Same a6 b6 (by omega), ?_⟩; conv => whnf)
    | (refine And.intro (by (try simp only [Int.toNat_natCast]); omega) ?_; conv => whnf)
    | (refine And.intro (show (_ : Bool) = true from by kernel_rfl) ?_; conv => whnf)
    | (refine .inl ⟨wrap64 (by omega), ?_⟩; conv => whnf)))
  all_goals first
    | (refine PSub.sb ?_; simp_all; done)
    | (refine PSub.lit_sb ?_; symm; simp_all; done)
    | (refine PSub.lit_sb ?_; simp_all; done)
    | trace_state
end Go.Abs

namespace Go.Abs
open Go.Proofs
set_option maxRecDepth 10000
theorem ac_r26_Above (l : List Item) (n : Int) (hl : smallL l) : AC Tryz.prog 16 [.pv (roL 7 cItem l), .pv (vint n)] [] (.pv (roL 7 cItem (aboveL l n))) [] := by
  have hl : l.length ≤ 1048576 := hl
  obtain ⟨p, hpd⟩ : ∃ p : Item → Bool, p = fun x => decide (n < x.version) := ⟨_, rfl⟩
  have hp : ∀ x : Item, n < x.version → p x = true := fun x h => by rw [hpd]; exact decide_eq_true h
  have hq : ∀ x : Item, ¬ n < x.version → ¬ p x = true := fun x h => by rw [hpd]; simpa using h
  have hab : aboveL l n = l.filter p := by rw [hpd]; rfl
  rw [hab]
  clear hpd hab
  refine AC.of_awp (T := T) T_ok hm Tryz.call16 Tryz.func16 rfl rfl rfl ?_
  conv => whnf
  refine loop_k (ι := Nat) [0, 1] [] (fun k => k ≤ l.length ∧ True) (fun k => l.length - k) 0 (fun k => [(5, .own 500), (6, .pv (vint k))]) (fun k => [(500, rowL 7 cItem ((l.take k).filter p))]) [] ⟨Nat.zero_le _, trivial⟩ ?_ (fun k hk => ?_)
  · (repeat' (first | exact PSub.rfl | exact rfl | exact PSubs.rfl | exact trivial | exact PSub.lit_sb rfl | refine And.intro ?_ ?_))
  obtain ⟨hkn, hinv⟩ := hk
  conv => whnf
  have hfl := fil_length p l k
  repeat (any_goals (first
    | (refine ⟨fun (h : (_ : Bool) = true) => ?_, fun (h : (_ : Bool) = false) => ?_⟩ <;> (try simp only [decide_eq_true_eq, decide_eq_false_iff_not, Bool.not_eq_true', Bool.not_eq_false', Int.toNat_natCast, beq_iff_eq, decide_eq_decide, beq_eq_false_iff_ne, ne_eq, reduceCtorEq] at h) <;> (conv => whnf))
    | (refine And.intro (by (try simp only [Int.toNat_natCast]); omega) ?_; conv => whnf)
    | (refine And.intro (show (_ : Bool) = true from by kernel_rfl) ?_; conv => whnf)
    | (refine .inl ⟨wrap64 (by omega), ?_⟩; conv => whnf)))
  · have hfs := fil_snoc p (l := l) (k := k) (by omega)
    rw [if_pos (hp _ h)] at hfs
    refine ⟨k + 1, [(500, 26)], ⟨by omega, trivial⟩, by omega, ?_⟩
    rw [hfs]
    (repeat' (first | exact PSub.rfl | exact rfl | exact PSubs.rfl | exact trivial | exact PSub.lit_sb rfl | refine And.intro ?_ ?_))
    · simp [-List.getD_eq_getElem?_getD]
    · refine rows_snocF (fun i hi => by simp only [if_pos hi]; exact PSubs.rfl) (by simp only [if_neg (Nat.lt_irrefl _), Nat.sub_self]; exact PSubs.rfl)
  · have hfs := fil_snoc p (l := l) (k := k) (by omega)
    rw [if_neg (hq _ h), List.append_nil] at hfs
    refine ⟨k + 1, [], ⟨by omega, trivial⟩, by omega, ?_⟩
    rw [hfs]
    (repeat' (first | exact PSub.rfl | exact rfl | exact PSubs.rfl | exact trivial | exact PSub.lit_sb rfl | refine And.intro ?_ ?_))
    all_goals (intro i hi; exact PSubs.rfl)
  · have e : k = l.length := by omega
    subst e
    rw [List.take_length] at *
    exact .rfl
end Go.Abs

namespace Go.Abs
open Go.Proofs
set_option maxRecDepth 10000
theorem takA_small {H : Hom} {a : Agt} {m : Msg} (ha : smallL a.items) : smallL (takA H a m).items := by
  have h1 := congrArg List.length (tak_epoch (H := H) (a := a) (m := m)).2.2
  rw [List.length_map, List.length_map] at h1
  show _ ≤ _
  rw [h1]; exact ha
theorem takM_small {a : Agt} {m : Msg} : smallL (takM a m).items := by unfold takM; split <;> exact Nat.zero_le _
theorem givM_small {s : Shd} {m : Msg} : smallL (givM s m).items := by unfold givM; split <;> exact Nat.zero_le _
theorem givS_small {H : Hom} {s : Shd} {m : Msg} (hs : smallSh s) : smallSh (givS H s m) := by
  unfold givS; split
  · exact rep_small hs
  · split
    · exact don_small (e := m.epoch) (v := m.version) hs
    · exact hs
theorem ac_law26_SyncTwice (c : SyC) (hc : smallSyC c) : AC Tryz.prog 4 [.pv (.agg (cSyC c))] [] (.pv (vbool true)) [] := by
  have g := giv_twice (H := c.h) (s := c.s) (m := c.m)
  have c2 := ac_sync_Give c.h (givS c.h c.s c.m) c.m hc.h (givS_small hc.s) hc.m
  rw [g.1, g.2.1, g.2.2.1, g.2.2.2] at c2
  have hal := above_length c.m.items c.m.version
  have hN : aboveL c.m.items c.m.version = [] ↔ (aboveL c.m.items c.m.version).length = 0 := List.length_eq_zero_iff.symm
  have c1 : (aboveL c.m.items c.m.version).length = 0 → (c.m.kind = 2 → c.m.version ≠ 0 ∧ c.a.epoch ≤ c.m.epoch) → AC Tryz.prog 12 [.pv (.agg (cHom c.h)), .pv (.agg (cAgt (takA c.h c.a c.m))), .pv (.agg (cMsg c.m))] [] (.pv (.tup [.agg (cAgt (takA c.h c.a c.m)), .agg (cMsg (takM c.a c.m)), vbool (takB c.a c.m)])) [] := fun h1 h2 => by
    have t := tak_twice (H := c.h) (a := c.a) (m := c.m) (hN.2 h1) h2
    have c1 := ac_sync_Take c.h (takA c.h c.a c.m) c.m hc.h (takA_small hc.a) hc.m
    rw [t.1, t.2.1, t.2.2] at c1
    exact c1
  refine AC.of_awp (T := T) T_ok hm Tryz.call4 Tryz.func4 rfl rfl rfl ?_
  conv => whnf
  repeat (any_goals (first
    | (refine ⟨fun (h : (_ : Bool) = true) => ?_, fun (h : (_ : Bool) = false) => ?_⟩ <;> (try simp only [decide_eq_true_eq, decide_eq_false_iff_not, Bool.not_eq_true', Bool.not_eq_false', Int.toNat_natCast, beq_iff_eq, decide_eq_decide, beq_eq_false_iff_ne, ne_eq, reduceCtorEq] at h) <;> (conv => whnf))
    | (refine .inl ⟨_, ac_law26_long c hc, ?_⟩; conv => whnf)
    | (refine .inl ⟨_, ac_law26_awake, ?_⟩; conv => whnf)
    | (refine .inl ⟨_, ac_r26_Above c.m.items c.m.version hc.m, ?_⟩; conv => whnf)
    | (refine .inl ⟨_, ac_sync_Take c.h c.a c.m hc.h hc.a hc.m, ?_⟩; conv => whnf)
    | (refine .inl ⟨_, (c1 (by omega) (by omega)), ?_⟩; conv => whnf)
    | (refine .inl ⟨_, ac_r26_Same (takA c.h c.a c.m) (takA c.h c.a c.m) (takA_small hc.a), ?_⟩; conv => whnf)
    | (refine .inl ⟨_, ac_r26_Alike (takM c.a c.m) (takM c.a c.m) takM_small, ?_⟩; conv => whnf)
    | (refine .inl ⟨_, ac_sync_Give c.h c.s c.m hc.h hc.s hc.m, ?_⟩; conv => whnf)
    | (refine .inl ⟨_, c2, ?_⟩; conv => whnf)
    | (refine .inl ⟨_, ac_r25_Same (givS c.h c.s c.m) (givS c.h c.s c.m) (givS_small hc.s), ?_⟩; conv => whnf)
    | (refine .inl ⟨_, ac_r26_Alike (givM c.s c.m) (givM c.s c.m) givM_small, ?_⟩; conv => whnf)
    | (refine And.intro (by (try simp only [Int.toNat_natCast]); omega) ?_; conv => whnf)
    | (refine And.intro (show (_ : Bool) = true from by kernel_rfl) ?_; conv => whnf)
    | (refine .inl ⟨wrap64 (by omega), ?_⟩; conv => whnf)))
  all_goals first
    | exact .rfl
    | exact absurd trivial h
    | exact absurd rfl h
    | (exfalso; simp at h; done)
    | exact PSub.sb (by simp)
    | trace_state
end Go.Abs
