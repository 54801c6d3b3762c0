/- YtajnhnloihlnbaaGreatY01: walks and contracts. -/
import Derived.Test.YtajnhnloihlnbaaGreatY00

set_option linter.unusedVariables false
set_option linter.unusedSimpArgs false
set_option linter.unusedSectionVars false

namespace Go.Abs
open Go.Proofs
set_option maxRecDepth 10000
theorem takA_small {H : Hom} {a : Agt} {m : Msg} (ha : smallL a.items) : smallL (takA H a m).items := by
  have h1 := congrArg List.length (tak_epoch (H := H) (a := a) (m := m)).2.2
  rw [List.length_map, List.length_map] at h1
  show _ ≤ _
  rw [h1]; exact ha
theorem outA_small {a : Agt} {now : Int} (ha : smallL a.items) : smallL (outA a now).items := by unfold outA; split <;> exact ha
theorem batch_small (k d e : Int) (l : List Item) : smallL (batchM k d e l).items := Nat.le_trans (batch_few k d e l) (by decide)
theorem outM_small {a : Agt} {now : Int} : smallL (outM a now).items := by
  unfold outM; split
  · exact batch_small _ _ _ _
  · exact Nat.zero_le _
theorem psM_small {s : Shd} {now : Int} : smallL (psM s now).items := by
  unfold psM; split
  · exact batch_small _ _ _ _
  · exact Nat.zero_le _
theorem psS_small {s : Shd} {now : Int} (hs : smallSh s) : smallSh (psS s now) := by unfold psS; split <;> exact hs
theorem takM_small {a : Agt} {m : Msg} : smallL (takM a m).items := by unfold takM; split <;> exact Nat.zero_le _
theorem givM_small {s : Shd} {m : Msg} : smallL (givM s m).items := by unfold givM; split <;> exact Nat.zero_le _
theorem givS_small {H : Hom} {s : Shd} {m : Msg} (hs : smallSh s) : smallSh (givS H s m) := by
  unfold givS; split
  · exact rep_small hs
  · split
    · exact don_small (e := m.epoch) (v := m.version) hs
    · exact hs
end Go.Abs

namespace Go.Abs
open Go.Proofs
set_option maxRecDepth 10000
def mPly (H : Hom) (p : Ply) (x : AV) : List AV := [.pv (roL 4 cClu H.clusters), .pv (roL 7 cDev H.devices), .pv (vint p.a.dev), .pv (vint p.a.epoch), .pv (vint p.a.acked), .pv (vint p.a.applied), .pv (vint p.a.sent), .pv (roL 7 cItem p.a.items), .pv (vint p.s.dev), .pv (vint p.s.epoch), .pv (vint p.s.version), .pv (roL 7 cItem p.s.reported), .pv (roL 7 cItem p.s.desired), .pv (vint p.s.want), .pv (vint p.s.done), .pv (vint p.s.sent), .pv (vint p.s.heard), x, .pv (vint p.now)]
def cPly (H : Hom) (p : Ply) : List PV := cHom H ++ cAgt p.a ++ cShd p.s ++ [roL 8 cMsg p.sent, vint p.now]
structure smallPly (p : Ply) : Prop where
  a : smallL p.a.items
  s : smallSh p.s
  sent : p.sent.length ≤ 1000000
  msgs : ∀ m ∈ p.sent, smallL m.items
theorem arr_give {H : Hom} {p : Ply} {m : Msg} (h : m.kind = 1 ∨ m.kind = 4) : arrP H p m = { p with s := givS H p.s m, sent := if givB p.s m = true then p.sent ++ [givM p.s m] else p.sent } := by rw [arrP, if_pos h]
theorem arr_take {H : Hom} {p : Ply} {m : Msg} (h : ¬ (m.kind = 1 ∨ m.kind = 4)) : arrP H p m = { p with a := takA H p.a m, sent := if takB p.a m = true then p.sent ++ [takM p.a m] else p.sent } := by rw [arrP, if_neg h]
theorem arr_g1 {H : Hom} {p : Ply} {m : Msg} (h : m.kind = 1 ∨ m.kind = 4) (hb : givB p.s m = true) : arrP H p m = { p with s := givS H p.s m, sent := p.sent ++ [givM p.s m] } := by rw [arr_give h, if_pos hb]
theorem arr_g0 {H : Hom} {p : Ply} {m : Msg} (h : m.kind = 1 ∨ m.kind = 4) (hb : givB p.s m = false) : arrP H p m = { p with s := givS H p.s m } := by rw [arr_give h, if_neg (by rw [hb]; decide)]
theorem arr_t1 {H : Hom} {p : Ply} {m : Msg} (h : ¬ (m.kind = 1 ∨ m.kind = 4)) (hb : takB p.a m = true) : arrP H p m = { p with a := takA H p.a m, sent := p.sent ++ [takM p.a m] } := by rw [arr_take h, if_pos hb]
theorem arr_t0 {H : Hom} {p : Ply} {m : Msg} (h : ¬ (m.kind = 1 ∨ m.kind = 4)) (hb : takB p.a m = false) : arrP H p m = { p with a := takA H p.a m } := by rw [arr_take h, if_neg (by rw [hb]; decide)]
theorem ac_law26_arrive (H : Hom) (p : Ply) (m : Msg) (hH : smallH H) (hp : smallPly p) (hmi : smallL m.items) : AC Tryz.prog 89 [.mix (mPly H p (.own 900000)), .pv (.agg (cMsg m))] [(900000, rowL 8 cMsg p.sent)] (.mix (mPly H (arrP H p m) (.own 1))) [(900000, .gone), (1, rowL 8 cMsg (arrP H p m).sent)] := by
  have hsl := hp.sent
  refine AC.of_awp_cel (T := T) T_ok hm Tryz.call89 Tryz.func89 rfl rfl rfl rfl rfl rfl ?_
  conv => whnf
  repeat (any_goals (first
    | (refine ⟨fun (h : (_ : Bool) = true) => ?_, fun (h : (_ : Bool) = false) => ?_⟩ <;> (try simp only [decide_eq_true_eq, decide_eq_false_iff_not, Bool.not_eq_true', Bool.not_eq_false', Int.toNat_natCast, beq_iff_eq, decide_eq_decide, beq_eq_false_iff_ne, ne_eq, reduceCtorEq] at h) <;> (conv => whnf))
    | (refine .inl ⟨_, ac_sync_Give H p.s m hH hp.s hmi, ?_⟩; conv => whnf)
    | (refine .inl ⟨_, ac_sync_Take H p.a m hH hp.a hmi, ?_⟩; conv => whnf)
    | (refine And.intro (by (try simp only [Int.toNat_natCast]); omega) ?_; conv => whnf)
    | (refine And.intro (show (_ : Bool) = true from by kernel_rfl) ?_; conv => whnf)
    | (refine .inl ⟨wrap64 (by omega), ?_⟩; conv => whnf)))
  iterate 2
    · rw [arr_g1 (by omega) h]
      refine ⟨[(1, 38)], ?_⟩
      (repeat' (first | exact PSub.rfl | exact rfl | exact PSubs.rfl | exact trivial | exact PSub.lit_sb rfl | refine And.intro ?_ ?_))
      · simp
      · dsimp only
        refine rows_snocF (fun i hi => by simp only [if_pos hi]; exact PSubs.rfl) (by simp only [if_neg (Nat.lt_irrefl _), Nat.sub_self]; exact PSubs.rfl)
    · rw [arr_g0 (by omega) h]
      refine ⟨[(1, 900000)], ?_⟩
      (repeat' (first | exact PSub.rfl | exact rfl | exact PSubs.rfl | exact trivial | exact PSub.lit_sb rfl | refine And.intro ?_ ?_))
      all_goals (intro q hq; exact PSubs.rfl)
  · rw [arr_t1 (by omega) h]
    refine ⟨[(1, 58)], ?_⟩
    (repeat' (first | exact PSub.rfl | exact rfl | exact PSubs.rfl | exact trivial | exact PSub.lit_sb rfl | refine And.intro ?_ ?_))
    · simp
    · dsimp only
      refine rows_snocF (fun i hi => by simp only [if_pos hi]; exact PSubs.rfl) (by simp only [if_neg (Nat.lt_irrefl _), Nat.sub_self]; exact PSubs.rfl)
  · rw [arr_t0 (by omega) h]
    refine ⟨[(1, 900000)], ?_⟩
    (repeat' (first | exact PSub.rfl | exact rfl | exact PSubs.rfl | exact trivial | exact PSub.lit_sb rfl | refine And.intro ?_ ?_))
    all_goals (intro q hq; exact PSubs.rfl)
end Go.Abs

namespace Go.Abs
open Go.Proofs
set_option maxRecDepth 10000
set_option maxHeartbeats 16000000 in
theorem ac_law26_round (H : Hom) (p : Ply) (hH : smallH H) (ha : smallL p.a.items) (hs : smallSh p.s) (hn : 0 ≤ p.now ∧ p.now ≤ 1000000000) : AC Tryz.prog 40 [.pv (.agg (cPly H p))] [] (.pv (.agg (cPly H (rndP H p)))) [] := by
  obtain ⟨pa, ps, psent, pnow⟩ := p
  have hn2 := hn
  dsimp only at ha hs hn
  obtain ⟨q, hq⟩ : ∃ q : Ply, q = ⟨pa, ps, psent, pnow + 10⟩ := ⟨_, rfl⟩
  have e1 : q.a = pa := by rw [hq]
  have e2 : q.s = ps := by rw [hq]
  have e3 : q.now = pnow + 10 := by rw [hq]
  have e4 : q.sent = psent := by rw [hq]
  have hR : rndP H ⟨pa, ps, psent, pnow⟩ = hal2 H (hal1 H q) := by rw [hq]; rfl
  have hr1 : hal1 H q = if outB q.a q.now = true then { q with a := if givB q.s (outM q.a q.now) = true then takA H (outA q.a q.now) (givM q.s (outM q.a q.now)) else outA q.a q.now, s := givS H q.s (outM q.a q.now) } else q := rfl
  obtain ⟨r, hr⟩ : ∃ r : Ply, r = hal1 H q := ⟨_, rfl⟩
  have hr2 : hal2 H r = if psB r.s r.now = true then { r with a := takA H r.a (psM r.s r.now), s := if takB r.a (psM r.s r.now) = true then givS H (psS r.s r.now) (takM r.a (psM r.s r.now)) else psS r.s r.now } else r := rfl
  rw [hR, ← hr]
  rw [← hr] at hr1
  have c1 := ac_sync_Out q.a q.now (by rw [e1]; exact ha)
  have c2 := ac_sync_Give H q.s (outM q.a q.now) hH (by rw [e2]; exact hs) outM_small
  have c3 := ac_sync_Take H (outA q.a q.now) (givM q.s (outM q.a q.now)) hH (outA_small (by rw [e1]; exact ha)) givM_small
  have rs : smallL r.a.items ∧ smallSh r.s := by
    rw [hr1]
    split
    · refine ⟨?_, givS_small (by rw [e2]; exact hs)⟩
      show smallL (if givB q.s (outM q.a q.now) = true then takA H (outA q.a q.now) (givM q.s (outM q.a q.now)) else outA q.a q.now).items
      split
      · exact takA_small (outA_small (by rw [e1]; exact ha))
      · exact outA_small (by rw [e1]; exact ha)
    · rw [e1, e2]; exact ⟨ha, hs⟩
  have c4 := ac_sync_Push r.s r.now rs.2
  have c5 := ac_sync_Take H r.a (psM r.s r.now) hH rs.1 psM_small
  have c6 := ac_sync_Give H (psS r.s r.now) (takM r.a (psM r.s r.now)) hH (psS_small rs.2) takM_small
  simp only [e1, e2, e3, e4] at c1 c2 c3 hr1
  clear hr hR
  generalize hA1 : outA pa (pnow + 10) = A1 at c1 c3 hr1
  refine AC.of_awp (T := T) T_ok hm Tryz.call40 Tryz.func40 rfl rfl rfl ?_
  conv => whnf
  repeat (any_goals (first
    | (refine ⟨fun (h : (_ : Bool) = true) => ?_, fun (h : (_ : Bool) = false) => ?_⟩ <;> (try simp only [decide_eq_true_eq, decide_eq_false_iff_not, Bool.not_eq_true', Bool.not_eq_false', Int.toNat_natCast, beq_iff_eq, decide_eq_decide, beq_eq_false_iff_ne, ne_eq, reduceCtorEq] at h) <;> (conv => whnf))
    | (refine .inl ⟨_, c1, ?_⟩; conv => whnf)
    | (refine .inl ⟨_, c2, ?_⟩; conv => whnf)
    | (refine .inl ⟨_, c3, ?_⟩; conv => whnf)
    | (refine And.intro (by (try simp only [Int.toNat_natCast]); omega) ?_; conv => whnf)
    | (refine And.intro (show (_ : Bool) = true from by kernel_rfl) ?_; conv => whnf)
    | (refine .inl ⟨wrap64 (by omega), ?_⟩; conv => whnf)))
  · rename_i h1
    rw [if_pos h1, if_pos h] at hr1
    subst hr1
    dsimp only at c4 c5 c6 hr2
    generalize takA H A1 (givM ps (outM pa (pnow + 10))) = A2 at *
    generalize givS H ps (outM pa (pnow + 10)) = S2 at *
    repeat (any_goals (first
      | (refine ⟨fun (h : (_ : Bool) = true) => ?_, fun (h : (_ : Bool) = false) => ?_⟩ <;> (try simp only [decide_eq_true_eq, decide_eq_false_iff_not, Bool.not_eq_true', Bool.not_eq_false', Int.toNat_natCast, beq_iff_eq, decide_eq_decide, beq_eq_false_iff_ne, ne_eq, reduceCtorEq] at h) <;> (conv => whnf))
      | (refine .inl ⟨_, c4, ?_⟩; conv => whnf)
      | (refine .inl ⟨_, c5, ?_⟩; conv => whnf)
      | (refine .inl ⟨_, c6, ?_⟩; conv => whnf)
      | (refine And.intro (by (try simp only [Int.toNat_natCast]); omega) ?_; conv => whnf)
      | (refine And.intro (show (_ : Bool) = true from by kernel_rfl) ?_; conv => whnf)
      | (refine .inl ⟨wrap64 (by omega), ?_⟩; conv => whnf)))
    · rename_i h2
      rw [hr2, if_pos h2, if_pos h]
      exact .rfl
    · rename_i h2
      rw [hr2, if_pos h2, if_neg (by rw [h]; decide)]
      exact .rfl
    · rw [hr2, if_neg (by rw [h]; decide), (ps_no h).1]
      exact .rfl
  · rename_i h1
    rw [if_pos h1, if_neg (by rw [h]; decide)] at hr1
    subst hr1
    dsimp only at c4 c5 c6 hr2
    generalize givS H ps (outM pa (pnow + 10)) = S2 at *
    repeat (any_goals (first
      | (refine ⟨fun (h : (_ : Bool) = true) => ?_, fun (h : (_ : Bool) = false) => ?_⟩ <;> (try simp only [decide_eq_true_eq, decide_eq_false_iff_not, Bool.not_eq_true', Bool.not_eq_false', Int.toNat_natCast, beq_iff_eq, decide_eq_decide, beq_eq_false_iff_ne, ne_eq, reduceCtorEq] at h) <;> (conv => whnf))
      | (refine .inl ⟨_, c4, ?_⟩; conv => whnf)
      | (refine .inl ⟨_, c5, ?_⟩; conv => whnf)
      | (refine .inl ⟨_, c6, ?_⟩; conv => whnf)
      | (refine And.intro (by (try simp only [Int.toNat_natCast]); omega) ?_; conv => whnf)
      | (refine And.intro (show (_ : Bool) = true from by kernel_rfl) ?_; conv => whnf)
      | (refine .inl ⟨wrap64 (by omega), ?_⟩; conv => whnf)))
    · rename_i h2
      rw [hr2, if_pos h2, if_pos h]
      exact .rfl
    · rename_i h2
      rw [hr2, if_pos h2, if_neg (by rw [h]; decide)]
      exact .rfl
    · rw [hr2, if_neg (by rw [h]; decide), (ps_no h).1]
      exact .rfl
  · rw [if_neg (by rw [h]; decide)] at hr1
    subst hr1
    subst hq
    dsimp only at c4 c5 c6 hr2
    have e5 : A1 = pa := hA1.symm.trans (out_no h).1
    subst e5
    repeat (any_goals (first
      | (refine ⟨fun (h : (_ : Bool) = true) => ?_, fun (h : (_ : Bool) = false) => ?_⟩ <;> (try simp only [decide_eq_true_eq, decide_eq_false_iff_not, Bool.not_eq_true', Bool.not_eq_false', Int.toNat_natCast, beq_iff_eq, decide_eq_decide, beq_eq_false_iff_ne, ne_eq, reduceCtorEq] at h) <;> (conv => whnf))
      | (refine .inl ⟨_, c4, ?_⟩; conv => whnf)
      | (refine .inl ⟨_, c5, ?_⟩; conv => whnf)
      | (refine .inl ⟨_, c6, ?_⟩; conv => whnf)
      | (refine And.intro (by (try simp only [Int.toNat_natCast]); omega) ?_; conv => whnf)
      | (refine And.intro (show (_ : Bool) = true from by kernel_rfl) ?_; conv => whnf)
      | (refine .inl ⟨wrap64 (by omega), ?_⟩; conv => whnf)))
    · rename_i h2
      rw [hr2, if_pos h2, if_pos h]
      exact .rfl
    · rename_i h2
      rw [hr2, if_pos h2, if_neg (by rw [h]; decide)]
      exact .rfl
    · rw [hr2, if_neg (by rw [h]; decide), (ps_no h).1]
      exact .rfl
end Go.Abs

namespace Go.Abs
open Go.Proofs
set_option maxRecDepth 10000
def modI (i : Int) (n : Nat) : Nat := (((i.tmod n) + n).tmod n).toNat
theorem mod_in (i : Int) {n : Nat} (hn : 0 < n) : -(n : Int) < i.tmod n ∧ i.tmod n < n ∧ 0 ≤ ((i.tmod n) + n).tmod n ∧ ((i.tmod n) + n).tmod n < n := by
  have h1 : -(n : Int) < i.tmod n ∧ i.tmod n < n := by
    have a := Int.tmod_lt_of_pos i (show (0 : Int) < n by omega)
    have b := Int.tmod_lt_of_pos (-i) (show (0 : Int) < n by omega)
    rw [Int.neg_tmod] at b
    exact ⟨by omega, a⟩
  have h2 : 0 ≤ i.tmod n + n := by omega
  exact ⟨h1.1, h1.2, Int.tmod_nonneg _ h2, Int.tmod_lt_of_pos _ (by omega)⟩
theorem modI_lt (i : Int) {n : Nat} (hn : 0 < n) : modI i n < n := by
  have := mod_in i hn
  unfold modI; omega
theorem mov_a {H : Hom} {p : Ply} {x : Stp} {k : Key} {m : Msg} (h : x.kind = 0) : movP H p x k m = { p with a := if locE H p.a k x.value = 0 then locA H p.a k x.value else p.a, now := p.now + 1 } := by rw [movP, if_pos h]
theorem mov_b {H : Hom} {p : Ply} {x : Stp} {k : Key} {m : Msg} (h : x.kind = 1) : movP H p x k m = { p with s := if desE H p.s k x.value = 0 then desS H p.s k x.value else p.s, now := p.now + 1 } := by rw [movP, if_neg (by omega), if_pos h]
theorem mov_c {H : Hom} {p : Ply} {x : Stp} {k : Key} {m : Msg} (h : x.kind = 2) : movP H p x k m = { p with a := outA p.a (p.now + 1), sent := if outB p.a (p.now + 1) = true then p.sent ++ [outM p.a (p.now + 1)] else p.sent, now := p.now + 1 } := by rw [movP, if_neg (by omega), if_neg (by omega), if_pos h]
theorem mov_d {H : Hom} {p : Ply} {x : Stp} {k : Key} {m : Msg} (h : x.kind = 3) : movP H p x k m = { p with s := psS p.s (p.now + 1), sent := if psB p.s (p.now + 1) = true then p.sent ++ [psM p.s (p.now + 1)] else p.sent, now := p.now + 1 } := by rw [movP, if_neg (by omega), if_neg (by omega), if_neg (by omega), if_pos h]
theorem mov_e {H : Hom} {p : Ply} {x : Stp} {k : Key} {m : Msg} (h : x.kind = 4) : movP H p x k m = { p with a := newA H p.a.dev (p.a.epoch + 1), now := p.now + 1 } := by rw [movP, if_neg (by omega), if_neg (by omega), if_neg (by omega), if_neg (by omega), if_pos h]
theorem mov_f {H : Hom} {p : Ply} {x : Stp} {k : Key} {m : Msg} (h : ¬ x.kind = 0 ∧ ¬ x.kind = 1 ∧ ¬ x.kind = 2 ∧ ¬ x.kind = 3 ∧ ¬ x.kind = 4) : movP H p x k m = if 0 < p.sent.length then arrP H { p with now := p.now + 1 } m else { p with now := p.now + 1 } := by rw [movP, if_neg (by omega), if_neg (by omega), if_neg (by omega), if_neg (by omega), if_neg (by omega)]
theorem ac_law26_move (H : Hom) (p : Ply) (x : Stp) (ks : List Key) (hH : smallH H) (hp : smallPly p) (hn : 0 ≤ p.now ∧ p.now ≤ 1000000000) (he : 0 ≤ p.a.epoch ∧ p.a.epoch ≤ 1000000000) (hk : 0 < ks.length) (hkl : smallL ks) :
    AC Tryz.prog 39 [.mix (mPly H p (.own 900000)), .pv (.agg (cStp x)), .pv (roL 3 cKey ks)] [(900000, rowL 8 cMsg p.sent)] (.mix (mPly H (movP H p x (ks.getD (modI x.key ks.length) default) (p.sent.getD (modI x.i p.sent.length) default)) (.own 1))) [(900000, .gone), (1, rowL 8 cMsg (movP H p x (ks.getD (modI x.key ks.length) default) (p.sent.getD (modI x.i p.sent.length) default)).sent)] := by
  have hsl := hp.sent
  have hkl2 : ks.length ≤ 1048576 := hkl
  obtain ⟨m1, m2, m3, m4⟩ := mod_in x.key hk
  have ms : 0 < p.sent.length → -(p.sent.length : Int) < x.i.tmod p.sent.length ∧ x.i.tmod p.sent.length < p.sent.length ∧ 0 ≤ ((x.i.tmod p.sent.length) + p.sent.length).tmod p.sent.length ∧ ((x.i.tmod p.sent.length) + p.sent.length).tmod p.sent.length < p.sent.length := fun h => mod_in x.i h
  have hmg : 0 < p.sent.length → smallL (p.sent.getD (modI x.i p.sent.length) default).items := fun h => by
    refine hp.msgs _ ?_
    have hlt := modI_lt x.i h
    rw [List.getD_eq_getElem?_getD, List.getElem?_eq_getElem hlt]
    exact List.getElem_mem _
  have hki : ((x.key.tmod ks.length + ks.length).tmod ks.length).toNat = modI x.key ks.length := rfl
  have hmi : ((x.i.tmod p.sent.length + p.sent.length).tmod p.sent.length).toNat = modI x.i p.sent.length := rfl
  obtain ⟨K, hK⟩ : ∃ K, K = ks.getD (modI x.key ks.length) default := ⟨_, rfl⟩
  obtain ⟨M, hM⟩ : ∃ M, M = p.sent.getD (modI x.i p.sent.length) default := ⟨_, rfl⟩
  rw [← hK, ← hM]
  rw [← hM] at hmg
  refine AC.of_awp_cel (T := T) T_ok hm Tryz.call39 Tryz.func39 rfl rfl rfl rfl rfl rfl ?_
  conv => whnf
  rw [hK, hM]
  rw [hM] at hmg
  have carr := fun q : Ply => fun hq : smallPly q => fun hg : smallL (p.sent.getD (modI x.i p.sent.length) default).items => ac_law26_arrive H q (p.sent.getD (modI x.i p.sent.length) default) hH hq hg
  repeat (any_goals (first
    | (refine ⟨fun (h : (_ : Bool) = true) => ?_, fun (h : (_ : Bool) = false) => ?_⟩ <;> (try simp only [decide_eq_true_eq, decide_eq_false_iff_not, Bool.not_eq_true', Bool.not_eq_false', Int.toNat_natCast, beq_iff_eq, decide_eq_decide, beq_eq_false_iff_ne, ne_eq, reduceCtorEq] at h) <;> (conv => whnf))
    | (refine .inl ⟨_, ac_sync_Local H p.a (ks.getD (modI x.key ks.length) default) x.value hH hp.a, ?_⟩; conv => whnf)
    | (refine .inl ⟨_, ac_shadow_Desire H p.s (ks.getD (modI x.key ks.length) default) x.value hH hp.s, ?_⟩; conv => whnf)
    | (refine .inl ⟨_, ac_sync_Out p.a (p.now + 1) hp.a, ?_⟩; conv => whnf)
    | (refine .inl ⟨_, ac_sync_Push p.s (p.now + 1) hp.s, ?_⟩; conv => whnf)
    | (refine .inl ⟨_, ac_sync_New H p.a.dev (p.a.epoch + 1) hH, ?_⟩; conv => whnf)
    | (refine .inr (.inr (.inr (.inr ⟨[(900000, 900000)], [(1, 700001)], _, _, _, (carr { p with now := p.now + 1 } ⟨hp.a, hp.s, hp.sent, hp.msgs⟩ (hmg (by omega))), rfl, ?_⟩))); conv => whnf)
    | (refine And.intro (by (try simp only [Int.toNat_natCast]); omega) ?_; conv => whnf)
    | (refine And.intro (show (_ : Bool) = true from by kernel_rfl) ?_; conv => whnf)
    | (refine .inl ⟨wrap64 (by omega), ?_⟩; conv => whnf)))
  · rw [mov_a (by assumption), if_pos h]
    refine ⟨[(1, 900000)], ?_⟩
    (repeat' (first | exact PSub.rfl | exact rfl | exact PSubs.rfl | exact trivial | exact PSub.lit_sb rfl | refine And.intro ?_ ?_))
    all_goals (intro q hq; exact PSubs.rfl)
  · rw [mov_a (by assumption), if_neg h]
    refine ⟨[(1, 900000)], ?_⟩
    (repeat' (first | exact PSub.rfl | exact rfl | exact PSubs.rfl | exact trivial | exact PSub.lit_sb rfl | refine And.intro ?_ ?_))
    all_goals (intro q hq; exact PSubs.rfl)
  · rw [mov_b (by assumption), if_pos h]
    refine ⟨[(1, 900000)], ?_⟩
    (repeat' (first | exact PSub.rfl | exact rfl | exact PSubs.rfl | exact trivial | exact PSub.lit_sb rfl | refine And.intro ?_ ?_))
    all_goals (intro q hq; exact PSubs.rfl)
  · rw [mov_b (by assumption), if_neg h]
    refine ⟨[(1, 900000)], ?_⟩
    (repeat' (first | exact PSub.rfl | exact rfl | exact PSubs.rfl | exact trivial | exact PSub.lit_sb rfl | refine And.intro ?_ ?_))
    all_goals (intro q hq; exact PSubs.rfl)
  · rw [mov_c (by assumption), if_pos h]
    refine ⟨[(1, 112)], ?_⟩
    (repeat' (first | exact PSub.rfl | exact rfl | exact PSubs.rfl | exact trivial | exact PSub.lit_sb rfl | refine And.intro ?_ ?_))
    · simp
    · dsimp only
      refine rows_snocF (fun i hi => by simp only [if_pos hi]; exact PSubs.rfl) (by simp only [if_neg (Nat.lt_irrefl _), Nat.sub_self]; exact PSubs.rfl)
  · rw [mov_c (by assumption), if_neg (by rw [h]; decide)]
    refine ⟨[(1, 900000)], ?_⟩
    (repeat' (first | exact PSub.rfl | exact rfl | exact PSubs.rfl | exact trivial | exact PSub.lit_sb rfl | refine And.intro ?_ ?_))
    all_goals (intro q hq; exact PSubs.rfl)
  · rw [mov_d (by assumption), if_pos h]
    refine ⟨[(1, 132)], ?_⟩
    (repeat' (first | exact PSub.rfl | exact rfl | exact PSubs.rfl | exact trivial | exact PSub.lit_sb rfl | refine And.intro ?_ ?_))
    · simp
    · dsimp only
      refine rows_snocF (fun i hi => by simp only [if_pos hi]; exact PSubs.rfl) (by simp only [if_neg (Nat.lt_irrefl _), Nat.sub_self]; exact PSubs.rfl)
  · rw [mov_d (by assumption), if_neg (by rw [h]; decide)]
    refine ⟨[(1, 900000)], ?_⟩
    (repeat' (first | exact PSub.rfl | exact rfl | exact PSubs.rfl | exact trivial | exact PSub.lit_sb rfl | refine And.intro ?_ ?_))
    all_goals (intro q hq; exact PSubs.rfl)
  · rw [mov_e (by assumption)]
    refine ⟨[(1, 900000)], ?_⟩
    (repeat' (first | exact PSub.rfl | exact rfl | exact PSubs.rfl | exact trivial | exact PSub.lit_sb rfl | refine And.intro ?_ ?_))
    all_goals (intro q hq; exact PSubs.rfl)
  · rw [mov_f (by refine ⟨?_, ?_, ?_, ?_, ?_⟩ <;> assumption), if_pos (by omega)]
    refine ⟨[(1, 700001)], ?_⟩
    (repeat' (first | exact PSub.rfl | exact rfl | exact PSubs.rfl | exact trivial | exact PSub.lit_sb rfl | refine And.intro ?_ ?_))
    all_goals (intro q hq; exact PSubs.rfl)
  · rw [mov_f (by refine ⟨?_, ?_, ?_, ?_, ?_⟩ <;> assumption), if_neg (by omega)]
    refine ⟨[(1, 900000)], ?_⟩
    (repeat' (first | exact PSub.rfl | exact rfl | exact PSubs.rfl | exact trivial | exact PSub.lit_sb rfl | refine And.intro ?_ ?_))
    all_goals (intro q hq; exact PSubs.rfl)
end Go.Abs

namespace Go.Abs
open Go.Proofs
set_option maxRecDepth 10000
theorem PInv.small {H : Hom} {d B : Int} {p : Ply} (h : PInv H d B p) (hs : p.sent.length ≤ 1000000) : smallPly p := by
  have h48 := @keysL_48 H d
  have h1 := items_len h
  have h2 : p.s.reported.length = (keysL H d).length := by rw [← h.skeys, List.length_map]
  have h3 : p.s.desired.length ≤ (keysL H d).length := by
    have hn := h.des.nodup
    have hsub : ∀ x ∈ p.s.desired.map Item.key, x ∈ keysL H d := fun x hx => by
      obtain ⟨y, hy, rfl⟩ := List.mem_map.1 hx
      exact h.des.keys y hy
    have := hn.length_le_of_subset hsub
    rwa [List.length_map] at this
  refine ⟨show _ ≤ 1048576 by omega, ⟨show _ ≤ 1048576 by omega, show _ ≤ 1048576 by omega⟩, hs, fun m hm => ?_⟩
  have := (h.msgs m hm).few
  show _ ≤ 1048576
  omega
theorem msg_getD_mem {l : List Msg} {i : Nat} (h : i < l.length) : l.getD i default ∈ l := by
  rw [List.getD_eq_getElem?_getD, List.getElem?_eq_getElem h]
  exact List.getElem_mem _
set_option maxHeartbeats 2000000 in
theorem ac_law26_SyncConverges (H : Hom) (d : Int) (l : List Stp) (hH : smallH H) (hl : smallL l) : AC Tryz.prog 9 [.pv (.agg (cHom H)), .pv (vint d), .pv (roL 6 cStp l)] [] (.pv (vbool true)) [] := by
  have h48 := @keysL_48 H d
  have hl2 : l.length ≤ 1048576 := hl
  have hkl : smallL (keysL H d) := show _ ≤ 1048576 by omega
  refine AC.of_awp (T := T) T_ok hm Tryz.call9 Tryz.func9 rfl rfl rfl ?_
  conv => whnf
  repeat (any_goals (first
    | (refine ⟨fun (h : (_ : Bool) = true) => ?_, fun (h : (_ : Bool) = false) => ?_⟩ <;> (try simp only [decide_eq_true_eq, decide_eq_false_iff_not, Bool.not_eq_true', Bool.not_eq_false', Int.toNat_natCast, beq_iff_eq, decide_eq_decide, beq_eq_false_iff_ne, ne_eq, reduceCtorEq] at h) <;> (conv => whnf))
    | (refine .inl ⟨_, ac_law26_large H hH, ?_⟩; conv => whnf)
    | (refine .inl ⟨_, ac_device_Check H hH, ?_⟩; conv => whnf)
    | (refine .inl ⟨_, ac_r22_Check H hH, ?_⟩; conv => whnf)
    | (refine .inl ⟨_, ac_law26_awake, ?_⟩; conv => whnf)
    | (refine .inl ⟨_, ac_device_Keys H d hH, ?_⟩; conv => whnf)
    | (refine .inl ⟨_, ac_r22_Keys H d hH, ?_⟩; conv => whnf)
    | (refine .inl ⟨_, ac_sync_New H d 1 hH, ?_⟩; conv => whnf)
    | (refine .inl ⟨_, ac_shadow_New H d hH, ?_⟩; conv => whnf)
    | (refine And.intro (by (try simp only [Int.toNat_natCast]); omega) ?_; conv => whnf)
    | (refine And.intro (show (_ : Bool) = true from by kernel_rfl) ?_; conv => whnf)
    | (refine .inl ⟨wrap64 (by omega), ?_⟩; conv => whnf)))
  all_goals try first
    | exact .rfl
    | exact PSub.lit_sb rfl
    | (exfalso; omega)
    | (exfalso; simp_all; done)
  have hne : keysL H d ≠ [] := fun e => by rw [e] at h; exact h rfl
  have hkp : 0 < (keysL H d).length := List.length_pos_iff.2 hne
  have hl60 : l.length ≤ 60 := by omega
  have hinit := PInv.init hne fun hb => room_ok hb
  refine loop_k (ι := Nat × Ply) [2, 7, 8] [] (fun x => x.1 ≤ l.length ∧ PInv H d (48 + 10 * x.1) x.2 ∧ x.2.sent.length ≤ x.1) (fun x => l.length - x.1) (0, ply0 H d) (fun x => [(9, .pv (vint x.1))]) (fun x => [(8, .box (mPly H x.2 (.own 500))), (500, rowL 8 cMsg x.2.sent)]) [] ⟨Nat.zero_le _, by simpa using hinit, Nat.le_refl _⟩ ?_ (fun x hx => ?_)
  · (repeat' (first | exact PSub.rfl | exact rfl | exact PSubs.rfl | exact trivial | exact PSub.lit_sb rfl | refine And.intro ?_ ?_))
  obtain ⟨k, p⟩ := x
  obtain ⟨hk1, hinv, hsent⟩ := hx
  dsimp only at hk1 hinv hsent
  conv => whnf
  refine ⟨fun h => ?_, fun h => ?_⟩ <;> (try simp only [decide_eq_true_eq, decide_eq_false_iff_not, Bool.not_eq_true', Bool.not_eq_false', Int.toNat_natCast, beq_iff_eq, decide_eq_decide, beq_eq_false_iff_ne, ne_eq, reduceCtorEq] at h) <;> (conv => whnf)
  · have hsm := hinv.small (by omega)
    have hnw := hinv.nw
    have hep := hinv.aep
    have cm := ac_law26_move H p (l.getD k default) (keysL H d) hH hsm (by omega) (by omega) hkp hkl
    have hnx := hinv.move (x := l.getD k default) (k := (keysL H d).getD (modI (l.getD k default).key (keysL H d).length) default) (m := p.sent.getD (modI (l.getD k default).i p.sent.length) default) (by omega) (by omega) hne fun h0 => msg_getD_mem (modI_lt _ h0)
    have hns := mov_sent (H := H) (p := p) (x := l.getD k default) (k := (keysL H d).getD (modI (l.getD k default).key (keysL H d).length) default) (m := p.sent.getD (modI (l.getD k default).i p.sent.length) default)
    generalize movP H p (l.getD k default) ((keysL H d).getD (modI (l.getD k default).key (keysL H d).length) default) (p.sent.getD (modI (l.getD k default).i p.sent.length) default) = p2 at *
    repeat (any_goals (first
      | (refine ⟨fun (h : (_ : Bool) = true) => ?_, fun (h : (_ : Bool) = false) => ?_⟩ <;> (try simp only [decide_eq_true_eq, decide_eq_false_iff_not, Bool.not_eq_true', Bool.not_eq_false', Int.toNat_natCast, beq_iff_eq, decide_eq_decide, beq_eq_false_iff_ne, ne_eq, reduceCtorEq] at h) <;> (conv => whnf))
      | (refine .inr (.inr (.inr (.inr ⟨[(900000, 500)], [(1, 700001)], _, _, _, cm, rfl, ?_⟩))); conv => whnf)
      | (refine And.intro (by (try simp only [Int.toNat_natCast]); omega) ?_; conv => whnf)
      | (refine And.intro (show (_ : Bool) = true from by kernel_rfl) ?_; conv => whnf)
      | (refine .inl ⟨wrap64 (by omega), ?_⟩; conv => whnf)))
    refine ⟨(k + 1, p2), [(500, 700001)], ⟨by dsimp only; omega, ?_, by dsimp only; omega⟩, by dsimp only; omega, ?_⟩
    · have e : (48 : Int) + 10 * ((k + 1 : Nat) : Int) = 48 + 10 * (k : Int) + 10 := by omega
      dsimp only
      rw [e]; exact hnx
    dsimp only
    (repeat' (first | exact PSub.rfl | exact rfl | exact PSubs.rfl | exact trivial | exact PSub.lit_sb rfl | refine And.intro ?_ ?_))
    all_goals (intro i hi; exact PSubs.rfl)
  · have hB : (48 : Int) + 10 * (k : Int) < 1000000000 := by omega
    have hB0 : (0 : Int) ≤ 48 + 10 * (k : Int) := by omega
    have hcv := hinv.converges hB0 hB hne
    have hrd := hinv.rounds hB0 hne
    refine loop_k (ι := Nat) [7, 8] [] (fun t => t ≤ 2 + (keysL H d).length) (fun t => 2 + (keysL H d).length - t) 0 (fun t => [(10, .pv (vint t))]) (fun t => [(8, .pbox (cPly H (rndN H p t)))]) [] (Nat.zero_le _) ?_ (fun t ht => ?_)
    · (repeat' (first | exact PSub.rfl | exact rfl | exact PSubs.rfl | exact trivial | exact PSub.lit_sb rfl | refine And.intro ?_ ?_))
    have hq := (hrd t (by omega)).1
    have hqs := (hrd t (by omega)).2.1
    obtain ⟨q, hqd⟩ : ∃ q, q = rndN H p t := ⟨_, rfl⟩
    have hq1 : rndN H p (t + 1) = rndP H q := by rw [hqd]; rfl
    rw [← hqd] at hq hqs
    have hsm := hq.small (by rw [hqs]; omega)
    have hnw := hq.nw
    have cr := ac_law26_round H q hH hsm.a hsm.s (by omega)
    rw [← hq1, hqd] at cr
    conv => whnf
    repeat (any_goals (first
      | (refine ⟨fun (h : (_ : Bool) = true) => ?_, fun (h : (_ : Bool) = false) => ?_⟩ <;> (try simp only [decide_eq_true_eq, decide_eq_false_iff_not, Bool.not_eq_true', Bool.not_eq_false', Int.toNat_natCast, beq_iff_eq, decide_eq_decide, beq_eq_false_iff_ne, ne_eq, reduceCtorEq] at h) <;> (conv => whnf))
      | (refine .inl ⟨_, cr, ?_⟩; conv => whnf)
      | (refine And.intro (by (try simp only [Int.toNat_natCast]); omega) ?_; conv => whnf)
      | (refine And.intro (show (_ : Bool) = true from by kernel_rfl) ?_; conv => whnf)
      | (refine .inl ⟨wrap64 (by omega), ?_⟩; conv => whnf)))
    · refine ⟨t + 1, [], by omega, by omega, ?_⟩
      (repeat' (first | exact PSub.rfl | exact rfl | exact PSubs.rfl | exact trivial | exact PSub.lit_sb rfl | refine And.intro ?_ ?_))
    · have e : t = 2 + (keysL H d).length := by omega
      subst e
      rw [← hqd] at hcv
      have ce := ac_sync_Equal q.s q.a hsm.s hsm.a
      rw [hcv.1] at ce
      rw [← hqd]
      have hcl := hcv.2
      repeat (any_goals (first
        | (refine ⟨fun (h : (_ : Bool) = true) => ?_, fun (h : (_ : Bool) = false) => ?_⟩ <;> (try simp only [decide_eq_true_eq, decide_eq_false_iff_not, Bool.not_eq_true', Bool.not_eq_false', Int.toNat_natCast, beq_iff_eq, decide_eq_decide, beq_eq_false_iff_ne, ne_eq, reduceCtorEq] at h) <;> (conv => whnf))
        | (refine .inl ⟨_, ce, ?_⟩; conv => whnf)
        | (refine .inl ⟨_, ac_law26_awake, ?_⟩; conv => whnf)
        | (refine And.intro (by (try simp only [Int.toNat_natCast]); omega) ?_; conv => whnf)
        | (refine And.intro (show (_ : Bool) = true from by kernel_rfl) ?_; conv => whnf)
        | (refine .inl ⟨wrap64 (by omega), ?_⟩; conv => whnf)))
      all_goals first
        | exact .rfl
        | exact absurd trivial h
        | (exfalso; omega)
        | trace_state
end Go.Abs
