/- YtdikjanjhanmnaaGreatDoorY00: walks and contracts. -/
import Derived.Test.YtdikjanjhanmnaaGreatDoorX07
import Derived.ChangeArms
import Derived.ChangeOld
import Derived.DataReads

set_option linter.unusedVariables false
set_option linter.unusedSimpArgs false
set_option linter.unusedSectionVars false

namespace Go.Abs
open Go.RowKit
section
variable {H : Type} (enc : TypeId × Value → H) (P : Program) (w : World) (bulk : DataW H → Nat) (B : Nat)
end
section
variable {H : Type} {enc : TypeId × Value → H} {P : Program} {w : World} {bulk : DataW H → Nat} {B : Nat}
theorem Opens.arg_cell {t : TypeId} {α : Type} {cs : α → PV} {good : α → Prop} {v : Value} {d : DataW H} {ps : List MemPlace} (h : Opens enc P w bulk B t (fun a => [cs a]) good) (hc : v.cells.toList = [v])
    (hd : DataW.Trod enc P w 0 (fun _ => true) true t v d ps) (hb : bulk d ≤ B) : ∃ a : α, good a ∧ PR w (fun _ => False) (cs a) v := by
  obtain ⟨n, hn⟩ := hd
  rw [hc] at hn
  obtain ⟨a, ha, hr⟩ := h _ _ _ _ hn hb
  exact ⟨a, ha, by simpa using hr.pr 0 _ rfl⟩
end
end Go.Abs

namespace Go.Abs
open Go.RowKit
theorem cells_int {P : Program} {w : World} {r : Reach} {base : Nat} {t : TypeId} {k : IntKind} {v : Value} (ht : P.underlying t = some (.int k)) (h : Value.okWide P w r base t v) : v.cells.toList = [v] := by
  cases v <;> first | rfl | simp [Value.okWide, ht, Cell.okWide, Cell.ok] at h
end Go.Abs

namespace Go.Abs
open Go.Proofs
set_option maxRecDepth 10000
theorem ac_r25_copied (s : Shd) (hs : smallSh s) : AC Tryz.prog 34 [.pv (.agg (cShd s))] [] (.pv (.agg (cShd s))) [] := by
  have h1 : s.reported.length ≤ 1048576 := hs.1
  have h2 : s.desired.length ≤ 1048576 := hs.2
  refine AC.of_awp (T := T) T_ok hm Tryz.call34 Tryz.func34 rfl rfl rfl ?_
  conv => whnf
  repeat (any_goals (first
    | (refine ⟨fun (h : (_ : Bool) = true) => ?_, fun (h : (_ : Bool) = false) => ?_⟩ <;> (try simp only [decide_eq_true_eq, decide_eq_false_iff_not, Bool.not_eq_true', Bool.not_eq_false', Int.toNat_natCast, beq_iff_eq, decide_eq_decide, beq_eq_false_iff_ne, ne_eq, reduceCtorEq] at h) <;> (conv => whnf))
    | (refine And.intro (by (try simp only [Int.toNat_natCast]); omega) ?_; conv => whnf)
    | (refine And.intro (show (_ : Bool) = true from by kernel_rfl) ?_; conv => whnf)
    | (refine .inl ⟨wrap64 (by omega), ?_⟩; conv => whnf)))
  exact PSub.agg ⟨.rfl, .rfl, .rfl, PSub.ro (Nat.zero_add _) (fun i hi => by simpa using PSubs.rfl), PSub.ro (Nat.zero_add _) (fun i hi => by simpa using PSubs.rfl), .rfl, .rfl, .rfl, .rfl, trivial⟩
theorem ac_r25_Get (s : Shd) (k : Key) (hs : smallSh s) : AC Tryz.prog 19 [.pv (.agg (cShd s)), .pv (.agg (cKey k))] [] (.pv (.tup [.agg (cVal (getI s.reported k).value), vbool (decide (itemAt s.reported k < s.reported.length))])) [] := by
  refine AC.of_awp (T := T) T_ok hm Tryz.call19 Tryz.func19 rfl rfl rfl ?_
  conv => whnf
  refine .inl ⟨_, ac_r25_place s.reported k hs.1, ?_⟩
  conv => whnf
  unfold ixI
  by_cases hlt : itemAt s.reported k < s.reported.length
  · rw [if_pos hlt]
    repeat (any_goals (first
      | (refine ⟨fun (h : (_ : Bool) = true) => ?_, fun (h : (_ : Bool) = false) => ?_⟩ <;> (try simp only [decide_eq_true_eq, decide_eq_false_iff_not, Bool.not_eq_true', Bool.not_eq_false', Int.toNat_natCast, beq_iff_eq, decide_eq_decide, beq_eq_false_iff_ne, ne_eq, reduceCtorEq] at h) <;> (conv => whnf))
      | (refine And.intro (by (try simp only [Int.toNat_natCast]); omega) ?_; conv => whnf)
      | (refine And.intro (show (_ : Bool) = true from by kernel_rfl) ?_; conv => whnf)
      | (refine .inl ⟨wrap64 (by omega), ?_⟩; conv => whnf)))
    · exfalso; omega
    · refine ⟨?_, ?_⟩ <;> (conv => whnf)
      · exact PSub.of_eq (by rw [getI, if_pos hlt]; rfl)
      · exact PSub.lit_sb (by simp [hlt])
  · rw [if_neg hlt]
    repeat (any_goals (first
      | (refine ⟨fun (h : (_ : Bool) = true) => ?_, fun (h : (_ : Bool) = false) => ?_⟩ <;> (try simp only [decide_eq_true_eq, decide_eq_false_iff_not, Bool.not_eq_true', Bool.not_eq_false', Int.toNat_natCast, beq_iff_eq, decide_eq_decide, beq_eq_false_iff_ne, ne_eq, reduceCtorEq] at h) <;> (conv => whnf))
      | (refine And.intro (by (try simp only [Int.toNat_natCast]); omega) ?_; conv => whnf)
      | (refine And.intro (show (_ : Bool) = true from by kernel_rfl) ?_; conv => whnf)
      | (refine .inl ⟨wrap64 (by omega), ?_⟩; conv => whnf)))
    · refine ⟨?_, ?_⟩ <;> (conv => whnf)
      · exact PSub.of_eq (by rw [getI, if_neg hlt]; rfl)
      · exact PSub.lit_sb (by simp [hlt])
    · exfalso; omega
theorem ac_r25_Done (s : Shd) (epoch version : Int) (hs : smallSh s) : AC Tryz.prog 21 [.pv (.agg (cShd s)), .pv (vint epoch), .pv (vint version)] [] (.pv (.agg (cShd (donS s epoch version)))) [] := by
  refine AC.of_awp (T := T) T_ok hm Tryz.call21 Tryz.func21 rfl rfl rfl ?_
  conv => whnf
  repeat (any_goals (first
    | (refine ⟨fun (h : (_ : Bool) = true) => ?_, fun (h : (_ : Bool) = false) => ?_⟩ <;> (try simp only [decide_eq_true_eq, decide_eq_false_iff_not, Bool.not_eq_true', Bool.not_eq_false', Int.toNat_natCast, beq_iff_eq, decide_eq_decide, beq_eq_false_iff_ne, ne_eq, reduceCtorEq] at h) <;> (conv => whnf))
    | (refine .inl ⟨_, ac_r25_copied s hs, ?_⟩; conv => whnf)
    | (refine And.intro (by (try simp only [Int.toNat_natCast]); omega) ?_; conv => whnf)
    | (refine And.intro (show (_ : Bool) = true from by kernel_rfl) ?_; conv => whnf)
    | (refine .inl ⟨wrap64 (by omega), ?_⟩; conv => whnf)))
  all_goals
    unfold donS
    by_cases he : epoch = s.epoch
    · rw [if_pos he]
      first
        | exact absurd he ‹_›
        | exact PSub.agg ⟨.rfl, .rfl, .rfl, .rfl, .rfl, .rfl, PSub.int (by simp only [Int.max_def, Int.min_def]; (repeat' split) <;> omega), .rfl, .rfl, trivial⟩
    · rw [if_neg he]
      first
        | exact absurd ‹_› he
        | exact .rfl
end Go.Abs

namespace Go.Abs
open Go.Proofs Go.RowKit
set_option maxRecDepth 10000
section
variable {H : Type} {enc : TypeId × Value → H} {w : World} {bulk : DataW H → Nat}
def cSCase (c : SCase) : List PV := cShd c.s ++ cKey c.k ++ cVal c.v
theorem op_law25_Case (hB : BulkOk bulk) : Opens enc Tryz.prog w bulk BB 44 cSCase (fun c => smallSh c.s) :=
  (Opens.struct hB Tryz.underlying44 (by kernel_rfl) (.cons (size := 9) rfl (by kernel_rfl) (op_Shadow hB) (.cons (size := 3) rfl (by kernel_rfl) (op_Key hB) (.cons (size := 3) rfl (by kernel_rfl) (op_Value hB) .nil)))).imp (fun x => ⟨x.1, x.2.1, x.2.2.1⟩) (fun _ => rfl) (fun _ h => h.1)
end
end Go.Abs

namespace Go.Abs
open Go.Proofs
set_option maxRecDepth 10000
theorem penL_length (s : Shd) : (penL s).length ≤ s.desired.length := by
  unfold penL; rw [isortR_length]; exact List.length_filter_le _ _
theorem ac_r25_Pending (s : Shd) (hs : smallSh s) : AC Tryz.prog 24 [.pv (.agg (cShd s))] [] (.pv (roL 7 cItem (penL s))) [] := by
  have h2 : s.desired.length ≤ 1048576 := hs.2
  refine AC.of_awp (T := T) T_ok hm Tryz.call24 Tryz.func24 rfl rfl rfl ?_
  conv => whnf
  refine loop_k (ι := Nat) [1] [1] (fun k => k ≤ s.desired.length ∧ True) (fun k => s.desired.length - k) 0 (fun k => [(3, .own 500), (4, .pv (vint k))]) (fun k => [(500, rowL 7 cItem (isortR vLt ((s.desired.take k).filter (penF s))))]) [] ⟨Nat.zero_le _, trivial⟩ ?_ (fun k hk => ?_)
  · (repeat' (first | exact PSub.rfl | exact rfl | exact PSubs.rfl | exact trivial | exact PSub.lit_sb rfl | refine And.intro ?_ ?_))
  obtain ⟨hkn, hinv⟩ := hk
  conv => whnf
  have hfl := fil_length (penF s) s.desired k
  have hil := isortR_length (lt := vLt) ((s.desired.take k).filter (penF s))
  refine ⟨fun h => ?_, fun h => ?_⟩ <;> (try simp only [decide_eq_true_eq, decide_eq_false_iff_not, Bool.not_eq_true', Bool.not_eq_false', Int.toNat_natCast, beq_iff_eq, decide_eq_decide, beq_eq_false_iff_ne, ne_eq, reduceCtorEq] at h) <;> (conv => whnf)
  · have hfs := fil_snoc (penF s) (l := s.desired) (k := k) (by omega)
    repeat (any_goals (first
      | (refine ⟨fun (h : (_ : Bool) = true) => ?_, fun (h : (_ : Bool) = false) => ?_⟩ <;> (try simp only [decide_eq_true_eq, decide_eq_false_iff_not, Bool.not_eq_true', Bool.not_eq_false', Int.toNat_natCast, beq_iff_eq, decide_eq_decide, beq_eq_false_iff_ne, ne_eq, reduceCtorEq] at h) <;> (conv => whnf))
      | (refine And.intro (by (try simp only [Int.toNat_natCast]); omega) ?_; conv => whnf)
      | (refine And.intro (show (_ : Bool) = true from by kernel_rfl) ?_; conv => whnf)
      | (refine .inl ⟨wrap64 (by omega), ?_⟩; conv => whnf)))
    · rw [if_neg (by simpa [penF] using h), List.append_nil] at hfs
      refine ⟨k + 1, [], ⟨by omega, trivial⟩, by omega, ?_⟩
      rw [hfs]
      (repeat' (first | exact PSub.rfl | exact rfl | exact PSubs.rfl | exact trivial | exact PSub.lit_sb rfl | refine And.intro ?_ ?_))
      all_goals (intro i hi; exact PSubs.rfl)
    · rw [if_pos (show penF s (s.desired.getD k default) = true from decide_eq_true (by omega))] at hfs
      generalize (s.desired.take k).filter (penF s) = D at *
      obtain ⟨x, hx0⟩ : ∃ x, x = s.desired.getD k default := ⟨_, rfl⟩
      rw [← hx0] at hfs
      have hll : (D ++ [x]).length = D.length + 1 := by simp
      have hS0 : srtSeg vLt (D ++ [x]) 0 D.length = isortR vLt D ++ [x] := by unfold srtSeg seg; simp
      have hS1 : srtSeg vLt (D ++ [x]) 0 (D.length + 1) = isortR vLt (D ++ [x]) := by unfold srtSeg seg; rw [show (D ++ [x]).take (D.length + 1) = D ++ [x] from List.take_of_length_le (by simp)]; simp
      have hLn : (D ++ [x]).getD D.length default = x := by simp [List.getD]
      have hsl := srtSeg_length (lt := vLt) (l := D ++ [x]) (a := 0) (b := D.length) (by omega) (by omega)
      generalize hLd : D ++ [x] = L at *
      generalize hn : D.length = n at *
      refine loop_k (ι := Nat) [1, 4] [1] (fun j => j ≤ n ∧ ∀ q, j ≤ q → q < n → vLt (L.getD n default) ((srtSeg vLt L 0 n).getD q default) = true) (fun j => j) n (fun j => [(3, .own 501), (5, .pv (vint j))]) (fun j => [(501, rowL 7 cItem (rot (srtSeg vLt L 0 n) j n (n + 1)))]) [(501, 30)] ⟨by omega, fun q q1 q2 => by omega⟩ ?_ (fun j hj => ?_)
      · rw [rot_none (by omega), hS0, hx0]
        (repeat' (first | exact PSub.rfl | exact rfl | exact PSubs.rfl | exact trivial | exact PSub.lit_sb rfl | refine And.intro ?_ ?_))
        · simp [hil]
        · refine rows_snocF (fun i hi => by simp only [if_pos hi]; exact PSubs.rfl) (by simp only [if_neg (Nat.lt_irrefl _), Nat.sub_self]; exact PSubs.rfl)
        all_goals first | exact PSub.int (by omega) | trace_state
      obtain ⟨hj2, hj3⟩ := hj
      have hrl := rot_length (srtSeg vLt L 0 n) j n (n + 1)
      have ht : (↑j - 1 : Int).toNat = j - 1 := by omega
      conv => whnf
      repeat (any_goals (first
        | (refine ⟨fun (h : (_ : Bool) = true) => ?_, fun (h : (_ : Bool) = false) => ?_⟩ <;> (try simp only [decide_eq_true_eq, decide_eq_false_iff_not, Bool.not_eq_true', Bool.not_eq_false', Int.toNat_natCast, beq_iff_eq, decide_eq_decide, beq_eq_false_iff_ne, ne_eq, reduceCtorEq] at h) <;> (conv => whnf))
        | (refine And.intro (by (try simp only [Int.toNat_natCast]); omega) ?_; conv => whnf)
        | (refine And.intro (show (_ : Bool) = true from by kernel_rfl) ?_; conv => whnf)
        | (refine .inl ⟨wrap64 (by omega), ?_⟩; conv => whnf)))
      · have hx : (rot (srtSeg vLt L 0 n) j n (n + 1)).getD j default = L.getD n default := by
          rw [rot_getD (by omega), if_pos (by omega), srtSeg_getD (by omega) (by omega), if_neg (by omega), if_neg (by omega)]
          congr 1; omega
        have hy : (rot (srtSeg vLt L 0 n) j n (n + 1)).getD (j - 1) default = (srtSeg vLt L 0 n).getD (j - 1) default := by
          rw [rot_getD (by omega), if_neg (by omega), if_neg (by omega)]
        have h2 : vLt ((rot (srtSeg vLt L 0 n) j n (n + 1)).getD j default) ((rot (srtSeg vLt L 0 n) j n (n + 1)).getD (j - 1) default) = true := by
          rw [← ht]; exact decide_eq_true h
        rw [hx, hy] at h2
        rw [ht]
        refine ⟨j - 1, [], ⟨by omega, fun q q1 q2 => ?_⟩, by omega, ?_⟩
        · by_cases e : q = j - 1
          · rw [e]; exact h2
          · exact hj3 q (by omega) q2
        rw [← rot_down (by omega) hj2 (by omega)]
        have hr := fun q => swp_row (l := rot (srtSeg vLt L 0 n) j n (n + 1)) (i := j) (j := j - 1) (by omega) (by omega) q
        (repeat' (first | exact PSub.rfl | exact rfl | exact PSubs.rfl | exact trivial | exact PSub.lit_sb rfl | refine And.intro ?_ ?_))
        · rw [swp_length]
        · intro q hq; exact hr q
        · exact PSub.int (by omega)
      · have hx : (rot (srtSeg vLt L 0 n) j n (n + 1)).getD j default = L.getD n default := by
          rw [rot_getD (by omega), if_pos (by omega), srtSeg_getD (by omega) (by omega), if_neg (by omega), if_neg (by omega)]
          congr 1; omega
        have hy : (rot (srtSeg vLt L 0 n) j n (n + 1)).getD (j - 1) default = (srtSeg vLt L 0 n).getD (j - 1) default := by
          rw [rot_getD (by omega), if_neg (by omega), if_neg (by omega)]
        have h2 : vLt ((rot (srtSeg vLt L 0 n) j n (n + 1)).getD j default) ((rot (srtSeg vLt L 0 n) j n (n + 1)).getD (j - 1) default) = false := by
          rw [← ht]; exact decide_eq_false h
        rw [hx, hy] at h2
        refine ⟨k + 1, [(500, 501)], ⟨by omega, trivial⟩, by omega, ?_⟩
        rw [hfs, ← hS1, ins_done vLt_swo (Nat.zero_le _) hj2 (by omega) hj3 (fun _ => h2)]
        (repeat' (first | exact PSub.rfl | exact rfl | exact PSubs.rfl | exact trivial | exact PSub.lit_sb rfl | refine And.intro ?_ ?_))
        all_goals (intro q hq; exact PSubs.rfl)
      · refine ⟨k + 1, [(500, 501)], ⟨by omega, trivial⟩, by omega, ?_⟩
        rw [hfs, ← hS1, ins_done vLt_swo (Nat.zero_le _) hj2 (by omega) hj3 (fun x => by omega)]
        (repeat' (first | exact PSub.rfl | exact rfl | exact PSubs.rfl | exact trivial | exact PSub.lit_sb rfl | refine And.intro ?_ ?_))
        all_goals (intro q hq; exact PSubs.rfl)
  · have e : k = s.desired.length := by omega
    subst e
    rw [List.take_length] at *
    repeat (any_goals (first
      | (refine ⟨fun (h : (_ : Bool) = true) => ?_, fun (h : (_ : Bool) = false) => ?_⟩ <;> (try simp only [decide_eq_true_eq, decide_eq_false_iff_not, Bool.not_eq_true', Bool.not_eq_false', Int.toNat_natCast, beq_iff_eq, decide_eq_decide, beq_eq_false_iff_ne, ne_eq, reduceCtorEq] at h) <;> (conv => whnf))
      | (refine And.intro (by (try simp only [Int.toNat_natCast]); omega) ?_; conv => whnf)
      | (refine And.intro (show (_ : Bool) = true from by kernel_rfl) ?_; conv => whnf)
      | (refine .inl ⟨wrap64 (by omega), ?_⟩; conv => whnf)))
    exact .rfl
end Go.Abs

namespace Go.Abs
open Go.Proofs
set_option maxRecDepth 10000
theorem ac_r25_Synced (s : Shd) (hs : smallSh s) : AC Tryz.prog 26 [.pv (.agg (cShd s))] [] (.pv (vbool (decide (penL s = [])))) [] := by
  refine AC.of_awp (T := T) T_ok hm Tryz.call26 Tryz.func26 rfl rfl rfl ?_
  conv => whnf
  repeat (any_goals (first
    | (refine ⟨fun (h : (_ : Bool) = true) => ?_, fun (h : (_ : Bool) = false) => ?_⟩ <;> (try simp only [decide_eq_true_eq, decide_eq_false_iff_not, Bool.not_eq_true', Bool.not_eq_false', Int.toNat_natCast, beq_iff_eq, decide_eq_decide, beq_eq_false_iff_ne, ne_eq, reduceCtorEq] at h) <;> (conv => whnf))
    | (refine .inl ⟨_, ac_r25_Pending s hs, ?_⟩; conv => whnf)
    | (refine And.intro (by (try simp only [Int.toNat_natCast]); omega) ?_; conv => whnf)
    | (refine And.intro (show (_ : Bool) = true from by kernel_rfl) ?_; conv => whnf)
    | (refine .inl ⟨wrap64 (by omega), ?_⟩; conv => whnf)))
  refine PSub.sb ?_
  rw [Bool.eq_iff_iff]; simp [List.eq_nil_iff_length_eq_zero, -List.length_eq_zero_iff]
end Go.Abs

namespace Go.Abs
open Go.Proofs
set_option maxRecDepth 10000
theorem don_small {s : Shd} {e v : Int} (hs : smallSh s) : smallSh (donS s e v) := by
  unfold donS; split <;> exact hs
end Go.Abs

namespace Go.Abs
open Go.Proofs
set_option maxRecDepth 10000
theorem ac_law25_ShadowDones (s : Shd) (k : Key) (v : Val) (epoch version : Int) (hs : smallSh s) : AC Tryz.prog 5 [.pv (.agg (cShd s ++ cKey k ++ cVal v)), .pv (vint epoch), .pv (vint version)] [] (.pv (vbool true)) [] := by
  have hp : (penL s).length ≤ 1048576 := Nat.le_trans (penL_length s) hs.2
  refine AC.of_awp (T := T) T_ok hm Tryz.call5 Tryz.func5 rfl rfl rfl ?_
  conv => whnf
  repeat (any_goals (first
    | (refine ⟨fun (h : (_ : Bool) = true) => ?_, fun (h : (_ : Bool) = false) => ?_⟩ <;> (try simp only [decide_eq_true_eq, decide_eq_false_iff_not, Bool.not_eq_true', Bool.not_eq_false', Int.toNat_natCast, beq_iff_eq, decide_eq_decide, beq_eq_false_iff_ne, ne_eq, reduceCtorEq] at h) <;> (conv => whnf))
    | (refine .inl ⟨_, AC.sub3 ((ac_law25_great ⟨[], []⟩ s ⟨0, 0, 0, 0, [], ⟨#[]⟩, ⟨#[]⟩, ⟨#[]⟩⟩)) (by repeat' (first | exact PSub.rfl | exact PSub.nil_ro _ _ | exact PSub.lit_sb rfl | exact trivial | exact all_lt_zero | refine PSub.agg ?_ | refine PSub.ro rfl ?_ | refine all_lt_succ ?_ ?_ | refine And.intro ?_ ?_)) (by repeat' (first | exact PSub.rfl | exact PSub.nil_ro _ _ | exact PSub.lit_sb rfl | exact trivial | exact all_lt_zero | refine PSub.agg ?_ | refine PSub.ro rfl ?_ | refine all_lt_succ ?_ ?_ | refine And.intro ?_ ?_)) (by repeat' (first | exact PSub.rfl | exact PSub.nil_ro _ _ | exact PSub.lit_sb rfl | exact trivial | exact all_lt_zero | refine PSub.agg ?_ | refine PSub.ro rfl ?_ | refine all_lt_succ ?_ ?_ | refine And.intro ?_ ?_)), ?_⟩; conv => whnf)
    | (refine .inl ⟨_, ac_law25_lives, ?_⟩; conv => whnf)
    | (refine .inl ⟨_, ac_shadow_Get s k hs, ?_⟩; conv => whnf)
    | (refine .inl ⟨_, ac_r25_Get s k hs, ?_⟩; conv => whnf)
    | (refine .inl ⟨_, ac_shadow_Done s epoch version hs, ?_⟩; conv => whnf)
    | (refine .inl ⟨_, ac_r25_Done s epoch version hs, ?_⟩; conv => whnf)
    | (refine .inl ⟨_, ac_r25_Same (donS s epoch version) (donS s epoch version) (don_small hs), ?_⟩; conv => whnf)
    | (refine .inl ⟨_, ac_shadow_Pending s hs, ?_⟩; conv => whnf)
    | (refine .inl ⟨_, ac_r25_Pending s hs, ?_⟩; conv => whnf)
    | (refine .inl ⟨_, ac_r22_Same (penL s) (penL s) (by omega), ?_⟩; conv => whnf)
    | (refine .inl ⟨_, ac_shadow_Synced s hs, ?_⟩; conv => whnf)
    | (refine .inl ⟨_, ac_r25_Synced s hs, ?_⟩; conv => whnf)
    | (refine And.intro (by (try simp only [Int.toNat_natCast]); omega) ?_; conv => whnf)
    | (refine And.intro (show (_ : Bool) = true from by kernel_rfl) ?_; conv => whnf)
    | (refine .inl ⟨wrap64 (by omega), ?_⟩; conv => whnf)))
  all_goals first
    | exact .rfl
    | exact absurd trivial h
    | exact absurd rfl h
    | (exfalso; simp at h; done)
    | exact PSub.sb (by simp)
    | trace_state
end Go.Abs
