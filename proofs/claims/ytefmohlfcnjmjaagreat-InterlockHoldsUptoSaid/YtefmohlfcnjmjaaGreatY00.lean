/- YtefmohlfcnjmjaaGreatY00: walks and contracts. -/
import Derived.Test.YtefmohlfcnjmjaaGreatX07

set_option linter.unusedVariables false
set_option linter.unusedSimpArgs false
set_option linter.unusedSectionVars false

namespace Go.Abs
theorem putS_length (l : List ByteArray) (k : ByteArray) : (putS l k).length ≤ l.length + 1 := by
  induction l with
  | nil => simp [putS]
  | cons y r ih =>
    unfold putS
    split
    · simp only [List.length_cons]; omega
    · simp only [List.length_cons]
      have := List.length_filter_le (fun z => decide (z ≠ k)) (y :: r)
      simp only [List.length_cons] at this
      omega
theorem foldl_putS_length {l acc : List ByteArray} : (l.foldl putS acc).length ≤ acc.length + l.length := by
  induction l generalizing acc with
  | nil => simp
  | cons y r ih =>
    have h1 := ih (acc := putS acc y)
    have h2 := putS_length acc y
    simp only [List.foldl_cons, List.length_cons]; omega
theorem sortS_length (l : List ByteArray) : (sortS l).length ≤ l.length := by
  have := foldl_putS_length (l := l) (acc := [])
  simpa [sortS] using this
end Go.Abs

namespace Go.Abs
variable [Globals]
theorem mem_actL {l : List Lck} {v : Vw} {before : List ByteArray} {n : ByteArray} : n ∈ actL l v before ↔ actN l v before n = true := by
  unfold actL
  rw [mem_sortS, List.mem_filter]
  refine ⟨fun h => h.2, fun h => ⟨?_, h⟩⟩
  unfold actN at h
  cases hf : fstL l n with
  | none => rw [hf] at h; cases h
  | some x => exact fstL_isSome.1 (by rw [hf]; rfl)
end Go.Abs

namespace Go.Abs
open Go.Proofs Go.RowKit
set_option maxRecDepth 10000
section
variable {H : Type} {enc : TypeId × Value → H} {w : World} {bulk : DataW H → Nat}
theorem op_Span (hB : BulkOk bulk) : Opens enc Tryz.prog w bulk BB 248 cSpn (fun _ => True) :=
  (Opens.struct hB Tryz.underlying248 (by kernel_rfl) (.cons (size := 1) rfl (by kernel_rfl) op_int (.cons (size := 1) rfl (by kernel_rfl) op_int .nil))).imp (fun x => ⟨x.1, x.2.1⟩) (fun _ => rfl) (fun _ _ => trivial)
theorem op_l_Span (hB : BulkOk bulk) : Opens enc Tryz.prog w bulk BB 155 (fun l : List Spn => [roL 2 cSpn l]) smallL :=
  (Opens.slice hB Tryz.underlying155 (by kernel_rfl) (by decide) (op_Span hB)).imp id (fun _ => rfl) (fun _ h => h.1)
theorem op_Member (hB : BulkOk bulk) : Opens enc Tryz.prog w bulk BB 157 cMem (fun _ => True) :=
  (Opens.struct hB Tryz.underlying157 (by kernel_rfl) (.cons (size := 1) rfl (by kernel_rfl) (op_string hB) (.cons (size := 1) rfl (by kernel_rfl) op_int (.cons (size := 1) rfl (by kernel_rfl) (op_l_Span hB) (.cons (size := 1) rfl (by kernel_rfl) (op_l_string hB) (.cons (size := 1) rfl (by kernel_rfl) op_bool .nil)))))).imp
    (fun x => ⟨x.1, x.2.1, x.2.2.1, x.2.2.2.1, x.2.2.2.2.1⟩) (fun _ => rfl) (fun _ _ => trivial)
theorem op_l_Member (hB : BulkOk bulk) : Opens enc Tryz.prog w bulk BB 48 (fun l : List Mem => [roL 5 cMem l]) smallL :=
  (Opens.slice hB Tryz.underlying48 (by kernel_rfl) (by decide) (op_Member hB)).imp id (fun _ => rfl) (fun _ h => h.1)
theorem op_View (hB : BulkOk bulk) : Opens enc Tryz.prog w bulk BB 50 cVw smallV2 :=
  (Opens.struct hB Tryz.underlying50 (by kernel_rfl) (.cons (size := 1) rfl (by kernel_rfl) (op_l_Item hB) (.cons (size := 1) rfl (by kernel_rfl) (op_string hB) (.cons (size := 1) rfl (by kernel_rfl) op_int (.cons (size := 1) rfl (by kernel_rfl) (op_l_Member hB) .nil))))).imp
    (fun x => ⟨x.1, x.2.1, x.2.2.1, x.2.2.2.1⟩) (fun _ => rfl) (fun _ h => ⟨h.1.1, h.2.2.2.1⟩)
end
end Go.Abs

namespace Go.Abs
open Go.Proofs
set_option maxRecDepth 10000
def viewB (v : Vw) : Bool := decide (v.items.length ≤ 60) && decide (v.members.length ≤ 20)
theorem ac_law45_view (v : Vw) (hv : smallV2 v) : AC Tryz.prog 16 [.pv (.agg (cVw v))] [] (.pv (vbool (viewB v))) [] := by
  have h1 : v.items.length ≤ 1048576 := hv.1
  have h2 : v.members.length ≤ 1048576 := hv.2
  refine AC.of_awp (T := T) T_ok hm Tryz.call16 Tryz.func16 rfl rfl rfl ?_
  conv => whnf
  repeat (any_goals (first
    | (refine ⟨fun (h : (_ : Bool) = true) => ?_, fun (h : (_ : Bool) = false) => ?_⟩ <;> (try simp only [decide_eq_true_eq, decide_eq_false_iff_not, Bool.not_eq_true', Bool.not_eq_false', Int.toNat_natCast, beq_iff_eq, decide_eq_decide, beq_eq_false_iff_ne, ne_eq, reduceCtorEq] at h) <;> (conv => whnf))
    | (refine And.intro (by (try simp only [Int.toNat_natCast]); omega) ?_; conv => whnf)
    | (refine And.intro (show (_ : Bool) = true from by kernel_rfl) ?_; conv => whnf)
    | (refine .inl ⟨wrap64 (by omega), ?_⟩; conv => whnf)))
  · exact PSub.sb (by unfold viewB; rw [decide_eq_true (show v.items.length ≤ 60 by omega), Bool.true_and, decide_eq_decide]; omega)
  · exact PSub.lit_sb (by unfold viewB; rw [decide_eq_false (show ¬ v.items.length ≤ 60 by omega)]; rfl)
end Go.Abs

namespace Go.Abs
open Go.Proofs
set_option maxRecDepth 10000
theorem actL_length (l : List Lck) (v : Vw) (b : List ByteArray) : (actL l v b).length ≤ l.length := by
  unfold actL
  exact Nat.le_trans (sortS_length _) (Nat.le_trans (List.length_filter_le _ _) (by simp))
theorem actL_small {l : List Lck} {v : Vw} {b : List ByteArray} (hl : smallL l) : smallL (actL l v b) := Nat.le_trans (actL_length l v b) hl
end Go.Abs

namespace Go.Abs
open Go.Proofs
set_option maxRecDepth 10000
def distL (l : List Lck) (k : Nat) : Prop := ∀ j, j < k → ∀ i, i < j → (l.getD i default).name ≠ (l.getD j default).name
theorem dist_mem {l : List Lck} (h : distL l l.length) {x y : Lck} (hx : x ∈ l) (hy : y ∈ l) (hn : x.name = y.name) : x = y := by
  obtain ⟨i, hi, rfl⟩ := List.getElem_of_mem hx
  obtain ⟨j, hj, rfl⟩ := List.getElem_of_mem hy
  have gi : l.getD i default = l[i] := by simp [List.getD, hi]
  have gj : l.getD j default = l[j] := by simp [List.getD, hj]
  rcases Nat.lt_trichotomy i j with e | e | e
  · exact absurd (by rw [gi, gj]; exact hn) (h j hj i e)
  · subst e; rfl
  · exact absurd (by rw [gi, gj]; exact hn.symm) (h i hi j e)
theorem fstL_dist {l : List Lck} (h : distL l l.length) {x : Lck} (hx : x ∈ l) : fstL l x.name = some x := by
  cases hf : fstL l x.name with
  | none =>
    have := (fstL_isSome (l := l) (n := x.name)).2 (List.mem_map_of_mem hx)
    rw [hf] at this; cases this
  | some y =>
    have := fstL_some hf
    rw [dist_mem h this.1 hx this.2]
end Go.Abs

namespace Go.Abs
open Go.Proofs
set_option maxRecDepth 10000
theorem actB_want (v : Vw) (b : List ByteArray) (x : Lck) : actB v b x = ((evlE v x.cond).2 && decide ((evlE v x.cond).1 = truV true) || memS b x.name && (x.latch || !(evlE v x.cond).2)) := rfl
def cntL (l : List Lck) (v : Vw) (b : List ByteArray) (k : Nat) : Nat := ((l.take k).filter (actB v b)).length
theorem cntL_succ {l : List Lck} {v : Vw} {b : List ByteArray} {k : Nat} (hk : k < l.length) : cntL l v b (k + 1) = cntL l v b k + (if actB v b (l.getD k default) = true then 1 else 0) := by
  unfold cntL
  rw [take_succ_getD hk, List.filter_append, List.length_append]
  congr 1
  generalize l.getD k default = x
  by_cases e : actB v b x = true
  · rw [if_pos e, List.filter_cons, if_pos e]; rfl
  · rw [if_neg e, List.filter_cons, if_neg e]; rfl
theorem cntL_le {l : List Lck} {v : Vw} {b : List ByteArray} {k : Nat} : cntL l v b k ≤ k := by
  unfold cntL
  have := List.length_filter_le (actB v b) (l.take k)
  rw [List.length_take] at this
  omega
theorem names_nodup {l : List Lck} (h : distL l l.length) : (l.map Lck.name).Nodup := by
  show List.Pairwise _ _
  rw [List.pairwise_map, List.pairwise_iff_getElem]
  intro i j hi hj hij e
  refine h j hj i hij ?_
  simpa [List.getD, hi, hj] using e
theorem actN_dist {l : List Lck} (h : distL l l.length) {v : Vw} {b : List ByteArray} {x : Lck} (hx : x ∈ l) : actN l v b x.name = actB v b x := by
  unfold actN
  rw [fstL_dist h hx]
theorem actL_count {l : List Lck} (h : distL l l.length) (v : Vw) (b : List ByteArray) : (actL l v b).length = cntL l v b l.length := by
  have h1 : ∀ m : List Lck, (∀ x ∈ m, x ∈ l) → (m.map Lck.name).filter (actN l v b) = (m.filter (actB v b)).map Lck.name := by
    intro m
    induction m with
    | nil => intro _; rfl
    | cons x m ih =>
      intro hm
      have hx := actN_dist h (v := v) (b := b) (hm x (by simp))
      rw [List.map_cons, List.filter_cons, List.filter_cons, hx, ih fun y hy => hm y (by simp [hy])]
      split <;> rfl
  have hnd : ((l.map Lck.name).filter (actN l v b)).Nodup := (names_nodup h).filter _
  unfold actL cntL
  rw [← sortedS_asc hnd, sortedS_length, h1 l (fun _ h => h), List.length_map, List.take_length]
theorem mem_act_dist {l : List Lck} (h : distL l l.length) {v : Vw} {b : List ByteArray} {k : Nat} (hk : k < l.length) : decide (0 ≤ idxOf (actL l v b) (l.getD k default).name) = actB v b (l.getD k default) := by
  have hm : l.getD k default ∈ l := by simp only [List.getD, List.getElem?_eq_getElem hk]; exact List.getElem_mem hk
  rw [Bool.eq_iff_iff, decide_eq_true_eq, idxOf_in, mem_actL, actN_dist h hm]
set_option maxHeartbeats 2000000 in
theorem ac_law45_InterlockHolds (l : List Lck) (v : Vw) (b : List ByteArray) (hl : smallL l) (hv : smallV2 v) (hb : smallL b) : AC Tryz.prog 5 [.pv (roL 16 cLck l), .pv (.agg (cVw v)), .pv (roL 1 cstr b)] [] (.pv (vbool true)) [] := by
  have hl2 : l.length ≤ 1048576 := hl
  have hb2 : b.length ≤ 1048576 := hb
  refine AC.of_awp (T := T) T_ok hm Tryz.call5 Tryz.func5 rfl rfl rfl ?_
  conv => whnf
  repeat (any_goals (first
    | (refine ⟨fun (h : (_ : Bool) = true) => ?_, fun (h : (_ : Bool) = false) => ?_⟩ <;> (try simp only [decide_eq_true_eq, decide_eq_false_iff_not, Bool.not_eq_true', Bool.not_eq_false', Int.toNat_natCast, beq_iff_eq, decide_eq_decide, beq_eq_false_iff_ne, ne_eq, reduceCtorEq] at h) <;> (conv => whnf))
    | (refine .inl ⟨_, ac_law45_few l hl, ?_⟩; conv => whnf)
    | (refine .inl ⟨_, ac_law45_view v hv, ?_⟩; conv => whnf)
    | (refine .inl ⟨_, ac_law45_awake, ?_⟩; conv => whnf)
    | (refine And.intro (by (try simp only [Int.toNat_natCast]); omega) ?_; conv => whnf)
    | (refine And.intro (show (_ : Bool) = true from by kernel_rfl) ?_; conv => whnf)
    | (refine .inl ⟨wrap64 (by omega), ?_⟩; conv => whnf)))
  all_goals try (exact PSub.rfl)
  have hfew : fewB l = true := by assumption
  have hgood := few_good hl hfew
  refine loop_k (ι := Nat) [0, 2, 4, 33, 34] [4] (fun k => k ≤ l.length ∧ distL l k) (fun k => l.length - k) 0 (fun k => [(35, .pv (vint k))]) (fun _ => []) [] ⟨Nat.zero_le _, fun j hj => absurd hj (by omega)⟩ ?_ (fun k hk => ?_)
  · (repeat' (first | exact PSub.rfl | exact rfl | exact PSubs.rfl | exact trivial | exact PSub.lit_sb rfl | refine And.intro ?_ ?_))
  obtain ⟨hkn, hinv⟩ := hk
  conv => whnf
  repeat (any_goals (first
    | (refine ⟨fun (h : (_ : Bool) = true) => ?_, fun (h : (_ : Bool) = false) => ?_⟩ <;> (try simp only [decide_eq_true_eq, decide_eq_false_iff_not, Bool.not_eq_true', Bool.not_eq_false', Int.toNat_natCast, beq_iff_eq, decide_eq_decide, beq_eq_false_iff_ne, ne_eq, reduceCtorEq] at h) <;> (conv => whnf))
    | (refine And.intro (by (try simp only [Int.toNat_natCast]); omega) ?_; conv => whnf)
    | (refine And.intro (show (_ : Bool) = true from by kernel_rfl) ?_; conv => whnf)
    | (refine .inl ⟨wrap64 (by omega), ?_⟩; conv => whnf)))
  · have hk : k < l.length := by omega
    refine loop_k (ι := Nat) [0, 2, 4, 8, 33, 34, 35, 42, 43] [4, 8] (fun q => q ≤ k ∧ ∀ i, i < q → (l.getD i default).name ≠ (l.getD k default).name) (fun q => k - q) 0 (fun q => [(44, .pv (vint q))]) (fun _ => []) [] ⟨Nat.zero_le _, fun i hi => absurd hi (by omega)⟩ ?_ (fun q hq => ?_)
    · (repeat' (first | exact PSub.rfl | exact rfl | exact PSubs.rfl | exact trivial | exact PSub.lit_sb rfl | refine And.intro ?_ ?_))
    obtain ⟨hqk, hqi⟩ := hq
    conv => whnf
    repeat (any_goals (first
      | (refine ⟨fun (h : (_ : Bool) = true) => ?_, fun (h : (_ : Bool) = false) => ?_⟩ <;> (try simp only [decide_eq_true_eq, decide_eq_false_iff_not, Bool.not_eq_true', Bool.not_eq_false', Int.toNat_natCast, beq_iff_eq, decide_eq_decide, beq_eq_false_iff_ne, ne_eq, reduceCtorEq] at h) <;> (conv => whnf))
      | (refine .inl ⟨_, ac_law45_awake, ?_⟩; conv => whnf)
      | (refine And.intro (by (try simp only [Int.toNat_natCast]); omega) ?_; conv => whnf)
      | (refine And.intro (show (_ : Bool) = true from by kernel_rfl) ?_; conv => whnf)
      | (refine .inl ⟨wrap64 (by omega), ?_⟩; conv => whnf)))
    · exact PSub.rfl
    · refine ⟨q + 1, [], ⟨by omega, fun i hi => ?_⟩, by omega, ?_⟩
      · by_cases e : i = q
        · subst e; exact h
        · exact hqi i (by omega)
      · (repeat' (first | exact PSub.rfl | exact rfl | exact PSubs.rfl | exact trivial | exact PSub.lit_sb rfl | refine And.intro ?_ ?_))
    · have hqk2 : q = k := by omega
      refine ⟨k + 1, [], ⟨by omega, ?_⟩, by first | omega | (dsimp only; omega), ?_⟩
      rotate_left
      · (repeat' (first | exact PSub.rfl | exact rfl | exact PSubs.rfl | exact trivial | exact PSub.lit_sb rfl | refine And.intro ?_ ?_))
      intro j hj i hij
      by_cases e : j = k
      · subst e; exact hqi i (by omega)
      · exact hinv j (by omega) i hij
  · have hkl : k = l.length := by omega
    subst hkl
    repeat (any_goals (first
      | (refine ⟨fun (h : (_ : Bool) = true) => ?_, fun (h : (_ : Bool) = false) => ?_⟩ <;> (try simp only [decide_eq_true_eq, decide_eq_false_iff_not, Bool.not_eq_true', Bool.not_eq_false', Int.toNat_natCast, beq_iff_eq, decide_eq_decide, beq_eq_false_iff_ne, ne_eq, reduceCtorEq] at h) <;> (conv => whnf))
      | (refine .inl ⟨_, ac_interlock_Active l v b hgood hv hb, ?_⟩; conv => whnf)
      | (refine And.intro (by (try simp only [Int.toNat_natCast]); omega) ?_; conv => whnf)
      | (refine And.intro (show (_ : Bool) = true from by kernel_rfl) ?_; conv => whnf)
      | (refine .inl ⟨wrap64 (by omega), ?_⟩; conv => whnf)))
    have hdist := hinv
    refine loop_k (ι := Nat) [2, 4, 11, 60, 61] [4] (fun q => q ≤ l.length ∧ True) (fun q => l.length - q) 0 (fun q => [(12, .pv (vint (cntL l v b q))), (62, .pv (vint q))]) (fun q => []) [] ⟨Nat.zero_le _, trivial⟩ ?_ (fun q hk => ?_)
    · (repeat' (first | exact PSub.rfl | exact rfl | exact PSubs.rfl | exact trivial | exact PSub.lit_sb rfl | refine And.intro ?_ ?_)); all_goals (skip)
    obtain ⟨hkn, hinv⟩ := hk
    conv => whnf
    have hcl := cntL_le (l := l) (v := v) (b := b) (k := q)
    have hal := actL_small (v := v) (b := b) hl
    have hal2 : (actL l v b).length ≤ 1048576 := hal
    have hac := actL_length l v b
    obtain ⟨W, hW⟩ : ∃ W : Bool, W = actB v b (l.getD q default) := ⟨_, rfl⟩
    have hS : q < l.length → cntL l v b (q + 1) = cntL l v b q + (if W = true then 1 else 0) := fun hq => by rw [hW]; exact cntL_succ hq
    have hA : q < l.length → decide (0 ≤ idxOf (actL l v b) (l.getD q default).name) = W := fun hq => by rw [hW]; exact mem_act_dist hdist hq
    have hW1 : W = ((evlE v (l.getD q default).cond).2 && (decide ((evlE v (l.getD q default).cond).1.kind = 1) && (decide ((evlE v (l.getD q default).cond).1.n = 1) && (decide ((evlE v (l.getD q default).cond).1.s = ⟨#[]⟩) && true))) || decide (0 ≤ idxOf b (l.getD q default).name) && ((l.getD q default).latch || !(evlE v (l.getD q default).cond).2)) := by
      have hv1 := val_eq (evlE v (l.getD q default).cond).1 (truV true)
      rw [hW, actB_want, ← hv1]
      rfl
    clear hW
    repeat (any_goals (first
      | (refine ⟨fun (h : (_ : Bool) = true) => ?_, fun (h : (_ : Bool) = false) => ?_⟩ <;> (try simp only [decide_eq_true_eq, decide_eq_false_iff_not, Bool.not_eq_true', Bool.not_eq_false', Int.toNat_natCast, beq_iff_eq, decide_eq_decide, beq_eq_false_iff_ne, ne_eq, reduceCtorEq] at h) <;> (conv => whnf))
      | (refine .inl ⟨_, ac_eval_Eval v (l.getD q default).cond hv, ?_⟩; conv => whnf)
      | (refine .inl ⟨_, ac_r04_Index b (l.getD q default).name hb2, ?_⟩; conv => whnf)
      | (refine .inl ⟨_, ac_r04_Index (actL l v b) (l.getD q default).name hal2, ?_⟩; conv => whnf)
      | (refine .inl ⟨_, ac_law45_awake, ?_⟩; conv => whnf)
      | (refine And.intro (by (try simp only [Int.toNat_natCast]); omega) ?_; conv => whnf)
      | (refine And.intro (show (_ : Bool) = true from by kernel_rfl) ?_; conv => whnf)
      | (refine .inl ⟨wrap64 (by omega), ?_⟩; conv => whnf)))
    all_goals (try (exact PSub.rfl))
    rotate_right
    · exfalso
      have h1 := actL_count hdist v b
      have h2 : q = l.length := by omega
      rw [h2] at h
      exact h (by rw [h1])
    all_goals clear hl hv hb hfew hgood hdist hal hcl
    all_goals (try (have hq : q < l.length := by omega))
    all_goals (try (have hS := hS hq))
    all_goals (try (have hA := hA hq))
    all_goals (try generalize (decide ((evlE v (l.getD q default).cond).1.kind = 1) && (decide ((evlE v (l.getD q default).cond).1.n = 1) && (decide ((evlE v (l.getD q default).cond).1.s = ⟨#[]⟩) && true))) = C at *)
    all_goals (try generalize (evlE v (l.getD q default).cond).2 = K at *)
    all_goals (try generalize (l.getD q default).latch = L at *)
    all_goals (cases K <;> cases C <;> cases L <;> (try contradiction))
    all_goals (rcases Classical.em (0 ≤ idxOf b (l.getD q default).name) with hi | hi <;> (try (exfalso; omega)))
    all_goals first
      | (have hWt : W = true := by (rw [hW1]; first | rfl | (rw [decide_eq_true hi]; rfl) | (rw [decide_eq_false hi]; rfl))
         first
           | (exfalso; clear hS hW1; simp [-List.getD_eq_getElem?_getD, hA, hWt] at *; done)
           | (refine ⟨q + 1, [], ⟨by omega, trivial⟩, by omega, ?_⟩
              rw [hS, hWt, if_pos rfl]
              (repeat' (first | exact PSub.rfl | exact rfl | exact PSubs.rfl | exact trivial | exact PSub.lit_sb rfl | refine And.intro ?_ ?_))
             ))
      | (have hWf : W = false := by (rw [hW1]; first | rfl | (rw [decide_eq_true hi]; rfl) | (rw [decide_eq_false hi]; rfl))
         first
           | (exfalso; clear hS hW1; simp [-List.getD_eq_getElem?_getD, hA, hWf] at *; done)
           | (refine ⟨q + 1, [], ⟨by omega, trivial⟩, by omega, ?_⟩
              rw [hS, hWf, if_neg (by decide), Nat.add_zero]
              (repeat' (first | exact PSub.rfl | exact rfl | exact PSubs.rfl | exact trivial | exact PSub.lit_sb rfl | refine And.intro ?_ ?_))
             ))
      | skip
    all_goals trace_state
end Go.Abs
