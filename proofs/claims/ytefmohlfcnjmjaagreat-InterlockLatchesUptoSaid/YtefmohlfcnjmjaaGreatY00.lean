/- YtefmohlfcnjmjaaGreatY00: walks and contracts. -/
import Derived.Test.YtefmohlfcnjmjaaGreatX07
import Derived.Shelf.SlSortCmp.Insertion

set_option linter.unusedVariables false
set_option linter.unusedSimpArgs false
set_option linter.unusedSectionVars false

namespace Go.Abs
open Go.RowKit
theorem cells_int {P : Program} {w : World} {r : Reach} {base : Nat} {t : TypeId} {k : IntKind} {v : Value} (ht : P.underlying t = some (.int k)) (h : Value.okWide P w r base t v) : v.cells.toList = [v] := by
  cases v <;> first | rfl | simp [Value.okWide, ht, Cell.okWide, Cell.ok] at h
end Go.Abs

namespace Go.Abs
open Go.Proofs
set_option maxRecDepth 10000
def keyLess (a b : Key) : Bool := if a.dev ≠ b.dev then decide (a.dev < b.dev) else if a.cluster ≠ b.cluster then Op.bytesLess a.cluster.toList b.cluster.toList else Op.bytesLess a.attr.toList b.attr.toList
end Go.Abs

namespace Go.Abs
open Go.Proofs
set_option maxRecDepth 10000
theorem keyLess_def (a b : Key) : keyLess a b = if a.dev ≠ b.dev then decide (a.dev < b.dev) else if a.cluster ≠ b.cluster then sLt a.cluster b.cluster else sLt a.attr b.attr := rfl
theorem keyLess_irrefl (a : Key) : keyLess a a = false := by
  rw [keyLess_def]; simp [sLt_irrefl]
end Go.Abs

namespace Go.Abs
def Asc (l : List Key) : Prop := l.Pairwise fun a b => keyLess a b = true
theorem Asc.nodup {l : List Key} (h : Asc l) : l.Nodup := by
  refine List.Pairwise.imp (fun {a b} hab => ?_) h
  intro e; subst e; rw [keyLess_irrefl] at hab; cases hab
end Go.Abs

namespace Go.Abs
theorem AscS.nodup {l : List ByteArray} (h : AscS l) : l.Nodup := by
  refine List.Pairwise.imp (fun {a b} hab => ?_) h
  intro e; subst e; rw [sLt_irrefl] at hab; cases hab
theorem putS_length (l : List ByteArray) (k : ByteArray) : (putS l k).length ≤ l.length + 1 := by
  induction l with
  | nil => simp [putS]
  | cons y r ih =>
    unfold putS
    split
    · simp only [List.length_cons]; omega
    · simp only [List.length_cons]
      have := List.length_filter_le (fun z => decide (z ≠ k)) (y :: r)
      simp only [List.length_cons] at this
      omega
theorem foldl_putS_length {l acc : List ByteArray} : (l.foldl putS acc).length ≤ acc.length + l.length := by
  induction l generalizing acc with
  | nil => simp
  | cons y r ih =>
    have h1 := ih (acc := putS acc y)
    have h2 := putS_length acc y
    simp only [List.foldl_cons, List.length_cons]; omega
theorem sortS_length (l : List ByteArray) : (sortS l).length ≤ l.length := by
  have := foldl_putS_length (l := l) (acc := [])
  simpa [sortS] using this
theorem memS_false {l : List ByteArray} {x : ByteArray} : memS l x = false ↔ x ∉ l := by rw [← Bool.not_eq_true, memS_iff]
end Go.Abs

namespace Go.Abs
variable [Globals]
theorem mem_actL {l : List Lck} {v : Vw} {before : List ByteArray} {n : ByteArray} : n ∈ actL l v before ↔ actN l v before n = true := by
  unfold actL
  rw [mem_sortS, List.mem_filter]
  refine ⟨fun h => h.2, fun h => ⟨?_, h⟩⟩
  unfold actN at h
  cases hf : fstL l n with
  | none => rw [hf] at h; cases h
  | some x => exact fstL_isSome.1 (by rw [hf]; rfl)
end Go.Abs

namespace Go.Abs
open Go.Proofs Go.RowKit
set_option maxRecDepth 10000
section
variable {H : Type} {enc : TypeId × Value → H} {w : World} {bulk : DataW H → Nat}
theorem op_Span (hB : BulkOk bulk) : Opens enc Tryz.prog w bulk BB 248 cSpn (fun _ => True) :=
  (Opens.struct hB Tryz.underlying248 (by kernel_rfl) (.cons (size := 1) rfl (by kernel_rfl) op_int (.cons (size := 1) rfl (by kernel_rfl) op_int .nil))).imp (fun x => ⟨x.1, x.2.1⟩) (fun _ => rfl) (fun _ _ => trivial)
theorem op_l_Span (hB : BulkOk bulk) : Opens enc Tryz.prog w bulk BB 155 (fun l : List Spn => [roL 2 cSpn l]) smallL :=
  (Opens.slice hB Tryz.underlying155 (by kernel_rfl) (by decide) (op_Span hB)).imp id (fun _ => rfl) (fun _ h => h.1)
theorem op_Member (hB : BulkOk bulk) : Opens enc Tryz.prog w bulk BB 157 cMem (fun _ => True) :=
  (Opens.struct hB Tryz.underlying157 (by kernel_rfl) (.cons (size := 1) rfl (by kernel_rfl) (op_string hB) (.cons (size := 1) rfl (by kernel_rfl) op_int (.cons (size := 1) rfl (by kernel_rfl) (op_l_Span hB) (.cons (size := 1) rfl (by kernel_rfl) (op_l_string hB) (.cons (size := 1) rfl (by kernel_rfl) op_bool .nil)))))).imp
    (fun x => ⟨x.1, x.2.1, x.2.2.1, x.2.2.2.1, x.2.2.2.2.1⟩) (fun _ => rfl) (fun _ _ => trivial)
theorem op_l_Member (hB : BulkOk bulk) : Opens enc Tryz.prog w bulk BB 48 (fun l : List Mem => [roL 5 cMem l]) smallL :=
  (Opens.slice hB Tryz.underlying48 (by kernel_rfl) (by decide) (op_Member hB)).imp id (fun _ => rfl) (fun _ h => h.1)
theorem op_View (hB : BulkOk bulk) : Opens enc Tryz.prog w bulk BB 50 cVw smallV2 :=
  (Opens.struct hB Tryz.underlying50 (by kernel_rfl) (.cons (size := 1) rfl (by kernel_rfl) (op_l_Item hB) (.cons (size := 1) rfl (by kernel_rfl) (op_string hB) (.cons (size := 1) rfl (by kernel_rfl) op_int (.cons (size := 1) rfl (by kernel_rfl) (op_l_Member hB) .nil))))).imp
    (fun x => ⟨x.1, x.2.1, x.2.2.1, x.2.2.2.1⟩) (fun _ => rfl) (fun _ h => ⟨h.1.1, h.2.2.2.1⟩)
end
end Go.Abs

namespace Go.Abs
open Go.Proofs
set_option maxRecDepth 10000
def viewB (v : Vw) : Bool := decide (v.items.length ≤ 60) && decide (v.members.length ≤ 20)
theorem ac_law45_view (v : Vw) (hv : smallV2 v) : AC Tryz.prog 16 [.pv (.agg (cVw v))] [] (.pv (vbool (viewB v))) [] := by
  have h1 : v.items.length ≤ 1048576 := hv.1
  have h2 : v.members.length ≤ 1048576 := hv.2
  refine AC.of_awp (T := T) T_ok hm Tryz.call16 Tryz.func16 rfl rfl rfl ?_
  conv => whnf
  repeat (any_goals (first
    | (refine ⟨fun (h : (_ : Bool) = true) => ?_, fun (h : (_ : Bool) = false) => ?_⟩ <;> (try simp only [decide_eq_true_eq, decide_eq_false_iff_not, Bool.not_eq_true', Bool.not_eq_false', Int.toNat_natCast, beq_iff_eq, decide_eq_decide, beq_eq_false_iff_ne, ne_eq, reduceCtorEq] at h) <;> (conv => whnf))
    | (refine And.intro (by (try simp only [Int.toNat_natCast]); omega) ?_; conv => whnf)
    | (refine And.intro (show (_ : Bool) = true from by kernel_rfl) ?_; conv => whnf)
    | (refine .inl ⟨wrap64 (by omega), ?_⟩; conv => whnf)))
  · exact PSub.sb (by unfold viewB; rw [decide_eq_true (show v.items.length ≤ 60 by omega), Bool.true_and, decide_eq_decide]; omega)
  · exact PSub.lit_sb (by unfold viewB; rw [decide_eq_false (show ¬ v.items.length ≤ 60 by omega)]; rfl)
end Go.Abs

namespace Go.Abs
open Go.Proofs
set_option maxRecDepth 10000
theorem actL_length (l : List Lck) (v : Vw) (b : List ByteArray) : (actL l v b).length ≤ l.length := by
  unfold actL
  exact Nat.le_trans (sortS_length _) (Nat.le_trans (List.length_filter_le _ _) (by simp))
theorem actL_small {l : List Lck} {v : Vw} {b : List ByteArray} (hl : smallL l) : smallL (actL l v b) := Nat.le_trans (actL_length l v b) hl
theorem resetL_small {l : List Lck} {v : Vw} {a : List ByteArray} {n : ByteArray} (ha : smallL a) : smallL (resetL l v a n) := by
  unfold resetL restL
  split
  · exact Nat.le_trans (sortS_length _) (Nat.le_trans (List.length_filter_le _ _) ha)
  · exact sl rfl
end Go.Abs

namespace Go.Abs
open Go.Proofs
set_option maxRecDepth 10000
theorem fstL_first {l : List Lck} {p : Nat} (hp : p < l.length) (h : ∀ i, i < p → (l.getD i default).name ≠ (l.getD p default).name) : fstL l (l.getD p default).name = some (l.getD p default) := by
  have hg : l.getD p default = l[p] := by simp [List.getD, hp]
  unfold fstL
  rw [List.find?_eq_some_iff_getElem]
  refine ⟨by simp, p, hp, hg.symm, fun j hj => ?_⟩
  have hgj : l.getD j default = l[j] := by simp [List.getD, show j < l.length by omega]
  have := h j hj
  rw [hgj] at this
  simpa using this
theorem actN_first {l : List Lck} {v : Vw} {b : List ByteArray} {p : Nat} (hp : p < l.length) (h : ∀ i, i < p → (l.getD i default).name ≠ (l.getD p default).name) : actN l v b (l.getD p default).name = actB v b (l.getD p default) := by
  unfold actN
  rw [fstL_first hp h]
theorem filter_ne_length {n : ByteArray} : ∀ {m : List ByteArray}, m.Nodup → n ∈ m → (m.filter fun x => decide (x ≠ n)).length + 1 = m.length
  | x :: m, hd, hn => by
    rw [List.nodup_cons] at hd
    by_cases e : x = n
    · subst e
      have h1 : m.filter (fun y => decide (y ≠ x)) = m := List.filter_eq_self.2 fun y hy => decide_eq_true fun h => hd.1 (by have h3 : y = x := h; rw [← h3]; exact hy)
      rw [List.filter_cons, if_neg (by simp), h1, List.length_cons]
    · have hm : n ∈ m := by
        rcases List.mem_cons.1 hn with h | h
        · exact absurd h.symm e
        · exact h
      rw [List.filter_cons, if_pos (decide_eq_true e), List.length_cons, List.length_cons, filter_ne_length hd.2 hm]
theorem rest_count {l : List Lck} {v : Vw} {a : List ByteArray} {n : ByteArray} (hn : n ∈ actL l v a) : (restL l (actL l v a) n).length + 1 = (actL l v a).length := by
  have hnd : (actL l v a).Nodup := (ascS_sortS _).nodup
  have hf : (actL l v a).filter (fun m => decide (m ≠ n) && (fstL l m).isSome) = (actL l v a).filter fun m => decide (m ≠ n) := by
    refine List.filter_congr fun m hm => ?_
    have h1 := mem_actL.1 hm
    have h2 : (fstL l m).isSome = true := by
      unfold actN at h1
      cases hq : fstL l m with
      | none => rw [hq] at h1; cases h1
      | some x => rfl
    rw [h2, Bool.and_true]
  unfold restL
  rw [hf, ← sortedS_asc (hnd.filter _), sortedS_length]
  exact filter_ne_length hnd hn
theorem mem_restL {l : List Lck} {a : List ByteArray} {n : ByteArray} : n ∉ restL l a n := by
  unfold restL
  rw [mem_sortS, List.mem_filter]
  simp
theorem actB_of_latch {v : Vw} {b : List ByteArray} {x : Lck} (h : memS b x.name = true) (hl : x.latch = true) : actB v b x = true := by
  unfold actB
  rw [h, hl, Bool.true_or, Bool.true_and, Bool.or_true]
set_option maxHeartbeats 2000000 in
theorem ac_law45_InterlockLatches (l : List Lck) (v w : Vw) (a : Int) (hl : smallL l) (hv : smallV2 v) (hw : smallV2 w) (ha : inI64 a) : AC Tryz.prog 6 [.pv (roL 16 cLck l), .pv (.agg (cVw v)), .pv (.agg (cVw w)), .pv (vint a)] [] (.pv (vbool true)) [] := by
  have hl2 : l.length ≤ 1048576 := hl
  refine AC.of_awp (T := T) T_ok hm Tryz.call6 Tryz.func6 rfl rfl rfl ?_
  conv => whnf
  repeat (any_goals (first
    | (refine ⟨fun (h : (_ : Bool) = true) => ?_, fun (h : (_ : Bool) = false) => ?_⟩ <;> (try simp only [decide_eq_true_eq, decide_eq_false_iff_not, Bool.not_eq_true', Bool.not_eq_false', Int.toNat_natCast, beq_iff_eq, decide_eq_decide, beq_eq_false_iff_ne, ne_eq, reduceCtorEq] at h) <;> (conv => whnf))
    | (refine .inl ⟨_, ac_law45_few l hl, ?_⟩; conv => whnf)
    | (refine .inl ⟨_, ac_law45_view v hv, ?_⟩; conv => whnf)
    | (refine .inl ⟨_, ac_law45_view w hw, ?_⟩; conv => whnf)
    | (refine .inl ⟨_, ac_law45_awake, ?_⟩; conv => whnf)
    | (refine And.intro (by (try simp only [Int.toNat_natCast]); omega) ?_; conv => whnf)
    | (refine And.intro (show (_ : Bool) = true from by kernel_rfl) ?_; conv => whnf)
    | (refine .inl ⟨wrap64 (by omega), ?_⟩; conv => whnf)))
  all_goals try (exact PSub.rfl)
  obtain ⟨p, rfl⟩ : ∃ p : Nat, a = p := ⟨a.toNat, by omega⟩
  have hp : p < l.length := by omega
  have hfew : fewB l = true := by assumption
  have hgood := few_good hl hfew
  have hlat : (l.getD p default).latch = true := by assumption
  refine loop_k (ι := Nat) [0, 3, 5, 6, 51, 52] [5, 6] (fun q => q ≤ p ∧ ∀ i, i < q → (l.getD i default).name ≠ (l.getD p default).name) (fun q => p - q) 0 (fun q => [(53, .pv (vint q))]) (fun _ => []) [] ⟨Nat.zero_le _, fun i hi => absurd hi (by omega)⟩ ?_ (fun q hq => ?_)
  · (repeat' (first | exact PSub.rfl | exact rfl | exact PSubs.rfl | exact trivial | exact PSub.lit_sb rfl | refine And.intro ?_ ?_))
  obtain ⟨hqk, hqi⟩ := hq
  conv => whnf
  repeat (any_goals (first
    | (refine ⟨fun (h : (_ : Bool) = true) => ?_, fun (h : (_ : Bool) = false) => ?_⟩ <;> (try simp only [decide_eq_true_eq, decide_eq_false_iff_not, Bool.not_eq_true', Bool.not_eq_false', Int.toNat_natCast, beq_iff_eq, decide_eq_decide, beq_eq_false_iff_ne, ne_eq, reduceCtorEq] at h) <;> (conv => whnf))
    | (refine .inl ⟨_, ac_law45_awake, ?_⟩; conv => whnf)
    | (refine And.intro (by (try simp only [Int.toNat_natCast]); omega) ?_; conv => whnf)
    | (refine And.intro (show (_ : Bool) = true from by kernel_rfl) ?_; conv => whnf)
    | (refine .inl ⟨wrap64 (by omega), ?_⟩; conv => whnf)))
  · exact PSub.rfl
  · refine ⟨q + 1, [], ⟨by omega, fun i hi => ?_⟩, by omega, ?_⟩
    · by_cases e : i = q
      · subst e; exact h
      · exact hqi i (by omega)
    · (repeat' (first | exact PSub.rfl | exact rfl | exact PSubs.rfl | exact trivial | exact PSub.lit_sb rfl | refine And.intro ?_ ?_))
  have hqp : q = p := by omega
  subst hqp
  have hA := fun (u : Vw) (b : List ByteArray) => actN_first (v := u) (b := b) hp hqi
  have hF := fstL_first hp hqi
  have s1 := actL_small (v := v) (b := []) hl
  have s2 := actL_small (v := w) (b := actL l v []) hl
  have s3 := resetL_small (l := l) (v := w) (n := (l.getD q default).name) s2
  have s4 := actL_small (v := w) (b := resetL l w (actL l w (actL l v [])) (l.getD q default).name) hl
  have l2 := actL_length l w (actL l v [])
  repeat (any_goals (first
    | (refine ⟨fun (h : (_ : Bool) = true) => ?_, fun (h : (_ : Bool) = false) => ?_⟩ <;> (try simp only [decide_eq_true_eq, decide_eq_false_iff_not, Bool.not_eq_true', Bool.not_eq_false', Int.toNat_natCast, beq_iff_eq, decide_eq_decide, beq_eq_false_iff_ne, ne_eq, reduceCtorEq] at h) <;> (conv => whnf))
    | (refine .inl ⟨_, AC.sub3 (ac_interlock_Active l v [] hgood hv (sl rfl)) .rfl .rfl (PSub.nilL rfl), ?_⟩; conv => whnf)
    | (refine .inl ⟨_, ac_r04_Index (actL l v []) (l.getD q default).name s1, ?_⟩; conv => whnf)
    | (refine .inl ⟨_, ac_interlock_Active l w (actL l v []) hgood hw s1, ?_⟩; conv => whnf)
    | (refine .inl ⟨_, ac_r04_Index (actL l w (actL l v [])) (l.getD q default).name s2, ?_⟩; conv => whnf)
    | (refine .inl ⟨_, ac_law45_awake, ?_⟩; conv => whnf)
    | (refine And.intro (by (try simp only [Int.toNat_natCast]); omega) ?_; conv => whnf)
    | (refine And.intro (show (_ : Bool) = true from by kernel_rfl) ?_; conv => whnf)
    | (refine .inl ⟨wrap64 (by omega), ?_⟩; conv => whnf)))
  · exact PSub.rfl
  · rename_i g1
    have hm1 : (l.getD q default).name ∈ actL l v [] := idxOf_in.1 (by omega)
    have : (l.getD q default).name ∈ actL l w (actL l v []) := by
      rw [mem_actL, hA, actB_of_latch (memS_iff.2 hm1) hlat]
    have := idxOf_in.2 this
    omega
  rename_i g1
  have hm1 : (l.getD q default).name ∈ actL l v [] := idxOf_in.1 (by omega)
  have hm2 : (l.getD q default).name ∈ actL l w (actL l v []) := idxOf_in.1 (by omega)
  have hrc := rest_count hm2
  have hv1 : (decide ((evlE w (l.getD q default).cond).1.kind = 1) && (decide ((evlE w (l.getD q default).cond).1.n = 1) && (decide ((evlE w (l.getD q default).cond).1.s = ⟨#[]⟩) && true))) = decide ((evlE w (l.getD q default).cond).1 = truV true) := by
    have := val_eq (evlE w (l.getD q default).cond).1 (truV true)
    exact this
  have hr1 : (evlE w (l.getD q default).cond).2 = true → (decide ((evlE w (l.getD q default).cond).1.kind = 1) && (decide ((evlE w (l.getD q default).cond).1.n = 1) && (decide ((evlE w (l.getD q default).cond).1.s = ⟨#[]⟩) && true))) = false →
      resetE l w (actL l w (actL l v [])) (l.getD q default).name = 0 ∧ idxOf (resetL l w (actL l w (actL l v [])) (l.getD q default).name) (l.getD q default).name < 0 ∧ (resetL l w (actL l w (actL l v [])) (l.getD q default).name).length + 1 = (actL l w (actL l v [])).length ∧
      idxOf (actL l w (resetL l w (actL l w (actL l v [])) (l.getD q default).name)) (l.getD q default).name < 0 := fun hK hC => by
    rw [hv1, decide_eq_false_iff_not] at hC
    have h0 : resetE l w (actL l w (actL l v [])) (l.getD q default).name = 0 := by
      unfold resetE
      rw [hF]
      simp only [memS_iff.2 hm2, hlat, hK, hC, reduceCtorEq, or_self, if_false]
    have h1 : resetL l w (actL l w (actL l v [])) (l.getD q default).name = restL l (actL l w (actL l v [])) (l.getD q default).name := by unfold resetL; rw [if_pos h0]
    rw [h1]
    have h2 : ¬ 0 ≤ idxOf (restL l (actL l w (actL l v [])) (l.getD q default).name) (l.getD q default).name := fun h => mem_restL (idxOf_in.1 h)
    have h3 : ¬ 0 ≤ idxOf (actL l w (restL l (actL l w (actL l v [])) (l.getD q default).name)) (l.getD q default).name := fun h => by
      have h4 := idxOf_in.1 h
      rw [mem_actL, hA] at h4
      unfold actB truE at h4
      rw [memS_false.2 mem_restL, Bool.false_and, Bool.or_false, decide_eq_false hC, Bool.and_false] at h4
      cases h4
    exact ⟨h0, by omega, hrc, by omega⟩
  have hr2 : (evlE w (l.getD q default).cond).2 = false ∨ (decide ((evlE w (l.getD q default).cond).1.kind = 1) && (decide ((evlE w (l.getD q default).cond).1.n = 1) && (decide ((evlE w (l.getD q default).cond).1.s = ⟨#[]⟩) && true))) = true →
      resetE l w (actL l w (actL l v [])) (l.getD q default).name = 15 ∧ (resetL l w (actL l w (actL l v [])) (l.getD q default).name).length = 0 := fun hKC => by
    rw [hv1, decide_eq_true_eq] at hKC
    have h0 : resetE l w (actL l w (actL l v [])) (l.getD q default).name = 15 := by
      unfold resetE
      rw [hF]
      exact if_pos (.inr (.inr hKC))
    refine ⟨h0, ?_⟩
    unfold resetL
    rw [if_neg (by rw [h0]; decide)]; rfl
  clear hv1 hrc hF hA
  generalize hB : actL l w (actL l v []) = B at *
  repeat (any_goals (first
    | (refine ⟨fun (h : (_ : Bool) = true) => ?_, fun (h : (_ : Bool) = false) => ?_⟩ <;> (try simp only [decide_eq_true_eq, decide_eq_false_iff_not, Bool.not_eq_true', Bool.not_eq_false', Int.toNat_natCast, beq_iff_eq, decide_eq_decide, beq_eq_false_iff_ne, ne_eq, reduceCtorEq] at h) <;> (conv => whnf))
    | (refine .inl ⟨_, ac_eval_Eval w (l.getD q default).cond hw, ?_⟩; conv => whnf)
    | (refine .inl ⟨_, ac_interlock_Reset l w B (l.getD q default).name hgood hw s2, ?_⟩; conv => whnf)
    | (refine .inl ⟨_, ac_r04_Index (resetL l w B (l.getD q default).name) (l.getD q default).name s3, ?_⟩; conv => whnf)
    | (refine .inl ⟨_, ac_interlock_Active l w (resetL l w B (l.getD q default).name) hgood hw s3, ?_⟩; conv => whnf)
    | (refine .inl ⟨_, ac_r04_Index (actL l w (resetL l w B (l.getD q default).name)) (l.getD q default).name s4, ?_⟩; conv => whnf)
    | (refine .inl ⟨_, ac_law45_awake, ?_⟩; conv => whnf)
    | (refine And.intro (by (try simp only [Int.toNat_natCast]); omega) ?_; conv => whnf)
    | (refine And.intro (show (_ : Bool) = true from by kernel_rfl) ?_; conv => whnf)
    | (refine .inl ⟨wrap64 (by omega), ?_⟩; conv => whnf)))
  all_goals (try (exact PSub.rfl))
  all_goals clear hl hv hw hfew hgood hlat
  all_goals (try generalize (decide ((evlE w (l.getD q default).cond).1.kind = 1) && (decide ((evlE w (l.getD q default).cond).1.n = 1) && (decide ((evlE w (l.getD q default).cond).1.s = ⟨#[]⟩) && true))) = C at *)
  all_goals (try generalize (evlE w (l.getD q default).cond).2 = K at *)
  all_goals (cases K <;> cases C <;> (try contradiction))
  all_goals first
    | (exfalso; have h9 := hr1 rfl rfl; omega)
    | (exfalso; have h9 := hr2 (.inl rfl); omega)
    | (exfalso; have h9 := hr2 (.inr rfl); omega)
    | skip
  all_goals trace_state
end Go.Abs
