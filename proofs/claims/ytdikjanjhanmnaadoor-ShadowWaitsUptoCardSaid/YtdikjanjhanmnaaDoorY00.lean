/- YtdikjanjhanmnaaDoorY00: walks and contracts. -/
import Derived.Test.YtdikjanjhanmnaaDoorX07

set_option linter.unusedVariables false
set_option linter.unusedSimpArgs false
set_option linter.unusedSectionVars false

namespace Go.Abs
open Go.Proofs
set_option maxRecDepth 10000
theorem ac_r22_index (l : List Item) (k : Key) (hl : smallL l) : AC Tryd.prog 30 [.pv (roL 7 cItem l), .pv (.agg (cKey k))] [] (.pv (vint (ixI l.length (itemAt l k)))) [] := by
  have hl : l.length ≤ 1048576 := hl
  have hk (x : Item) : (decide (x.key.dev = k.dev) && (decide (x.key.cluster = k.cluster) && (decide (x.key.attr = k.attr) && true))) = decide (x.key = k) := by
    obtain ⟨⟨a, b, c⟩, v, n⟩ := x
    obtain ⟨d, e, f⟩ := k
    rw [Bool.eq_iff_iff]; simp
  refine AC.of_awp (T := T) T_ok hm Tryd.call30 Tryd.func30 rfl rfl rfl ?_
  conv => whnf
  refine loop_k (ι := Nat) [0, 3] [3] (fun i => i ≤ l.length ∧ (∀ j, j < i → decide ((l.getD j default).key = k) = false)) (fun i => l.length - i) 0 (fun i => [(5, .pv (vint i))]) (fun _ => []) [] ⟨Nat.zero_le _, fun j h => absurd h (by omega)⟩ ?_ (fun i hk => ?_)
  · (repeat' (first | exact PSub.rfl | exact rfl | exact PSubs.rfl | exact trivial | exact PSub.lit_sb rfl | refine And.intro ?_ ?_))
  obtain ⟨hkn, hinv⟩ := hk
  conv => whnf
  repeat (any_goals (first
    | (refine ⟨fun (h : (_ : Bool) = true) => ?_, fun (h : (_ : Bool) = false) => ?_⟩ <;> (try simp only [decide_eq_true_eq, decide_eq_false_iff_not, Bool.not_eq_true', Bool.not_eq_false', Int.toNat_natCast, beq_iff_eq, decide_eq_decide, beq_eq_false_iff_ne, ne_eq, reduceCtorEq] at h) <;> (conv => whnf))
    | (refine And.intro (by (try simp only [Int.toNat_natCast]); omega) ?_; conv => whnf)
    | (refine And.intro (show (_ : Bool) = true from by kernel_rfl) ?_; conv => whnf)
    | (refine .inl ⟨wrap64 (by omega), ?_⟩; conv => whnf)))
  · rw [hk] at h
    have e : itemAt l k = i := firstI_at (by omega) h hinv
    exact PSub.int (by rw [e, ixI, if_pos (by omega)])
  · rw [hk] at h
    refine ⟨i + 1, [], ⟨by omega, ?_⟩, by first | omega | (dsimp only; omega), ?_⟩
    rotate_left
    · (repeat' (first | exact PSub.rfl | exact rfl | exact PSubs.rfl | exact trivial | exact PSub.lit_sb rfl | refine And.intro ?_ ?_))
    intro j hj
    by_cases e : j = i
    · subst e; first | exact h | simpa [-List.getD_eq_getElem?_getD] using h | simp_all [-List.getD_eq_getElem?_getD]
    · exact hinv j (by omega)
  · have e : itemAt l k = l.length := firstI_none fun j hj => hinv j (by omega)
    exact PSub.int (by rw [e, ixI, if_neg (by omega)])
theorem ac_r22_Get (l : List Item) (k : Key) (hl : smallL l) : AC Tryd.prog 13 [.pv (roL 7 cItem l), .pv (.agg (cKey k))] [] (.pv (.tup [.agg (cItem (getI l k)), vbool (decide (itemAt l k < l.length))])) [] := by
  refine AC.of_awp (T := T) T_ok hm Tryd.call13 Tryd.func13 rfl rfl rfl ?_
  conv => whnf
  refine .inl ⟨_, ac_r22_index l k hl, ?_⟩
  conv => whnf
  unfold ixI
  by_cases hlt : itemAt l k < l.length
  · rw [if_pos hlt]
    repeat (any_goals (first
      | (refine ⟨fun (h : (_ : Bool) = true) => ?_, fun (h : (_ : Bool) = false) => ?_⟩ <;> (try simp only [decide_eq_true_eq, decide_eq_false_iff_not, Bool.not_eq_true', Bool.not_eq_false', Int.toNat_natCast, beq_iff_eq, decide_eq_decide, beq_eq_false_iff_ne, ne_eq, reduceCtorEq] at h) <;> (conv => whnf))
      | (refine And.intro (by (try simp only [Int.toNat_natCast]); omega) ?_; conv => whnf)
      | (refine And.intro (show (_ : Bool) = true from by kernel_rfl) ?_; conv => whnf)
      | (refine .inl ⟨wrap64 (by omega), ?_⟩; conv => whnf)))
    · exfalso; omega
    · refine ⟨?_, ?_⟩ <;> (conv => whnf)
      · exact PSub.of_eq (by rw [getI, if_pos hlt]; rfl)
      · exact PSub.lit_sb (by simp [hlt])
  · rw [if_neg hlt]
    repeat (any_goals (first
      | (refine ⟨fun (h : (_ : Bool) = true) => ?_, fun (h : (_ : Bool) = false) => ?_⟩ <;> (try simp only [decide_eq_true_eq, decide_eq_false_iff_not, Bool.not_eq_true', Bool.not_eq_false', Int.toNat_natCast, beq_iff_eq, decide_eq_decide, beq_eq_false_iff_ne, ne_eq, reduceCtorEq] at h) <;> (conv => whnf))
      | (refine And.intro (by (try simp only [Int.toNat_natCast]); omega) ?_; conv => whnf)
      | (refine And.intro (show (_ : Bool) = true from by kernel_rfl) ?_; conv => whnf)
      | (refine .inl ⟨wrap64 (by omega), ?_⟩; conv => whnf)))
    · refine ⟨?_, ?_⟩ <;> (conv => whnf)
      · exact PSub.of_eq (by rw [getI, if_neg hlt]; rfl)
      · exact PSub.lit_sb (by simp [hlt])
    · exfalso; omega
end Go.Abs

namespace Go.Abs
open Go.Proofs
variable [Globals]
theorem mem_putD {l : List Item} {x y : Item} : y ∈ putD l x ↔ y = x ∨ y ∈ l := by
  unfold putD
  rw [List.mem_append, List.mem_cons]
  have : y ∈ l ↔ y ∈ l.take (seatD l x.key) ∨ y ∈ l.drop (seatD l x.key) := by rw [← List.mem_append, List.take_append_drop]
  rw [this]
  constructor
  · rintro (h | h | h)
    · exact .inr (.inl h)
    · exact .inl h
    · exact .inr (.inr h)
  · rintro (h | h | h)
    · exact .inr (.inl h)
    · exact .inl h
    · exact .inr (.inr h)
theorem mem_dropD {l : List Item} {k : Key} {x : Item} : x ∈ dropD l k ↔ x ∈ l ∧ x.key ≠ k := by
  unfold dropD; rw [List.mem_filter, decide_eq_true_eq]
end Go.Abs

namespace Go.Abs
open Go.Proofs Go.RowKit
set_option maxRecDepth 10000
section
variable {H : Type} {enc : TypeId × Value → H} {w : World} {bulk : DataW H → Nat}
def cSCase (c : SCase) : List PV := cShd c.s ++ cKey c.k ++ cVal c.v
theorem op_law25_Case (hB : BulkOk bulk) : Opens enc Tryd.prog w bulk BB 46 cSCase (fun c => smallSh c.s) :=
  (Opens.struct hB Tryd.underlying46 (by kernel_rfl) (.cons (size := 9) rfl (by kernel_rfl) (op_Shadow hB) (.cons (size := 3) rfl (by kernel_rfl) (op_Key hB) (.cons (size := 3) rfl (by kernel_rfl) (op_Value hB) .nil)))).imp (fun x => ⟨x.1, x.2.1, x.2.2.1⟩) (fun _ => rfl) (fun _ h => h.1)
end
end Go.Abs

namespace Go.Abs
open Go.Proofs
set_option maxRecDepth 10000
theorem penL_length (s : Shd) : (penL s).length ≤ s.desired.length := by
  unfold penL; rw [isortR_length]; exact List.length_filter_le _ _
end Go.Abs

namespace Go.Abs
open Go.Proofs
set_option maxRecDepth 10000
theorem ac_shadow_Drop (s : Shd) (k : Key) (hs : smallSh s) : AC Tryd.prog 16 [.pv (.agg (cShd s)), .pv (.agg (cKey k))] [] (.pv (.agg (cShd (dropS s k)))) [] := by
  refine AC.of_awp (T := T) T_ok hm Tryd.call16 Tryd.func16 rfl rfl rfl ?_
  conv => whnf
  repeat (any_goals (first
    | (refine ⟨fun (h : (_ : Bool) = true) => ?_, fun (h : (_ : Bool) = false) => ?_⟩ <;> (try simp only [decide_eq_true_eq, decide_eq_false_iff_not, Bool.not_eq_true', Bool.not_eq_false', Int.toNat_natCast, beq_iff_eq, decide_eq_decide, beq_eq_false_iff_ne, ne_eq, reduceCtorEq] at h) <;> (conv => whnf))
    | (refine .inr (.inr (.inr (.inr ⟨[], [(0, 700001), (1, 700002)], _, _, _, ac_shadow_twin_m s hs, rfl, ?_⟩))); conv => whnf)
    | (refine .inr (.inr (.inr (.inr ⟨[(900000, 700002)], [(1, 700003)], _, _, _, ac_DeleteFunc_shadow s.desired k hs.2, rfl, ?_⟩))); conv => whnf)
    | (refine And.intro (by (try simp only [Int.toNat_natCast]); omega) ?_; conv => whnf)
    | (refine And.intro (show (_ : Bool) = true from by kernel_rfl) ?_; conv => whnf)
    | (refine .inl ⟨wrap64 (by omega), ?_⟩; conv => whnf)))
  exact .rfl
end Go.Abs

namespace Go.Abs
open Go.Proofs
set_option maxRecDepth 10000
theorem putD_length (l : List Item) (x : Item) : (putD l x).length = l.length + 1 := by
  unfold putD
  simp only [List.length_append, List.length_cons, List.length_take, List.length_drop]; omega
theorem drop_small {s : Shd} {k : Key} (hs : smallSh s) : smallSh (dropS s k) := ⟨hs.1, Nat.le_trans (dropD_length _ _) hs.2⟩
theorem des_length {H : Hom} {s : Shd} {k : Key} {v : Val} : (desS H s k v).reported.length ≤ s.reported.length ∧ (desS H s k v).desired.length ≤ s.desired.length + 1 := by
  unfold desS
  split
  · exact ⟨Nat.zero_le _, Nat.zero_le _⟩
  split
  · exact ⟨Nat.le_refl _, by omega⟩
  · refine ⟨Nat.le_refl _, ?_⟩
    show (putD (dropD s.desired k) _).length ≤ _
    rw [putD_length]
    have := dropD_length s.desired k; omega
theorem mem_insR {α : Type} (lt : α → α → Bool) (l : List α) (x y : α) : y ∈ insR lt l x ↔ y = x ∨ y ∈ l := by
  obtain ⟨p, q, h1, h2, _, _⟩ := insR_split (lt := lt) l x
  rw [h2, h1]
  simp only [List.mem_append, List.mem_cons]
  constructor
  · rintro (h | h | h)
    · exact .inr (.inl h)
    · exact .inl h
    · exact .inr (.inr h)
  · rintro (h | h | h)
    · exact .inr (.inl h)
    · exact .inl h
    · exact .inr (.inr h)
theorem mem_foldR {α : Type} (lt : α → α → Bool) (y : α) : ∀ (l a : List α), y ∈ l.foldl (insR lt) a ↔ y ∈ l ∨ y ∈ a
  | [], a => by simp
  | x :: l, a => by
    rw [List.foldl_cons, mem_foldR lt y l, mem_insR, List.mem_cons]
    constructor
    · rintro (h | h | h)
      · exact .inl (.inr h)
      · exact .inl (.inl h)
      · exact .inr h
    · rintro ((h | h) | h)
      · exact .inr (.inl h)
      · exact .inl h
      · exact .inr (.inr h)
theorem mem_isortR {α : Type} (lt : α → α → Bool) (l : List α) (y : α) : y ∈ isortR lt l ↔ y ∈ l := by
  unfold isortR; rw [mem_foldR]; simp
theorem mem_pen {s : Shd} {x : Item} : x ∈ penL s ↔ x ∈ s.desired ∧ s.done < x.version := by
  unfold penL penF
  rw [mem_isortR, List.mem_filter, decide_eq_true_eq]
theorem itemAt_lt {l : List Item} {x : Item} (h : x ∈ l) : itemAt l x.key < l.length := by
  rcases firstI_cases (n := l.length) (p := fun i => decide ((l.getD i default).key = x.key)) with ⟨h1, _⟩ | ⟨_, h2⟩
  · exact h1
  · exfalso
    obtain ⟨i, hi, e⟩ := List.getElem_of_mem h
    have := h2 i hi
    simp [List.getD, hi, e] at this
theorem itemAt_no {l : List Item} {k : Key} (h : ∀ x ∈ l, x.key ≠ k) : ¬ itemAt l k < l.length := by
  intro h1
  have := itemAt_keyS h1
  refine h _ ?_ this
  simp [List.getD, h1]
theorem getD_mem {l : List Item} {i : Nat} (h : i < l.length) : l.getD i default ∈ l := by simp [List.getD, h]
theorem des_get {H : Hom} {s : Shd} {k : Key} {v : Val} (he : desE H s k v = 0) : itemAt (desS H s k v).desired k < (desS H s k v).desired.length ∧ ((desS H s k v).desired.getD (itemAt (desS H s k v).desired k) default).value = v ∧ (desS H s k v).reported = s.reported := by
  unfold desS
  rw [if_neg (by rw [he]; decide)]
  split
  · rename_i h
    unfold hasD at h
    simp only [Bool.and_eq_true, decide_eq_true_eq] at h
    exact ⟨h.1, h.2, rfl⟩
  · have hx := mem_putD (l := dropD s.desired k) (x := ⟨k, v, wantI s.want⟩) (y := ⟨k, v, wantI s.want⟩)
    have hlt := itemAt_lt (hx.2 (.inl rfl))
    refine ⟨hlt, ?_, rfl⟩
    have hm := getD_mem hlt
    have hk := itemAt_keyS hlt
    rcases mem_putD.1 hm with e | e
    · show ((putD (dropD s.desired k) ⟨k, v, wantI s.want⟩).getD _ default).value = v
      exact (congrArg Item.value e)
    · exact absurd hk (mem_dropD.1 e).2
theorem drop_none {s : Shd} {k : Key} : ¬ itemAt (dropS s k).desired k < (dropS s k).desired.length := itemAt_no fun _ hx => (mem_dropD.1 hx).2
end Go.Abs

namespace Go.Abs
open Go.Proofs
set_option maxRecDepth 10000
theorem ac_law25_ShadowWaits (H : Hom) (s : Shd) (k : Key) (v : Val) (hH : smallH H) (hs : smallSh s) : AC Tryd.prog 5 [.pv (.agg (cHom H)), .pv (.agg (cShd s ++ cKey k ++ cVal v))] [] (.pv (vbool true)) [] := by
  have hd : greatB H s ⟨0, 0, 0, 0, [], ⟨#[]⟩, ⟨#[]⟩, ⟨#[]⟩⟩ = false → smallSh (desS H s k v) := fun hg => by
    have := des_length (H := H) (s := s) (k := k) (v := v)
    unfold greatB at hg
    have := of_decide_eq_false hg
    exact ⟨show _ ≤ 1048576 by omega, show _ ≤ 1048576 by omega⟩
  refine AC.of_awp (T := T) T_ok hm Tryd.call5 Tryd.func5 rfl rfl rfl ?_
  conv => whnf
  repeat (any_goals (first
    | (refine ⟨fun (h : (_ : Bool) = true) => ?_, fun (h : (_ : Bool) = false) => ?_⟩ <;> (try simp only [decide_eq_true_eq, decide_eq_false_iff_not, Bool.not_eq_true', Bool.not_eq_false', Int.toNat_natCast, beq_iff_eq, decide_eq_decide, beq_eq_false_iff_ne, ne_eq, reduceCtorEq] at h) <;> (conv => whnf))
    | (refine .inl ⟨_, AC.sub3 ((ac_law25_great H s ⟨0, 0, 0, 0, [], ⟨#[]⟩, ⟨#[]⟩, ⟨#[]⟩⟩)) (by repeat' (first | exact PSub.rfl | exact PSub.nil_ro _ _ | exact PSub.lit_sb rfl | exact trivial | exact all_lt_zero | refine PSub.agg ?_ | refine PSub.ro rfl ?_ | refine all_lt_succ ?_ ?_ | refine And.intro ?_ ?_)) (by repeat' (first | exact PSub.rfl | exact PSub.nil_ro _ _ | exact PSub.lit_sb rfl | exact trivial | exact all_lt_zero | refine PSub.agg ?_ | refine PSub.ro rfl ?_ | refine all_lt_succ ?_ ?_ | refine And.intro ?_ ?_)) (by repeat' (first | exact PSub.rfl | exact PSub.nil_ro _ _ | exact PSub.lit_sb rfl | exact trivial | exact all_lt_zero | refine PSub.agg ?_ | refine PSub.ro rfl ?_ | refine all_lt_succ ?_ ?_ | refine And.intro ?_ ?_)), ?_⟩; conv => whnf)
    | (refine .inl ⟨_, ac_law25_lives, ?_⟩; conv => whnf)
    | (refine .inl ⟨_, ac_shadow_Desire H s k v hH hs, ?_⟩; conv => whnf)
    | (refine And.intro (by (try simp only [Int.toNat_natCast]); omega) ?_; conv => whnf)
    | (refine And.intro (show (_ : Bool) = true from by kernel_rfl) ?_; conv => whnf)
    | (refine .inl ⟨wrap64 (by omega), ?_⟩; conv => whnf)))
  · exact .rfl
  · exact .rfl
  · rename_i h1
    rw [des_err rfl h1] at h
    exact absurd rfl h
  obtain ⟨w1, w2, w3⟩ := des_get h
  have hsm := hd (by assumption)
  generalize desS H s k v = t at *
  have hx1 : getI t.desired k = t.desired.getD (itemAt t.desired k) default := if_pos w1
  have hx2 := getD_mem w1
  rw [← hx1] at w2 hx2
  have hr1 : t.reported.length ≤ 1048576 := hsm.1
  have hdr : (dropS t k).desired.length ≤ 1048576 := (drop_small (k := k) hsm).2
  have hno := drop_none (s := t) (k := k)
  have hpl := penL_length t
  have hds : t.desired.length ≤ 1048576 := hsm.2
  repeat (any_goals (first
    | (refine ⟨fun (h : (_ : Bool) = true) => ?_, fun (h : (_ : Bool) = false) => ?_⟩ <;> (try simp only [decide_eq_true_eq, decide_eq_false_iff_not, Bool.not_eq_true', Bool.not_eq_false', Int.toNat_natCast, beq_iff_eq, decide_eq_decide, beq_eq_false_iff_ne, ne_eq, reduceCtorEq] at h) <;> (conv => whnf))
    | (refine .inl ⟨_, ac_r22_Get t.desired k hsm.2, ?_⟩; conv => whnf)
    | (refine .inl ⟨_, ac_r22_Same t.reported s.reported (by omega), ?_⟩; conv => whnf)
    | (refine .inl ⟨_, ac_shadow_Pending t hsm, ?_⟩; conv => whnf)
    | (refine And.intro (by (try simp only [Int.toNat_natCast]); omega) ?_; conv => whnf)
    | (refine And.intro (show (_ : Bool) = true from by kernel_rfl) ?_; conv => whnf)
    | (refine .inl ⟨wrap64 (by omega), ?_⟩; conv => whnf)))
  · exfalso; exact h w1
  · exfalso
    have := of_decide_eq_false ((val_eq _ _).symm.trans h)
    exact this w2
  · exfalso; exact h w3
  have hmp := mem_pen (s := t) (x := getI t.desired k)
  generalize getI t.desired k = x at *
  generalize penL t = P at *
  refine loop_k (ι := Nat) [3, 5, 7, 9] [3, 5, 7] (fun j => j ≤ P.length) (fun j => P.length - j) 0 (fun j => [(10, .pv (.sb (decide (x ∈ P.take j)))), (11, .pv (vint j))]) (fun _ => []) [] (Nat.zero_le _) ?_ (fun j hj => ?_)
  · (repeat' (first | exact PSub.rfl | exact rfl | exact PSubs.rfl | exact trivial | exact PSub.lit_sb rfl | refine And.intro ?_ ?_))
    all_goals exact PSub.lit_sb (by simp)
  have hts : ∀ hj : j < P.length, (x ∈ P.take (j + 1) ↔ x ∈ P.take j ∨ P.getD j default = x) := fun hj => by
    have e : P.take (j + 1) = P.take j ++ [P.getD j default] := by rw [List.take_add_one]; simp [List.getD, hj]
    rw [e, List.mem_append, List.mem_singleton]
    exact or_congr_right eq_comm
  conv => whnf
  repeat (any_goals (first
    | (refine ⟨fun (h : (_ : Bool) = true) => ?_, fun (h : (_ : Bool) = false) => ?_⟩ <;> (try simp only [decide_eq_true_eq, decide_eq_false_iff_not, Bool.not_eq_true', Bool.not_eq_false', Int.toNat_natCast, beq_iff_eq, decide_eq_decide, beq_eq_false_iff_ne, ne_eq, reduceCtorEq] at h) <;> (conv => whnf))
    | (refine And.intro (by (try simp only [Int.toNat_natCast]); omega) ?_; conv => whnf)
    | (refine And.intro (show (_ : Bool) = true from by kernel_rfl) ?_; conv => whnf)
    | (refine .inl ⟨wrap64 (by omega), ?_⟩; conv => whnf)))
  · refine ⟨j + 1, [], by omega, by omega, ?_⟩
    (repeat' (first | exact PSub.rfl | exact rfl | exact PSubs.rfl | exact trivial | exact PSub.lit_sb rfl | refine And.intro ?_ ?_))
    all_goals exact PSub.lit_sb (decide_eq_true ((hts (by omega)).2 (.inl h))).symm
  · have hjl : j < P.length := by omega
    refine ⟨j + 1, [], by omega, by omega, ?_⟩
    (repeat' (first | exact PSub.rfl | exact rfl | exact PSubs.rfl | exact trivial | exact PSub.lit_sb rfl | refine And.intro ?_ ?_))
    all_goals
      refine PSub.sb ?_
      refine (item_eq _ _).trans ?_
      rw [decide_eq_decide, hts hjl]
      exact ⟨.inr, fun h2 => h2.resolve_left h⟩
  · exfalso
    have e : j = P.length := by omega
    subst e
    rw [List.take_length] at h
    exact h (hmp.trans (and_iff_right hx2))
  · have c := ac_shadow_Drop t k hsm
    have c2 := ac_r22_Get (dropS t k).desired k hdr
    rw [decide_eq_false hno] at c2
    repeat (any_goals (first
      | (refine ⟨fun (h : (_ : Bool) = true) => ?_, fun (h : (_ : Bool) = false) => ?_⟩ <;> (try simp only [decide_eq_true_eq, decide_eq_false_iff_not, Bool.not_eq_true', Bool.not_eq_false', Int.toNat_natCast, beq_iff_eq, decide_eq_decide, beq_eq_false_iff_ne, ne_eq, reduceCtorEq] at h) <;> (conv => whnf))
      | (refine .inl ⟨_, c, ?_⟩; conv => whnf)
      | (refine .inl ⟨_, c2, ?_⟩; conv => whnf)
      | (refine .inl ⟨_, ac_law25_lives, ?_⟩; conv => whnf)
      | (refine And.intro (by (try simp only [Int.toNat_natCast]); omega) ?_; conv => whnf)
      | (refine And.intro (show (_ : Bool) = true from by kernel_rfl) ?_; conv => whnf)
      | (refine .inl ⟨wrap64 (by omega), ?_⟩; conv => whnf)))
    all_goals first
      | exact .rfl
      | exact absurd trivial h
      | exact absurd rfl h
      | trace_state
end Go.Abs
