/- YtdikjanjhanmnaaDoorX06: walks and contracts. -/
import Derived.Test.YtdikjanjhanmnaaDoorX05
import Derived.Shelf.Spec.SlicesInsertGrow
import Derived.Laws.CopyRow

set_option linter.unusedVariables false
set_option linter.unusedSimpArgs false
set_option linter.unusedSectionVars false

namespace Go.Abs
section
variable {α : Type} [Inhabited α] {lt : α → α → Bool}
inductive DoneB (lt : α → α → Bool) (l : List α) (B : Nat) : Nat → Prop where
  | zero : DoneB lt l B 0
  | step (a : Nat) (h : DoneB lt l B a) (hs : srtO lt l a (a + B)) : DoneB lt l B (a + B)
inductive RestB (lt : α → α → Bool) (l : List α) (B n : Nat) : Nat → Prop where
  | last (a : Nat) (h : n ≤ a + B) (hs : srtO lt l a n) : RestB lt l B n a
  | step (a : Nat) (hs : srtO lt l a (a + B)) (h : RestB lt l B n (a + B)) : RestB lt l B n a
theorem DoneB.out {l : List α} {B a i j : Nat} (h : DoneB lt l B a) (hij : i ≤ j) (hj : j ≤ l.length) (hi : a ≤ i) : DoneB lt (srtSeg lt l i j) B a := by
  induction h with
  | zero => exact .zero
  | step a h hs ih => exact .step a (ih (by omega)) (srtSeg_out hij hj (.inl hi) hs)
theorem RestB.out {l : List α} {B n a i j : Nat} (h : RestB lt l B n a) (hij : i ≤ j) (hj : j ≤ l.length) (ha : j ≤ a) : RestB lt (srtSeg lt l i j) B n a := by
  induction h with
  | last a h hs => exact .last a h (srtSeg_out hij hj (.inr ha) hs)
  | step a hs h ih => exact .step a (srtSeg_out hij hj (.inr ha) hs) (ih (by omega))
theorem DoneB.rest {l : List α} {B n a : Nat} (h : DoneB lt l B a) (hr : RestB lt l B n a) : RestB lt l B n 0 := by
  induction h with
  | zero => exact hr
  | step a h hs ih => exact ih (.step a hs hr)
theorem RestB.whole {l : List α} {B n : Nat} (h : RestB lt l B n 0) (hB : n ≤ B) : srtO lt l 0 n := by
  cases h with
  | last _ _ hs => exact hs
  | step _ hs _ => exact srtO_sub hs (Nat.le_refl _) (by omega)
theorem blk_merge (hw : SWO lt) {l : List α} {B n a : Nat} (hB : 0 < B) (hn : n ≤ l.length) (hab : a + 2 * B ≤ n) (hd : DoneB lt l (2 * B) a) (hr : RestB lt l B n a) :
    srtO lt l a (a + B) ∧ srtO lt l (a + B) (a + 2 * B) ∧ DoneB lt (srtSeg lt l a (a + 2 * B)) (2 * B) (a + 2 * B) ∧ RestB lt (srtSeg lt l a (a + 2 * B)) B n (a + 2 * B) := by
  have e2 : a + B + B = a + 2 * B := by omega
  have key : srtO lt l a (a + B) ∧ srtO lt l (a + B) (a + 2 * B) ∧ RestB lt l B n (a + 2 * B) := by
    cases hr with
    | last _ h _ => omega
    | step _ hs h =>
      cases h with
      | last _ h hs2 =>
        have : n = a + 2 * B := by omega
        subst this
        exact ⟨hs, hs2, .last _ (by omega) fun p q p1 p2 p3 => by omega⟩
      | step _ hs2 h2 => rw [e2] at hs2 h2; exact ⟨hs, hs2, h2⟩
  obtain ⟨k1, k2, k3⟩ := key
  exact ⟨k1, k2, .step a (hd.out (by omega) (by omega) (Nat.le_refl _)) (srtSeg_srt hw (by omega) (by omega)), k3.out (by omega) (by omega) (Nat.le_refl _)⟩
theorem blk_end (hw : SWO lt) {l : List α} {B n a : Nat} (hn : n ≤ l.length) (hab : n < a + 2 * B) (hm : a + B < n) (hd : DoneB lt l (2 * B) a) (hr : RestB lt l B n a) :
    srtO lt l a (a + B) ∧ srtO lt l (a + B) n ∧ RestB lt (srtSeg lt l a n) (2 * B) n 0 := by
  have key : srtO lt l a (a + B) ∧ srtO lt l (a + B) n := by
    cases hr with
    | last _ h _ => omega
    | step _ hs h =>
      cases h with
      | last _ h hs2 => exact ⟨hs, hs2⟩
      | step _ hs2 h2 => exact ⟨hs, srtO_sub hs2 (Nat.le_refl _) (by omega)⟩
  exact ⟨key.1, key.2, (hd.out (by omega) hn (Nat.le_refl _)).rest (.last a (by omega) (srtSeg_srt hw (by omega) hn))⟩
theorem blk_end1 {l : List α} {B n a : Nat} (hm : n ≤ a + B) (hd : DoneB lt l (2 * B) a) (hr : RestB lt l B n a) : RestB lt l (2 * B) n 0 := by
  refine hd.rest (.last a (by omega) ?_)
  cases hr with
  | last _ _ hs => exact hs
  | step _ hs _ => exact srtO_sub hs (Nat.le_refl _) hm
theorem blk_first (hw : SWO lt) {l : List α} {B a : Nat} (hb : a + B ≤ l.length) (hd : DoneB lt l B a) : DoneB lt (srtSeg lt l a (a + B)) B (a + B) :=
  .step a (hd.out (by omega) hb (Nat.le_refl _)) (srtSeg_srt hw (by omega) hb)
theorem blk_first_end (hw : SWO lt) {l : List α} {B n a : Nat} (han : a ≤ n) (hn : n ≤ l.length) (hb : n < a + B) (hd : DoneB lt l B a) : RestB lt (srtSeg lt l a n) B n 0 :=
  (hd.out han hn (Nat.le_refl _)).rest (.last a (by omega) (srtSeg_srt hw han hn))
end
end Go.Abs

namespace Go.Abs
open Go.Proofs
set_option maxRecDepth 10000
theorem swp_row {l : List Item} {i j : Nat} (hi : i < l.length) (hj : j < l.length) (q : Nat) : PSubs (updAt (updAt (fun q => cItem (l.getD q default)) i 0 (cItem (l.getD j default))) j 0 (cItem (l.getD i default)) q) (cItem ((swp l i j).getD q default)) := by
  rw [swp_getD hi hj]
  by_cases e : q = j
  · subst e
    rw [if_pos rfl, updAt_same]
    by_cases e2 : q = i
    · subst e2; rw [updAt_same]; exact PSubs.rfl
    · rw [updAt_ne e2]; exact PSubs.rfl
  · rw [if_neg e, updAt_ne e]
    by_cases e2 : q = i
    · subst e2; rw [if_pos rfl, updAt_same]; exact PSubs.rfl
    · rw [if_neg e2, updAt_ne e2]; exact PSubs.rfl
set_option maxHeartbeats 1000000 in
theorem ac_slices_swapRangeCmpFunc_Item (l : List Item) (a b n : Nat) (isB : Bool) (D : List PV → Prop) (gb : List PV → Bool) (gi : List PV → Int) (hl : l.length ≤ 1048576) (hab : a + n ≤ b) (hb : b + n ≤ l.length) :
    AC Tryd.prog 95 [.own 900000, .pv (vint a), .pv (vint b), .pv (vint n), .clo D isB gb gi] [(900000, rowL 7 cItem l)] (.pv (.tup [])) [(900000, rowL 7 cItem (swpTo l a b n))] := by
  refine AC.of_awp_gen (T := T) T_ok hm Tryd.call95 Tryd.func95 rfl rfl rfl rfl rfl rfl ?_
  conv => whnf
  refine loop_k (ι := Nat) [0, 1, 2, 3] [] (fun k => k ≤ n) (fun k => n - k) 0 (fun k => [(10, .pv (vint k))]) (fun k => [(900000, rowL 7 cItem (swpTo l a b k))]) [] (Nat.zero_le _) ?_ (fun k hk => ?_)
  · rw [swpTo_zero]
    (repeat' (first | exact PSub.rfl | exact rfl | exact PSubs.rfl | exact trivial | exact PSub.lit_sb rfl | refine And.intro ?_ ?_))
    intro i hi; exact PSubs.rfl
  have hsl := swpTo_length l a b k
  conv => whnf
  repeat (any_goals (first
    | (refine ⟨fun (h : (_ : Bool) = true) => ?_, fun (h : (_ : Bool) = false) => ?_⟩ <;> (try simp only [decide_eq_true_eq, decide_eq_false_iff_not, Bool.not_eq_true', Bool.not_eq_false', Int.toNat_natCast, beq_iff_eq, decide_eq_decide, beq_eq_false_iff_ne, ne_eq, reduceCtorEq] at h) <;> (conv => whnf))
    | (refine And.intro (by (try simp only [Int.toNat_natCast]); omega) ?_; conv => whnf)
    | (refine And.intro (show (_ : Bool) = true from by kernel_rfl) ?_; conv => whnf)
    | (refine .inl ⟨wrap64 (by omega), ?_⟩; conv => whnf)))
  · refine ⟨k + 1, [], by omega, by omega, ?_⟩
    rw [← swpTo_succ (l := l) (a := a) (b := b) (k := k) (by omega) (by omega)]
    have hr := fun q => swp_row (l := swpTo l a b k) (i := a + k) (j := b + k) (by omega) (by omega) q
    (repeat' (first | exact PSub.rfl | exact rfl | exact PSubs.rfl | exact trivial | exact PSub.lit_sb rfl | refine And.intro ?_ ?_))
    · rw [swp_length]
    · intro i hi; exact hr i
  · have e : k = n := by omega
    subst e
    refine ⟨rfl, [], ?_⟩
    (repeat' (first | exact PSub.rfl | exact rfl | exact PSubs.rfl | exact trivial | exact PSub.lit_sb rfl | refine And.intro ?_ ?_))
    intro i hi; exact PSubs.rfl
end Go.Abs

namespace Go.Abs
open Go.Proofs
set_option maxRecDepth 10000
set_option maxHeartbeats 1000000 in
theorem ac_slices_rotateCmpFunc_Item (l : List Item) (a m b : Nat) (isB : Bool) (D : List PV → Prop) (gb : List PV → Bool) (gi : List PV → Int) (hl : l.length ≤ 1048576) (ham : a < m) (hmb : m < b) (hb : b ≤ l.length) :
    AC Tryd.prog 88 [.own 900000, .pv (vint a), .pv (vint m), .pv (vint b), .clo D isB gb gi] [(900000, rowL 7 cItem l)] (.pv (.tup [])) [(900000, rowL 7 cItem (rot l a m b))] := by
  refine AC.of_awp_gen (T := T) T_ok hm Tryd.call88 Tryd.func88 rfl rfl rfl rfl rfl rfl ?_
  conv => whnf
  repeat (any_goals (first
    | (refine ⟨fun (h : (_ : Bool) = true) => ?_, fun (h : (_ : Bool) = false) => ?_⟩ <;> (try simp only [decide_eq_true_eq, decide_eq_false_iff_not, Bool.not_eq_true', Bool.not_eq_false', Int.toNat_natCast, beq_iff_eq, decide_eq_decide, beq_eq_false_iff_ne, ne_eq, reduceCtorEq] at h) <;> (conv => whnf))
    | (refine And.intro (by (try simp only [Int.toNat_natCast]); omega) ?_; conv => whnf)
    | (refine And.intro (show (_ : Bool) = true from by kernel_rfl) ?_; conv => whnf)
    | (refine .inl ⟨wrap64 (by omega), ?_⟩; conv => whnf)))
  refine loop_k (ι := Nat × Nat × List Item) [0, 2, 4] [] (fun x => (0 < x.1 ∧ x.1 ≤ m ∧ 0 < x.2.1 ∧ m + x.2.1 ≤ l.length ∧ x.2.2.length = l.length) ∧ rot x.2.2 (m - x.1) m (m + x.2.1) = rot l a m b) (fun x => x.1 + x.2.1) (m - a, b - m, l) (fun x => [(10, .pv (vint x.1)), (11, .pv (vint x.2.1))]) (fun x => [(900000, rowL 7 cItem x.2.2)]) [] ⟨⟨by dsimp only; omega, by dsimp only; omega, by dsimp only; omega, by dsimp only; omega, rfl⟩, by dsimp only; rw [show m - (m - a) = a from by omega, show m + (b - m) = b from by omega]⟩ ?_ (fun x hk => ?_)
  · (repeat' (first | exact PSub.rfl | exact rfl | exact PSubs.rfl | exact trivial | exact PSub.lit_sb rfl | refine And.intro ?_ ?_))
    · intro i hi; exact PSubs.rfl
    · exact PSub.int (by dsimp only; omega)
    · exact PSub.int (by dsimp only; omega)
  obtain ⟨i, j, cur⟩ := x
  obtain ⟨⟨hi0, him, hj0, hj, hcl⟩, hinv⟩ := hk
  dsimp only at hi0 him hj0 hj hcl hinv
  have e1 : ((m - i : Nat) : Int) = (m : Int) - i := by omega
  have e2 : ((m + j - i : Nat) : Int) = (m : Int) + j - i := by omega
  have c1 := fun (h : j < i) => ac_slices_swapRangeCmpFunc_Item cur (m - i) m j isB D gb gi (by omega) (by omega) (by omega)
  have c2 := fun (h : i < j) => ac_slices_swapRangeCmpFunc_Item cur (m - i) (m + j - i) i isB D gb gi (by omega) (by omega) (by omega)
  have c3 := fun (h : i = j) => ac_slices_swapRangeCmpFunc_Item cur (m - i) m i isB D gb gi (by omega) (by omega) (by omega)
  rw [e1] at c1 c3
  rw [e1, e2] at c2
  dsimp only
  conv => whnf
  repeat (any_goals (first
    | (refine ⟨fun (h : (_ : Bool) = true) => ?_, fun (h : (_ : Bool) = false) => ?_⟩ <;> (try simp only [decide_eq_true_eq, decide_eq_false_iff_not, Bool.not_eq_true', Bool.not_eq_false', Int.toNat_natCast, beq_iff_eq, decide_eq_decide, beq_eq_false_iff_ne, ne_eq, reduceCtorEq] at h) <;> (conv => whnf))
    | (refine .inr (.inr (.inr (.inr ⟨[(900000, 900000)], [], _, _, _, c1 (by omega), rfl, ?_⟩))); conv => whnf)
    | (refine .inr (.inr (.inr (.inr ⟨[(900000, 900000)], [], _, _, _, c2 (by omega), rfl, ?_⟩))); conv => whnf)
    | (refine .inr (.inr (.inr (.inr ⟨[(900000, 900000)], [], _, _, _, c3 (by omega), rfl, ?_⟩))); conv => whnf)
    | (refine And.intro (by (try simp only [Int.toNat_natCast]); omega) ?_; conv => whnf)
    | (refine And.intro (show (_ : Bool) = true from by kernel_rfl) ?_; conv => whnf)
    | (refine .inl ⟨wrap64 (by omega), ?_⟩; conv => whnf)))
  · have h1 : j < i := by omega
    have hsl := swpTo_length cur (m - i) m j
    refine ⟨(i - j, j, swpTo cur (m - i) m j), [], ⟨⟨by dsimp only; omega, by dsimp only; omega, by dsimp only; omega, by dsimp only; omega, by dsimp only; omega⟩, by dsimp only; rw [rot_left him (by omega) h1]; exact hinv⟩, by dsimp only; omega, ?_⟩
    (repeat' (first | exact PSub.rfl | exact rfl | exact PSubs.rfl | exact trivial | exact PSub.lit_sb rfl | refine And.intro ?_ ?_))
    · intro i hi; exact PSubs.rfl
    · exact PSub.int (by dsimp only; omega)
  · have h1 : i < j := by omega
    have hsl := swpTo_length cur (m - i) (m + j - i) i
    refine ⟨(i, j - i, swpTo cur (m - i) (m + j - i) i), [], ⟨⟨by dsimp only; omega, by dsimp only; omega, by dsimp only; omega, by dsimp only; omega, by dsimp only; omega⟩, by dsimp only; rw [rot_right him (by omega) h1]; exact hinv⟩, by dsimp only; omega, ?_⟩
    (repeat' (first | exact PSub.rfl | exact rfl | exact PSubs.rfl | exact trivial | exact PSub.lit_sb rfl | refine And.intro ?_ ?_))
    · intro i hi; exact PSubs.rfl
    · exact PSub.int (by dsimp only; omega)
  · have h1 : i = j := by omega
    subst h1
    rw [← hinv, ← rot_last him (by omega)]
    refine ⟨rfl, [], ?_⟩
    (repeat' (first | exact PSub.rfl | exact rfl | exact PSubs.rfl | exact trivial | exact PSub.lit_sb rfl | refine And.intro ?_ ?_))
    intro i hi; exact PSubs.rfl
end Go.Abs

namespace Go.Abs
open Go.Proofs
set_option maxRecDepth 10000
def cmpD : List PV → Prop := fun xs => ∃ x y : Item, xs = [.agg (cItem x), .agg (cItem y)]
def CmpS (gi : List PV → Int) (lt : Item → Item → Bool) : Prop := ∀ x y : Item, decide (gi [.agg (cItem x), .agg (cItem y)] < 0) = lt x y
set_option maxHeartbeats 1000000 in
theorem ac_slices_insertionSortCmpFunc_Item (l : List Item) (a b : Nat) (gb : List PV → Bool) (gi : List PV → Int) (lt : Item → Item → Bool) (hw : SWO lt) (hc : CmpS gi lt) (hl : l.length ≤ 1048576) (hab : a ≤ b) (hb : b ≤ l.length) :
    AC Tryd.prog 69 [.own 900000, .pv (vint a), .pv (vint b), .clo cmpD false gb gi] [(900000, rowL 7 cItem l)] (.pv (.tup [])) [(900000, rowL 7 cItem (srtSeg lt l a b))] := by
  refine AC.of_awp_gen (T := T) T_ok hm Tryd.call69 Tryd.func69 rfl rfl rfl rfl rfl rfl ?_
  conv => whnf
  repeat (any_goals (first
    | (refine ⟨fun (h : (_ : Bool) = true) => ?_, fun (h : (_ : Bool) = false) => ?_⟩ <;> (try simp only [decide_eq_true_eq, decide_eq_false_iff_not, Bool.not_eq_true', Bool.not_eq_false', Int.toNat_natCast, beq_iff_eq, decide_eq_decide, beq_eq_false_iff_ne, ne_eq, reduceCtorEq] at h) <;> (conv => whnf))
    | (refine And.intro (by (try simp only [Int.toNat_natCast]); omega) ?_; conv => whnf)
    | (refine And.intro (show (_ : Bool) = true from by kernel_rfl) ?_; conv => whnf)
    | (refine .inl ⟨wrap64 (by omega), ?_⟩; conv => whnf)))
  refine loop_k (ι := Nat) [0, 1, 2, 3] [] (fun i => a + 1 ≤ i ∧ (i ≤ b ∨ i = a + 1)) (fun i => b - i) (a + 1) (fun i => [(8, .pv (vint i))]) (fun i => [(900000, rowL 7 cItem (srtSeg lt l a (min i b)))]) [] ⟨by omega, by omega⟩ ?_ (fun i hk => ?_)
  · rw [srtSeg_still hw (by omega) (by omega) (fun p q p1 p2 p3 => by omega)]
    (repeat' (first | exact PSub.rfl | exact rfl | exact PSubs.rfl | exact trivial | exact PSub.lit_sb rfl | refine And.intro ?_ ?_))
    intro i hi; exact PSubs.rfl
  obtain ⟨hi1, hi2⟩ := hk
  conv => whnf
  repeat (any_goals (first
    | (refine ⟨fun (h : (_ : Bool) = true) => ?_, fun (h : (_ : Bool) = false) => ?_⟩ <;> (try simp only [decide_eq_true_eq, decide_eq_false_iff_not, Bool.not_eq_true', Bool.not_eq_false', Int.toNat_natCast, beq_iff_eq, decide_eq_decide, beq_eq_false_iff_ne, ne_eq, reduceCtorEq] at h) <;> (conv => whnf))
    | (refine And.intro (by (try simp only [Int.toNat_natCast]); omega) ?_; conv => whnf)
    | (refine And.intro (show (_ : Bool) = true from by kernel_rfl) ?_; conv => whnf)
    | (refine .inl ⟨wrap64 (by omega), ?_⟩; conv => whnf)))
  · have hib : i < b := by omega
    have hmin : min i b = i := by omega
    rw [hmin]
    have hsl := srtSeg_length (lt := lt) (l := l) (a := a) (b := i) (by omega) (by omega)
    refine loop_k (ι := Nat) [0, 1, 2, 3, 8] [] (fun j => a ≤ j ∧ j ≤ i ∧ ∀ q, j ≤ q → q < i → lt (l.getD i default) ((srtSeg lt l a i).getD q default) = true) (fun j => j) i (fun j => [(9, .pv (vint j))]) (fun j => [(900000, rowL 7 cItem (rot (srtSeg lt l a i) j i (i + 1)))]) [] ⟨by omega, by omega, fun q q1 q2 => by omega⟩ ?_ (fun j hj => ?_)
    · rw [rot_none (by omega)]
      (repeat' (first | exact PSub.rfl | exact rfl | exact PSubs.rfl | exact trivial | exact PSub.lit_sb rfl | refine And.intro ?_ ?_))
      intro i hi; exact PSubs.rfl
    obtain ⟨hj1, hj2, hj3⟩ := hj
    have hrl := rot_length (srtSeg lt l a i) j i (i + 1)
    conv => whnf
    repeat (any_goals (first
      | (refine ⟨fun (h : (_ : Bool) = true) => ?_, fun (h : (_ : Bool) = false) => ?_⟩ <;> (try simp only [decide_eq_true_eq, decide_eq_false_iff_not, Bool.not_eq_true', Bool.not_eq_false', Int.toNat_natCast, beq_iff_eq, decide_eq_decide, beq_eq_false_iff_ne, ne_eq, reduceCtorEq] at h) <;> (conv => whnf))
      | (refine And.intro (by (try simp only [Int.toNat_natCast]); omega) ?_; conv => whnf)
      | (refine And.intro (show (_ : Bool) = true from by kernel_rfl) ?_; conv => whnf)
      | (refine .inl ⟨wrap64 (by omega), ?_⟩; conv => whnf)))
    · refine And.intro ⟨_, _, rfl⟩ ?_
      have ht : (↑j - 1 : Int).toNat = j - 1 := by omega
      have hja : a < j := by omega
      have hx : (rot (srtSeg lt l a i) j i (i + 1)).getD j default = l.getD i default := by
        rw [rot_getD (by omega), if_pos (by omega), srtSeg_getD (by omega) (by omega), if_neg (by omega), if_neg (by omega)]
        congr 1; omega
      have hy : (rot (srtSeg lt l a i) j i (i + 1)).getD (j - 1) default = (srtSeg lt l a i).getD (j - 1) default := by
        rw [rot_getD (by omega), if_neg (by omega), if_neg (by omega)]
      rw [ht]
      conv => whnf
      repeat (any_goals (first
        | (refine ⟨fun (h : (_ : Bool) = true) => ?_, fun (h : (_ : Bool) = false) => ?_⟩ <;> (try simp only [decide_eq_true_eq, decide_eq_false_iff_not, Bool.not_eq_true', Bool.not_eq_false', Int.toNat_natCast, beq_iff_eq, decide_eq_decide, beq_eq_false_iff_ne, ne_eq, reduceCtorEq] at h) <;> (conv => whnf))
        | (refine And.intro (by (try simp only [Int.toNat_natCast]); omega) ?_; conv => whnf)
        | (refine And.intro (show (_ : Bool) = true from by kernel_rfl) ?_; conv => whnf)
        | (refine .inl ⟨wrap64 (by omega), ?_⟩; conv => whnf)))
      · have h2 := (hc ((rot (srtSeg lt l a i) j i (i + 1)).getD j default) ((rot (srtSeg lt l a i) j i (i + 1)).getD (j - 1) default)).symm.trans (decide_eq_true h)
        rw [hx, hy] at h2
        rw [ht]
        refine ⟨j - 1, [], ⟨by omega, by omega, fun q q1 q2 => ?_⟩, by omega, ?_⟩
        · by_cases e : q = j - 1
          · rw [e]; exact h2
          · exact hj3 q (by omega) q2
        rw [← rot_down (by omega) hj2 (by omega)]
        have hr := fun q => swp_row (l := rot (srtSeg lt l a i) j i (i + 1)) (i := j) (j := j - 1) (by omega) (by omega) q
        (repeat' (first | exact PSub.rfl | exact rfl | exact PSubs.rfl | exact trivial | exact PSub.lit_sb rfl | refine And.intro ?_ ?_))
        · rw [swp_length]
        · intro q hq; exact hr q
        · exact PSub.int (by omega)
      · have h2 := (hc ((rot (srtSeg lt l a i) j i (i + 1)).getD j default) ((rot (srtSeg lt l a i) j i (i + 1)).getD (j - 1) default)).symm.trans (decide_eq_false h)
        rw [hx, hy] at h2
        rw [ins_done hw hj1 hj2 (by omega) hj3 (fun _ => h2)]
        refine ⟨i + 1, [], ⟨by omega, by omega⟩, by omega, ?_⟩
        rw [show min (i + 1) b = i + 1 from by omega]
        (repeat' (first | exact PSub.rfl | exact rfl | exact PSubs.rfl | exact trivial | exact PSub.lit_sb rfl | refine And.intro ?_ ?_))
        all_goals (intro q hq; exact PSubs.rfl)
    · rw [ins_done hw hj1 hj2 (by omega) hj3 (fun x => by omega)]
      refine ⟨i + 1, [], ⟨by omega, by omega⟩, by omega, ?_⟩
      rw [show min (i + 1) b = i + 1 from by omega]
      (repeat' (first | exact PSub.rfl | exact rfl | exact PSubs.rfl | exact trivial | exact PSub.lit_sb rfl | refine And.intro ?_ ?_))
      all_goals (intro q hq; exact PSubs.rfl)
  · rw [show min i b = b from by omega]
    refine ⟨rfl, [], ?_⟩
    (repeat' (first | exact PSub.rfl | exact rfl | exact PSubs.rfl | exact trivial | exact PSub.lit_sb rfl | refine And.intro ?_ ?_))
    intro i hi; exact PSubs.rfl
end Go.Abs

namespace Go.Abs
open Go.Proofs
set_option maxRecDepth 10000
section
variable {α : Type} [Inhabited α] {lt : α → α → Bool}
theorem rot_up {l : List α} {a k : Nat} (h1 : a ≤ k) (h2 : k + 1 < l.length) : swp (rot l a (a + 1) (k + 1)) k (k + 1) = rot l a (a + 1) (k + 2) := by
  have hl := rot_length l a (a + 1) (k + 1)
  refine list_ext_getD (by rw [swp_length, hl, rot_length]) fun q hq => ?_
  rw [swp_length, hl] at hq
  rw [swp_getD (by omega) (by omega), rot_getD (q := k) (by omega), rot_getD (q := k + 1) (by omega), rot_getD (q := q) (by omega), rot_getD (q := q) (by omega)]
  by_cases e1 : q = k + 1
  · subst e1
    rw [if_pos rfl, if_neg (by omega), if_pos (by omega), if_neg (by omega), if_pos (by omega)]
    congr 1; omega
  · rw [if_neg e1]
    by_cases e2 : q = k
    · subst e2
      rw [if_pos rfl, if_neg (by omega), if_neg (by omega), if_pos (by omega)]
      congr 1; omega
    · rw [if_neg e2]
      by_cases c : a ≤ q ∧ q < k
      · rw [if_pos (by omega), if_pos (by omega)]
      · rw [if_neg (by omega), if_neg (by omega), if_neg (by omega), if_neg (by omega)]
theorem rot_one {l : List α} {a : Nat} (h : a < l.length) : rot l a (a + 1) (a + 1) = l := by
  refine list_ext_getD (rot_length _ _ _ _) fun q hq => ?_
  rw [rot_length] at hq
  rw [rot_getD hq, if_neg (by omega)]
  by_cases c : a + (a + 1 - (a + 1)) ≤ q ∧ q < a + 1
  · rw [if_pos c]; congr 1; omega
  · rw [if_neg c]
theorem rot_nil {l : List α} {s m e : Nat} (hsm : s ≤ m) (hme : m ≤ e) (h : s = m ∨ m = e) : rot l s m e = l := by
  refine list_ext_getD (rot_length _ _ _ _) fun q hq => ?_
  rw [rot_length] at hq
  rw [rot_getD hq]
  by_cases c1 : s ≤ q ∧ q < s + (e - m)
  · rw [if_pos c1]; congr 1; omega
  · rw [if_neg c1]
    by_cases c2 : s + (e - m) ≤ q ∧ q < e
    · rw [if_pos c2]; congr 1; omega
    · rw [if_neg c2]
theorem rot_srt {l : List α} {a m b s e mid : Nat} (has : a ≤ s) (hsm : s ≤ m) (hme : m ≤ e) (heb : e ≤ b) (hb : b ≤ l.length) (hmid : mid = s + (e - m)) (hL : srtO lt l a m) (hR : srtO lt l m b) :
    srtO lt (rot l s m e) a s ∧ srtO lt (rot l s m e) s mid ∧ srtO lt (rot l s m e) mid e ∧ srtO lt (rot l s m e) e b := by
  subst hmid
  have g1 : ∀ x, x < s → (rot l s m e).getD x default = l.getD x default := fun x hx => by rw [rot_getD (by omega), if_neg (by omega), if_neg (by omega)]
  have g2 : ∀ x, s ≤ x → x < s + (e - m) → (rot l s m e).getD x default = l.getD (m + (x - s)) default := fun x h1 h2 => by rw [rot_getD (by omega), if_pos ⟨h1, h2⟩]
  have g3 : ∀ x, s + (e - m) ≤ x → x < e → (rot l s m e).getD x default = l.getD (s + (x - (s + (e - m)))) default := fun x h1 h2 => by rw [rot_getD (by omega), if_neg (by omega), if_pos ⟨h1, h2⟩]
  have g4 : ∀ x, e ≤ x → x < b → (rot l s m e).getD x default = l.getD x default := fun x h1 h2 => by rw [rot_getD (by omega), if_neg (by omega), if_neg (by omega)]
  refine ⟨fun p q p1 p2 p3 => ?_, fun p q p1 p2 p3 => ?_, fun p q p1 p2 p3 => ?_, fun p q p1 p2 p3 => ?_⟩
  · rw [g1 p (by omega), g1 q p3]; exact hL p q p1 p2 (by omega)
  · rw [g2 p p1 (by omega), g2 q (by omega) p3]; exact hR _ _ (by omega) (by omega) (by omega)
  · rw [g3 p p1 (by omega), g3 q (by omega) p3]; exact hL _ _ (by omega) (by omega) (by omega)
  · rw [g4 p p1 (by omega), g4 q (by omega) p3]; exact hR _ _ (by omega) p2 p3
end
theorem half64 (n : Nat) (s : Int) (hs : s = n) (h : n ≤ 4294967296) : IntKind.i64.wrap ((IntKind.u64.wrap s).fdiv (2 ^ min (Int.toNat 1) IntKind.u64.bits)) = ((n / 2 : Nat) : Int) := by
  subst hs
  have e1 : IntKind.u64.wrap (n : Int) = n := by simp [IntKind.wrap, IntKind.bits, IntKind.signed]; omega
  have e2 : (2 : Int) ^ min (Int.toNat 1) IntKind.u64.bits = 2 := by decide
  rw [e1, e2, Int.fdiv_eq_ediv_of_nonneg _ (by omega), IntKind.wrap_i64]
  omega
set_option maxHeartbeats 2000000 in
theorem ac_sym_n (gb : List PV → Bool) (gi : List PV → Int) (lt : Item → Item → Bool) (hw : SWO lt) (hc : CmpS gi lt) (N : Nat) : ∀ (l : List Item) (a m b : Nat), b - a ≤ N → l.length ≤ 1048576 → a < m → m < b → b ≤ l.length → srtO lt l a m → srtO lt l m b →
    AC Tryd.prog 70 [.own 900000, .pv (vint a), .pv (vint m), .pv (vint b), .clo cmpD false gb gi] [(900000, rowL 7 cItem l)] (.pv (.tup [])) [(900000, rowL 7 cItem (srtSeg lt l a b))] := by
  induction N with
  | zero => intro l a m b h1 h2 h3 h4; omega
  | succ N ih =>
  intro l a m b hN hl ham hmb hb hL hR
  have hle := fun p q => srtO_le hw hR (p := p) (q := q)
  have hleL := fun p q => srtO_le hw hL (p := p) (q := q)
  refine AC.of_awp_gen (T := T) T_ok hm Tryd.call70 Tryd.func70 rfl rfl rfl rfl rfl rfl ?_
  conv => whnf
  repeat (any_goals (first
    | (refine ⟨fun (h : (_ : Bool) = true) => ?_, fun (h : (_ : Bool) = false) => ?_⟩ <;> (try simp only [decide_eq_true_eq, decide_eq_false_iff_not, Bool.not_eq_true', Bool.not_eq_false', Int.toNat_natCast, beq_iff_eq, decide_eq_decide, beq_eq_false_iff_ne, ne_eq, reduceCtorEq] at h) <;> (conv => whnf))
    | (refine And.intro (by (try simp only [Int.toNat_natCast]); omega) ?_; conv => whnf)
    | (refine And.intro (show (_ : Bool) = true from by kernel_rfl) ?_; conv => whnf)
    | (refine .inl ⟨wrap64 (by omega), ?_⟩; conv => whnf)))
  · have hma : m = a + 1 := by omega
    subst hma
    refine loop_k (ι := Nat × Nat) [0, 1, 2, 3, 4] [900000] (fun x => (a + 1 ≤ x.1 ∧ x.1 ≤ x.2 ∧ x.2 ≤ b) ∧ (∀ q, a + 1 ≤ q → q < x.1 → lt (l.getD q default) (l.getD a default) = true) ∧ ∀ q, x.2 ≤ q → q < b → lt (l.getD q default) (l.getD a default) = false) (fun x => x.2 - x.1) (a + 1, b) (fun x => [(10, .pv (vint x.1)), (11, .pv (vint x.2))]) (fun x => []) [] ⟨⟨by dsimp only; omega, by dsimp only; omega, by dsimp only; omega⟩, fun q q1 q2 => by dsimp only at q2; omega, fun q q1 q2 => by dsimp only at q1; omega⟩ ?_ (fun x hk => ?_)
    · (repeat' (first | exact PSub.rfl | exact rfl | exact PSubs.rfl | exact trivial | exact PSub.lit_sb rfl | refine And.intro ?_ ?_))
      all_goals (intro q hq; exact PSubs.rfl)
    obtain ⟨i, j⟩ := x
    obtain ⟨⟨hi, hij, hj⟩, h1, h2⟩ := hk
    dsimp only at hi hij hj h1 h2 ⊢
    conv => whnf
    repeat (any_goals (first
      | (refine ⟨fun (h : (_ : Bool) = true) => ?_, fun (h : (_ : Bool) = false) => ?_⟩ <;> (try simp only [decide_eq_true_eq, decide_eq_false_iff_not, Bool.not_eq_true', Bool.not_eq_false', Int.toNat_natCast, beq_iff_eq, decide_eq_decide, beq_eq_false_iff_ne, ne_eq, reduceCtorEq] at h) <;> (conv => whnf))
      | (refine And.intro (by (try simp only [Int.toNat_natCast]); omega) ?_; conv => whnf)
      | (refine And.intro (show (_ : Bool) = true from by kernel_rfl) ?_; conv => whnf)
      | (refine .inl ⟨wrap64 (by omega), ?_⟩; conv => whnf)))
    · rw [half64 (i + j) _ (by omega) (by omega)]
      obtain ⟨c, hcd⟩ : ∃ c, c = (i + j) / 2 := ⟨_, rfl⟩
      rw [← hcd]
      repeat (any_goals (first
        | (refine ⟨fun (h : (_ : Bool) = true) => ?_, fun (h : (_ : Bool) = false) => ?_⟩ <;> (try simp only [decide_eq_true_eq, decide_eq_false_iff_not, Bool.not_eq_true', Bool.not_eq_false', Int.toNat_natCast, beq_iff_eq, decide_eq_decide, beq_eq_false_iff_ne, ne_eq, reduceCtorEq] at h) <;> (conv => whnf))
        | (refine And.intro (by (try simp only [Int.toNat_natCast]); omega) ?_; conv => whnf)
        | (refine And.intro (show (_ : Bool) = true from by kernel_rfl) ?_; conv => whnf)
        | (refine .inl ⟨wrap64 (by omega), ?_⟩; conv => whnf)))
      refine And.intro ⟨_, _, rfl⟩ ?_
      conv => whnf
      repeat (any_goals (first
        | (refine ⟨fun (h : (_ : Bool) = true) => ?_, fun (h : (_ : Bool) = false) => ?_⟩ <;> (try simp only [decide_eq_true_eq, decide_eq_false_iff_not, Bool.not_eq_true', Bool.not_eq_false', Int.toNat_natCast, beq_iff_eq, decide_eq_decide, beq_eq_false_iff_ne, ne_eq, reduceCtorEq] at h) <;> (conv => whnf))
        | (refine And.intro (by (try simp only [Int.toNat_natCast]); omega) ?_; conv => whnf)
        | (refine And.intro (show (_ : Bool) = true from by kernel_rfl) ?_; conv => whnf)
        | (refine .inl ⟨wrap64 (by omega), ?_⟩; conv => whnf)))
      · have h3 := (hc (l.getD c default) (l.getD a default)).symm.trans (decide_eq_true h)
        refine ⟨(c + 1, j), [], ⟨⟨by dsimp only; omega, by dsimp only; omega, by dsimp only; omega⟩, fun q q1 q2 => ?_, h2⟩, by dsimp only; omega, ?_⟩
        · dsimp only at q2
          exact hw.le_lt (hle q c q1 (by omega) (by omega)) h3
        (repeat' (first | exact PSub.rfl | exact rfl | exact PSubs.rfl | exact trivial | exact PSub.lit_sb rfl | refine And.intro ?_ ?_))
        all_goals first | exact PSub.int (by dsimp only; omega) | (intro q hq; exact PSubs.rfl)
      · have h3 := (hc (l.getD c default) (l.getD a default)).symm.trans (decide_eq_false h)
        refine ⟨(i, c), [], ⟨⟨by dsimp only; omega, by dsimp only; omega, by dsimp only; omega⟩, h1, fun q q1 q2 => ?_⟩, by dsimp only; omega, ?_⟩
        · dsimp only at q1
          exact hw.trans _ _ _ (hle c q (by omega) q1 q2) h3
        (repeat' (first | exact PSub.rfl | exact rfl | exact PSubs.rfl | exact trivial | exact PSub.lit_sb rfl | refine And.intro ?_ ?_))
        all_goals first | exact PSub.int (by dsimp only; omega) | (intro q hq; exact PSubs.rfl)
    · have e : i = j := by omega
      subst e
      rw [sym_left hw hi hj hb hR h1 h2]
      refine loop_k (ι := Nat) [0, 1, 2, 3, 4, 10] [] (fun k => a ≤ k ∧ k + 1 ≤ i) (fun k => i - k) a (fun k => [(13, .pv (vint k))]) (fun k => [(900000, rowL 7 cItem (rot l a (a + 1) (k + 1)))]) [] ⟨by omega, by omega⟩ ?_ (fun k hk => ?_)
      · rw [rot_one (by omega)]
        (repeat' (first | exact PSub.rfl | exact rfl | exact PSubs.rfl | exact trivial | exact PSub.lit_sb rfl | refine And.intro ?_ ?_))
        all_goals (intro q hq; exact PSubs.rfl)
      obtain ⟨k1, k2⟩ := hk
      have hrl := rot_length l a (a + 1) (k + 1)
      conv => whnf
      repeat (any_goals (first
        | (refine ⟨fun (h : (_ : Bool) = true) => ?_, fun (h : (_ : Bool) = false) => ?_⟩ <;> (try simp only [decide_eq_true_eq, decide_eq_false_iff_not, Bool.not_eq_true', Bool.not_eq_false', Int.toNat_natCast, beq_iff_eq, decide_eq_decide, beq_eq_false_iff_ne, ne_eq, reduceCtorEq] at h) <;> (conv => whnf))
        | (refine And.intro (by (try simp only [Int.toNat_natCast]); omega) ?_; conv => whnf)
        | (refine And.intro (show (_ : Bool) = true from by kernel_rfl) ?_; conv => whnf)
        | (refine .inl ⟨wrap64 (by omega), ?_⟩; conv => whnf)))
      · have ht : (↑k + 1 : Int).toNat = k + 1 := by omega
        refine ⟨k + 1, [], ⟨by omega, by omega⟩, by omega, ?_⟩
        rw [← rot_up (by omega) (by omega)]
        have hr := fun q => swp_row (l := rot l a (a + 1) (k + 1)) (i := k) (j := k + 1) (by omega) (by omega) q
        (repeat' (first | exact PSub.rfl | exact rfl | exact PSubs.rfl | exact trivial | exact PSub.lit_sb rfl | refine And.intro ?_ ?_))
        · rw [swp_length]
        · intro q hq; exact hr q
      · have e : k + 1 = i := by omega
        subst e
        refine ⟨rfl, [], ?_⟩
        (repeat' (first | exact PSub.rfl | exact rfl | exact PSubs.rfl | exact trivial | exact PSub.lit_sb rfl | refine And.intro ?_ ?_))
        intro q hq; exact PSubs.rfl
  · have hmb2 : b = m + 1 := by omega
    subst hmb2
    refine loop_k (ι := Nat × Nat) [0, 1, 2, 3, 4] [900000] (fun x => (a ≤ x.1 ∧ x.1 ≤ x.2 ∧ x.2 ≤ m) ∧ (∀ q, a ≤ q → q < x.1 → lt (l.getD m default) (l.getD q default) = false) ∧ ∀ q, x.2 ≤ q → q < m → lt (l.getD m default) (l.getD q default) = true) (fun x => x.2 - x.1) (a, m) (fun x => [(14, .pv (vint x.1)), (15, .pv (vint x.2))]) (fun x => []) [] ⟨⟨by dsimp only; omega, by dsimp only; omega, by dsimp only; omega⟩, fun q q1 q2 => by dsimp only at q2; omega, fun q q1 q2 => by dsimp only at q1; omega⟩ ?_ (fun x hk => ?_)
    · (repeat' (first | exact PSub.rfl | exact rfl | exact PSubs.rfl | exact trivial | exact PSub.lit_sb rfl | refine And.intro ?_ ?_))
      all_goals (intro q hq; exact PSubs.rfl)
    obtain ⟨i, j⟩ := x
    obtain ⟨⟨hi, hij, hj⟩, h1, h2⟩ := hk
    dsimp only at hi hij hj h1 h2 ⊢
    conv => whnf
    repeat (any_goals (first
      | (refine ⟨fun (h : (_ : Bool) = true) => ?_, fun (h : (_ : Bool) = false) => ?_⟩ <;> (try simp only [decide_eq_true_eq, decide_eq_false_iff_not, Bool.not_eq_true', Bool.not_eq_false', Int.toNat_natCast, beq_iff_eq, decide_eq_decide, beq_eq_false_iff_ne, ne_eq, reduceCtorEq] at h) <;> (conv => whnf))
      | (refine And.intro (by (try simp only [Int.toNat_natCast]); omega) ?_; conv => whnf)
      | (refine And.intro (show (_ : Bool) = true from by kernel_rfl) ?_; conv => whnf)
      | (refine .inl ⟨wrap64 (by omega), ?_⟩; conv => whnf)))
    · rw [half64 (i + j) _ (by omega) (by omega)]
      obtain ⟨c, hcd⟩ : ∃ c, c = (i + j) / 2 := ⟨_, rfl⟩
      rw [← hcd]
      repeat (any_goals (first
        | (refine ⟨fun (h : (_ : Bool) = true) => ?_, fun (h : (_ : Bool) = false) => ?_⟩ <;> (try simp only [decide_eq_true_eq, decide_eq_false_iff_not, Bool.not_eq_true', Bool.not_eq_false', Int.toNat_natCast, beq_iff_eq, decide_eq_decide, beq_eq_false_iff_ne, ne_eq, reduceCtorEq] at h) <;> (conv => whnf))
        | (refine And.intro (by (try simp only [Int.toNat_natCast]); omega) ?_; conv => whnf)
        | (refine And.intro (show (_ : Bool) = true from by kernel_rfl) ?_; conv => whnf)
        | (refine .inl ⟨wrap64 (by omega), ?_⟩; conv => whnf)))
      refine And.intro ⟨_, _, rfl⟩ ?_
      conv => whnf
      repeat (any_goals (first
        | (refine ⟨fun (h : (_ : Bool) = true) => ?_, fun (h : (_ : Bool) = false) => ?_⟩ <;> (try simp only [decide_eq_true_eq, decide_eq_false_iff_not, Bool.not_eq_true', Bool.not_eq_false', Int.toNat_natCast, beq_iff_eq, decide_eq_decide, beq_eq_false_iff_ne, ne_eq, reduceCtorEq] at h) <;> (conv => whnf))
        | (refine And.intro (by (try simp only [Int.toNat_natCast]); omega) ?_; conv => whnf)
        | (refine And.intro (show (_ : Bool) = true from by kernel_rfl) ?_; conv => whnf)
        | (refine .inl ⟨wrap64 (by omega), ?_⟩; conv => whnf)))
      · have h3 := (hc (l.getD m default) (l.getD c default)).symm.trans (decide_eq_false h)
        refine ⟨(c + 1, j), [], ⟨⟨by dsimp only; omega, by dsimp only; omega, by dsimp only; omega⟩, fun q q1 q2 => ?_, h2⟩, by dsimp only; omega, ?_⟩
        · dsimp only at q2
          exact hw.trans _ _ _ h3 (hleL q c q1 (by omega) (by omega))
        (repeat' (first | exact PSub.rfl | exact rfl | exact PSubs.rfl | exact trivial | exact PSub.lit_sb rfl | refine And.intro ?_ ?_))
        all_goals first | exact PSub.int (by dsimp only; omega) | (intro q hq; exact PSubs.rfl)
      · have h3 := (hc (l.getD m default) (l.getD c default)).symm.trans (decide_eq_true h)
        refine ⟨(i, c), [], ⟨⟨by dsimp only; omega, by dsimp only; omega, by dsimp only; omega⟩, h1, fun q q1 q2 => ?_⟩, by dsimp only; omega, ?_⟩
        · dsimp only at q1
          exact hw.lt_le h3 (hleL c q (by omega) q1 q2)
        (repeat' (first | exact PSub.rfl | exact rfl | exact PSubs.rfl | exact trivial | exact PSub.lit_sb rfl | refine And.intro ?_ ?_))
        all_goals first | exact PSub.int (by dsimp only; omega) | (intro q hq; exact PSubs.rfl)
    · have e : i = j := by omega
      subst e
      rw [sym_right hw hi hj hb hL h1 h2]
      refine loop_k (ι := Nat) [0, 1, 2, 3, 4, 14] [] (fun k => i ≤ k ∧ k ≤ m) (fun k => k) m (fun k => [(17, .pv (vint k))]) (fun k => [(900000, rowL 7 cItem (rot l k m (m + 1)))]) [] ⟨by omega, by omega⟩ ?_ (fun k hk => ?_)
      · rw [rot_none (by omega)]
        (repeat' (first | exact PSub.rfl | exact rfl | exact PSubs.rfl | exact trivial | exact PSub.lit_sb rfl | refine And.intro ?_ ?_))
        all_goals (intro q hq; exact PSubs.rfl)
      obtain ⟨k1, k2⟩ := hk
      have hrl := rot_length l k m (m + 1)
      conv => whnf
      repeat (any_goals (first
        | (refine ⟨fun (h : (_ : Bool) = true) => ?_, fun (h : (_ : Bool) = false) => ?_⟩ <;> (try simp only [decide_eq_true_eq, decide_eq_false_iff_not, Bool.not_eq_true', Bool.not_eq_false', Int.toNat_natCast, beq_iff_eq, decide_eq_decide, beq_eq_false_iff_ne, ne_eq, reduceCtorEq] at h) <;> (conv => whnf))
        | (refine And.intro (by (try simp only [Int.toNat_natCast]); omega) ?_; conv => whnf)
        | (refine And.intro (show (_ : Bool) = true from by kernel_rfl) ?_; conv => whnf)
        | (refine .inl ⟨wrap64 (by omega), ?_⟩; conv => whnf)))
      · have ht : (↑k - 1 : Int).toNat = k - 1 := by omega
        rw [ht]
        refine ⟨k - 1, [], ⟨by omega, by omega⟩, by omega, ?_⟩
        rw [← rot_down (by omega) k2 (by omega)]
        have hr := fun q => swp_row (l := rot l k m (m + 1)) (i := k) (j := k - 1) (by omega) (by omega) q
        (repeat' (first | exact PSub.rfl | exact rfl | exact PSubs.rfl | exact trivial | exact PSub.lit_sb rfl | refine And.intro ?_ ?_))
        · rw [swp_length]
        · intro q hq; exact hr q
        · exact PSub.int (by omega)
      · have e : k = i := by omega
        subst e
        refine ⟨rfl, [], ?_⟩
        (repeat' (first | exact PSub.rfl | exact rfl | exact PSubs.rfl | exact trivial | exact PSub.lit_sb rfl | refine And.intro ?_ ?_))
        intro q hq; exact PSubs.rfl
  rw [half64 (a + b) _ (by omega) (by omega)]
  obtain ⟨b1, b2, b3, b4, b5⟩ := sym_bounds ham hmb
  have hd1 := fun c c' => symQ_down hw ham hmb hL hR (c := c) (c' := c')
  have hd2 := fun c c' => symQ_up hw ham hmb hL hR (c := c) (c' := c')
  have hfd := fun s => sym_found (s := s) hw ham hmb hb hL hR
  have hq : ∀ c, symQ lt l a m b c = lt (l.getD ((a + b) / 2 + m - 1 - c) default) (l.getD c default) := fun c => rfl
  have elo : symLo a m b = if (a + b) / 2 < m then (a + b) / 2 + m - b else a := rfl
  have ehi : symHi a m b = if (a + b) / 2 < m then (a + b) / 2 else m := rfl
  have hm1 : a ≤ (a + b) / 2 ∧ (a + b) / 2 < b ∧ b ≤ 2 * ((a + b) / 2 - a) + 1 + a := by omega
  generalize (a + b) / 2 = mid at *
  generalize symLo a m b = lo at *
  generalize symHi a m b = hi at *
  repeat (any_goals (first
    | (refine ⟨fun (h : (_ : Bool) = true) => ?_, fun (h : (_ : Bool) = false) => ?_⟩ <;> (try simp only [decide_eq_true_eq, decide_eq_false_iff_not, Bool.not_eq_true', Bool.not_eq_false', Int.toNat_natCast, beq_iff_eq, decide_eq_decide, beq_eq_false_iff_ne, ne_eq, reduceCtorEq] at h) <;> (conv => whnf))
    | (refine And.intro (by (try simp only [Int.toNat_natCast]); omega) ?_; conv => whnf)
    | (refine And.intro (show (_ : Bool) = true from by kernel_rfl) ?_; conv => whnf)
    | (refine .inl ⟨wrap64 (by omega), ?_⟩; conv => whnf)))
  · rw [if_pos (by omega)] at elo ehi
    refine loop_k (ι := Nat × Nat) [0, 1, 2, 3, 4, 18, 19, 22] [900000] (fun x => (lo ≤ x.1 ∧ x.1 ≤ x.2 ∧ x.2 ≤ hi) ∧ (∀ c, lo ≤ c → c < x.1 → symQ lt l a m b c = false) ∧ ∀ c, x.2 ≤ c → c < hi → symQ lt l a m b c = true) (fun x => x.2 - x.1) (lo, hi) (fun x => [(20, .pv (vint x.1)), (21, .pv (vint x.2))]) (fun x => []) [] ⟨⟨by dsimp only; omega, by dsimp only; omega, by dsimp only; omega⟩, fun q q1 q2 => by dsimp only at q2; omega, fun q q1 q2 => by dsimp only at q1; omega⟩ ?_ (fun x hk => ?_)
    · (repeat' (first | exact PSub.rfl | exact rfl | exact PSubs.rfl | exact trivial | exact PSub.lit_sb rfl | refine And.intro ?_ ?_))
      all_goals first | exact PSub.int (by dsimp only; omega) | (intro q hq; exact PSubs.rfl)
    obtain ⟨s, r⟩ := x
    obtain ⟨⟨hi1, hij, hj⟩, h1, h2⟩ := hk
    dsimp only at hi1 hij hj h1 h2 ⊢
    conv => whnf
    refine ⟨fun h => ?_, fun h => ?_⟩ <;> (try simp only [decide_eq_true_eq, decide_eq_false_iff_not, Bool.not_eq_true', Bool.not_eq_false', Int.toNat_natCast, beq_iff_eq, decide_eq_decide, beq_eq_false_iff_ne, ne_eq, reduceCtorEq] at h) <;> (conv => whnf)
    · repeat (any_goals (first
        | (refine ⟨fun (h : (_ : Bool) = true) => ?_, fun (h : (_ : Bool) = false) => ?_⟩ <;> (try simp only [decide_eq_true_eq, decide_eq_false_iff_not, Bool.not_eq_true', Bool.not_eq_false', Int.toNat_natCast, beq_iff_eq, decide_eq_decide, beq_eq_false_iff_ne, ne_eq, reduceCtorEq] at h) <;> (conv => whnf))
        | (refine And.intro (by (try simp only [Int.toNat_natCast]); omega) ?_; conv => whnf)
        | (refine And.intro (show (_ : Bool) = true from by kernel_rfl) ?_; conv => whnf)
        | (refine .inl ⟨wrap64 (by omega), ?_⟩; conv => whnf)))
      rw [half64 (s + r) _ (by omega) (by omega)]
      obtain ⟨c, hcd⟩ : ∃ c, c = (s + r) / 2 := ⟨_, rfl⟩
      rw [← hcd]
      have b6 := b4 c (by omega) (by omega)
      have ht : (↑mid + ↑m - 1 - ↑c : Int).toNat = mid + m - 1 - c := by omega
      repeat (any_goals (first
        | (refine ⟨fun (h : (_ : Bool) = true) => ?_, fun (h : (_ : Bool) = false) => ?_⟩ <;> (try simp only [decide_eq_true_eq, decide_eq_false_iff_not, Bool.not_eq_true', Bool.not_eq_false', Int.toNat_natCast, beq_iff_eq, decide_eq_decide, beq_eq_false_iff_ne, ne_eq, reduceCtorEq] at h) <;> (conv => whnf))
        | (refine And.intro (by (try simp only [Int.toNat_natCast]); omega) ?_; conv => whnf)
        | (refine And.intro (show (_ : Bool) = true from by kernel_rfl) ?_; conv => whnf)
        | (refine .inl ⟨wrap64 (by omega), ?_⟩; conv => whnf)))
      refine And.intro ⟨_, _, rfl⟩ ?_
      rw [ht]
      conv => whnf
      repeat (any_goals (first
        | (refine ⟨fun (h : (_ : Bool) = true) => ?_, fun (h : (_ : Bool) = false) => ?_⟩ <;> (try simp only [decide_eq_true_eq, decide_eq_false_iff_not, Bool.not_eq_true', Bool.not_eq_false', Int.toNat_natCast, beq_iff_eq, decide_eq_decide, beq_eq_false_iff_ne, ne_eq, reduceCtorEq] at h) <;> (conv => whnf))
        | (refine And.intro (by (try simp only [Int.toNat_natCast]); omega) ?_; conv => whnf)
        | (refine And.intro (show (_ : Bool) = true from by kernel_rfl) ?_; conv => whnf)
        | (refine .inl ⟨wrap64 (by omega), ?_⟩; conv => whnf)))
      · have h3 := (hc (l.getD (mid + m - 1 - c) default) (l.getD c default)).symm.trans (decide_eq_false h)
        rw [← hq] at h3
        refine ⟨(c + 1, r), [], ⟨⟨by dsimp only; omega, by dsimp only; omega, by dsimp only; omega⟩, fun q q1 q2 => ?_, h2⟩, by dsimp only; omega, ?_⟩
        · dsimp only at q2
          exact hd1 c q h3 q1 (by omega) (by omega)
        (repeat' (first | exact PSub.rfl | exact rfl | exact PSubs.rfl | exact trivial | exact PSub.lit_sb rfl | refine And.intro ?_ ?_))
        all_goals first | exact PSub.int (by dsimp only; omega) | (intro q hq; exact PSubs.rfl)
      · have h3 := (hc (l.getD (mid + m - 1 - c) default) (l.getD c default)).symm.trans (decide_eq_true h)
        rw [← hq] at h3
        refine ⟨(s, c), [], ⟨⟨by dsimp only; omega, by dsimp only; omega, by dsimp only; omega⟩, h1, fun q q1 q2 => ?_⟩, by dsimp only; omega, ?_⟩
        · dsimp only at q1
          exact hd2 c q h3 (by omega) q1 q2
        (repeat' (first | exact PSub.rfl | exact rfl | exact PSubs.rfl | exact trivial | exact PSub.lit_sb rfl | refine And.intro ?_ ?_))
        all_goals first | exact PSub.int (by dsimp only; omega) | (intro q hq; exact PSubs.rfl)
    · have e : s = r := by omega
      subst e
      have b6 := b5 s hi1 hj
      have hfin := hfd s hi1 hj h1 h2
      have hpart := rot_srt (l := l) (a := a) (m := m) (b := b) (s := s) (e := mid + m - s) (mid := mid) (by omega) (by omega) b6.1 b6.2 hb (by omega) hL hR
      have hRl := rot_length l s m (mid + m - s)
      have hnil := rot_nil (l := l) (s := s) (m := m) (e := mid + m - s) (by omega) b6.1
      have ee : ((mid + m - s : Nat) : Int) = (mid : Int) + m - s := by omega
      have c1 := fun (h1 : s < m) (h2 : m < mid + m - s) => ac_slices_rotateCmpFunc_Item l s m (mid + m - s) false cmpD gb gi hl h1 h2 (by omega)
      rw [ee] at c1
      rw [← hfin]
      obtain ⟨R, hRd⟩ : ∃ R, R = rot l s m (mid + m - s) := ⟨_, rfl⟩
      rw [← hRd] at hpart hRl hnil c1 ⊢
      obtain ⟨hR1, hR2, hR3, hR4⟩ := hpart
      obtain ⟨S, hSd⟩ : ∃ S, S = srtSeg lt R a mid := ⟨_, rfl⟩
      have hSl : S.length = R.length := by rw [hSd]; exact srtSeg_length (by omega) (by omega)
      have hS1 : srtO lt S mid (mid + m - s) := by rw [hSd]; exact srtSeg_out (by omega) (by omega) (.inr (Nat.le_refl _)) hR3
      have hS2 : srtO lt S (mid + m - s) b := by rw [hSd]; exact srtSeg_out (by omega) (by omega) (.inr (by omega)) hR4
      have hT : ¬ (mid < mid + m - s ∧ mid + m - s < b) → srtSeg lt S mid b = S := fun h => by
        rcases Nat.lt_or_ge mid (mid + m - s) with g | g
        · have g2 : mid + m - s = b := by omega
          rw [g2] at hS1
          exact srtSeg_still hw (by omega) (by omega) hS1
        · have g2 : mid + m - s = mid := by omega
          rw [g2] at hS2
          exact srtSeg_still hw (by omega) (by omega) hS2
      have hS : ¬ (a < s ∧ s < mid) → S = R := fun h => by
        rw [hSd]
        refine srtSeg_still hw (by omega) (by omega) ?_
        rcases Nat.lt_or_ge a s with g | g
        · have g2 : s = mid := by omega
          rw [g2] at hR1; exact hR1
        · have g2 : s = a := by omega
          rw [g2] at hR2; exact hR2
      have hRe : ¬ (s < m ∧ m < mid + m - s) → R = l := fun h => hnil (by omega)
      have c2 := fun (h1 : a < s) (h2 : s < mid) => ih R a s mid (by omega) (by omega) h1 h2 (by omega) hR1 hR2
      have c3 := fun (h1 : mid < mid + m - s) (h2 : mid + m - s < b) => ih S mid (mid + m - s) b (by omega) (by omega) h1 h2 (by omega) hS1 hS2
      rw [← hSd] at c2
      obtain ⟨T, hTd⟩ : ∃ T, T = srtSeg lt S mid b := ⟨_, rfl⟩
      rw [← hTd] at c3 hT
      rw [ee] at c3
      have c2l := fun (h : ¬ (s < m ∧ m < mid + m - s)) => (hRe h) ▸ c2
      have c3R := fun (h : ¬ (a < s ∧ s < mid)) => (hS h) ▸ c3
      have c3l := fun (h : ¬ (s < m ∧ m < mid + m - s)) (h' : ¬ (a < s ∧ s < mid)) => (hRe h) ▸ (c3R h')
      rw [← hSd, ← hTd]
      clear hTd hSd hRd hfin hnil hd1 hd2 hq hfd b4 b5 ih hle hleL
      repeat (any_goals (first
        | (refine ⟨fun (h : (_ : Bool) = true) => ?_, fun (h : (_ : Bool) = false) => ?_⟩ <;> (try simp only [decide_eq_true_eq, decide_eq_false_iff_not, Bool.not_eq_true', Bool.not_eq_false', Int.toNat_natCast, beq_iff_eq, decide_eq_decide, beq_eq_false_iff_ne, ne_eq, reduceCtorEq] at h) <;> (conv => whnf))
        | (refine .inr (.inr (.inr (.inr ⟨[(900000, 900000)], [], _, _, _, c1 (by omega) (by omega), rfl, ?_⟩))); conv => whnf)
        | (refine .inr (.inr (.inr (.inr ⟨[(900000, 900000)], [], _, _, _, c2 (by omega) (by omega), rfl, ?_⟩))); conv => whnf)
        | (refine .inr (.inr (.inr (.inr ⟨[(900000, 900000)], [], _, _, _, c2l (by omega) (by omega) (by omega), rfl, ?_⟩))); conv => whnf)
        | (refine .inr (.inr (.inr (.inr ⟨[(900000, 900000)], [], _, _, _, c3 (by omega) (by omega), rfl, ?_⟩))); conv => whnf)
        | (refine .inr (.inr (.inr (.inr ⟨[(900000, 900000)], [], _, _, _, c3R (by omega) (by omega) (by omega), rfl, ?_⟩))); conv => whnf)
        | (refine .inr (.inr (.inr (.inr ⟨[(900000, 900000)], [], _, _, _, c3l (by omega) (by omega) (by omega) (by omega), rfl, ?_⟩))); conv => whnf)
        | (refine And.intro (by (try simp only [Int.toNat_natCast]); omega) ?_; conv => whnf)
        | (refine And.intro (show (_ : Bool) = true from by kernel_rfl) ?_; conv => whnf)
        | (refine .inl ⟨wrap64 (by omega), ?_⟩; conv => whnf)))
      all_goals first
        | (refine ⟨rfl, [], ?_⟩; (repeat' (first | exact PSub.rfl | exact rfl | exact PSubs.rfl | exact trivial | exact PSub.lit_sb rfl | refine And.intro ?_ ?_)); (intro q hq; exact PSubs.rfl))
        | (rw [hT (by omega)]; (refine ⟨rfl, [], ?_⟩; (repeat' (first | exact PSub.rfl | exact rfl | exact PSubs.rfl | exact trivial | exact PSub.lit_sb rfl | refine And.intro ?_ ?_)); (intro q hq; exact PSubs.rfl)))
        | (rw [hT (by omega), hS (by omega)]; (refine ⟨rfl, [], ?_⟩; (repeat' (first | exact PSub.rfl | exact rfl | exact PSubs.rfl | exact trivial | exact PSub.lit_sb rfl | refine And.intro ?_ ?_)); (intro q hq; exact PSubs.rfl)))
        | (rw [hS (by omega)] at hT; rw [hRe (by omega)] at hT; rw [hT (by omega)]; (refine ⟨rfl, [], ?_⟩; (repeat' (first | exact PSub.rfl | exact rfl | exact PSubs.rfl | exact trivial | exact PSub.lit_sb rfl | refine And.intro ?_ ?_)); (intro q hq; exact PSubs.rfl)))
        | (rw [hRe (by omega)] at hS; rw [hT (by omega), hS (by omega)]; (refine ⟨rfl, [], ?_⟩; (repeat' (first | exact PSub.rfl | exact rfl | exact PSubs.rfl | exact trivial | exact PSub.lit_sb rfl | refine And.intro ?_ ?_)); (intro q hq; exact PSubs.rfl)))
  · rw [if_neg (by omega)] at elo ehi
    refine loop_k (ι := Nat × Nat) [0, 1, 2, 3, 4, 18, 19, 22] [900000] (fun x => (lo ≤ x.1 ∧ x.1 ≤ x.2 ∧ x.2 ≤ hi) ∧ (∀ c, lo ≤ c → c < x.1 → symQ lt l a m b c = false) ∧ ∀ c, x.2 ≤ c → c < hi → symQ lt l a m b c = true) (fun x => x.2 - x.1) (lo, hi) (fun x => [(20, .pv (vint x.1)), (21, .pv (vint x.2))]) (fun x => []) [] ⟨⟨by dsimp only; omega, by dsimp only; omega, by dsimp only; omega⟩, fun q q1 q2 => by dsimp only at q2; omega, fun q q1 q2 => by dsimp only at q1; omega⟩ ?_ (fun x hk => ?_)
    · (repeat' (first | exact PSub.rfl | exact rfl | exact PSubs.rfl | exact trivial | exact PSub.lit_sb rfl | refine And.intro ?_ ?_))
      all_goals first | exact PSub.int (by dsimp only; omega) | (intro q hq; exact PSubs.rfl)
    obtain ⟨s, r⟩ := x
    obtain ⟨⟨hi1, hij, hj⟩, h1, h2⟩ := hk
    dsimp only at hi1 hij hj h1 h2 ⊢
    conv => whnf
    refine ⟨fun h => ?_, fun h => ?_⟩ <;> (try simp only [decide_eq_true_eq, decide_eq_false_iff_not, Bool.not_eq_true', Bool.not_eq_false', Int.toNat_natCast, beq_iff_eq, decide_eq_decide, beq_eq_false_iff_ne, ne_eq, reduceCtorEq] at h) <;> (conv => whnf)
    · repeat (any_goals (first
        | (refine ⟨fun (h : (_ : Bool) = true) => ?_, fun (h : (_ : Bool) = false) => ?_⟩ <;> (try simp only [decide_eq_true_eq, decide_eq_false_iff_not, Bool.not_eq_true', Bool.not_eq_false', Int.toNat_natCast, beq_iff_eq, decide_eq_decide, beq_eq_false_iff_ne, ne_eq, reduceCtorEq] at h) <;> (conv => whnf))
        | (refine And.intro (by (try simp only [Int.toNat_natCast]); omega) ?_; conv => whnf)
        | (refine And.intro (show (_ : Bool) = true from by kernel_rfl) ?_; conv => whnf)
        | (refine .inl ⟨wrap64 (by omega), ?_⟩; conv => whnf)))
      rw [half64 (s + r) _ (by omega) (by omega)]
      obtain ⟨c, hcd⟩ : ∃ c, c = (s + r) / 2 := ⟨_, rfl⟩
      rw [← hcd]
      have b6 := b4 c (by omega) (by omega)
      have ht : (↑mid + ↑m - 1 - ↑c : Int).toNat = mid + m - 1 - c := by omega
      repeat (any_goals (first
        | (refine ⟨fun (h : (_ : Bool) = true) => ?_, fun (h : (_ : Bool) = false) => ?_⟩ <;> (try simp only [decide_eq_true_eq, decide_eq_false_iff_not, Bool.not_eq_true', Bool.not_eq_false', Int.toNat_natCast, beq_iff_eq, decide_eq_decide, beq_eq_false_iff_ne, ne_eq, reduceCtorEq] at h) <;> (conv => whnf))
        | (refine And.intro (by (try simp only [Int.toNat_natCast]); omega) ?_; conv => whnf)
        | (refine And.intro (show (_ : Bool) = true from by kernel_rfl) ?_; conv => whnf)
        | (refine .inl ⟨wrap64 (by omega), ?_⟩; conv => whnf)))
      refine And.intro ⟨_, _, rfl⟩ ?_
      rw [ht]
      conv => whnf
      repeat (any_goals (first
        | (refine ⟨fun (h : (_ : Bool) = true) => ?_, fun (h : (_ : Bool) = false) => ?_⟩ <;> (try simp only [decide_eq_true_eq, decide_eq_false_iff_not, Bool.not_eq_true', Bool.not_eq_false', Int.toNat_natCast, beq_iff_eq, decide_eq_decide, beq_eq_false_iff_ne, ne_eq, reduceCtorEq] at h) <;> (conv => whnf))
        | (refine And.intro (by (try simp only [Int.toNat_natCast]); omega) ?_; conv => whnf)
        | (refine And.intro (show (_ : Bool) = true from by kernel_rfl) ?_; conv => whnf)
        | (refine .inl ⟨wrap64 (by omega), ?_⟩; conv => whnf)))
      · have h3 := (hc (l.getD (mid + m - 1 - c) default) (l.getD c default)).symm.trans (decide_eq_false h)
        rw [← hq] at h3
        refine ⟨(c + 1, r), [], ⟨⟨by dsimp only; omega, by dsimp only; omega, by dsimp only; omega⟩, fun q q1 q2 => ?_, h2⟩, by dsimp only; omega, ?_⟩
        · dsimp only at q2
          exact hd1 c q h3 q1 (by omega) (by omega)
        (repeat' (first | exact PSub.rfl | exact rfl | exact PSubs.rfl | exact trivial | exact PSub.lit_sb rfl | refine And.intro ?_ ?_))
        all_goals first | exact PSub.int (by dsimp only; omega) | (intro q hq; exact PSubs.rfl)
      · have h3 := (hc (l.getD (mid + m - 1 - c) default) (l.getD c default)).symm.trans (decide_eq_true h)
        rw [← hq] at h3
        refine ⟨(s, c), [], ⟨⟨by dsimp only; omega, by dsimp only; omega, by dsimp only; omega⟩, h1, fun q q1 q2 => ?_⟩, by dsimp only; omega, ?_⟩
        · dsimp only at q1
          exact hd2 c q h3 (by omega) q1 q2
        (repeat' (first | exact PSub.rfl | exact rfl | exact PSubs.rfl | exact trivial | exact PSub.lit_sb rfl | refine And.intro ?_ ?_))
        all_goals first | exact PSub.int (by dsimp only; omega) | (intro q hq; exact PSubs.rfl)
    · have e : s = r := by omega
      subst e
      have b6 := b5 s hi1 hj
      have hfin := hfd s hi1 hj h1 h2
      have hpart := rot_srt (l := l) (a := a) (m := m) (b := b) (s := s) (e := mid + m - s) (mid := mid) (by omega) (by omega) b6.1 b6.2 hb (by omega) hL hR
      have hRl := rot_length l s m (mid + m - s)
      have hnil := rot_nil (l := l) (s := s) (m := m) (e := mid + m - s) (by omega) b6.1
      have ee : ((mid + m - s : Nat) : Int) = (mid : Int) + m - s := by omega
      have c1 := fun (h1 : s < m) (h2 : m < mid + m - s) => ac_slices_rotateCmpFunc_Item l s m (mid + m - s) false cmpD gb gi hl h1 h2 (by omega)
      rw [ee] at c1
      rw [← hfin]
      obtain ⟨R, hRd⟩ : ∃ R, R = rot l s m (mid + m - s) := ⟨_, rfl⟩
      rw [← hRd] at hpart hRl hnil c1 ⊢
      obtain ⟨hR1, hR2, hR3, hR4⟩ := hpart
      obtain ⟨S, hSd⟩ : ∃ S, S = srtSeg lt R a mid := ⟨_, rfl⟩
      have hSl : S.length = R.length := by rw [hSd]; exact srtSeg_length (by omega) (by omega)
      have hS1 : srtO lt S mid (mid + m - s) := by rw [hSd]; exact srtSeg_out (by omega) (by omega) (.inr (Nat.le_refl _)) hR3
      have hS2 : srtO lt S (mid + m - s) b := by rw [hSd]; exact srtSeg_out (by omega) (by omega) (.inr (by omega)) hR4
      have hT : ¬ (mid < mid + m - s ∧ mid + m - s < b) → srtSeg lt S mid b = S := fun h => by
        rcases Nat.lt_or_ge mid (mid + m - s) with g | g
        · have g2 : mid + m - s = b := by omega
          rw [g2] at hS1
          exact srtSeg_still hw (by omega) (by omega) hS1
        · have g2 : mid + m - s = mid := by omega
          rw [g2] at hS2
          exact srtSeg_still hw (by omega) (by omega) hS2
      have hS : ¬ (a < s ∧ s < mid) → S = R := fun h => by
        rw [hSd]
        refine srtSeg_still hw (by omega) (by omega) ?_
        rcases Nat.lt_or_ge a s with g | g
        · have g2 : s = mid := by omega
          rw [g2] at hR1; exact hR1
        · have g2 : s = a := by omega
          rw [g2] at hR2; exact hR2
      have hRe : ¬ (s < m ∧ m < mid + m - s) → R = l := fun h => hnil (by omega)
      have c2 := fun (h1 : a < s) (h2 : s < mid) => ih R a s mid (by omega) (by omega) h1 h2 (by omega) hR1 hR2
      have c3 := fun (h1 : mid < mid + m - s) (h2 : mid + m - s < b) => ih S mid (mid + m - s) b (by omega) (by omega) h1 h2 (by omega) hS1 hS2
      rw [← hSd] at c2
      obtain ⟨T, hTd⟩ : ∃ T, T = srtSeg lt S mid b := ⟨_, rfl⟩
      rw [← hTd] at c3 hT
      rw [ee] at c3
      have c2l := fun (h : ¬ (s < m ∧ m < mid + m - s)) => (hRe h) ▸ c2
      have c3R := fun (h : ¬ (a < s ∧ s < mid)) => (hS h) ▸ c3
      have c3l := fun (h : ¬ (s < m ∧ m < mid + m - s)) (h' : ¬ (a < s ∧ s < mid)) => (hRe h) ▸ (c3R h')
      rw [← hSd, ← hTd]
      clear hTd hSd hRd hfin hnil hd1 hd2 hq hfd b4 b5 ih hle hleL
      repeat (any_goals (first
        | (refine ⟨fun (h : (_ : Bool) = true) => ?_, fun (h : (_ : Bool) = false) => ?_⟩ <;> (try simp only [decide_eq_true_eq, decide_eq_false_iff_not, Bool.not_eq_true', Bool.not_eq_false', Int.toNat_natCast, beq_iff_eq, decide_eq_decide, beq_eq_false_iff_ne, ne_eq, reduceCtorEq] at h) <;> (conv => whnf))
        | (refine .inr (.inr (.inr (.inr ⟨[(900000, 900000)], [], _, _, _, c1 (by omega) (by omega), rfl, ?_⟩))); conv => whnf)
        | (refine .inr (.inr (.inr (.inr ⟨[(900000, 900000)], [], _, _, _, c2 (by omega) (by omega), rfl, ?_⟩))); conv => whnf)
        | (refine .inr (.inr (.inr (.inr ⟨[(900000, 900000)], [], _, _, _, c2l (by omega) (by omega) (by omega), rfl, ?_⟩))); conv => whnf)
        | (refine .inr (.inr (.inr (.inr ⟨[(900000, 900000)], [], _, _, _, c3 (by omega) (by omega), rfl, ?_⟩))); conv => whnf)
        | (refine .inr (.inr (.inr (.inr ⟨[(900000, 900000)], [], _, _, _, c3R (by omega) (by omega) (by omega), rfl, ?_⟩))); conv => whnf)
        | (refine .inr (.inr (.inr (.inr ⟨[(900000, 900000)], [], _, _, _, c3l (by omega) (by omega) (by omega) (by omega), rfl, ?_⟩))); conv => whnf)
        | (refine And.intro (by (try simp only [Int.toNat_natCast]); omega) ?_; conv => whnf)
        | (refine And.intro (show (_ : Bool) = true from by kernel_rfl) ?_; conv => whnf)
        | (refine .inl ⟨wrap64 (by omega), ?_⟩; conv => whnf)))
      all_goals first
        | (refine ⟨rfl, [], ?_⟩; (repeat' (first | exact PSub.rfl | exact rfl | exact PSubs.rfl | exact trivial | exact PSub.lit_sb rfl | refine And.intro ?_ ?_)); (intro q hq; exact PSubs.rfl))
        | (rw [hT (by omega)]; (refine ⟨rfl, [], ?_⟩; (repeat' (first | exact PSub.rfl | exact rfl | exact PSubs.rfl | exact trivial | exact PSub.lit_sb rfl | refine And.intro ?_ ?_)); (intro q hq; exact PSubs.rfl)))
        | (rw [hT (by omega), hS (by omega)]; (refine ⟨rfl, [], ?_⟩; (repeat' (first | exact PSub.rfl | exact rfl | exact PSubs.rfl | exact trivial | exact PSub.lit_sb rfl | refine And.intro ?_ ?_)); (intro q hq; exact PSubs.rfl)))
        | (rw [hS (by omega)] at hT; rw [hRe (by omega)] at hT; rw [hT (by omega)]; (refine ⟨rfl, [], ?_⟩; (repeat' (first | exact PSub.rfl | exact rfl | exact PSubs.rfl | exact trivial | exact PSub.lit_sb rfl | refine And.intro ?_ ?_)); (intro q hq; exact PSubs.rfl)))
        | (rw [hRe (by omega)] at hS; rw [hT (by omega), hS (by omega)]; (refine ⟨rfl, [], ?_⟩; (repeat' (first | exact PSub.rfl | exact rfl | exact PSubs.rfl | exact trivial | exact PSub.lit_sb rfl | refine And.intro ?_ ?_)); (intro q hq; exact PSubs.rfl)))
end Go.Abs

namespace Go.Abs
open Go.Proofs
set_option maxRecDepth 10000
set_option maxHeartbeats 2000000 in
theorem ac_slices_stableCmpFunc_Item (l : List Item) (gb : List PV → Bool) (gi : List PV → Int) (lt : Item → Item → Bool) (hw : SWO lt) (hc : CmpS gi lt) (hl : l.length ≤ 1048576) :
    AC Tryd.prog 55 [.own 900000, .pv (vint l.length), .clo cmpD false gb gi] [(900000, rowL 7 cItem l)] (.pv (.tup [])) [(900000, rowL 7 cItem (isortR lt l))] := by
  have sym := fun k a m b hk h1 h2 h3 h4 h5 => ac_sym_n gb gi lt hw hc b k a m b (Nat.sub_le _ _) hk h1 h2 h3 h4 h5
  refine AC.of_awp_gen (T := T) T_ok hm Tryd.call55 Tryd.func55 rfl rfl rfl rfl rfl rfl ?_
  conv => whnf
  refine loop_k (ι := Nat × List Item) [0, 1, 2, 6] [] (fun x => (x.2.length = l.length ∧ x.1 ≤ l.length) ∧ DoneB lt x.2 20 x.1 ∧ srtSeg lt x.2 0 l.length = srtSeg lt l 0 l.length) (fun x => l.length - x.1) (0, l) (fun x => [(7, .pv (vint x.1)), (8, .pv (.val (.int .i64 ((x.1 : Int) + 20))))]) (fun x => [(900000, rowL 7 cItem x.2)]) [] ⟨⟨rfl, Nat.zero_le _⟩, .zero, rfl⟩ ?_ (fun x hk => ?_)
  · (repeat' (first | exact PSub.rfl | exact rfl | exact PSubs.rfl | exact trivial | exact PSub.lit_sb rfl | refine And.intro ?_ ?_))
    all_goals (intro q hq; exact PSubs.rfl)
  obtain ⟨a, cur⟩ := x
  obtain ⟨⟨hcl, han⟩, hd, hs⟩ := hk
  dsimp only at hcl han hd hs ⊢
  have c1 := fun (h : a + 20 ≤ l.length) => ac_slices_insertionSortCmpFunc_Item cur a (a + 20) gb gi lt hw hc (by omega) (by omega) (by omega)
  have c2 := ac_slices_insertionSortCmpFunc_Item cur a l.length gb gi lt hw hc (by omega) (by omega) (by omega)
  rw [show ((a + 20 : Nat) : Int) = (a : Int) + 20 from by omega] at c1
  conv => whnf
  refine ⟨fun h => ?_, fun h => ?_⟩ <;> (try simp only [decide_eq_true_eq, decide_eq_false_iff_not, Bool.not_eq_true', Bool.not_eq_false', Int.toNat_natCast, beq_iff_eq, decide_eq_decide, beq_eq_false_iff_ne, ne_eq, reduceCtorEq] at h) <;> (conv => whnf)
  · repeat (any_goals (first
      | (refine ⟨fun (h : (_ : Bool) = true) => ?_, fun (h : (_ : Bool) = false) => ?_⟩ <;> (try simp only [decide_eq_true_eq, decide_eq_false_iff_not, Bool.not_eq_true', Bool.not_eq_false', Int.toNat_natCast, beq_iff_eq, decide_eq_decide, beq_eq_false_iff_ne, ne_eq, reduceCtorEq] at h) <;> (conv => whnf))
      | (refine .inr (.inr (.inr (.inr ⟨[(900000, 900000)], [], _, _, _, c1 (by omega), rfl, ?_⟩))); conv => whnf)
      | (refine And.intro (by (try simp only [Int.toNat_natCast]); omega) ?_; conv => whnf)
      | (refine And.intro (show (_ : Bool) = true from by kernel_rfl) ?_; conv => whnf)
      | (refine .inl ⟨wrap64 (by omega), ?_⟩; conv => whnf)))
    have hsl := srtSeg_length (lt := lt) (l := cur) (a := a) (b := a + 20) (by omega) (by omega)
    refine ⟨(a + 20, srtSeg lt cur a (a + 20)), [], ⟨⟨by dsimp only; omega, by dsimp only; omega⟩, blk_first hw (by omega) hd, by dsimp only; rw [srtSeg_absorb hw (Nat.zero_le _) (by omega) (by omega) (by omega)]; exact hs⟩, by dsimp only; omega, ?_⟩
    (repeat' (first | exact PSub.rfl | exact rfl | exact PSubs.rfl | exact trivial | exact PSub.lit_sb rfl | refine And.intro ?_ ?_))
    all_goals first | exact PSub.int (by dsimp only; omega) | (intro q hq; exact PSubs.rfl)
  have hr := blk_first_end (n := l.length) hw han (by omega) (show l.length < a + 20 by omega) hd
  have hsl := srtSeg_length (lt := lt) (l := cur) (a := a) (b := l.length) (by omega) (by omega)
  have hs1 : srtSeg lt (srtSeg lt cur a l.length) 0 l.length = srtSeg lt l 0 l.length := by
    rw [srtSeg_absorb hw (Nat.zero_le _) (by omega) (Nat.le_refl _) (by omega)]; exact hs
  repeat (any_goals (first
    | (refine ⟨fun (h : (_ : Bool) = true) => ?_, fun (h : (_ : Bool) = false) => ?_⟩ <;> (try simp only [decide_eq_true_eq, decide_eq_false_iff_not, Bool.not_eq_true', Bool.not_eq_false', Int.toNat_natCast, beq_iff_eq, decide_eq_decide, beq_eq_false_iff_ne, ne_eq, reduceCtorEq] at h) <;> (conv => whnf))
    | (refine .inr (.inr (.inr (.inr ⟨[(900000, 900000)], [], _, _, _, c2, rfl, ?_⟩))); conv => whnf)
    | (refine And.intro (by (try simp only [Int.toNat_natCast]); omega) ?_; conv => whnf)
    | (refine And.intro (show (_ : Bool) = true from by kernel_rfl) ?_; conv => whnf)
    | (refine .inl ⟨wrap64 (by omega), ?_⟩; conv => whnf)))
  clear c1 c2 hd hs
  generalize srtSeg lt cur a l.length = cur1 at *
  refine loop_k (ι := Nat × List Item) [0, 1, 2] [] (fun x => (x.2.length = l.length ∧ 0 < x.1 ∧ x.1 ≤ 2097152) ∧ RestB lt x.2 x.1 l.length 0 ∧ srtSeg lt x.2 0 l.length = srtSeg lt l 0 l.length) (fun x => l.length - x.1) (20, cur1) (fun x => [(6, .pv (vint x.1))]) (fun x => [(900000, rowL 7 cItem x.2)]) [] ⟨⟨by dsimp only; omega, by dsimp only; omega, by dsimp only; omega⟩, hr, hs1⟩ ?_ (fun x hk => ?_)
  · (repeat' (first | exact PSub.rfl | exact rfl | exact PSubs.rfl | exact trivial | exact PSub.lit_sb rfl | refine And.intro ?_ ?_))
    all_goals (intro q hq; exact PSubs.rfl)
  clear hsl hr hs1 hcl han
  obtain ⟨B, cur⟩ := x
  obtain ⟨⟨hcl, hB, hB2⟩, hr, hs⟩ := hk
  dsimp only at hcl hB hB2 hr hs ⊢
  conv => whnf
  refine ⟨fun h => ?_, fun h => ?_⟩ <;> (try simp only [decide_eq_true_eq, decide_eq_false_iff_not, Bool.not_eq_true', Bool.not_eq_false', Int.toNat_natCast, beq_iff_eq, decide_eq_decide, beq_eq_false_iff_ne, ne_eq, reduceCtorEq] at h) <;> (conv => whnf)
  · repeat (any_goals (first
      | (refine ⟨fun (h : (_ : Bool) = true) => ?_, fun (h : (_ : Bool) = false) => ?_⟩ <;> (try simp only [decide_eq_true_eq, decide_eq_false_iff_not, Bool.not_eq_true', Bool.not_eq_false', Int.toNat_natCast, beq_iff_eq, decide_eq_decide, beq_eq_false_iff_ne, ne_eq, reduceCtorEq] at h) <;> (conv => whnf))
      | (refine And.intro (by (try simp only [Int.toNat_natCast]); omega) ?_; conv => whnf)
      | (refine And.intro (show (_ : Bool) = true from by kernel_rfl) ?_; conv => whnf)
      | (refine .inl ⟨wrap64 (by omega), ?_⟩; conv => whnf)))
    refine loop_k (ι := Nat × List Item) [0, 1, 2, 6] [] (fun x => (x.2.length = l.length ∧ x.1 ≤ l.length) ∧ DoneB lt x.2 (2 * B) x.1 ∧ RestB lt x.2 B l.length x.1 ∧ srtSeg lt x.2 0 l.length = srtSeg lt l 0 l.length) (fun x => l.length - x.1) (0, cur) (fun x => [(7, .pv (vint x.1)), (8, .pv (.val (.int .i64 ((x.1 : Int) + 2 * B))))]) (fun x => [(900000, rowL 7 cItem x.2)]) [] ⟨⟨hcl, Nat.zero_le _⟩, .zero, hr, hs⟩ ?_ (fun x hk => ?_)
    · (repeat' (first | exact PSub.rfl | exact rfl | exact PSubs.rfl | exact trivial | exact PSub.lit_sb rfl | refine And.intro ?_ ?_))
      all_goals first | exact PSub.int (by dsimp only; omega) | (intro q hq; exact PSubs.rfl)
    clear hcl hr hs
    obtain ⟨a, cur⟩ := x
    obtain ⟨⟨hcl, han⟩, hd, hr, hs⟩ := hk
    dsimp only at hcl han hd hr hs ⊢
    conv => whnf
    refine ⟨fun h => ?_, fun h => ?_⟩ <;> (try simp only [decide_eq_true_eq, decide_eq_false_iff_not, Bool.not_eq_true', Bool.not_eq_false', Int.toNat_natCast, beq_iff_eq, decide_eq_decide, beq_eq_false_iff_ne, ne_eq, reduceCtorEq] at h) <;> (conv => whnf)
    · obtain ⟨q1, q2, q3, q4⟩ := blk_merge hw hB (by omega) (show a + 2 * B ≤ l.length by omega) hd hr
      have c1 := sym cur a (a + B) (a + 2 * B) (by omega) (by omega) (by omega) (by omega) q1 q2
      rw [show ((a + 2 * B : Nat) : Int) = (a : Int) + 2 * B from by omega, show ((a + B : Nat) : Int) = (a : Int) + B from by omega] at c1
      have hsl := srtSeg_length (lt := lt) (l := cur) (a := a) (b := a + 2 * B) (by omega) (by omega)
      repeat (any_goals (first
        | (refine ⟨fun (h : (_ : Bool) = true) => ?_, fun (h : (_ : Bool) = false) => ?_⟩ <;> (try simp only [decide_eq_true_eq, decide_eq_false_iff_not, Bool.not_eq_true', Bool.not_eq_false', Int.toNat_natCast, beq_iff_eq, decide_eq_decide, beq_eq_false_iff_ne, ne_eq, reduceCtorEq] at h) <;> (conv => whnf))
        | (refine .inr (.inr (.inr (.inr ⟨[(900000, 900000)], [], _, _, _, c1, rfl, ?_⟩))); conv => whnf)
        | (refine And.intro (by (try simp only [Int.toNat_natCast]); omega) ?_; conv => whnf)
        | (refine And.intro (show (_ : Bool) = true from by kernel_rfl) ?_; conv => whnf)
        | (refine .inl ⟨wrap64 (by omega), ?_⟩; conv => whnf)))
      refine ⟨(a + 2 * B, srtSeg lt cur a (a + 2 * B)), [], ⟨⟨by dsimp only; omega, by dsimp only; omega⟩, q3, q4, by dsimp only; rw [srtSeg_absorb hw (Nat.zero_le _) (by omega) (by omega) (by omega)]; exact hs⟩, by dsimp only; omega, ?_⟩
      (repeat' (first | exact PSub.rfl | exact rfl | exact PSubs.rfl | exact trivial | exact PSub.lit_sb rfl | refine And.intro ?_ ?_))
      all_goals first | exact PSub.int (by dsimp only; omega) | (intro q hq; exact PSubs.rfl)
    · have hsl := srtSeg_length (lt := lt) (l := cur) (a := a) (b := l.length) (by omega) (by omega)
      have c1 := fun (h : a + B < l.length) => (sym cur a (a + B) l.length (by omega) (by omega) (by omega) (by omega) (blk_end hw (by omega) (show l.length < a + 2 * B by omega) h hd hr).1 (blk_end hw (by omega) (show l.length < a + 2 * B by omega) h hd hr).2.1)
      rw [show ((a + B : Nat) : Int) = (a : Int) + B from by omega] at c1
      repeat (any_goals (first
        | (refine ⟨fun (h : (_ : Bool) = true) => ?_, fun (h : (_ : Bool) = false) => ?_⟩ <;> (try simp only [decide_eq_true_eq, decide_eq_false_iff_not, Bool.not_eq_true', Bool.not_eq_false', Int.toNat_natCast, beq_iff_eq, decide_eq_decide, beq_eq_false_iff_ne, ne_eq, reduceCtorEq] at h) <;> (conv => whnf))
        | (refine .inr (.inr (.inr (.inr ⟨[(900000, 900000)], [], _, _, _, c1 (by omega), rfl, ?_⟩))); conv => whnf)
        | (refine And.intro (by (try simp only [Int.toNat_natCast]); omega) ?_; conv => whnf)
        | (refine And.intro (show (_ : Bool) = true from by kernel_rfl) ?_; conv => whnf)
        | (refine .inl ⟨wrap64 (by omega), ?_⟩; conv => whnf)))
      · refine ⟨(2 * B, srtSeg lt cur a l.length), [], ⟨⟨by dsimp only; omega, by dsimp only; omega, by dsimp only; omega⟩, (blk_end hw (by omega) (show l.length < a + 2 * B by omega) (by omega) hd hr).2.2, by dsimp only; rw [srtSeg_absorb hw (Nat.zero_le _) (by omega) (by omega) (by omega)]; exact hs⟩, by dsimp only; omega, ?_⟩
        (repeat' (first | exact PSub.rfl | exact rfl | exact PSubs.rfl | exact trivial | exact PSub.lit_sb rfl | refine And.intro ?_ ?_))
        all_goals first | exact PSub.int (by dsimp only; omega) | (intro q hq; exact PSubs.rfl)
      · refine ⟨(2 * B, cur), [], ⟨⟨by dsimp only; omega, by dsimp only; omega, by dsimp only; omega⟩, blk_end1 (by omega) hd hr, hs⟩, by dsimp only; omega, ?_⟩
        (repeat' (first | exact PSub.rfl | exact rfl | exact PSubs.rfl | exact trivial | exact PSub.lit_sb rfl | refine And.intro ?_ ?_))
        all_goals first | exact PSub.int (by dsimp only; omega) | (intro q hq; exact PSubs.rfl)
  · have e : cur = isortR lt l := srt_whole hw hcl (by rw [hcl]; exact hs) (by rw [hcl]; exact hr.whole (by omega))
    rw [← e]
    refine ⟨rfl, [], ?_⟩
    (repeat' (first | exact PSub.rfl | exact rfl | exact PSubs.rfl | exact trivial | exact PSub.lit_sb rfl | refine And.intro ?_ ?_))
    intro q hq; exact PSubs.rfl
theorem ac_slices_SortStableFunc_Item_c (l : List Item) (gb : List PV → Bool) (gi : List PV → Int) (lt : Item → Item → Bool) (hw : SWO lt) (hc : CmpS gi lt) (hl : l.length ≤ 1048576) :
    AC Tryd.prog 31 [.own 900000, .clo cmpD false gb gi] [(900000, rowL 7 cItem l)] (.pv (.tup [])) [(900000, rowL 7 cItem (isortR lt l))] := by
  refine AC.of_awp_gen (T := T) T_ok hm Tryd.call31 Tryd.func31 rfl rfl rfl rfl rfl rfl ?_
  conv => whnf
  repeat (any_goals (first
    | (refine ⟨fun (h : (_ : Bool) = true) => ?_, fun (h : (_ : Bool) = false) => ?_⟩ <;> (try simp only [decide_eq_true_eq, decide_eq_false_iff_not, Bool.not_eq_true', Bool.not_eq_false', Int.toNat_natCast, beq_iff_eq, decide_eq_decide, beq_eq_false_iff_ne, ne_eq, reduceCtorEq] at h) <;> (conv => whnf))
    | (refine .inr (.inr (.inr (.inr ⟨[(900000, 900000)], [], _, _, _, ac_slices_stableCmpFunc_Item l gb gi lt hw hc hl, rfl, ?_⟩))); conv => whnf)
    | (refine And.intro (by (try simp only [Int.toNat_natCast]); omega) ?_; conv => whnf)
    | (refine And.intro (show (_ : Bool) = true from by kernel_rfl) ?_; conv => whnf)
    | (refine .inl ⟨wrap64 (by omega), ?_⟩; conv => whnf)))
  refine ⟨rfl, [], ?_⟩
  (repeat' (first | exact PSub.rfl | exact rfl | exact PSubs.rfl | exact trivial | exact PSub.lit_sb rfl | refine And.intro ?_ ?_))
  intro q hq; exact PSubs.rfl
theorem ac_slices_SortStableFunc_Item (F : Nat) (hcall : ∀ (vals : Array Value) (w : World), (callFunc F vals).run Tryd.prog w = .ok (.enter F vals) w) (gi : List PV → Int) (lt : Item → Item → Bool) (hw : SWO lt) (hc : CmpS gi lt)
    (hF : ∀ x y : Item, AC Tryd.prog F [.pv (.agg (cItem x)), .pv (.agg (cItem y))] [] (.pv (vint (gi [.agg (cItem x), .agg (cItem y)]))) []) (l : List Item) (hl : l.length ≤ 1048576) :
    AC Tryd.prog 31 [.own 900000, .fn F []] [(900000, rowL 7 cItem l)] (.pv (.tup [])) [(900000, rowL 7 cItem (isortR lt l))] := by
  refine AC.with_fn_rows (caps := []) (pre := [.own 900000]) (post := []) (ac_slices_SortStableFunc_Item_c l (fun _ => false) gi lt hw hc hl) hcall rfl rfl rfl rfl rfl ?_
  rintro xs ⟨x, y, rfl⟩
  exact hF x y
end Go.Abs

namespace Go.Abs
open Go.Proofs
set_option maxRecDepth 10000
def vLt (a b : Item) : Bool := decide (a.version < b.version)
theorem vLt_swo : SWO vLt := ⟨fun a b h => by simp only [vLt, decide_eq_true_eq, decide_eq_false_iff_not] at *; omega, fun a b c h k => by simp only [vLt, decide_eq_false_iff_not] at *; omega⟩
def vCmp : List PV → Int
  | [.agg [_, _, _, _, _, _, .val (.int .i64 a)], .agg [_, _, _, _, _, _, .val (.int .i64 b)]] => if a < b then -1 else if a = b then 0 else 1
  | _ => 0
theorem vCmp_item (x y : Item) : vCmp [.agg (cItem x), .agg (cItem y)] = if x.version < y.version then -1 else if x.version = y.version then 0 else 1 := rfl
theorem vCmp_s : CmpS vCmp vLt := fun x y => by
  rw [vCmp_item, vLt]
  (repeat' split) <;> simp_all
theorem ac_shadow_Pending_1 (x y : Item) : AC Tryd.prog 32 [.pv (.agg (cItem x)), .pv (.agg (cItem y))] [] (.pv (vint (vCmp [.agg (cItem x), .agg (cItem y)]))) [] := by
  rw [vCmp_item]
  refine AC.of_awp (T := T) T_ok hm Tryd.call32 Tryd.func32 rfl rfl rfl ?_
  conv => whnf
  repeat (any_goals (first
    | (refine ⟨fun (h : (_ : Bool) = true) => ?_, fun (h : (_ : Bool) = false) => ?_⟩ <;> (try simp only [decide_eq_true_eq, decide_eq_false_iff_not, Bool.not_eq_true', Bool.not_eq_false', Int.toNat_natCast, beq_iff_eq, decide_eq_decide, beq_eq_false_iff_ne, ne_eq, reduceCtorEq] at h) <;> (conv => whnf))
    | (refine And.intro (by (try simp only [Int.toNat_natCast]); omega) ?_; conv => whnf)
    | (refine And.intro (show (_ : Bool) = true from by kernel_rfl) ?_; conv => whnf)
    | (refine .inl ⟨wrap64 (by omega), ?_⟩; conv => whnf)))
  · rw [item_eq] at h
    have e := of_decide_eq_true h
    subst e
    exact PSub.int (by rw [if_neg (Int.lt_irrefl _), if_pos rfl])
  · exact PSub.int (by rw [if_neg (by omega), if_pos h])
  · exact PSub.int (by rw [if_pos h])
  · exact PSub.int (by rw [if_neg h, if_neg (by assumption)])
def penF (s : Shd) (x : Item) : Bool := decide (s.done < x.version)
def penL (s : Shd) : List Item := isortR vLt (s.desired.filter (penF s))
theorem fil_snoc {α : Type} [Inhabited α] (p : α → Bool) {l : List α} {k : Nat} (h : k < l.length) : (l.take (k + 1)).filter p = (l.take k).filter p ++ if p (l.getD k default) = true then [l.getD k default] else [] := by
  rw [take_succ_getD h, List.filter_append]
  congr 1
  by_cases e : p (l.getD k default) = true
  · rw [if_pos e]; simp only [List.filter_cons, List.filter_nil, if_pos e]
  · rw [if_neg e]; simp only [List.filter_cons, List.filter_nil, if_neg e]
theorem fil_length {α : Type} (p : α → Bool) (l : List α) (k : Nat) : ((l.take k).filter p).length ≤ k := Nat.le_trans (List.length_filter_le _ _) (by rw [List.length_take]; omega)
theorem ac_shadow_Pending (s : Shd) (hs : smallSh s) : AC Tryd.prog 15 [.pv (.agg (cShd s))] [] (.pv (roL 7 cItem (penL s))) [] := by
  have h2 : s.desired.length ≤ 1048576 := hs.2
  refine AC.of_awp (T := T) T_ok hm Tryd.call15 Tryd.func15 rfl rfl rfl ?_
  conv => whnf
  refine loop_k (ι := Nat) [1, 7, 8] [1] (fun k => k ≤ s.desired.length ∧ True) (fun k => s.desired.length - k) 0 (fun k => [(3, .own 500), (9, .pv (vint k))]) (fun k => [(500, rowL 7 cItem ((s.desired.take k).filter (penF s)))]) [] ⟨Nat.zero_le _, trivial⟩ ?_ (fun k hk => ?_)
  · (repeat' (first | exact PSub.rfl | exact rfl | exact PSubs.rfl | exact trivial | exact PSub.lit_sb rfl | refine And.intro ?_ ?_))
  obtain ⟨hkn, hinv⟩ := hk
  conv => whnf
  have hfl := fil_length (penF s) s.desired k
  refine ⟨fun h => ?_, fun h => ?_⟩ <;> (try simp only [decide_eq_true_eq, decide_eq_false_iff_not, Bool.not_eq_true', Bool.not_eq_false', Int.toNat_natCast, beq_iff_eq, decide_eq_decide, beq_eq_false_iff_ne, ne_eq, reduceCtorEq] at h) <;> (conv => whnf)
  · have hfs := fil_snoc (penF s) (l := s.desired) (k := k) (by omega)
    repeat (any_goals (first
      | (refine ⟨fun (h : (_ : Bool) = true) => ?_, fun (h : (_ : Bool) = false) => ?_⟩ <;> (try simp only [decide_eq_true_eq, decide_eq_false_iff_not, Bool.not_eq_true', Bool.not_eq_false', Int.toNat_natCast, beq_iff_eq, decide_eq_decide, beq_eq_false_iff_ne, ne_eq, reduceCtorEq] at h) <;> (conv => whnf))
      | (refine And.intro (by (try simp only [Int.toNat_natCast]); omega) ?_; conv => whnf)
      | (refine And.intro (show (_ : Bool) = true from by kernel_rfl) ?_; conv => whnf)
      | (refine .inl ⟨wrap64 (by omega), ?_⟩; conv => whnf)))
    · rw [if_pos (show penF s (s.desired.getD k default) = true from decide_eq_true h)] at hfs
      refine ⟨k + 1, [(500, 21)], ⟨by omega, trivial⟩, by omega, ?_⟩
      rw [hfs]
      (repeat' (first | exact PSub.rfl | exact rfl | exact PSubs.rfl | exact trivial | exact PSub.lit_sb rfl | refine And.intro ?_ ?_))
      · simp [-List.getD_eq_getElem?_getD]
      · refine rows_snocF (fun i hi => by simp only [if_pos hi]; exact PSubs.rfl) (by simp only [if_neg (Nat.lt_irrefl _), Nat.sub_self]; exact PSubs.rfl)
    · rw [if_neg (by simpa [penF] using h), List.append_nil] at hfs
      refine ⟨k + 1, [], ⟨by omega, trivial⟩, by omega, ?_⟩
      rw [hfs]
      (repeat' (first | exact PSub.rfl | exact rfl | exact PSubs.rfl | exact trivial | exact PSub.lit_sb rfl | refine And.intro ?_ ?_))
      all_goals (intro i hi; exact PSubs.rfl)
  · have e : k = s.desired.length := by omega
    subst e
    rw [List.take_length] at *
    have c := ac_slices_SortStableFunc_Item 32 Tryd.call32 vCmp vLt vLt_swo vCmp_s ac_shadow_Pending_1 (s.desired.filter (penF s)) (by omega)
    repeat (any_goals (first
      | (refine ⟨fun (h : (_ : Bool) = true) => ?_, fun (h : (_ : Bool) = false) => ?_⟩ <;> (try simp only [decide_eq_true_eq, decide_eq_false_iff_not, Bool.not_eq_true', Bool.not_eq_false', Int.toNat_natCast, beq_iff_eq, decide_eq_decide, beq_eq_false_iff_ne, ne_eq, reduceCtorEq] at h) <;> (conv => whnf))
      | (refine .inr (.inr (.inr (.inr ⟨[(900000, 500)], [], _, _, _, c, rfl, ?_⟩))); conv => whnf)
      | (refine And.intro (by (try simp only [Int.toNat_natCast]); omega) ?_; conv => whnf)
      | (refine And.intro (show (_ : Bool) = true from by kernel_rfl) ?_; conv => whnf)
      | (refine .inl ⟨wrap64 (by omega), ?_⟩; conv => whnf)))
    exact .rfl
theorem ac_shadow_Synced (s : Shd) (hs : smallSh s) : AC Tryd.prog 20 [.pv (.agg (cShd s))] [] (.pv (vbool (decide (penL s = [])))) [] := by
  refine AC.of_awp (T := T) T_ok hm Tryd.call20 Tryd.func20 rfl rfl rfl ?_
  conv => whnf
  repeat (any_goals (first
    | (refine ⟨fun (h : (_ : Bool) = true) => ?_, fun (h : (_ : Bool) = false) => ?_⟩ <;> (try simp only [decide_eq_true_eq, decide_eq_false_iff_not, Bool.not_eq_true', Bool.not_eq_false', Int.toNat_natCast, beq_iff_eq, decide_eq_decide, beq_eq_false_iff_ne, ne_eq, reduceCtorEq] at h) <;> (conv => whnf))
    | (refine .inl ⟨_, ac_shadow_Pending s hs, ?_⟩; conv => whnf)
    | (refine And.intro (by (try simp only [Int.toNat_natCast]); omega) ?_; conv => whnf)
    | (refine And.intro (show (_ : Bool) = true from by kernel_rfl) ?_; conv => whnf)
    | (refine .inl ⟨wrap64 (by omega), ?_⟩; conv => whnf)))
  refine PSub.sb ?_
  rw [Bool.eq_iff_iff]; simp [List.eq_nil_iff_length_eq_zero, -List.length_eq_zero_iff]
end Go.Abs

namespace Go.Abs
open Go.Proofs
set_option maxRecDepth 10000
theorem take_set_succ {α : Type} {l : List α} {n : Nat} {x : α} (h : n < l.length) : (l.set n x).take (n + 1) = l.take n ++ [x] := by
  rw [List.take_add_one, List.getElem?_set_self h]
  congr 1
  rw [List.take_set_of_le (Nat.le_refl _)]
theorem getD_takeI {l : List Item} {n q : Nat} (h : q < n) : (l.take n).getD q default = l.getD q default := by
  simp only [List.getD]; rw [List.getElem?_take_of_lt h]
theorem ac_slices_DeleteFunc_Item (l : List Item) (gb : List PV → Bool) (gi : List PV → Int) (hl : l.length ≤ 1048576) : AC Tryd.prog 33 [.own 900000, .clo (fun xs => ∃ x : Item, xs = [.agg (cItem x)]) true gb gi] [(900000, rowL 7 cItem l)] (.own 1) [(900000, .gone), (1, rowL 7 cItem (l.filter fun x => !gb [.agg (cItem x)]))] := by
  have hq : ∀ x : Item, gb [.agg (cItem x)] = (fun x => gb [.agg (cItem x)]) x := fun _ => rfl
  refine AC.of_awp_gen (T := T) T_ok hm Tryd.call33 Tryd.func33 rfl rfl rfl rfl rfl rfl ?_
  conv => whnf
  refine .inl ⟨_, ac_slices_IndexFunc_Item l gb gi hl, ?_⟩
  conv => whnf
  generalize hp : (fun x : Item => !gb [.agg (cItem x)]) = p
  have hpx : ∀ x, gb [.agg (cItem x)] = !p x := fun x => by rw [← hp]; simp
  obtain ⟨c, hc⟩ : ∃ c, c = firstI l.length fun i => gb [.agg (cItem (l.getD i default))] := ⟨_, rfl⟩
  rw [← hc]
  unfold ixI
  rcases firstI_cases (n := l.length) (p := fun i => gb [.agg (cItem (l.getD i default))]) with ⟨h1, h2, h3⟩ | ⟨h1, h2⟩
  · rw [← hc] at h1 h2 h3
    rw [if_pos h1]
    refine ⟨fun h => ?_, fun h => ?_⟩ <;> (try simp only [decide_eq_true_eq, decide_eq_false_iff_not, Bool.not_eq_true', Bool.not_eq_false', Int.toNat_natCast, beq_iff_eq, decide_eq_decide, beq_eq_false_iff_ne, ne_eq, reduceCtorEq] at h) <;> (conv => whnf)
    clear h
    have hk1 : (l.take (c + 1)).filter p = l.take c := by
      rw [fil_snoc p h1, if_neg (by rw [hpx] at h2; simpa using h2), List.append_nil]
      refine List.filter_eq_self.2 fun x hx => ?_
      obtain ⟨i, hi, rfl⟩ := List.getElem_of_mem hx
      have hi2 : i < c := by rw [List.length_take] at hi; omega
      have := h3 i hi2
      rw [hpx] at this
      simpa [List.getD, show i < l.length by omega] using this
    have hkl : (l.take c).length = c := by rw [List.length_take]; omega
    repeat (any_goals (first
      | (refine ⟨fun (h : (_ : Bool) = true) => ?_, fun (h : (_ : Bool) = false) => ?_⟩ <;> (try simp only [decide_eq_true_eq, decide_eq_false_iff_not, Bool.not_eq_true', Bool.not_eq_false', Int.toNat_natCast, beq_iff_eq, decide_eq_decide, beq_eq_false_iff_ne, ne_eq, reduceCtorEq] at h) <;> (conv => whnf))
      | (refine And.intro (by (try simp only [Int.toNat_natCast]); omega) ?_; conv => whnf)
      | (refine And.intro (show (_ : Bool) = true from by kernel_rfl) ?_; conv => whnf)
      | (refine .inl ⟨wrap64 (by omega), ?_⟩; conv => whnf)))
    refine loop_k (ι := Nat × List Item) [0, 1] [] (fun x => (c + 1 ≤ x.1 ∧ x.1 ≤ l.length ∧ x.2.length = l.length) ∧ (∀ q, x.1 ≤ q → x.2.getD q default = l.getD q default) ∧ (((l.take x.1).filter p).length < x.1 ∧ x.2.take ((l.take x.1).filter p).length = (l.take x.1).filter p)) (fun x => l.length - x.1) (c + 1, l) (fun x => [(5, .pv (vint ((l.take x.1).filter p).length)), (6, .pv (vint x.1))]) (fun x => [(900000, rowL 7 cItem x.2)]) [] ⟨⟨Nat.le_refl _, h1, rfl⟩, fun q _ => rfl, by dsimp only; rw [hk1, hkl]; exact ⟨by omega, rfl⟩⟩ ?_ (fun x hk => ?_)
    · rw [hk1, hkl]
      (repeat' (first | exact PSub.rfl | exact rfl | exact PSubs.rfl | exact trivial | exact PSub.lit_sb rfl | refine And.intro ?_ ?_))
      all_goals (intro q hq; exact PSubs.rfl)
    obtain ⟨j, cur⟩ := x
    obtain ⟨⟨hj1, hj2, hcl⟩, hrest, hil, htk⟩ := hk
    dsimp only at hj1 hj2 hcl hrest hil htk ⊢
    conv => whnf
    refine ⟨fun h => ?_, fun h => ?_⟩ <;> (try simp only [decide_eq_true_eq, decide_eq_false_iff_not, Bool.not_eq_true', Bool.not_eq_false', Int.toNat_natCast, beq_iff_eq, decide_eq_decide, beq_eq_false_iff_ne, ne_eq, reduceCtorEq] at h) <;> (conv => whnf)
    · have hfs := fil_snoc p (l := l) (k := j) (by omega)
      have hrj := hrest j (Nat.le_refl _)
      generalize hF : (l.take j).filter p = F at *
      repeat (any_goals (first
        | (refine ⟨fun (h : (_ : Bool) = true) => ?_, fun (h : (_ : Bool) = false) => ?_⟩ <;> (try simp only [decide_eq_true_eq, decide_eq_false_iff_not, Bool.not_eq_true', Bool.not_eq_false', Int.toNat_natCast, beq_iff_eq, decide_eq_decide, beq_eq_false_iff_ne, ne_eq, reduceCtorEq] at h) <;> (conv => whnf))
        | (refine And.intro (by (try simp only [Int.toNat_natCast]); omega) ?_; conv => whnf)
        | (refine And.intro (show (_ : Bool) = true from by kernel_rfl) ?_; conv => whnf)
        | (refine .inl ⟨wrap64 (by omega), ?_⟩; conv => whnf)))
      refine And.intro ⟨_, rfl⟩ ?_
      conv => whnf
      repeat (any_goals (first
        | (refine ⟨fun (h : (_ : Bool) = true) => ?_, fun (h : (_ : Bool) = false) => ?_⟩ <;> (try simp only [decide_eq_true_eq, decide_eq_false_iff_not, Bool.not_eq_true', Bool.not_eq_false', Int.toNat_natCast, beq_iff_eq, decide_eq_decide, beq_eq_false_iff_ne, ne_eq, reduceCtorEq] at h) <;> (conv => whnf))
        | (refine And.intro (by (try simp only [Int.toNat_natCast]); omega) ?_; conv => whnf)
        | (refine And.intro (show (_ : Bool) = true from by kernel_rfl) ?_; conv => whnf)
        | (refine .inl ⟨wrap64 (by omega), ?_⟩; conv => whnf)))
      · have hg : gb [.agg (cItem (cur.getD j default))] = false := h
        rw [hrj, hpx] at hg
        rw [if_pos (by simpa [-List.getD_eq_getElem?_getD] using hg)] at hfs
        refine ⟨(j + 1, cur.set F.length (cur.getD j default)), [], ⟨⟨by dsimp only; omega, by dsimp only; omega, by simp; omega⟩, fun q q1 => ?_, ?_⟩, by dsimp only; omega, ?_⟩
        · dsimp only at q1 ⊢
          rw [getD_set_ne (by omega)]
          exact hrest q (by omega)
        · dsimp only
          rw [hfs, List.length_append, List.length_singleton, take_set_succ (by omega), htk, hrj]
          exact ⟨by omega, rfl⟩
        · dsimp only
          rw [hfs, List.length_append, List.length_singleton]
          (repeat' (first | exact PSub.rfl | exact rfl | exact PSubs.rfl | exact trivial | exact PSub.lit_sb rfl | refine And.intro ?_ ?_))
          · simp
          · exact rows_set (fun j hj e => by simp only [Int.toNat_natCast]; rw [updAt_ne e]; exact PSubs.rfl) (fun hi => by simp only [Int.toNat_natCast]; rw [updAt_same]; exact PSubs.rfl)
      · have hg : gb [.agg (cItem (cur.getD j default))] = true := h
        rw [hrj, hpx] at hg
        rw [if_neg (by simpa [-List.getD_eq_getElem?_getD] using hg), List.append_nil] at hfs
        refine ⟨(j + 1, cur), [], ⟨⟨by dsimp only; omega, by dsimp only; omega, by dsimp only; omega⟩, fun q q1 => hrest q (by dsimp only at q1; omega), ?_⟩, by dsimp only; omega, ?_⟩
        · dsimp only; rw [hfs]; exact ⟨by omega, htk⟩
        · dsimp only
          rw [hfs]
          (repeat' (first | exact PSub.rfl | exact rfl | exact PSubs.rfl | exact trivial | exact PSub.lit_sb rfl | refine And.intro ?_ ?_))
          all_goals (intro q hq; exact PSubs.rfl)
    · have e : j = l.length := by omega
      subst e
      rw [List.take_length] at *
      repeat (any_goals (first
        | (refine ⟨fun (h : (_ : Bool) = true) => ?_, fun (h : (_ : Bool) = false) => ?_⟩ <;> (try simp only [decide_eq_true_eq, decide_eq_false_iff_not, Bool.not_eq_true', Bool.not_eq_false', Int.toNat_natCast, beq_iff_eq, decide_eq_decide, beq_eq_false_iff_ne, ne_eq, reduceCtorEq] at h) <;> (conv => whnf))
        | (refine And.intro (by (try simp only [Int.toNat_natCast]); omega) ?_; conv => whnf)
        | (refine And.intro (show (_ : Bool) = true from by kernel_rfl) ?_; conv => whnf)
        | (refine .inl ⟨wrap64 (by omega), ?_⟩; conv => whnf)))
      refine ⟨[(1, 41)], ?_⟩
      (repeat' (first | exact PSub.rfl | exact rfl | exact PSubs.rfl | exact trivial | exact PSub.lit_sb rfl | refine And.intro ?_ ?_))
      intro q hq
      have e : cur.getD q default = (l.filter p).getD q default := by
        rw [← htk, getD_takeI hq]
      show PSubs (fillF _ _ _ _ q) (cItem ((l.filter p).getD q default))
      rw [fillF_eq, if_neg (by simp only [Int.toNat_natCast]; omega), ← e]
      exact PSubs.rfl
  · rw [← hc] at h1
    rw [if_neg (by omega)]
    refine ⟨fun h => ?_, fun h => ?_⟩ <;> (try simp only [decide_eq_true_eq, decide_eq_false_iff_not, Bool.not_eq_true', Bool.not_eq_false', Int.toNat_natCast, beq_iff_eq, decide_eq_decide, beq_eq_false_iff_ne, ne_eq, reduceCtorEq] at h) <;> (conv => whnf)
    · have hall : l.filter p = l := List.filter_eq_self.2 fun x hx => by
        obtain ⟨i, hi, rfl⟩ := List.getElem_of_mem hx
        have := h2 i hi
        rw [hpx] at this
        simpa [List.getD, hi] using this
      rw [hall]
      refine ⟨[(1, 900000)], ?_⟩
      (repeat' (first | exact PSub.rfl | exact rfl | exact PSubs.rfl | exact trivial | exact PSub.lit_sb rfl | refine And.intro ?_ ?_))
      all_goals (intro q hq; exact PSubs.rfl)
    · exact absurd trivial h
theorem dropD_eq (l : List Item) (k : Key) : (l.filter fun x => !keyB k [.agg (cItem x)]) = dropD l k := by
  unfold dropD
  congr 1
  funext x
  rw [keyB_item]
  by_cases h : x.key = k <;> simp [h]
theorem ac_DeleteFunc_shadow (l : List Item) (k : Key) (hl : l.length ≤ 1048576) : AC Tryd.prog 33 [.own 900000, .fn 34 [.pv (.cell (cKey k))]] [(900000, rowL 7 cItem l)] (.own 1) [(900000, .gone), (1, rowL 7 cItem (dropD l k))] := by
  rw [← dropD_eq]
  refine AC.with_fn_rows (caps := [.cell (cKey k)]) (pre := [.own 900000]) (post := []) (ac_slices_DeleteFunc_Item l (keyB k) (fun _ => 0) hl) Tryd.call34 rfl rfl rfl rfl rfl ?_
  rintro xs ⟨x, rfl⟩
  exact ac_shadow_Drop_1 x k
theorem ac_shadow_Drop_m (s : Shd) (k : Key) (hs : smallSh s) : AC Tryd.prog 16 [.pv (.agg (cShd s)), .pv (.agg (cKey k))] [] (.mix (mShd (dropS s k) (.own 0) (.own 1))) [(0, rowL 7 cItem s.reported), (1, rowL 7 cItem (dropD s.desired k))] := by
  refine AC.of_awp_cel (T := T) T_ok hm Tryd.call16 Tryd.func16 rfl rfl rfl rfl rfl rfl ?_
  conv => whnf
  repeat (any_goals (first
    | (refine ⟨fun (h : (_ : Bool) = true) => ?_, fun (h : (_ : Bool) = false) => ?_⟩ <;> (try simp only [decide_eq_true_eq, decide_eq_false_iff_not, Bool.not_eq_true', Bool.not_eq_false', Int.toNat_natCast, beq_iff_eq, decide_eq_decide, beq_eq_false_iff_ne, ne_eq, reduceCtorEq] at h) <;> (conv => whnf))
    | (refine .inr (.inr (.inr (.inr ⟨[], [(0, 700001), (1, 700002)], _, _, _, ac_shadow_twin_m s hs, rfl, ?_⟩))); conv => whnf)
    | (refine .inr (.inr (.inr (.inr ⟨[(900000, 700002)], [(1, 700003)], _, _, _, ac_DeleteFunc_shadow s.desired k hs.2, rfl, ?_⟩))); conv => whnf)
    | (refine And.intro (by (try simp only [Int.toNat_natCast]); omega) ?_; conv => whnf)
    | (refine And.intro (show (_ : Bool) = true from by kernel_rfl) ?_; conv => whnf)
    | (refine .inl ⟨wrap64 (by omega), ?_⟩; conv => whnf)))
  refine ⟨[(0, 700001), (1, 700003)], ?_⟩
  (repeat' (first | exact PSub.rfl | exact rfl | exact PSubs.rfl | exact trivial | exact PSub.lit_sb rfl | refine And.intro ?_ ?_))
  all_goals (intro i hi; exact PSubs.rfl)
end Go.Abs

namespace Go.Abs
open Go.Proofs
set_option maxRecDepth 10000
theorem repR_snoc (H : Hom) (r : List Item) {l : List Item} {k : Nat} (h : k < l.length) : repR H r (l.take (k + 1)) = stepI H (repR H r (l.take k)) (l.getD k default) := by
  unfold repR; rw [take_succ_getD h, List.foldl_append]; rfl
theorem okI_eq (H : Hom) (x : Item) : okI H x = ((findA H x.key).isSome && decide (fitsE ((findA H x.key).getD noAttr) x.value = 0)) := by
  unfold okI
  cases findA H x.key <;> rfl
theorem mine_iff {s : Shd} {m : Msg} : mineB s m = true ↔ m.kind = 1 ∧ m.dev = s.dev ∧ s.epoch ≤ m.epoch := by
  unfold mineB; rw [Bool.and_eq_true, Bool.and_eq_true, decide_eq_true_eq, decide_eq_true_eq, decide_eq_true_eq, and_assoc]
theorem base_small {H : Hom} {s : Shd} {m : Msg} (hs : smallSh s) : (baseS H s m).reported.length ≤ 1048576 := by
  unfold baseS
  split
  · have := unrep_48 (H := H) (dev := s.dev)
    show (unrepL H s.dev).length ≤ _
    omega
  · exact hs.1
theorem base_des {H : Hom} {s : Shd} {m : Msg} : (baseS H s m).desired = s.desired := by unfold baseS; split <;> rfl
set_option maxHeartbeats 4000000 in
theorem ac_shadow_Report (H : Hom) (s : Shd) (m : Msg) (hH : smallH H) (hs : smallSh s) (hmi : smallL m.items) : AC Tryd.prog 8 [.pv (.agg (cHom H)), .pv (.agg (cShd s)), .pv (.agg (cMsg m))] [] (.pv (.tup [.agg (cShd (repS H s m)), roL 3 cKey (repK H s m)])) [] := by
  have hm2 : m.items.length ≤ 1048576 := hmi
  obtain ⟨b, hbd⟩ : ∃ b, b = baseS H s m := ⟨_, rfl⟩
  have hbl : b.reported.length ≤ 1048576 := by rw [hbd]; exact base_small hs
  have hRs : smallL (repR H b.reported m.items) := by unfold smallL; rw [repR_length]; exact hbl
  have hfin : mineB s m = true → repS H s m = { b with reported := repR H b.reported m.items, version := max b.version m.version } ∧ repK H s m = chgL s.reported (repR H b.reported m.items) := fun h => by
    rw [repK, repS, if_pos h, if_pos h, hbd]; exact ⟨rfl, rfl⟩
  have hno : mineB s m ≠ true → repS H s m = s ∧ repK H s m = [] := fun h => by
    rw [repK, repS, if_neg h, if_neg h]; exact ⟨rfl, rfl⟩
  refine AC.of_awp (T := T) T_ok hm Tryd.call8 Tryd.func8 rfl rfl rfl ?_
  conv => whnf
  repeat (any_goals (first
    | (refine ⟨fun (h : (_ : Bool) = true) => ?_, fun (h : (_ : Bool) = false) => ?_⟩ <;> (try simp only [decide_eq_true_eq, decide_eq_false_iff_not, Bool.not_eq_true', Bool.not_eq_false', Int.toNat_natCast, beq_iff_eq, decide_eq_decide, beq_eq_false_iff_ne, ne_eq, reduceCtorEq] at h) <;> (conv => whnf))
    | (refine .inr (.inr (.inr (.inr ⟨[], [(0, 700001), (1, 700002)], _, _, _, ac_shadow_twin_m s hs, rfl, ?_⟩))); conv => whnf)
    | (refine .inr (.inl ⟨_, _, _, ac_shadow_unreported H s.dev hH, ?_⟩); conv => whnf)
    | (refine And.intro (by (try simp only [Int.toNat_natCast]); omega) ?_; conv => whnf)
    | (refine And.intro (show (_ : Bool) = true from by kernel_rfl) ?_; conv => whnf)
    | (refine .inl ⟨wrap64 (by omega), ?_⟩; conv => whnf)))
  iterate 3
    · obtain ⟨e1, e2⟩ := hno (by rw [Ne, mine_iff]; omega)
      rw [e1, e2]
      refine ⟨?_, ?_⟩ <;> (conv => whnf)
      · exact .rfl
      · exact PSub.nil_ro _ _
  · have hmine : mineB s m = true := mine_iff.2 ⟨by assumption, by assumption, by omega⟩
    obtain ⟨f1, f2⟩ := hfin hmine
    have hbe : b = ⟨s.dev, m.epoch, 0, unrepL H s.dev, s.desired, s.want, 0, -1, 0⟩ := by rw [hbd, baseS, if_pos h]
    obtain ⟨rid, hrid⟩ : ∃ r : Nat, r = 44 := ⟨_, rfl⟩
    refine loop_k (ι := Bool × Nat) [3, 4, 5, 6, 8, 52, 53] [3, 4, 5, 6] (fun x => x.2 ≤ m.items.length ∧ (x.1 = true ↔ x.2 < m.items.length)) (fun x => m.items.length - x.2) (decide (0 < m.items.length), 0) (fun x => [(54, .pv (vint x.2))])
      (fun x => match x.1 with
        | true => [(8, .box (mShd b (.own 500) (.own 700002))), (500, rowL 7 cItem (repR H b.reported (m.items.take x.2))), (700002, rowL 7 cItem s.desired)]
        | false => [(8, .pbox [vint b.dev, vint b.epoch, vint b.version, roL 7 cItem (repR H b.reported m.items), roL 7 cItem s.desired, vint b.want, vint b.done, vint b.sent, vint b.heard])]) (if 0 < m.items.length then [(500, rid)] else []) ⟨Nat.zero_le _, by simp⟩ ?_ (fun x hk => ?_)
    · by_cases hz : 0 < m.items.length
      · rw [show decide (0 < m.items.length) = true from decide_eq_true hz, if_pos hz, hbe, hrid]
        dsimp only
        (repeat' (first | exact PSub.rfl | exact rfl | exact PSubs.rfl | exact trivial | exact PSub.lit_sb rfl | refine And.intro ?_ ?_))
        all_goals first | (intro i hi; exact PSubs.rfl) | trace_state
      · have hz2 : m.items = [] := List.eq_nil_of_length_eq_zero (by omega)
        rw [show decide (0 < m.items.length) = false from decide_eq_false hz, if_neg hz, hz2, hbe]
        dsimp only
        (repeat' (first | exact PSub.rfl | exact rfl | exact PSubs.rfl | exact trivial | exact PSub.lit_sb rfl | refine And.intro ?_ ?_))
        all_goals trace_state
    obtain ⟨d, k⟩ := x
    obtain ⟨hkn, hb⟩ := hk
    dsimp only at hkn hb
    cases d with
    | true =>
      have hk : k < m.items.length := hb.1 rfl
      have hsn := repR_snoc H b.reported hk
      generalize hR : repR H b.reported (m.items.take k) = R at *
      have hRl : R.length ≤ 1048576 := by rw [← hR, repR_length]; exact hbl
      have c := ac_shadow_index R (m.items.getD k default).key hRl
      have hok := okI_eq H (m.items.getD k default)
      have hst : stepI H R (m.items.getD k default) = if itemAt R (m.items.getD k default).key < R.length ∧ (R.getD (itemAt R (m.items.getD k default).key) default).version < (m.items.getD k default).version ∧ okI H (m.items.getD k default) = true then R.set (itemAt R (m.items.getD k default).key) (m.items.getD k default) else R := rfl
      by_cases hlt : itemAt R (m.items.getD k default).key < R.length
      · rw [ixI, if_pos hlt] at c
        generalize itemAt R (m.items.getD k default).key = i at *
        conv => whnf
        refine ⟨fun h => ?_, fun h => absurd (of_decide_eq_false h) (by omega)⟩
        conv => whnf
        refine And.intro (by dsimp only; omega) ?_
        conv => whnf
        rw [show (↑(true, k).snd : Int).toNat = k from rfl]
        repeat (any_goals (first
          | (refine ⟨fun (h : (_ : Bool) = true) => ?_, fun (h : (_ : Bool) = false) => ?_⟩ <;> (try simp only [decide_eq_true_eq, decide_eq_false_iff_not, Bool.not_eq_true', Bool.not_eq_false', Int.toNat_natCast, beq_iff_eq, decide_eq_decide, beq_eq_false_iff_ne, ne_eq, reduceCtorEq] at h) <;> (conv => whnf))
          | (refine .inl ⟨_, c, ?_⟩; conv => whnf)
          | (refine .inl ⟨_, ac_device_Find H (m.items.getD k default).key hH, ?_⟩; conv => whnf)
          | (refine .inl ⟨_, ac_value_Fits ((findA H (m.items.getD k default).key).getD noAttr) (m.items.getD k default).value (small_findA hH), ?_⟩; conv => whnf)
          | (refine And.intro (by (try simp only [Int.toNat_natCast]); omega) ?_; conv => whnf)
          | (refine And.intro (show (_ : Bool) = true from by kernel_rfl) ?_; conv => whnf)
          | (refine .inl ⟨wrap64 (by omega), ?_⟩; conv => whnf)))
        · exfalso; omega
        · have hst' : stepI H R (m.items.getD k default) = R := by
            rw [hst, if_neg]
            rintro ⟨a1, a2, a3⟩
            rw [hok, Bool.and_eq_true, decide_eq_true_eq] at a3
            obtain ⟨a4, a5⟩ := a3
            first
              | omega
              | exact absurd a5 (by assumption)
              | exact Bool.noConfusion (a4.symm.trans h)
          rw [hst'] at hsn
          by_cases hlast : k + 1 < m.items.length
          · refine ⟨(true, k + 1), [], ⟨Nat.le_of_lt hlast, ⟨fun _ => hlast, fun _ => rfl⟩⟩, by dsimp only; omega, ?_⟩
            dsimp only
            rw [hsn]
            (repeat' (first | exact PSub.rfl | exact rfl | exact PSubs.rfl | exact trivial | exact PSub.lit_sb rfl | refine And.intro ?_ ?_))
            all_goals (intro i hi; exact PSubs.rfl)
          · have hall : m.items.take (k + 1) = m.items := List.take_of_length_le (by omega)
            rw [hall] at hsn
            refine ⟨(false, k + 1), [], ⟨by dsimp only; omega, ⟨fun h => (by cases h), fun h => absurd h hlast⟩⟩, by dsimp only; omega, ?_⟩
            dsimp only
            rw [hsn]
            (repeat' (first | exact PSub.rfl | exact rfl | exact PSubs.rfl | exact trivial | exact PSub.lit_sb rfl | refine And.intro ?_ ?_))
        · have hst' : stepI H R (m.items.getD k default) = R.set i (m.items.getD k default) := by
            rw [hst, if_pos ⟨hlt, by omega, by rw [hok, Bool.and_eq_true, decide_eq_true_eq]; exact ⟨by assumption, by assumption⟩⟩]
          rw [hst'] at hsn
          have hrow : ∀ q, q < (R.set i (m.items.getD k default)).length → PSubs (updAt (fun q => cItem (R.getD q default)) i 0 (cItem (m.items.getD k default)) q) (cItem ((R.set i (m.items.getD k default)).getD q default)) :=
            rows_set (fun j hj e => by rw [updAt_ne e]; exact PSubs.rfl) (fun hi => by rw [updAt_same]; exact PSubs.rfl)
          by_cases hlast : k + 1 < m.items.length
          · refine ⟨(true, k + 1), [], ⟨Nat.le_of_lt hlast, ⟨fun _ => hlast, fun _ => rfl⟩⟩, by dsimp only; omega, ?_⟩
            dsimp only
            rw [hsn]
            (repeat' (first | exact PSub.rfl | exact rfl | exact PSubs.rfl | exact trivial | exact PSub.lit_sb rfl | refine And.intro ?_ ?_))
            all_goals first | exact hrow | (intro i hi; exact PSubs.rfl) | exact List.length_set | exact List.length_set.symm | trace_state
          · have hall : m.items.take (k + 1) = m.items := List.take_of_length_le (by omega)
            rw [hall] at hsn
            refine ⟨(false, k + 1), [], ⟨by dsimp only; omega, ⟨fun h => (by cases h), fun h => absurd h hlast⟩⟩, by dsimp only; omega, ?_⟩
            dsimp only
            rw [hsn]
            (repeat' (first | exact PSub.rfl | exact rfl | exact PSubs.rfl | exact trivial | exact PSub.lit_sb rfl | refine And.intro ?_ ?_))
            all_goals first | exact PSub.ro List.length_set.symm (fun q hq => hrow q (by rw [List.length_set]; exact hq)) | trace_state
        · have hst' : stepI H R (m.items.getD k default) = R := by
            rw [hst, if_neg]
            rintro ⟨a1, a2, a3⟩
            rw [hok, Bool.and_eq_true, decide_eq_true_eq] at a3
            obtain ⟨a4, a5⟩ := a3
            first
              | omega
              | exact absurd a5 (by assumption)
              | exact Bool.noConfusion (a4.symm.trans h)
          rw [hst'] at hsn
          by_cases hlast : k + 1 < m.items.length
          · refine ⟨(true, k + 1), [], ⟨Nat.le_of_lt hlast, ⟨fun _ => hlast, fun _ => rfl⟩⟩, by dsimp only; omega, ?_⟩
            dsimp only
            rw [hsn]
            (repeat' (first | exact PSub.rfl | exact rfl | exact PSubs.rfl | exact trivial | exact PSub.lit_sb rfl | refine And.intro ?_ ?_))
            all_goals (intro i hi; exact PSubs.rfl)
          · have hall : m.items.take (k + 1) = m.items := List.take_of_length_le (by omega)
            rw [hall] at hsn
            refine ⟨(false, k + 1), [], ⟨by dsimp only; omega, ⟨fun h => (by cases h), fun h => absurd h hlast⟩⟩, by dsimp only; omega, ?_⟩
            dsimp only
            rw [hsn]
            (repeat' (first | exact PSub.rfl | exact rfl | exact PSubs.rfl | exact trivial | exact PSub.lit_sb rfl | refine And.intro ?_ ?_))
        · have hst' : stepI H R (m.items.getD k default) = R := by
            rw [hst, if_neg]
            rintro ⟨a1, a2, a3⟩
            rw [hok, Bool.and_eq_true, decide_eq_true_eq] at a3
            obtain ⟨a4, a5⟩ := a3
            first
              | omega
              | exact absurd a5 (by assumption)
              | exact Bool.noConfusion (a4.symm.trans h)
          rw [hst'] at hsn
          by_cases hlast : k + 1 < m.items.length
          · refine ⟨(true, k + 1), [], ⟨Nat.le_of_lt hlast, ⟨fun _ => hlast, fun _ => rfl⟩⟩, by dsimp only; omega, ?_⟩
            dsimp only
            rw [hsn]
            (repeat' (first | exact PSub.rfl | exact rfl | exact PSubs.rfl | exact trivial | exact PSub.lit_sb rfl | refine And.intro ?_ ?_))
            all_goals (intro i hi; exact PSubs.rfl)
          · have hall : m.items.take (k + 1) = m.items := List.take_of_length_le (by omega)
            rw [hall] at hsn
            refine ⟨(false, k + 1), [], ⟨by dsimp only; omega, ⟨fun h => (by cases h), fun h => absurd h hlast⟩⟩, by dsimp only; omega, ?_⟩
            dsimp only
            rw [hsn]
            (repeat' (first | exact PSub.rfl | exact rfl | exact PSubs.rfl | exact trivial | exact PSub.lit_sb rfl | refine And.intro ?_ ?_))
      · rw [ixI, if_neg hlt] at c
        conv => whnf
        refine ⟨fun h => ?_, fun h => absurd (of_decide_eq_false h) (by omega)⟩
        conv => whnf
        refine And.intro (by dsimp only; omega) ?_
        conv => whnf
        rw [show (↑(true, k).snd : Int).toNat = k from rfl]
        repeat (any_goals (first
          | (refine ⟨fun (h : (_ : Bool) = true) => ?_, fun (h : (_ : Bool) = false) => ?_⟩ <;> (try simp only [decide_eq_true_eq, decide_eq_false_iff_not, Bool.not_eq_true', Bool.not_eq_false', Int.toNat_natCast, beq_iff_eq, decide_eq_decide, beq_eq_false_iff_ne, ne_eq, reduceCtorEq] at h) <;> (conv => whnf))
          | (refine .inl ⟨_, c, ?_⟩; conv => whnf)
          | (refine .inl ⟨_, ac_device_Find H (m.items.getD k default).key hH, ?_⟩; conv => whnf)
          | (refine .inl ⟨_, ac_value_Fits ((findA H (m.items.getD k default).key).getD noAttr) (m.items.getD k default).value (small_findA hH), ?_⟩; conv => whnf)
          | (refine And.intro (by (try simp only [Int.toNat_natCast]); omega) ?_; conv => whnf)
          | (refine And.intro (show (_ : Bool) = true from by kernel_rfl) ?_; conv => whnf)
          | (refine .inl ⟨wrap64 (by omega), ?_⟩; conv => whnf)))
        · have hst' : stepI H R (m.items.getD k default) = R := by
            rw [hst, if_neg]
            rintro ⟨a1, a2, a3⟩
            rw [hok, Bool.and_eq_true, decide_eq_true_eq] at a3
            obtain ⟨a4, a5⟩ := a3
            first
              | omega
              | exact absurd a5 (by assumption)
              | exact Bool.noConfusion (a4.symm.trans h)
          rw [hst'] at hsn
          by_cases hlast : k + 1 < m.items.length
          · refine ⟨(true, k + 1), [], ⟨Nat.le_of_lt hlast, ⟨fun _ => hlast, fun _ => rfl⟩⟩, by dsimp only; omega, ?_⟩
            dsimp only
            rw [hsn]
            (repeat' (first | exact PSub.rfl | exact rfl | exact PSubs.rfl | exact trivial | exact PSub.lit_sb rfl | refine And.intro ?_ ?_))
            all_goals (intro i hi; exact PSubs.rfl)
          · have hall : m.items.take (k + 1) = m.items := List.take_of_length_le (by omega)
            rw [hall] at hsn
            refine ⟨(false, k + 1), [], ⟨by dsimp only; omega, ⟨fun h => (by cases h), fun h => absurd h hlast⟩⟩, by dsimp only; omega, ?_⟩
            dsimp only
            rw [hsn]
            (repeat' (first | exact PSub.rfl | exact rfl | exact PSubs.rfl | exact trivial | exact PSub.lit_sb rfl | refine And.intro ?_ ?_))
        all_goals (exfalso; omega)
    | false =>
      have hk : k = m.items.length := by
        rcases Nat.lt_or_ge k m.items.length with h | h
        · have := hb.2 h; cases this
        · omega
      subst hk
      conv => whnf
      refine ⟨fun h => absurd (of_decide_eq_true h) (by omega), fun h => ?_⟩
      conv => whnf
      repeat (any_goals (first
        | (refine ⟨fun (h : (_ : Bool) = true) => ?_, fun (h : (_ : Bool) = false) => ?_⟩ <;> (try simp only [decide_eq_true_eq, decide_eq_false_iff_not, Bool.not_eq_true', Bool.not_eq_false', Int.toNat_natCast, beq_iff_eq, decide_eq_decide, beq_eq_false_iff_ne, ne_eq, reduceCtorEq] at h) <;> (conv => whnf))
        | (refine .inl ⟨_, ac_device_Changed s.reported (repR H b.reported m.items) hs.1 hRs, ?_⟩; conv => whnf)
        | (refine And.intro (by (try simp only [Int.toNat_natCast]); omega) ?_; conv => whnf)
        | (refine And.intro (show (_ : Bool) = true from by kernel_rfl) ?_; conv => whnf)
        | (refine .inl ⟨wrap64 (by omega), ?_⟩; conv => whnf)))
      rw [f1, f2]
      refine ⟨?_, ?_⟩ <;> (conv => whnf)
      · exact PSub.agg ⟨.rfl, .rfl, PSub.int (by simp only [Int.max_def]; (repeat' split) <;> omega), .rfl, PSub.of_eq (show roL 7 cItem s.desired = roL 7 cItem b.desired by rw [hbd, base_des]), .rfl, .rfl, .rfl, .rfl, trivial⟩
      · exact .rfl
  · have hmine : mineB s m = true := mine_iff.2 ⟨by assumption, by assumption, by omega⟩
    obtain ⟨f1, f2⟩ := hfin hmine
    have hbe : b = s := by rw [hbd, baseS, if_neg h]
    obtain ⟨rid, hrid⟩ : ∃ r : Nat, r = 700001 := ⟨_, rfl⟩
    refine loop_k (ι := Bool × Nat) [3, 4, 5, 6, 8, 52, 53] [3, 4, 5, 6] (fun x => x.2 ≤ m.items.length ∧ (x.1 = true ↔ x.2 < m.items.length)) (fun x => m.items.length - x.2) (decide (0 < m.items.length), 0) (fun x => [(54, .pv (vint x.2))])
      (fun x => match x.1 with
        | true => [(8, .box (mShd b (.own 500) (.own 700002))), (500, rowL 7 cItem (repR H b.reported (m.items.take x.2))), (700002, rowL 7 cItem s.desired)]
        | false => [(8, .pbox [vint b.dev, vint b.epoch, vint b.version, roL 7 cItem (repR H b.reported m.items), roL 7 cItem s.desired, vint b.want, vint b.done, vint b.sent, vint b.heard])]) (if 0 < m.items.length then [(500, rid)] else []) ⟨Nat.zero_le _, by simp⟩ ?_ (fun x hk => ?_)
    · by_cases hz : 0 < m.items.length
      · rw [show decide (0 < m.items.length) = true from decide_eq_true hz, if_pos hz, hbe, hrid]
        dsimp only
        (repeat' (first | exact PSub.rfl | exact rfl | exact PSubs.rfl | exact trivial | exact PSub.lit_sb rfl | refine And.intro ?_ ?_))
        all_goals first | (intro i hi; exact PSubs.rfl) | trace_state
      · have hz2 : m.items = [] := List.eq_nil_of_length_eq_zero (by omega)
        rw [show decide (0 < m.items.length) = false from decide_eq_false hz, if_neg hz, hz2, hbe]
        dsimp only
        (repeat' (first | exact PSub.rfl | exact rfl | exact PSubs.rfl | exact trivial | exact PSub.lit_sb rfl | refine And.intro ?_ ?_))
        all_goals trace_state
    obtain ⟨d, k⟩ := x
    obtain ⟨hkn, hb⟩ := hk
    dsimp only at hkn hb
    cases d with
    | true =>
      have hk : k < m.items.length := hb.1 rfl
      have hsn := repR_snoc H b.reported hk
      generalize hR : repR H b.reported (m.items.take k) = R at *
      have hRl : R.length ≤ 1048576 := by rw [← hR, repR_length]; exact hbl
      have c := ac_shadow_index R (m.items.getD k default).key hRl
      have hok := okI_eq H (m.items.getD k default)
      have hst : stepI H R (m.items.getD k default) = if itemAt R (m.items.getD k default).key < R.length ∧ (R.getD (itemAt R (m.items.getD k default).key) default).version < (m.items.getD k default).version ∧ okI H (m.items.getD k default) = true then R.set (itemAt R (m.items.getD k default).key) (m.items.getD k default) else R := rfl
      by_cases hlt : itemAt R (m.items.getD k default).key < R.length
      · rw [ixI, if_pos hlt] at c
        generalize itemAt R (m.items.getD k default).key = i at *
        conv => whnf
        refine ⟨fun h => ?_, fun h => absurd (of_decide_eq_false h) (by omega)⟩
        conv => whnf
        refine And.intro (by dsimp only; omega) ?_
        conv => whnf
        rw [show (↑(true, k).snd : Int).toNat = k from rfl]
        repeat (any_goals (first
          | (refine ⟨fun (h : (_ : Bool) = true) => ?_, fun (h : (_ : Bool) = false) => ?_⟩ <;> (try simp only [decide_eq_true_eq, decide_eq_false_iff_not, Bool.not_eq_true', Bool.not_eq_false', Int.toNat_natCast, beq_iff_eq, decide_eq_decide, beq_eq_false_iff_ne, ne_eq, reduceCtorEq] at h) <;> (conv => whnf))
          | (refine .inl ⟨_, c, ?_⟩; conv => whnf)
          | (refine .inl ⟨_, ac_device_Find H (m.items.getD k default).key hH, ?_⟩; conv => whnf)
          | (refine .inl ⟨_, ac_value_Fits ((findA H (m.items.getD k default).key).getD noAttr) (m.items.getD k default).value (small_findA hH), ?_⟩; conv => whnf)
          | (refine And.intro (by (try simp only [Int.toNat_natCast]); omega) ?_; conv => whnf)
          | (refine And.intro (show (_ : Bool) = true from by kernel_rfl) ?_; conv => whnf)
          | (refine .inl ⟨wrap64 (by omega), ?_⟩; conv => whnf)))
        · exfalso; omega
        · have hst' : stepI H R (m.items.getD k default) = R := by
            rw [hst, if_neg]
            rintro ⟨a1, a2, a3⟩
            rw [hok, Bool.and_eq_true, decide_eq_true_eq] at a3
            obtain ⟨a4, a5⟩ := a3
            first
              | omega
              | exact absurd a5 (by assumption)
              | exact Bool.noConfusion (a4.symm.trans h)
          rw [hst'] at hsn
          by_cases hlast : k + 1 < m.items.length
          · refine ⟨(true, k + 1), [], ⟨Nat.le_of_lt hlast, ⟨fun _ => hlast, fun _ => rfl⟩⟩, by dsimp only; omega, ?_⟩
            dsimp only
            rw [hsn]
            (repeat' (first | exact PSub.rfl | exact rfl | exact PSubs.rfl | exact trivial | exact PSub.lit_sb rfl | refine And.intro ?_ ?_))
            all_goals (intro i hi; exact PSubs.rfl)
          · have hall : m.items.take (k + 1) = m.items := List.take_of_length_le (by omega)
            rw [hall] at hsn
            refine ⟨(false, k + 1), [], ⟨by dsimp only; omega, ⟨fun h => (by cases h), fun h => absurd h hlast⟩⟩, by dsimp only; omega, ?_⟩
            dsimp only
            rw [hsn]
            (repeat' (first | exact PSub.rfl | exact rfl | exact PSubs.rfl | exact trivial | exact PSub.lit_sb rfl | refine And.intro ?_ ?_))
        · have hst' : stepI H R (m.items.getD k default) = R.set i (m.items.getD k default) := by
            rw [hst, if_pos ⟨hlt, by omega, by rw [hok, Bool.and_eq_true, decide_eq_true_eq]; exact ⟨by assumption, by assumption⟩⟩]
          rw [hst'] at hsn
          have hrow : ∀ q, q < (R.set i (m.items.getD k default)).length → PSubs (updAt (fun q => cItem (R.getD q default)) i 0 (cItem (m.items.getD k default)) q) (cItem ((R.set i (m.items.getD k default)).getD q default)) :=
            rows_set (fun j hj e => by rw [updAt_ne e]; exact PSubs.rfl) (fun hi => by rw [updAt_same]; exact PSubs.rfl)
          by_cases hlast : k + 1 < m.items.length
          · refine ⟨(true, k + 1), [], ⟨Nat.le_of_lt hlast, ⟨fun _ => hlast, fun _ => rfl⟩⟩, by dsimp only; omega, ?_⟩
            dsimp only
            rw [hsn]
            (repeat' (first | exact PSub.rfl | exact rfl | exact PSubs.rfl | exact trivial | exact PSub.lit_sb rfl | refine And.intro ?_ ?_))
            all_goals first | exact hrow | (intro i hi; exact PSubs.rfl) | exact List.length_set | exact List.length_set.symm | trace_state
          · have hall : m.items.take (k + 1) = m.items := List.take_of_length_le (by omega)
            rw [hall] at hsn
            refine ⟨(false, k + 1), [], ⟨by dsimp only; omega, ⟨fun h => (by cases h), fun h => absurd h hlast⟩⟩, by dsimp only; omega, ?_⟩
            dsimp only
            rw [hsn]
            (repeat' (first | exact PSub.rfl | exact rfl | exact PSubs.rfl | exact trivial | exact PSub.lit_sb rfl | refine And.intro ?_ ?_))
            all_goals first | exact PSub.ro List.length_set.symm (fun q hq => hrow q (by rw [List.length_set]; exact hq)) | trace_state
        · have hst' : stepI H R (m.items.getD k default) = R := by
            rw [hst, if_neg]
            rintro ⟨a1, a2, a3⟩
            rw [hok, Bool.and_eq_true, decide_eq_true_eq] at a3
            obtain ⟨a4, a5⟩ := a3
            first
              | omega
              | exact absurd a5 (by assumption)
              | exact Bool.noConfusion (a4.symm.trans h)
          rw [hst'] at hsn
          by_cases hlast : k + 1 < m.items.length
          · refine ⟨(true, k + 1), [], ⟨Nat.le_of_lt hlast, ⟨fun _ => hlast, fun _ => rfl⟩⟩, by dsimp only; omega, ?_⟩
            dsimp only
            rw [hsn]
            (repeat' (first | exact PSub.rfl | exact rfl | exact PSubs.rfl | exact trivial | exact PSub.lit_sb rfl | refine And.intro ?_ ?_))
            all_goals (intro i hi; exact PSubs.rfl)
          · have hall : m.items.take (k + 1) = m.items := List.take_of_length_le (by omega)
            rw [hall] at hsn
            refine ⟨(false, k + 1), [], ⟨by dsimp only; omega, ⟨fun h => (by cases h), fun h => absurd h hlast⟩⟩, by dsimp only; omega, ?_⟩
            dsimp only
            rw [hsn]
            (repeat' (first | exact PSub.rfl | exact rfl | exact PSubs.rfl | exact trivial | exact PSub.lit_sb rfl | refine And.intro ?_ ?_))
        · have hst' : stepI H R (m.items.getD k default) = R := by
            rw [hst, if_neg]
            rintro ⟨a1, a2, a3⟩
            rw [hok, Bool.and_eq_true, decide_eq_true_eq] at a3
            obtain ⟨a4, a5⟩ := a3
            first
              | omega
              | exact absurd a5 (by assumption)
              | exact Bool.noConfusion (a4.symm.trans h)
          rw [hst'] at hsn
          by_cases hlast : k + 1 < m.items.length
          · refine ⟨(true, k + 1), [], ⟨Nat.le_of_lt hlast, ⟨fun _ => hlast, fun _ => rfl⟩⟩, by dsimp only; omega, ?_⟩
            dsimp only
            rw [hsn]
            (repeat' (first | exact PSub.rfl | exact rfl | exact PSubs.rfl | exact trivial | exact PSub.lit_sb rfl | refine And.intro ?_ ?_))
            all_goals (intro i hi; exact PSubs.rfl)
          · have hall : m.items.take (k + 1) = m.items := List.take_of_length_le (by omega)
            rw [hall] at hsn
            refine ⟨(false, k + 1), [], ⟨by dsimp only; omega, ⟨fun h => (by cases h), fun h => absurd h hlast⟩⟩, by dsimp only; omega, ?_⟩
            dsimp only
            rw [hsn]
            (repeat' (first | exact PSub.rfl | exact rfl | exact PSubs.rfl | exact trivial | exact PSub.lit_sb rfl | refine And.intro ?_ ?_))
      · rw [ixI, if_neg hlt] at c
        conv => whnf
        refine ⟨fun h => ?_, fun h => absurd (of_decide_eq_false h) (by omega)⟩
        conv => whnf
        refine And.intro (by dsimp only; omega) ?_
        conv => whnf
        rw [show (↑(true, k).snd : Int).toNat = k from rfl]
        repeat (any_goals (first
          | (refine ⟨fun (h : (_ : Bool) = true) => ?_, fun (h : (_ : Bool) = false) => ?_⟩ <;> (try simp only [decide_eq_true_eq, decide_eq_false_iff_not, Bool.not_eq_true', Bool.not_eq_false', Int.toNat_natCast, beq_iff_eq, decide_eq_decide, beq_eq_false_iff_ne, ne_eq, reduceCtorEq] at h) <;> (conv => whnf))
          | (refine .inl ⟨_, c, ?_⟩; conv => whnf)
          | (refine .inl ⟨_, ac_device_Find H (m.items.getD k default).key hH, ?_⟩; conv => whnf)
          | (refine .inl ⟨_, ac_value_Fits ((findA H (m.items.getD k default).key).getD noAttr) (m.items.getD k default).value (small_findA hH), ?_⟩; conv => whnf)
          | (refine And.intro (by (try simp only [Int.toNat_natCast]); omega) ?_; conv => whnf)
          | (refine And.intro (show (_ : Bool) = true from by kernel_rfl) ?_; conv => whnf)
          | (refine .inl ⟨wrap64 (by omega), ?_⟩; conv => whnf)))
        · have hst' : stepI H R (m.items.getD k default) = R := by
            rw [hst, if_neg]
            rintro ⟨a1, a2, a3⟩
            rw [hok, Bool.and_eq_true, decide_eq_true_eq] at a3
            obtain ⟨a4, a5⟩ := a3
            first
              | omega
              | exact absurd a5 (by assumption)
              | exact Bool.noConfusion (a4.symm.trans h)
          rw [hst'] at hsn
          by_cases hlast : k + 1 < m.items.length
          · refine ⟨(true, k + 1), [], ⟨Nat.le_of_lt hlast, ⟨fun _ => hlast, fun _ => rfl⟩⟩, by dsimp only; omega, ?_⟩
            dsimp only
            rw [hsn]
            (repeat' (first | exact PSub.rfl | exact rfl | exact PSubs.rfl | exact trivial | exact PSub.lit_sb rfl | refine And.intro ?_ ?_))
            all_goals (intro i hi; exact PSubs.rfl)
          · have hall : m.items.take (k + 1) = m.items := List.take_of_length_le (by omega)
            rw [hall] at hsn
            refine ⟨(false, k + 1), [], ⟨by dsimp only; omega, ⟨fun h => (by cases h), fun h => absurd h hlast⟩⟩, by dsimp only; omega, ?_⟩
            dsimp only
            rw [hsn]
            (repeat' (first | exact PSub.rfl | exact rfl | exact PSubs.rfl | exact trivial | exact PSub.lit_sb rfl | refine And.intro ?_ ?_))
        all_goals (exfalso; omega)
    | false =>
      have hk : k = m.items.length := by
        rcases Nat.lt_or_ge k m.items.length with h | h
        · have := hb.2 h; cases this
        · omega
      subst hk
      conv => whnf
      refine ⟨fun h => absurd (of_decide_eq_true h) (by omega), fun h => ?_⟩
      conv => whnf
      repeat (any_goals (first
        | (refine ⟨fun (h : (_ : Bool) = true) => ?_, fun (h : (_ : Bool) = false) => ?_⟩ <;> (try simp only [decide_eq_true_eq, decide_eq_false_iff_not, Bool.not_eq_true', Bool.not_eq_false', Int.toNat_natCast, beq_iff_eq, decide_eq_decide, beq_eq_false_iff_ne, ne_eq, reduceCtorEq] at h) <;> (conv => whnf))
        | (refine .inl ⟨_, ac_device_Changed s.reported (repR H b.reported m.items) hs.1 hRs, ?_⟩; conv => whnf)
        | (refine And.intro (by (try simp only [Int.toNat_natCast]); omega) ?_; conv => whnf)
        | (refine And.intro (show (_ : Bool) = true from by kernel_rfl) ?_; conv => whnf)
        | (refine .inl ⟨wrap64 (by omega), ?_⟩; conv => whnf)))
      rw [f1, f2]
      refine ⟨?_, ?_⟩ <;> (conv => whnf)
      · exact PSub.agg ⟨.rfl, .rfl, PSub.int (by simp only [Int.max_def]; (repeat' split) <;> omega), .rfl, PSub.of_eq (show roL 7 cItem s.desired = roL 7 cItem b.desired by rw [hbd, base_des]), .rfl, .rfl, .rfl, .rfl, trivial⟩
      · exact .rfl
end Go.Abs

namespace Go.Abs
open Go.Proofs Go.RowKit Go.Lib
variable {P : Program} [Globals]
theorem run_copy_rowK (k : Nat) (w : World) (dT sT ty elem : TypeId) (g o dLen dCap : Nat) (a : Addr) (sLen sCap : Nat) (cur : Array Value) (t : TypeId) (cs : List Value) (m : Nat)
    (hu : P.underlying dT = some (.slice elem)) (hz : ∀ w, (Go.sizeOf elem).run P w = .ok k w) (hg : w.heap[g]? = some (.cells cur t (0, 0))) (hm : m = Nat.min sLen dLen) (hn : cs.length = m * k)
    (hsrc : ∀ j v, cs[j]? = some v → w.cell? (a.add j) = some v) (hfit : o + cs.length ≤ cur.size) (h1 : ∀ v ∈ cs, v.oneCell' = true) :
    (Builtin.copy_ #[dT, sT] ty #[.slice (some ⟨g, o, none⟩) dLen dCap, .slice (some a) sLen sCap]).run P w =
      .ok (goInt m) (w.setRow g (cur.toList.take o ++ cs ++ cur.toList.drop (o + cs.length)).toArray) := by
  have hl := run_loadCells_list (P := P) w a cs hsrc
  have hst := run_storeCells_at P g o t cs 0 cur w hg (by simpa using hfit) h1
  rw [hn] at hl
  simp [Builtin.copy_, run_underlying hu, Builtin.lenOf, Builtin.firstCells, hz, ← hm, hl, hst]
def insL {α : Type} (l : List α) (i : Nat) (x : α) : List α := l.take i ++ x :: l.drop i
theorem insL_length {α : Type} {l : List α} {i : Nat} {x : α} (h : i ≤ l.length) : (insL l i x).length = l.length + 1 := by
  unfold insL; simp; omega
theorem insL_lt {α : Type} [Inhabited α] {l : List α} {i j : Nat} {x : α} (h : i ≤ l.length) (hj : j < i) : (insL l i x).getD j default = l.getD j default := by
  unfold insL
  simp only [List.getD]
  rw [List.getElem?_append_left (by simp; omega), List.getElem?_take_of_lt hj]
theorem insL_eq {α : Type} [Inhabited α] {l : List α} {i : Nat} {x : α} (h : i ≤ l.length) : (insL l i x).getD i default = x := by
  unfold insL
  simp only [List.getD]
  rw [List.getElem?_append_right (by simp only [List.length_take]; omega)]
  simp [Nat.min_eq_left h]
theorem insL_gt {α : Type} [Inhabited α] {l : List α} {i j : Nat} {x : α} (h : i ≤ l.length) (hj : i < j) : (insL l i x).getD j default = l.getD (j - 1) default := by
  unfold insL
  simp only [List.getD]
  rw [List.getElem?_append_right (by simp; omega), List.length_take, Nat.min_eq_left h]
  obtain ⟨q, rfl⟩ : ∃ q, j = i + q + 1 := ⟨j - i - 1, by omega⟩
  rw [show i + q + 1 - i = q + 1 from by omega, List.getElem?_cons_succ, List.getElem?_drop]
  congr 2
def putC (cur : Array Value) (o : Nat) (cs : List Value) : Array Value := (cur.toList.take o ++ cs ++ cur.toList.drop (o + cs.length)).toArray
theorem putC_size {cur : Array Value} {o : Nat} {cs : List Value} (h : o + cs.length ≤ cur.size) : (putC cur o cs).size = cur.size := by
  unfold putC
  simp
  omega
theorem putC_get {cur : Array Value} {o : Nat} {cs : List Value} (h : o + cs.length ≤ cur.size) (x : Nat) : (putC cur o cs).getD x undef = if o ≤ x ∧ x < o + cs.length then cs.getD (x - o) undef else cur.getD x undef := by
  unfold putC
  simp only [Array.getD_eq_getD_getElem?, List.getD, List.getElem?_toArray]
  by_cases h1 : x < o
  · rw [if_neg (by omega), List.append_assoc, List.getElem?_append_left (by simp; omega), List.getElem?_take_of_lt h1, Array.getElem?_toList]
  · by_cases h2 : x < o + cs.length
    · rw [if_pos (by omega), List.append_assoc, List.getElem?_append_right (by simp; omega), List.getElem?_append_left (by simp; omega)]
      simp [Nat.min_eq_left (show o ≤ cur.size from by omega)]
    · rw [if_neg (by omega), List.getElem?_append_right (by simp; omega), List.getElem?_drop, Array.getElem?_toList]
      congr 2
      simp
      omega
theorem putC_one {cur : Array Value} {o : Nat} {cs : List Value} (h1 : ∀ v ∈ cur.toList, v.oneCell' = true) (h2 : ∀ v ∈ cs, v.oneCell' = true) : ∀ v ∈ (putC cur o cs).toList, v.oneCell' = true := by
  intro v hv
  unfold putC at hv
  simp only [List.mem_append] at hv
  rcases hv with (hv | hv) | hv
  · exact h1 v (List.mem_of_mem_take hv)
  · exact h2 v hv
  · exact h1 v (List.mem_of_mem_drop hv)
theorem lt_getD {a b : List Value} {y : Nat} (h : y < a.length) : (a ++ b).getD y undef = a.getD y undef := by
  simp only [List.getD]; rw [List.getElem?_append_left h]
theorem ge_getD {a b : List Value} {y : Nat} (h : a.length ≤ y) : (a ++ b).getD y undef = b.getD (y - a.length) undef := by
  simp only [List.getD]; rw [List.getElem?_append_right h]
theorem toA_getD (l : List Value) (y : Nat) : l.toArray.getD y undef = l.getD y undef := by
  simp only [List.getD, Array.getD_eq_getD_getElem?, List.getElem?_toArray]
theorem setCells_row {P : Program} {w : World} {b o : Nat} {vs : List Value} {cur : Array Value} {t : TypeId} (hb : w.heap[b]? = some (.cells cur t (0, 0))) (hf : o + vs.length ≤ cur.size) (h1 : ∀ v ∈ vs, v.oneCell' = true) : w.setCells b o vs = w.setRow b (putC cur o vs) := by
  have e1 := run_storeCells_at P b o t vs 0 cur w hb (by simpa using hf) h1
  have e2 := run_storeCells_cells (P := P) b o vs 0 w (fun j hj => by
    have h3 : o + 0 + j < cur.size := by omega
    simp only [World.cell?, hb]
    simp [show o + j < cur.size from by omega]) (fun j hj => by simp [World.frozen?, hb]) h1
  rw [e2] at e1
  exact (Result.ok.inj e1).2
theorem setRow_ext {w : World} {b : Nat} {A : Array Value} : FExt (fun c => c = b) w (w.setRow b A) := by
  refine ⟨rfl, rfl, rfl, by simp [World.setRow], fun c hc hne => ?_, Nat.le_refl _⟩
  show (w.heap.modify b _)[c]? = _
  rw [Array.getElem?_modify, if_neg (Ne.symm hne)]
theorem drew_ext {w : World} {F : Nat → Prop} : FExt F w w.drew := ⟨rfl, rfl, rfl, Nat.le_refl _, fun _ _ _ => rfl, Nat.le_succ _⟩
theorem ext_alloc {F : Nat → Prop} (w : World) (o : Obj) : FExt F w (w.alloc o) := by
  refine ⟨rfl, rfl, rfl, ?_, fun c hc _ => alloc_old w o c hc, Nat.le_refl _⟩
  show w.heap.size ≤ (w.heap.push o).size
  simp
section
variable {α : Type} [Inhabited α]
theorem ins_post {St M0 : Nat → Prop} {σ : Sig} {w w' : World} {k i : Nat} {l : List α} {x : α} {enc : α → List PV} {g : Nat → List PV} {loc0 : Loc} {b' c' : Nat} {cur nv A : Array Value} {t' : TypeId} (hi : Inv St M0 σ w) (h1 : σ 1 = none) (hl : σ 0 = some loc0) (hil : i ≤ l.length)
    (hb : loc0.blk = some b' ∨ w.heap.size ≤ b') (hx : FExt (fun b => loc0.blk = some b) w w') (hA : w'.heap[b']? = some (.cells A t' (0, 0))) (hn : l.length + 1 ≤ c') (hmax : c' ≤ maxLen) (hsz : A.size = c' * k) (hone : ∀ v ∈ A.toList, v.oneCell' = true)
    (hk : ∀ x, (enc x).length = k) (hgx : PSubs (g 0) (enc x))
    (hold : ∀ j, j < l.length → ∀ q p, (enc (l.getD j default))[q]? = some p → PR w (Mof M0 σ) p (cur.getD (j * k + q) undef)) (hnew : ∀ q p, (g 0)[q]? = some p → PR w (Mof M0 σ) p (nv.getD q undef))
    (hget : ∀ y, y < (l.length + 1) * k → A.getD y undef = if y < i * k then cur.getD y undef else if y < (i + 1) * k then nv.getD (y - i * k) undef else cur.getD (y - k) undef) :
    Post P St M0 σ w [(1, rowL k enc (insL l i x)), (0, .gone)] (.own 1) (upd1 (drop1 σ 0) 1 ⟨.slice (some ⟨b', 0, none⟩) (l.length + 1) c', some b'⟩) (.slice (some ⟨b', 0, none⟩) (l.length + 1) c') w' := by
  have hsame : Same (Mof M0 σ) w w' := hx.same.mono fun b _ h => .inr ⟨0, loc0, hl, h⟩
  have hmon : ∀ b, b < w.heap.size → Mof M0 (upd1 (drop1 σ 0) 1 ⟨.slice (some ⟨b', 0, none⟩) (l.length + 1) c', some b'⟩) b → Mof M0 σ b := by
    intro b hbw hm
    rcases hm with hm | hm
    · exact .inl hm
    · rcases owned_upd1 hm with hm | hm
      · exact .inr (owned_drop1 hm)
      · cases hm
        rcases hb with hb | hb
        · exact .inr ⟨0, loc0, hl, hb⟩
        · omega
  have hlen := insL_length (x := x) hil
  refine Post.moved hi h1 hl (fun b e => by cases e; exact hb) hx (fun e => by cases e) ?_
  show OR P w' St _ _ (.row k (insL l i x).length fun j => enc ((insL l i x).getD j default)) _
  rw [hlen]
  refine .row k (l.length + 1) _ b' c' A t' hA hn hmax hsz (fun j _ => hk _) (fun j hj q p hp => ?_) (fun j hj => ?_)
  · have hq : q < k := by have := (List.getElem?_eq_some_iff.1 hp).1; rwa [hk] at this
    have hjk : ∀ a c : Nat, a < c → a * k + q < c * k := fun a c h => Nat.lt_of_lt_of_le (by rw [Nat.succ_mul]; omega) (Nat.mul_le_mul_right k (show a + 1 ≤ c from h))
    rw [hget _ (hjk _ _ hj)]
    rcases Nat.lt_trichotomy j i with h | h | h
    · rw [if_pos (hjk _ _ h)]
      rw [insL_lt hil h] at hp
      exact (hold j (by omega) q p hp).mono hsame hmon
    · subst h
      rw [if_neg (by omega), if_pos (hjk _ _ (Nat.lt_succ_self j)), Nat.add_sub_cancel_left]
      rw [insL_eq hil] at hp
      obtain ⟨p0, hp0, hsub⟩ := hgx.get q p hp
      exact (hsub.to _ _ _ (hnew q p0 hp0)).mono hsame hmon
    · have h2 : (i + 1) * k ≤ j * k := Nat.mul_le_mul_right k h
      have h3 : i * k ≤ (i + 1) * k := Nat.mul_le_mul_right k (Nat.le_succ i)
      rw [if_neg (by omega), if_neg (by omega)]
      rw [insL_gt hil h] at hp
      have e : j * k + q - k = (j - 1) * k + q := by
        obtain ⟨m, rfl⟩ : ∃ m, j = m + 1 := ⟨j - 1, by omega⟩
        rw [Nat.succ_mul, Nat.add_sub_cancel]; omega
      rw [e]
      exact (hold (j - 1) (by omega) q p hp).mono hsame hmon
  · have := hone A[j] (by simp)
    simpa [Array.getD, hj] using this
end
end Go.Abs

namespace Go.Abs
open Go.Proofs Go.RowKit Go.Lib
set_option linter.unusedVariables false
set_option maxHeartbeats 4000000 in
set_option maxRecDepth 100000 in
theorem insItem_shift (b n c i vb vc : Nat) (cur nv : Array Value) (tb tv : TypeId) (w : World) (hi : i < n) (hroom : n + 1 ≤ c) (hc63 : c ≤ 9223372036854775807) (hvb : vb ≠ b)
    (hb : w.heap[b]? = some (.cells cur tb (0, 0))) (hcs : cur.size = c * 7) (hc1 : ∀ v ∈ cur.toList, v.oneCell' = true)
    (hv : w.heap[vb]? = some (.cells nv tv (0, 0))) (hvs : nv.size = vc * 7) (hv1 : ∀ v ∈ nv.toList, v.oneCell' = true) (hvc : 1 ≤ vc) :
    Calls Tryd.prog 29 #[.slice (some ⟨b, 0, none⟩) n c, .int .i64 i, .slice (some ⟨vb, 0, none⟩) 1 vc] w fun e w' =>
      e = .returned (.slice (some ⟨b, 0, none⟩) (n + 1) c) ∧ w' = (w.drew.setRow b (putC cur ((i + 1) * 7) ((cur.toList.drop (i * 7)).take ((n - i) * 7)))).setRow b (putC (putC cur ((i + 1) * 7) ((cur.toList.drop (i * 7)).take ((n - i) * 7))) (i * 7) (nv.toList.take 7)) := by
  have t3 := Tryd.underlying3; have a3 := Tryd.isAgg3; have z3 := Tryd.sizeOf3; have v3 := Tryd.zeroValue3
  have t4 := Tryd.underlying4; have a4 := Tryd.isAgg4; have z4 := Tryd.sizeOf4; have v4 := Tryd.zeroValue4
  have t9 := Tryd.underlying51; have a9 := Tryd.isAgg51; have z9 := Tryd.sizeOf51; have v9 := Tryd.zeroValue51
  have t24 := Tryd.underlying26; have a24 := Tryd.isAgg26; have z24 := Tryd.sizeOf26; have v24 := Tryd.zeroValue26
  have u3 := run_underlying t3; have u4 := run_underlying t4; have u9 := run_underlying t9; have u24 := run_underlying t24
  have hz2 : ¬ ((i : Int) = (n : Int)) := by omega
  have hsv : w.shape? vb = some (tv, nv.size) := by simp [World.shape?, hv]
  have hsb : w.shape? b = some (tb, cur.size) := by simp [World.shape?, hb]
  have hov : ∀ lb cb, (callFunc 53 #[.slice (some ⟨vb, 0, none⟩) 1 vc, .slice (some ⟨b, (i + 1) * 7, none⟩) lb cb]).run Tryd.prog w = .ok (.value (.bool false)) w := fun lb cb => by
    rw [run_callFunc_extern Tryd.func53 (by kernel_rfl) (by kernel_rfl) (by kernel_rfl) (e := Extern.SlicesOverlaps.overlaps #[26, 26] #[4]) (by kernel_rfl),
      Lib.run_overlaps_apart w 26 4 51 t24 7 z9 ⟨vb, 0, none⟩ ⟨b, (i + 1) * 7, none⟩ 1 vc lb cb hvb tv tb nv.size cur.size hsv hsb (by omega) (by simp [World.frozen?, hv]) (by simp [World.frozen?, hv])]
    rfl
  have hw1 : IntKind.i64.wrap ((i : Int) + 1) = (i : Int) + 1 := by rw [IntKind.wrap_i64]; omega
  have hw2 : IntKind.i64.wrap ((n : Int) + 1) = (n : Int) + 1 := by rw [IntKind.wrap_i64]; omega
  have hb1 : (0 : Int) ≤ (i : Int) + 1 := by omega
  have hin : i ≤ n := by omega
  have htn : ((i : Int) + 1).toNat = i + 1 := by omega
  have htn2 : ((n : Int) + 1).toNat = n + 1 := by omega
  have hb2 : ¬ (c = i + 1) := by omega
  have hb3 : (i : Int) ≤ (n : Int) + 1 := by omega
  have hb4 : ¬ (c = i) := by omega
  have hnc : ¬ ((c : Int) < (n : Int) + 1) := by omega
  obtain ⟨cs, hcs1⟩ : ∃ cs, cs = (cur.toList.drop (i * 7)).take ((n - i) * 7) := ⟨_, rfl⟩
  have hcl : cs.length = (n - i) * 7 := by rw [hcs1]; simp; omega
  have hcg : ∀ j v, cs[j]? = some v → cur[i * 7 + j]? = some v := fun j v hj => by
    rw [hcs1, List.getElem?_take] at hj
    split at hj
    · rw [List.getElem?_drop] at hj; simpa using hj
    · cases hj
  have hcm : ∀ v ∈ cs, v.oneCell' = true := fun v hv => by rw [hcs1] at hv; exact hc1 v (List.mem_of_mem_drop (List.mem_of_mem_take hv))
  have hcp1 : ∀ ty dc sc, (Builtin.copy_ #[26, 26] ty #[.slice (some ⟨b, (i + 1) * 7, none⟩) (n - i) dc, .slice (some ⟨b, i * 7, none⟩) (n + 1 - i) sc]).run Tryd.prog w.drew = .ok (goInt ((n - i : Nat) : Int)) (w.drew.setRow b (putC cur ((i + 1) * 7) cs)) := fun ty dc sc => by
    have h0 := run_copy_rowK (P := Tryd.prog) 7 w.drew 26 26 ty 51 b ((i + 1) * 7) (n - i) dc ⟨b, i * 7, none⟩ (n + 1 - i) sc cur tb cs (n - i) t24 z9 hb (by simp only [Nat.min_def]; split <;> omega) hcl
      (fun j v hj => by
        have h := hcg j v hj
        rw [Addr.add_lit]
        show w.cell? _ = _
        simp only [World.cell?, hb]
        simpa using h) (by rw [hcl]; omega) hcm
    exact h0
  obtain ⟨A1, hA1⟩ : ∃ A1, A1 = putC cur ((i + 1) * 7) cs := ⟨_, rfl⟩
  have hA1s : A1.size = cur.size := by rw [hA1, putC_size (by rw [hcl]; omega)]
  have hg1 : (w.drew.setRow b A1).heap[b]? = some (.cells A1 tb (0, 0)) := setRow_heap w.drew b cur _ tb _ hb
  have hv2 : (w.drew.setRow b A1).heap[vb]? = some (.cells nv tv (0, 0)) := by
    show (w.drew.heap.modify b _)[vb]? = _
    rw [Array.getElem?_modify, if_neg (Ne.symm hvb)]; exact hv
  have hvl : (nv.toList.take 7).length = 1 * 7 := by simp; omega
  have hcp2 : ∀ (W : World), W.heap = (w.drew.setRow b A1).heap → ∀ ty dc, (Builtin.copy_ #[26, 26] ty #[.slice (some ⟨b, i * 7, none⟩) (n + 1 - i) dc, .slice (some ⟨vb, 0, none⟩) 1 vc]).run Tryd.prog W = .ok (goInt ((1 : Nat) : Int)) (W.setRow b (putC A1 (i * 7) (nv.toList.take 7))) := fun W hW ty dc => by
    have h0 := run_copy_rowK (P := Tryd.prog) 7 W 26 26 ty 51 b (i * 7) (n + 1 - i) dc ⟨vb, 0, none⟩ 1 vc A1 tb (nv.toList.take 7) 1 t24 z9 (by rw [hW]; exact hg1) (by simp only [Nat.min_def]; split <;> omega) hvl
      (fun j v hj => by
        rw [Addr.add_lit, Nat.zero_add]
        simp only [World.cell?, hW, hv2]
        rw [List.getElem?_take] at hj
        split at hj
        · simpa using hj
        · cases hj) (by rw [hvl]; omega) (fun v hv => hv1 v (List.mem_of_mem_take hv))
    exact h0
  rw [← hA1] at hcp1
  rw [← hcs1, ← hA1]
  have mixed := hm
  go_enter Tryd.func29, Tryd.ntmps29
  go_wp2_with (simp only [hov])
  go_region_law_o (refine step_copy_runI rfl _ _ 26 26 rfl _ _ (by simp [Act.eval, Act.put]) (by simp [Act.eval, Act.put]) (hcp1 _ _ _) ?_)
  go_wp2_with (at_builtin; refine wpList_copy_runI _ rfl _ _ 26 26 rfl _ _ rfl rfl (hcp2 _ rfl _ _) ?_)
  go_ret
  exact ⟨rfl, by rw [hA1, hcs1]⟩
theorem srcI_row {w : World} {vb vc : Nat} {nv : Array Value} {tv : TypeId} (hv : w.heap[vb]? = some (.cells nv tv (0, 0))) (hvs : nv.size = vc * 7) (hv1 : ∀ v ∈ nv.toList, v.oneCell' = true) (hvc : 1 ≤ vc) :
    Go.Src Tryd.prog 7 26 (.slice (some ⟨vb, 0, none⟩) 1 vc) 1 (nv.toList.take 7) w :=
  Go.Src.ofSlice (w := w) Tryd.underlying26 ⟨vb, 0, none⟩ 1 vc (nv.toList.take 7) (by simp; omega) (fun j u hj => by
    rw [Addr.add_lit, Nat.zero_add]
    simp only [World.cell?, hv]
    rw [List.getElem?_take] at hj
    split at hj
    · simpa using hj
    · cases hj) (fun v hv => hv1 v (List.mem_of_mem_take hv))
set_option maxHeartbeats 4000000 in
set_option maxRecDepth 100000 in
theorem insItem_end_room (b n c vb vc : Nat) (cur nv : Array Value) (tb tv : TypeId) (w : World) (hroom : n + 1 ≤ c) (hc63 : c ≤ 9223372036854775807)
    (hb : w.heap[b]? = some (.cells cur tb (0, 0))) (hcs : cur.size = c * 7)
    (hv : w.heap[vb]? = some (.cells nv tv (0, 0))) (hvs : nv.size = vc * 7) (hv1 : ∀ v ∈ nv.toList, v.oneCell' = true) (hvc : 1 ≤ vc) :
    Calls Tryd.prog 29 #[.slice (some ⟨b, 0, none⟩) n c, .int .i64 n, .slice (some ⟨vb, 0, none⟩) 1 vc] w fun e w' =>
      e = .returned (.slice (some ⟨b, 0, none⟩) (n + 1) c) ∧ w' = w.setCells b (n * 7) (nv.toList.take 7) := by
  have t3 := Tryd.underlying3; have a3 := Tryd.isAgg3; have z3 := Tryd.sizeOf3; have v3 := Tryd.zeroValue3
  have t4 := Tryd.underlying4; have a4 := Tryd.isAgg4; have z4 := Tryd.sizeOf4; have v4 := Tryd.zeroValue4
  have t9 := Tryd.underlying51; have a9 := Tryd.isAgg51; have z9 := Tryd.sizeOf51; have v9 := Tryd.zeroValue51
  have t24 := Tryd.underlying26; have a24 := Tryd.isAgg26; have z24 := Tryd.sizeOf26; have v24 := Tryd.zeroValue26
  have u3 := run_underlying t3; have u4 := run_underlying t4; have u9 := run_underlying t9; have u24 := run_underlying t24
  have mixed := hm
  obtain ⟨i0, hi0, hz0, hzs, hzb⟩ := info_parts (show (Tryd.prog.info? 51).map (fun i => (i.zero, i.size, i.bytes)) = some (some (.agg #[.int .i64 0, .string ⟨#[]⟩, .string ⟨#[]⟩, .int .i64 0, .int .i64 0, .string ⟨#[]⟩, .int .i64 0]), 7, 80) from by kernel_rfl)
  have hvl : (nv.toList.take 7).length = 7 := by simp; omega
  have hsrc := srcI_row hv hvs hv1 hvc
  have hrun : ∀ ty, (Builtin.append_ #[26, 26] ty #[.slice (some ⟨b, 0, none⟩) n c, .slice (some ⟨vb, 0, none⟩) 1 vc]).run Tryd.prog w = .ok (.slice (some ⟨b, 0, none⟩) (n + 1) c) (w.setCells b (n * 7) (nv.toList.take 7)) := fun ty => by
    have h0 := run_append_room_src (P := Tryd.prog) (w := w) 26 26 ty 51 i0 t24 hi0 b 0 n c (.slice (some ⟨vb, 0, none⟩) 1 vc) 1 (nv.toList.take 7) (by rw [hzs]; exact hsrc) hroom
      (fun j hj => by
        rw [hzs]
        have h1 : n * 7 + j < cur.size := by omega
        simp only [World.cell?, hb, Nat.zero_add]
        simp [h1]) (fun j hj => by simp [World.frozen?, hb])
    rw [hzs, Nat.zero_add] at h0
    exact h0
  go_enter Tryd.func29, Tryd.ntmps29
  go_wp2_with (at_builtin; refine Lib.wpList_append_run _ rfl _ _ _ _ rfl _ _ rfl rfl _ _ (hrun _) ?_)
  go_ret
  exact ⟨rfl, rfl⟩
set_option maxHeartbeats 4000000 in
set_option maxRecDepth 100000 in
theorem insItem_end_grow (base : Option Addr) (n c vb vc : Nat) (olds : List Value) (nv : Array Value) (tv : TypeId) (w : World) (hnc : n ≤ c) (hroom : c < n + 1) (hbig : (n + 1) * 80 ≤ 140737488355328)
    (hold : (Builtin.firstCells 7 n (.slice base n c)).run Tryd.prog w.drew = .ok olds.toArray w.drew) (hnil : base = none → n = 0)
    (hv : w.heap[vb]? = some (.cells nv tv (0, 0))) (hvs : nv.size = vc * 7) (hv1 : ∀ v ∈ nv.toList, v.oneCell' = true) (hvc : 1 ≤ vc) :
    Calls Tryd.prog 29 #[.slice base n c, .int .i64 n, .slice (some ⟨vb, 0, none⟩) 1 vc] w fun e w' =>
      e = .returned (.slice (some ⟨w.heap.size, 0, none⟩) (n + 1) (grownCap w (n + 1) c 51)) ∧
      w' = w.drew.alloc (.cells ((olds ++ nv.toList.take 7).toArray ++ Builtin.zeroCells (Value.agg #[.int .i64 0, .string ⟨#[]⟩, .string ⟨#[]⟩, .int .i64 0, .int .i64 0, .string ⟨#[]⟩, .int .i64 0]).cells (grownCap w (n + 1) c 51 - (n + 1))) 51) := by
  have t3 := Tryd.underlying3; have a3 := Tryd.isAgg3; have z3 := Tryd.sizeOf3; have v3 := Tryd.zeroValue3
  have t4 := Tryd.underlying4; have a4 := Tryd.isAgg4; have z4 := Tryd.sizeOf4; have v4 := Tryd.zeroValue4
  have t9 := Tryd.underlying51; have a9 := Tryd.isAgg51; have z9 := Tryd.sizeOf51; have v9 := Tryd.zeroValue51
  have t24 := Tryd.underlying26; have a24 := Tryd.isAgg26; have z24 := Tryd.sizeOf26; have v24 := Tryd.zeroValue26
  have u3 := run_underlying t3; have u4 := run_underlying t4; have u9 := run_underlying t9; have u24 := run_underlying t24
  have mixed := hm
  obtain ⟨i0, hi0, hz0, hzs, hzb⟩ := info_parts (show (Tryd.prog.info? 51).map (fun i => (i.zero, i.size, i.bytes)) = some (some (.agg #[.int .i64 0, .string ⟨#[]⟩, .string ⟨#[]⟩, .int .i64 0, .int .i64 0, .string ⟨#[]⟩, .int .i64 0]), 7, 80) from by kernel_rfl)
  have hsrc := srcI_row hv hvs hv1 hvc
  have hrun : ∀ ty, (Builtin.append_ #[26, 26] ty #[.slice base n c, .slice (some ⟨vb, 0, none⟩) 1 vc]).run Tryd.prog w = _ := fun ty =>
    run_append_grow_src (P := Tryd.prog) (w := w) 26 26 ty 51 i0 _ t24 hi0 hz0 base n c olds (by rw [hzs]; exact hold) (.slice (some ⟨vb, 0, none⟩) 1 vc) 1 (nv.toList.take 7) (by rw [hzs]; exact hsrc) hroom (by omega) (by rw [hzb]; exact growslice_fits hroom hbig)
  go_enter Tryd.func29, Tryd.ntmps29
  cases base with
  | none =>
    have h0 := hnil rfl
    subst h0
    go_wp2_with (at_builtin; refine Lib.wpList_append_run _ rfl _ _ _ _ rfl _ _ rfl rfl _ _ (hrun _) ?_)
    go_ret
    exact ⟨rfl, rfl⟩
  | some a =>
    obtain ⟨ab, ao, asp⟩ := a
    go_wp2_with (at_builtin; refine Lib.wpList_append_run _ rfl _ _ _ _ rfl _ _ rfl rfl _ _ (hrun _) ?_)
    all_goals (go_ret; exact ⟨rfl, rfl⟩)
set_option maxHeartbeats 4000000 in
set_option maxRecDepth 100000 in
theorem insItem_grow (b n c i vb vc : Nat) (cur nv : Array Value) (tb tv : TypeId) (w : World) (hi : i < n) (hnc : n ≤ c) (hroom : c < n + 1) (hbig : (n + 1) * 80 ≤ 140737488355328)
    (hb : w.heap[b]? = some (.cells cur tb (0, 0))) (hcs : cur.size = c * 7) (hc1 : ∀ v ∈ cur.toList, v.oneCell' = true)
    (hv : w.heap[vb]? = some (.cells nv tv (0, 0))) (hvs : nv.size = vc * 7) (hv1 : ∀ v ∈ nv.toList, v.oneCell' = true) (hvc : 1 ≤ vc) :
    ∃ G ROW W1, n + 1 ≤ G ∧ G ≤ maxLen ∧ ROW = (cur.toList.take (i * 7)).toArray ++ Builtin.zeroCells (Value.agg #[.int .i64 0, .string ⟨#[]⟩, .string ⟨#[]⟩, .int .i64 0, .int .i64 0, .string ⟨#[]⟩, .int .i64 0]).cells (n + 1 - i) ++ Builtin.zeroCells (Value.agg #[.int .i64 0, .string ⟨#[]⟩, .string ⟨#[]⟩, .int .i64 0, .int .i64 0, .string ⟨#[]⟩, .int .i64 0]).cells (G - (n + 1)) ∧ W1 = w.drew.alloc (.cells ROW 51) ∧
    Calls Tryd.prog 29 #[.slice (some ⟨b, 0, none⟩) n c, .int .i64 i, .slice (some ⟨vb, 0, none⟩) 1 vc] w fun e w' =>
      e = .returned (.slice (some ⟨w.heap.size, 0, none⟩) (n + 1) G) ∧ w' = (((W1.setRow w.heap.size (putC ROW (i * 7) (nv.toList.take 7)))).drew).setRow w.heap.size (putC (putC ROW (i * 7) (nv.toList.take 7)) ((i + 1) * 7) ((cur.toList.drop (i * 7)).take ((n - i) * 7))) := by
  have t3 := Tryd.underlying3; have a3 := Tryd.isAgg3; have z3 := Tryd.sizeOf3; have v3 := Tryd.zeroValue3
  have t4 := Tryd.underlying4; have a4 := Tryd.isAgg4; have z4 := Tryd.sizeOf4; have v4 := Tryd.zeroValue4
  have t9 := Tryd.underlying51; have a9 := Tryd.isAgg51; have z9 := Tryd.sizeOf51; have v9 := Tryd.zeroValue51
  have t24 := Tryd.underlying26; have a24 := Tryd.isAgg26; have z24 := Tryd.sizeOf26; have v24 := Tryd.zeroValue26
  have u3 := run_underlying t3; have u4 := run_underlying t4; have u9 := run_underlying t9; have u24 := run_underlying t24
  have mixed := hm
  obtain ⟨i0, hi0, hz0, hzs, hzb⟩ := info_parts (show (Tryd.prog.info? 51).map (fun i => (i.zero, i.size, i.bytes)) = some (some (.agg #[.int .i64 0, .string ⟨#[]⟩, .string ⟨#[]⟩, .int .i64 0, .int .i64 0, .string ⟨#[]⟩, .int .i64 0]), 7, 80) from by kernel_rfl)
  have hbw : b < w.heap.size := lt_of_block hb
  have hvw : vb < w.heap.size := lt_of_block hv
  have hz2 : ¬ ((i : Int) = (n : Int)) := by omega
  have hz3 : (c : Int) < (n : Int) + 1 := by omega
  have hkk : (n : Int) + 1 - (i : Int) = ((n + 1 - i : Nat) : Int) := by omega
  have hik : i + (n + 1 - i) = n + 1 := by omega
  have hcell : ∀ (o j : Nat) (v : Value), cur[o + j]? = some v → w.cell? ⟨b, o + j, none⟩ = some v := fun o j v h => by
    simp only [World.cell?, hb]
    simpa using h
  have hold : (Builtin.firstCells i0.size i (.slice (some ⟨b, 0, none⟩) i c)).run Tryd.prog w.drew = .ok (cur.toList.take (i * 7)).toArray w.drew := by
    rw [hzs]
    exact run_firstCells_some w.drew 7 i ⟨b, 0, none⟩ i c (cur.toList.take (i * 7)) (by rw [List.length_take]; simp; omega) (fun j v hj => by
      rw [Addr.add_lit]
      rw [List.getElem?_take] at hj
      split at hj
      · exact hcell 0 j v (by simpa using hj)
      · cases hj)
  obtain ⟨G, hG⟩ : ∃ G, G = grownCap w (n + 1) c 51 := ⟨_, rfl⟩
  obtain ⟨ROW, hROW⟩ : ∃ ROW : Array Value, ROW = (cur.toList.take (i * 7)).toArray ++ Builtin.zeroCells (Value.agg #[.int .i64 0, .string ⟨#[]⟩, .string ⟨#[]⟩, .int .i64 0, .int .i64 0, .string ⟨#[]⟩, .int .i64 0]).cells (n + 1 - i) ++ Builtin.zeroCells (Value.agg #[.int .i64 0, .string ⟨#[]⟩, .string ⟨#[]⟩, .int .i64 0, .int .i64 0, .string ⟨#[]⟩, .int .i64 0]).cells (G - (n + 1)) := ⟨_, rfl⟩
  have hrz : ∀ ty, (Builtin.append_ #[26, 3] ty #[.slice (some ⟨b, 0, none⟩) i c, .int .i64 ((n : Int) + 1 - (i : Int))]).run Tryd.prog w =
      .ok (.slice (some ⟨w.heap.size, 0, none⟩) (n + 1) G) (w.drew.alloc (.cells ROW 51)) := fun ty => by
    have h := Lib.run_append_grow_zeros (P := Tryd.prog) w 26 3 ty 51 i0 _ .i64 .i64 t24 t3 hi0 hz0 (some ⟨b, 0, none⟩) i c (cur.toList.take (i * 7)) hold (n + 1 - i) (by omega) (by omega) (by omega) (by omega) (by rw [hzb]; omega) (by rw [hzb, hik]; exact growslice_fits hroom hbig)
    rw [hik] at h
    rw [hkk, hROW, hG]
    exact h
  have hGn : n + 1 ≤ G := by rw [hG]; exact grownCap_ge w _ _ _
  have hGm : G ≤ maxLen := by rw [hG]; exact grownCap_le_maxLen w (n + 1) c 51 (by unfold maxLen; omega)
  have hG63 : G ≤ 9223372036854775807 := by unfold maxLen at hGm; omega
  have hRl : ROW.size = G * 7 := by
    rw [hROW]
    simp [Builtin.zeroCells, Value.cells]
    omega
  obtain ⟨W1, hW1⟩ : ∃ W1, W1 = w.drew.alloc (.cells ROW 51) := ⟨_, rfl⟩
  refine ⟨G, ROW, W1, hGn, hGm, hROW, hW1, ?_⟩
  rw [← hW1] at hrz
  have hN1 : W1.heap[w.heap.size]? = some (.cells ROW 51 (0, 0)) := by rw [hW1]; exact alloc_new w.drew _
  have hB1 : W1.heap[b]? = some (.cells cur tb (0, 0)) := by rw [hW1]; exact (alloc_old w.drew _ b hbw).trans hb
  have hV1 : W1.heap[vb]? = some (.cells nv tv (0, 0)) := by rw [hW1]; exact (alloc_old w.drew _ vb hvw).trans hv
  have hvl : (nv.toList.take 7).length = 1 * 7 := by simp; omega
  have hcpA : ∀ (W : World), W.heap = W1.heap → ∀ ty dc, (Builtin.copy_ #[26, 26] ty #[.slice (some ⟨w.heap.size, i * 7, none⟩) (n + 1 - i) dc, .slice (some ⟨vb, 0, none⟩) 1 vc]).run Tryd.prog W = .ok (goInt ((1 : Nat) : Int)) (W.setRow w.heap.size (putC ROW (i * 7) (nv.toList.take 7))) := fun W hW ty dc => by
    have h0 := run_copy_rowK (P := Tryd.prog) 7 W 26 26 ty 51 w.heap.size (i * 7) (n + 1 - i) dc ⟨vb, 0, none⟩ 1 vc ROW 51 (nv.toList.take 7) 1 t24 z9 (by rw [hW]; exact hN1) (by simp only [Nat.min_def]; split <;> omega) hvl
      (fun j v hj => by
        rw [Addr.add_lit, Nat.zero_add]
        simp only [World.cell?, hW, hV1]
        rw [List.getElem?_take] at hj
        split at hj
        · simpa using hj
        · cases hj) (by rw [hvl]; omega) (fun v hv => hv1 v (List.mem_of_mem_take hv))
    exact h0
  obtain ⟨A1, hA1⟩ : ∃ A1, A1 = putC ROW (i * 7) (nv.toList.take 7) := ⟨_, rfl⟩
  have hA1s : A1.size = ROW.size := by rw [hA1, putC_size (by rw [hvl]; omega)]
  obtain ⟨cs, hcs1⟩ : ∃ cs, cs = (cur.toList.drop (i * 7)).take ((n - i) * 7) := ⟨_, rfl⟩
  have hcl : cs.length = (n - i) * 7 := by rw [hcs1]; simp; omega
  have hcg : ∀ j v, cs[j]? = some v → cur[i * 7 + j]? = some v := fun j v hj => by
    rw [hcs1, List.getElem?_take] at hj
    split at hj
    · rw [List.getElem?_drop] at hj; simpa using hj
    · cases hj
  have hcm : ∀ v ∈ cs, v.oneCell' = true := fun v hv => by rw [hcs1] at hv; exact hc1 v (List.mem_of_mem_drop (List.mem_of_mem_take hv))
  have hN2 : (W1.setRow w.heap.size A1).heap[w.heap.size]? = some (.cells A1 51 (0, 0)) := setRow_heap W1 w.heap.size ROW _ 51 _ hN1
  have hB2 : (W1.setRow w.heap.size A1).heap[b]? = some (.cells cur tb (0, 0)) := by
    show (W1.heap.modify w.heap.size _)[b]? = _
    rw [Array.getElem?_modify, if_neg (by omega)]; exact hB1
  have hcpB : ∀ (W : World), W.heap = (W1.setRow w.heap.size A1).heap → ∀ ty dc sc, (Builtin.copy_ #[26, 26] ty #[.slice (some ⟨w.heap.size, (i + 1) * 7, none⟩) (n - i) dc, .slice (some ⟨b, i * 7, none⟩) (n - i) sc]).run Tryd.prog W = .ok (goInt ((n - i : Nat) : Int)) (W.setRow w.heap.size (putC A1 ((i + 1) * 7) cs)) := fun W hW ty dc sc => by
    have h0 := run_copy_rowK (P := Tryd.prog) 7 W 26 26 ty 51 w.heap.size ((i + 1) * 7) (n - i) dc ⟨b, i * 7, none⟩ (n - i) sc A1 51 cs (n - i) t24 z9 (by rw [hW]; exact hN2) (by simp only [Nat.min_def]; split <;> omega) hcl
      (fun j v hj => by
        have h := hcg j v hj
        rw [Addr.add_lit]
        simp only [World.cell?, hW, hB2]
        simpa using h) (by rw [hcl]; omega) hcm
    exact h0
  have hw1 : IntKind.i64.wrap ((i : Int) + 1) = (i : Int) + 1 := by rw [IntKind.wrap_i64]; omega
  have hw2 : IntKind.i64.wrap ((n : Int) + 1) = (n : Int) + 1 := by rw [IntKind.wrap_i64]; omega
  have hw3 : IntKind.i64.wrap ((n : Int) + 1 - (i : Int)) = (n : Int) + 1 - (i : Int) := by rw [IntKind.wrap_i64]; omega
  have hb1 : (0 : Int) ≤ (i : Int) + 1 := by omega
  have hin : i ≤ n := by omega
  have htn : ((i : Int) + 1).toNat = i + 1 := by omega
  have hb3 : (i : Int) ≤ (n : Int) := by omega
  have hGi : ¬ (G = i) := by omega
  have hGim : ¬ (G = i + 1) := by omega
  have hci : ¬ (c = i) := by omega
  rw [← hA1] at hcpA
  rw [← hA1, ← hcs1]
  clear hkk hik hold hROW hG hW1 hcs1 hA1
  go_enter Tryd.func29, Tryd.ntmps29
  go_wp2_with (first
    | (at_builtin; refine Lib.wpList_append_run _ rfl _ _ _ _ rfl _ _ rfl rfl _ _ (hrz _) ?_)
    | (at_builtin; refine wpList_copy_runI _ rfl _ _ 26 26 rfl _ _ rfl rfl (hcpA _ rfl _ _) ?_))
  go_region_law_o (refine step_copy_runI rfl _ _ 26 26 rfl (.slice (some ⟨w.heap.size, (i + 1) * 7, none⟩) (n - i) (G - (i + 1))) (.slice (some ⟨b, i * 7, none⟩) (n - i) (c - i)) (by simp [Act.eval, Act.put]) (by simp [Act.eval, Act.put]) (hcpB (W1.setRow w.heap.size A1).drew rfl 3 (G - (i + 1)) (c - i)) ?_)
  go_wp2
  go_ret
  exact ⟨rfl, rfl⟩
theorem zeroI_one (m : Nat) : ∀ v ∈ (Builtin.zeroCells (Value.agg #[.int .i64 0, .string ⟨#[]⟩, .string ⟨#[]⟩, .int .i64 0, .int .i64 0, .string ⟨#[]⟩, .int .i64 0]).cells m).toList, v.oneCell' = true := by
  intro v hv
  obtain ⟨j, hj, rfl⟩ := List.getElem_of_mem hv
  have h3 : j % 7 = 0 ∨ j % 7 = 1 ∨ j % 7 = 2 ∨ j % 7 = 3 ∨ j % 7 = 4 ∨ j % 7 = 5 ∨ j % 7 = 6 := by omega
  simp only [Builtin.zeroCells, Value.cells, Array.toList_map, List.getElem_map, Array.toList_range, List.getElem_range]
  show (#[Value.int .i64 0, .string ⟨#[]⟩, .string ⟨#[]⟩, .int .i64 0, .int .i64 0, .string ⟨#[]⟩, .int .i64 0][j % 7]!).oneCell' = true
  rcases h3 with h | h | h | h | h | h | h <;> rw [h] <;> rfl
theorem zeroI_size (m : Nat) : (Builtin.zeroCells (Value.agg #[.int .i64 0, .string ⟨#[]⟩, .string ⟨#[]⟩, .int .i64 0, .int .i64 0, .string ⟨#[]⟩, .int .i64 0]).cells m).size = m * 7 := by simp [Builtin.zeroCells, Value.cells]
theorem takeI_getD {nv : Array Value} {m y : Nat} (h : y < m) : (nv.toList.take m).getD y undef = nv.getD y undef := by
  simp only [List.getD, Array.getD_eq_getD_getElem?]
  rw [List.getElem?_take_of_lt h, Array.getElem?_toList]
theorem midI_getD {cur : Array Value} {a m y : Nat} (h : y < m) : ((cur.toList.drop a).take m).getD y undef = cur.getD (a + y) undef := by
  simp only [List.getD, Array.getD_eq_getD_getElem?]
  rw [List.getElem?_take_of_lt h, List.getElem?_drop, Array.getElem?_toList]
set_option maxHeartbeats 1000000 in
theorem ac_slices_Insert_Item {l : List Item} {i : Nat} {x : Item} {g : Nat → List PV} (hil : i ≤ l.length) (hln : l.length ≤ 1048576) (hgx : PSubs (g 0) (cItem x)) :
    AC Tryd.prog 29 [.own 0, .pv (vint i), .own 2] [(0, rowL 7 cItem l), (2, .row 7 1 g)] (.own 1) [(1, rowL 7 cItem (insL l i x)), (0, .gone)] := by
  refine ⟨Tryd.call29, fun St M0 σ w vals hi hσ hos hsz hA => ?_⟩
  obtain ⟨loc0, hl0, hor⟩ := hos 0 _ (by simp [getO]; rfl)
  obtain ⟨loc2, hl2, hor2⟩ := hos 2 (.row 7 1 g) (by simp [getO])
  have h1 : σ 1 = none := hσ 1 (by simp [getO])
  have hv0 := arg_own (hA 0 (.own 0) rfl) hl0
  have hv1 := pr_val (arg_pv (hA 1 (.pv (vint i)) rfl))
  have hv2 := arg_own (hA 2 (.own 2) rfl) hl2
  have hvals : vals = #[vals.getD 0 undef, vals.getD 1 undef, vals.getD 2 undef] := by
    have hs2 : vals.size = 3 := hsz
    apply Array.ext
    · simpa using hs2
    · intro i h2 h3
      have : i = 0 ∨ i = 1 ∨ i = 2 := by omega
      rcases this with rfl | rfl | rfl <;> simp [Array.getD, hs2]
  rw [hvals, hv0, hv1, hv2]
  generalize hk1 : (1 : Nat) = n1 at hor2
  cases hor2 with
  | row0 _ _ a => cases hk1
  | row _ _ _ b2 cap2 nv tv hb2 hn2 hmax2 hsz2 hs2 hh2 hone2 =>
  subst hk1
  have hnv1 : ∀ v ∈ nv.toList, v.oneCell' = true := fun v hv => by
    obtain ⟨j, hj, rfl⟩ := List.getElem_of_mem hv
    have := hone2 j (by simpa using hj)
    simpa [Array.getD, show j < nv.size from by simpa using hj] using this
  have hnew : ∀ q p, (g 0)[q]? = some p → PR w (Mof M0 σ) p (nv.getD q undef) := fun q p e => by
    have := hh2 0 (by omega) q p e
    rwa [Nat.zero_mul, Nat.zero_add] at this
  have hnl : (nv.toList.take 7).length = 7 := by simp; omega
  have hnm : ∀ v ∈ nv.toList.take 7, v.oneCell' = true := fun v hv => hnv1 v (List.mem_of_mem_take hv)
  change OR _ _ _ _ _ (.row 7 l.length fun j => cItem (l.getD j default)) loc0 at hor
  generalize hn0 : l.length = n0 at hor
  have hml : n0 + 1 ≤ maxLen := by unfold maxLen; omega
  cases hor with
  | row0 _ _ a =>
    have hi0 : i = 0 := by omega
    subst hi0
    refine (insItem_end_grow a 0 0 b2 cap2 [] nv tv w (by omega) (by omega) (by omega) (by
      cases a with
      | none => exact run_firstCells_none w.drew 7 0 0 0
      | some ad => exact run_firstCells_some w.drew 7 0 ad 0 0 [] rfl (fun j v hj => by simp at hj)) (fun _ => rfl) hb2 hsz2 hnv1 hn2).mono (fun e w' h => ?_)
    obtain ⟨rfl, rfl⟩ := h
    have hge := grownCap_ge w (0 + 1) 0 51
    have hp := ins_post (P := Tryd.prog) (x := x) (g := g) (enc := cItem) (k := 7) (cur := #[]) (nv := nv) (A := (([] ++ nv.toList.take 7).toArray ++ Builtin.zeroCells (Value.agg #[.int .i64 0, .string ⟨#[]⟩, .string ⟨#[]⟩, .int .i64 0, .int .i64 0, .string ⟨#[]⟩, .int .i64 0]).cells (grownCap w (0 + 1) 0 51 - (0 + 1)))) (t' := 51) (c' := grownCap w (0 + 1) 0 51) hi h1 hl0 hil (.inr (Nat.le_refl _)) (drew_ext.trans (ext_alloc _ _)) (alloc_new w.drew _) (by rw [hn0]; exact hge) (grownCap_le_maxLen w _ _ _ hml) (by rw [Array.size_append, List.size_toArray, List.nil_append, hnl, zeroI_size]; omega) (fun v hv => ?_) (fun _ => rfl) hgx (fun j hj => by omega) hnew (fun y hy => ?_)
    · rw [hn0] at hp
      exact ⟨_, _, rfl, hp⟩
    · simp only [Array.toList_append, List.mem_append, List.nil_append] at hv
      rcases hv with hv | hv
      · exact hnm v hv
      · exact zeroI_one _ v hv
    · rw [hn0] at hy
      rw [if_neg (by omega), if_pos (by omega), getD_append_left (by rw [List.size_toArray, List.nil_append, hnl]; omega), Nat.zero_mul, Nat.sub_zero, toA_getD, List.nil_append, takeI_getD (m := 7) (by omega)]
  | row _ _ _ b cap vs tb hb hn hmax hsz' hs hh hone =>
    have hc1 : ∀ v ∈ vs.toList, v.oneCell' = true := fun v hv => by
      obtain ⟨j, hj, rfl⟩ := List.getElem_of_mem hv
      have := hone j (by simpa using hj)
      simpa [Array.getD, show j < vs.size from by simpa using hj] using this
    have hne : b2 ≠ b := fun e => by
      subst e
      have := hi.sep 0 2 _ _ b2 hl0 hl2 rfl rfl
      cases this
    subst hn0
    have hc63 : cap ≤ 9223372036854775807 := by unfold maxLen at hmax; omega
    have fin := fun (w' : World) (b' c' : Nat) (A : Array Value) (t' : TypeId) (hb') (hx) (hA) (hn') (hm') (hz) (ho) (hg) => ins_post (P := Tryd.prog) (w' := w') (b' := b') (c' := c') (A := A) (t' := t') (x := x) (g := g) (enc := cItem) (k := 7) (cur := vs) (nv := nv) hi h1 hl0 hil hb' hx hA hn' hm' hz ho (fun _ => rfl) hgx (fun j hj q p e => hh j hj q p e) hnew hg
    by_cases hin : i = l.length
    · subst hin
      by_cases hroom : l.length + 1 ≤ cap
      · refine (insItem_end_room b l.length cap b2 cap2 vs nv tb tv w hroom hc63 hb hsz' hb2 hsz2 hnv1 hn2).mono (fun e w' h => ?_)
        obtain ⟨rfl, rfl⟩ := h
        rw [setCells_row (P := Tryd.prog) hb (by rw [hnl]; omega) hnm]
        refine ⟨_, _, rfl, fin _ b cap (putC vs (l.length * 7) (nv.toList.take 7)) tb (.inl rfl) (setRow_ext.mono fun c _ h => by rw [h]) (setRow_heap w b vs _ tb _ hb) hroom hmax (by rw [putC_size (by rw [hnl]; omega)]; exact hsz') (putC_one hc1 hnm) (fun y hy => ?_)⟩
        rw [putC_get (by rw [hnl]; omega), hnl]
        by_cases hy1 : y < l.length * 7
        · rw [if_neg (by omega), if_pos hy1]
        · rw [if_pos (by omega), if_neg hy1, if_pos (by omega), takeI_getD (by omega)]
      · refine (insItem_end_grow (some ⟨b, 0, none⟩) l.length cap b2 cap2 (vs.toList.take (l.length * 7)) nv tv w hn (by omega) (by omega) (run_firstCells_some w.drew 7 l.length ⟨b, 0, none⟩ l.length cap _ (by simp; omega) (fun j v hj => ?_)) (fun h => by cases h) hb2 hsz2 hnv1 hn2).mono (fun e w' h => ?_)
        · rw [Addr.add_lit, Nat.zero_add]
          rw [List.getElem?_take] at hj
          split at hj
          · show w.cell? _ = _
            simp only [World.cell?, hb]
            simpa using hj
          · cases hj
        obtain ⟨rfl, rfl⟩ := h
        have htl : (vs.toList.take (l.length * 7)).length = l.length * 7 := by simp; omega
        have hge := grownCap_ge w (l.length + 1) cap 51
        refine ⟨_, _, rfl, fin _ w.heap.size (grownCap w (l.length + 1) cap 51) _ 51 (.inr (Nat.le_refl _)) (drew_ext.trans (ext_alloc _ _)) (alloc_new w.drew _) hge (grownCap_le_maxLen w _ _ _ hml) (by rw [Array.size_append, List.size_toArray, List.length_append, hnl, htl, zeroI_size]; omega) (fun v hv => ?_) (fun y hy => ?_)⟩
        · simp only [Array.toList_append, List.mem_append] at hv
          rcases hv with (hv | hv) | hv
          · exact hc1 v (List.mem_of_mem_take hv)
          · exact hnm v hv
          · exact zeroI_one _ v hv
        · rw [getD_append_left (by rw [List.size_toArray, List.length_append, hnl, htl]; omega), toA_getD]
          by_cases hy1 : y < l.length * 7
          · rw [if_pos hy1, lt_getD (by rw [htl]; exact hy1), takeI_getD hy1]
          · rw [if_neg hy1, if_pos (by omega), ge_getD (by rw [htl]; omega), htl, takeI_getD (by omega)]
    · have hcl : ((vs.toList.drop (i * 7)).take ((l.length - i) * 7)).length = (l.length - i) * 7 := by simp; omega
      have hcm : ∀ v ∈ (vs.toList.drop (i * 7)).take ((l.length - i) * 7), v.oneCell' = true := fun v hv => hc1 v (List.mem_of_mem_drop (List.mem_of_mem_take hv))
      by_cases hroom : l.length + 1 ≤ cap
      · refine (insItem_shift b l.length cap i b2 cap2 vs nv tb tv w (by omega) hroom hc63 hne hb hsz' hc1 hb2 hsz2 hnv1 hn2).mono (fun e w' h => ?_)
        obtain ⟨rfl, rfl⟩ := h
        have hs1 : (putC vs ((i + 1) * 7) ((vs.toList.drop (i * 7)).take ((l.length - i) * 7))).size = vs.size := putC_size (by rw [hcl]; omega)
        refine ⟨_, _, rfl, fin _ b cap _ tb (.inl rfl) ((drew_ext.trans setRow_ext).trans setRow_ext |>.mono fun c _ h => by rw [h]) (setRow_heap _ b _ _ tb _ (setRow_heap w.drew b vs _ tb _ hb)) hroom hmax (by rw [putC_size (by rw [hs1, hnl]; omega), hs1]; exact hsz') (putC_one (putC_one hc1 hcm) hnm) (fun y hy => ?_)⟩
        rw [putC_get (by rw [hs1, hnl]; omega), hnl, putC_get (by rw [hcl]; omega), hcl]
        by_cases hy1 : y < i * 7
        · rw [if_neg (by omega), if_neg (by omega), if_pos hy1]
        · rw [if_neg hy1]
          by_cases hy2 : y < (i + 1) * 7
          · rw [if_pos (by omega), if_pos hy2, takeI_getD (by omega)]
          · rw [if_neg (by omega), if_pos (by omega), if_neg hy2, midI_getD (by omega)]
            congr 1
            omega
      · obtain ⟨G, ROW, W1, hG1, hG2, hROW, hW1, hcalls⟩ := insItem_grow b l.length cap i b2 cap2 vs nv tb tv w (by omega) hn (by omega) (by omega) hb hsz' hc1 hb2 hsz2 hnv1 hn2
        refine hcalls.mono (fun e w' h => ?_)
        obtain ⟨rfl, rfl⟩ := h
        have hRs : ROW.size = G * 7 := by rw [hROW]; simp [Builtin.zeroCells, Value.cells]; omega
        have hRo : ∀ v ∈ ROW.toList, v.oneCell' = true := fun v hv => by
          rw [hROW] at hv
          simp only [Array.toList_append, List.mem_append] at hv
          rcases hv with (hv | hv) | hv
          · exact hc1 v (List.mem_of_mem_take hv)
          · exact zeroI_one _ v hv
          · exact zeroI_one _ v hv
        have hRg : ∀ y, y < i * 7 → ROW.getD y undef = vs.getD y undef := fun y hy => by
          rw [hROW, Array.append_assoc, getD_append_left (by simp; omega), toA_getD, takeI_getD hy]
        have hN1 : W1.heap[w.heap.size]? = some (.cells ROW 51 (0, 0)) := by rw [hW1]; exact alloc_new w.drew _
        have hs1 : (putC ROW (i * 7) (nv.toList.take 7)).size = ROW.size := putC_size (by rw [hnl]; omega)
        have hN2 := setRow_heap W1 w.heap.size ROW (putC ROW (i * 7) (nv.toList.take 7)) 51 _ hN1
        refine ⟨_, _, rfl, fin _ w.heap.size G _ 51 (.inr (Nat.le_refl _)) ?_ (setRow_heap _ w.heap.size _ _ 51 _ hN2) hG1 hG2 (by rw [putC_size (by rw [hs1, hcl]; omega), hs1]; exact hRs) (putC_one (putC_one hRo hnm) hcm) (fun y hy => ?_)⟩
        · have e1 : FExt (fun b => b = w.heap.size) w W1 := by rw [hW1]; exact drew_ext.trans (ext_alloc _ _)
          have e2 := ((e1.trans (setRow_ext (A := putC ROW (i * 7) (nv.toList.take 7)))).trans drew_ext).trans (setRow_ext (A := putC (putC ROW (i * 7) (nv.toList.take 7)) ((i + 1) * 7) ((vs.toList.drop (i * 7)).take ((l.length - i) * 7))))
          exact e2.mono fun c hc h => absurd h (by omega)
        · rw [putC_get (by rw [hs1, hcl]; omega), hcl, putC_get (by rw [hnl]; omega), hnl]
          by_cases hy1 : y < i * 7
          · rw [if_neg (by omega), if_neg (by omega), if_pos hy1, hRg y hy1]
          · rw [if_neg hy1]
            by_cases hy2 : y < (i + 1) * 7
            · rw [if_neg (by omega), if_pos (by omega), if_pos hy2, takeI_getD (by omega)]
            · rw [if_pos (by omega), if_neg hy2, midI_getD (by omega)]
              congr 1
              omega
end Go.Abs
