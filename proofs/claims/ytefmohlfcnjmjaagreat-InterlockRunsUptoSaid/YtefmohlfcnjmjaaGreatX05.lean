/- YtefmohlfcnjmjaaGreatX05: walks and contracts. -/
import Derived.Test.YtefmohlfcnjmjaaGreatX04
import Derived.Test.YtefmohlfcnjmjaaGreatRows
import Derived.WalkKit
import Derived.ProofKit
import Derived.OpenShut
import Derived.JoinedCond
import Derived.Shelf.SlSortCmp.Insertion

set_option linter.unusedVariables false
set_option linter.unusedSimpArgs false
set_option linter.unusedSectionVars false

namespace Go.Abs
open Go.Proofs
set_option maxRecDepth 10000
def ixI (n k : Nat) : Int := if k < n then (k : Int) else -1
theorem ac_slices_IndexFunc_Item (l : List Item) (gb : List PV → Bool) (gi : List PV → Int) (hl : smallL l) : AC Tryz.prog 189 [.pv (roL 7 cItem l), .clo (fun xs => ∃ x : Item, xs = [.agg (cItem x)]) true gb gi] [] (.pv (vint (ixI l.length (firstI l.length fun i => gb [.agg (cItem (l.getD i default))])))) [] := by
  have hl : l.length ≤ 1048576 := hl
  refine AC.of_awp (T := T) T_ok hm Tryz.call189 Tryz.func189 rfl rfl rfl ?_
  conv => whnf
  refine loop_k (ι := Nat) [0, 1, 7] [] (fun k => k ≤ l.length ∧ (∀ j, j < k → gb [.agg (cItem (l.getD j default))] = false)) (fun k => l.length - k) 0 (fun k => [(8, .pv (vint k))]) (fun _ => []) [] ⟨Nat.zero_le _, fun j h => absurd h (by omega)⟩ ?_ (fun k hk => ?_)
  · (repeat' (first | exact PSub.rfl | exact rfl | exact PSubs.rfl | exact trivial | exact PSub.lit_sb rfl | refine And.intro ?_ ?_))
  obtain ⟨hkn, hinv⟩ := hk
  conv => whnf
  repeat (any_goals (first
    | (refine ⟨fun (h : (_ : Bool) = true) => ?_, fun (h : (_ : Bool) = false) => ?_⟩ <;> (try simp only [decide_eq_true_eq, decide_eq_false_iff_not, Bool.not_eq_true', Bool.not_eq_false', Int.toNat_natCast, beq_iff_eq, decide_eq_decide, beq_eq_false_iff_ne, ne_eq, reduceCtorEq] at h) <;> (conv => whnf))
    | (refine And.intro (by (try simp only [Int.toNat_natCast]); omega) ?_; conv => whnf)
    | (refine And.intro (show (_ : Bool) = true from by kernel_rfl) ?_; conv => whnf)
    | (refine .inl ⟨wrap64 (by omega), ?_⟩; conv => whnf)))
  refine And.intro ⟨l.getD k default, rfl⟩ ?_
  conv => whnf
  repeat (any_goals (first
    | (refine ⟨fun (h : (_ : Bool) = true) => ?_, fun (h : (_ : Bool) = false) => ?_⟩ <;> (try simp only [decide_eq_true_eq, decide_eq_false_iff_not, Bool.not_eq_true', Bool.not_eq_false', Int.toNat_natCast, beq_iff_eq, decide_eq_decide, beq_eq_false_iff_ne, ne_eq, reduceCtorEq] at h) <;> (conv => whnf))
    | (refine And.intro (by (try simp only [Int.toNat_natCast]); omega) ?_; conv => whnf)
    | (refine And.intro (show (_ : Bool) = true from by kernel_rfl) ?_; conv => whnf)
    | (refine .inl ⟨wrap64 (by omega), ?_⟩; conv => whnf)))
  · have e : firstI l.length (fun i => gb [.agg (cItem (l.getD i default))]) = k := firstI_at (by omega) h hinv
    exact PSub.int (by rw [e, ixI, if_pos (by omega)])
  · refine ⟨k + 1, [], ⟨by omega, ?_⟩, by first | omega | (dsimp only; omega), ?_⟩
    rotate_left
    · (repeat' (first | exact PSub.rfl | exact rfl | exact PSubs.rfl | exact trivial | exact PSub.lit_sb rfl | refine And.intro ?_ ?_))
    intro j hj
    by_cases e : j = k
    · subst e; first | exact h | simpa [-List.getD_eq_getElem?_getD] using h | simp_all [-List.getD_eq_getElem?_getD]
    · exact hinv j (by omega)
  · have e : firstI l.length (fun i => gb [.agg (cItem (l.getD i default))]) = l.length := firstI_none fun j hj => hinv j (by omega)
    exact PSub.int (by rw [e, ixI, if_neg (by omega)])
def keyB (k : Key) : List PV → Bool
  | [.agg (.val (.int .i64 d) :: .val (.string c) :: .val (.string a) :: _)] => decide ((⟨d, c, a⟩ : Key) = k)
  | _ => false
theorem ac_device_index_1 (x : Item) (k : Key) : AC Tryz.prog 190 [.pv (.agg (cItem x)), .pv (.cell (cKey k))] [] (.pv (vbool (decide (x.key = k)))) [] := by
  refine AC.of_awp (T := T) T_ok hm Tryz.call190 Tryz.func190 rfl rfl rfl ?_
  conv => whnf
  repeat (any_goals (first
    | (refine ⟨fun (h : (_ : Bool) = true) => ?_, fun (h : (_ : Bool) = false) => ?_⟩ <;> (try simp only [decide_eq_true_eq, decide_eq_false_iff_not, Bool.not_eq_true', Bool.not_eq_false', Int.toNat_natCast, beq_iff_eq, decide_eq_decide, beq_eq_false_iff_ne, ne_eq, reduceCtorEq] at h) <;> (conv => whnf))
    | (refine And.intro (by (try simp only [Int.toNat_natCast]); omega) ?_; conv => whnf)
    | (refine And.intro (show (_ : Bool) = true from by kernel_rfl) ?_; conv => whnf)
    | (refine .inl ⟨wrap64 (by omega), ?_⟩; conv => whnf)))
  refine PSub.sb ?_
  obtain ⟨⟨a, b, c⟩, v, n⟩ := x
  obtain ⟨d, e, f⟩ := k
  rw [Bool.eq_iff_iff]; simp
def itemAt (l : List Item) (k : Key) : Nat := firstI l.length fun i => decide ((l.getD i default).key = k)
theorem ac_slices_IndexFunc_Item_f (l : List Item) (k : Key) (hl : smallL l) : AC Tryz.prog 189 [.pv (roL 7 cItem l), .fn 190 [.pv (.cell (cKey k))]] [] (.pv (vint (ixI l.length (itemAt l k)))) [] := by
  refine AC.with_fn (pre := [.pv (roL 7 cItem l)]) (post := []) (ac_slices_IndexFunc_Item l (keyB k) (fun _ => 0) hl) Tryz.call190 rfl rfl rfl ?_
  rintro xs ⟨x, rfl⟩
  exact ac_device_index_1 x k
theorem ac_device_index (l : List Item) (k : Key) (hl : smallL l) : AC Tryz.prog 145 [.pv (roL 7 cItem l), .pv (.agg (cKey k))] [] (.pv (vint (ixI l.length (itemAt l k)))) [] := by
  refine AC.of_awp (T := T) T_ok hm Tryz.call145 Tryz.func145 rfl rfl rfl ?_
  conv => whnf
  refine .inl ⟨_, ac_slices_IndexFunc_Item_f l k hl, ?_⟩
  conv => whnf
  exact .rfl
def noItem : Item := ⟨⟨0, ⟨#[]⟩, ⟨#[]⟩⟩, noVal, 0⟩
def getI (l : List Item) (k : Key) : Item := if itemAt l k < l.length then l.getD (itemAt l k) default else noItem
theorem ac_device_Get (l : List Item) (k : Key) (hl : smallL l) : AC Tryz.prog 103 [.pv (roL 7 cItem l), .pv (.agg (cKey k))] [] (.pv (.tup [.agg (cItem (getI l k)), vbool (decide (itemAt l k < l.length))])) [] := by
  refine AC.of_awp (T := T) T_ok hm Tryz.call103 Tryz.func103 rfl rfl rfl ?_
  conv => whnf
  refine .inl ⟨_, ac_device_index l k hl, ?_⟩
  conv => whnf
  unfold ixI
  by_cases hlt : itemAt l k < l.length
  · rw [if_pos hlt]
    repeat (any_goals (first
      | (refine ⟨fun (h : (_ : Bool) = true) => ?_, fun (h : (_ : Bool) = false) => ?_⟩ <;> (try simp only [decide_eq_true_eq, decide_eq_false_iff_not, Bool.not_eq_true', Bool.not_eq_false', Int.toNat_natCast, beq_iff_eq, decide_eq_decide, beq_eq_false_iff_ne, ne_eq, reduceCtorEq] at h) <;> (conv => whnf))
      | (refine And.intro (by (try simp only [Int.toNat_natCast]); omega) ?_; conv => whnf)
      | (refine And.intro (show (_ : Bool) = true from by kernel_rfl) ?_; conv => whnf)
      | (refine .inl ⟨wrap64 (by omega), ?_⟩; conv => whnf)))
    · refine ⟨?_, ?_⟩ <;> (conv => whnf)
      · exact PSub.of_eq (by rw [getI, if_pos hlt]; rfl)
      · exact PSub.lit_sb (by simp [hlt])
    · exfalso; omega
  · rw [if_neg hlt]
    repeat (any_goals (first
      | (refine ⟨fun (h : (_ : Bool) = true) => ?_, fun (h : (_ : Bool) = false) => ?_⟩ <;> (try simp only [decide_eq_true_eq, decide_eq_false_iff_not, Bool.not_eq_true', Bool.not_eq_false', Int.toNat_natCast, beq_iff_eq, decide_eq_decide, beq_eq_false_iff_ne, ne_eq, reduceCtorEq] at h) <;> (conv => whnf))
      | (refine And.intro (by (try simp only [Int.toNat_natCast]); omega) ?_; conv => whnf)
      | (refine And.intro (show (_ : Bool) = true from by kernel_rfl) ?_; conv => whnf)
      | (refine .inl ⟨wrap64 (by omega), ?_⟩; conv => whnf)))
    · exfalso; omega
    · refine ⟨?_, ?_⟩ <;> (conv => whnf)
      · exact PSub.of_eq (by rw [getI, if_neg hlt]; rfl)
      · exact PSub.lit_sb (by simp [hlt])
end Go.Abs

namespace Go.Abs
open Go.Proofs
set_option maxRecDepth 10000
theorem val_eq (a b : Val) : (decide (a.kind = b.kind) && (decide (a.n = b.n) && (decide (a.s = b.s) && true))) = decide (a = b) := by
  obtain ⟨a1, a2, a3⟩ := a
  obtain ⟨b1, b2, b3⟩ := b
  rw [Bool.eq_iff_iff]; simp
def initL (H : Hom) (id : Int) : List Item := (List.range (keysL H id).length).map fun i => ⟨(keysL H id).getD i default, zeroV ((findA H ((keysL H id).getD i default)).getD noAttr), (i : Int) + 1⟩
theorem small_findA {H : Hom} (hH : smallH H) {k : Key} : smallA ((findA H k).getD noAttr) := by
  unfold findA
  cases h : partO H k.dev k.cluster with
  | none => exact Nat.zero_le _
  | some c =>
    unfold attrO
    simp only
    have hc : smallK c := by
      unfold partO at h
      split at h
      · exact firstC_small hH.1 h
      · cases h
    split
    · exact hc.2.1 _
    · exact Nat.zero_le _
end Go.Abs

namespace Go.Abs
open Go.Proofs
set_option maxRecDepth 10000
theorem all_lt_zero {p : Nat → Prop} : ∀ i, i < 0 → p i := fun i h => absurd h (by omega)
theorem all_lt_succ {p : Nat → Prop} {n : Nat} (h1 : ∀ i, i < n → p i) (h2 : p n) : ∀ i, i < n + 1 → p i := fun i h => by
  rcases Nat.lt_or_ge i n with h3 | h3
  · exact h1 i h3
  · have : i = n := by omega
    subst this; exact h2
def flagA (s : ByteArray) (w sf : Bool) : Attr := ⟨s, 1, 0, 0, [], w, sf⟩
def numA (s : ByteArray) (lo hi : Int) (w : Bool) : Attr := ⟨s, 2, lo, hi, [], w, false⟩
def setsC (s a : ByteArray) (n : Int) : Cmd := ⟨s, noAttr, [⟨1, a, n⟩]⟩
def stdC : List Clu := [
  ⟨(⟨#[111, 110, 111, 102, 102]⟩ : ByteArray), [flagA (⟨#[111, 110]⟩ : ByteArray) true false], [setsC (⟨#[111, 110]⟩ : ByteArray) (⟨#[111, 110]⟩ : ByteArray) 1, setsC (⟨#[111, 102, 102]⟩ : ByteArray) (⟨#[111, 110]⟩ : ByteArray) 0, ⟨(⟨#[116, 111, 103, 103, 108, 101]⟩ : ByteArray), noAttr, [⟨4, (⟨#[111, 110]⟩ : ByteArray), 0⟩]⟩], []⟩,
  ⟨(⟨#[108, 101, 118, 101, 108]⟩ : ByteArray), [numA (⟨#[108, 101, 118, 101, 108]⟩ : ByteArray) 0 100 true], [⟨(⟨#[109, 111, 118, 101]⟩ : ByteArray), numA (⟨#[116, 111]⟩ : ByteArray) 0 100 false, [⟨2, (⟨#[108, 101, 118, 101, 108]⟩ : ByteArray), 0⟩]⟩, ⟨(⟨#[115, 116, 101, 112]⟩ : ByteArray), noAttr, [⟨3, (⟨#[108, 101, 118, 101, 108]⟩ : ByteArray), 10⟩]⟩], []⟩,
  ⟨(⟨#[108, 111, 99, 107]⟩ : ByteArray), [flagA (⟨#[108, 111, 99, 107, 101, 100]⟩ : ByteArray) true true], [setsC (⟨#[108, 111, 99, 107]⟩ : ByteArray) (⟨#[108, 111, 99, 107, 101, 100]⟩ : ByteArray) 1, setsC (⟨#[117, 110, 108, 111, 99, 107]⟩ : ByteArray) (⟨#[108, 111, 99, 107, 101, 100]⟩ : ByteArray) 0], [(⟨#[106, 97, 109]⟩ : ByteArray)]⟩,
  ⟨(⟨#[116, 104, 101, 114, 109, 111, 115, 116, 97, 116]⟩ : ByteArray), [numA (⟨#[116, 97, 114, 103, 101, 116]⟩ : ByteArray) 50 300 true, numA (⟨#[116, 101, 109, 112]⟩ : ByteArray) (-500) 1000 false], [], []⟩,
  ⟨(⟨#[115, 109, 111, 107, 101]⟩ : ByteArray), [flagA (⟨#[97, 108, 97, 114, 109]⟩ : ByteArray) false true], [], [(⟨#[116, 101, 115, 116]⟩ : ByteArray)]⟩,
  ⟨(⟨#[108, 101, 97, 107]⟩ : ByteArray), [flagA (⟨#[119, 101, 116]⟩ : ByteArray) false true], [], []⟩,
  ⟨(⟨#[118, 97, 108, 118, 101]⟩ : ByteArray), [flagA (⟨#[111, 112, 101, 110]⟩ : ByteArray) true true], [setsC (⟨#[111, 112, 101, 110]⟩ : ByteArray) (⟨#[111, 112, 101, 110]⟩ : ByteArray) 1, setsC (⟨#[99, 108, 111, 115, 101]⟩ : ByteArray) (⟨#[111, 112, 101, 110]⟩ : ByteArray) 0], []⟩,
  ⟨(⟨#[109, 101, 116, 101, 114]⟩ : ByteArray), [numA (⟨#[112, 111, 119, 101, 114]⟩ : ByteArray) 0 100000 false], [], []⟩]
def homeX : Hom := ⟨stdC, [⟨1, 0, 0, false, 0, (⟨#[104, 97, 108, 108]⟩ : ByteArray), [(⟨#[111, 110, 111, 102, 102]⟩ : ByteArray), (⟨#[108, 101, 118, 101, 108]⟩ : ByteArray)]⟩]⟩
end Go.Abs

namespace Go.Abs
open Go.Proofs
set_option maxRecDepth 10000
def kLev : Key := ⟨1, (⟨#[108, 101, 118, 101, 108]⟩ : ByteArray), (⟨#[108, 101, 118, 101, 108]⟩ : ByteArray)⟩
theorem ex1 : homE homeX = 0 := by kernel_rfl
theorem ex2 : initL homeX 1 = [⟨⟨1, (⟨#[111, 110, 111, 102, 102]⟩ : ByteArray), (⟨#[111, 110]⟩ : ByteArray)⟩, ⟨1, 0, ⟨#[]⟩⟩, 1⟩, ⟨kLev, ⟨2, 0, ⟨#[]⟩⟩, 2⟩] := by kernel_rfl
theorem sl {α : Type} {l : List α} (h : Nat.ble l.length 1048576 = true) : smallL l := Nat.le_of_ble_eq_true h
theorem smallK_std : ∀ i, smallK (stdC.getD i default) := by
  intro i
  have key : ∀ c ∈ stdC, smallK c := by
    intro c hc
    simp only [stdC, List.mem_cons, List.not_mem_nil, or_false] at hc
    have dA : ∀ i, smallA (List.getD [] i (default : Attr)) := fun i => Nat.zero_le _
    have dC : ∀ i, smallC (List.getD [] i (default : Cmd)) := fun i => ⟨Nat.zero_le _, Nat.zero_le _⟩
    have A1 : ∀ (a : Attr), smallA a → ∀ i, smallA (List.getD [a] i default) := fun a h i => by cases i with | zero => exact h | succ i => exact Nat.zero_le _
    have A2 : ∀ (a b : Attr), smallA a → smallA b → ∀ i, smallA (List.getD [a, b] i default) := fun a b h h2 i => by cases i with | zero => exact h | succ i => exact A1 b h2 i
    have C2 : ∀ (a b : Cmd), smallC a → smallC b → ∀ i, smallC (List.getD [a, b] i default) := fun a b h h2 i => by
      cases i with
      | zero => exact h
      | succ i => cases i with
        | zero => exact h2
        | succ i => exact ⟨Nat.zero_le _, Nat.zero_le _⟩
    have C3 : ∀ (a b c : Cmd), smallC a → smallC b → smallC c → ∀ i, smallC (List.getD [a, b, c] i default) := fun a b c h h2 h3 i => by cases i with | zero => exact h | succ i => exact C2 b c h2 h3 i
    have f : ∀ s w sf, smallA (flagA s w sf) := fun _ _ _ => Nat.zero_le _
    have n : ∀ s lo hi w, smallA (numA s lo hi w) := fun _ _ _ _ => Nat.zero_le _
    have c1 : ∀ s a k, smallC (setsC s a k) := fun _ _ _ => ⟨Nat.zero_le _, sl rfl⟩
    have c2 : ∀ s a e, smallA a → smallC ⟨s, a, [e]⟩ := fun _ _ _ h => ⟨h, sl rfl⟩
    rcases hc with rfl | rfl | rfl | rfl | rfl | rfl | rfl | rfl
    all_goals refine ⟨sl rfl, ?_, sl rfl, ?_, sl rfl⟩
    all_goals first
      | exact dA | exact dC | exact A1 _ (f _ _ _) | exact A1 _ (n _ _ _ _) | exact A2 _ _ (n _ _ _ _) (n _ _ _ _)
      | exact C2 _ _ (c1 _ _ _) (c1 _ _ _) | exact C2 _ _ (c2 _ _ _ (n _ _ _ _)) (c2 _ _ _ (Nat.zero_le _)) | exact C3 _ _ _ (c1 _ _ _) (c1 _ _ _) (c2 _ _ _ (Nat.zero_le _))
  by_cases h : i < stdC.length
  · have : stdC.getD i default = stdC[i] := by simp [List.getD, h]
    rw [this]; exact key _ (List.getElem_mem h)
  · have : stdC.getD i default = default := by simp [List.getD, Nat.le_of_not_lt h]
    rw [this]; exact ⟨Nat.zero_le _, fun _ => Nat.zero_le _, Nat.zero_le _, fun _ => ⟨Nat.zero_le _, Nat.zero_le _⟩, Nat.zero_le _⟩
end Go.Abs

namespace Go.Abs
open Go.Proofs Go.RowKit
set_option maxRecDepth 10000
section
variable {H : Type} {enc : TypeId × Value → H} {w : World} {bulk : DataW H → Nat}
abbrev BB : Nat := 1048576
def inI64 (n : Int) : Prop := -9223372036854775808 ≤ n ∧ n ≤ 9223372036854775807
theorem wf64 {n : Int} (h : (Lit.int .i64 n).wf = true) : inI64 n := by
  simp only [Lit.wf, Bool.and_eq_true, decide_eq_true_eq] at h
  exact h
theorem op_int : Opens enc Tryz.prog w bulk BB 3 cint inI64 := (Opens.int Tryz.underlying3).imp id (fun _ => rfl) (fun _ h => wf64 h)
theorem op_bool : Opens enc Tryz.prog w bulk BB 4 (fun b : Bool => [vbool b]) (fun _ => True) := Opens.bool Tryz.underlying4
theorem op_string (hB : BulkOk bulk) : Opens enc Tryz.prog w bulk BB 9 cstr (fun s => s.size ≤ 1048576) := Opens.str hB Tryz.underlying9
theorem op_l_string (hB : BulkOk bulk) : Opens enc Tryz.prog w bulk BB 26 (fun l : List ByteArray => [roL 1 cstr l]) smallL :=
  (Opens.slice hB Tryz.underlying26 (by kernel_rfl) (by decide) (op_string hB)).imp id (fun _ => rfl) (fun _ h => h.1)
def goodKey (k : Key) : Prop := inI64 k.dev
theorem op_Key (hB : BulkOk bulk) : Opens enc Tryz.prog w bulk BB 39 cKey goodKey :=
  (Opens.struct hB Tryz.underlying39 (by kernel_rfl) (.cons (size := 1) rfl (by kernel_rfl) op_int (.cons (size := 1) rfl (by kernel_rfl) (op_string hB) (.cons (size := 1) rfl (by kernel_rfl) (op_string hB) .nil)))).imp (fun x => ⟨x.1, x.2.1, x.2.2.1⟩) (fun _ => rfl) (fun _ h => h.1)
def goodVal (v : Val) : Prop := inI64 v.kind ∧ inI64 v.n
theorem op_Value (hB : BulkOk bulk) : Opens enc Tryz.prog w bulk BB 37 cVal goodVal :=
  (Opens.struct hB Tryz.underlying37 (by kernel_rfl) (.cons (size := 1) rfl (by kernel_rfl) op_int (.cons (size := 1) rfl (by kernel_rfl) op_int (.cons (size := 1) rfl (by kernel_rfl) (op_string hB) .nil)))).imp (fun x => ⟨x.1, x.2.1, x.2.2.1⟩) (fun _ => rfl) (fun _ h => ⟨h.1, h.2.1⟩)
def goodItem (x : Item) : Prop := goodKey x.key ∧ goodVal x.value ∧ inI64 x.version
theorem op_Item (hB : BulkOk bulk) : Opens enc Tryz.prog w bulk BB 47 cItem goodItem :=
  (Opens.struct hB Tryz.underlying47 (by kernel_rfl) (.cons (size := 3) rfl (by kernel_rfl) (op_Key hB) (.cons (size := 3) rfl (by kernel_rfl) (op_Value hB) (.cons (size := 1) rfl (by kernel_rfl) op_int .nil)))).imp (fun x => ⟨x.1, x.2.1, x.2.2.1⟩) (fun _ => rfl) (fun _ h => ⟨h.1, h.2.1, h.2.2.1⟩)
def goodItems (l : List Item) : Prop := smallL l ∧ ∀ i, i < l.length → goodItem (l.getD i default)
theorem op_l_Item (hB : BulkOk bulk) : Opens enc Tryz.prog w bulk BB 43 (fun l : List Item => [roL 7 cItem l]) goodItems :=
  (Opens.slice hB Tryz.underlying43 (by kernel_rfl) (by decide) (op_Item hB)).imp id (fun _ => rfl) (fun _ h => h)
end
end Go.Abs

namespace Go.Proofs.YtefmohlfcnjmjaaGreat
open Go.ChangeShapes Go.WideShapes Go.ChangeAt Go.RowKit Go.Abs
theorem own : ownKnob Tryz.prog.godebug = none := by kernel_rfl
theorem laidOut : laidOutB Tryz.prog = true := by kernel_rfl
theorem glob {W : World} : Glob W (fun _ => False) := fun g cs e => by cases e
theorem bulkOk {H : Type} : BulkOk (Rows.uptoBulk (H := H)) := by
  have one_le : ∀ d : DataW H, 1 ≤ Rows.uptoBulk d := fun d => by
    cases d with
    | lit l => cases l <;> simp [Rows.uptoBulk]
    | nil => simp [Rows.uptoBulk]
    | ptr d => simp [Rows.uptoBulk]
    | slice elems spare => simp [Rows.uptoBulk]
    | agg parts => simp [Rows.uptoBulk]
    | iface t d => simp [Rows.uptoBulk]
    | map entries => simp [Rows.uptoBulk]
    | held h => simp [Rows.uptoBulk]
  have part_le : ∀ (l : List (DataW H)) (d : DataW H), d ∈ l → Rows.uptoBulk d ≤ Rows.uptoBulkAll l := by
    intro l
    induction l with
    | nil => intro d h; cases h
    | cons x r ih =>
      intro d h
      simp only [Rows.uptoBulkAll]
      cases List.mem_cons.1 h with
      | inl e => subst e; omega
      | inr e => have := ih d e; omega
  have length_le : ∀ (l : List (DataW H)), l.length ≤ Rows.uptoBulkAll l := by
    intro l
    induction l with
    | nil => simp [Rows.uptoBulkAll]
    | cons x r ih => have := one_le x; simp only [Rows.uptoBulkAll, List.length_cons]; omega
  refine ⟨fun bytes => by simp [Rows.uptoBulk], fun e s => ?_, fun e s d h => ?_, fun l d h => ?_⟩
  · have := length_le e; simp only [Rows.uptoBulk]; omega
  · have := part_le e d h; simp only [Rows.uptoBulk]; omega
  · have := part_le l d h; simp only [Rows.uptoBulk]; omega
theorem bulk_le {H : Type} {l : List (DataW H)} (hk : Rows.uptoSmall H l = true) : Rows.uptoBulkAll l ≤ 1048576 := of_decide_eq_true hk
theorem law_calls {f : FuncId} {fn : Func} {H : Type} {enc : TypeId × Value → H} {W : World} {args : Array Value} {ds gs : List (DataW H)} {before : List MemPlace} {s : ChangeSpec} {tb : TypeId} {xs : List PV}
    (hac : AC Tryz.prog f (xs.map .pv) [] (.pv (vbool true)) []) (hlen : args.size = xs.length) (hx : ∀ (i : Nat) (p : PV), xs[i]? = some p → PR W (fun _ => False) p (args.getD i undef))
    (hr : ∀ t ∈ fn.params.toList, Tryz.prog.readableRec t = true ∧ t < Tryz.prog.types.size)
    (hres : fn.resultTypes = #[tb]) (htb : Tryz.prog.underlying tb = some .bool) (hv : s.vars = []) (hfn : s.fn H ds = { results := [.lit (.bool true)], args := ds })
    (hW : DataW.Whole enc Tryz.prog fn.params.toList s.vars false W args.toList ds gs before) (hg : Glob W (fun _ => False)) :
    Calls Tryz.prog f args W fun e W' => ∃ v, e = .returned v ∧ s.post enc Tryz.prog fn false true false false W args v W' := by
  refine (hac.calls hg (by simpa using hlen) (fun i x e => ?_)).mono ?_
  · rw [List.getElem?_map] at e
    cases hp : xs[i]? with
    | none => rw [hp] at e; cases e
    | some p =>
      rw [hp] at e
      cases e
      exact .pv _ _ (hx i p hp)
  · rintro e W' ⟨v, rfl, hv2, hb⟩
    cases hv2
    exact ⟨_, rfl, law_post laidOut hr hres htb hv hfn hb hW⟩
end Go.Proofs.YtefmohlfcnjmjaaGreat

namespace Go.Abs
variable [Globals]
inductive Ex where
  | mk (kind n m : Int) (name : ByteArray) (value : Val) (key : Key) (kids : List Ex)
namespace Ex
def kind : Ex → Int | mk k _ _ _ _ _ _ => k
def n : Ex → Int | mk _ n _ _ _ _ _ => n
def m : Ex → Int | mk _ _ m _ _ _ _ => m
def name : Ex → ByteArray | mk _ _ _ s _ _ _ => s
def value : Ex → Val | mk _ _ _ _ v _ _ => v
def key : Ex → Key | mk _ _ _ _ _ k _ => k
def kids : Ex → List Ex | mk _ _ _ _ _ _ l => l
end Ex
abbrev noKey : Key := ⟨0, ⟨#[]⟩, ⟨#[]⟩⟩
abbrev noEx : Ex := .mk 0 0 0 ⟨#[]⟩ ⟨0, 0, ⟨#[]⟩⟩ ⟨0, ⟨#[]⟩, ⟨#[]⟩⟩ []
instance : Inhabited Ex := ⟨noEx⟩
mutual
def encE : Ex → List PV
  | .mk k n m s v q l => [vint k, vint n, vint m, vstr s, vint v.kind, vint v.n, vstr v.s, vint q.dev, vstr q.cluster, vstr q.attr, .ro 11 l.length (encK l)]
/-- the cells of the kids -/
def encK : List Ex → Nat → List PV
  | [], _ => []
  | e :: _, 0 => encE e
  | _ :: l, i + 1 => encK l i
end
def cEx (e : Ex) : List PV := [vint e.kind, vint e.n, vint e.m, vstr e.name, vint e.value.kind, vint e.value.n, vstr e.value.s, vint e.key.dev, vstr e.key.cluster, vstr e.key.attr, .ro 11 e.kids.length (encK e.kids)]
theorem encE_eq (e : Ex) : encE e = cEx e := by cases e; rfl
theorem encK_eq : ∀ {l : List Ex} {i : Nat}, i < l.length → encK l i = cEx (l.getD i default)
  | e :: l, 0, _ => by rw [encK, encE_eq]; rfl
  | e :: l, i + 1, h => by
    rw [encK, encK_eq (l := l) (by simpa using h)]
    rfl
theorem PSub.kids {l : List Ex} : PSub (.ro 11 l.length (encK l)) (roL 11 cEx l) := PSub.ro (Eq.refl _) fun i hi => by rw [encK_eq hi]; exact PSubs.rfl
theorem PSub.kids' {l : List Ex} : PSub (roL 11 cEx l) (.ro 11 l.length (encK l)) := PSub.ro (Eq.refl _) fun i hi => by rw [encK_eq hi]; exact PSubs.rfl
def cEx1 (e : Ex) : List PV := [vint e.kind, vint e.n, vint e.m, vstr e.name, vint e.value.kind, vint e.value.n, vstr e.value.s, vint e.key.dev, vstr e.key.cluster, vstr e.key.attr, roL 11 cEx e.kids]
theorem PSub.ex1 {e : Ex} : PSub (.agg (cEx e)) (.agg (cEx1 e)) := PSub.agg ⟨PSub.rfl, PSub.rfl, PSub.rfl, PSub.rfl, PSub.rfl, PSub.rfl, PSub.rfl, PSub.rfl, PSub.rfl, PSub.rfl, PSub.kids, trivial⟩
theorem PSub.ex1' {e : Ex} : PSub (.agg (cEx1 e)) (.agg (cEx e)) := PSub.agg ⟨PSub.rfl, PSub.rfl, PSub.rfl, PSub.rfl, PSub.rfl, PSub.rfl, PSub.rfl, PSub.rfl, PSub.rfl, PSub.rfl, PSub.kids', trivial⟩
structure ASub (x y : AV) : Prop where
  to : ∀ (P : Program) (w : World) (St M : Nat → Prop) (σ : Sig) (v : Value), AR P w St M σ x v → AR P w St M σ y v
theorem ASub.rfl {x : AV} : ASub x x := ⟨fun _ _ _ _ _ _ h => h⟩
theorem ASub.pv {p q : PV} (h : PSub p q) : ASub (.pv p) (.pv q) := ⟨fun _ _ _ _ _ _ k => .pv _ _ (h.to _ _ _ (arg_pv k))⟩
def ASubs : List AV → List AV → Prop
  | [], [] => True
  | x :: xs, y :: ys => ASub x y ∧ ASubs xs ys
  | _, _ => False
theorem ASubs.get : ∀ {xs ys : List AV}, ASubs xs ys → xs.length = ys.length ∧ ∀ (i : Nat) (y : AV), ys[i]? = some y → ∃ x, xs[i]? = some x ∧ ASub x y
  | [], [], _ => ⟨Eq.refl _, fun i y e => by simp at e⟩
  | x :: xs, y :: ys, h => by
    obtain ⟨h1, h2⟩ := ASubs.get h.2
    refine ⟨by simp [h1], fun i z e => ?_⟩
    cases i with
    | zero => simp at e; subst e; exact ⟨x, by simp, h.1⟩
    | succ i => simpa using h2 i z (by simpa using e)
  | [], _ :: _, h => h.elim
  | _ :: _, [], h => h.elim
theorem AC.subA {P : Program} {f : FuncId} {xs ys : List AV} {os os' : Upd} {res : AV} (h : AC P f ys os res os') (hs : ASubs xs ys) : AC P f xs os res os' := by
  obtain ⟨h1, h2⟩ := hs.get
  refine ⟨h.1, fun St M0 σ w vals hi hn ho hl ha => h.2 St M0 σ w vals hi hn ho (by rw [hl, h1]) fun i y e => ?_⟩
  obtain ⟨x, hx, hxy⟩ := h2 i y e
  exact hxy.to _ _ _ _ _ _ (ha i x hx)
theorem AC.ex {P : Program} {f : FuncId} {e : Ex} {r : List AV} {os os' : Upd} {res : AV} (h : AC P f (.pv (.agg (cEx1 e)) :: r) os res os') : AC P f (.pv (.agg (cEx e)) :: r) os res os' := by
  have key : ∀ r : List AV, ASubs r r := fun r => by induction r with | nil => trivial | cons x r ih => exact ⟨ASub.rfl, ih⟩
  exact h.subA ⟨ASub.pv PSub.ex1, key r⟩
theorem AC.ex' {P : Program} {f : FuncId} {e : Ex} {r : List AV} {os os' : Upd} {res : AV} (h : AC P f (.pv (.agg (cEx e)) :: r) os res os') : AC P f (.pv (.agg (cEx1 e)) :: r) os res os' := by
  have key : ∀ r : List AV, ASubs r r := fun r => by induction r with | nil => trivial | cons x r ih => exact ⟨ASub.rfl, ih⟩
  exact h.subA ⟨ASub.pv PSub.ex1', key r⟩
theorem AC.ex2 {P : Program} {f : FuncId} {e : Ex} {x : AV} {r : List AV} {os os' : Upd} {res : AV} (h : AC P f (x :: .pv (.agg (cEx1 e)) :: r) os res os') : AC P f (x :: .pv (.agg (cEx e)) :: r) os res os' := by
  have key : ∀ r : List AV, ASubs r r := fun r => by induction r with | nil => trivial | cons x r ih => exact ⟨ASub.rfl, ih⟩
  exact h.subA ⟨ASub.rfl, ASub.pv PSub.ex1, key r⟩
theorem AC.ex2' {P : Program} {f : FuncId} {e : Ex} {x : AV} {r : List AV} {os os' : Upd} {res : AV} (h : AC P f (x :: .pv (.agg (cEx e)) :: r) os res os') : AC P f (x :: .pv (.agg (cEx1 e)) :: r) os res os' := by
  have key : ∀ r : List AV, ASubs r r := fun r => by induction r with | nil => trivial | cons x r ih => exact ⟨ASub.rfl, ih⟩
  exact h.subA ⟨ASub.rfl, ASub.pv PSub.ex1', key r⟩
theorem Ex.kid_lt {e : Ex} {k : Ex} (h : k ∈ e.kids) : SizeOf.sizeOf k < SizeOf.sizeOf e := by
  obtain ⟨a, b, c, d, v, q, l⟩ := e
  have := List.sizeOf_lt_of_mem (show k ∈ l from h)
  simp only [Ex.mk.sizeOf_spec]
  omega
theorem Ex.kid_at {l : List Ex} {i : Nat} (h : i < l.length) : l.getD i default ∈ l := by
  have : l.getD i default = l[i] := by simp [List.getD, h]
  rw [this]; exact List.getElem_mem h
def kidsB (k n : Int) : Bool :=
  if k = 6 then decide (n = 1) else if k = 7 ∨ k = 8 then decide (2 ≤ n) && decide (n ≤ 8) else if 9 ≤ k ∧ k ≤ 13 then decide (n = 2) else if k = 14 then decide (n = 3) else decide (n = 0)
def spareB (e : Ex) : Bool :=
  decide (((e.kind ≠ 4 ∧ e.kind ≠ 5 ∧ e.kind ≠ 15) ∧ e.n ≠ 0) ∨ (e.kind ≠ 4 ∧ e.m ≠ 0) ∨ (e.kind ≠ 3 ∧ e.name ≠ ⟨#[]⟩) ∨ (e.kind ≠ 1 ∧ e.value ≠ noVal) ∨ (e.kind ≠ 2 ∧ e.key ≠ noKey))
def rangeB (e : Ex) : Bool :=
  if e.kind = 4 then decide (0 ≤ e.n ∧ e.n < 1440 ∧ 0 ≤ e.m ∧ e.m < 1440) else if e.kind = 5 then decide (1 ≤ e.n ∧ e.n ≤ 127) else if e.kind = 15 then decide (0 ≤ e.n ∧ e.n ≤ 4)
  else if e.kind = 2 then decide (1 ≤ e.key.dev ∧ e.key.dev ≤ 250) else true
def nodeE (e : Ex) : Int :=
  if e.kind < 1 ∨ 15 < e.kind then 7 else if kidsB e.kind e.kids.length = false ∨ spareB e = true then 1 else if rangeB e = false then 2
  else if e.kind = 3 then (if validName e.name then 0 else 10)
  else if e.kind = 2 then (if validName e.key.cluster && validName e.key.attr then 0 else 10)
  else if e.kind = 1 then (if valE e.value ≠ 0 then valE e.value else if e.value.kind = 0 then 7 else 0)
  else 0
mutual
/-- expr.Check: from the level l and the count c: the count and the error -/
def chkE : Ex → Int → Int → Int × Int
  | .mk a n m s v q ks, l, c =>
    if 24 < l then (c + 1, 22) else if 200 < c + 1 then (c + 1, 3) else if nodeE (.mk a n m s v q ks) ≠ 0 then (c + 1, nodeE (.mk a n m s v q ks)) else chkL ks (l + 1) (c + 1)
def chkL : List Ex → Int → Int → Int × Int
  | [], _, c => (c, 0)
  | e :: es, l, c => if (chkE e l c).2 ≠ 0 then chkE e l c else chkL es l (chkE e l c).1
end
theorem chkE_eq (e : Ex) (l c : Int) : chkE e l c = if 24 < l then (c + 1, 22) else if 200 < c + 1 then (c + 1, 3) else if nodeE e ≠ 0 then (c + 1, nodeE e) else chkL e.kids (l + 1) (c + 1) := by
  cases e; rw [chkE]; rfl
mutual
/-- homehubref28.walk -/
def wlkE : Ex → Int → Int → Int × Int
  | .mk a n m s v q ks, l, c =>
    if 24 < l then (c, 22) else if 200 ≤ c then (c, 3) else if nodeE (.mk a n m s v q ks) ≠ 0 then (c, nodeE (.mk a n m s v q ks)) else wlkL ks (l + 1) (c + 1)
def wlkL : List Ex → Int → Int → Int × Int
  | [], _, c => (c, 0)
  | e :: es, l, c => if (wlkE e l c).2 ≠ 0 then wlkE e l c else wlkL es l (wlkE e l c).1
end
theorem wlkE_eq (e : Ex) (l c : Int) : wlkE e l c = if 24 < l then (c, 22) else if 200 ≤ c then (c, 3) else if nodeE e ≠ 0 then (c, nodeE e) else wlkL e.kids (l + 1) (c + 1) := by
  cases e; rw [wlkE]; rfl
mutual
theorem wlk_chk : ∀ (e : Ex) (l c : Int), (wlkE e l c).2 = (chkE e l c).2 ∧ ((chkE e l c).2 = 0 → (wlkE e l c).1 = (chkE e l c).1)
  | .mk a n m s v q ks, l, c => by
    rw [wlkE, chkE]
    by_cases h1 : 24 < l
    · simp [h1]
    · by_cases h2 : 200 ≤ c
      · have h2' : 200 < c + 1 := by omega
        simp [h1, h2, h2']
      · have h2' : ¬ 200 < c + 1 := by omega
        simp only [if_neg h1, if_neg h2, if_neg h2']
        by_cases h3 : nodeE (.mk a n m s v q ks) ≠ 0
        · simp only [if_pos h3]; exact ⟨trivial, fun h => absurd h h3⟩
        · simp only [if_neg h3]; exact wlk_chkL ks (l + 1) (c + 1)
theorem wlk_chkL : ∀ (ks : List Ex) (l c : Int), (wlkL ks l c).2 = (chkL ks l c).2 ∧ ((chkL ks l c).2 = 0 → (wlkL ks l c).1 = (chkL ks l c).1)
  | [], l, c => by simp [wlkL, chkL]
  | e :: es, l, c => by
    obtain ⟨h1, h2⟩ := wlk_chk e l c
    rw [wlkL, chkL]
    by_cases h : (chkE e l c).2 ≠ 0
    · rw [if_pos (by rw [h1]; exact h), if_pos h]; exact ⟨h1, h2⟩
    · rw [if_neg (by rw [h1]; exact h), if_neg h, h2 (by simpa using h)]; exact wlk_chkL es l _
end
mutual
theorem wlkE_b : ∀ (e : Ex) (l c : Int), 0 ≤ c → c ≤ 200 → 0 ≤ (wlkE e l c).1 ∧ (wlkE e l c).1 ≤ 200
  | .mk a n m s v q ks, l, c, h0, h1 => by
    rw [wlkE]
    split
    · exact ⟨h0, h1⟩
    · split
      · exact ⟨h0, h1⟩
      · split
        · exact ⟨h0, h1⟩
        · exact wlkL_b ks (l + 1) (c + 1) (by omega) (by omega)
theorem wlkL_b : ∀ (ks : List Ex) (l c : Int), 0 ≤ c → c ≤ 200 → 0 ≤ (wlkL ks l c).1 ∧ (wlkL ks l c).1 ≤ 200
  | [], l, c, h0, h1 => by rw [wlkL]; exact ⟨h0, h1⟩
  | e :: es, l, c, h0, h1 => by
    obtain ⟨h2, h3⟩ := wlkE_b e l c h0 h1
    rw [wlkL]
    split
    · exact ⟨h2, h3⟩
    · exact wlkL_b es l _ h2 h3
end
mutual
theorem chkE_b : ∀ (e : Ex) (l c : Int), 0 ≤ c → c ≤ 200 → 0 ≤ (chkE e l c).1 ∧ (chkE e l c).1 ≤ 201 ∧ ((chkE e l c).2 = 0 → (chkE e l c).1 ≤ 200)
  | .mk a n m s v q ks, l, c, h0, h1 => by
    rw [chkE]
    split
    · exact ⟨by dsimp only; omega, by dsimp only; omega, fun h => by cases h⟩
    · split
      · exact ⟨by dsimp only; omega, by dsimp only; omega, fun h => by cases h⟩
      · split
        · rename_i h; exact ⟨by dsimp only; omega, by dsimp only; omega, fun h2 => absurd h2 h⟩
        · exact chkL_b ks (l + 1) (c + 1) (by omega) (by omega)
theorem chkL_b : ∀ (ks : List Ex) (l c : Int), 0 ≤ c → c ≤ 200 → 0 ≤ (chkL ks l c).1 ∧ (chkL ks l c).1 ≤ 201 ∧ ((chkL ks l c).2 = 0 → (chkL ks l c).1 ≤ 200)
  | [], l, c, h0, h1 => by rw [chkL]; exact ⟨h0, by dsimp only; omega, fun _ => h1⟩
  | e :: es, l, c, h0, h1 => by
    obtain ⟨h2, h3, h4⟩ := chkE_b e l c h0 h1
    rw [chkL]
    split
    · exact ⟨h2, h3, h4⟩
    · rename_i h; exact chkL_b es l _ h2 (h4 (by simpa using h))
end
theorem nodeE_kids {e : Ex} (h : nodeE e = 0) : e.kids.length ≤ 8 := by
  have h2 : kidsB e.kind e.kids.length = true := by
    cases hb : kidsB e.kind e.kids.length with
    | true => rfl
    | false => rw [nodeE, hb] at h; split at h <;> simp at h
  unfold kidsB at h2
  (repeat' split at h2) <;> simp only [decide_eq_true_eq, Bool.and_eq_true] at h2 <;> omega
theorem drop_getD {α : Type} [Inhabited α] {l : List α} {k : Nat} (h : k < l.length) : l.drop k = l.getD k default :: l.drop (k + 1) := by
  rw [List.drop_eq_getElem_cons h]; simp [List.getD, h]
def exE (e : Ex) : Int := (chkE e 1 0).2
mutual
def sizeE : Ex → Nat
  | .mk _ _ _ _ _ _ ks => 1 + sizeL ks
def sizeL : List Ex → Nat
  | [] => 0
  | e :: es => sizeE e + sizeL es
end
theorem sizeE_eq (e : Ex) : sizeE e = 1 + sizeL e.kids := by cases e; rw [sizeE]; rfl
end Go.Abs

namespace Go.Abs
structure Sco where
  home : Hom
  modes : List ByteArray
  scenes : List ByteArray
  deriving Inhabited
def cSco (s : Sco) : List PV := [roL 4 cClu s.home.clusters, roL 7 cDev s.home.devices, roL 1 cstr s.modes, roL 1 cstr s.scenes]
def smallS (s : Sco) : Prop := smallH s.home ∧ smallL s.modes ∧ smallL s.scenes
def leafK (s : Sco) (kind : Int) (name : ByteArray) (value : Val) (key : Key) : Int × Int :=
  if kind = 1 then (value.kind, 0) else if kind = 2 then (if (findA s.home key).isSome = true then (((findA s.home key).getD noAttr).kind, 0) else (0, 8))
  else if kind = 3 ∧ idxOf s.modes name < 0 then (0, 8) else (1, 0)
def allI (l : List Int) (k : Int) : Bool := l.all fun x => decide (x = k)
def opK (k : Int) (l : List Int) : Int × Int :=
  if k = 6 ∨ k = 7 ∨ k = 8 then (if allI l 1 = true then (1, 0) else (0, 11))
  else if k = 9 then (if l.getD 0 default = l.getD 1 default then (1, 0) else (0, 11))
  else if k = 10 then (if allI l 2 = true then (1, 0) else (0, 11))
  else if k = 14 then (if l.getD 0 default = 1 ∧ l.getD 1 default = l.getD 2 default then (l.getD 1 default, 0) else (0, 11))
  else (if allI l 2 = true then (2, 0) else (0, 11))
mutual
def kindE (s : Sco) : Ex → Int × Int
  | .mk k _ _ nm v q ks => match ks with
    | [] => leafK s k nm v q
    | e :: es => match kindL s (e :: es) with
      | .inl x => (0, x)
      | .inr l => opK k l
def kindL (s : Sco) : List Ex → Int ⊕ List Int
  | [] => .inr []
  | e :: es => if (kindE s e).2 ≠ 0 then .inl (kindE s e).2 else match kindL s es with
    | .inl x => .inl x
    | .inr l => .inr ((kindE s e).1 :: l)
end
theorem kindE_leaf {s : Sco} {e : Ex} (h : e.kids.length = 0) : kindE s e = leafK s e.kind e.name e.value e.key := by
  obtain ⟨k, n, m, nm, v, q, ks⟩ := e
  have : ks = [] := List.length_eq_zero_iff.1 h
  subst this
  rw [kindE]; rfl
theorem kindE_op {s : Sco} {e : Ex} (h : e.kids.length ≠ 0) : kindE s e = (match kindL s e.kids with | .inl x => (0, x) | .inr l => opK e.kind l) := by
  obtain ⟨k, n, m, nm, v, q, ks⟩ := e
  cases ks with
  | nil => exact absurd rfl h
  | cons e es => rw [kindE]; rfl
def KTo (s : Sco) (ks : List Ex) (k : Nat) (acc : List Int) : Prop := acc.length = k ∧ kindL s ks = match kindL s (ks.drop k) with | .inl x => .inl x | .inr r => .inr (acc ++ r)
theorem KTo.zero (s : Sco) (ks : List Ex) : KTo s ks 0 [] := ⟨rfl, by simp only [List.drop_zero, List.nil_append]; cases kindL s ks <;> rfl⟩
theorem KTo.err {s : Sco} {ks : List Ex} {k : Nat} {acc : List Int} (h : KTo s ks k acc) (hk : k < ks.length) (he : (kindE s (ks.getD k default)).2 ≠ 0) : kindL s ks = .inl (kindE s (ks.getD k default)).2 := by
  have h2 := h.2
  rw [drop_getD hk, kindL, if_pos he] at h2
  exact h2
theorem KTo.next {s : Sco} {ks : List Ex} {k : Nat} {acc : List Int} (h : KTo s ks k acc) (hk : k < ks.length) (he : (kindE s (ks.getD k default)).2 = 0) : KTo s ks (k + 1) (acc ++ [(kindE s (ks.getD k default)).1]) := by
  have h2 := h.2
  rw [drop_getD hk, kindL, if_neg (by simpa using he)] at h2
  refine ⟨by simp [h.1], h2.trans ?_⟩
  cases kindL s (ks.drop (k + 1)) <;> simp
theorem KTo.done {s : Sco} {ks : List Ex} {k : Nat} {acc : List Int} (h : KTo s ks k acc) (hk : ks.length ≤ k) : kindL s ks = .inr acc := by
  have h2 := h.2
  rw [List.drop_of_length_le hk, kindL] at h2
  simpa using h2
mutual
/-- the right numbers of kids all over -/
def okE : Ex → Prop
  | .mk k _ _ _ _ _ ks => (1 ≤ k ∧ k ≤ 15) ∧ kidsB k ks.length = true ∧ okL ks
def okL : List Ex → Prop
  | [] => True
  | e :: es => okE e ∧ okL es
end
theorem okE_iff (e : Ex) : okE e ↔ (1 ≤ e.kind ∧ e.kind ≤ 15) ∧ kidsB e.kind e.kids.length = true ∧ okL e.kids := by cases e; rw [okE]; rfl
theorem okL_at : ∀ {l : List Ex} {k : Nat}, okL l → k < l.length → okE (l.getD k default)
  | e :: l, 0, h, _ => by rw [okL] at h; exact h.1
  | e :: l, k + 1, h, hk => by rw [okL] at h; exact okL_at (l := l) h.2 (by simpa using hk)
theorem nodeE_ok {e : Ex} (h : nodeE e = 0) : (1 ≤ e.kind ∧ e.kind ≤ 15) ∧ kidsB e.kind e.kids.length = true := by
  unfold nodeE at h
  split at h
  · cases h
  · rename_i h1
    split at h
    · cases h
    · rename_i h2
      exact ⟨by omega, by cases hb : kidsB e.kind e.kids.length <;> simp_all⟩
mutual
theorem chk_ok : ∀ (e : Ex) (l c : Int), (chkE e l c).2 = 0 → okE e
  | .mk a n m s v q ks, l, c, h => by
    rw [chkE] at h
    split at h
    · cases h
    · split at h
      · cases h
      · split at h
        · rename_i h3; exact absurd h h3
        · rename_i h3
          have h4 := nodeE_ok (e := .mk a n m s v q ks) (by simpa using h3)
          rw [okE]
          exact ⟨h4.1, h4.2, chk_okL ks _ _ h⟩
theorem chk_okL : ∀ (ks : List Ex) (l c : Int), (chkL ks l c).2 = 0 → okL ks
  | [], l, c, _ => by rw [okL]; trivial
  | e :: es, l, c, h => by
    rw [chkL] at h
    rw [okL]
    split at h
    · rename_i h1; exact absurd h h1
    · rename_i h1; exact ⟨chk_ok e l c (by simpa using h1), chk_okL es l _ h⟩
end
theorem exE_ok {e : Ex} (h : exE e = 0) : okE e := chk_ok e 1 0 h
def exprK (s : Sco) (e : Ex) : Int × Int := if exE e ≠ 0 then (0, exE e) else kindE s e
end Go.Abs

namespace Go.Abs
structure Evt where
  dev : Int
  cluster : ByteArray
  name : ByteArray
  deriving Inhabited, DecidableEq
structure Trg where
  kind : Int
  key : Key
  event : Evt
  name : ByteArray
  n : Int
  m : Int
  deriving Inhabited, DecidableEq
structure Stp where
  kind : Int
  key : Key
  name : ByteArray
  expr : Ex
  deriving Inhabited
structure Rul where
  name : ByteArray
  prio : Int
  on : List Trg
  cond : Ex
  steps : List Stp
  deriving Inhabited
def wordsE (l : List ByteArray) : Int := firstE l.length fun i => if validName (l.getD i default) = false then 10 else if idxOf l (l.getD i default) < i then 9 else 0
def scoE (s : Sco) : Int :=
  if homE s.home ≠ 0 then homE s.home else if s.modes.length < 1 ∨ 16 < s.modes.length then 3 else if wordsE s.modes ≠ 0 then wordsE s.modes else if 256 < s.scenes.length then 3 else wordsE s.scenes
end Go.Abs

namespace Go.Abs
theorem bytesLess_iff : ∀ (x y : List UInt8), Op.bytesLess x y = true ↔ x < y
  | [], [] => by simp [Op.bytesLess]
  | [], _ :: _ => by simp [Op.bytesLess]
  | _ :: _, [] => by simp [Op.bytesLess]
  | a :: x, b :: y => by
    have ih := bytesLess_iff x y
    simp only [Op.bytesLess, List.cons_lt_cons_iff]
    by_cases h1 : a < b
    · simp [h1]
    · by_cases h2 : a = b
      · subst h2; simp [ih]
      · simp [h1, h2, ih]
        try (intro h3; exact h2 (UInt8.le_antisymm (UInt8.not_lt.1 h3) (UInt8.not_lt.1 h1)))
def sLt (a b : ByteArray) : Bool := Op.bytesLess a.toList b.toList
theorem sLt_iff {a b : ByteArray} : sLt a b = true ↔ a.data.toList < b.data.toList := by
  unfold sLt
  rw [bytesLess_iff, ByteArray.toList_eq, ByteArray.toList_eq]
theorem sLt_irrefl (a : ByteArray) : sLt a a = false := by
  rw [← Bool.not_eq_true, sLt_iff]
  exact List.lt_irrefl _
theorem sLt_trans {a b c : ByteArray} (h : sLt a b = true) (k : sLt b c = true) : sLt a c = true := by
  rw [sLt_iff] at *
  exact List.lt_trans h k
theorem sLt_asymm {a b : ByteArray} (h : sLt a b = true) : sLt b a = false := by
  rw [← Bool.not_eq_true]
  intro k
  have := sLt_trans h k
  rw [sLt_irrefl] at this; cases this
theorem sLt_total {a b : ByteArray} (h : a ≠ b) : sLt a b = true ∨ sLt b a = true := by
  rw [sLt_iff, sLt_iff]
  rcases Classical.em (a.data.toList < b.data.toList) with h1 | h1
  · exact .inl h1
  · rcases Classical.em (b.data.toList < a.data.toList) with h2 | h2
    · exact .inr h2
    · exfalso
      apply h
      have := List.le_antisymm (List.not_lt.1 h1) (List.not_lt.1 h2)
      cases a; cases b
      congr 1
      exact (Array.toList_inj.1 this).symm
end Go.Abs

namespace Go.Abs
open Go.Proofs
set_option maxRecDepth 10000
theorem key_eq (a b : Key) : (decide (a.dev = b.dev) && (decide (a.cluster = b.cluster) && (decide (a.attr = b.attr) && true))) = decide (a = b) := by
  obtain ⟨a1, a2, a3⟩ := a
  obtain ⟨b1, b2, b3⟩ := b
  rw [Bool.eq_iff_iff]; simp
end Go.Abs

namespace Go.Abs
open Go.Proofs
set_option maxRecDepth 10000
theorem val_eq0' (a : Val) : (decide (a.kind = 0) && (decide (a.n = 0) && decide (a.s = ⟨#[]⟩))) = decide (a = noVal) := by have := val_eq a noVal; simp only [Bool.and_true] at this; exact this
theorem key_eq0 (a : Key) : (decide (a.dev = 0) && (decide (a.cluster = ⟨#[]⟩) && decide (a.attr = ⟨#[]⟩))) = decide (a = noKey) := by have := key_eq a noKey; simp only [Bool.and_true] at this; exact this
theorem ac_expr_kids (k n : Int) : AC Tryz.prog 115 [.pv (vint k), .pv (vint n)] [] (.pv (vbool (kidsB k n))) [] := by
  refine AC.of_awp (T := T) T_ok hm Tryz.call115 Tryz.func115 rfl rfl rfl ?_
  conv => whnf
  repeat (any_goals (first
    | (refine ⟨fun (h : (_ : Bool) = true) => ?_, fun (h : (_ : Bool) = false) => ?_⟩ <;> (try simp only [decide_eq_true_eq, decide_eq_false_iff_not, Bool.not_eq_true', Bool.not_eq_false', Int.toNat_natCast, beq_iff_eq, decide_eq_decide, beq_eq_false_iff_ne, ne_eq, reduceCtorEq] at h) <;> (conv => whnf))
    | (refine And.intro (by (try simp only [Int.toNat_natCast]); omega) ?_; conv => whnf)
    | (refine And.intro (show (_ : Bool) = true from by kernel_rfl) ?_; conv => whnf)
    | (refine .inl ⟨wrap64 (by omega), ?_⟩; conv => whnf)))
  all_goals first
    | contradiction
    | (exfalso; omega)
    | exact PSub.rfl
    | (refine PSub.lit_sb ?_; (first | (simp [kidsB, *]; done) | (simp_all [kidsB]; done) | ((try simp only [kidsB]); (repeat' split) <;> (try simp only [Bool.false_eq, Bool.true_eq, Bool.and_eq_false_iff, decide_eq_false_iff_not, Bool.and_eq_true, decide_eq_true_eq, decide_eq_decide]) <;> first | rfl | omega | (simp_all; done) | (simp_all; omega))))
    | (refine PSub.sb ?_; (first | (simp [kidsB, *]; done) | (simp_all [kidsB]; done) | ((try simp only [kidsB]); (repeat' split) <;> (try simp only [Bool.false_eq, Bool.true_eq, Bool.and_eq_false_iff, decide_eq_false_iff_not, Bool.and_eq_true, decide_eq_true_eq, decide_eq_decide]) <;> first | rfl | omega | (simp_all; done) | (simp_all; omega))))
    | (refine PSub.sb_lit ?_; (first | (simp [kidsB, *]; done) | (simp_all [kidsB]; done) | ((try simp only [kidsB]); (repeat' split) <;> (try simp only [Bool.false_eq, Bool.true_eq, Bool.and_eq_false_iff, decide_eq_false_iff_not, Bool.and_eq_true, decide_eq_true_eq, decide_eq_decide]) <;> first | rfl | omega | (simp_all; done) | (simp_all; omega))))
    | (refine PSub.int ?_; (first | (simp [kidsB, *]; done) | (simp_all [kidsB]; done) | ((try simp only [kidsB]); (repeat' split) <;> (try simp only [Bool.false_eq, Bool.true_eq, Bool.and_eq_false_iff, decide_eq_false_iff_not, Bool.and_eq_true, decide_eq_true_eq, decide_eq_decide]) <;> first | rfl | omega | (simp_all; done) | (simp_all; omega))))
    | skip
theorem ac_expr_spare (e : Ex) : AC Tryz.prog 116 [.pv (.agg (cEx e))] [] (.pv (vbool (spareB e))) [] := by
  refine AC.of_awp (T := T) T_ok hm Tryz.call116 Tryz.func116 rfl rfl rfl ?_
  conv => whnf
  repeat (any_goals (first
    | (refine ⟨fun (h : (_ : Bool) = true) => ?_, fun (h : (_ : Bool) = false) => ?_⟩ <;> (try simp only [decide_eq_true_eq, decide_eq_false_iff_not, Bool.not_eq_true', Bool.not_eq_false', Int.toNat_natCast, beq_iff_eq, decide_eq_decide, beq_eq_false_iff_ne, ne_eq, reduceCtorEq] at h) <;> (conv => whnf))
    | (refine And.intro (by (try simp only [Int.toNat_natCast]); omega) ?_; conv => whnf)
    | (refine And.intro (show (_ : Bool) = true from by kernel_rfl) ?_; conv => whnf)
    | (refine .inl ⟨wrap64 (by omega), ?_⟩; conv => whnf)))
  all_goals (try simp only [val_eq0', key_eq0, decide_true, Bool.and_true, decide_eq_false_iff_not, decide_eq_true_eq] at *)
  all_goals first
    | contradiction
    | (exfalso; omega)
    | exact PSub.rfl
    | (refine PSub.lit_sb ?_; (first | (simp [spareB, *]; done) | (simp_all [spareB]; done) | ((try simp only [spareB]); (repeat' split) <;> (try simp only [Bool.false_eq, Bool.true_eq, Bool.and_eq_false_iff, decide_eq_false_iff_not, Bool.and_eq_true, decide_eq_true_eq, decide_eq_decide]) <;> first | rfl | omega | (simp_all; done) | (simp_all; omega))))
    | (refine PSub.sb ?_; (first | (simp [spareB, *]; done) | (simp_all [spareB]; done) | ((try simp only [spareB]); (repeat' split) <;> (try simp only [Bool.false_eq, Bool.true_eq, Bool.and_eq_false_iff, decide_eq_false_iff_not, Bool.and_eq_true, decide_eq_true_eq, decide_eq_decide]) <;> first | rfl | omega | (simp_all; done) | (simp_all; omega))))
    | (refine PSub.sb_lit ?_; (first | (simp [spareB, *]; done) | (simp_all [spareB]; done) | ((try simp only [spareB]); (repeat' split) <;> (try simp only [Bool.false_eq, Bool.true_eq, Bool.and_eq_false_iff, decide_eq_false_iff_not, Bool.and_eq_true, decide_eq_true_eq, decide_eq_decide]) <;> first | rfl | omega | (simp_all; done) | (simp_all; omega))))
    | (refine PSub.int ?_; (first | (simp [spareB, *]; done) | (simp_all [spareB]; done) | ((try simp only [spareB]); (repeat' split) <;> (try simp only [Bool.false_eq, Bool.true_eq, Bool.and_eq_false_iff, decide_eq_false_iff_not, Bool.and_eq_true, decide_eq_true_eq, decide_eq_decide]) <;> first | rfl | omega | (simp_all; done) | (simp_all; omega))))
    | skip
theorem ac_expr_ranges (e : Ex) : AC Tryz.prog 117 [.pv (.agg (cEx e))] [] (.pv (vbool (rangeB e))) [] := by
  refine AC.of_awp (T := T) T_ok hm Tryz.call117 Tryz.func117 rfl rfl rfl ?_
  conv => whnf
  repeat (any_goals (first
    | (refine ⟨fun (h : (_ : Bool) = true) => ?_, fun (h : (_ : Bool) = false) => ?_⟩ <;> (try simp only [decide_eq_true_eq, decide_eq_false_iff_not, Bool.not_eq_true', Bool.not_eq_false', Int.toNat_natCast, beq_iff_eq, decide_eq_decide, beq_eq_false_iff_ne, ne_eq, reduceCtorEq] at h) <;> (conv => whnf))
    | (refine And.intro (by (try simp only [Int.toNat_natCast]); omega) ?_; conv => whnf)
    | (refine And.intro (show (_ : Bool) = true from by kernel_rfl) ?_; conv => whnf)
    | (refine .inl ⟨wrap64 (by omega), ?_⟩; conv => whnf)))
  all_goals first
    | contradiction
    | (exfalso; omega)
    | exact PSub.rfl
    | (refine PSub.lit_sb ?_; (first | (simp [rangeB, *]; done) | (simp_all [rangeB]; done) | ((try simp only [rangeB]); (repeat' split) <;> (try simp only [Bool.false_eq, Bool.true_eq, Bool.and_eq_false_iff, decide_eq_false_iff_not, Bool.and_eq_true, decide_eq_true_eq, decide_eq_decide]) <;> first | rfl | omega | (simp_all; done) | (simp_all; omega))))
    | (refine PSub.sb ?_; (first | (simp [rangeB, *]; done) | (simp_all [rangeB]; done) | ((try simp only [rangeB]); (repeat' split) <;> (try simp only [Bool.false_eq, Bool.true_eq, Bool.and_eq_false_iff, decide_eq_false_iff_not, Bool.and_eq_true, decide_eq_true_eq, decide_eq_decide]) <;> first | rfl | omega | (simp_all; done) | (simp_all; omega))))
    | (refine PSub.sb_lit ?_; (first | (simp [rangeB, *]; done) | (simp_all [rangeB]; done) | ((try simp only [rangeB]); (repeat' split) <;> (try simp only [Bool.false_eq, Bool.true_eq, Bool.and_eq_false_iff, decide_eq_false_iff_not, Bool.and_eq_true, decide_eq_true_eq, decide_eq_decide]) <;> first | rfl | omega | (simp_all; done) | (simp_all; omega))))
    | (refine PSub.int ?_; (first | (simp [rangeB, *]; done) | (simp_all [rangeB]; done) | ((try simp only [rangeB]); (repeat' split) <;> (try simp only [Bool.false_eq, Bool.true_eq, Bool.and_eq_false_iff, decide_eq_false_iff_not, Bool.and_eq_true, decide_eq_true_eq, decide_eq_decide]) <;> first | rfl | omega | (simp_all; done) | (simp_all; omega))))
    | skip
theorem ac_expr_node (e : Ex) : AC Tryz.prog 77 [.pv (.agg (cEx e))] [] (.pv (vint (nodeE e))) [] := by
  refine AC.of_awp (T := T) T_ok hm Tryz.call77 Tryz.func77 rfl rfl rfl ?_
  conv => whnf
  repeat (any_goals (first
    | (refine ⟨fun (h : (_ : Bool) = true) => ?_, fun (h : (_ : Bool) = false) => ?_⟩ <;> (try simp only [decide_eq_true_eq, decide_eq_false_iff_not, Bool.not_eq_true', Bool.not_eq_false', Int.toNat_natCast, beq_iff_eq, decide_eq_decide, beq_eq_false_iff_ne, ne_eq, reduceCtorEq] at h) <;> (conv => whnf))
    | (refine .inl ⟨_, ac_expr_kids e.kind e.kids.length, ?_⟩; conv => whnf)
    | (refine .inl ⟨_, ac_expr_spare e, ?_⟩; conv => whnf)
    | (refine .inl ⟨_, ac_expr_ranges e, ?_⟩; conv => whnf)
    | (refine .inl ⟨_, ac_names_Valid e.name, ?_⟩; conv => whnf)
    | (refine .inl ⟨_, ac_names_Valid e.key.cluster, ?_⟩; conv => whnf)
    | (refine .inl ⟨_, ac_names_Valid e.key.attr, ?_⟩; conv => whnf)
    | (refine .inl ⟨_, ac_value_Check e.value, ?_⟩; conv => whnf)
    | (refine And.intro (by (try simp only [Int.toNat_natCast]); omega) ?_; conv => whnf)
    | (refine And.intro (show (_ : Bool) = true from by kernel_rfl) ?_; conv => whnf)
    | (refine .inl ⟨wrap64 (by omega), ?_⟩; conv => whnf)))
  all_goals first
    | contradiction
    | (exfalso; omega)
    | exact PSub.rfl
    | (refine PSub.lit_sb ?_; (first | (simp [nodeE, *]; done) | (simp_all [nodeE]; done) | ((try simp only [nodeE]); (repeat' split) <;> (try simp only [Bool.false_eq, Bool.true_eq, Bool.and_eq_false_iff, decide_eq_false_iff_not, Bool.and_eq_true, decide_eq_true_eq, decide_eq_decide]) <;> first | rfl | omega | (simp_all; done) | (simp_all; omega))))
    | (refine PSub.sb ?_; (first | (simp [nodeE, *]; done) | (simp_all [nodeE]; done) | ((try simp only [nodeE]); (repeat' split) <;> (try simp only [Bool.false_eq, Bool.true_eq, Bool.and_eq_false_iff, decide_eq_false_iff_not, Bool.and_eq_true, decide_eq_true_eq, decide_eq_decide]) <;> first | rfl | omega | (simp_all; done) | (simp_all; omega))))
    | (refine PSub.sb_lit ?_; (first | (simp [nodeE, *]; done) | (simp_all [nodeE]; done) | ((try simp only [nodeE]); (repeat' split) <;> (try simp only [Bool.false_eq, Bool.true_eq, Bool.and_eq_false_iff, decide_eq_false_iff_not, Bool.and_eq_true, decide_eq_true_eq, decide_eq_decide]) <;> first | rfl | omega | (simp_all; done) | (simp_all; omega))))
    | (refine PSub.int ?_; (first | (simp [nodeE, *]; done) | (simp_all [nodeE]; done) | ((try simp only [nodeE]); (repeat' split) <;> (try simp only [Bool.false_eq, Bool.true_eq, Bool.and_eq_false_iff, decide_eq_false_iff_not, Bool.and_eq_true, decide_eq_true_eq, decide_eq_decide]) <;> first | rfl | omega | (simp_all; done) | (simp_all; omega))))
    | skip
def kidLo (k : Int) : Int := if k = 6 then 1 else if k = 7 ∨ k = 8 then 2 else if 9 ≤ k ∧ k ≤ 13 then 2 else if k = 14 then 3 else 0
def kidHi (k : Int) : Int := if k = 6 then 1 else if k = 7 ∨ k = 8 then 8 else if 9 ≤ k ∧ k ≤ 13 then 2 else if k = 14 then 3 else 0
theorem kidsB_iff (k n : Int) (h : 0 ≤ n) : kidsB k n = decide (kidLo k ≤ n ∧ n ≤ kidHi k) := by
  unfold kidsB kidLo kidHi
  (repeat' split) <;> (rw [Bool.eq_iff_iff]; simp) <;> omega
theorem ac_r28_kids (k : Int) : AC Tryz.prog 217 [.pv (vint k)] [] (.pv (.tup [vint (kidLo k), vint (kidHi k)])) [] := by
  refine AC.of_awp (T := T) T_ok hm Tryz.call217 Tryz.func217 rfl rfl rfl ?_
  conv => whnf
  repeat (any_goals (first
    | (refine ⟨fun (h : (_ : Bool) = true) => ?_, fun (h : (_ : Bool) = false) => ?_⟩ <;> (try simp only [decide_eq_true_eq, decide_eq_false_iff_not, Bool.not_eq_true', Bool.not_eq_false', Int.toNat_natCast, beq_iff_eq, decide_eq_decide, beq_eq_false_iff_ne, ne_eq, reduceCtorEq] at h) <;> (conv => whnf))
    | (refine And.intro (by (try simp only [Int.toNat_natCast]); omega) ?_; conv => whnf)
    | (refine And.intro (show (_ : Bool) = true from by kernel_rfl) ?_; conv => whnf)
    | (refine .inl ⟨wrap64 (by omega), ?_⟩; conv => whnf)))
  all_goals (try (refine And.intro ?_ ?_ <;> (conv => whnf)))
  all_goals first
    | contradiction
    | (exfalso; omega)
    | exact PSub.rfl
    | (refine PSub.lit_sb ?_; (first | (simp [kidLo, kidHi, *]; done) | (simp_all [kidLo, kidHi]; done) | ((try simp only [kidLo, kidHi]); (repeat' split) <;> (try simp only [Bool.false_eq, Bool.true_eq, Bool.and_eq_false_iff, decide_eq_false_iff_not, Bool.and_eq_true, decide_eq_true_eq, decide_eq_decide]) <;> first | rfl | omega | (simp_all; done) | (simp_all; omega))))
    | (refine PSub.sb ?_; (first | (simp [kidLo, kidHi, *]; done) | (simp_all [kidLo, kidHi]; done) | ((try simp only [kidLo, kidHi]); (repeat' split) <;> (try simp only [Bool.false_eq, Bool.true_eq, Bool.and_eq_false_iff, decide_eq_false_iff_not, Bool.and_eq_true, decide_eq_true_eq, decide_eq_decide]) <;> first | rfl | omega | (simp_all; done) | (simp_all; omega))))
    | (refine PSub.sb_lit ?_; (first | (simp [kidLo, kidHi, *]; done) | (simp_all [kidLo, kidHi]; done) | ((try simp only [kidLo, kidHi]); (repeat' split) <;> (try simp only [Bool.false_eq, Bool.true_eq, Bool.and_eq_false_iff, decide_eq_false_iff_not, Bool.and_eq_true, decide_eq_true_eq, decide_eq_decide]) <;> first | rfl | omega | (simp_all; done) | (simp_all; omega))))
    | (refine PSub.int ?_; (first | (simp [kidLo, kidHi, *]; done) | (simp_all [kidLo, kidHi]; done) | ((try simp only [kidLo, kidHi]); (repeat' split) <;> (try simp only [Bool.false_eq, Bool.true_eq, Bool.and_eq_false_iff, decide_eq_false_iff_not, Bool.and_eq_true, decide_eq_true_eq, decide_eq_decide]) <;> first | rfl | omega | (simp_all; done) | (simp_all; omega))))
    | skip
theorem ac_r28_spare (e : Ex) : AC Tryz.prog 218 [.pv (.agg (cEx e))] [] (.pv (vbool (!spareB e))) [] := by
  refine AC.of_awp (T := T) T_ok hm Tryz.call218 Tryz.func218 rfl rfl rfl ?_
  conv => whnf
  repeat (any_goals (first
    | (refine ⟨fun (h : (_ : Bool) = true) => ?_, fun (h : (_ : Bool) = false) => ?_⟩ <;> (try simp only [decide_eq_true_eq, decide_eq_false_iff_not, Bool.not_eq_true', Bool.not_eq_false', Int.toNat_natCast, beq_iff_eq, decide_eq_decide, beq_eq_false_iff_ne, ne_eq, reduceCtorEq] at h) <;> (conv => whnf))
    | (refine And.intro (by (try simp only [Int.toNat_natCast]); omega) ?_; conv => whnf)
    | (refine And.intro (show (_ : Bool) = true from by kernel_rfl) ?_; conv => whnf)
    | (refine .inl ⟨wrap64 (by omega), ?_⟩; conv => whnf)))
  all_goals (try simp only [val_eq0', key_eq0, decide_true, Bool.and_true, decide_eq_false_iff_not, decide_eq_true_eq] at *)
  all_goals first
    | contradiction
    | (exfalso; omega)
    | exact PSub.rfl
    | (refine PSub.lit_sb ?_; (first | (simp [spareB, *]; done) | (simp_all [spareB]; done) | ((try simp only [spareB]); (repeat' split) <;> (try simp only [Bool.false_eq, Bool.true_eq, Bool.and_eq_false_iff, decide_eq_false_iff_not, Bool.and_eq_true, decide_eq_true_eq, decide_eq_decide]) <;> first | rfl | omega | (simp_all; done) | (simp_all; omega))))
    | (refine PSub.sb ?_; (first | (simp [spareB, *]; done) | (simp_all [spareB]; done) | ((try simp only [spareB]); (repeat' split) <;> (try simp only [Bool.false_eq, Bool.true_eq, Bool.and_eq_false_iff, decide_eq_false_iff_not, Bool.and_eq_true, decide_eq_true_eq, decide_eq_decide]) <;> first | rfl | omega | (simp_all; done) | (simp_all; omega))))
    | (refine PSub.sb_lit ?_; (first | (simp [spareB, *]; done) | (simp_all [spareB]; done) | ((try simp only [spareB]); (repeat' split) <;> (try simp only [Bool.false_eq, Bool.true_eq, Bool.and_eq_false_iff, decide_eq_false_iff_not, Bool.and_eq_true, decide_eq_true_eq, decide_eq_decide]) <;> first | rfl | omega | (simp_all; done) | (simp_all; omega))))
    | (refine PSub.int ?_; (first | (simp [spareB, *]; done) | (simp_all [spareB]; done) | ((try simp only [spareB]); (repeat' split) <;> (try simp only [Bool.false_eq, Bool.true_eq, Bool.and_eq_false_iff, decide_eq_false_iff_not, Bool.and_eq_true, decide_eq_true_eq, decide_eq_decide]) <;> first | rfl | omega | (simp_all; done) | (simp_all; omega))))
    | skip
set_option maxHeartbeats 2000000 in
theorem ac_r28_node (e : Ex) : AC Tryz.prog 204 [.pv (.agg (cEx e))] [] (.pv (vint (nodeE e))) [] := by
  have hk := kidsB_iff e.kind e.kids.length (by omega)
  refine AC.of_awp (T := T) T_ok hm Tryz.call204 Tryz.func204 rfl rfl rfl ?_
  conv => whnf
  repeat (any_goals (first
    | (refine ⟨fun (h : (_ : Bool) = true) => ?_, fun (h : (_ : Bool) = false) => ?_⟩ <;> (try simp only [decide_eq_true_eq, decide_eq_false_iff_not, Bool.not_eq_true', Bool.not_eq_false', Int.toNat_natCast, beq_iff_eq, decide_eq_decide, beq_eq_false_iff_ne, ne_eq, reduceCtorEq] at h) <;> (conv => whnf))
    | (refine .inl ⟨_, ac_r28_kids e.kind, ?_⟩; conv => whnf)
    | (refine .inl ⟨_, ac_r28_spare e, ?_⟩; conv => whnf)
    | (refine .inl ⟨_, ac_r04_Valid e.name, ?_⟩; conv => whnf)
    | (refine .inl ⟨_, ac_r04_Valid e.key.cluster, ?_⟩; conv => whnf)
    | (refine .inl ⟨_, ac_r04_Valid e.key.attr, ?_⟩; conv => whnf)
    | (refine .inl ⟨_, ac_r20_Check e.value, ?_⟩; conv => whnf)
    | (refine And.intro (by (try simp only [Int.toNat_natCast]); omega) ?_; conv => whnf)
    | (refine And.intro (show (_ : Bool) = true from by kernel_rfl) ?_; conv => whnf)
    | (refine .inl ⟨wrap64 (by omega), ?_⟩; conv => whnf)))
  all_goals first
    | contradiction
    | (exfalso; omega)
    | exact PSub.rfl
    | (refine PSub.lit_sb ?_; (first | (simp [nodeE, rangeB, *]; done) | (simp_all [nodeE, rangeB]; done) | ((try simp only [nodeE, rangeB]); (repeat' split) <;> (try simp only [Bool.false_eq, Bool.true_eq, Bool.and_eq_false_iff, decide_eq_false_iff_not, Bool.and_eq_true, decide_eq_true_eq, decide_eq_decide]) <;> first | rfl | omega | (simp_all; done) | (simp_all; omega))))
    | (refine PSub.sb ?_; (first | (simp [nodeE, rangeB, *]; done) | (simp_all [nodeE, rangeB]; done) | ((try simp only [nodeE, rangeB]); (repeat' split) <;> (try simp only [Bool.false_eq, Bool.true_eq, Bool.and_eq_false_iff, decide_eq_false_iff_not, Bool.and_eq_true, decide_eq_true_eq, decide_eq_decide]) <;> first | rfl | omega | (simp_all; done) | (simp_all; omega))))
    | (refine PSub.sb_lit ?_; (first | (simp [nodeE, rangeB, *]; done) | (simp_all [nodeE, rangeB]; done) | ((try simp only [nodeE, rangeB]); (repeat' split) <;> (try simp only [Bool.false_eq, Bool.true_eq, Bool.and_eq_false_iff, decide_eq_false_iff_not, Bool.and_eq_true, decide_eq_true_eq, decide_eq_decide]) <;> first | rfl | omega | (simp_all; done) | (simp_all; omega))))
    | (refine PSub.int ?_; (first | (simp [nodeE, rangeB, *]; done) | (simp_all [nodeE, rangeB]; done) | ((try simp only [nodeE, rangeB]); (repeat' split) <;> (try simp only [Bool.false_eq, Bool.true_eq, Bool.and_eq_false_iff, decide_eq_false_iff_not, Bool.and_eq_true, decide_eq_true_eq, decide_eq_decide]) <;> first | rfl | omega | (simp_all; done) | (simp_all; omega))))
    | skip
end Go.Abs

namespace Go.Abs
open Go.Proofs
set_option maxRecDepth 10000
theorem ac_r28_walk (e : Ex) (l c : Int) (hl : 0 ≤ l ∧ l ≤ 25) (hc : 0 ≤ c ∧ c ≤ 200) : AC Tryz.prog 169 [.pv (.agg (cEx e)), .pv (vint l), .pv (vint c)] [] (.pv (.tup [vint (wlkE e l c).1, vint (wlkE e l c).2])) [] := by
  have ih : ∀ k l c, k < e.kids.length → 0 ≤ l ∧ l ≤ 25 → 0 ≤ c ∧ c ≤ 200 → AC Tryz.prog 169 [.pv (.agg (cEx (e.kids.getD k default))), .pv (vint l), .pv (vint c)] [] (.pv (.tup [vint (wlkE (e.kids.getD k default) l c).1, vint (wlkE (e.kids.getD k default) l c).2])) [] := fun k l c hk hl hc =>
    have := Ex.kid_lt (Ex.kid_at hk)
    ac_r28_walk (e.kids.getD k default) l c hl hc
  have heq := wlkE_eq e l c
  refine AC.ex ?_
  refine AC.of_awp (T := T) T_ok hm Tryz.call169 Tryz.func169 rfl rfl rfl ?_
  conv => whnf
  repeat (any_goals (first
    | (refine ⟨fun (h : (_ : Bool) = true) => ?_, fun (h : (_ : Bool) = false) => ?_⟩ <;> (try simp only [decide_eq_true_eq, decide_eq_false_iff_not, Bool.not_eq_true', Bool.not_eq_false', Int.toNat_natCast, beq_iff_eq, decide_eq_decide, beq_eq_false_iff_ne, ne_eq, reduceCtorEq] at h) <;> (conv => whnf))
    | (refine .inl ⟨_, (ac_r28_node e).ex', ?_⟩; conv => whnf)
    | (refine And.intro (by (try simp only [Int.toNat_natCast]); omega) ?_; conv => whnf)
    | (refine And.intro (show (_ : Bool) = true from by kernel_rfl) ?_; conv => whnf)
    | (refine .inl ⟨wrap64 (by omega), ?_⟩; conv => whnf)))
  · rw [heq, if_pos h]
    refine ⟨?_, ?_⟩ <;> (conv => whnf)
    all_goals exact PSub.rfl
  · rename_i h1
    rw [heq, if_neg h1, if_pos h]
    refine ⟨?_, ?_⟩ <;> (conv => whnf)
    all_goals exact PSub.rfl
  · rename_i h1 h2
    rw [heq, if_neg h1, if_neg (by omega), if_pos h]
    refine ⟨?_, ?_⟩ <;> (conv => whnf)
    all_goals exact PSub.rfl
  rename_i h1 h2
  rw [if_neg h1, if_neg (by omega), if_neg (by simpa using h)] at heq
  have hk8 := nodeE_kids (e := e) (by simpa using h)
  refine loop_k (ι := Nat × Int) [1, 3] [3] (fun x => x.1 ≤ e.kids.length ∧ (0 ≤ x.2 ∧ x.2 ≤ 200) ∧ wlkL (e.kids.drop x.1) (l + 1) x.2 = wlkE e l c) (fun x => e.kids.length - x.1) (0, c + 1) (fun x => [(9, .pv (vint x.2)), (10, .pv (vint x.1))]) (fun _ => []) [] ⟨Nat.zero_le _, ⟨by omega, by omega⟩, by rw [heq]; rfl⟩ ?_ (fun x hk => ?_)
  · (repeat' (first | exact PSub.rfl | exact rfl | exact PSubs.rfl | exact trivial | exact PSub.lit_sb rfl | refine And.intro ?_ ?_))
  obtain ⟨k, n⟩ := x
  obtain ⟨hkn, hn, hinv⟩ := hk
  dsimp only at hkn hn hinv
  conv => whnf
  repeat (any_goals (first
    | (refine ⟨fun (h : (_ : Bool) = true) => ?_, fun (h : (_ : Bool) = false) => ?_⟩ <;> (try simp only [decide_eq_true_eq, decide_eq_false_iff_not, Bool.not_eq_true', Bool.not_eq_false', Int.toNat_natCast, beq_iff_eq, decide_eq_decide, beq_eq_false_iff_ne, ne_eq, reduceCtorEq] at h) <;> (conv => whnf))
    | (refine .inl ⟨_, ih k (l + 1) n (by omega) (by omega) (by omega), ?_⟩; conv => whnf)
    | (refine And.intro (by (try simp only [Int.toNat_natCast]); omega) ?_; conv => whnf)
    | (refine And.intro (show (_ : Bool) = true from by kernel_rfl) ?_; conv => whnf)
    | (refine .inl ⟨wrap64 (by omega), ?_⟩; conv => whnf)))
  · have hx := drop_getD (l := e.kids) (k := k) (by omega)
    rw [hx, wlkL, if_pos h] at hinv
    rw [hinv]
    refine ⟨?_, ?_⟩ <;> (conv => whnf)
    all_goals exact PSub.rfl
  · have hx := drop_getD (l := e.kids) (k := k) (by omega)
    rw [hx, wlkL, if_neg (by simpa using h)] at hinv
    have hb := wlkE_b (e.kids.getD k default) (l + 1) n (by omega) (by omega)
    refine ⟨(k + 1, (wlkE (e.kids.getD k default) (l + 1) n).1), [], ⟨by dsimp only; omega, hb, hinv⟩, by first | omega | (dsimp only; omega), ?_⟩
    (repeat' (first | exact PSub.rfl | exact rfl | exact PSubs.rfl | exact trivial | exact PSub.lit_sb rfl | refine And.intro ?_ ?_))
  · rw [List.drop_of_length_le (by omega), wlkL] at hinv
    rw [← hinv]
    refine ⟨?_, ?_⟩ <;> (conv => whnf)
    all_goals exact PSub.rfl
termination_by SizeOf.sizeOf e
theorem exE_wlk (e : Ex) : (wlkE e 1 0).2 = exE e := (wlk_chk e 1 0).1
theorem ac_r28_Check (e : Ex) : AC Tryz.prog 124 [.pv (.agg (cEx e))] [] (.pv (vint (exE e))) [] := by
  refine AC.of_awp (T := T) T_ok hm Tryz.call124 Tryz.func124 rfl rfl rfl ?_
  conv => whnf
  repeat (any_goals (first
    | (refine ⟨fun (h : (_ : Bool) = true) => ?_, fun (h : (_ : Bool) = false) => ?_⟩ <;> (try simp only [decide_eq_true_eq, decide_eq_false_iff_not, Bool.not_eq_true', Bool.not_eq_false', Int.toNat_natCast, beq_iff_eq, decide_eq_decide, beq_eq_false_iff_ne, ne_eq, reduceCtorEq] at h) <;> (conv => whnf))
    | (refine .inl ⟨_, ac_r28_walk e 1 0 (by omega) (by omega), ?_⟩; conv => whnf)
    | (refine And.intro (by (try simp only [Int.toNat_natCast]); omega) ?_; conv => whnf)
    | (refine And.intro (show (_ : Bool) = true from by kernel_rfl) ?_; conv => whnf)
    | (refine .inl ⟨wrap64 (by omega), ?_⟩; conv => whnf)))
  exact PSub.int (exE_wlk e)
end Go.Abs

namespace Go.Abs
open Go.Proofs
set_option maxRecDepth 10000
def visE (e : Ex) (l c : Int) : Int := if 24 < l then 22 else if 200 < c + 1 then 3 else nodeE e
theorem ac_expr_Check_1 (e : Ex) (l c f : Int) (hc : 0 ≤ c ∧ c ≤ 200) : AC Tryz.prog 76 [.pv (.agg (cEx e)), .pv (vint l), .ptr 900000 0, .ptr 900001 0] [(900000, .pbox [vint c]), (900001, .pbox [vint f])]
    (.pv (vbool (decide (visE e l c = 0)))) [(900000, .pbox [vint (c + 1)]), (900001, .pbox [vint (visE e l c)])] := by
  refine AC.of_awp_gen (T := T) T_ok hm Tryz.call76 Tryz.func76 rfl rfl rfl rfl rfl rfl ?_
  conv => whnf
  refine .inl ⟨wrap64 (by omega), ?_⟩
  conv => whnf
  repeat (any_goals (first
    | (refine ⟨fun (h : (_ : Bool) = true) => ?_, fun (h : (_ : Bool) = false) => ?_⟩ <;> (try simp only [decide_eq_true_eq, decide_eq_false_iff_not, Bool.not_eq_true', Bool.not_eq_false', Int.toNat_natCast, beq_iff_eq, decide_eq_decide, beq_eq_false_iff_ne, ne_eq, reduceCtorEq] at h) <;> (conv => whnf))
    | (refine .inl ⟨_, ac_expr_node e, ?_⟩; conv => whnf)
    | (refine And.intro (by (try simp only [Int.toNat_natCast]); omega) ?_; conv => whnf)
    | (refine And.intro (show (_ : Bool) = true from by kernel_rfl) ?_; conv => whnf)
    | (refine .inl ⟨wrap64 (by omega), ?_⟩; conv => whnf)))
  · rw [show visE e l c = 22 from by simp [visE, h]]
    refine ⟨[], ?_⟩
    conv => whnf
    (repeat' (first | exact PSub.rfl | exact rfl | exact PSubs.rfl | exact trivial | exact PSub.lit_sb rfl | refine And.intro ?_ ?_))
  · rename_i h1
    rw [show visE e l c = 3 from by simp only [visE, if_neg h1, if_pos h]]
    refine ⟨[], ?_⟩
    conv => whnf
    (repeat' (first | exact PSub.rfl | exact rfl | exact PSubs.rfl | exact trivial | exact PSub.lit_sb rfl | refine And.intro ?_ ?_))
  · rename_i h1
    rw [show visE e l c = nodeE e from by simp only [visE, if_neg h1, if_neg h]]
    refine ⟨[], ?_⟩
    conv => whnf
    (repeat' (first | exact PSub.rfl | exact rfl | exact PSubs.rfl | exact trivial | exact PSub.lit_sb rfl | refine And.intro ?_ ?_))
theorem chk_vis (e : Ex) (l c : Int) : chkE e l c = if visE e l c = 0 then chkL e.kids (l + 1) (c + 1) else (c + 1, visE e l c) := by
  rw [chkE_eq, visE]
  by_cases h1 : 24 < l
  · simp [h1]
  · by_cases h2 : 200 < c + 1
    · simp [h1, h2]
    · simp only [if_neg h1, if_neg h2]
      by_cases h3 : nodeE e = 0
      · simp [h3]
      · simp [h3]
abbrev chkO (c f : Int) : Upd := [(900000, .box [.fn 76 [.ptr 900002 0, .ptr 900003 0]]), (900001, .box [.fn 114 [.ptr 900000 0, .ptr 900001 0]]), (900002, .pbox [vint c]), (900003, .pbox [vint f])]
theorem ac_expr_walk_1_chk (e : Ex) (l c f : Int) (hl : 0 ≤ l ∧ l ≤ 25) (hc : 0 ≤ c ∧ c ≤ 200) : AC Tryz.prog 114 [.pv (.agg (cEx e)), .pv (vint l), .ptr 900000 0, .ptr 900001 0] (chkO c f) (.pv (vbool (decide ((chkE e l c).2 = 0)))) (chkO (chkE e l c).1 (chkE e l c).2) := by
  have ih : ∀ k l c f, k < e.kids.length → 0 ≤ l ∧ l ≤ 25 → 0 ≤ c ∧ c ≤ 200 → AC Tryz.prog 114 [.pv (.agg (cEx (e.kids.getD k default))), .pv (vint l), .ptr 900000 0, .ptr 900001 0] (chkO c f) (.pv (vbool (decide ((chkE (e.kids.getD k default) l c).2 = 0)))) (chkO (chkE (e.kids.getD k default) l c).1 (chkE (e.kids.getD k default) l c).2) := fun k l c f hk hl hc =>
    have := Ex.kid_lt (Ex.kid_at hk)
    ac_expr_walk_1_chk (e.kids.getD k default) l c f hl hc
  have heq := chk_vis e l c
  refine AC.ex ?_
  refine AC.of_awp_gen (T := T) T_ok hm Tryz.call114 Tryz.func114 rfl rfl rfl rfl rfl rfl ?_
  conv => whnf
  refine .inr (.inr (.inr (.inr ⟨[(900000, 900002), (900001, 900003)], [], _, _, _, (ac_expr_Check_1 e l c f hc).ex', rfl, ?_⟩)))
  conv => whnf
  refine ⟨fun h => ?_, fun h => ?_⟩ <;> (try simp only [decide_eq_true_eq, decide_eq_false_iff_not, Bool.not_eq_true', Bool.not_eq_false', Int.toNat_natCast, beq_iff_eq, decide_eq_decide, beq_eq_false_iff_ne, ne_eq, reduceCtorEq] at h) <;> (conv => whnf)
  · rw [if_neg h] at heq
    refine ⟨[], ?_⟩
    rw [heq, decide_eq_false h]
    conv => whnf
    (repeat' (first | exact PSub.rfl | exact rfl | exact PSubs.rfl | exact trivial | exact PSub.lit_sb rfl | refine And.intro ?_ ?_))
  rw [if_pos h] at heq
  have hk8 := nodeE_kids (e := e) (by
    unfold visE at h
    split at h
    · cases h
    · split at h
      · cases h
      · exact h)
  have hc2 : c + 1 ≤ 200 := by
    unfold visE at h
    split at h
    · cases h
    · split at h
      · cases h
      · omega
  have hl2 : l ≤ 24 := by
    unfold visE at h
    split at h
    · cases h
    · omega
  refine loop_k (ι := Nat × Int) [1, 2, 3, 15, 16] [900000, 900001] (fun x => x.1 ≤ e.kids.length ∧ (0 ≤ x.2 ∧ x.2 ≤ 200) ∧ chkL (e.kids.drop x.1) (l + 1) x.2 = chkE e l c) (fun x => e.kids.length - x.1) (0, c + 1) (fun x => [(17, .pv (vint x.1))]) (fun x => [(900002, .pbox [vint x.2]), (900003, .pbox [vint 0])]) [] ⟨Nat.zero_le _, ⟨by omega, by omega⟩, by rw [heq]; rfl⟩ ?_ (fun x hk => ?_)
  · (repeat' (first | exact PSub.rfl | exact rfl | exact PSubs.rfl | exact trivial | exact PSub.lit_sb rfl | refine And.intro ?_ ?_))
    exact PSub.int h
  obtain ⟨k, n⟩ := x
  obtain ⟨hkn, hn, hinv⟩ := hk
  dsimp only at hkn hn hinv
  conv => whnf
  repeat (any_goals (first
    | (refine ⟨fun (h : (_ : Bool) = true) => ?_, fun (h : (_ : Bool) = false) => ?_⟩ <;> (try simp only [decide_eq_true_eq, decide_eq_false_iff_not, Bool.not_eq_true', Bool.not_eq_false', Int.toNat_natCast, beq_iff_eq, decide_eq_decide, beq_eq_false_iff_ne, ne_eq, reduceCtorEq] at h) <;> (conv => whnf))
    | (refine .inr (.inr (.inr (.inr ⟨[(900000, 900000), (900001, 900001), (900002, 900002), (900003, 900003)], [], _, _, _, ih k (l + 1) n 0 (by omega) (by omega) (by omega), rfl, ?_⟩))); conv => whnf)
    | (refine And.intro (by (try simp only [Int.toNat_natCast]); omega) ?_; conv => whnf)
    | (refine And.intro (show (_ : Bool) = true from by kernel_rfl) ?_; conv => whnf)
    | (refine .inl ⟨wrap64 (by omega), ?_⟩; conv => whnf)))
  · have hx := drop_getD (l := e.kids) (k := k) (by omega)
    rw [hx, chkL, if_pos h] at hinv
    refine ⟨[], ?_⟩
    rw [← hinv, decide_eq_false h]
    conv => whnf
    (repeat' (first | exact PSub.rfl | exact rfl | exact PSubs.rfl | exact trivial | exact PSub.lit_sb rfl | refine And.intro ?_ ?_))
  · have hx := drop_getD (l := e.kids) (k := k) (by omega)
    rw [hx, chkL, if_neg (by simpa using h)] at hinv
    have hb := chkE_b (e.kids.getD k default) (l + 1) n (by omega) (by omega)
    refine ⟨(k + 1, (chkE (e.kids.getD k default) (l + 1) n).1), [], ⟨by dsimp only; omega, ⟨hb.1, hb.2.2 h⟩, hinv⟩, by first | omega | (dsimp only; omega), ?_⟩
    (repeat' (first | exact PSub.rfl | exact rfl | exact PSubs.rfl | exact trivial | exact PSub.lit_sb rfl | refine And.intro ?_ ?_))
    exact PSub.int h
  · rw [List.drop_of_length_le (by omega), chkL] at hinv
    refine ⟨[], ?_⟩
    rw [← hinv]
    conv => whnf
    (repeat' (first | exact PSub.rfl | exact rfl | exact PSubs.rfl | exact trivial | exact PSub.lit_sb rfl | refine And.intro ?_ ?_))
termination_by SizeOf.sizeOf e
theorem ac_expr_walk_chk (e : Ex) (f : Int) : AC Tryz.prog 75 [.pv (.agg (cEx e)), .fn 76 [.ptr 900002 0, .ptr 900003 0]] [(900002, .pbox [vint 0]), (900003, .pbox [vint f])] (.pv (vbool (decide (exE e = 0))))
    [(900002, .pbox [vint (chkE e 1 0).1]), (900003, .pbox [vint (exE e)])] := by
  refine AC.of_awp_gen (T := T) T_ok hm Tryz.call75 Tryz.func75 rfl rfl rfl rfl rfl rfl ?_
  conv => whnf
  refine .inr (.inr (.inr (.inr ⟨[(900000, 3), (900001, 5), (900002, 900002), (900003, 900003)], [], _, _, _, (ac_expr_walk_1_chk e 1 0 f (by omega) (by omega)), rfl, ?_⟩)))
  conv => whnf
  refine ⟨[], ?_⟩
  conv => whnf
  (repeat' (first | exact PSub.rfl | exact rfl | exact PSubs.rfl | exact trivial | exact PSub.lit_sb rfl | refine And.intro ?_ ?_))
theorem ac_expr_Check (e : Ex) : AC Tryz.prog 43 [.pv (.agg (cEx e))] [] (.pv (vint (exE e))) [] := by
  refine AC.of_awp (T := T) T_ok hm Tryz.call43 Tryz.func43 rfl rfl rfl ?_
  conv => whnf
  refine .inr (.inr (.inr (.inr ⟨[(900002, 4), (900003, 3)], [], _, _, _, (ac_expr_walk_chk e 0), rfl, ?_⟩)))
  conv => whnf
  exact PSub.rfl
end Go.Abs

namespace Go.Abs
open Go.Proofs
set_option maxRecDepth 10000
theorem ac_typing_leaf (s : Sco) (e : Ex) (hs : smallS s) : AC Tryz.prog 138 [.pv (.agg (cSco s)), .pv (.agg (cEx e))] [] (.pv (.tup [vint (leafK s e.kind e.name e.value e.key).1, vint (leafK s e.kind e.name e.value e.key).2])) [] := by
  refine AC.of_awp (T := T) T_ok hm Tryz.call138 Tryz.func138 rfl rfl rfl ?_
  conv => whnf
  repeat (any_goals (first
    | (refine ⟨fun (h : (_ : Bool) = true) => ?_, fun (h : (_ : Bool) = false) => ?_⟩ <;> (try simp only [decide_eq_true_eq, decide_eq_false_iff_not, Bool.not_eq_true', Bool.not_eq_false', Int.toNat_natCast, beq_iff_eq, decide_eq_decide, beq_eq_false_iff_ne, ne_eq, reduceCtorEq] at h) <;> (conv => whnf))
    | (refine .inl ⟨_, ac_device_Find s.home e.key hs.1, ?_⟩; conv => whnf)
    | (refine .inl ⟨_, ac_slices_Contains_string s.modes 0 e.name hs.2.1, ?_⟩; conv => whnf)
    | (refine And.intro (by (try simp only [Int.toNat_natCast]); omega) ?_; conv => whnf)
    | (refine And.intro (show (_ : Bool) = true from by kernel_rfl) ?_; conv => whnf)
    | (refine .inl ⟨wrap64 (by omega), ?_⟩; conv => whnf)))
  all_goals (try (refine And.intro ?_ ?_ <;> (conv => whnf)))
  all_goals first
    | contradiction
    | (exfalso; omega)
    | exact PSub.rfl
    | (refine PSub.lit_sb ?_; (first | (simp [leafK, *]; done) | (simp_all [leafK]; done) | ((try simp only [leafK]); (repeat' split) <;> (try simp only [Bool.false_eq, Bool.true_eq, Bool.and_eq_false_iff, decide_eq_false_iff_not, Bool.and_eq_true, decide_eq_true_eq, decide_eq_decide]) <;> first | rfl | omega | (simp_all; done) | (simp_all; omega))))
    | (refine PSub.sb ?_; (first | (simp [leafK, *]; done) | (simp_all [leafK]; done) | ((try simp only [leafK]); (repeat' split) <;> (try simp only [Bool.false_eq, Bool.true_eq, Bool.and_eq_false_iff, decide_eq_false_iff_not, Bool.and_eq_true, decide_eq_true_eq, decide_eq_decide]) <;> first | rfl | omega | (simp_all; done) | (simp_all; omega))))
    | (refine PSub.sb_lit ?_; (first | (simp [leafK, *]; done) | (simp_all [leafK]; done) | ((try simp only [leafK]); (repeat' split) <;> (try simp only [Bool.false_eq, Bool.true_eq, Bool.and_eq_false_iff, decide_eq_false_iff_not, Bool.and_eq_true, decide_eq_true_eq, decide_eq_decide]) <;> first | rfl | omega | (simp_all; done) | (simp_all; omega))))
    | (refine PSub.int ?_; (first | (simp [leafK, *]; done) | (simp_all [leafK]; done) | ((try simp only [leafK]); (repeat' split) <;> (try simp only [Bool.false_eq, Bool.true_eq, Bool.and_eq_false_iff, decide_eq_false_iff_not, Bool.and_eq_true, decide_eq_true_eq, decide_eq_decide]) <;> first | rfl | omega | (simp_all; done) | (simp_all; omega))))
    | skip
theorem ac_typing_all (l : List Int) (k : Int) (hl : smallL l) : AC Tryz.prog 139 [.pv (roL 1 cint l), .pv (vint k)] [] (.pv (vbool (allI l k))) [] := by
  have hl2 : l.length ≤ 1048576 := hl
  refine AC.of_awp (T := T) T_ok hm Tryz.call139 Tryz.func139 rfl rfl rfl ?_
  conv => whnf
  refine loop_k (ι := Nat) [1, 7, 8] [] (fun q => q ≤ l.length ∧ ∀ i, i < q → l.getD i default = k) (fun q => l.length - q) 0 (fun q => [(9, .pv (vint q))]) (fun _ => []) [] ⟨Nat.zero_le _, fun i h => absurd h (by omega)⟩ ?_ (fun q hk => ?_)
  · (repeat' (first | exact PSub.rfl | exact rfl | exact PSubs.rfl | exact trivial | exact PSub.lit_sb rfl | refine And.intro ?_ ?_))
  obtain ⟨hkn, hinv⟩ := hk
  conv => whnf
  repeat (any_goals (first
    | (refine ⟨fun (h : (_ : Bool) = true) => ?_, fun (h : (_ : Bool) = false) => ?_⟩ <;> (try simp only [decide_eq_true_eq, decide_eq_false_iff_not, Bool.not_eq_true', Bool.not_eq_false', Int.toNat_natCast, beq_iff_eq, decide_eq_decide, beq_eq_false_iff_ne, ne_eq, reduceCtorEq] at h) <;> (conv => whnf))
    | (refine And.intro (by (try simp only [Int.toNat_natCast]); omega) ?_; conv => whnf)
    | (refine And.intro (show (_ : Bool) = true from by kernel_rfl) ?_; conv => whnf)
    | (refine .inl ⟨wrap64 (by omega), ?_⟩; conv => whnf)))
  · refine PSub.lit_sb ?_
    symm
    rw [← Bool.not_eq_true]
    intro h2
    simp only [allI, List.all_eq_true, decide_eq_true_eq] at h2
    exact h (h2 _ (by simp [List.getD, show q < l.length from by omega]))
  · refine ⟨q + 1, [], ⟨by omega, ?_⟩, by first | omega | (dsimp only; omega), ?_⟩
    rotate_left
    · (repeat' (first | exact PSub.rfl | exact rfl | exact PSubs.rfl | exact trivial | exact PSub.lit_sb rfl | refine And.intro ?_ ?_))
    intro j hj
    by_cases e : j = q
    · subst e; first | exact h | simpa [-List.getD_eq_getElem?_getD] using h | simp_all [-List.getD_eq_getElem?_getD]
    · exact hinv j (by omega)
  · refine PSub.lit_sb ?_
    symm
    simp only [allI, List.all_eq_true, decide_eq_true_eq]
    intro x hx
    obtain ⟨i, hi, rfl⟩ := List.getElem_of_mem hx
    have := hinv i (by omega)
    simpa [List.getD, hi] using this
theorem kidsB_lens {k n : Int} (h : kidsB k n = true) (h0 : 0 < n) : (k = 6 ∧ n = 1) ∨ ((k = 7 ∨ k = 8) ∧ 2 ≤ n ∧ n ≤ 8) ∨ (9 ≤ k ∧ k ≤ 13 ∧ n = 2) ∨ (k = 14 ∧ n = 3) := by
  unfold kidsB at h
  (repeat' split at h) <;> simp only [decide_eq_true_eq, Bool.and_eq_true] at h <;> omega
set_option maxHeartbeats 1000000 in
theorem ac_typing_kind (s : Sco) (hs : smallS s) (e : Ex) (he : okE e) : AC Tryz.prog 98 [.pv (.agg (cSco s)), .pv (.agg (cEx e))] [] (.pv (.tup [vint (kindE s e).1, vint (kindE s e).2])) [] := by
  obtain ⟨hk1, hk2, hk3⟩ := (okE_iff e).1 he
  have ih : ∀ k, k < e.kids.length → AC Tryz.prog 98 [.pv (.agg (cSco s)), .pv (.agg (cEx (e.kids.getD k default)))] [] (.pv (.tup [vint (kindE s (e.kids.getD k default)).1, vint (kindE s (e.kids.getD k default)).2])) [] := fun k hk =>
    have := Ex.kid_lt (Ex.kid_at hk)
    ac_typing_kind s hs (e.kids.getD k default) (okL_at hk3 hk)
  refine AC.ex2 ?_
  refine AC.of_awp (T := T) T_ok hm Tryz.call98 Tryz.func98 rfl rfl rfl ?_
  conv => whnf
  refine ⟨fun h => ?_, fun h => ?_⟩ <;> (try simp only [decide_eq_true_eq, decide_eq_false_iff_not, Bool.not_eq_true', Bool.not_eq_false', Int.toNat_natCast, beq_iff_eq, decide_eq_decide, beq_eq_false_iff_ne, ne_eq, reduceCtorEq] at h) <;> (conv => whnf)
  · have hz := kindE_leaf (s := s) (e := e) (by omega)
    repeat (any_goals (first
      | (refine ⟨fun (h : (_ : Bool) = true) => ?_, fun (h : (_ : Bool) = false) => ?_⟩ <;> (try simp only [decide_eq_true_eq, decide_eq_false_iff_not, Bool.not_eq_true', Bool.not_eq_false', Int.toNat_natCast, beq_iff_eq, decide_eq_decide, beq_eq_false_iff_ne, ne_eq, reduceCtorEq] at h) <;> (conv => whnf))
      | (refine .inl ⟨_, (ac_typing_leaf s e hs).ex2', ?_⟩; conv => whnf)
      | (refine And.intro (by (try simp only [Int.toNat_natCast]); omega) ?_; conv => whnf)
      | (refine And.intro (show (_ : Bool) = true from by kernel_rfl) ?_; conv => whnf)
      | (refine .inl ⟨wrap64 (by omega), ?_⟩; conv => whnf)))
    rw [hz]
    refine ⟨?_, ?_⟩ <;> (conv => whnf)
    all_goals exact PSub.rfl
  have hop := kindE_op (s := s) (e := e) (by omega)
  have hlen := kidsB_lens hk2 (by omega)
  refine loop_k (ι := Nat × List Int) [2, 3, 23, 24] [2, 3] (fun x => x.1 ≤ e.kids.length ∧ KTo s e.kids x.1 x.2) (fun x => e.kids.length - x.1) (0, []) (fun x => [(6, .own 500), (25, .pv (vint x.1))]) (fun x => [(500, rowL 1 cint x.2)]) [] ⟨Nat.zero_le _, KTo.zero s e.kids⟩ ?_ (fun x hk => ?_)
  · (repeat' (first | exact PSub.rfl | exact rfl | exact PSubs.rfl | exact trivial | exact PSub.lit_sb rfl | refine And.intro ?_ ?_))
  obtain ⟨k, acc⟩ := x
  obtain ⟨hkn, hinv⟩ := hk
  dsimp only at hkn hinv
  have hacc := hinv.1
  conv => whnf
  have hsm : smallL acc := show acc.length ≤ 1048576 from by omega
  repeat (any_goals (first
    | (refine ⟨fun (h : (_ : Bool) = true) => ?_, fun (h : (_ : Bool) = false) => ?_⟩ <;> (try simp only [decide_eq_true_eq, decide_eq_false_iff_not, Bool.not_eq_true', Bool.not_eq_false', Int.toNat_natCast, beq_iff_eq, decide_eq_decide, beq_eq_false_iff_ne, ne_eq, reduceCtorEq] at h) <;> (conv => whnf))
    | (refine .inl ⟨_, ih k (by omega), ?_⟩; conv => whnf)
    | (refine .inl ⟨_, ac_typing_all acc 1 hsm, ?_⟩; conv => whnf)
    | (refine .inl ⟨_, ac_typing_all acc 2 hsm, ?_⟩; conv => whnf)
    | (refine And.intro (by (try simp only [Int.toNat_natCast]); omega) ?_; conv => whnf)
    | (refine And.intro (show (_ : Bool) = true from by kernel_rfl) ?_; conv => whnf)
    | (refine .inl ⟨wrap64 (by omega), ?_⟩; conv => whnf)))
  · have := hinv.err (by omega) h
    rw [this] at hop
    rw [hop]
    refine ⟨?_, ?_⟩ <;> (conv => whnf)
    all_goals exact PSub.rfl
  · refine ⟨(k + 1, acc ++ [(kindE s (e.kids.getD k default)).1]), [(500, 41)], ⟨by dsimp only; omega, hinv.next (by omega) h⟩, by dsimp only; omega, ?_⟩
    (repeat' (first | exact PSub.rfl | exact rfl | exact PSubs.rfl | exact trivial | exact PSub.lit_sb rfl | refine And.intro ?_ ?_))
    · dsimp only; rw [List.length_append]; simp [hacc]
    · refine rows_snocF (fun i hi => by simp only [if_pos hi]; exact PSubs.rfl) (by simp only [if_neg (Nat.lt_irrefl _), Nat.sub_self]; exact PSubs.rfl)
  all_goals have hdn := hinv.done (by omega)
  all_goals rw [hdn] at hop
  all_goals dsimp only at hop
  all_goals (try (exfalso; omega))
  all_goals rw [hop]
  all_goals (try (refine And.intro ?_ ?_ <;> (conv => whnf)))
  all_goals first
    | contradiction
    | (exfalso; omega)
    | exact PSub.rfl
    | (refine PSub.lit_sb ?_; (first | (simp [opK, *]; done) | (simp_all [opK]; done) | ((try simp only [opK]); (repeat' split) <;> (try simp only [Bool.false_eq, Bool.true_eq, Bool.and_eq_false_iff, decide_eq_false_iff_not, Bool.and_eq_true, decide_eq_true_eq, decide_eq_decide]) <;> first | rfl | omega | (simp_all; done) | (simp_all; omega))))
    | (refine PSub.sb ?_; (first | (simp [opK, *]; done) | (simp_all [opK]; done) | ((try simp only [opK]); (repeat' split) <;> (try simp only [Bool.false_eq, Bool.true_eq, Bool.and_eq_false_iff, decide_eq_false_iff_not, Bool.and_eq_true, decide_eq_true_eq, decide_eq_decide]) <;> first | rfl | omega | (simp_all; done) | (simp_all; omega))))
    | (refine PSub.sb_lit ?_; (first | (simp [opK, *]; done) | (simp_all [opK]; done) | ((try simp only [opK]); (repeat' split) <;> (try simp only [Bool.false_eq, Bool.true_eq, Bool.and_eq_false_iff, decide_eq_false_iff_not, Bool.and_eq_true, decide_eq_true_eq, decide_eq_decide]) <;> first | rfl | omega | (simp_all; done) | (simp_all; omega))))
    | (refine PSub.int ?_; (first | (simp [opK, *]; done) | (simp_all [opK]; done) | ((try simp only [opK]); (repeat' split) <;> (try simp only [Bool.false_eq, Bool.true_eq, Bool.and_eq_false_iff, decide_eq_false_iff_not, Bool.and_eq_true, decide_eq_true_eq, decide_eq_decide]) <;> first | rfl | omega | (simp_all; done) | (simp_all; omega))))
    | skip
termination_by SizeOf.sizeOf e
end Go.Abs

namespace Go.Abs
open Go.Proofs
set_option maxRecDepth 10000
theorem ac_typing_Expr (s : Sco) (e : Ex) (hs : smallS s) : AC Tryz.prog 62 [.pv (.agg (cSco s)), .pv (.agg (cEx e))] [] (.pv (.tup [vint (exprK s e).1, vint (exprK s e).2])) [] := by
  refine AC.of_awp (T := T) T_ok hm Tryz.call62 Tryz.func62 rfl rfl rfl ?_
  conv => whnf
  repeat (any_goals (first
    | (refine ⟨fun (h : (_ : Bool) = true) => ?_, fun (h : (_ : Bool) = false) => ?_⟩ <;> (try simp only [decide_eq_true_eq, decide_eq_false_iff_not, Bool.not_eq_true', Bool.not_eq_false', Int.toNat_natCast, beq_iff_eq, decide_eq_decide, beq_eq_false_iff_ne, ne_eq, reduceCtorEq] at h) <;> (conv => whnf))
    | (refine .inl ⟨_, ac_expr_Check e, ?_⟩; conv => whnf)
    | (refine And.intro (by (try simp only [Int.toNat_natCast]); omega) ?_; conv => whnf)
    | (refine And.intro (show (_ : Bool) = true from by kernel_rfl) ?_; conv => whnf)
    | (refine .inl ⟨wrap64 (by omega), ?_⟩; conv => whnf)))
  · rw [exprK, if_pos h]
    refine ⟨?_, ?_⟩ <;> (conv => whnf)
    all_goals exact PSub.rfl
  · rw [exprK, if_neg (by simpa using h)]
    repeat (any_goals (first
      | (refine ⟨fun (h : (_ : Bool) = true) => ?_, fun (h : (_ : Bool) = false) => ?_⟩ <;> (try simp only [decide_eq_true_eq, decide_eq_false_iff_not, Bool.not_eq_true', Bool.not_eq_false', Int.toNat_natCast, beq_iff_eq, decide_eq_decide, beq_eq_false_iff_ne, ne_eq, reduceCtorEq] at h) <;> (conv => whnf))
      | (refine .inl ⟨_, ac_typing_kind s hs e (exE_ok h), ?_⟩; conv => whnf)
      | (refine And.intro (by (try simp only [Int.toNat_natCast]); omega) ?_; conv => whnf)
      | (refine And.intro (show (_ : Bool) = true from by kernel_rfl) ?_; conv => whnf)
      | (refine .inl ⟨wrap64 (by omega), ?_⟩; conv => whnf)))
    refine ⟨?_, ?_⟩ <;> (conv => whnf)
    all_goals exact PSub.rfl
end Go.Abs

namespace Go.Abs
open Go.RowKit
theorem sum_range_le {β : Type} : ∀ (l : List β) (f : Nat → Nat) (h : β → Nat), (∀ (i : Nat) (x : β), l[i]? = some x → f i ≤ h x) → ((List.range l.length).map f).sum ≤ (l.map h).sum
  | [], _, _, _ => by simp
  | x :: l, f, h, hf => by
    rw [List.length_cons, List.range_succ_eq_map]
    simp only [List.map_cons, List.map_map, List.sum_cons]
    have h0 := hf 0 x rfl
    have h1 := sum_range_le l (fun i => f (i + 1)) h (fun i y e => hf (i + 1) y (by simpa using e))
    have e : (f ∘ Nat.succ) = fun i => f (i + 1) := rfl
    rw [e]
    omega
structure BulkSum {H : Type} (bulk : DataW H → Nat) : Prop where
  slice : ∀ e s, (e.map bulk).sum ≤ bulk (.slice e s)
  agg : ∀ l, (l.map bulk).sum + 1 ≤ bulk (.agg l)
section
variable {H : Type} (enc : TypeId × Value → H) (P : Program) (w : World) (bulk : DataW H → Nat) (B : Nat)
def OpensU (N : Nat) (t : TypeId) {α : Type} (cs : α → List PV) (good : α → Prop) (me : α → Nat) : Prop :=
  ∀ (sp : Nat → Bool) (fuel : Nat) (vs : List Value) (x : DataW H × List MemPlace), fuel ≤ N → DataW.trod enc P w 0 sp true fuel t vs = some x → bulk x.1 ≤ B → ∃ a : α, good a ∧ me a ≤ bulk x.1 ∧ Reads w vs (cs a)
def FOpensU (N : Nat) (fs : List Field) (off : Nat) {α : Type} (cs : α → List PV) (good : α → Prop) (me : α → Nat) : Prop :=
  ∀ (sp : Nat → Bool) (n : Nat) (vs : List Value) (xs : List (DataW H × List MemPlace)), n ≤ N → xs.length = fs.length → (∀ (i : Nat) (f : Field), fs[i]? = some f → DataW.trod enc P w 0 sp true n f.type ((vs.drop f.offset).take (P.cellsOf f.type)) = xs[i]?) →
    (∀ y ∈ xs, bulk y.1 ≤ B) → off ≤ vs.length → vs.length = off + (fs.map fun f => P.cellsOf f.type).sum → ∃ a : α, good a ∧ me a ≤ (xs.map fun y => bulk y.1).sum ∧ Reads w (vs.drop off) (cs a)
end
section
variable {H : Type} {enc : TypeId × Value → H} {P : Program} {w : World} {bulk : DataW H → Nat} {B : Nat}
theorem Opens.toU {t : TypeId} {α : Type} {cs : α → List PV} {good : α → Prop} {N : Nat} (h : Opens enc P w bulk B t cs good) : OpensU enc P w bulk B N t cs good (fun _ => 0) := by
  intro sp fuel vs x _ hx hb
  obtain ⟨a, h1, h2⟩ := h sp fuel vs x hx hb
  exact ⟨a, h1, Nat.zero_le _, h2⟩
theorem OpensU.all {t : TypeId} {α : Type} {cs : α → List PV} {good : α → Prop} {me : α → Nat} (h : ∀ N, OpensU enc P w bulk B N t cs good me) : Opens enc P w bulk B t cs (fun a => good a ∧ me a ≤ B) := by
  intro sp fuel vs x hx hb
  obtain ⟨a, h1, h2, h3⟩ := h fuel sp fuel vs x (Nat.le_refl _) hx hb
  exact ⟨a, ⟨h1, Nat.le_trans h2 hb⟩, h3⟩
theorem OpensU.imp {t : TypeId} {α β : Type} {cs : α → List PV} {good : α → Prop} {me : α → Nat} {cs' : β → List PV} {good' : β → Prop} {me' : β → Nat} {N : Nat} (h : OpensU enc P w bulk B N t cs good me) (f : α → β) (he : ∀ a, good a → ∀ vs, Reads w vs (cs a) → Reads w vs (cs' (f a))) (hg : ∀ a, good a → good' (f a)) (hm : ∀ a, me' (f a) ≤ me a) : OpensU enc P w bulk B N t cs' good' me' := by
  intro sp fuel vs x hf hx hb
  obtain ⟨a, h1, h2, h3⟩ := h sp fuel vs x hf hx hb
  exact ⟨f a, hg a h1, Nat.le_trans (hm a) h2, he a h1 vs h3⟩
theorem OpensU.slice (hB : BulkOk bulk) (hS : BulkSum bulk) {t e : TypeId} {α : Type} [Inhabited α] {cs : α → List PV} {good : α → Prop} {me : α → Nat} {N : Nat} {size : Nat} (ht : P.underlying t = some (.slice e)) (hsz : P.cellsOf e = size) (hpos : 0 < size) (he : OpensU enc P w bulk B N e cs good me) :
    OpensU enc P w bulk B (N + 1) t (fun l : List α => [roL size cs l]) (fun l => l.length ≤ B ∧ ∀ i, i < l.length → good (l.getD i default)) (fun l => (l.map me).sum) := by
  intro sp fuel vs x hfu hx hb
  rcases DataW.trod_slice ht hx with ⟨rfl, rfl⟩ | ⟨a, len, cap, elems, rest, n, rfl, rfl, rfl, _, hlc, hcm, hel, hcell, _, _⟩
  · exact ⟨[], ⟨Nat.zero_le _, fun i h => absurd h (by simp)⟩, Nat.zero_le _, Reads.single ((PSub.nil_ro size _).to _ _ _ (.val _)) rfl⟩
  · simp only at hb
    have hlen : len ≤ B := by
      have := hB.len (elems.map (·.1)) (rest.map (·.1))
      simp only [List.length_map] at this
      omega
    have hone : ∀ i, i < len → ∃ y, (good y ∧ ∀ z, elems[i]? = some z → me y ≤ bulk z.1) ∧ ∃ cl, w.cells? 0 (a.add (i * size)) size = some cl ∧ Reads w cl (cs y) := by
      intro i hi
      have h1 := hcell i hi
      rw [hsz] at h1
      have hi2 : i < elems.length := by omega
      rw [List.getElem?_eq_getElem hi2] at h1
      cases hc : w.cells? 0 (a.add (i * size)) size with
      | none => rw [hc] at h1; cases h1
      | some cl =>
        rw [hc] at h1
        simp only [Option.bind_some] at h1
        have hb2 : bulk (elems[i]).1 ≤ B := Nat.le_trans (hB.elem (elems.map (·.1)) (rest.map (·.1)) _ (List.mem_map_of_mem (List.getElem_mem hi2))) hb
        obtain ⟨y, hg, hme, hr⟩ := he sp n cl _ (by omega) h1 hb2
        exact ⟨y, ⟨hg, fun z hz => by rw [List.getElem?_eq_getElem hi2] at hz; cases hz; exact hme⟩, cl, rfl, hr⟩
    have hex : ∃ f : Nat → α, ∀ i, i < len → (good (f i) ∧ ∀ z, elems[i]? = some z → me (f i) ≤ bulk z.1) ∧ ∃ cl, w.cells? 0 (a.add (i * size)) size = some cl ∧ Reads w cl (cs (f i)) :=
      ⟨fun i => if h : i < len then Classical.choose (hone i h) else default, fun i hi => by simp only [dif_pos hi]; exact Classical.choose_spec (hone i hi)⟩
    obtain ⟨f, hf⟩ := hex
    have hget : ∀ i, i < len → ((List.range len).map f).getD i default = f i := fun i hi => by simp [List.getD, hi]
    refine ⟨(List.range len).map f, ⟨by simpa using hlen, fun i hi => ?_⟩, ?_, Reads.single ?_ rfl⟩
    · have hi : i < len := by simpa using hi
      rw [hget i hi]; exact (hf i hi).1.1
    · have h1 := sum_range_le elems (fun i => me (f i)) (fun z => bulk z.1) (fun i z hz => (hf i (by have := (List.getElem?_eq_some_iff.1 hz).1; omega)).1.2 z hz)
      have h2 := hS.slice (elems.map (·.1)) (rest.map (·.1))
      rw [List.map_map] at h2
      dsimp only
      rw [List.map_map]
      rw [show elems.length = len from by omega] at h1
      exact Nat.le_trans h1 h2
    · have key : ∀ i, i < len → ∀ j, j < size → ∃ v, w.cell? (a.add (i * size + j)) = some v ∧ v.oneCell' = true ∧ (a.add (i * size + j)).block < w.heap.size ∧ ∀ p, (cs (f i))[j]? = some p → PR w (fun _ => False) p v := by
        intro i hi j hj
        obtain ⟨_, cl, hc, hr⟩ := hf i hi
        obtain ⟨_, hl, hall⟩ := World.cells?_some hc
        have hj2 : j < cl.length := by omega
        have h1 := hall j hj
        rw [add_add, List.getElem?_eq_getElem hj2] at h1
        have hg : cl.getD j undef = cl[j] := by simp [List.getD, hj2]
        refine ⟨cl[j], h1, by rw [← hg]; exact hr.one j hj2, ?_, fun p hp => by rw [← hg]; exact hr.pr j p hp⟩
        have hb := World.cells?_block hc hpos
        simpa [block_add] using hb
      have hn : ((List.range len).map f).length = len := by simp
      unfold roL
      rw [hn]
      refine .ro size len _ (some a) cap (fun i j => (w.cell? (a.add (i * size + j))).getD undef) hlc hcm (fun h => by cases h) (fun i hi => ?_) (fun h0 => ⟨a, rfl, ?_, fun h => h.elim, fun i hi j hj => ?_⟩) (fun i hi j p hp => ?_)
      · rw [hget i hi]
        obtain ⟨_, cl, hc, hr⟩ := hf i hi
        obtain ⟨_, hl, _⟩ := World.cells?_some hc
        rw [← hr.len]; exact hl
      · obtain ⟨v, _, _, hb, _⟩ := key 0 h0 0 hpos
        simpa [block_add] using hb
      · obtain ⟨v, e, h1, _, _⟩ := key i hi j hj
        rw [e]; exact ⟨rfl, h1⟩
      · rw [hget i hi] at hp
        have hj : j < size := by
          obtain ⟨_, cl, hc, hr⟩ := hf i hi
          obtain ⟨_, hl, _⟩ := World.cells?_some hc
          have := (List.getElem?_eq_some_iff.1 hp).1
          rw [← hr.len, hl] at this; exact this
        obtain ⟨v, e, _, _, hpv⟩ := key i hi j hj
        simp only [e, Option.getD_some]
        exact hpv p hp
theorem FOpensU.nil {N : Nat} {off : Nat} : FOpensU enc P w bulk B N [] off (fun _ : Unit => []) (fun _ => True) (fun _ => 0) := by
  intro sp n vs xs _ _ _ _ _ hl
  simp at hl
  exact ⟨(), trivial, Nat.zero_le _, by rw [List.drop_of_length_le (by omega)]; exact Reads.nil⟩
theorem FOpensU.cons {N : Nat} {f : Field} {fs : List Field} {off : Nat} {α β : Type} {cs : α → List PV} {good : α → Prop} {me : α → Nat} {me' : β → Nat} {cs' : β → List PV} {good' : β → Prop} {size : Nat} (ho : f.offset = off) (hsz : P.cellsOf f.type = size) (h : OpensU enc P w bulk B N f.type cs good me) (k : FOpensU enc P w bulk B N fs (off + size) cs' good' me') :
    FOpensU enc P w bulk B N (f :: fs) off (fun x : α × β => cs x.1 ++ cs' x.2) (fun x => good x.1 ∧ good' x.2) (fun x => me x.1 + me' x.2) := by
  subst ho; subst hsz
  intro sp n vs xs hnN hxl hx hb hoff hl
  cases xs with
  | nil => simp at hxl
  | cons y ys =>
    have h0 := hx 0 f rfl
    simp only [List.getElem?_cons_zero] at h0
    obtain ⟨a, ha, ma, ra⟩ := h sp n _ _ hnN h0 (hb y (by simp))
    simp only [List.map_cons, List.sum_cons] at hl
    obtain ⟨b, hb2, mb, rb⟩ := k sp n vs ys hnN (by simpa using hxl) (fun i g hg => by simpa using hx (i + 1) g (by simpa using hg)) (fun z hz => hb z (by simp [hz])) (by omega) (by omega)
    refine ⟨(a, b), ⟨ha, hb2⟩, by simp only [List.map_cons, List.sum_cons]; omega, ?_⟩
    have e : vs.drop f.offset = (vs.drop f.offset).take (P.cellsOf f.type) ++ vs.drop (f.offset + P.cellsOf f.type) := by
      rw [← List.drop_drop, List.take_append_drop]
    rw [e]
    exact ra.append rb
theorem OpensU.struct (hB : BulkOk bulk) (hS : BulkSum bulk) {N : Nat} {t : TypeId} {fs : Array Field} {α : Type} {cs : α → List PV} {good : α → Prop} {me : α → Nat} (ht : P.underlying t = some (.struct fs)) (hc : P.cellsOf t = (fs.toList.map fun f => P.cellsOf f.type).sum) (h : FOpensU enc P w bulk B N fs.toList 0 cs good me) :
    OpensU enc P w bulk B (N + 1) t cs good (fun a => me a + 1) := by
  intro sp fuel vs x hfu hx hb
  obtain ⟨xs, n, rfl, rfl, hl, hxl, hall⟩ := DataW.trod_struct ht hx
  obtain ⟨a, ha, hma, hr⟩ := h sp n vs xs (by omega) (by simpa using hxl) (fun i f hf => hall i f (by simpa using hf)) (fun y hy => Nat.le_trans (hB.part _ _ (List.mem_map_of_mem hy)) hb) (Nat.zero_le _) (by rw [hl, hc]; simp)
  refine ⟨a, ha, ?_, by simpa using hr⟩
  have := hS.agg (xs.map (·.1))
  rw [List.map_map] at this
  exact Nat.le_trans (Nat.add_le_add_right hma 1) this
end
end Go.Abs

namespace Go.Abs
open Go.Proofs Go.RowKit
set_option maxRecDepth 10000
section
variable {H : Type} {enc : TypeId × Value → H} {w : World} {bulk : DataW H → Nat}
theorem Reads.sub {vs : List Value} {ps qs : List PV} (h : Reads w vs ps) (hs : PSubs ps qs) : Reads w vs qs :=
  ⟨h.len.trans hs.length, fun i x e => by obtain ⟨p, hp, hpq⟩ := hs.get i x e; exact hpq.to _ _ _ (h.pr i p hp), h.one⟩
theorem sizeL_sum : ∀ l : List Ex, (l.map sizeE).sum = sizeL l
  | [] => rfl
  | e :: l => by rw [List.map_cons, List.sum_cons, sizeL, sizeL_sum l]
theorem op_ExprU (hB : BulkOk bulk) (hS : BulkSum bulk) : ∀ N, OpensU enc Tryz.prog w bulk BB N 42 cEx (fun _ => True) sizeE := by
  have step : ∀ N, OpensU enc Tryz.prog w bulk BB N 42 cEx (fun _ => True) sizeE → OpensU enc Tryz.prog w bulk BB (N + 1 + 1) 42 cEx (fun _ => True) sizeE := by
    intro N ih
    have hk := OpensU.slice hB hS (t := 40) Tryz.underlying40 (size := 11) (by kernel_rfl) (by decide) ih
    refine (OpensU.struct hB hS Tryz.underlying42 (by kernel_rfl) (.cons (size := 1) rfl (by kernel_rfl) op_int.toU (.cons (size := 1) rfl (by kernel_rfl) op_int.toU (.cons (size := 1) rfl (by kernel_rfl) op_int.toU (.cons (size := 1) rfl (by kernel_rfl) (op_string hB).toU
      (.cons (size := 3) rfl (by kernel_rfl) (op_Value hB).toU (.cons (size := 3) rfl (by kernel_rfl) (op_Key hB).toU (.cons (size := 1) rfl (by kernel_rfl) hk .nil)))))))).imp (fun x => .mk x.1 x.2.1 x.2.2.1 x.2.2.2.1 x.2.2.2.2.1 x.2.2.2.2.2.1 x.2.2.2.2.2.2.1) (fun a _ vs hr => ?_) (fun _ _ => trivial) (fun a => ?_)
    · exact Reads.sub hr ⟨.rfl, .rfl, .rfl, .rfl, .rfl, .rfl, .rfl, .rfl, .rfl, .rfl, PSub.kids', trivial⟩
    · rw [sizeE_eq, ← sizeL_sum]
      dsimp only [Ex.kids]
      omega
  intro N
  induction N using Nat.strongRecOn with
  | _ N ih =>
    match N with
    | 0 =>
      intro sp fuel vs x hf hx hb
      exact step 0 (fun sp fuel vs x hf hx hb => by
        obtain rfl : fuel = 0 := by omega
        simp [DataW.trod] at hx) sp fuel vs x (by omega) hx hb
    | 1 =>
      intro sp fuel vs x hf hx hb
      exact step 0 (ih 0 (by omega)) sp fuel vs x (by omega) hx hb
    | N + 2 => exact step N (ih N (by omega))
theorem op_Expr (hB : BulkOk bulk) (hS : BulkSum bulk) : Opens enc Tryz.prog w bulk BB 42 cEx (fun e => sizeE e ≤ 1048576) :=
  (OpensU.all (op_ExprU hB hS)).imp id (fun _ => rfl) (fun _ h => h.2)
end
end Go.Abs

namespace Go.Abs
def litX (b : Bool) : Ex := .mk 1 0 0 ⟨#[]⟩ ⟨1, if b = true then 1 else 0, ⟨#[]⟩⟩ noKey []
def sizeU (n : Int) : Int := if n < 0 then -n else n
def timesU (a b : Int) : Int := if b ≠ 0 ∧ (1099511627776 : Int).tdiv b < a then 1099511627777 else a * b
def signI (n : Int) (neg : Bool) : Int := if 1099511627776 < n then (if neg = true then -1099511627776 else 1099511627776) else if neg = true then -n else n
def mulI (a b : Int) : Int := signI (timesU (sizeU a) (sizeU b)) (!(decide (a < 0) == decide (b < 0)))
def binN (k a b : Int) : Int := if k = 11 then satI (a + b) else if k = 12 then satI (a - b) else mulI a b
mutual
/-- all nodes are right -/
def okN : Ex → Prop
  | .mk k n m s v q ks => nodeE (.mk k n m s v q ks) = 0 ∧ okNL ks
def okNL : List Ex → Prop
  | [] => True
  | e :: es => okN e ∧ okNL es
end
theorem okN_iff (e : Ex) : okN e ↔ nodeE e = 0 ∧ okNL e.kids := by cases e; rw [okN]; rfl
theorem okNL_iff : ∀ (l : List Ex), okNL l ↔ ∀ e ∈ l, okN e
  | [] => by rw [okNL]; simp
  | e :: l => by rw [okNL, okNL_iff l]; simp
mutual
def depE : Ex → Int
  | .mk _ _ _ _ _ _ ks => 1 + depL ks
def depL : List Ex → Int
  | [] => 0
  | e :: es => if depE e < depL es then depL es else depE e
end
theorem depE_eq (e : Ex) : depE e = 1 + depL e.kids := by cases e; rw [depE]; rfl
theorem depL_nn : ∀ l : List Ex, 0 ≤ depL l
  | [] => by rw [depL]; exact Int.le_refl 0
  | e :: l => by
    have := depL_nn l
    have h2 : 1 ≤ depE e ∨ depE e < depL l ∨ True := .inr (.inr trivial)
    rw [depL]
    split
    · exact this
    · omega
theorem depE_pos (e : Ex) : 1 ≤ depE e := by rw [depE_eq]; have := depL_nn e.kids; omega
mutual
theorem chk_iff : ∀ (e : Ex) (l c : Int), c ≤ 200 → l ≤ 25 → ((chkE e l c).2 = 0 ↔ okN e ∧ l - 1 + depE e ≤ 24 ∧ c + sizeE e ≤ 200) ∧ ((chkE e l c).2 = 0 → (chkE e l c).1 = c + sizeE e)
  | .mk a n m s v q ks, l, c, hc, hl => by
    have hd := depL_nn ks
    rw [chkE, okN, depE, sizeE]
    by_cases h1 : 24 < l
    · rw [if_pos h1]
      exact ⟨⟨fun h => (by cases h), fun h => (by have := h.2.1; omega)⟩, fun h => (by cases h)⟩
    rw [if_neg h1]
    by_cases h2 : 200 < c + 1
    · rw [if_pos h2]
      exact ⟨⟨fun h => (by cases h), fun h => (by have := h.2.2; omega)⟩, fun h => (by cases h)⟩
    rw [if_neg h2]
    by_cases h3 : nodeE (.mk a n m s v q ks) ≠ 0
    · rw [if_pos h3]
      exact ⟨⟨fun h => absurd h h3, fun h => absurd h.1.1 h3⟩, fun h => absurd h h3⟩
    rw [if_neg h3]
    obtain ⟨i1, i2⟩ := chk_iffL ks (l + 1) (c + 1) (by omega) (by omega)
    refine ⟨⟨fun h => ?_, fun h => ?_⟩, fun h => ?_⟩
    · obtain ⟨j1, j2, j3⟩ := i1.1 h
      exact ⟨⟨by simpa using h3, j1⟩, by omega, by omega⟩
    · exact i1.2 ⟨h.1.2, by have := h.2.1; omega, by have := h.2.2; omega⟩
    · rw [i2 h]; omega
theorem chk_iffL : ∀ (ks : List Ex) (l c : Int), c ≤ 200 → l ≤ 25 → ((chkL ks l c).2 = 0 ↔ okNL ks ∧ l - 1 + depL ks ≤ 24 ∧ c + sizeL ks ≤ 200) ∧ ((chkL ks l c).2 = 0 → (chkL ks l c).1 = c + sizeL ks)
  | [], l, c, hc, hl => by
    rw [chkL, okNL, depL, sizeL]
    exact ⟨⟨fun _ => ⟨trivial, by omega, by omega⟩, fun _ => rfl⟩, fun _ => by simp⟩
  | e :: es, l, c, hc, hl => by
    obtain ⟨i1, i2⟩ := chk_iff e l c hc hl
    rw [chkL, okNL, depL, sizeL]
    by_cases h : (chkE e l c).2 ≠ 0
    · rw [if_pos h]
      refine ⟨⟨fun h2 => absurd h2 h, fun h2 => absurd (i1.2 ⟨h2.1.1, ?_, by have := h2.2.2; omega⟩) h⟩, fun h2 => absurd h2 h⟩
      have := h2.2.1
      split at this <;> omega
    · have h0 : (chkE e l c).2 = 0 := by simpa using h
      rw [if_neg h]
      obtain ⟨g1, g2, g3⟩ := i1.1 h0
      have hcnt := i2 h0
      obtain ⟨k1, k2⟩ := chk_iffL es l (chkE e l c).1 (by omega) hl
      refine ⟨⟨fun h2 => ?_, fun h2 => ?_⟩, fun h2 => ?_⟩
      · obtain ⟨j1, j2, j3⟩ := k1.1 h2
        refine ⟨⟨g1, j1⟩, ?_, by omega⟩
        split <;> omega
      · refine k1.2 ⟨h2.1.2, ?_, by have := h2.2.2; omega⟩
        have := h2.2.1
        split at this <;> omega
      · rw [k2 h2, hcnt]; omega
end
theorem exE_iff (e : Ex) : exE e = 0 ↔ okN e ∧ depE e ≤ 24 ∧ (sizeE e : Int) ≤ 200 := by
  have := (chk_iff e 1 0 (by omega) (by omega)).1
  unfold exE
  rw [this]
  constructor
  · rintro ⟨a, b, c⟩; exact ⟨a, by omega, by omega⟩
  · rintro ⟨a, b, c⟩; exact ⟨a, by omega, by omega⟩
theorem litX_ok (b : Bool) : nodeE (litX b) = 0 := by cases b <;> rfl
theorem litX_okN (b : Bool) : okN (litX b) := (okN_iff _).2 ⟨litX_ok b, by rw [show (litX b).kids = [] from rfl, okNL]; trivial⟩
theorem litX_dep (b : Bool) : depE (litX b) = 1 := by rw [depE_eq, show (litX b).kids = [] from rfl, depL]; rfl
theorem litX_size (b : Bool) : sizeE (litX b) = 1 := by rw [sizeE_eq, show (litX b).kids = [] from rfl, sizeL]
theorem litX_kind (s : Sco) (b : Bool) : kindE s (litX b) = (1, 0) := by rw [kindE_leaf rfl]; rfl
theorem satI_in (n : Int) : inRange (satI n) = true := by
  unfold satI inRange
  simp only [Bool.and_eq_true, decide_eq_true_eq]
  omega
theorem mulI_in (a b : Int) : inRange (mulI a b) = true := by
  have hn : 0 ≤ timesU (sizeU a) (sizeU b) := by
    have h1 : 0 ≤ sizeU a := by unfold sizeU; split <;> omega
    have h2 : 0 ≤ sizeU b := by unfold sizeU; split <;> omega
    unfold timesU
    split
    · omega
    · exact Int.mul_nonneg h1 h2
  unfold mulI signI inRange
  (repeat' split) <;> simp <;> omega
theorem binN_in (k a b : Int) : inRange (binN k a b) = true := by
  unfold binN
  split
  · exact satI_in _
  · split
    · exact satI_in _
    · exact mulI_in a b
structure Keeps (s : Sco) (e x : Ex) : Prop where
  ok : okN x
  dep : depE x ≤ depE e
  size : sizeE x ≤ sizeE e
  kind : (kindE s e).2 = 0 → kindE s x = kindE s e
theorem Keeps.refl {s : Sco} {e : Ex} (h : okN e) : Keeps s e e := ⟨h, Int.le_refl _, Nat.le_refl _, fun _ => rfl⟩
theorem Keeps.lit {s : Sco} {e : Ex} {b : Bool} (h : (kindE s e).2 = 0 → kindE s e = (1, 0)) : Keeps s e (litX b) :=
  ⟨litX_okN b, by rw [litX_dep]; exact depE_pos e, by rw [litX_size, sizeE_eq]; omega, fun hk => by rw [litX_kind, h hk]⟩
theorem nodeE_kidsB {e : Ex} (h : nodeE e = 0) : kidsB e.kind e.kids.length = true := (nodeE_ok h).2
end Go.Abs

namespace Go.Abs
theorem getD_getElem {α : Type} (l : List α) {i : Nat} (d : α) (h : i < l.length) : l.getD i d = l[i] := by simp [List.getD, h]
end Go.Abs

namespace Go.Abs
variable [Globals]
structure Scene where
  name : ByteArray
  items : List Item
  deriving Inhabited, DecidableEq
structure Cause where
  kind : Int
  name : ByteArray
  prio : Int
  deriving Inhabited, DecidableEq
structure Write where
  key : Key
  value : Val
  cause : Cause
  order : Int
  deriving Inhabited, DecidableEq
theorem firstI_cases {n : Nat} {p : Nat → Bool} : (firstI n p < n ∧ p (firstI n p) = true ∧ ∀ j, j < firstI n p → p j = false) ∨ (firstI n p = n ∧ ∀ j, j < n → p j = false) := by
  unfold firstI
  split
  · rename_i i e
    rw [List.find?_range_eq_some] at e
    exact .inl ⟨by simpa using e.2.1, e.1, fun j hj => by simpa using e.2.2 j hj⟩
  · rename_i e
    rw [List.find?_eq_none] at e
    exact .inr ⟨rfl, fun j hj => by simpa using e j (by simpa using hj)⟩
def findI (l : List Item) (q : Key) : Option Item := l.find? fun x => decide (x.key = q)
end Go.Abs

namespace Go.Abs
variable [Globals]
structure Spn where
  fr : Int
  to : Int
  deriving Inhabited, DecidableEq
structure Mem where
  name : ByteArray
  role : Int
  spans : List Spn
  rooms : List ByteArray
  home : Bool
  deriving Inhabited, DecidableEq
structure Vw where
  items : List Item
  mode : ByteArray
  minute : Int
  members : List Mem
  deriving Inhabited
def cSpn (s : Spn) : List PV := [vint s.fr, vint s.to]
def cMem (m : Mem) : List PV := [vstr m.name, vint m.role, roL 2 cSpn m.spans, roL 1 cstr m.rooms, vbool m.home]
def cVw (v : Vw) : List PV := [roL 7 cItem v.items, vstr v.mode, vint v.minute, roL 5 cMem v.members]
def smallV2 (v : Vw) : Prop := smallL v.items ∧ smallL v.members
def truV (b : Bool) : Val := ⟨1, if b = true then 1 else 0, ⟨#[]⟩⟩
theorem truV_val (b : Bool) : valE (truV b) = 0 := by cases b <;> rfl
def itV (v : Val) : Val := if valE v ≠ 0 then noVal else v
def atV (l : List Item) (k : Key) : Val := match findI l k with | some x => itV x.value | none => noVal
def within (t a b : Int) : Bool := if a < b then decide (a ≤ t) && decide (t < b) else decide (a = b) || (decide (a ≤ t) || decide (t < b))
def isHome (m : Mem) (role : Int) : Bool := m.home && (decide (role = 0) || decide (m.role = role))
def homeB (l : List Mem) (role : Int) : Bool := l.any fun m => isHome m role
def ofDay (m : Int) : Int := (clampI m 0 1073741824).tmod 1440
def weekday (m : Int) : Int := ((clampI m 0 1073741824).tdiv 1440 + 5).tmod 7
def dayB (n w : Int) : Bool := decide ((n.fdiv (2 ^ min w.toNat 64)).tmod 2 = 1)
def chainV (l : List Val) (d : Bool) : Val := if (l.any fun x => decide (x = truV d)) = true then truV d else if (l.all fun x => decide (x.kind = 1)) = true then truV (!d) else noVal
def intV (k : Int) (a b : Val) : Val := if a.kind ≠ 2 ∨ b.kind ≠ 2 then noVal else if k = 10 then truV (decide (a.n < b.n)) else ⟨2, binN k a.n b.n, ⟨#[]⟩⟩
def nodV (v : Vw) (k n m : Int) (nm : ByteArray) (x : Val) (q : Key) (l : List Val) : Val :=
  if k = 1 then x else if k = 2 then atV v.items q else if k = 3 then truV (decide (v.mode = nm))
  else if k = 4 ∨ k = 5 then (if v.minute < 0 then noVal else if k = 4 then truV (within (ofDay v.minute) n m) else truV (dayB n (weekday v.minute)))
  else if k = 15 then truV (homeB v.members n)
  else if k = 6 then (if (l.getD 0 default).kind ≠ 1 then noVal else truV (decide ((l.getD 0 default).n = 0)))
  else if k = 7 then chainV l false else if k = 8 then chainV l true
  else if k = 9 then (if (l.getD 0 default).kind = 0 ∨ (l.getD 1 default).kind = 0 then noVal else truV (decide (l.getD 0 default = l.getD 1 default)))
  else if k = 14 then (if (l.getD 0 default).kind ≠ 1 then noVal else l.getD (2 - (l.getD 0 default).n).toNat default)
  else intV k (l.getD 0 default) (l.getD 1 default)
mutual
/-- homehubref32.node -/
def evR (v : Vw) : Ex → Val
  | .mk k n m nm x q ks => nodV v k n m nm x q (evL v ks)
def evL (v : Vw) : List Ex → List Val
  | [] => []
  | e :: es => evR v e :: evL v es
end
theorem evR_eq (v : Vw) (e : Ex) : evR v e = nodV v e.kind e.n e.m e.name e.value e.key (evL v e.kids) := by cases e; rw [evR]; rfl
theorem evL_length (v : Vw) : ∀ l : List Ex, (evL v l).length = l.length
  | [] => by rw [evL]; rfl
  | e :: l => by rw [evL, List.length_cons, List.length_cons, evL_length v l]
theorem evL_getD (v : Vw) : ∀ (l : List Ex) (i : Nat), i < l.length → (evL v l).getD i default = evR v (l.getD i default)
  | e :: l, 0, _ => by rw [evL]; rfl
  | e :: l, i + 1, h => by rw [evL, List.getD_cons_succ, List.getD_cons_succ]; exact evL_getD v l i (by simpa using h)
theorem valE_bool {v : Val} (h : valE v = 0) (hk : v.kind = 1) : v = truV true ∨ v = truV false := by
  obtain ⟨k, n, s⟩ := v
  simp only at hk
  subst hk
  unfold valE at h
  dsimp only at h
  rw [if_neg (by omega)] at h
  by_cases h1 : n = 0 ∨ n = 1
  · have h2 : s = ⟨#[]⟩ := by
      by_cases h3 : s = ⟨#[]⟩
      · exact h3
      · exfalso
        split at h
        · cases h
        · split at h
          · cases h
          · rw [if_pos ⟨h3, by omega⟩] at h; cases h
    subst h2
    rcases h1 with rfl | rfl
    · exact .inr rfl
    · exact .inl rfl
  · exfalso
    rw [if_pos (by right; left; exact ⟨rfl, fun e => h1 (.inl e), fun e => h1 (.inr e)⟩)] at h
    cases h
theorem valE_small {v : Val} (h : valE v = 0) (hk : v.kind = 2) : -1099511627776 ≤ v.n ∧ v.n ≤ 1099511627776 := by
  unfold valE at h
  by_cases h1 : inRange v.n = true
  · simpa [inRange] using h1
  · exfalso
    rw [if_neg (by omega), if_pos (by right; right; left; exact ⟨hk, by simpa using h1⟩)] at h
    cases h
theorem valE_int {n : Int} (h : inRange n = true) : valE ⟨2, n, ⟨#[]⟩⟩ = 0 := by
  simp only [valE, h]
  rfl
theorem itV_val (v : Val) : valE (itV v) = 0 := by
  unfold itV
  split
  · rfl
  · rename_i h; simpa using h
theorem chainV_val (l : List Val) (d : Bool) : valE (chainV l d) = 0 := by
  unfold chainV
  split
  · exact truV_val _
  · split
    · exact truV_val _
    · rfl
theorem nodeE_lit {e : Ex} (h : nodeE e = 0) (hk : e.kind = 1) : valE e.value = 0 ∧ e.value.kind ≠ 0 := by
  unfold nodeE at h
  rw [if_neg (by omega)] at h
  split at h
  · cases h
  · split at h
    · cases h
    · rw [if_neg (by omega), if_neg (by omega)] at h
      try rw [if_pos hk] at h
      split at h
      · rename_i h1; exact absurd h h1
      · rename_i h1
        split at h
        · cases h
        · rename_i h2; exact ⟨by simpa using h1, h2⟩
theorem okN_kids {e : Ex} (h : okN e) : kidsB e.kind e.kids.length = true := nodeE_kidsB ((okN_iff e).1 h).1
theorem evR_val (v : Vw) : ∀ (n : Nat) (e : Ex), SizeOf.sizeOf e ≤ n → okN e → valE (evR v e) = 0 := by
  intro n
  induction n with
  | zero => intro e hn; cases e; simp only [Ex.mk.sizeOf_spec] at hn; omega
  | succ n ih =>
    intro e hn he
    have hk : ∀ i, i < e.kids.length → valE ((evL v e.kids).getD i default) = 0 := fun i hi => by
      rw [evL_getD v e.kids i hi]
      exact ih _ (by have := Ex.kid_lt (Ex.kid_at hi); omega) ((okNL_iff _).1 ((okN_iff e).1 he).2 _ (Ex.kid_at hi))
    have hb := okN_kids he
    rw [evR_eq]
    unfold nodV
    clear ih
    have two : ∀ (c : Prop) [Decidable c] (a b : Val), (c → valE a = 0) → (¬ c → valE b = 0) → valE (if c then a else b) = 0 := fun c _ a b h1 h2 => by
      by_cases h : c
      · rw [if_pos h]; exact h1 h
      · rw [if_neg h]; exact h2 h
    refine two _ _ _ (fun h => (nodeE_lit ((okN_iff e).1 he).1 h).1) fun _ => ?_
    refine two _ _ _ (fun _ => ?_) fun _ => ?_
    · unfold atV
      cases findI v.items e.key with
      | none => rfl
      | some x => exact itV_val _
    refine two _ _ _ (fun _ => truV_val _) fun _ => ?_
    refine two _ _ _ (fun _ => two _ _ _ (fun _ => rfl) fun _ => two _ _ _ (fun _ => truV_val _) fun _ => truV_val _) fun _ => ?_
    refine two _ _ _ (fun _ => truV_val _) fun _ => ?_
    refine two _ _ _ (fun _ => two _ _ _ (fun _ => rfl) fun _ => truV_val _) fun _ => ?_
    refine two _ _ _ (fun _ => chainV_val _ _) fun _ => ?_
    refine two _ _ _ (fun _ => chainV_val _ _) fun _ => ?_
    refine two _ _ _ (fun _ => two _ _ _ (fun _ => rfl) fun _ => truV_val _) fun _ => ?_
    refine two _ _ _ (fun h14 => two _ _ _ (fun _ => rfl) fun h => ?_) fun _ => ?_
    · have h3 : e.kids.length = 3 := by
        rw [h14] at hb
        unfold kidsB at hb
        rw [if_neg (by omega), if_neg (by omega), if_neg (by omega), if_pos rfl] at hb
        have := of_decide_eq_true hb
        omega
      have h0 := valE_bool (hk 0 (by omega)) (Classical.not_not.1 h)
      rcases h0 with h0 | h0
      · rw [h0]; exact hk 1 (by omega)
      · rw [h0]; exact hk 2 (by omega)
    · unfold intV
      exact two _ _ _ (fun _ => rfl) fun _ => two _ _ _ (fun _ => truV_val _) fun _ => valE_int (binN_in _ _ _)
theorem evR_ok (v : Vw) {e : Ex} (h : okN e) : valE (evR v e) = 0 := evR_val v _ e (Nat.le_refl _) h
def fndV (x : Val) : Val × Bool := if x.kind = 0 then (noVal, false) else (x, true)
def evlE (v : Vw) (e : Ex) : Val × Bool := if exE e ≠ 0 then (noVal, false) else fndV (evR v e)
def truE (v : Vw) (e : Ex) : Bool := (evlE v e).2 && decide ((evlE v e).1 = truV true)
def unkE (v : Vw) (e : Ex) : Bool := !(evlE v e).2
end Go.Abs

namespace Go.Abs
def AscS (l : List ByteArray) : Prop := l.Pairwise fun a b => sLt a b = true
theorem ascS_ext : ∀ {l k : List ByteArray}, AscS l → AscS k → (∀ x, x ∈ l ↔ x ∈ k) → l = k
  | [], [], _, _, _ => rfl
  | [], b :: k, _, _, h => by have := (h b).2 (by simp); simp at this
  | a :: l, [], _, _, h => by have := (h a).1 (by simp); simp at this
  | a :: l, b :: k, hl, hk, h => by
    obtain ⟨hl1, hl2⟩ := List.pairwise_cons.1 hl
    obtain ⟨hk1, hk2⟩ := List.pairwise_cons.1 hk
    have e : a = b := by
      have h1 := (h a).1 (by simp)
      have h2 := (h b).2 (by simp)
      rcases List.mem_cons.1 h1 with e | h1
      · exact e
      · rcases List.mem_cons.1 h2 with e | h2
        · exact e.symm
        · have := sLt_asymm (hl1 b h2)
          rw [hk1 a h1] at this; cases this
    subst e
    congr 1
    refine ascS_ext hl2 hk2 fun x => ⟨fun hx => ?_, fun hx => ?_⟩
    · rcases List.mem_cons.1 ((h x).1 (by simp [hx])) with e | h1
      · subst e; have := hl1 x hx; rw [sLt_irrefl] at this; cases this
      · exact h1
    · rcases List.mem_cons.1 ((h x).2 (by simp [hx])) with e | h1
      · subst e; have := hk1 x hx; rw [sLt_irrefl] at this; cases this
      · exact h1
def putS : List ByteArray → ByteArray → List ByteArray
  | [], k => [k]
  | x :: r, k => if sLt x k = true then x :: putS r k else k :: (x :: r).filter fun y => decide (y ≠ k)
theorem mem_putS {l : List ByteArray} {k x : ByteArray} : x ∈ putS l k ↔ x = k ∨ x ∈ l := by
  induction l with
  | nil => simp [putS]
  | cons y r ih =>
    unfold putS
    split
    · simp only [List.mem_cons, ih]
      constructor
      · rintro (h | h | h)
        · exact .inr (.inl h)
        · exact .inl h
        · exact .inr (.inr h)
      · rintro (h | h | h)
        · exact .inr (.inl h)
        · exact .inl h
        · exact .inr (.inr h)
    · simp only [List.mem_cons, List.mem_filter, decide_eq_true_eq]
      constructor
      · rintro (h | ⟨h, _⟩)
        · exact .inl h
        · exact .inr h
      · rintro (h | h)
        · exact .inl h
        · by_cases e : x = k
          · exact .inl e
          · exact .inr ⟨h, e⟩
theorem ascS_putS {l : List ByteArray} {k : ByteArray} (h : AscS l) : AscS (putS l k) := by
  induction l with
  | nil => simp [putS, AscS]
  | cons y r ih =>
    obtain ⟨h1, h2⟩ := List.pairwise_cons.1 h
    unfold putS
    split
    · rename_i hy
      refine List.pairwise_cons.2 ⟨fun x hx => ?_, ih h2⟩
      rcases mem_putS.1 hx with rfl | hx
      · exact hy
      · exact h1 x hx
    · rename_i hy
      refine List.pairwise_cons.2 ⟨fun x hx => ?_, h.sublist (List.filter_sublist)⟩
      rw [List.mem_filter, decide_eq_true_eq] at hx
      obtain ⟨hx, hne⟩ := hx
      rcases List.mem_cons.1 hx with rfl | hx
      · exact (sLt_total hne).resolve_left hy
      · have h3 := h1 x hx
        rcases sLt_total hne with h4 | h4
        · exact absurd (sLt_trans h3 h4) hy
        · exact h4
def sortS (l : List ByteArray) : List ByteArray := l.foldl putS []
theorem foldl_putS_mem {l acc : List ByteArray} {x : ByteArray} : x ∈ l.foldl putS acc ↔ x ∈ acc ∨ x ∈ l := by
  induction l generalizing acc with
  | nil => simp
  | cons y r ih =>
    simp only [List.foldl_cons, ih, mem_putS, List.mem_cons]
    constructor
    · rintro ((h | h) | h)
      · exact .inr (.inl h)
      · exact .inl h
      · exact .inr (.inr h)
    · rintro (h | h | h)
      · exact .inl (.inr h)
      · exact .inl (.inl h)
      · exact .inr h
theorem foldl_putS_asc {l acc : List ByteArray} (h : AscS acc) : AscS (l.foldl putS acc) := by
  induction l generalizing acc with
  | nil => exact h
  | cons y r ih => exact ih (ascS_putS h)
theorem mem_sortS {l : List ByteArray} {x : ByteArray} : x ∈ sortS l ↔ x ∈ l := by unfold sortS; rw [foldl_putS_mem]; simp
theorem ascS_sortS (l : List ByteArray) : AscS (sortS l) := foldl_putS_asc List.Pairwise.nil
theorem sortS_congr {l k : List ByteArray} (h : ∀ x, x ∈ l ↔ x ∈ k) : sortS l = sortS k := ascS_ext (ascS_sortS l) (ascS_sortS k) fun x => by rw [mem_sortS, mem_sortS, h]
def compToS (l : List ByteArray) : Nat → List ByteArray
  | 0 => []
  | m + 1 => if m = 0 ∨ l.getD m default ≠ l.getD (m - 1) default then compToS l m ++ [l.getD m default] else compToS l m
theorem compToS_take {l : List ByteArray} : ∀ {m : Nat}, m ≤ l.length → (∀ j, 1 ≤ j → j < m → l.getD j default ≠ l.getD (j - 1) default) → compToS l m = l.take m
  | 0, _, _ => by simp [compToS]
  | m + 1, hm, h => by
    have ih := compToS_take (l := l) (m := m) (by omega) (fun j h1 h2 => h j h1 (by omega))
    unfold compToS
    rw [if_pos, ih, take_succ_getD (by omega)]
    by_cases e : m = 0
    · exact .inl e
    · exact .inr (h m (by omega) (by omega))
def OrdS (l : List ByteArray) : Prop := ∀ i j, i < j → j < l.length → sLt (l.getD j default) (l.getD i default) = false
theorem compToS_spec {s : List ByteArray} (hs : OrdS s) : ∀ m, m ≤ s.length → AscS (compToS s m) ∧ ∀ x, x ∈ compToS s m ↔ ∃ i, i < m ∧ s.getD i default = x
  | 0, _ => ⟨List.Pairwise.nil, fun x => by simp [compToS]⟩
  | m + 1, hm => by
    obtain ⟨h1, h2⟩ := compToS_spec hs m (by omega)
    unfold compToS
    split
    · rename_i hne
      refine ⟨List.pairwise_append.2 ⟨h1, by simp, fun a ha b hb => ?_⟩, fun x => ?_⟩
      · simp only [List.mem_singleton] at hb
        subst hb
        obtain ⟨i, hi, rfl⟩ := (h2 a).1 ha
        have hle := hs i m hi (by omega)
        by_cases e : s.getD i default = s.getD m default
        · exfalso
          have hne := hne.resolve_left (by omega)
          have h3 := hs (m - 1) m (by omega) (by omega)
          have h4 : sLt (s.getD (m - 1) default) (s.getD m default) = false := by
            by_cases ei : i = m - 1
            · subst ei; rw [e]; exact sLt_irrefl _
            · rw [← e]; exact hs i (m - 1) (by omega) (by omega)
          rcases sLt_total hne with h5 | h5
          · rw [h5] at h3; cases h3
          · rw [h5] at h4; cases h4
        · rcases sLt_total e with h5 | h5
          · exact h5
          · rw [h5] at hle; cases hle
      · rw [List.mem_append, h2, List.mem_singleton]
        constructor
        · rintro (⟨i, hi, e⟩ | e)
          · exact ⟨i, by omega, e⟩
          · exact ⟨m, by omega, e.symm⟩
        · rintro ⟨i, hi, e⟩
          by_cases ei : i = m
          · subst ei; exact .inr e.symm
          · exact .inl ⟨i, by omega, e⟩
    · rename_i hne
      have hne := not_or.1 hne
      have heq := Classical.not_not.1 hne.2
      refine ⟨h1, fun x => ?_⟩
      rw [h2]
      constructor
      · rintro ⟨i, hi, e⟩; exact ⟨i, by omega, e⟩
      · rintro ⟨i, hi, e⟩
        by_cases ei : i = m
        · subst ei; exact ⟨i - 1, by omega, by rw [← heq]; exact e⟩
        · exact ⟨i, by omega, e⟩
def sortedS (l : List ByteArray) : List ByteArray := l.mergeSort fun x y => !sLt y x
theorem sortedS_ord (l : List ByteArray) : OrdS (sortedS l) := by
  have hp := List.pairwise_mergeSort (le := fun x y : ByteArray => !sLt y x) (fun a b c h1 h2 => by
    simp only [Bool.not_eq_true'] at *
    cases h3 : sLt c a with
    | false => rfl
    | true =>
      exfalso
      by_cases e : a = b
      · subst e; rw [h3] at h2; cases h2
      · rcases sLt_total e with h4 | h4
        · have := sLt_trans h3 h4; rw [this] at h2; cases h2
        · rw [h4] at h1; cases h1) (fun a b => by
    simp only [Bool.or_eq_true, Bool.not_eq_true']
    cases h : sLt b a with
    | false => exact .inl rfl
    | true => exact .inr (sLt_asymm h)) l
  intro i j hij hj
  have hj' : j < (l.mergeSort fun x y => !sLt y x).length := hj
  have := List.pairwise_iff_getElem.1 hp i j (by omega) hj' hij
  simp only [Bool.not_eq_true'] at this
  unfold sortedS
  rw [getD_getElem _ _ hj', getD_getElem _ _ (show i < (l.mergeSort fun x y => !sLt y x).length from by omega)]
  exact this
theorem sortedS_length (l : List ByteArray) : (sortedS l).length = l.length := List.length_mergeSort _
theorem compS_sorted (l : List ByteArray) : compToS (sortedS l) l.length = sortS l := by
  obtain ⟨h1, h2⟩ := compToS_spec (sortedS_ord l) l.length (by rw [sortedS_length]; exact Nat.le_refl _)
  refine ascS_ext h1 (ascS_sortS l) fun x => ?_
  rw [h2, mem_sortS, ← List.mem_mergeSort (le := fun x y => !sLt y x)]
  show _ ↔ x ∈ sortedS l
  rw [List.mem_iff_getElem]
  constructor
  · rintro ⟨i, hi, e⟩
    exact ⟨i, by rw [sortedS_length]; exact hi, by simpa [List.getD, show i < (sortedS l).length from by rw [sortedS_length]; exact hi] using e⟩
  · rintro ⟨i, hi, e⟩
    exact ⟨i, by rwa [sortedS_length] at hi, by simp [List.getD, hi, e]⟩
theorem sortedS_asc {l : List ByteArray} (h : l.Nodup) : sortedS l = sortS l := by
  have hn : (sortedS l).Nodup := (List.mergeSort_perm l _).nodup_iff.2 h
  rw [← compS_sorted l, compToS_take (by rw [sortedS_length]; exact Nat.le_refl _), ← sortedS_length l, List.take_length]
  intro j h1 h2
  have h3 : j < (sortedS l).length := by rw [sortedS_length]; exact h2
  intro e
  have h5 : j - 1 < (sortedS l).length := by omega
  rw [getD_getElem _ _ h3, getD_getElem _ _ h5] at e
  have := List.pairwise_iff_getElem.1 hn (j - 1) j h5 h3 (by omega)
  exact this e.symm
theorem idxOf_in {l : List ByteArray} {x : ByteArray} : 0 ≤ idxOf l x ↔ x ∈ l := by
  unfold idxOf
  cases hf : l.findIdx? (· = x) with
  | none =>
    rw [List.findIdx?_eq_none_iff] at hf
    refine ⟨fun h => absurd h (by simp), fun h => absurd (hf x h) (by simp)⟩
  | some i =>
    obtain ⟨hi, h, _⟩ := List.findIdx?_eq_some_iff_getElem.1 hf
    refine ⟨fun _ => ?_, fun _ => by simp⟩
    have : l[i] = x := by simpa using h
    exact this ▸ List.getElem_mem hi
def memS (l : List ByteArray) (x : ByteArray) : Bool := decide (0 ≤ idxOf l x)
theorem memS_iff {l : List ByteArray} {x : ByteArray} : memS l x = true ↔ x ∈ l := by unfold memS; rw [decide_eq_true_eq, idxOf_in]
theorem nodup_sub_lengthS {l : List ByteArray} : ∀ {m : List ByteArray}, l.Nodup → (∀ x ∈ l, x ∈ m) → l.length ≤ m.length := by
  induction l with
  | nil => intro m _ _; simp
  | cons a l ih =>
    intro m hn hs
    obtain ⟨h1, h2⟩ := List.nodup_cons.1 hn
    have ha : a ∈ m := hs a (by simp)
    have h3 := ih (m := m.filter fun y => decide (y ≠ a)) h2 (fun x hx => List.mem_filter.2 ⟨hs x (by simp [hx]), decide_eq_true fun e => h1 (by rw [← e]; exact hx)⟩)
    have h4 : (m.filter fun y => decide (y ≠ a)).length < m.length := List.length_filter_lt_length_iff_exists.2 ⟨a, ha, by simp⟩
    simp only [List.length_cons]; omega
end Go.Abs

namespace Go.Abs
open Go.Proofs
set_option maxRecDepth 10000
def nameLook (l : List ByteArray) (k : Nat) : Value → Option PV
  | .string s => if memN l k s = true then some (.val (.bool true)) else none
  | _ => none
theorem memN_succ {l : List ByteArray} {k : Nat} {s : ByteArray} : memN l (k + 1) s = (memN l k s || decide (l.getD k default = s)) := by
  unfold memN
  rw [List.range_succ, List.any_append]
  simp only [List.any_cons, List.any_nil, Bool.or_false]
theorem memN_idx {l : List ByteArray} {k : Nat} (hk : k < l.length) : (idxOf l (l.getD k default) < k) ↔ memN l k (l.getD k default) = true := by
  constructor
  · intro h
    rw [← Bool.not_eq_false]
    intro h2
    have : idxOf l (l.getD k default) = k := idxOf_some hk rfl fun j hj e => by rw [memN_true hj e] at h2; cases h2
    omega
  · intro h
    simp only [memN, List.any_eq_true, List.mem_range, decide_eq_true_eq] at h
    obtain ⟨j, hj, e⟩ := h
    have := exists_least (fun i => i < l.length ∧ l.getD i default = l.getD k default) ⟨j, by omega, e⟩
    obtain ⟨m, ⟨hm, hm2⟩, hmin⟩ := this
    have hle := hmin j ⟨by omega, e⟩
    have : idxOf l (l.getD k default) = m := idxOf_some hm hm2 fun i hi e2 => by
      have := hmin i ⟨by omega, e2⟩; omega
    omega
theorem ac_typing_words (l : List ByteArray) (hl : smallL l) : AC Tryz.prog 60 [.pv (roL 1 cstr l)] [] (.pv (vint (wordsE l))) [] := by
  have hl2 : l.length ≤ 1048576 := hl
  refine AC.of_awp (T := T) T_ok hm Tryz.call60 Tryz.func60 rfl rfl rfl ?_
  conv => whnf
  refine loop_k (ι := Nat) [7, 8] [] (fun k => k ≤ l.length ∧ ∀ j, j < k → (if validName (l.getD j default) = false then (10 : Int) else if idxOf l (l.getD j default) < j then 9 else 0) = 0) (fun k => l.length - k) 0 (fun k => [(3, .ref 6), (9, .pv (vint k))]) (fun k => [(6, .map (.one .str) (nameLook l k))]) [] ⟨Nat.zero_le _, fun j h => absurd h (by omega)⟩ ?_ (fun k hk => ?_)
  · (repeat' (first | exact PSub.rfl | exact rfl | exact PSubs.rfl | exact trivial | exact PSub.lit_sb rfl | refine And.intro ?_ ?_)); all_goals (rintro _ ⟨s, rfl⟩; simp [nameLook, memN])
  obtain ⟨hkn, hinv⟩ := hk
  conv => whnf
  repeat (any_goals (first
    | (refine ⟨fun (h : (_ : Bool) = true) => ?_, fun (h : (_ : Bool) = false) => ?_⟩ <;> (try simp only [decide_eq_true_eq, decide_eq_false_iff_not, Bool.not_eq_true', Bool.not_eq_false', Int.toNat_natCast, beq_iff_eq, decide_eq_decide, beq_eq_false_iff_ne, ne_eq, reduceCtorEq] at h) <;> (conv => whnf))
    | (refine .inl ⟨_, ac_names_Valid (l.getD k default), ?_⟩; conv => whnf)
    | (refine And.intro (by (try simp only [Int.toNat_natCast]); omega) ?_; conv => whnf)
    | (refine And.intro (show (_ : Bool) = true from by kernel_rfl) ?_; conv => whnf)
    | (refine .inl ⟨wrap64 (by omega), ?_⟩; conv => whnf)))
  · exact PSub.int (by unfold wordsE; rw [firstE_at (k := k) (by omega) (by rw [if_pos h]; decide) hinv, if_pos h])
  · have hk : k < l.length := by omega
    have hix := memN_idx hk
    refine ⟨fun p hp => ?_, fun hp => ?_⟩
    · change (if memN l k (l.getD k default) = true then some (PV.val (.bool true)) else none) = some p at hp
      by_cases hm : memN l k (l.getD k default) = true
      · rw [if_pos hm] at hp; cases hp
        conv => whnf
        exact PSub.int (by unfold wordsE; rw [firstE_at (k := k) (by omega) (by rw [if_neg (by rw [h]; decide), if_pos (hix.2 hm)]; decide) hinv, if_neg (by rw [h]; decide), if_pos (hix.2 hm)])
      · rw [if_neg hm] at hp; cases hp
    · change (if memN l k (l.getD k default) = true then some (PV.val (.bool true)) else none) = none at hp
      have hm : ¬ memN l k (l.getD k default) = true := fun h => by rw [if_pos h] at hp; cases hp
      conv => whnf
      repeat (any_goals (first
        | (refine ⟨fun (h : (_ : Bool) = true) => ?_, fun (h : (_ : Bool) = false) => ?_⟩ <;> (try simp only [decide_eq_true_eq, decide_eq_false_iff_not, Bool.not_eq_true', Bool.not_eq_false', Int.toNat_natCast, beq_iff_eq, decide_eq_decide, beq_eq_false_iff_ne, ne_eq, reduceCtorEq] at h) <;> (conv => whnf))
        | (refine And.intro (by (try simp only [Int.toNat_natCast]); omega) ?_; conv => whnf)
        | (refine And.intro (show (_ : Bool) = true from by kernel_rfl) ?_; conv => whnf)
        | (refine .inl ⟨wrap64 (by omega), ?_⟩; conv => whnf)))
      refine ⟨k + 1, [], ⟨by omega, fun j hj => ?_⟩, by first | omega | (dsimp only; omega), ?_⟩
      (repeat' (first | exact PSub.rfl | exact rfl | exact PSubs.rfl | exact trivial | exact PSub.lit_sb rfl | refine And.intro ?_ ?_))
      · by_cases e : j = k
        · subst e; rw [if_neg (by rw [h]; decide), if_neg (fun x => hm (hix.1 x))]
        · exact hinv j (by omega)
      rintro _ ⟨s, rfl⟩
      simp only [Int.toNat_natCast, lookPut, nameLook, memN_succ, Value.string.injEq]
      by_cases e : s = l.getD k default
      · rw [if_pos e, if_pos (by rw [decide_eq_true e.symm, Bool.or_true])]; rfl
      · rw [if_neg e, decide_eq_false (fun x => e x.symm), Bool.or_false]
  · exact PSub.int (by unfold wordsE; rw [firstE_none fun j hj => hinv j (by omega)])
theorem ac_typing_Check (s : Sco) (hs : smallS s) : AC Tryz.prog 36 [.pv (.agg (cSco s))] [] (.pv (vint (scoE s))) [] := by
  refine AC.of_awp (T := T) T_ok hm Tryz.call36 Tryz.func36 rfl rfl rfl ?_
  conv => whnf
  repeat (any_goals (first
    | (refine ⟨fun (h : (_ : Bool) = true) => ?_, fun (h : (_ : Bool) = false) => ?_⟩ <;> (try simp only [decide_eq_true_eq, decide_eq_false_iff_not, Bool.not_eq_true', Bool.not_eq_false', Int.toNat_natCast, beq_iff_eq, decide_eq_decide, beq_eq_false_iff_ne, ne_eq, reduceCtorEq] at h) <;> (conv => whnf))
    | (refine .inl ⟨_, ac_device_Check s.home hs.1, ?_⟩; conv => whnf)
    | (refine .inl ⟨_, ac_typing_words s.modes hs.2.1, ?_⟩; conv => whnf)
    | (refine .inl ⟨_, ac_typing_words s.scenes hs.2.2, ?_⟩; conv => whnf)
    | (refine And.intro (by (try simp only [Int.toNat_natCast]); omega) ?_; conv => whnf)
    | (refine And.intro (show (_ : Bool) = true from by kernel_rfl) ?_; conv => whnf)
    | (refine .inl ⟨wrap64 (by omega), ?_⟩; conv => whnf)))
  all_goals first
    | contradiction
    | (exfalso; omega)
    | exact PSub.rfl
    | (refine PSub.lit_sb ?_; (first | (simp [scoE, *]; done) | (simp_all [scoE]; done) | ((try simp only [scoE]); (repeat' split) <;> (try simp only [Bool.false_eq, Bool.true_eq, Bool.and_eq_false_iff, decide_eq_false_iff_not, Bool.and_eq_true, decide_eq_true_eq, decide_eq_decide]) <;> first | rfl | omega | (simp_all; done) | (simp_all; omega))))
    | (refine PSub.sb ?_; (first | (simp [scoE, *]; done) | (simp_all [scoE]; done) | ((try simp only [scoE]); (repeat' split) <;> (try simp only [Bool.false_eq, Bool.true_eq, Bool.and_eq_false_iff, decide_eq_false_iff_not, Bool.and_eq_true, decide_eq_true_eq, decide_eq_decide]) <;> first | rfl | omega | (simp_all; done) | (simp_all; omega))))
    | (refine PSub.sb_lit ?_; (first | (simp [scoE, *]; done) | (simp_all [scoE]; done) | ((try simp only [scoE]); (repeat' split) <;> (try simp only [Bool.false_eq, Bool.true_eq, Bool.and_eq_false_iff, decide_eq_false_iff_not, Bool.and_eq_true, decide_eq_true_eq, decide_eq_decide]) <;> first | rfl | omega | (simp_all; done) | (simp_all; omega))))
    | (refine PSub.int ?_; (first | (simp [scoE, *]; done) | (simp_all [scoE]; done) | ((try simp only [scoE]); (repeat' split) <;> (try simp only [Bool.false_eq, Bool.true_eq, Bool.and_eq_false_iff, decide_eq_false_iff_not, Bool.and_eq_true, decide_eq_true_eq, decide_eq_decide]) <;> first | rfl | omega | (simp_all; done) | (simp_all; omega))))
    | skip
end Go.Abs

namespace Go.Abs
variable [Globals]
structure Lck where
  name : ByteArray
  rank : Int
  cond : Ex
  latch : Bool
  force : List Item
  forbid : List Item
  deriving Inhabited
def cLck (k : Lck) : List PV := vstr k.name :: vint k.rank :: (cEx k.cond ++ [vbool k.latch, roL 7 cItem k.force, roL 7 cItem k.forbid])
def smallK2 (k : Lck) : Prop := smallL k.force ∧ smallL k.forbid ∧ sizeE k.cond ≤ 1073741824
def secN (h : Hom) (k : Int) (q : Key) : Bool := !decide (k = 3 ∨ k = 4 ∨ k = 5 ∨ k = 15) && (!decide (k = 2) || (((findA h q).getD noAttr).safety && !((findA h q).getD noAttr).writable))
mutual
/-- homehubref45.Secure -/
def secE (h : Hom) : Ex → Bool
  | .mk k _ _ _ _ q ks => secN h k q && secL h ks
def secL (h : Hom) : List Ex → Bool
  | [] => true
  | e :: es => secE h e && secL h es
end
theorem secE_eq (h : Hom) (e : Ex) : secE h e = (secN h e.kind e.key && secL h e.kids) := by cases e; rw [secE]; rfl
theorem secL_all (h : Hom) : ∀ l : List Ex, secL h l = l.all (secE h)
  | [] => by rw [secL]; rfl
  | e :: l => by rw [secL, secL_all h l, List.all_cons]
def itemE (h : Hom) (x : Item) : Int :=
  if (findA h x.key).isSome = false then 8 else if ((findA h x.key).getD noAttr).writable = false then 24
  else if fitsE ((findA h x.key).getD noAttr) x.value ≠ 0 then fitsE ((findA h x.key).getD noAttr) x.value else if x.version ≠ 0 then 2 else 0
def forceE (h : Hom) (l : List Item) (i : Nat) : Int :=
  if itemE h (l.getD i default) ≠ 0 then itemE h (l.getD i default)
  else if safeB h (l.getD i default).key = false ∨ (findD h (l.getD i default).key.dev).sleepy = true then 19
  else if anyN i (fun j => decide ((l.getD j default).key = (l.getD i default).key)) = true then 9 else 0
def forbidE (h : Hom) (l : List Item) (i : Nat) : Int :=
  if itemE h (l.getD i default) ≠ 0 then itemE h (l.getD i default)
  else if anyN i (fun j => decide ((l.getD j default).key = (l.getD i default).key) && decide ((l.getD j default).value = (l.getD i default).value)) = true then 9 else 0
def itemsE (h : Hom) (k : Lck) : Int := if firstE k.force.length (forceE h k.force) ≠ 0 then firstE k.force.length (forceE h k.force) else firstE k.forbid.length (forbidE h k.forbid)
def againstB (a b : Lck) : Bool := a.force.any fun x => b.forbid.any fun y => decide (x.key = y.key) && decide (x.value = y.value)
def otherB (a b : Lck) : Bool := a.force.any fun x => b.force.any fun y => decide (x.key = y.key) && decide (x.value ≠ y.value)
def clashB (a b : Lck) : Bool := decide (a.rank = b.rank) && (againstB a b || againstB b a || otherB a b)
def oneE (s : Sco) (l : List Lck) (i : Nat) : Int :=
  if validName (l.getD i default).name = false then 10
  else if anyN i (fun j => decide ((l.getD j default).name = (l.getD i default).name)) = true then 9
  else if (l.getD i default).rank < 0 ∨ 100 < (l.getD i default).rank then 2
  else if (exprK s (l.getD i default).cond).2 ≠ 0 then (exprK s (l.getD i default).cond).2
  else if (exprK s (l.getD i default).cond).1 ≠ 1 then 11
  else if secE s.home (l.getD i default).cond = false then 19
  else if 256 < (l.getD i default).force.length ∨ 256 < (l.getD i default).forbid.length then 3
  else if itemsE s.home (l.getD i default) ≠ 0 then itemsE s.home (l.getD i default)
  else if againstB (l.getD i default) (l.getD i default) = true then 14
  else if anyN i (fun j => clashB (l.getD j default) (l.getD i default)) = true then 14 else 0
def locksE (s : Sco) (l : List Lck) : Int := if scoE s ≠ 0 then scoE s else if 24 < l.length then 3 else firstE l.length (oneE s l)
theorem anyN_any {α : Type} [Inhabited α] {l : List α} {p : α → Bool} : (anyN l.length fun i => p (l.getD i default)) = l.any p := by
  rw [Bool.eq_iff_iff]
  constructor
  · intro h
    unfold anyN at h
    rw [List.any_eq_true] at h ⊢
    obtain ⟨i, hi, h⟩ := h
    have hi : i < l.length := by simpa using hi
    exact ⟨l[i], List.getElem_mem hi, by simpa [List.getD, hi] using h⟩
  · intro h
    rw [List.any_eq_true] at h
    obtain ⟨x, hx, h⟩ := h
    obtain ⟨i, hi, rfl⟩ := List.getElem_of_mem hx
    exact anyN_true hi (by simpa [List.getD, hi] using h)
def fstL (l : List Lck) (n : ByteArray) : Option Lck := l.find? fun k => decide (k.name = n)
def actB (v : Vw) (before : List ByteArray) (x : Lck) : Bool := truE v x.cond || (memS before x.name && (x.latch || unkE v x.cond))
def actN (l : List Lck) (v : Vw) (before : List ByteArray) (n : ByteArray) : Bool := match fstL l n with | some x => actB v before x | none => false
def actL (l : List Lck) (v : Vw) (before : List ByteArray) : List ByteArray := sortS ((l.map Lck.name).filter (actN l v before))
def resetE (l : List Lck) (v : Vw) (active : List ByteArray) (name : ByteArray) : Int :=
  match fstL l name with
  | none => 8
  | some x => if memS active name = false ∨ x.latch = false ∨ (evlE v x.cond).2 = false ∨ (evlE v x.cond).1 = truV true then 15 else 0
def restL (l : List Lck) (active : List ByteArray) (name : ByteArray) : List ByteArray := sortS (active.filter fun n => decide (n ≠ name) && (fstL l n).isSome)
def resetL (l : List Lck) (v : Vw) (active : List ByteArray) (name : ByteArray) : List ByteArray := if resetE l v active name = 0 then restL l active name else []
theorem fstL_some {l : List Lck} {n : ByteArray} {x : Lck} (h : fstL l n = some x) : x ∈ l ∧ x.name = n := ⟨List.mem_of_find?_eq_some h, by simpa using List.find?_some h⟩
theorem fstL_isSome {l : List Lck} {n : ByteArray} : (fstL l n).isSome = true ↔ n ∈ l.map Lck.name := by
  unfold fstL
  rw [List.find?_isSome]
  simp
end Go.Abs

namespace Go.Abs
open Go.Proofs Go.RowKit
set_option maxRecDepth 10000
section
variable {H : Type} {enc : TypeId × Value → H} {w : World} {bulk : DataW H → Nat}
theorem op_Lock (hB : BulkOk bulk) (hS : BulkSum bulk) : Opens enc Tryz.prog w bulk BB 45 cLck (fun _ => True) :=
  (Opens.struct hB Tryz.underlying45 (by kernel_rfl) (.cons (size := 1) rfl (by kernel_rfl) (op_string hB) (.cons (size := 1) rfl (by kernel_rfl) op_int (.cons (size := 11) rfl (by kernel_rfl) (op_Expr hB hS) (.cons (size := 1) rfl (by kernel_rfl) op_bool (.cons (size := 1) rfl (by kernel_rfl) (op_l_Item hB) (.cons (size := 1) rfl (by kernel_rfl) (op_l_Item hB) .nil))))))).imp
    (fun x => ⟨x.1, x.2.1, x.2.2.1, x.2.2.2.1, x.2.2.2.2.1, x.2.2.2.2.2.1⟩) (fun _ => rfl) (fun _ _ => trivial)
theorem op_l_Lock (hB : BulkOk bulk) (hS : BulkSum bulk) : Opens enc Tryz.prog w bulk BB 29 (fun l : List Lck => [roL 16 cLck l]) smallL :=
  (Opens.slice hB Tryz.underlying29 (by kernel_rfl) (by decide) (op_Lock hB hS)).imp id (fun _ => rfl) (fun _ h => h.1)
end
end Go.Abs

namespace Go.Proofs.YtefmohlfcnjmjaaGreat
open Go.ChangeShapes Go.WideShapes Go.ChangeAt Go.RowKit Go.Abs
theorem bulkSum {H : Type} : BulkSum (Rows.uptoBulk (H := H)) := by
  have all : ∀ l : List (DataW H), Rows.uptoBulkAll l = (l.map Rows.uptoBulk).sum := by
    intro l
    induction l with
    | nil => rfl
    | cons x r ih => simp only [Rows.uptoBulkAll, List.map_cons, List.sum_cons, ih]
  refine ⟨fun e s => ?_, fun l => ?_⟩
  · simp only [Rows.uptoBulk, all]; omega
  · simp only [Rows.uptoBulk, all]; omega
end Go.Proofs.YtefmohlfcnjmjaaGreat

namespace Go.Abs
open Go.Proofs
set_option maxRecDepth 10000
theorem firstI_lt {n : Nat} {p : Nat → Bool} (h : firstI n p < n) : p (firstI n p) = true := by
  unfold firstI at h ⊢
  cases hf : (List.range n).find? p with
  | none => rw [hf] at h; exact absurd h (Nat.lt_irrefl _)
  | some i => exact List.find?_some hf
end Go.Abs

namespace Go.Abs
open Go.Proofs
set_option maxRecDepth 10000
theorem kid_leaf {e : Ex} (h : okN e) (hk : e.kind = 2) : e.kids = [] := by
  have hb := okN_kids h
  rw [hk] at hb
  simp [kidsB] at hb
  exact hb
theorem secE_attr {H : Hom} {e : Ex} (h : okN e) (hk : e.kind = 2) : secE H e = (((findA H e.key).getD noAttr).safety && !((findA H e.key).getD noAttr).writable) := by
  rw [secE_eq, kid_leaf h hk, secL, Bool.and_true, secN, hk]
  simp
theorem secE_bad {H : Hom} {e : Ex} (hk : e.kind = 3 ∨ e.kind = 4 ∨ e.kind = 5 ∨ e.kind = 15) : secE H e = false := by
  rw [secE_eq, secN, decide_eq_true hk]; rfl
theorem secE_kids {H : Hom} {e : Ex} (h1 : ¬ (e.kind = 3 ∨ e.kind = 4 ∨ e.kind = 5 ∨ e.kind = 15)) (h2 : ¬ e.kind = 2) : secE H e = e.kids.all (secE H) := by
  rw [secE_eq, secN, decide_eq_false h1, decide_eq_false h2, secL_all]; rfl
theorem all_getD {α : Type} [Inhabited α] {l : List α} {p : α → Bool} (h : ∀ j, j < l.length → p (l.getD j default) = true) : l.all p = true := by
  rw [List.all_eq_true]
  intro x hx
  obtain ⟨i, hi, rfl⟩ := List.getElem_of_mem hx
  have := h i hi
  rwa [getD_getElem _ _ hi] at this
theorem all_getD_false {α : Type} [Inhabited α] {l : List α} {p : α → Bool} {j : Nat} (hj : j < l.length) (h : p (l.getD j default) = false) : l.all p = false := by
  rw [List.all_eq_false]
  rw [getD_getElem _ _ hj] at h
  exact ⟨_, List.getElem_mem hj, by rw [h]; decide⟩
theorem ac_interlock_hazard (H : Hom) (e : Ex) (hH : smallH H) (he : okN e) : AC Tryz.prog 63 [.pv (.agg (cHom H)), .pv (.agg (cEx e))] [] (.pv (vbool (!secE H e))) [] := by
  have hlen := nodeE_kids ((okN_iff e).1 he).1
  have ih : ∀ k, k < e.kids.length → AC Tryz.prog 63 [.pv (.agg (cHom H)), .pv (.agg (cEx (e.kids.getD k default)))] [] (.pv (vbool (!secE H (e.kids.getD k default)))) [] := fun k hk =>
    have := Ex.kid_lt (Ex.kid_at hk)
    ac_interlock_hazard H (e.kids.getD k default) hH ((okNL_iff _).1 ((okN_iff e).1 he).2 _ (Ex.kid_at hk))
  have hatt := secE_attr (H := H) he
  have hbad := secE_bad (H := H) (e := e)
  have hkid := secE_kids (H := H) (e := e)
  have hnone : (findA H e.key).isSome = false → (findA H e.key).getD noAttr = noAttr := fun h => by cases hf : findA H e.key with | none => rfl | some a => rw [hf] at h; cases h
  refine AC.ex2 ?_
  refine AC.of_awp (T := T) T_ok hm Tryz.call63 Tryz.func63 rfl rfl rfl ?_
  conv => whnf
  repeat (any_goals (first
    | (refine ⟨fun (h : (_ : Bool) = true) => ?_, fun (h : (_ : Bool) = false) => ?_⟩ <;> (try simp only [decide_eq_true_eq, decide_eq_false_iff_not, Bool.not_eq_true', Bool.not_eq_false', Int.toNat_natCast, beq_iff_eq, decide_eq_decide, beq_eq_false_iff_ne, ne_eq, reduceCtorEq] at h) <;> (conv => whnf))
    | (refine .inl ⟨_, ac_device_Find H e.key hH, ?_⟩; conv => whnf)
    | (refine And.intro (by (try simp only [Int.toNat_natCast]); omega) ?_; conv => whnf)
    | (refine And.intro (show (_ : Bool) = true from by kernel_rfl) ?_; conv => whnf)
    | (refine .inl ⟨wrap64 (by omega), ?_⟩; conv => whnf)))
  all_goals first
    | contradiction
    | exact PSub.lit_sb (by rw [hbad (by omega)]; rfl)
    | (refine PSub.lit_sb ?_; rw [hatt (by assumption)]; simp_all [noAttr]; done)
    | (refine PSub.sb ?_; rw [hatt (by assumption)]; simp_all [noAttr]; done)
    | skip
  rw [hkid (by omega) (by omega)]
  refine loop_k (ι := Nat) [2, 37, 38] [2] (fun k => k ≤ e.kids.length ∧ (∀ j, j < k → secE H (e.kids.getD j default) = true)) (fun k => e.kids.length - k) 0 (fun k => [(39, .pv (vint k))]) (fun _ => []) [] ⟨Nat.zero_le _, fun j h => absurd h (by omega)⟩ ?_ (fun k hk => ?_)
  · (repeat' (first | exact PSub.rfl | exact rfl | exact PSubs.rfl | exact trivial | exact PSub.lit_sb rfl | refine And.intro ?_ ?_))
  obtain ⟨hkn, hinv⟩ := hk
  conv => whnf
  repeat (any_goals (first
    | (refine ⟨fun (h : (_ : Bool) = true) => ?_, fun (h : (_ : Bool) = false) => ?_⟩ <;> (try simp only [decide_eq_true_eq, decide_eq_false_iff_not, Bool.not_eq_true', Bool.not_eq_false', Int.toNat_natCast, beq_iff_eq, decide_eq_decide, beq_eq_false_iff_ne, ne_eq, reduceCtorEq] at h) <;> (conv => whnf))
    | (refine .inl ⟨_, ih k (by omega), ?_⟩; conv => whnf)
    | (refine And.intro (by (try simp only [Int.toNat_natCast]); omega) ?_; conv => whnf)
    | (refine And.intro (show (_ : Bool) = true from by kernel_rfl) ?_; conv => whnf)
    | (refine .inl ⟨wrap64 (by omega), ?_⟩; conv => whnf)))
  · exact PSub.lit_sb (by rw [all_getD_false (j := k) (by omega) (by simpa using h)]; rfl)
  · refine ⟨k + 1, [], ⟨by omega, ?_⟩, by first | omega | (dsimp only; omega), ?_⟩
    rotate_left
    · (repeat' (first | exact PSub.rfl | exact rfl | exact PSubs.rfl | exact trivial | exact PSub.lit_sb rfl | refine And.intro ?_ ?_))
    intro j hj
    by_cases e2 : j = k
    · subst e2; simpa using h
    · exact hinv j (by omega)
  · exact PSub.lit_sb (by rw [all_getD fun j hj => hinv j (by omega)]; rfl)
termination_by SizeOf.sizeOf e
end Go.Abs

namespace Go.Abs
open Go.Proofs
set_option maxRecDepth 10000
theorem item_eq (a b : Item) : (decide (a.key.dev = b.key.dev) && (decide (a.key.cluster = b.key.cluster) && (decide (a.key.attr = b.key.attr) && (decide (a.value.kind = b.value.kind) && (decide (a.value.n = b.value.n) && (decide (a.value.s = b.value.s) && (decide (a.version = b.version) && true))))))) = decide (a = b) := by
  obtain ⟨⟨a1, a2, a3⟩, ⟨a4, a5, a6⟩, a7⟩ := a
  obtain ⟨⟨b1, b2, b3⟩, ⟨b4, b5, b6⟩, b7⟩ := b
  rw [Bool.eq_iff_iff]; simp [and_assoc]
structure Op where
  H : Hom
  L : List Item
  K : Key
  V : Val
  deriving Inhabited
section
variable {H : Type} {enc : TypeId × Value → H} {w : World} {bulk : DataW H → Nat}
end
end Go.Abs

namespace Go.Abs
open Go.RowKit
variable [Globals]
def plain : List AV → Bool
  | [] => true
  | .pv _ :: l => plain l
  | .fn _ [] :: l => plain l
  | _ :: _ => false
end Go.Abs

namespace Go.Abs
open Go.Proofs
set_option maxRecDepth 10000
theorem ac_interlock_item (H : Hom) (x : Item) (hH : smallH H) : AC Tryz.prog 100 [.pv (.agg (cHom H)), .pv (.agg (cItem x))] [] (.pv (vint (itemE H x))) [] := by
  have hs := small_findA (k := x.key) hH
  refine AC.of_awp (T := T) T_ok hm Tryz.call100 Tryz.func100 rfl rfl rfl ?_
  conv => whnf
  repeat (any_goals (first
    | (refine ⟨fun (h : (_ : Bool) = true) => ?_, fun (h : (_ : Bool) = false) => ?_⟩ <;> (try simp only [decide_eq_true_eq, decide_eq_false_iff_not, Bool.not_eq_true', Bool.not_eq_false', Int.toNat_natCast, beq_iff_eq, decide_eq_decide, beq_eq_false_iff_ne, ne_eq, reduceCtorEq] at h) <;> (conv => whnf))
    | (refine .inl ⟨_, ac_device_Find H x.key hH, ?_⟩; conv => whnf)
    | (refine .inl ⟨_, ac_value_Fits ((findA H x.key).getD noAttr) x.value hs, ?_⟩; conv => whnf)
    | (refine And.intro (by (try simp only [Int.toNat_natCast]); omega) ?_; conv => whnf)
    | (refine And.intro (show (_ : Bool) = true from by kernel_rfl) ?_; conv => whnf)
    | (refine .inl ⟨wrap64 (by omega), ?_⟩; conv => whnf)))
  all_goals first
    | contradiction
    | (exfalso; omega)
    | exact PSub.rfl
    | (refine PSub.lit_sb ?_; (first | (simp [itemE, *]; done) | (simp_all [itemE]; done) | ((try simp only [itemE]); (repeat' split) <;> (try simp only [Bool.false_eq, Bool.true_eq, Bool.and_eq_false_iff, decide_eq_false_iff_not, Bool.and_eq_true, decide_eq_true_eq, decide_eq_decide]) <;> first | rfl | omega | (simp_all; done) | (simp_all; omega))))
    | (refine PSub.sb ?_; (first | (simp [itemE, *]; done) | (simp_all [itemE]; done) | ((try simp only [itemE]); (repeat' split) <;> (try simp only [Bool.false_eq, Bool.true_eq, Bool.and_eq_false_iff, decide_eq_false_iff_not, Bool.and_eq_true, decide_eq_true_eq, decide_eq_decide]) <;> first | rfl | omega | (simp_all; done) | (simp_all; omega))))
    | (refine PSub.sb_lit ?_; (first | (simp [itemE, *]; done) | (simp_all [itemE]; done) | ((try simp only [itemE]); (repeat' split) <;> (try simp only [Bool.false_eq, Bool.true_eq, Bool.and_eq_false_iff, decide_eq_false_iff_not, Bool.and_eq_true, decide_eq_true_eq, decide_eq_decide]) <;> first | rfl | omega | (simp_all; done) | (simp_all; omega))))
    | (refine PSub.int ?_; (first | (simp [itemE, *]; done) | (simp_all [itemE]; done) | ((try simp only [itemE]); (repeat' split) <;> (try simp only [Bool.false_eq, Bool.true_eq, Bool.and_eq_false_iff, decide_eq_false_iff_not, Bool.and_eq_true, decide_eq_true_eq, decide_eq_decide]) <;> first | rfl | omega | (simp_all; done) | (simp_all; omega))))
    | skip
theorem itemE_find {H : Hom} {x : Item} (h : itemE H x = 0) : (findA H x.key).isSome = true ∧ x.version = 0 := by
  unfold itemE at h
  split at h
  · cases h
  · rename_i h1
    split at h
    · cases h
    · split at h
      · rename_i h2; exact absurd h h2
      · split at h
        · cases h
        · rename_i h3; exact ⟨by cases hq : (findA H x.key).isSome with | true => rfl | false => exact absurd hq h1, Classical.not_not.1 h3⟩
theorem findA_dev {H : Hom} {k : Key} (h : (findA H k).isSome = true) : findB H k.dev = true := by
  unfold findA partO at h
  split at h
  · rename_i h1; exact h1.1
  · cases h
theorem findB_at {H : Hom} {id : Int} (h : findB H id = true) : homE H = 0 ∧ devAt H.devices id < H.devices.length ∧ findD H id = H.devices.getD (devAt H.devices id) default := by
  refine ⟨?_, ?_, if_pos h⟩ <;> (unfold findB at h; simp only [Bool.and_eq_true, decide_eq_true_eq] at h)
  · exact h.1
  · exact h.2
theorem homE_devs {H : Hom} (hz : homE H = 0) : ∀ j, j < H.devices.length → devE (firstC H.clusters) H.devices j = 0 := by
  unfold homE at hz
  split at hz
  · rename_i h; exact absurd hz h
  · split at hz
    · cases hz
    · exact firstE_zero hz
theorem dev_ids {H : Hom} (hz : homE H = 0) : ∀ j, j < H.devices.length → ∀ i, i < j → (H.devices.getD i default).id < (H.devices.getD j default).id := by
  intro j
  induction j with
  | zero => intro _ i hi; omega
  | succ j ih =>
    intro hj i hi
    have h := homE_devs hz (j + 1) hj
    have h1 : (H.devices.getD j default).id < (H.devices.getD (j + 1) default).id := by
      unfold devE at h
      split at h
      · cases h
      · split at h
        · cases h
        · rename_i h2
          simp only [Nat.add_sub_cancel] at h2
          omega
    by_cases e : i = j
    · subst e; exact h1
    · have := ih (by omega) i (by omega); omega
theorem dev_uniq {H : Hom} (hz : homE H = 0) {i j : Nat} (hi : i < H.devices.length) (hj : j < H.devices.length) (h : (H.devices.getD i default).id = (H.devices.getD j default).id) : i = j := by
  rcases Nat.lt_trichotomy i j with h1 | h1 | h1
  · have := dev_ids hz j hj i h1; omega
  · exact h1
  · have := dev_ids hz i hi j h1; omega
def slpB (id : Int) (d : Dev) : Bool := decide (d.id = id) && d.sleepy
theorem slp_find {H : Hom} {id : Int} (hf : findB H id = true) : (anyN H.devices.length fun i => slpB id (H.devices.getD i default)) = (findD H id).sleepy := by
  obtain ⟨hz, hlt, he⟩ := findB_at hf
  have hat : (H.devices.getD (devAt H.devices id) default).id = id := by
    have := firstI_lt (n := H.devices.length) (p := fun i => decide ((H.devices.getD i default).id = id)) hlt
    exact of_decide_eq_true this
  rw [he, Bool.eq_iff_iff, anyN_iff]
  constructor
  · rintro ⟨k, hk, h⟩
    simp only [slpB, Bool.and_eq_true, decide_eq_true_eq] at h
    have := dev_uniq hz hk hlt (h.1.trans hat.symm)
    rw [← this]; exact h.2
  · intro h
    exact ⟨_, hlt, by simp only [slpB, Bool.and_eq_true, decide_eq_true_eq]; exact ⟨hat, h⟩⟩
theorem ac_interlock_sleepy_1 (d : Dev) (id : Int) : AC Tryz.prog 144 [.pv (.agg (cDev d)), .pv (.cell [vint id])] [] (.pv (vbool (slpB id d))) [] := by
  refine AC.of_awp (T := T) T_ok hm Tryz.call144 Tryz.func144 rfl rfl rfl ?_
  conv => whnf
  repeat (any_goals (first
    | (refine ⟨fun (h : (_ : Bool) = true) => ?_, fun (h : (_ : Bool) = false) => ?_⟩ <;> (try simp only [decide_eq_true_eq, decide_eq_false_iff_not, Bool.not_eq_true', Bool.not_eq_false', Int.toNat_natCast, beq_iff_eq, decide_eq_decide, beq_eq_false_iff_ne, ne_eq, reduceCtorEq] at h) <;> (conv => whnf))
    | (refine And.intro (by (try simp only [Int.toNat_natCast]); omega) ?_; conv => whnf)
    | (refine And.intro (show (_ : Bool) = true from by kernel_rfl) ?_; conv => whnf)
    | (refine .inl ⟨wrap64 (by omega), ?_⟩; conv => whnf)))
  all_goals first
    | contradiction
    | (exfalso; omega)
    | exact PSub.rfl
    | (refine PSub.lit_sb ?_; (first | (simp [slpB, *]; done) | (simp_all [slpB]; done) | ((try simp only [slpB]); (repeat' split) <;> (try simp only [Bool.false_eq, Bool.true_eq, Bool.and_eq_false_iff, decide_eq_false_iff_not, Bool.and_eq_true, decide_eq_true_eq, decide_eq_decide]) <;> first | rfl | omega | (simp_all; done) | (simp_all; omega))))
    | (refine PSub.sb ?_; (first | (simp [slpB, *]; done) | (simp_all [slpB]; done) | ((try simp only [slpB]); (repeat' split) <;> (try simp only [Bool.false_eq, Bool.true_eq, Bool.and_eq_false_iff, decide_eq_false_iff_not, Bool.and_eq_true, decide_eq_true_eq, decide_eq_decide]) <;> first | rfl | omega | (simp_all; done) | (simp_all; omega))))
    | (refine PSub.sb_lit ?_; (first | (simp [slpB, *]; done) | (simp_all [slpB]; done) | ((try simp only [slpB]); (repeat' split) <;> (try simp only [Bool.false_eq, Bool.true_eq, Bool.and_eq_false_iff, decide_eq_false_iff_not, Bool.and_eq_true, decide_eq_true_eq, decide_eq_decide]) <;> first | rfl | omega | (simp_all; done) | (simp_all; omega))))
    | (refine PSub.int ?_; (first | (simp [slpB, *]; done) | (simp_all [slpB]; done) | ((try simp only [slpB]); (repeat' split) <;> (try simp only [Bool.false_eq, Bool.true_eq, Bool.and_eq_false_iff, decide_eq_false_iff_not, Bool.and_eq_true, decide_eq_true_eq, decide_eq_decide]) <;> first | rfl | omega | (simp_all; done) | (simp_all; omega))))
    | skip
theorem ac_slices_IndexFunc_Device (l : List Dev) (gb : List PV → Bool) (gi : List PV → Int) (hl : smallL l) : AC Tryz.prog 188 [.pv (roL 7 cDev l), .clo (fun xs => ∃ x : Dev, xs = [.agg (cDev x)]) true gb gi] [] (.pv (vint (ixI l.length (firstI l.length fun i => gb [.agg (cDev (l.getD i default))])))) [] := by
  have hl : l.length ≤ 1048576 := hl
  refine AC.of_awp (T := T) T_ok hm Tryz.call188 Tryz.func188 rfl rfl rfl ?_
  conv => whnf
  refine loop_k (ι := Nat) [0, 1, 7] [] (fun k => k ≤ l.length ∧ (∀ j, j < k → gb [.agg (cDev (l.getD j default))] = false)) (fun k => l.length - k) 0 (fun k => [(8, .pv (vint k))]) (fun _ => []) [] ⟨Nat.zero_le _, fun j h => absurd h (by omega)⟩ ?_ (fun k hk => ?_)
  · (repeat' (first | exact PSub.rfl | exact rfl | exact PSubs.rfl | exact trivial | exact PSub.lit_sb rfl | refine And.intro ?_ ?_))
  obtain ⟨hkn, hinv⟩ := hk
  conv => whnf
  repeat (any_goals (first
    | (refine ⟨fun (h : (_ : Bool) = true) => ?_, fun (h : (_ : Bool) = false) => ?_⟩ <;> (try simp only [decide_eq_true_eq, decide_eq_false_iff_not, Bool.not_eq_true', Bool.not_eq_false', Int.toNat_natCast, beq_iff_eq, decide_eq_decide, beq_eq_false_iff_ne, ne_eq, reduceCtorEq] at h) <;> (conv => whnf))
    | (refine And.intro (by (try simp only [Int.toNat_natCast]); omega) ?_; conv => whnf)
    | (refine And.intro (show (_ : Bool) = true from by kernel_rfl) ?_; conv => whnf)
    | (refine .inl ⟨wrap64 (by omega), ?_⟩; conv => whnf)))
  refine ⟨⟨_, rfl⟩, ?_⟩
  conv => whnf
  repeat (any_goals (first
    | (refine ⟨fun (h : (_ : Bool) = true) => ?_, fun (h : (_ : Bool) = false) => ?_⟩ <;> (try simp only [decide_eq_true_eq, decide_eq_false_iff_not, Bool.not_eq_true', Bool.not_eq_false', Int.toNat_natCast, beq_iff_eq, decide_eq_decide, beq_eq_false_iff_ne, ne_eq, reduceCtorEq] at h) <;> (conv => whnf))
    | (refine And.intro (by (try simp only [Int.toNat_natCast]); omega) ?_; conv => whnf)
    | (refine And.intro (show (_ : Bool) = true from by kernel_rfl) ?_; conv => whnf)
    | (refine .inl ⟨wrap64 (by omega), ?_⟩; conv => whnf)))
  · exact PSub.int (by rw [firstI_at (k := k) (by omega) h hinv, ixI, if_pos (by omega)])
  · refine ⟨k + 1, [], ⟨by omega, ?_⟩, by first | omega | (dsimp only; omega), ?_⟩
    rotate_left
    · (repeat' (first | exact PSub.rfl | exact rfl | exact PSubs.rfl | exact trivial | exact PSub.lit_sb rfl | refine And.intro ?_ ?_))
    intro j hj
    by_cases e : j = k
    · subst e; exact h
    · exact hinv j (by omega)
  · exact PSub.int (by rw [firstI_none (fun j hj => hinv j (by omega)), ixI, if_neg (Nat.lt_irrefl _)])
theorem ix_any {n : Nat} {p : Nat → Bool} : decide (0 ≤ ixI n (firstI n p)) = anyN n p := by
  rcases firstI_cases (n := n) (p := p) with ⟨h1, h2, _⟩ | ⟨h1, h2⟩
  · rw [anyN_true h1 h2, ixI, if_pos h1]; exact decide_eq_true (by omega)
  · rw [anyN_false h2, h1, ixI, if_neg (Nat.lt_irrefl _)]; rfl
theorem ac_slices_ContainsFunc_Device (l : List Dev) (gb : List PV → Bool) (gi : List PV → Int) (hl : smallL l) : AC Tryz.prog 143 [.pv (roL 7 cDev l), .clo (fun xs => ∃ x : Dev, xs = [.agg (cDev x)]) true gb gi] [] (.pv (vbool (anyN l.length fun i => gb [.agg (cDev (l.getD i default))]))) [] := by
  refine AC.of_awp (T := T) T_ok hm Tryz.call143 Tryz.func143 rfl rfl rfl ?_
  conv => whnf
  repeat (any_goals (first
    | (refine ⟨fun (h : (_ : Bool) = true) => ?_, fun (h : (_ : Bool) = false) => ?_⟩ <;> (try simp only [decide_eq_true_eq, decide_eq_false_iff_not, Bool.not_eq_true', Bool.not_eq_false', Int.toNat_natCast, beq_iff_eq, decide_eq_decide, beq_eq_false_iff_ne, ne_eq, reduceCtorEq] at h) <;> (conv => whnf))
    | (refine .inl ⟨_, ac_slices_IndexFunc_Device l gb gi hl, ?_⟩; conv => whnf)
    | (refine And.intro (by (try simp only [Int.toNat_natCast]); omega) ?_; conv => whnf)
    | (refine And.intro (show (_ : Bool) = true from by kernel_rfl) ?_; conv => whnf)
    | (refine .inl ⟨wrap64 (by omega), ?_⟩; conv => whnf)))
  exact PSub.sb ix_any
noncomputable def slpG (id : Int) : List PV → Bool := fun xs => match xs with
  | [.agg (.val (.int _ i) :: _ :: _ :: .sb b :: _)] => decide (i = id) && b
  | _ => false
theorem ac_slices_ContainsFunc_slp (l : List Dev) (id : Int) (hl : smallL l) : AC Tryz.prog 143 [.pv (roL 7 cDev l), .fn 144 [.pv (.cell [vint id])]] [] (.pv (vbool (anyN l.length fun i => slpB id (l.getD i default)))) [] := by
  refine AC.with_fn (pre := [.pv (roL 7 cDev l)]) (post := []) (ac_slices_ContainsFunc_Device l (slpG id) (fun _ => 0) hl) Tryz.call144 rfl rfl rfl ?_
  rintro xs ⟨x, rfl⟩
  exact ac_interlock_sleepy_1 x id
theorem ac_interlock_sleepy (H : Hom) (id : Int) (hH : smallH H) : AC Tryz.prog 102 [.pv (.agg (cHom H)), .pv (vint id)] [] (.pv (vbool (anyN H.devices.length fun i => slpB id (H.devices.getD i default)))) [] := by
  refine AC.of_awp (T := T) T_ok hm Tryz.call102 Tryz.func102 rfl rfl rfl ?_
  conv => whnf
  repeat (any_goals (first
    | (refine ⟨fun (h : (_ : Bool) = true) => ?_, fun (h : (_ : Bool) = false) => ?_⟩ <;> (try simp only [decide_eq_true_eq, decide_eq_false_iff_not, Bool.not_eq_true', Bool.not_eq_false', Int.toNat_natCast, beq_iff_eq, decide_eq_decide, beq_eq_false_iff_ne, ne_eq, reduceCtorEq] at h) <;> (conv => whnf))
    | (refine .inl ⟨_, ac_slices_ContainsFunc_slp H.devices id hH.2.1, ?_⟩; conv => whnf)
    | (refine And.intro (by (try simp only [Int.toNat_natCast]); omega) ?_; conv => whnf)
    | (refine And.intro (show (_ : Bool) = true from by kernel_rfl) ?_; conv => whnf)
    | (refine .inl ⟨wrap64 (by omega), ?_⟩; conv => whnf)))
  exact PSub.rfl
theorem take_sub {α : Type} [Inhabited α] {n k : Nat} {c : α → List PV} {l : List α} (h : k ≤ l.length) : PSub (.ro n k fun i => c (l.getD i default)) (roL n c (l.take k)) :=
  PSub.ro (by rw [List.length_take]; omega) fun i hi => by
    have : (l.take k).getD i default = l.getD i default := by simp [List.getD, List.getElem?_take, show i < k by omega]
    rw [this]; exact PSubs.rfl
theorem any_take {α : Type} [Inhabited α] {l : List α} {k : Nat} {p : α → Bool} (h : k ≤ l.length) : (l.take k).any p = anyN k fun j => p (l.getD j default) := by
  rw [← anyN_any, List.length_take, Nat.min_eq_left h]
  rw [Bool.eq_iff_iff, anyN_iff, anyN_iff]
  constructor
  · rintro ⟨i, hi, e⟩
    exact ⟨i, hi, by simpa [List.getD, List.getElem?_take, hi] using e⟩
  · rintro ⟨i, hi, e⟩
    exact ⟨i, hi, by simpa [List.getD, List.getElem?_take, hi] using e⟩
theorem item_any {l : List Item} {q : Key} : decide (itemAt l q < l.length) = l.any fun x => decide (x.key = q) := by
  rw [← anyN_any]
  unfold itemAt
  rcases firstI_cases (n := l.length) (p := fun i => decide ((l.getD i default).key = q)) with ⟨h1, h2, _⟩ | ⟨h1, h2⟩
  · rw [anyN_true h1 h2]; exact decide_eq_true h1
  · rw [anyN_false h2, h1]; exact decide_eq_false (Nat.lt_irrefl _)
theorem item_taken {l : List Item} {q : Key} {k : Nat} (h : k ≤ l.length) : decide (itemAt (l.take k) q < (l.take k).length) = anyN k fun j => decide ((l.getD j default).key = q) := by
  rw [item_any, any_take h]
theorem ac_interlock_force (H : Hom) (l : List Item) (hH : smallH H) (hl : smallL l) : AC Tryz.prog 64 [.pv (.agg (cHom H)), .pv (roL 7 cItem l)] [] (.pv (vint (firstE l.length (forceE H l)))) [] := by
  have hl2 : l.length ≤ 1048576 := hl
  refine AC.of_awp (T := T) T_ok hm Tryz.call64 Tryz.func64 rfl rfl rfl ?_
  conv => whnf
  refine loop_k (ι := Nat) [1, 2, 10, 11] [2] (fun k => k ≤ l.length ∧ (∀ j, j < k → forceE H l j = 0)) (fun k => l.length - k) 0 (fun k => [(12, .pv (vint k))]) (fun _ => []) [] ⟨Nat.zero_le _, fun j h => absurd h (by omega)⟩ ?_ (fun k hk => ?_)
  · (repeat' (first | exact PSub.rfl | exact rfl | exact PSubs.rfl | exact trivial | exact PSub.lit_sb rfl | refine And.intro ?_ ?_))
  obtain ⟨hkn, hinv⟩ := hk
  conv => whnf
  refine ⟨fun h => ?_, fun h => ?_⟩ <;> (try simp only [decide_eq_true_eq, decide_eq_false_iff_not, Bool.not_eq_true', Bool.not_eq_false', Int.toNat_natCast, beq_iff_eq, decide_eq_decide, beq_eq_false_iff_ne, ne_eq, reduceCtorEq] at h) <;> (conv => whnf)
  · have hk : k < l.length := by omega
    have hsl : (itemE H (l.getD k default) = 0) → (anyN H.devices.length fun i => slpB (l.getD k default).key.dev (H.devices.getD i default)) = (findD H (l.getD k default).key.dev).sleepy := fun h => slp_find (findA_dev (itemE_find h).1)
    have htk := item_taken (l := l) (q := (l.getD k default).key) (k := k) (by omega)
    have hget := AC.sub2 (ac_device_Get (l.take k) (l.getD k default).key (Nat.le_trans (List.length_take_le _ _) (by omega))) (take_sub (by omega)) .rfl
    have fin0 : ∀ n, forceE H l k = n → n ≠ 0 → PSub (vint n) (vint (firstE l.length (forceE H l))) := fun n e hn => PSub.int (by rw [firstE_at hk (by rw [e]; exact hn) hinv, e])
    repeat (any_goals (first
      | (refine ⟨fun (h : (_ : Bool) = true) => ?_, fun (h : (_ : Bool) = false) => ?_⟩ <;> (try simp only [decide_eq_true_eq, decide_eq_false_iff_not, Bool.not_eq_true', Bool.not_eq_false', Int.toNat_natCast, beq_iff_eq, decide_eq_decide, beq_eq_false_iff_ne, ne_eq, reduceCtorEq] at h) <;> (conv => whnf))
      | (refine .inl ⟨_, ac_interlock_item H (l.getD k default) hH, ?_⟩; conv => whnf)
      | (refine .inl ⟨_, ac_device_Safe H (l.getD k default).key hH, ?_⟩; conv => whnf)
      | (refine .inl ⟨_, ac_interlock_sleepy H (l.getD k default).key.dev hH, ?_⟩; conv => whnf)
      | (refine .inl ⟨_, hget, ?_⟩; conv => whnf)
      | (refine And.intro (by (try simp only [Int.toNat_natCast]); omega) ?_; conv => whnf)
      | (refine And.intro (show (_ : Bool) = true from by kernel_rfl) ?_; conv => whnf)
      | (refine .inl ⟨wrap64 (by omega), ?_⟩; conv => whnf)))
    · exact fin0 _ (by unfold forceE; rw [if_pos h]) h
    · rename_i h1
      exact fin0 19 (by unfold forceE; rw [if_neg (by simpa using h1), if_pos (.inl h)]) (by decide)
    · rename_i h1 h2
      rw [hsl h1] at h
      exact fin0 19 (by unfold forceE; rw [if_neg (by simpa using h1), if_pos (.inr h)]) (by decide)
    · rename_i h1 h2 h3
      rw [hsl h1] at h3
      rw [decide_eq_true h] at htk
      exact fin0 9 (by unfold forceE; rw [if_neg (by simpa using h1), if_neg (by rw [h2, h3]; simp), if_pos htk.symm]) (by decide)
    · rename_i h1 h2 h3
      rw [hsl h1] at h3
      rw [decide_eq_false h] at htk
      refine ⟨k + 1, [], ⟨by omega, ?_⟩, by first | omega | (dsimp only; omega), ?_⟩
      rotate_left
      · (repeat' (first | exact PSub.rfl | exact rfl | exact PSubs.rfl | exact trivial | exact PSub.lit_sb rfl | refine And.intro ?_ ?_))
      intro j hj
      by_cases e : j = k
      · subst e; unfold forceE; rw [if_neg (by simpa using h1), if_neg (by rw [h2, h3]; simp), if_neg (by rw [← htk]; decide)]
      · exact hinv j (by omega)
  · exact PSub.int (by rw [firstE_none fun j hj => hinv j (by omega)])
end Go.Abs
