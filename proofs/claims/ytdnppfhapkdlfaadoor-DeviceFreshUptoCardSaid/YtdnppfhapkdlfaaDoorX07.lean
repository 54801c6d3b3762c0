/- Contracts: the standard clusters; the home of the examples. -/
import Derived.Test.YtdnppfhapkdlfaaDoorX06
import Derived.Test.YtdnppfhapkdlfaaDoorX03
import Derived.Test.YtdnppfhapkdlfaaDoorCards
import Derived.Test.YtdnppfhapkdlfaaDoorTie
import Derived.WalkKit

set_option linter.unusedVariables false
set_option linter.unusedSimpArgs false
set_option linter.unusedSectionVars false

namespace Go.Abs
open Go.Proofs
set_option maxRecDepth 10000

theorem all_lt_zero {p : Nat → Prop} : ∀ i, i < 0 → p i := fun i h => absurd h (by omega)
theorem all_lt_succ {p : Nat → Prop} {n : Nat} (h1 : ∀ i, i < n → p i) (h2 : p n) : ∀ i, i < n + 1 → p i := fun i h => by
  rcases Nat.lt_or_ge i n with h3 | h3
  · exact h1 i h3
  · have : i = n := by omega
    subst this; exact h2

theorem ac106 (s : ByteArray) (w sf : Bool) : AC Tryd.prog 106 [.pv (vstr s), .pv (.val (.bool w)), .pv (.val (.bool sf))] [] (.pv (.agg (cAttr ⟨s, 1, 0, 0, [], w, sf⟩))) [] := by
  refine AC.of_awp (T := T) T_ok hm Tryd.call106 Tryd.func106 rfl rfl rfl ?_
  conv => whnf
  exact PSub.agg ⟨.rfl, .rfl, .rfl, .rfl, PSub.nil_ro _ _, PSub.lit_sb rfl, PSub.lit_sb rfl, trivial⟩
theorem ac108 (s : ByteArray) (lo hi : Int) (w : Bool) : AC Tryd.prog 108 [.pv (vstr s), .pv (vint lo), .pv (vint hi), .pv (.val (.bool w))] [] (.pv (.agg (cAttr ⟨s, 2, lo, hi, [], w, false⟩))) [] := by
  refine AC.of_awp (T := T) T_ok hm Tryd.call108 Tryd.func108 rfl rfl rfl ?_
  conv => whnf
  exact PSub.agg ⟨.rfl, .rfl, .rfl, .rfl, PSub.nil_ro _ _, PSub.lit_sb rfl, PSub.lit_sb rfl, trivial⟩
theorem ac107 (s a : ByteArray) (n : Int) : AC Tryd.prog 107 [.pv (vstr s), .pv (vstr a), .pv (vint n)] [] (.pv (.agg (cCmd ⟨s, noAttr, [⟨1, a, n⟩]⟩))) [] := by
  refine AC.of_awp (T := T) T_ok hm Tryd.call107 Tryd.func107 rfl rfl rfl ?_
  conv => whnf
  repeat (any_goals (first
    | (refine ⟨fun (h : (_ : Bool) = true) => ?_, fun (h : (_ : Bool) = false) => ?_⟩ <;> (try simp only [decide_eq_true_eq, decide_eq_false_iff_not, Bool.not_eq_true', Bool.not_eq_false', Int.toNat_natCast, beq_iff_eq, decide_eq_decide, beq_eq_false_iff_ne, ne_eq, reduceCtorEq] at h) <;> (conv => whnf))
    | (refine And.intro (by (try simp only [Int.toNat_natCast]); omega) ?_; conv => whnf)
    | (refine And.intro (by kernel_rfl) ?_; conv => whnf)
    | (refine .inl ⟨wrap64 (by omega), ?_⟩; conv => whnf)))
  exact PSub.agg ⟨.rfl, .rfl, .rfl, .rfl, .rfl, PSub.nil_ro _ _, PSub.lit_sb rfl, PSub.lit_sb rfl, PSub.ro rfl (all_lt_succ all_lt_zero PSubs.rfl), trivial⟩

def flagA (s : ByteArray) (w sf : Bool) : Attr := ⟨s, 1, 0, 0, [], w, sf⟩
def numA (s : ByteArray) (lo hi : Int) (w : Bool) : Attr := ⟨s, 2, lo, hi, [], w, false⟩
def setsC (s a : ByteArray) (n : Int) : Cmd := ⟨s, noAttr, [⟨1, a, n⟩]⟩
/-- cluster.Standard -/
def stdC : List Clu := [
  ⟨(⟨#[111, 110, 111, 102, 102]⟩ : ByteArray), [flagA (⟨#[111, 110]⟩ : ByteArray) true false], [setsC (⟨#[111, 110]⟩ : ByteArray) (⟨#[111, 110]⟩ : ByteArray) 1, setsC (⟨#[111, 102, 102]⟩ : ByteArray) (⟨#[111, 110]⟩ : ByteArray) 0, ⟨(⟨#[116, 111, 103, 103, 108, 101]⟩ : ByteArray), noAttr, [⟨4, (⟨#[111, 110]⟩ : ByteArray), 0⟩]⟩], []⟩,
  ⟨(⟨#[108, 101, 118, 101, 108]⟩ : ByteArray), [numA (⟨#[108, 101, 118, 101, 108]⟩ : ByteArray) 0 100 true], [⟨(⟨#[109, 111, 118, 101]⟩ : ByteArray), numA (⟨#[116, 111]⟩ : ByteArray) 0 100 false, [⟨2, (⟨#[108, 101, 118, 101, 108]⟩ : ByteArray), 0⟩]⟩, ⟨(⟨#[115, 116, 101, 112]⟩ : ByteArray), noAttr, [⟨3, (⟨#[108, 101, 118, 101, 108]⟩ : ByteArray), 10⟩]⟩], []⟩,
  ⟨(⟨#[108, 111, 99, 107]⟩ : ByteArray), [flagA (⟨#[108, 111, 99, 107, 101, 100]⟩ : ByteArray) true true], [setsC (⟨#[108, 111, 99, 107]⟩ : ByteArray) (⟨#[108, 111, 99, 107, 101, 100]⟩ : ByteArray) 1, setsC (⟨#[117, 110, 108, 111, 99, 107]⟩ : ByteArray) (⟨#[108, 111, 99, 107, 101, 100]⟩ : ByteArray) 0], [(⟨#[106, 97, 109]⟩ : ByteArray)]⟩,
  ⟨(⟨#[116, 104, 101, 114, 109, 111, 115, 116, 97, 116]⟩ : ByteArray), [numA (⟨#[116, 97, 114, 103, 101, 116]⟩ : ByteArray) 50 300 true, numA (⟨#[116, 101, 109, 112]⟩ : ByteArray) (-500) 1000 false], [], []⟩,
  ⟨(⟨#[115, 109, 111, 107, 101]⟩ : ByteArray), [flagA (⟨#[97, 108, 97, 114, 109]⟩ : ByteArray) false true], [], [(⟨#[116, 101, 115, 116]⟩ : ByteArray)]⟩,
  ⟨(⟨#[108, 101, 97, 107]⟩ : ByteArray), [flagA (⟨#[119, 101, 116]⟩ : ByteArray) false true], [], []⟩,
  ⟨(⟨#[118, 97, 108, 118, 101]⟩ : ByteArray), [flagA (⟨#[111, 112, 101, 110]⟩ : ByteArray) true true], [setsC (⟨#[111, 112, 101, 110]⟩ : ByteArray) (⟨#[111, 112, 101, 110]⟩ : ByteArray) 1, setsC (⟨#[99, 108, 111, 115, 101]⟩ : ByteArray) (⟨#[111, 112, 101, 110]⟩ : ByteArray) 0], []⟩,
  ⟨(⟨#[109, 101, 116, 101, 114]⟩ : ByteArray), [numA (⟨#[112, 111, 119, 101, 114]⟩ : ByteArray) 0 100000 false], [], []⟩]

def nameRow (k i : Nat) : List PV := [vstr (if i < k then glob0.getD i default else ⟨#[]⟩), .val (.slice none 0 0), .val (.slice none 0 0), .val (.slice none 0 0)]

set_option maxHeartbeats 2000000 in
theorem ac76 : AC Tryd.prog 76 [] [] (.pv (roL 4 cClu stdC)) [] := by
  refine AC.of_awp (T := T) T_ok hm Tryd.call76 Tryd.func76 rfl rfl rfl ?_
  conv => whnf
  refine And.intro (by omega) ?_
  conv => whnf
  refine loop_k (ι := Nat) [1, 5] [] (fun k => k ≤ 8 ∧ True) (fun k => 8 - k) 0 (fun k => [(6, .pv (vint k))]) (fun k => [(4, .row 4 8 (nameRow k))]) [] ⟨Nat.zero_le _, trivial⟩ ?_ (fun k hk => ?_)
  · (repeat' (first | exact PSub.rfl | exact rfl | exact PSubs.rfl | exact trivial | refine And.intro ?_ ?_)); all_goals ((intro i hi; exact PSubs.rfl))
  obtain ⟨hkn, hinv⟩ := hk
  conv => whnf
  repeat (any_goals (first
    | (refine ⟨fun (h : (_ : Bool) = true) => ?_, fun (h : (_ : Bool) = false) => ?_⟩ <;> (try simp only [decide_eq_true_eq, decide_eq_false_iff_not, Bool.not_eq_true', Bool.not_eq_false', Int.toNat_natCast, beq_iff_eq, decide_eq_decide, beq_eq_false_iff_ne, ne_eq, reduceCtorEq] at h) <;> (conv => whnf))
    | (refine And.intro (by (try simp only [Int.toNat_natCast]); omega) ?_; conv => whnf)
    | (refine And.intro (by kernel_rfl) ?_; conv => whnf)
    | (refine .inl ⟨wrap64 (by omega), ?_⟩; conv => whnf)))
  · refine And.intro (show 0 ≤ (k : Int) ∧ (k : Int) < ((8 : Nat) : Int) from by omega) ?_
    refine ⟨vstr (glob0.getD k default), fun q hq => ?_, ?_⟩
    · have hk8 : k < 8 := by omega
      rcases k with _ | _ | _ | _ | _ | _ | _ | _ | k
      all_goals first | omega | (cases hq; exact .rfl)
    · conv => whnf
      repeat (any_goals (first
        | (refine ⟨fun (h : (_ : Bool) = true) => ?_, fun (h : (_ : Bool) = false) => ?_⟩ <;> (try simp only [decide_eq_true_eq, decide_eq_false_iff_not, Bool.not_eq_true', Bool.not_eq_false', Int.toNat_natCast, beq_iff_eq, decide_eq_decide, beq_eq_false_iff_ne, ne_eq, reduceCtorEq] at h) <;> (conv => whnf))
        | (refine And.intro (by (try simp only [Int.toNat_natCast]); omega) ?_; conv => whnf)
        | (refine And.intro (by kernel_rfl) ?_; conv => whnf)
        | (refine .inl ⟨wrap64 (by omega), ?_⟩; conv => whnf)))
      refine ⟨k + 1, [], ⟨by omega, trivial⟩, by omega, ?_⟩
      (repeat' (first | exact PSub.rfl | exact rfl | exact PSubs.rfl | exact trivial | refine And.intro ?_ ?_))
      intro i hi
      simp only [Int.toNat_natCast]
      by_cases e : i = k
      · subst e; rw [updAt_same]; exact ⟨PSub.str (by rw [if_pos (by omega)]), .rfl, .rfl, .rfl, trivial⟩
      · rw [updAt_ne e]; exact ⟨PSub.str (by by_cases h2 : i < k; rw [if_pos h2, if_pos (by omega)]; rw [if_neg h2, if_neg (by omega)]), .rfl, .rfl, .rfl, trivial⟩
  · have e : k = 8 := by omega
    subst e
    refine .inl ⟨_, ac106 (⟨#[111, 110]⟩ : ByteArray) true false, ?_⟩
    conv => whnf
    repeat (refine And.intro (by omega) ?_; conv => whnf)
    refine .inl ⟨_, ac107 (⟨#[111, 110]⟩ : ByteArray) (⟨#[111, 110]⟩ : ByteArray) 1, ?_⟩
    conv => whnf
    repeat (refine And.intro (by omega) ?_; conv => whnf)
    refine .inl ⟨_, ac107 (⟨#[111, 102, 102]⟩ : ByteArray) (⟨#[111, 110]⟩ : ByteArray) 0, ?_⟩
    conv => whnf
    repeat (refine And.intro (by omega) ?_; conv => whnf)
    refine .inl ⟨_, ac108 (⟨#[108, 101, 118, 101, 108]⟩ : ByteArray) 0 100 true, ?_⟩
    conv => whnf
    repeat (refine And.intro (by omega) ?_; conv => whnf)
    refine .inl ⟨_, ac108 (⟨#[116, 111]⟩ : ByteArray) 0 100 false, ?_⟩
    conv => whnf
    repeat (refine And.intro (by omega) ?_; conv => whnf)
    refine .inl ⟨_, ac106 (⟨#[108, 111, 99, 107, 101, 100]⟩ : ByteArray) true true, ?_⟩
    conv => whnf
    repeat (refine And.intro (by omega) ?_; conv => whnf)
    refine .inl ⟨_, ac107 (⟨#[108, 111, 99, 107]⟩ : ByteArray) (⟨#[108, 111, 99, 107, 101, 100]⟩ : ByteArray) 1, ?_⟩
    conv => whnf
    repeat (refine And.intro (by omega) ?_; conv => whnf)
    refine .inl ⟨_, ac107 (⟨#[117, 110, 108, 111, 99, 107]⟩ : ByteArray) (⟨#[108, 111, 99, 107, 101, 100]⟩ : ByteArray) 0, ?_⟩
    conv => whnf
    repeat (refine And.intro (by omega) ?_; conv => whnf)
    refine .inl ⟨_, ac108 (⟨#[116, 97, 114, 103, 101, 116]⟩ : ByteArray) 50 300 true, ?_⟩
    conv => whnf
    repeat (refine And.intro (by omega) ?_; conv => whnf)
    refine .inl ⟨_, ac108 (⟨#[116, 101, 109, 112]⟩ : ByteArray) (-500) 1000 false, ?_⟩
    conv => whnf
    repeat (refine And.intro (by omega) ?_; conv => whnf)
    refine .inl ⟨_, ac106 (⟨#[97, 108, 97, 114, 109]⟩ : ByteArray) false true, ?_⟩
    conv => whnf
    repeat (refine And.intro (by omega) ?_; conv => whnf)
    refine .inl ⟨_, ac106 (⟨#[119, 101, 116]⟩ : ByteArray) false true, ?_⟩
    conv => whnf
    repeat (refine And.intro (by omega) ?_; conv => whnf)
    refine .inl ⟨_, ac106 (⟨#[111, 112, 101, 110]⟩ : ByteArray) true true, ?_⟩
    conv => whnf
    repeat (refine And.intro (by omega) ?_; conv => whnf)
    refine .inl ⟨_, ac107 (⟨#[111, 112, 101, 110]⟩ : ByteArray) (⟨#[111, 112, 101, 110]⟩ : ByteArray) 1, ?_⟩
    conv => whnf
    repeat (refine And.intro (by omega) ?_; conv => whnf)
    refine .inl ⟨_, ac107 (⟨#[99, 108, 111, 115, 101]⟩ : ByteArray) (⟨#[111, 112, 101, 110]⟩ : ByteArray) 0, ?_⟩
    conv => whnf
    repeat (refine And.intro (by omega) ?_; conv => whnf)
    refine .inl ⟨_, ac108 (⟨#[112, 111, 119, 101, 114]⟩ : ByteArray) 0 100000 false, ?_⟩
    conv => whnf
    repeat (refine And.intro (by omega) ?_; conv => whnf)
    repeat' (first | exact PSub.rfl | exact PSub.nil_ro _ _ | exact PSub.lit_sb rfl | exact trivial | exact all_lt_zero | refine PSub.agg ?_ | refine PSub.ro rfl ?_ | refine all_lt_succ ?_ ?_ | refine And.intro ?_ ?_)

def homeX : Hom := ⟨stdC, [⟨1, 0, 0, false, 0, (⟨#[104, 97, 108, 108]⟩ : ByteArray), [(⟨#[111, 110, 111, 102, 102]⟩ : ByteArray), (⟨#[108, 101, 118, 101, 108]⟩ : ByteArray)]⟩]⟩

theorem ac47 : AC Tryd.prog 47 [] [] (.pv (.agg (cHom homeX))) [] := by
  refine AC.of_awp (T := T) T_ok hm Tryd.call47 Tryd.func47 rfl rfl rfl ?_
  conv => whnf
  refine .inl ⟨_, ac76, ?_⟩
  conv => whnf
  trace_state
  repeat' (first | exact PSub.rfl | exact PSub.nil_ro _ _ | exact PSub.lit_sb rfl | exact trivial | exact all_lt_zero | refine PSub.agg ?_ | refine PSub.ro rfl ?_ | refine all_lt_succ ?_ ?_ | refine And.intro ?_ ?_)

theorem ac12 (H : Hom) : AC Tryd.prog 12 [.pv (.agg (cHom H))] [] (.pv (vbool (decide (300 < H.clusters.length) || decide (60 < H.devices.length)))) [] := by
  refine AC.of_awp (T := T) T_ok hm Tryd.call12 Tryd.func12 rfl rfl rfl ?_
  conv => whnf
  repeat (any_goals (first
    | (refine ⟨fun (h : (_ : Bool) = true) => ?_, fun (h : (_ : Bool) = false) => ?_⟩ <;> (try simp only [decide_eq_true_eq, decide_eq_false_iff_not, Bool.not_eq_true', Bool.not_eq_false', Int.toNat_natCast, beq_iff_eq, decide_eq_decide, beq_eq_false_iff_ne, ne_eq, reduceCtorEq] at h) <;> (conv => whnf))
    | (refine And.intro (by (try simp only [Int.toNat_natCast]); omega) ?_; conv => whnf)
    | (refine And.intro (by kernel_rfl) ?_; conv => whnf)
    | (refine .inl ⟨wrap64 (by omega), ?_⟩; conv => whnf)))
  · exact PSub.lit_sb (by simp; omega)
  · exact PSub.sb (by rw [Bool.eq_iff_iff]; simp; omega)

end Go.Abs

namespace Go.Abs
open Go.Proofs
set_option maxRecDepth 10000

def kLev : Key := ⟨1, (⟨#[108, 101, 118, 101, 108]⟩ : ByteArray), (⟨#[108, 101, 118, 101, 108]⟩ : ByteArray)⟩
theorem ex1 : homE homeX = 0 := by kernel_rfl
theorem ex2 : initL homeX 1 = [⟨⟨1, (⟨#[111, 110, 111, 102, 102]⟩ : ByteArray), (⟨#[111, 110]⟩ : ByteArray)⟩, ⟨1, 0, ⟨#[]⟩⟩, 1⟩, ⟨kLev, ⟨2, 0, ⟨#[]⟩⟩, 2⟩] := by kernel_rfl
def L1 : List Item := [⟨⟨1, (⟨#[111, 110, 111, 102, 102]⟩ : ByteArray), (⟨#[111, 110]⟩ : ByteArray)⟩, ⟨1, 0, ⟨#[]⟩⟩, 1⟩, ⟨kLev, ⟨2, 0, ⟨#[]⟩⟩, 2⟩]
theorem ex3 : setE homeX L1 kLev ⟨2, 7, ⟨#[]⟩⟩ false = 0 := by kernel_rfl
def L2 : List Item := [⟨⟨1, (⟨#[111, 110, 111, 102, 102]⟩ : ByteArray), (⟨#[111, 110]⟩ : ByteArray)⟩, ⟨1, 0, ⟨#[]⟩⟩, 1⟩, ⟨kLev, ⟨2, 7, ⟨#[]⟩⟩, 3⟩]
theorem ex4 : setL homeX L1 kLev ⟨2, 7, ⟨#[]⟩⟩ false = L2 := by kernel_rfl
theorem ex5 : setE homeX L1 kLev ⟨2, 101, ⟨#[]⟩⟩ false = 2 := by kernel_rfl
theorem ex6 : getI L2 kLev = ⟨kLev, ⟨2, 7, ⟨#[]⟩⟩, 3⟩ := by kernel_rfl
theorem ex7 : (findD homeX 1).room = (⟨#[104, 97, 108, 108]⟩ : ByteArray) := by kernel_rfl
theorem ex8 : decide (itemAt L2 kLev < L2.length) = true := by kernel_rfl

theorem sl {α : Type} {l : List α} (h : Nat.ble l.length 1048576 = true) : smallL l := Nat.le_of_ble_eq_true h

theorem smallK_std : ∀ i, smallK (stdC.getD i default) := by
  intro i
  have key : ∀ c ∈ stdC, smallK c := by
    intro c hc
    simp only [stdC, List.mem_cons, List.not_mem_nil, or_false] at hc
    have dA : ∀ i, smallA (List.getD [] i (default : Attr)) := fun i => Nat.zero_le _
    have dC : ∀ i, smallC (List.getD [] i (default : Cmd)) := fun i => ⟨Nat.zero_le _, Nat.zero_le _⟩
    have A1 : ∀ (a : Attr), smallA a → ∀ i, smallA (List.getD [a] i default) := fun a h i => by cases i with | zero => exact h | succ i => exact Nat.zero_le _
    have A2 : ∀ (a b : Attr), smallA a → smallA b → ∀ i, smallA (List.getD [a, b] i default) := fun a b h h2 i => by cases i with | zero => exact h | succ i => exact A1 b h2 i
    have C2 : ∀ (a b : Cmd), smallC a → smallC b → ∀ i, smallC (List.getD [a, b] i default) := fun a b h h2 i => by
      cases i with
      | zero => exact h
      | succ i => cases i with
        | zero => exact h2
        | succ i => exact ⟨Nat.zero_le _, Nat.zero_le _⟩
    have C3 : ∀ (a b c : Cmd), smallC a → smallC b → smallC c → ∀ i, smallC (List.getD [a, b, c] i default) := fun a b c h h2 h3 i => by cases i with | zero => exact h | succ i => exact C2 b c h2 h3 i
    have f : ∀ s w sf, smallA (flagA s w sf) := fun _ _ _ => Nat.zero_le _
    have n : ∀ s lo hi w, smallA (numA s lo hi w) := fun _ _ _ _ => Nat.zero_le _
    have c1 : ∀ s a k, smallC (setsC s a k) := fun _ _ _ => ⟨Nat.zero_le _, sl rfl⟩
    have c2 : ∀ s a e, smallA a → smallC ⟨s, a, [e]⟩ := fun _ _ _ h => ⟨h, sl rfl⟩
    rcases hc with rfl | rfl | rfl | rfl | rfl | rfl | rfl | rfl
    all_goals refine ⟨sl rfl, ?_, sl rfl, ?_, sl rfl⟩
    all_goals first
      | exact dA | exact dC | exact A1 _ (f _ _ _) | exact A1 _ (n _ _ _ _) | exact A2 _ _ (n _ _ _ _) (n _ _ _ _)
      | exact C2 _ _ (c1 _ _ _) (c1 _ _ _) | exact C2 _ _ (c2 _ _ _ (n _ _ _ _)) (c2 _ _ _ (Nat.zero_le _)) | exact C3 _ _ _ (c1 _ _ _) (c1 _ _ _) (c2 _ _ _ (Nat.zero_le _))
  by_cases h : i < stdC.length
  · have : stdC.getD i default = stdC[i] := by simp [List.getD, h]
    rw [this]; exact key _ (List.getElem_mem h)
  · have : stdC.getD i default = default := by simp [List.getD, Nat.le_of_not_lt h]
    rw [this]; exact ⟨Nat.zero_le _, fun _ => Nat.zero_le _, Nat.zero_le _, fun _ => ⟨Nat.zero_le _, Nat.zero_le _⟩, Nat.zero_le _⟩

theorem smallH_X : smallH homeX := by
  refine ⟨⟨sl rfl, smallK_std⟩, sl rfl, fun i => ?_⟩
  cases i with
  | zero => exact ⟨sl rfl, by decide, by decide⟩
  | succ i =>
    have : homeX.devices.getD (i + 1) default = default := rfl
    rw [this]; exact ⟨Nat.zero_le _, by decide, by decide⟩

theorem ac15 : AC Tryd.prog 15 [] [] (.pv (vbool true)) [] := by
  refine AC.of_awp (T := T) T_ok hm Tryd.call15 Tryd.func15 rfl rfl rfl ?_
  conv => whnf
  refine .inl ⟨_, ac47, ?_⟩
  conv => whnf
  refine .inl ⟨_, ac19 homeX 1 smallH_X, ?_⟩
  rw [ex2]
  conv => whnf
  refine .inl ⟨_, ac21 homeX L1 kLev ⟨2, 7, ⟨#[]⟩⟩ smallH_X (sl rfl), ?_⟩
  rw [ex3, ex4]
  conv => whnf
  refine .inl ⟨_, ac16 L2 kLev (sl rfl), ?_⟩
  rw [ex6, ex8]
  conv => whnf
  refine .inl ⟨_, ac21 homeX L1 kLev ⟨2, 101, ⟨#[]⟩⟩ smallH_X (sl rfl), ?_⟩
  rw [ex5]
  conv => whnf
  refine .inl ⟨_, ac13 homeX smallH_X, ?_⟩
  rw [ex1]
  conv => whnf
  repeat (any_goals (first
    | (refine ⟨fun (h : (_ : Bool) = true) => ?_, fun (h : (_ : Bool) = false) => ?_⟩ <;> (try simp only [decide_eq_true_eq, decide_eq_false_iff_not, Bool.not_eq_true', Bool.not_eq_false', Int.toNat_natCast, beq_iff_eq, decide_eq_decide, beq_eq_false_iff_ne, ne_eq, reduceCtorEq] at h) <;> (conv => whnf))
    | (refine .inl ⟨_, ac31 homeX 1 smallH_X, ?_⟩; conv => whnf)
    | (refine And.intro (by (try simp only [Int.toNat_natCast]); omega) ?_; conv => whnf)
    | (refine And.intro (by kernel_rfl) ?_; conv => whnf)
    | (refine .inl ⟨wrap64 (by omega), ?_⟩; conv => whnf)))
  all_goals first
    | exact PSub.sb (by rw [ex7]; rfl)
    | exact absurd trivial h
    | exact absurd rfl h
    | (exfalso; exact h (by kernel_rfl))

end Go.Abs

namespace Go.Abs
open Go.Proofs Go.RowKit
set_option maxRecDepth 10000

section
variable {H : Type} {enc : TypeId × Value → H} {w : World} {bulk : DataW H → Nat}
abbrev BB : Nat := 1048576

def inI64 (n : Int) : Prop := -9223372036854775808 ≤ n ∧ n ≤ 9223372036854775807
theorem wf64 {n : Int} (h : (Lit.int .i64 n).wf = true) : inI64 n := by
  simp only [Lit.wf, Bool.and_eq_true, decide_eq_true_eq] at h
  exact h

theorem op3 : Opens enc Tryd.prog w bulk BB 3 cint inI64 := (Opens.int Tryd.underlying3).imp id (fun _ => rfl) (fun _ h => wf64 h)
theorem op71 : Opens enc Tryd.prog w bulk BB 71 (fun n : Int => [.val (.int .u64 n)]) (fun _ => True) := (Opens.int Tryd.underlying71).imp id (fun _ => rfl) (fun _ _ => trivial)
theorem op4 : Opens enc Tryd.prog w bulk BB 4 (fun b : Bool => [vbool b]) (fun _ => True) := Opens.bool Tryd.underlying4
theorem op9 (hB : BulkOk bulk) : Opens enc Tryd.prog w bulk BB 9 cstr (fun s => s.size ≤ 1048576) := Opens.str hB Tryd.underlying9

theorem op47 (hB : BulkOk bulk) : Opens enc Tryd.prog w bulk BB 47 (fun l : List ByteArray => [roL 1 cstr l]) smallL :=
  (Opens.slice hB Tryd.underlying47 (by kernel_rfl) (by decide) (op9 hB)).imp id (fun _ => rfl) (fun _ h => h.1)

def goodKey (k : Key) : Prop := inI64 k.dev
theorem op32 (hB : BulkOk bulk) : Opens enc Tryd.prog w bulk BB 32 cKey goodKey :=
  (Opens.struct hB Tryd.underlying32 (by kernel_rfl) (.cons (size := 1) rfl (by kernel_rfl) op3 (.cons (size := 1) rfl (by kernel_rfl) (op9 hB) (.cons (size := 1) rfl (by kernel_rfl) (op9 hB) .nil)))).imp (fun x => ⟨x.1, x.2.1, x.2.2.1⟩) (fun _ => rfl) (fun _ h => h.1)

def goodVal (v : Val) : Prop := inI64 v.kind ∧ inI64 v.n
theorem op34 (hB : BulkOk bulk) : Opens enc Tryd.prog w bulk BB 34 cVal goodVal :=
  (Opens.struct hB Tryd.underlying34 (by kernel_rfl) (.cons (size := 1) rfl (by kernel_rfl) op3 (.cons (size := 1) rfl (by kernel_rfl) op3 (.cons (size := 1) rfl (by kernel_rfl) (op9 hB) .nil)))).imp (fun x => ⟨x.1, x.2.1, x.2.2.1⟩) (fun _ => rfl) (fun _ h => ⟨h.1, h.2.1⟩)

def goodItem (x : Item) : Prop := goodKey x.key ∧ goodVal x.value ∧ inI64 x.version
theorem op38 (hB : BulkOk bulk) : Opens enc Tryd.prog w bulk BB 38 cItem goodItem :=
  (Opens.struct hB Tryd.underlying38 (by kernel_rfl) (.cons (size := 3) rfl (by kernel_rfl) (op32 hB) (.cons (size := 3) rfl (by kernel_rfl) (op34 hB) (.cons (size := 1) rfl (by kernel_rfl) op3 .nil)))).imp (fun x => ⟨x.1, x.2.1, x.2.2.1⟩) (fun _ => rfl) (fun _ h => ⟨h.1, h.2.1, h.2.2.1⟩)
def goodItems (l : List Item) : Prop := smallL l ∧ ∀ i, i < l.length → goodItem (l.getD i default)
theorem op30 (hB : BulkOk bulk) : Opens enc Tryd.prog w bulk BB 30 (fun l : List Item => [roL 7 cItem l]) goodItems :=
  (Opens.slice hB Tryd.underlying30 (by kernel_rfl) (by decide) (op38 hB)).imp id (fun _ => rfl) (fun _ h => h)

theorem op49 (hB : BulkOk bulk) : Opens enc Tryd.prog w bulk BB 49 cAttr smallA :=
  (Opens.struct hB Tryd.underlying49 (by kernel_rfl) (.cons (size := 1) rfl (by kernel_rfl) (op9 hB) (.cons (size := 1) rfl (by kernel_rfl) op3 (.cons (size := 1) rfl (by kernel_rfl) op3 (.cons (size := 1) rfl (by kernel_rfl) op3 (.cons (size := 1) rfl (by kernel_rfl) (op47 hB) (.cons (size := 1) rfl (by kernel_rfl) op4 (.cons (size := 1) rfl (by kernel_rfl) op4 .nil)))))))).imp
    (fun x => ⟨x.1, x.2.1, x.2.2.1, x.2.2.2.1, x.2.2.2.2.1, x.2.2.2.2.2.1, x.2.2.2.2.2.2.1⟩) (fun _ => rfl) (fun _ h => h.2.2.2.2.1)

theorem getD_all {α : Type} [Inhabited α] {l : List α} {p : α → Prop} (h : ∀ i, i < l.length → p (l.getD i default)) (hd : p default) (i : Nat) : p (l.getD i default) := by
  by_cases hi : i < l.length
  · exact h i hi
  · have : l.getD i default = default := by simp [List.getD, Nat.le_of_not_lt hi]
    rw [this]; exact hd

theorem op88 (hB : BulkOk bulk) : Opens enc Tryd.prog w bulk BB 88 (fun l : List Attr => [roL 7 cAttr l]) (fun l => smallL l ∧ ∀ i, smallA (l.getD i default)) :=
  (Opens.slice hB Tryd.underlying88 (by kernel_rfl) (by decide) (op49 hB)).imp id (fun _ => rfl) (fun _ h => ⟨h.1, getD_all h.2 (Nat.zero_le _)⟩)

theorem op129 (hB : BulkOk bulk) : Opens enc Tryd.prog w bulk BB 129 cEff (fun _ => True) :=
  (Opens.struct hB Tryd.underlying129 (by kernel_rfl) (.cons (size := 1) rfl (by kernel_rfl) op3 (.cons (size := 1) rfl (by kernel_rfl) (op9 hB) (.cons (size := 1) rfl (by kernel_rfl) op3 .nil)))).imp (fun x => ⟨x.1, x.2.1, x.2.2.1⟩) (fun _ => rfl) (fun _ _ => trivial)
theorem op121 (hB : BulkOk bulk) : Opens enc Tryd.prog w bulk BB 121 (fun l : List Eff => [roL 3 cEff l]) smallL :=
  (Opens.slice hB Tryd.underlying121 (by kernel_rfl) (by decide) (op129 hB)).imp id (fun _ => rfl) (fun _ h => h.1)

theorem op123 (hB : BulkOk bulk) : Opens enc Tryd.prog w bulk BB 123 cCmd smallC :=
  (Opens.struct hB Tryd.underlying123 (by kernel_rfl) (.cons (size := 1) rfl (by kernel_rfl) (op9 hB) (.cons (size := 7) rfl (by kernel_rfl) (op49 hB) (.cons (size := 1) rfl (by kernel_rfl) (op121 hB) .nil)))).imp (fun x => ⟨x.1, x.2.1, x.2.2.1⟩) (fun _ => rfl) (fun _ h => ⟨h.2.1, h.2.2.1⟩)
theorem op89 (hB : BulkOk bulk) : Opens enc Tryd.prog w bulk BB 89 (fun l : List Cmd => [roL 9 cCmd l]) (fun l => smallL l ∧ ∀ i, smallC (l.getD i default)) :=
  (Opens.slice hB Tryd.underlying89 (by kernel_rfl) (by decide) (op123 hB)).imp id (fun _ => rfl) (fun _ h => ⟨h.1, getD_all h.2 ⟨Nat.zero_le _, Nat.zero_le _⟩⟩)

theorem op91 (hB : BulkOk bulk) : Opens enc Tryd.prog w bulk BB 91 cClu smallK :=
  (Opens.struct hB Tryd.underlying91 (by kernel_rfl) (.cons (size := 1) rfl (by kernel_rfl) (op9 hB) (.cons (size := 1) rfl (by kernel_rfl) (op88 hB) (.cons (size := 1) rfl (by kernel_rfl) (op89 hB) (.cons (size := 1) rfl (by kernel_rfl) (op47 hB) .nil))))).imp (fun x => ⟨x.1, x.2.1, x.2.2.1, x.2.2.2.1⟩) (fun _ => rfl) (fun _ h => ⟨h.2.1.1, h.2.1.2, h.2.2.1.1, h.2.2.1.2, h.2.2.2.1⟩)
theorem small_default : smallK default := ⟨Nat.zero_le _, fun _ => Nat.zero_le _, Nat.zero_le _, fun _ => ⟨Nat.zero_le _, Nat.zero_le _⟩, Nat.zero_le _⟩
theorem op22 (hB : BulkOk bulk) : Opens enc Tryd.prog w bulk BB 22 (fun l : List Clu => [roL 4 cClu l]) smallKs :=
  (Opens.slice hB Tryd.underlying22 (by kernel_rfl) (by decide) (op91 hB)).imp id (fun _ => rfl) (fun _ h => ⟨h.1, getD_all h.2 small_default⟩)

theorem op73 (hB : BulkOk bulk) : Opens enc Tryd.prog w bulk BB 73 cDev smallD :=
  (Opens.struct hB Tryd.underlying73 (by kernel_rfl) (.cons (size := 1) rfl (by kernel_rfl) op3 (.cons (size := 1) rfl (by kernel_rfl) op71 (.cons (size := 1) rfl (by kernel_rfl) op3 (.cons (size := 1) rfl (by kernel_rfl) op4 (.cons (size := 1) rfl (by kernel_rfl) op3 (.cons (size := 1) rfl (by kernel_rfl) (op9 hB) (.cons (size := 1) rfl (by kernel_rfl) (op47 hB) .nil)))))))).imp
    (fun x => ⟨x.1, x.2.1, x.2.2.1, x.2.2.2.1, x.2.2.2.2.1, x.2.2.2.2.2.1, x.2.2.2.2.2.2.1⟩) (fun _ => rfl) (fun _ h => ⟨h.2.2.2.2.2.2.1, h.1.1, h.1.2⟩)
theorem op23 (hB : BulkOk bulk) : Opens enc Tryd.prog w bulk BB 23 (fun l : List Dev => [roL 7 cDev l]) (fun l => smallL l ∧ ∀ i, smallD (l.getD i default)) :=
  (Opens.slice hB Tryd.underlying23 (by kernel_rfl) (by decide) (op73 hB)).imp id (fun _ => rfl) (fun _ h => ⟨h.1, getD_all h.2 ⟨Nat.zero_le _, by decide, by decide⟩⟩)
theorem op25 (hB : BulkOk bulk) : Opens enc Tryd.prog w bulk BB 25 cHom smallH :=
  (Opens.struct hB Tryd.underlying25 (by kernel_rfl) (.cons (size := 1) rfl (by kernel_rfl) (op22 hB) (.cons (size := 1) rfl (by kernel_rfl) (op23 hB) .nil))).imp (fun x => ⟨x.1, x.2.1⟩) (fun _ => rfl) (fun _ h => ⟨h.1, h.2.1.1, h.2.1.2⟩)
end

end Go.Abs

namespace Go.Abs
open Go.Proofs
set_option maxRecDepth 10000

theorem ac3 (H : Hom) (hH : smallH H) : AC Tryd.prog 3 [.pv (.agg (cHom H))] [] (.pv (vbool true)) [] := by
  refine AC.of_awp (T := T) T_ok hm Tryd.call3 Tryd.func3 rfl rfl rfl ?_
  conv => whnf
  repeat (any_goals (first
    | (refine ⟨fun (h : (_ : Bool) = true) => ?_, fun (h : (_ : Bool) = false) => ?_⟩ <;> (try simp only [decide_eq_true_eq, decide_eq_false_iff_not, Bool.not_eq_true', Bool.not_eq_false', Int.toNat_natCast, beq_iff_eq, decide_eq_decide, beq_eq_false_iff_ne, ne_eq, reduceCtorEq] at h) <;> (conv => whnf))
    | (refine .inl ⟨_, ac12 H, ?_⟩; conv => whnf)
    | (refine .inl ⟨_, ac13 H hH, ?_⟩; conv => whnf)
    | (refine .inl ⟨_, ac14 H hH, ?_⟩; conv => whnf)
    | (refine .inl ⟨_, ac15, ?_⟩; conv => whnf)
    | (refine And.intro (by (try simp only [Int.toNat_natCast]); omega) ?_; conv => whnf)
    | (refine And.intro (by kernel_rfl) ?_; conv => whnf)
    | (refine .inl ⟨wrap64 (by omega), ?_⟩; conv => whnf)))
  all_goals first
    | exact PSub.lit_sb rfl
    | exact PSub.rfl
    | (exfalso; simp_all; done)

theorem keyLess_def (a b : Key) : keyLess a b = if a.dev ≠ b.dev then decide (a.dev < b.dev) else if a.cluster ≠ b.cluster then sLt a.cluster b.cluster else sLt a.attr b.attr := rfl

theorem keyLess_irrefl (a : Key) : keyLess a a = false := by
  rw [keyLess_def]; simp [sLt_irrefl]

theorem keyLess_total {a b : Key} (h : a ≠ b) : keyLess a b = true ∨ keyLess b a = true := by
  rw [keyLess_def, keyLess_def]
  by_cases h1 : a.dev = b.dev
  · by_cases h2 : a.cluster = b.cluster
    · by_cases h3 : a.attr = b.attr
      · exfalso; apply h; cases a; cases b; simp_all
      · simp [h1, h2]; exact sLt_total h3
    · simp [h1, h2, Ne.symm h2]; exact sLt_total h2
  · simp [h1, Ne.symm h1]; omega

theorem keyLess_trans {a b c : Key} (h : keyLess a b = true) (k : keyLess b c = true) : keyLess a c = true := by
  rw [keyLess_def] at *
  by_cases h1 : a.dev = b.dev <;> by_cases k1 : b.dev = c.dev
  · by_cases h2 : a.cluster = b.cluster <;> by_cases k2 : b.cluster = c.cluster
    · simp_all; exact sLt_trans h k
    · simp_all
    · have : a.cluster ≠ c.cluster := fun e => h2 (e.trans k2.symm)
      simp_all
    · have h3 : sLt a.cluster b.cluster = true := by simp_all
      have k3 : sLt b.cluster c.cluster = true := by simp_all
      have t := sLt_trans h3 k3
      have : a.cluster ≠ c.cluster := fun e => by rw [e, sLt_irrefl] at t; cases t
      simp [h1, k1, this]; exact t
  · simp [h1, k1] at h k ⊢; exact k
  · have : a.dev ≠ c.dev := fun e => h1 (e.trans k1.symm)
    simp [h1] at h
    simp [this]; omega
  · simp [h1] at h
    simp [k1] at k
    have : a.dev ≠ c.dev := by omega
    simp [this]; omega

theorem keyLess_asymm {a b : Key} (h : keyLess a b = true) : keyLess b a = false := by
  rw [← Bool.not_eq_true]
  intro k
  have := keyLess_trans h k
  rw [keyLess_irrefl] at this; cases this

theorem key_eq (a b : Key) : (decide (a.dev = b.dev) && (decide (a.cluster = b.cluster) && (decide (a.attr = b.attr) && true))) = decide (a = b) := by
  obtain ⟨a1, a2, a3⟩ := a
  obtain ⟨b1, b2, b3⟩ := b
  rw [Bool.eq_iff_iff]; simp

theorem ac7 (a b c : Key) : AC Tryd.prog 7 [.pv (.agg (cKey a)), .pv (.agg (cKey b)), .pv (.agg (cKey c))] [] (.pv (vbool true)) [] := by
  have e1 := keyLess_irrefl a
  have e2 : keyLess a b = true → keyLess b a = false := keyLess_asymm
  have e3 : a ≠ b → keyLess a b = true ∨ keyLess b a = true := keyLess_total
  have e4 : keyLess a b = true → keyLess b c = true → keyLess a c = true := keyLess_trans
  have e5 : a = b → keyLess a b = false := fun h => by rw [h]; exact keyLess_irrefl b
  have e6 : a = b → keyLess b a = false := fun h => by rw [h]; exact keyLess_irrefl b
  refine AC.of_awp (T := T) T_ok hm Tryd.call7 Tryd.func7 rfl rfl rfl ?_
  conv => whnf
  repeat (any_goals (first
    | (refine ⟨fun (h : (_ : Bool) = true) => ?_, fun (h : (_ : Bool) = false) => ?_⟩ <;> (try simp only [decide_eq_true_eq, decide_eq_false_iff_not, Bool.not_eq_true', Bool.not_eq_false', Int.toNat_natCast, beq_iff_eq, decide_eq_decide, beq_eq_false_iff_ne, ne_eq, reduceCtorEq] at h) <;> (conv => whnf))
    | (refine .inl ⟨_, ac35 a b, ?_⟩; conv => whnf)
    | (refine .inl ⟨_, ac35 b a, ?_⟩; conv => whnf)
    | (refine .inl ⟨_, ac35 a a, ?_⟩; conv => whnf)
    | (refine .inl ⟨_, ac35 b c, ?_⟩; conv => whnf)
    | (refine .inl ⟨_, ac35 a c, ?_⟩; conv => whnf)
    | (refine .inl ⟨_, ac15, ?_⟩; conv => whnf)
    | (refine And.intro (by (try simp only [Int.toNat_natCast]); omega) ?_; conv => whnf)
    | (refine And.intro (by kernel_rfl) ?_; conv => whnf)
    | (refine .inl ⟨wrap64 (by omega), ?_⟩; conv => whnf)))
  all_goals first
    | exact PSub.rfl
    | (exfalso; (try simp only [key_eq] at *); by_cases hab : a = b <;> simp_all; done)

end Go.Abs

namespace Go.Abs
open Go.Proofs
set_option maxRecDepth 10000

theorem item_eq (a b : Item) : (decide (a.key.dev = b.key.dev) && (decide (a.key.cluster = b.key.cluster) && (decide (a.key.attr = b.key.attr) && (decide (a.value.kind = b.value.kind) && (decide (a.value.n = b.value.n) && (decide (a.value.s = b.value.s) && (decide (a.version = b.version) && true))))))) = decide (a = b) := by
  obtain ⟨⟨a1, a2, a3⟩, ⟨a4, a5, a6⟩, a7⟩ := a
  obtain ⟨⟨b1, b2, b3⟩, ⟨b4, b5, b6⟩, b7⟩ := b
  rw [Bool.eq_iff_iff]; simp [and_assoc]

theorem ac18 (a b : List Item) (ha : a.length ≤ 4194304) : AC Tryd.prog 18 [.pv (roL 7 cItem a), .pv (roL 7 cItem b)] [] (.pv (vbool (decide (a = b)))) [] := by
  refine AC.of_awp (T := T) T_ok hm Tryd.call18 Tryd.func18 rfl rfl rfl ?_
  conv => whnf
  refine ⟨fun h => ?_, fun h => ?_⟩ <;> (try simp only [decide_eq_true_eq, decide_eq_false_iff_not, Bool.not_eq_true', Bool.not_eq_false', Int.toNat_natCast, beq_iff_eq, decide_eq_decide, beq_eq_false_iff_ne, ne_eq, reduceCtorEq] at h) <;> (conv => whnf)
  · exact PSub.lit_sb (by symm; simp only [decide_eq_false_iff_not]; intro e; exact h (by rw [e]))
  have hl := h
  refine loop_k (ι := Nat) [0, 1] [] (fun k => k ≤ a.length ∧ (∀ j, j < k → a.getD j default = b.getD j default)) (fun k => a.length - k) 0 (fun k => [(5, .pv (vint k))]) (fun _ => []) [] ⟨Nat.zero_le _, fun j h => absurd h (by omega)⟩ ?_ (fun k hk => ?_)
  · (repeat' (first | exact PSub.rfl | exact rfl | exact PSubs.rfl | exact trivial | refine And.intro ?_ ?_))
  obtain ⟨hkn, hinv⟩ := hk
  conv => whnf
  repeat (any_goals (first
    | (refine ⟨fun (h : (_ : Bool) = true) => ?_, fun (h : (_ : Bool) = false) => ?_⟩ <;> (try simp only [decide_eq_true_eq, decide_eq_false_iff_not, Bool.not_eq_true', Bool.not_eq_false', Int.toNat_natCast, beq_iff_eq, decide_eq_decide, beq_eq_false_iff_ne, ne_eq, reduceCtorEq] at h) <;> (conv => whnf))
    | (refine And.intro (by (try simp only [Int.toNat_natCast]); omega) ?_; conv => whnf)
    | (refine And.intro (by kernel_rfl) ?_; conv => whnf)
    | (refine .inl ⟨wrap64 (by omega), ?_⟩; conv => whnf)))
  all_goals try rw [item_eq] at h
  all_goals try simp only [decide_eq_true_eq, decide_eq_false_iff_not] at h
  · exact PSub.lit_sb (by symm; simp only [decide_eq_false_iff_not]; intro e; exact h (by rw [e]))
  · refine ⟨k + 1, [], ⟨by omega, ?_⟩, by first | omega | (dsimp only; omega), ?_⟩
    rotate_left
    · (repeat' (first | exact PSub.rfl | exact rfl | exact PSubs.rfl | exact trivial | refine And.intro ?_ ?_))
    intro j hj
    by_cases e : j = k
    · subst e; first | exact h | simpa [-List.getD_eq_getElem?_getD] using h | simp_all [-List.getD_eq_getElem?_getD]
    · exact hinv j (by omega)
  · exact PSub.lit_sb (by symm; simp only [decide_eq_true_eq]; exact list_eq (by omega) fun i hi => hinv i (by omega))

theorem ac28 (a b : List Key) (ha : a.length ≤ 4194304) : AC Tryd.prog 28 [.pv (roL 3 cKey a), .pv (roL 3 cKey b)] [] (.pv (vbool (decide (a = b)))) [] := by
  refine AC.of_awp (T := T) T_ok hm Tryd.call28 Tryd.func28 rfl rfl rfl ?_
  conv => whnf
  refine ⟨fun h => ?_, fun h => ?_⟩ <;> (try simp only [decide_eq_true_eq, decide_eq_false_iff_not, Bool.not_eq_true', Bool.not_eq_false', Int.toNat_natCast, beq_iff_eq, decide_eq_decide, beq_eq_false_iff_ne, ne_eq, reduceCtorEq] at h) <;> (conv => whnf)
  · exact PSub.lit_sb (by symm; simp only [decide_eq_false_iff_not]; intro e; exact h (by rw [e]))
  have hl := h
  refine loop_k (ι := Nat) [0, 1] [] (fun k => k ≤ a.length ∧ (∀ j, j < k → a.getD j default = b.getD j default)) (fun k => a.length - k) 0 (fun k => [(5, .pv (vint k))]) (fun _ => []) [] ⟨Nat.zero_le _, fun j h => absurd h (by omega)⟩ ?_ (fun k hk => ?_)
  · (repeat' (first | exact PSub.rfl | exact rfl | exact PSubs.rfl | exact trivial | refine And.intro ?_ ?_))
  obtain ⟨hkn, hinv⟩ := hk
  conv => whnf
  repeat (any_goals (first
    | (refine ⟨fun (h : (_ : Bool) = true) => ?_, fun (h : (_ : Bool) = false) => ?_⟩ <;> (try simp only [decide_eq_true_eq, decide_eq_false_iff_not, Bool.not_eq_true', Bool.not_eq_false', Int.toNat_natCast, beq_iff_eq, decide_eq_decide, beq_eq_false_iff_ne, ne_eq, reduceCtorEq] at h) <;> (conv => whnf))
    | (refine And.intro (by (try simp only [Int.toNat_natCast]); omega) ?_; conv => whnf)
    | (refine And.intro (by kernel_rfl) ?_; conv => whnf)
    | (refine .inl ⟨wrap64 (by omega), ?_⟩; conv => whnf)))
  all_goals try rw [key_eq] at h
  all_goals try simp only [decide_eq_true_eq, decide_eq_false_iff_not] at h
  · exact PSub.lit_sb (by symm; simp only [decide_eq_false_iff_not]; intro e; exact h (by rw [e]))
  · refine ⟨k + 1, [], ⟨by omega, ?_⟩, by first | omega | (dsimp only; omega), ?_⟩
    rotate_left
    · (repeat' (first | exact PSub.rfl | exact rfl | exact PSubs.rfl | exact trivial | refine And.intro ?_ ?_))
    intro j hj
    by_cases e : j = k
    · subst e; first | exact h | simpa [-List.getD_eq_getElem?_getD] using h | simp_all [-List.getD_eq_getElem?_getD]
    · exact hinv j (by omega)
  · exact PSub.lit_sb (by symm; simp only [decide_eq_true_eq]; exact list_eq (by omega) fun i hi => hinv i (by omega))

theorem ac27 (a b : Attr) (ha : smallA a) : AC Tryd.prog 27 [.pv (.agg (cAttr a)), .pv (.agg (cAttr b))] [] (.pv (vbool (decide (a = b)))) [] := by
  have e : decide (a = b) = (decide (a.name = b.name) && (decide (a.kind = b.kind) && (decide (a.min = b.min) && (decide (a.max = b.max) && (decide (a.writable = b.writable) && (decide (a.safety = b.safety) && decide (a.enum = b.enum))))))) := by
    obtain ⟨a1, a2, a3, a4, a5, a6, a7⟩ := a
    obtain ⟨b1, b2, b3, b4, b5, b6, b7⟩ := b
    rw [Bool.eq_iff_iff]; simp [and_assoc, and_comm, and_left_comm]
  rw [e]
  refine AC.of_awp (T := T) T_ok hm Tryd.call27 Tryd.func27 rfl rfl rfl ?_
  conv => whnf
  repeat (any_goals (first
    | (refine ⟨fun (h : (_ : Bool) = true) => ?_, fun (h : (_ : Bool) = false) => ?_⟩ <;> (try simp only [decide_eq_true_eq, decide_eq_false_iff_not, Bool.not_eq_true', Bool.not_eq_false', Int.toNat_natCast, beq_iff_eq, decide_eq_decide, beq_eq_false_iff_ne, ne_eq, reduceCtorEq] at h) <;> (conv => whnf))
    | (refine .inl ⟨_, ac60 a.enum b.enum ha, ?_⟩; conv => whnf)
    | (refine And.intro (by (try simp only [Int.toNat_natCast]); omega) ?_; conv => whnf)
    | (refine And.intro (by kernel_rfl) ?_; conv => whnf)
    | (refine .inl ⟨wrap64 (by omega), ?_⟩; conv => whnf)))
  all_goals first | (refine PSub.sb ?_; simp_all; done) | (refine PSub.lit_sb ?_; simp_all; done) | trace_state

structure Op where
  H : Hom
  L : List Item
  K : Key
  V : Val
  deriving Inhabited
def cOp (x : Op) : List PV := cHom x.H ++ (roL 7 cItem x.L :: (cKey x.K ++ cVal x.V))

theorem getI_eq (a b : Item) : a = b → decide (a = b) = true := fun h => by simp [h]

theorem initL_length {H : Hom} {id : Int} : (initL H id).length = (keysL H id).length := by simp [initL]

theorem ac4 (H : Hom) (id : Int) (x : Op) (hH : smallH H) (hl : smallL x.L) : AC Tryd.prog 4 [.pv (.agg (cHom H)), .pv (vint id), .pv (.agg (cOp x))] [] (.pv (vbool true)) [] := by
  have hk : (initL H id).length ≤ 4194304 := by rw [initL_length]; exact keysL_length hH
  refine AC.of_awp (T := T) T_ok hm Tryd.call4 Tryd.func4 rfl rfl rfl ?_
  conv => whnf
  repeat (any_goals (first
    | (refine ⟨fun (h : (_ : Bool) = true) => ?_, fun (h : (_ : Bool) = false) => ?_⟩ <;> (try simp only [decide_eq_true_eq, decide_eq_false_iff_not, Bool.not_eq_true', Bool.not_eq_false', Int.toNat_natCast, beq_iff_eq, decide_eq_decide, beq_eq_false_iff_ne, ne_eq, reduceCtorEq] at h) <;> (conv => whnf))
    | (refine .inl ⟨_, ac12 H, ?_⟩; conv => whnf)
    | (refine .inl ⟨_, ac15, ?_⟩; conv => whnf)
    | (refine .inl ⟨_, ac16 x.L x.K hl, ?_⟩; conv => whnf)
    | (refine .inl ⟨_, ac17 x.L x.K hl, ?_⟩; conv => whnf)
    | (refine .inl ⟨_, ac19 H id hH, ?_⟩; conv => whnf)
    | (refine .inl ⟨_, ac20 H id hH, ?_⟩; conv => whnf)
    | (refine .inl ⟨_, ac18 (initL H id) (initL H id) hk, ?_⟩; conv => whnf)
    | (refine And.intro (by (try simp only [Int.toNat_natCast]); omega) ?_; conv => whnf)
    | (refine And.intro (by kernel_rfl) ?_; conv => whnf)
    | (refine .inl ⟨wrap64 (by omega), ?_⟩; conv => whnf)))
  all_goals first
    | exact PSub.rfl
    | exact PSub.lit_sb rfl
    | exact absurd trivial h
    | (exfalso; simp_all; done)

theorem ac5 (x : Op) (hH : smallH x.H) (hl : smallL x.L) : AC Tryd.prog 5 [.pv (.agg (cOp x))] [] (.pv (vbool true)) [] := by
  have hs : ∀ w, (setL x.H x.L x.K x.V w).length ≤ 4194304 := fun w => by
    have : x.L.length ≤ 1048576 := hl
    rw [setL]; split
    · rw [putL_length]; omega
    · exact Nat.zero_le _
  refine AC.of_awp (T := T) T_ok hm Tryd.call5 Tryd.func5 rfl rfl rfl ?_
  conv => whnf
  repeat (any_goals (first
    | (refine ⟨fun (h : (_ : Bool) = true) => ?_, fun (h : (_ : Bool) = false) => ?_⟩ <;> (try simp only [decide_eq_true_eq, decide_eq_false_iff_not, Bool.not_eq_true', Bool.not_eq_false', Int.toNat_natCast, beq_iff_eq, decide_eq_decide, beq_eq_false_iff_ne, ne_eq, reduceCtorEq] at h) <;> (conv => whnf))
    | (refine .inl ⟨_, ac12 x.H, ?_⟩; conv => whnf)
    | (refine .inl ⟨_, ac15, ?_⟩; conv => whnf)
    | (refine .inl ⟨_, ac21 x.H x.L x.K x.V hH hl, ?_⟩; conv => whnf)
    | (refine .inl ⟨_, ac22 x.H x.L x.K x.V hH hl, ?_⟩; conv => whnf)
    | (refine .inl ⟨_, ac23 x.H x.L x.K x.V hH hl, ?_⟩; conv => whnf)
    | (refine .inl ⟨_, ac24 x.H x.L x.K x.V hH hl, ?_⟩; conv => whnf)
    | (refine .inl ⟨_, ac18 (setL x.H x.L x.K x.V false) (setL x.H x.L x.K x.V false) (hs false), ?_⟩; conv => whnf)
    | (refine .inl ⟨_, ac18 (setL x.H x.L x.K x.V true) (setL x.H x.L x.K x.V true) (hs true), ?_⟩; conv => whnf)
    | (refine And.intro (by (try simp only [Int.toNat_natCast]); omega) ?_; conv => whnf)
    | (refine And.intro (by kernel_rfl) ?_; conv => whnf)
    | (refine .inl ⟨wrap64 (by omega), ?_⟩; conv => whnf)))
  all_goals first
    | exact PSub.rfl
    | exact PSub.lit_sb rfl
    | exact absurd trivial h
    | (exfalso; simp_all; done)

theorem ac6 (H : Hom) (id : Int) (k : Key) (hH : smallH H) : AC Tryd.prog 6 [.pv (.agg (cHom H)), .pv (vint id), .pv (.agg (cKey k))] [] (.pv (vbool true)) [] := by
  have hk := keysL_length hH (id := id)
  refine AC.of_awp (T := T) T_ok hm Tryd.call6 Tryd.func6 rfl rfl rfl ?_
  conv => whnf
  repeat (any_goals (first
    | (refine ⟨fun (h : (_ : Bool) = true) => ?_, fun (h : (_ : Bool) = false) => ?_⟩ <;> (try simp only [decide_eq_true_eq, decide_eq_false_iff_not, Bool.not_eq_true', Bool.not_eq_false', Int.toNat_natCast, beq_iff_eq, decide_eq_decide, beq_eq_false_iff_ne, ne_eq, reduceCtorEq] at h) <;> (conv => whnf))
    | (refine .inl ⟨_, ac12 H, ?_⟩; conv => whnf)
    | (refine .inl ⟨_, ac15, ?_⟩; conv => whnf)
    | (refine .inl ⟨_, ac25 H k hH, ?_⟩; conv => whnf)
    | (refine .inl ⟨_, ac26 H k hH, ?_⟩; conv => whnf)
    | (refine .inl ⟨_, ac27 ((findA H k).getD noAttr) ((findA H k).getD noAttr) (small_findA hH), ?_⟩; conv => whnf)
    | (refine .inl ⟨_, ac29 H id hH, ?_⟩; conv => whnf)
    | (refine .inl ⟨_, ac30 H id hH, ?_⟩; conv => whnf)
    | (refine .inl ⟨_, ac28 (keysL H id) (keysL H id) hk, ?_⟩; conv => whnf)
    | (refine .inl ⟨_, ac31 H id hH, ?_⟩; conv => whnf)
    | (refine .inl ⟨_, ac32 H id hH, ?_⟩; conv => whnf)
    | (refine .inl ⟨_, ac33 H k hH, ?_⟩; conv => whnf)
    | (refine .inl ⟨_, ac34 H k hH, ?_⟩; conv => whnf)
    | (refine And.intro (by (try simp only [Int.toNat_natCast]); omega) ?_; conv => whnf)
    | (refine And.intro (by kernel_rfl) ?_; conv => whnf)
    | (refine .inl ⟨wrap64 (by omega), ?_⟩; conv => whnf)))
  all_goals first
    | exact PSub.rfl
    | exact PSub.lit_sb rfl
    | exact absurd trivial h
    | (exfalso; simp_all; done)

section
variable {H : Type} {enc : TypeId × Value → H} {w : World} {bulk : DataW H → Nat}
theorem op36 (hB : BulkOk bulk) : Opens enc Tryd.prog w bulk BB 36 cOp (fun x => smallH x.H ∧ goodItems x.L ∧ goodKey x.K ∧ goodVal x.V) :=
  (Opens.struct hB Tryd.underlying36 (by kernel_rfl) (.cons (size := 2) rfl (by kernel_rfl) (op25 hB) (.cons (size := 1) rfl (by kernel_rfl) (op30 hB) (.cons (size := 3) rfl (by kernel_rfl) (op32 hB) (.cons (size := 3) rfl (by kernel_rfl) (op34 hB) .nil))))).imp (fun x => ⟨x.1, x.2.1, x.2.2.1, x.2.2.2.1⟩) (fun _ => rfl) (fun _ h => ⟨h.1, h.2.1, h.2.2.1, h.2.2.2.1⟩)
end

end Go.Abs

namespace Go.Proofs.YtdnppfhapkdlfaaDoor
open Go.ChangeShapes Go.WideShapes Go.ChangeAt Go.RowKit Go.Abs

theorem own : ownKnob Tryd.prog.godebug = none := by kernel_rfl
theorem laidOut : laidOutB Tryd.prog = true := by kernel_rfl

theorem glob {W : World} (h : laidMetH Tryd.prog [("homehub/cluster.standard", Rows.laid_homehub_cluster_standard)] W) : Glob W (fun _ => False) := by
  intro g cs hg
  have h0 : g = 0 ∧ cs = glob0.map fun s => .val (.string s) := by
    simp only [Globals.get] at hg
    split at hg
    · rename_i e; exact ⟨by simpa [Nat.beq_eq] using e, by cases hg; rfl⟩
    · cases hg
  obtain ⟨rfl, rfl⟩ := h0
  exact strTab (name := "homehub/cluster.standard") (ss := glob0) (rest := []) (g := 0) (t := 139) (e := 9) (n := 8) (by kernel_rfl) (by kernel_rfl) Tryd.underlying139 Tryd.underlying9 (by kernel_rfl) (by kernel_rfl) (by decide) h

/-- A WORLD FOR THE WITNESS: the settled one, the table (block 0) holding what its initialiser lays. -/
noncomputable def laidWorld (os : Os) : World :=
  { World.holding Tryd.prog os ⟨#[], #[], []⟩ with heap := (World.holding Tryd.prog os ⟨#[], #[], []⟩).heap.modify 0 fun
      | .cells _ t frozen => .cells (glob0.map fun s => Value.string s).toArray t frozen
      | o => o }

theorem bulkOk {H : Type} : BulkOk (Rows.uptoBulk (H := H)) := by
  have one_le : ∀ d : DataW H, 1 ≤ Rows.uptoBulk d := fun d => by
    cases d with
    | lit l => cases l <;> simp [Rows.uptoBulk]
    | nil => simp [Rows.uptoBulk]
    | ptr d => simp [Rows.uptoBulk]
    | slice elems spare => simp [Rows.uptoBulk]
    | agg parts => simp [Rows.uptoBulk]
    | iface t d => simp [Rows.uptoBulk]
    | map entries => simp [Rows.uptoBulk]
    | held h => simp [Rows.uptoBulk]
  have part_le : ∀ (l : List (DataW H)) (d : DataW H), d ∈ l → Rows.uptoBulk d ≤ Rows.uptoBulkAll l := by
    intro l
    induction l with
    | nil => intro d h; cases h
    | cons x r ih =>
      intro d h
      simp only [Rows.uptoBulkAll]
      cases List.mem_cons.1 h with
      | inl e => subst e; omega
      | inr e => have := ih d e; omega
  have length_le : ∀ (l : List (DataW H)), l.length ≤ Rows.uptoBulkAll l := by
    intro l
    induction l with
    | nil => simp [Rows.uptoBulkAll]
    | cons x r ih => have := one_le x; simp only [Rows.uptoBulkAll, List.length_cons]; omega
  refine ⟨fun bytes => by simp [Rows.uptoBulk], fun e s => ?_, fun e s d h => ?_, fun l d h => ?_⟩
  · have := length_le e; simp only [Rows.uptoBulk]; omega
  · have := part_le e d h; simp only [Rows.uptoBulk]; omega
  · have := part_le l d h; simp only [Rows.uptoBulk]; omega

theorem bulk_le {H : Type} {l : List (DataW H)} (hk : Rows.uptoSmall H l = true) : Rows.uptoBulkAll l ≤ 1048576 := of_decide_eq_true hk

/-- From what a function does with pure data to its call at read arguments. -/
theorem law_calls {f : FuncId} {fn : Func} {H : Type} {enc : TypeId × Value → H} {W : World} {args : Array Value} {ds gs : List (DataW H)} {before : List MemPlace} {s : ChangeSpec} {tb : TypeId} {xs : List PV}
    (hac : AC Tryd.prog f (xs.map .pv) [] (.pv (vbool true)) []) (hlen : args.size = xs.length) (hx : ∀ (i : Nat) (p : PV), xs[i]? = some p → PR W (fun _ => False) p (args.getD i undef))
    (hr : ∀ t ∈ fn.params.toList, Tryd.prog.readableRec t = true ∧ t < Tryd.prog.types.size)
    (hres : fn.resultTypes = #[tb]) (htb : Tryd.prog.underlying tb = some .bool) (hv : s.vars = []) (hfn : s.fn H ds = { results := [.lit (.bool true)], args := ds })
    (hW : DataW.Whole enc Tryd.prog fn.params.toList s.vars false W args.toList ds gs before) (hg : Glob W (fun _ => False)) :
    Calls Tryd.prog f args W fun e W' => ∃ v, e = .returned v ∧ s.post enc Tryd.prog fn false true false false W args v W' := by
  refine (hac.calls hg (by simpa using hlen) (fun i x e => ?_)).mono ?_
  · rw [List.getElem?_map] at e
    cases hp : xs[i]? with
    | none => rw [hp] at e; cases e
    | some p =>
      rw [hp] at e
      cases e
      exact .pv _ _ (hx i p hp)
  · rintro e W' ⟨v, rfl, hv2, hb⟩
    cases hv2
    exact ⟨_, rfl, law_post laidOut hr hres htb hv hfn hb hW⟩

end Go.Proofs.YtdnppfhapkdlfaaDoor
