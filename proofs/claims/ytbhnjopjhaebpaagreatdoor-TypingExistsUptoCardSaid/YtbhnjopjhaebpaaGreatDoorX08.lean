/- Contracts: the laws' bounds and examples. -/
import Derived.Test.YtbhnjopjhaebpaaGreatDoorX07
import Derived.Test.YtbhnjopjhaebpaaGreatDoorX05
import Derived.Test.YtbhnjopjhaebpaaGreatDoorX03
import Derived.Shelf.Spec.SlicesInsertGrow
import Derived.Laws.CopyRow
import Derived.Test.YtbhnjopjhaebpaaGreatDoorX04
import Derived.Test.YtbhnjopjhaebpaaGreatDoorX06

set_option linter.unusedVariables false
set_option linter.unusedSimpArgs false
set_option linter.unusedSectionVars false

namespace Go.Abs
open Go.Proofs
set_option maxRecDepth 10000

def stepG (x : Stp) : Bool := decide (1000 < sizeE x.expr)
def ruleG (r : Rul) : Bool := decide (20 < r.on.length) || decide (20 < r.steps.length) || decide (1000 < sizeE r.cond) || anyN r.steps.length fun i => stepG (r.steps.getD i default)
def scoG (s : Sco) : Bool := decide (300 < s.home.clusters.length) || decide (60 < s.home.devices.length) || decide (300 < s.modes.length) || decide (600 < s.scenes.length)
/-- homehublaw31.great -/
def greatB (s : Sco) (l : List Rul) : Bool := scoG s || decide (60 < l.length) || anyN l.length fun i => ruleG (l.getD i default)

def goodRul (r : Rul) : Prop := sizeE r.cond ≤ 1073741824 ∧ ∀ i, i < r.steps.length → sizeE (r.steps.getD i default).expr ≤ 1073741824

set_option maxHeartbeats 1000000 in
theorem ac_law31_great (s : Sco) (l : List Rul) (hl : ∀ i, i < l.length → goodRul (l.getD i default)) : AC Tryz.prog 11 [.pv (.agg (cSco s)), .pv (roL 15 cRul l)] [] (.pv (vbool (greatB s l))) [] := by
  refine AC.of_awp (T := T) T_ok hm Tryz.call11 Tryz.func11 rfl rfl rfl ?_
  conv => whnf
  repeat (any_goals (first
    | (refine ⟨fun (h : (_ : Bool) = true) => ?_, fun (h : (_ : Bool) = false) => ?_⟩ <;> (try simp only [decide_eq_true_eq, decide_eq_false_iff_not, Bool.not_eq_true', Bool.not_eq_false', Int.toNat_natCast, beq_iff_eq, decide_eq_decide, beq_eq_false_iff_ne, ne_eq, reduceCtorEq] at h) <;> (conv => whnf))
    | (refine And.intro (by (try simp only [Int.toNat_natCast]); omega) ?_; conv => whnf)
    | (refine And.intro (show (_ : Bool) = true from by kernel_rfl) ?_; conv => whnf)
    | (refine .inl ⟨wrap64 (by omega), ?_⟩; conv => whnf)))
  all_goals first
    | contradiction
    | (exfalso; omega)
    | exact PSub.rfl
    | (refine PSub.lit_sb ?_; (first | (simp [greatB, scoG, *]; done) | (simp_all [greatB, scoG]; done) | ((try simp only [greatB, scoG]); (repeat' split) <;> (try simp only [Bool.false_eq, Bool.true_eq, Bool.and_eq_false_iff, decide_eq_false_iff_not, Bool.and_eq_true, decide_eq_true_eq, decide_eq_decide]) <;> first | rfl | omega | (simp_all; done) | (simp_all; omega))))
    | (refine PSub.sb ?_; (first | (simp [greatB, scoG, *]; done) | (simp_all [greatB, scoG]; done) | ((try simp only [greatB, scoG]); (repeat' split) <;> (try simp only [Bool.false_eq, Bool.true_eq, Bool.and_eq_false_iff, decide_eq_false_iff_not, Bool.and_eq_true, decide_eq_true_eq, decide_eq_decide]) <;> first | rfl | omega | (simp_all; done) | (simp_all; omega))))
    | (refine PSub.sb_lit ?_; (first | (simp [greatB, scoG, *]; done) | (simp_all [greatB, scoG]; done) | ((try simp only [greatB, scoG]); (repeat' split) <;> (try simp only [Bool.false_eq, Bool.true_eq, Bool.and_eq_false_iff, decide_eq_false_iff_not, Bool.and_eq_true, decide_eq_true_eq, decide_eq_decide]) <;> first | rfl | omega | (simp_all; done) | (simp_all; omega))))
    | (refine PSub.int ?_; (first | (simp [greatB, scoG, *]; done) | (simp_all [greatB, scoG]; done) | ((try simp only [greatB, scoG]); (repeat' split) <;> (try simp only [Bool.false_eq, Bool.true_eq, Bool.and_eq_false_iff, decide_eq_false_iff_not, Bool.and_eq_true, decide_eq_true_eq, decide_eq_decide]) <;> first | rfl | omega | (simp_all; done) | (simp_all; omega))))
    | skip
  rename_i h1 h2 h3 h4
  have hcut : greatB s l = anyN l.length fun i => ruleG (l.getD i default) := by
    unfold greatB scoG
    rw [decide_eq_false (by omega), decide_eq_false (by omega), decide_eq_false (by omega), decide_eq_false (by omega), decide_eq_false (by omega)]
    rfl
  rw [hcut]
  refine loop_k (ι := Nat) [1] [] (fun k => k ≤ l.length ∧ ∀ j, j < k → ruleG (l.getD j default) = false) (fun k => l.length - k) 0 (fun k => [(5, .pv (vint k))]) (fun _ => []) [] ⟨Nat.zero_le _, fun j h => absurd h (by omega)⟩ ?_ (fun k hk => ?_)
  · (repeat' (first | exact PSub.rfl | exact rfl | exact PSubs.rfl | exact trivial | exact PSub.lit_sb rfl | refine And.intro ?_ ?_))
  obtain ⟨hkn, hinv⟩ := hk
  conv => whnf
  refine ⟨fun h => ?_, fun h => ?_⟩ <;> (try simp only [decide_eq_true_eq, decide_eq_false_iff_not, Bool.not_eq_true', Bool.not_eq_false', Int.toNat_natCast, beq_iff_eq, decide_eq_decide, beq_eq_false_iff_ne, ne_eq, reduceCtorEq] at h) <;> (conv => whnf)
  · have hg := hl k (by omega)
    repeat (any_goals (first
      | (refine ⟨fun (h : (_ : Bool) = true) => ?_, fun (h : (_ : Bool) = false) => ?_⟩ <;> (try simp only [decide_eq_true_eq, decide_eq_false_iff_not, Bool.not_eq_true', Bool.not_eq_false', Int.toNat_natCast, beq_iff_eq, decide_eq_decide, beq_eq_false_iff_ne, ne_eq, reduceCtorEq] at h) <;> (conv => whnf))
      | (refine .inl ⟨_, ac_r28_Size (l.getD k default).cond hg.1, ?_⟩; conv => whnf)
      | (refine And.intro (by (try simp only [Int.toNat_natCast]); omega) ?_; conv => whnf)
      | (refine And.intro (show (_ : Bool) = true from by kernel_rfl) ?_; conv => whnf)
      | (refine .inl ⟨wrap64 (by omega), ?_⟩; conv => whnf)))
    · exact PSub.lit_sb (anyN_true (k := k) (by omega) (by unfold ruleG; rw [decide_eq_true (show 20 < (l.getD k default).on.length by omega)]; rfl)).symm
    · exact PSub.lit_sb (anyN_true (k := k) (by omega) (by unfold ruleG; rw [decide_eq_true (show 20 < (l.getD k default).steps.length by omega), Bool.or_true]; rfl)).symm
    · exact PSub.lit_sb (anyN_true (k := k) (by omega) (by unfold ruleG; rw [decide_eq_true (show 1000 < sizeE (l.getD k default).cond by omega), Bool.or_true]; rfl)).symm
    · rename_i g1 g2
      have hrg : ruleG (l.getD k default) = anyN (l.getD k default).steps.length fun i => stepG ((l.getD k default).steps.getD i default) := by
        unfold ruleG
        rw [decide_eq_false (by omega), decide_eq_false (by omega), decide_eq_false (by omega)]
        rfl
      have hinv0 := hinv
      have hkn0 := hkn
      refine loop_k (ι := Nat) [1, 5] [] (fun q => q ≤ (l.getD k default).steps.length ∧ ∀ j, j < q → stepG ((l.getD k default).steps.getD j default) = false) (fun q => (l.getD k default).steps.length - q) 0 (fun q => [(6, .pv (vint q))]) (fun _ => []) [] ⟨Nat.zero_le _, fun j h => absurd h (by omega)⟩ ?_ (fun q hk => ?_)
      · (repeat' (first | exact PSub.rfl | exact rfl | exact PSubs.rfl | exact trivial | exact PSub.lit_sb rfl | refine And.intro ?_ ?_))
      obtain ⟨hkn, hinv⟩ := hk
      conv => whnf
      repeat (any_goals (first
        | (refine ⟨fun (h : (_ : Bool) = true) => ?_, fun (h : (_ : Bool) = false) => ?_⟩ <;> (try simp only [decide_eq_true_eq, decide_eq_false_iff_not, Bool.not_eq_true', Bool.not_eq_false', Int.toNat_natCast, beq_iff_eq, decide_eq_decide, beq_eq_false_iff_ne, ne_eq, reduceCtorEq] at h) <;> (conv => whnf))
        | (refine .inl ⟨_, ac_r28_Size ((l.getD k default).steps.getD q default).expr (hg.2 q (by omega)), ?_⟩; conv => whnf)
        | (refine And.intro (by (try simp only [Int.toNat_natCast]); omega) ?_; conv => whnf)
        | (refine And.intro (show (_ : Bool) = true from by kernel_rfl) ?_; conv => whnf)
        | (refine .inl ⟨wrap64 (by omega), ?_⟩; conv => whnf)))
      · have hs : stepG ((l.getD k default).steps.getD q default) = true := decide_eq_true (show 1000 < sizeE _ by omega)
        exact PSub.lit_sb (anyN_true (k := k) (by omega) (by rw [hrg]; exact anyN_true (k := q) (by omega) hs)).symm
      · refine ⟨q + 1, [], ⟨by omega, ?_⟩, by first | omega | (dsimp only; omega), ?_⟩
        rotate_left
        · (repeat' (first | exact PSub.rfl | exact rfl | exact PSubs.rfl | exact trivial | exact PSub.lit_sb rfl | refine And.intro ?_ ?_))
        intro j hj
        by_cases e : j = q
        · subst e; exact decide_eq_false (show ¬ 1000 < sizeE _ by omega)
        · exact hinv j (by omega)
      · refine ⟨k + 1, [], ⟨by omega, ?_⟩, by first | omega | (dsimp only; omega), ?_⟩
        rotate_left
        · (repeat' (first | exact PSub.rfl | exact rfl | exact PSubs.rfl | exact trivial | exact PSub.lit_sb rfl | refine And.intro ?_ ?_))
        intro j hj
        by_cases e : j = k
        · subst e
          rw [hrg]
          exact anyN_false fun i hi => hinv i (by omega)
        · exact hinv0 j (by omega)
  · exact PSub.lit_sb (anyN_false fun j hj => hinv j (by omega)).symm

/-! the examples -/
def scopeX : Sco := ⟨⟨stdC, [⟨1, 0, 0, false, 0, (⟨#[104, 97, 108, 108]⟩ : ByteArray), [(⟨#[111, 110, 111, 102, 102]⟩ : ByteArray), (⟨#[116, 104, 101, 114, 109, 111, 115, 116, 97, 116]⟩ : ByteArray)]⟩]⟩, [(⟨#[104, 111, 109, 101]⟩ : ByteArray)], []⟩
theorem ac_law31_scope : AC Tryz.prog 33 [] [] (.pv (.agg (cSco scopeX))) [] := by
  refine AC.of_awp (T := T) T_ok hm Tryz.call33 Tryz.func33 rfl rfl rfl ?_
  conv => whnf
  refine .inl ⟨_, ac_cluster_Standard, ?_⟩
  conv => whnf
  repeat' (first | exact PSub.rfl | exact PSub.nil_ro _ _ | exact PSub.lit_sb rfl | exact trivial | exact all_lt_zero | refine PSub.agg ?_ | refine PSub.ro rfl ?_ | refine all_lt_succ ?_ ?_ | refine And.intro ?_ ?_)

theorem ac_r28_Lit (v : Val) : AC Tryz.prog 34 [.pv (.agg (cVal v))] [] (.pv (.agg (cEx (.mk 1 0 0 ⟨#[]⟩ v noKey [])))) [] := by
  refine AC.of_awp (T := T) T_ok hm Tryz.call34 Tryz.func34 rfl rfl rfl ?_
  conv => whnf
  repeat' (first | exact PSub.rfl | exact PSub.nil_ro _ _ | exact PSub.lit_sb rfl | exact trivial | exact all_lt_zero | refine PSub.agg ?_ | refine PSub.ro rfl ?_ | refine all_lt_succ ?_ ?_ | refine And.intro ?_ ?_)
theorem ac_law31_attr (a b : ByteArray) : AC Tryz.prog 35 [.pv (vstr a), .pv (vstr b)] [] (.pv (.agg (cEx (.mk 2 0 0 ⟨#[]⟩ noVal ⟨1, a, b⟩ [])))) [] := by
  refine AC.of_awp (T := T) T_ok hm Tryz.call35 Tryz.func35 rfl rfl rfl ?_
  conv => whnf
  repeat' (first | exact PSub.rfl | exact PSub.nil_ro _ _ | exact PSub.lit_sb rfl | exact trivial | exact all_lt_zero | refine PSub.agg ?_ | refine PSub.ro rfl ?_ | refine all_lt_succ ?_ ?_ | refine And.intro ?_ ?_)
theorem ac_r28_Flag (b : Bool) : AC Tryz.prog 36 [.pv (vbool b)] [] (.pv (.agg (cEx (.mk 1 0 0 ⟨#[]⟩ ⟨1, if b = true then 1 else 0, ⟨#[]⟩⟩ noKey [])))) [] := by
  refine AC.of_awp (T := T) T_ok hm Tryz.call36 Tryz.func36 rfl rfl rfl ?_
  conv => whnf
  repeat (any_goals (first
    | (refine ⟨fun (h : (_ : Bool) = true) => ?_, fun (h : (_ : Bool) = false) => ?_⟩ <;> (try simp only [decide_eq_true_eq, decide_eq_false_iff_not, Bool.not_eq_true', Bool.not_eq_false', Int.toNat_natCast, beq_iff_eq, decide_eq_decide, beq_eq_false_iff_ne, ne_eq, reduceCtorEq] at h) <;> (conv => whnf))
    | (refine .inl ⟨_, ac_r28_Lit ⟨1, 1, ⟨#[]⟩⟩, ?_⟩; conv => whnf)
    | (refine .inl ⟨_, ac_r28_Lit ⟨1, 0, ⟨#[]⟩⟩, ?_⟩; conv => whnf)
    | (refine And.intro (by (try simp only [Int.toNat_natCast]); omega) ?_; conv => whnf)
    | (refine And.intro (show (_ : Bool) = true from by kernel_rfl) ?_; conv => whnf)
    | (refine .inl ⟨wrap64 (by omega), ?_⟩; conv => whnf)))
  · subst h
    rw [if_pos rfl]
    exact PSub.rfl
  · subst h
    rw [if_neg (by decide)]
    exact PSub.rfl

theorem smallS_X : smallS scopeX := by
  refine ⟨⟨⟨sl rfl, smallK_std⟩, sl rfl, fun i => ?_⟩, sl rfl, sl rfl⟩
  cases i with
  | zero => exact ⟨sl rfl, by decide, by decide⟩
  | succ i =>
    have : scopeX.home.devices.getD (i + 1) default = default := rfl
    rw [this]; exact ⟨Nat.zero_le _, by decide, by decide⟩

def n200 : Ex := .mk 1 0 0 ⟨#[]⟩ ⟨2, 200, ⟨#[]⟩⟩ noKey []
def atX (a b : ByteArray) : Ex := .mk 2 0 0 ⟨#[]⟩ noVal ⟨1, a, b⟩ []
def exX1 : Ex := .mk 10 0 0 ⟨#[]⟩ noVal noKey [atX (⟨#[116, 104, 101, 114, 109, 111, 115, 116, 97, 116]⟩ : ByteArray) (⟨#[116, 101, 109, 112]⟩ : ByteArray), n200]
def exX2 : Ex := .mk 11 0 0 ⟨#[]⟩ noVal noKey [atX (⟨#[111, 110, 111, 102, 102]⟩ : ByteArray) (⟨#[111, 110]⟩ : ByteArray), n200]
def exX3 : Ex := atX (⟨#[108, 101, 118, 101, 108]⟩ : ByteArray) (⟨#[108, 101, 118, 101, 108]⟩ : ByteArray)
def callX : Rul := ⟨(⟨#[97]⟩ : ByteArray), 0, [⟨5, noKey, noEvt, ⟨#[]⟩, 0, 0⟩], .mk 1 0 0 ⟨#[]⟩ ⟨1, 1, ⟨#[]⟩⟩ noKey [], [⟨2, ⟨1, (⟨#[111, 110, 111, 102, 102]⟩ : ByteArray), ⟨#[]⟩⟩, (⟨#[116, 111, 103, 103, 108, 101]⟩ : ByteArray), noEx⟩]⟩
theorem exk1 : exprK scopeX exX1 = (1, 0) := by kernel_rfl
theorem exk2 : exprK scopeX exX2 = (0, 11) := by kernel_rfl
theorem exk3 : exprK scopeX exX3 = (0, 8) := by kernel_rfl
theorem exk4 : scoE scopeX = 0 := by kernel_rfl
theorem exk5 : ruleE scopeX callX = 0 := by kernel_rfl
theorem exk6 : writesL scopeX [callX] = [⟨1, (⟨#[111, 110, 111, 102, 102]⟩ : ByteArray), (⟨#[111, 110]⟩ : ByteArray)⟩] := by kernel_rfl

theorem ac_law31_lives : AC Tryz.prog 14 [] [] (.pv (vbool true)) [] := by
  refine AC.of_awp (T := T) T_ok hm Tryz.call14 Tryz.func14 rfl rfl rfl ?_
  conv => whnf
  refine .inl ⟨_, ac_law31_scope, ?_⟩
  conv => whnf
  refine .inl ⟨_, ac_r28_Lit ⟨2, 200, ⟨#[]⟩⟩, ?_⟩
  conv => whnf
  repeat (any_goals (first
    | (refine ⟨fun (h : (_ : Bool) = true) => ?_, fun (h : (_ : Bool) = false) => ?_⟩ <;> (try simp only [decide_eq_true_eq, decide_eq_false_iff_not, Bool.not_eq_true', Bool.not_eq_false', Int.toNat_natCast, beq_iff_eq, decide_eq_decide, beq_eq_false_iff_ne, ne_eq, reduceCtorEq] at h) <;> (conv => whnf))
    | (refine .inl ⟨_, ac_law31_attr (⟨#[116, 104, 101, 114, 109, 111, 115, 116, 97, 116]⟩ : ByteArray) (⟨#[116, 101, 109, 112]⟩ : ByteArray), ?_⟩; conv => whnf)
    | (refine And.intro (by (try simp only [Int.toNat_natCast]); omega) ?_; conv => whnf)
    | (refine And.intro (show (_ : Bool) = true from by kernel_rfl) ?_; conv => whnf)
    | (refine .inl ⟨wrap64 (by omega), ?_⟩; conv => whnf)))
  refine .inl ⟨_, AC.sub2 (ac_typing_Expr scopeX exX1 smallS_X) (by repeat' (first | exact PSub.rfl | exact PSub.nil_ro _ _ | exact PSub.lit_sb rfl | exact trivial | exact all_lt_zero | refine PSub.agg ?_ | refine PSub.ro rfl ?_ | refine all_lt_succ ?_ ?_ | refine And.intro ?_ ?_)) (by repeat' (first | exact PSub.rfl | exact PSub.nil_ro _ _ | exact PSub.lit_sb rfl | exact trivial | exact all_lt_zero | refine PSub.agg ?_ | refine PSub.ro rfl ?_ | refine all_lt_succ ?_ ?_ | refine And.intro ?_ ?_)), ?_⟩
  conv => whnf
  rw [exk1]
  conv => whnf
  repeat (any_goals (first
    | (refine ⟨fun (h : (_ : Bool) = true) => ?_, fun (h : (_ : Bool) = false) => ?_⟩ <;> (try simp only [decide_eq_true_eq, decide_eq_false_iff_not, Bool.not_eq_true', Bool.not_eq_false', Int.toNat_natCast, beq_iff_eq, decide_eq_decide, beq_eq_false_iff_ne, ne_eq, reduceCtorEq] at h) <;> (conv => whnf))
    | (refine .inl ⟨_, ac_law31_attr (⟨#[111, 110, 111, 102, 102]⟩ : ByteArray) (⟨#[111, 110]⟩ : ByteArray), ?_⟩; conv => whnf)
    | (refine And.intro (by (try simp only [Int.toNat_natCast]); omega) ?_; conv => whnf)
    | (refine And.intro (show (_ : Bool) = true from by kernel_rfl) ?_; conv => whnf)
    | (refine .inl ⟨wrap64 (by omega), ?_⟩; conv => whnf)))
  refine .inl ⟨_, AC.sub2 (ac_typing_Expr scopeX exX2 smallS_X) (by repeat' (first | exact PSub.rfl | exact PSub.nil_ro _ _ | exact PSub.lit_sb rfl | exact trivial | exact all_lt_zero | refine PSub.agg ?_ | refine PSub.ro rfl ?_ | refine all_lt_succ ?_ ?_ | refine And.intro ?_ ?_)) (by repeat' (first | exact PSub.rfl | exact PSub.nil_ro _ _ | exact PSub.lit_sb rfl | exact trivial | exact all_lt_zero | refine PSub.agg ?_ | refine PSub.ro rfl ?_ | refine all_lt_succ ?_ ?_ | refine And.intro ?_ ?_)), ?_⟩
  conv => whnf
  rw [exk2]
  conv => whnf
  repeat (any_goals (first
    | (refine ⟨fun (h : (_ : Bool) = true) => ?_, fun (h : (_ : Bool) = false) => ?_⟩ <;> (try simp only [decide_eq_true_eq, decide_eq_false_iff_not, Bool.not_eq_true', Bool.not_eq_false', Int.toNat_natCast, beq_iff_eq, decide_eq_decide, beq_eq_false_iff_ne, ne_eq, reduceCtorEq] at h) <;> (conv => whnf))
    | (refine .inl ⟨_, ac_law31_attr (⟨#[108, 101, 118, 101, 108]⟩ : ByteArray) (⟨#[108, 101, 118, 101, 108]⟩ : ByteArray), ?_⟩; conv => whnf)
    | (refine And.intro (by (try simp only [Int.toNat_natCast]); omega) ?_; conv => whnf)
    | (refine And.intro (show (_ : Bool) = true from by kernel_rfl) ?_; conv => whnf)
    | (refine .inl ⟨wrap64 (by omega), ?_⟩; conv => whnf)))
  refine .inl ⟨_, AC.sub2 (ac_typing_Expr scopeX exX3 smallS_X) (by repeat' (first | exact PSub.rfl | exact PSub.nil_ro _ _ | exact PSub.lit_sb rfl | exact trivial | exact all_lt_zero | refine PSub.agg ?_ | refine PSub.ro rfl ?_ | refine all_lt_succ ?_ ?_ | refine And.intro ?_ ?_)) (by repeat' (first | exact PSub.rfl | exact PSub.nil_ro _ _ | exact PSub.lit_sb rfl | exact trivial | exact all_lt_zero | refine PSub.agg ?_ | refine PSub.ro rfl ?_ | refine all_lt_succ ?_ ?_ | refine And.intro ?_ ?_)), ?_⟩
  conv => whnf
  rw [exk3]
  conv => whnf
  repeat (any_goals (first
    | (refine ⟨fun (h : (_ : Bool) = true) => ?_, fun (h : (_ : Bool) = false) => ?_⟩ <;> (try simp only [decide_eq_true_eq, decide_eq_false_iff_not, Bool.not_eq_true', Bool.not_eq_false', Int.toNat_natCast, beq_iff_eq, decide_eq_decide, beq_eq_false_iff_ne, ne_eq, reduceCtorEq] at h) <;> (conv => whnf))
    | (refine And.intro (by (try simp only [Int.toNat_natCast]); omega) ?_; conv => whnf)
    | (refine And.intro (show (_ : Bool) = true from by kernel_rfl) ?_; conv => whnf)
    | (refine .inl ⟨wrap64 (by omega), ?_⟩; conv => whnf)))
  refine .inl ⟨_, AC.sub1 (ac_r28_Flag true) (PSub.lit_sb rfl), ?_⟩
  conv => whnf
  repeat (any_goals (first
    | (refine ⟨fun (h : (_ : Bool) = true) => ?_, fun (h : (_ : Bool) = false) => ?_⟩ <;> (try simp only [decide_eq_true_eq, decide_eq_false_iff_not, Bool.not_eq_true', Bool.not_eq_false', Int.toNat_natCast, beq_iff_eq, decide_eq_decide, beq_eq_false_iff_ne, ne_eq, reduceCtorEq] at h) <;> (conv => whnf))
    | (refine And.intro (by (try simp only [Int.toNat_natCast]); omega) ?_; conv => whnf)
    | (refine And.intro (show (_ : Bool) = true from by kernel_rfl) ?_; conv => whnf)
    | (refine .inl ⟨wrap64 (by omega), ?_⟩; conv => whnf)))
  refine .inl ⟨_, AC.sub2 (ac_typing_Writes scopeX [callX] smallS_X ⟨by decide, fun r hr => by simp only [List.mem_singleton] at hr; subst hr; decide⟩) (by repeat' (first | exact PSub.rfl | exact PSub.nil_ro _ _ | exact PSub.lit_sb rfl | exact trivial | exact all_lt_zero | refine PSub.agg ?_ | refine PSub.ro rfl ?_ | refine all_lt_succ ?_ ?_ | refine And.intro ?_ ?_)) (by repeat' (first | exact PSub.rfl | exact PSub.nil_ro _ _ | exact PSub.lit_sb rfl | exact trivial | exact all_lt_zero | refine PSub.agg ?_ | refine PSub.ro rfl ?_ | refine all_lt_succ ?_ ?_ | refine And.intro ?_ ?_)), ?_⟩
  conv => whnf
  rw [exk6]
  conv => whnf
  refine .inl ⟨_, AC.sub1 (ac_typing_Check scopeX smallS_X) (by repeat' (first | exact PSub.rfl | exact PSub.nil_ro _ _ | exact PSub.lit_sb rfl | exact trivial | exact all_lt_zero | refine PSub.agg ?_ | refine PSub.ro rfl ?_ | refine all_lt_succ ?_ ?_ | refine And.intro ?_ ?_)), ?_⟩
  conv => whnf
  rw [exk4]
  conv => whnf
  repeat (any_goals (first
    | (refine ⟨fun (h : (_ : Bool) = true) => ?_, fun (h : (_ : Bool) = false) => ?_⟩ <;> (try simp only [decide_eq_true_eq, decide_eq_false_iff_not, Bool.not_eq_true', Bool.not_eq_false', Int.toNat_natCast, beq_iff_eq, decide_eq_decide, beq_eq_false_iff_ne, ne_eq, reduceCtorEq] at h) <;> (conv => whnf))
    | (refine .inl ⟨_, AC.sub2 (ac_typing_Rule scopeX callX smallS_X) (by repeat' (first | exact PSub.rfl | exact PSub.nil_ro _ _ | exact PSub.lit_sb rfl | exact trivial | exact all_lt_zero | refine PSub.agg ?_ | refine PSub.ro rfl ?_ | refine all_lt_succ ?_ ?_ | refine And.intro ?_ ?_)) (by repeat' (first | exact PSub.rfl | exact PSub.nil_ro _ _ | exact PSub.lit_sb rfl | exact trivial | exact all_lt_zero | refine PSub.agg ?_ | refine PSub.ro rfl ?_ | refine all_lt_succ ?_ ?_ | refine And.intro ?_ ?_)), ?_⟩; conv => whnf)
    | (refine And.intro (by (try simp only [Int.toNat_natCast]); omega) ?_; conv => whnf)
    | (refine And.intro (show (_ : Bool) = true from by kernel_rfl) ?_; conv => whnf)
    | (refine .inl ⟨wrap64 (by omega), ?_⟩; conv => whnf)))
  all_goals first
    | exact PSub.sb (by kernel_rfl)
    | exact absurd trivial h
    | exact absurd exk5 h
    | exact absurd rfl h
    | (exfalso; exact h (by kernel_rfl))

/-! the laws -/
theorem ac_law31_TypingChecks (s : Sco) (hs : smallS s) : AC Tryz.prog 3 [.pv (.agg (cSco s))] [] (.pv (vbool true)) [] := by
  refine AC.of_awp (T := T) T_ok hm Tryz.call3 Tryz.func3 rfl rfl rfl ?_
  conv => whnf
  repeat (any_goals (first
    | (refine ⟨fun (h : (_ : Bool) = true) => ?_, fun (h : (_ : Bool) = false) => ?_⟩ <;> (try simp only [decide_eq_true_eq, decide_eq_false_iff_not, Bool.not_eq_true', Bool.not_eq_false', Int.toNat_natCast, beq_iff_eq, decide_eq_decide, beq_eq_false_iff_ne, ne_eq, reduceCtorEq] at h) <;> (conv => whnf))
    | (refine .inl ⟨_, AC.sub2 (ac_law31_great s [] (fun i h => absurd h (by simp))) .rfl (PSub.nilL rfl), ?_⟩; conv => whnf)
    | (refine .inl ⟨_, ac_typing_Check s hs, ?_⟩; conv => whnf)
    | (refine .inl ⟨_, ac_r31_Check s hs, ?_⟩; conv => whnf)
    | (refine .inl ⟨_, ac_law31_lives, ?_⟩; conv => whnf)
    | (refine And.intro (by (try simp only [Int.toNat_natCast]); omega) ?_; conv => whnf)
    | (refine And.intro (show (_ : Bool) = true from by kernel_rfl) ?_; conv => whnf)
    | (refine .inl ⟨wrap64 (by omega), ?_⟩; conv => whnf)))
  all_goals first | exact PSub.sb rfl | exact PSub.lit_sb rfl | exact absurd trivial h | (exfalso; exact h rfl)

theorem ac_law31_TypingKinds (s : Sco) (e : Ex) (hs : smallS s) (he : sizeE e ≤ 1073741824) : AC Tryz.prog 4 [.pv (.agg (cSco s)), .pv (.agg (cEx e))] [] (.pv (vbool true)) [] := by
  refine AC.of_awp (T := T) T_ok hm Tryz.call4 Tryz.func4 rfl rfl rfl ?_
  conv => whnf
  repeat (any_goals (first
    | (refine ⟨fun (h : (_ : Bool) = true) => ?_, fun (h : (_ : Bool) = false) => ?_⟩ <;> (try simp only [decide_eq_true_eq, decide_eq_false_iff_not, Bool.not_eq_true', Bool.not_eq_false', Int.toNat_natCast, beq_iff_eq, decide_eq_decide, beq_eq_false_iff_ne, ne_eq, reduceCtorEq] at h) <;> (conv => whnf))
    | (refine .inl ⟨_, AC.sub2 (ac_law31_great s [] (fun i h => absurd h (by simp))) .rfl (PSub.nilL rfl), ?_⟩; conv => whnf)
    | (refine .inl ⟨_, ac_r28_Size e he, ?_⟩; conv => whnf)
    | (refine .inl ⟨_, ac_typing_Expr s e hs, ?_⟩; conv => whnf)
    | (refine .inl ⟨_, ac_r31_Expr s e hs, ?_⟩; conv => whnf)
    | (refine .inl ⟨_, ac_law31_lives, ?_⟩; conv => whnf)
    | (refine And.intro (by (try simp only [Int.toNat_natCast]); omega) ?_; conv => whnf)
    | (refine And.intro (show (_ : Bool) = true from by kernel_rfl) ?_; conv => whnf)
    | (refine .inl ⟨wrap64 (by omega), ?_⟩; conv => whnf)))
  all_goals first | exact PSub.sb rfl | exact PSub.lit_sb rfl | exact absurd trivial h | (exfalso; exact h rfl)

theorem ac_law31_TypingRule (s : Sco) (r : Rul) (hs : smallS s) (hr : goodRul r) : AC Tryz.prog 5 [.pv (.agg (cSco s)), .pv (.agg (cRul r))] [] (.pv (vbool true)) [] := by
  have hl : ∀ i, i < [r].length → goodRul ([r].getD i default) := fun i hi => by
    have : i = 0 := by simpa using hi
    subst this; exact hr
  refine AC.of_awp (T := T) T_ok hm Tryz.call5 Tryz.func5 rfl rfl rfl ?_
  conv => whnf
  repeat (any_goals (first
    | (refine ⟨fun (h : (_ : Bool) = true) => ?_, fun (h : (_ : Bool) = false) => ?_⟩ <;> (try simp only [decide_eq_true_eq, decide_eq_false_iff_not, Bool.not_eq_true', Bool.not_eq_false', Int.toNat_natCast, beq_iff_eq, decide_eq_decide, beq_eq_false_iff_ne, ne_eq, reduceCtorEq] at h) <;> (conv => whnf))
    | (refine .inl ⟨_, AC.sub2 (ac_law31_great s [r] hl) (by repeat' (first | exact PSub.rfl | exact PSub.nil_ro _ _ | exact PSub.lit_sb rfl | exact trivial | exact all_lt_zero | refine PSub.agg ?_ | refine PSub.ro rfl ?_ | refine all_lt_succ ?_ ?_ | refine And.intro ?_ ?_)) (by repeat' (first | exact PSub.rfl | exact PSub.nil_ro _ _ | exact PSub.lit_sb rfl | exact trivial | exact all_lt_zero | refine PSub.agg ?_ | refine PSub.ro rfl ?_ | refine all_lt_succ ?_ ?_ | refine And.intro ?_ ?_)), ?_⟩; conv => whnf)
    | (refine .inl ⟨_, ac_typing_Rule s r hs, ?_⟩; conv => whnf)
    | (refine .inl ⟨_, ac_r31_Rule s r hs, ?_⟩; conv => whnf)
    | (refine .inl ⟨_, ac_law31_lives, ?_⟩; conv => whnf)
    | (refine And.intro (by (try simp only [Int.toNat_natCast]); omega) ?_; conv => whnf)
    | (refine And.intro (show (_ : Bool) = true from by kernel_rfl) ?_; conv => whnf)
    | (refine .inl ⟨wrap64 (by omega), ?_⟩; conv => whnf)))
  all_goals first | exact PSub.sb rfl | exact PSub.lit_sb rfl | exact absurd trivial h | (exfalso; exact h rfl)

theorem ac_law31_TypingRules (s : Sco) (l : List Rul) (hs : smallS s) (hl : ∀ i, i < l.length → goodRul (l.getD i default)) : AC Tryz.prog 6 [.pv (.agg (cSco s)), .pv (roL 15 cRul l)] [] (.pv (vbool true)) [] := by
  refine AC.of_awp (T := T) T_ok hm Tryz.call6 Tryz.func6 rfl rfl rfl ?_
  conv => whnf
  repeat (any_goals (first
    | (refine ⟨fun (h : (_ : Bool) = true) => ?_, fun (h : (_ : Bool) = false) => ?_⟩ <;> (try simp only [decide_eq_true_eq, decide_eq_false_iff_not, Bool.not_eq_true', Bool.not_eq_false', Int.toNat_natCast, beq_iff_eq, decide_eq_decide, beq_eq_false_iff_ne, ne_eq, reduceCtorEq] at h) <;> (conv => whnf))
    | (refine .inl ⟨_, ac_law31_great s l hl, ?_⟩; conv => whnf)
    | (refine .inl ⟨_, ac_typing_Rules s l hs, ?_⟩; conv => whnf)
    | (refine .inl ⟨_, ac_r31_Rules s l hs, ?_⟩; conv => whnf)
    | (refine .inl ⟨_, ac_law31_lives, ?_⟩; conv => whnf)
    | (refine And.intro (by (try simp only [Int.toNat_natCast]); omega) ?_; conv => whnf)
    | (refine And.intro (show (_ : Bool) = true from by kernel_rfl) ?_; conv => whnf)
    | (refine .inl ⟨wrap64 (by omega), ?_⟩; conv => whnf)))
  all_goals first | exact PSub.sb rfl | exact PSub.lit_sb rfl | exact absurd trivial h | (exfalso; exact h rfl)

end Go.Abs

namespace Go.Abs
open Go.RowKit
variable [Globals]

def plain : List AV → Bool
  | [] => true
  | .pv _ :: l => plain l
  | .fn _ [] :: l => plain l
  | _ :: _ => false
theorem plain_spec : ∀ {l : List AV}, plain l = true → ∀ (i : Nat) (x : AV), l[i]? = some x → refs x = []
  | .pv _ :: l, h, 0, x, e => by simp at e; subst e; rfl
  | .fn _ [] :: l, h, 0, x, e => by simp at e; subst e; rfl
  | .pv _ :: l, h, i + 1, x, e => plain_spec (l := l) (by simpa [plain] using h) i x (by simpa using e)
  | .fn _ [] :: l, h, i + 1, x, e => plain_spec (l := l) (by simpa [plain] using h) i x (by simpa using e)

/-- A function that is handed pure data and plain functions and hands back pure data. -/
theorem AC.of_awp_plain {P : Program} {T : Tab} {f : FuncId} {fn : Func} {c : Code} {args : List AV} {res : PV} (hT : T.ok P) (hm : P.follows .mixedOrders = true) (hcall : ∀ (vals : Array Value) (w : World), (callFunc f vals).run P w = .ok (.enter f vals) w)
    (hf : P.funcs[f]? = some fn) (hb : fn.body = some c) (hn : Nat.ble args.length fn.ntmps = true) (hp : plain args = true) (h : awp P T fn.ntmps c ⟨argTm 0 args, []⟩ (pureQ T fn res)) : AC P f args [] (.pv res) [] := by
  refine ⟨hcall, fun St M0 σ w vals hi hσ _ hl hA => ?_⟩
  have hσ' : σ = fun _ => none := funext fun l => hσ l rfl
  subst hσ'
  have hown : ∀ b, ¬ owned (fun _ => none) b := fun b ⟨l, loc, h, _⟩ => by cases h
  have hle := Nat.le_of_ble_eq_true hn
  have hE : FEnv.ok ⟨fn.ntmps, St, M0, fun _ => False, w, fun _ => none⟩ := ⟨fun b hb => ⟨(hi.m0 b hb).1, id⟩, fun b hb => ⟨(hi.st b hb).1, id⟩, hi.gl.mono (Same.refl _ w) (fun b _ hb => .inl (hb.elim id False.elim)), fun _ _ e => by cases e⟩
  have hget : ∀ t x, getT (argTm 0 args) t = x → x = .junk ∨ args[t]? = some x := by
    intro t x e
    rw [argTm_get, if_neg (by omega)] at e
    cases ha : args[t - 0]? with
    | none => rw [ha] at e; exact .inl e.symm
    | some y => rw [ha] at e; simp at e ha; subst e; exact .inr rfl
  have hR : Rel P ⟨fn.ntmps, St, M0, fun _ => False, w, fun _ => none⟩ ⟨argTm 0 args, []⟩ (fun _ => none) { tmps := vals ++ Array.replicate (fn.ntmps - vals.size) undef, defers := [] } w := by
    refine ⟨by simp; omega, rfl, fun t => ?_, fun l o e => by simp [getO] at e, fun _ _ => rfl, fun t l hl' => ?_, fun i o e => by simp [getO] at e, fun l l' loc loc' b e => (by cases e), fun b hb => absurd hb (hown b), FExt.refl _ w, fun _ _ e => by cases e⟩
    · rcases hget t _ rfl with e | e
      · rw [e]; exact .junk _
      · have := hA t _ e
        have hlt : t < args.length := (List.getElem?_eq_some_iff.1 e).1
        rw [getD_append_left (by omega)]
        exact this
    · rcases hget t _ rfl with e | e
      · rw [e] at hl'; simp [refs] at hl'
      · rw [plain_spec hp t _ e] at hl'; simp at hl'
  refine calls_of_wp hf hb (wp_mono (awp_sound hE hT hm c _ _ _ _ w hR h) (fun e a' w' he => ?_))
  have fin : (∃ s σ, resQ T fn.results.toList res s ∧ Rel P ⟨fn.ntmps, St, M0, fun _ => False, w, fun _ => none⟩ s σ a' w') → a'.defers = [] ∧ ∃ v, (results fn a'.tmps).run P w' = .ok v w' ∧ ∃ v_1 σ', Ending.returned v = .returned v_1 ∧ Post P St M0 (fun _ => none) w [] (.pv res) σ' v_1 w' := by
    rintro ⟨s, σ, hq, hR'⟩
    obtain ⟨v, hr, hpv⟩ := results_run hE hT hR' hq
    refine ⟨hR'.df, v, hr, v, fun _ => none, rfl, ?_⟩
    refine ⟨.pv _ _ (hpv.mono (Same.refl _ w') (fun b _ hb => ?_)), fun l o e => by simp [getO] at e, fun _ _ => rfl, fun l loc loc' e => (by cases e), fun l l' loc loc' b e => (by cases e), fun b hb => absurd hb (hown b), hR'.ext.mono (fun _ _ h => h.elim)⟩
    rcases hb with hb | hb
    · exact hb
    · exact absurd hb (hown b)
  cases e with
  | normal => exact fin he
  | ret => exact fin he
  | exit i => obtain ⟨s, σ, hq, _⟩ := he; exact hq.elim
  | goto l => exact he.elim
  | panic c => exact he.elim
  | outgrown => exact he.elim

end Go.Abs

namespace Go.Abs
open Go.Proofs Go.RowKit Go.Lib
variable {P : Program} [Globals]

theorem run_copy_rowK (k : Nat) (w : World) (dT sT ty elem : TypeId) (g o dLen dCap : Nat) (a : Addr) (sLen sCap : Nat) (cur : Array Value) (t : TypeId) (cs : List Value) (m : Nat)
    (hu : P.underlying dT = some (.slice elem)) (hz : ∀ w, (Go.sizeOf elem).run P w = .ok k w) (hg : w.heap[g]? = some (.cells cur t (0, 0))) (hm : m = Nat.min sLen dLen) (hn : cs.length = m * k)
    (hsrc : ∀ j v, cs[j]? = some v → w.cell? (a.add j) = some v) (hfit : o + cs.length ≤ cur.size) (h1 : ∀ v ∈ cs, v.oneCell' = true) :
    (Builtin.copy_ #[dT, sT] ty #[.slice (some ⟨g, o, none⟩) dLen dCap, .slice (some a) sLen sCap]).run P w =
      .ok (goInt m) (w.setRow g (cur.toList.take o ++ cs ++ cur.toList.drop (o + cs.length)).toArray) := by
  have hl := run_loadCells_list (P := P) w a cs hsrc
  have hst := run_storeCells_at P g o t cs 0 cur w hg (by simpa using hfit) h1
  rw [hn] at hl
  simp [Builtin.copy_, run_underlying hu, Builtin.lenOf, Builtin.firstCells, hz, ← hm, hl, hst]

/-- l with x ahead of its i-th -/
def insL {α : Type} (l : List α) (i : Nat) (x : α) : List α := l.take i ++ x :: l.drop i
theorem insL_length {α : Type} {l : List α} {i : Nat} {x : α} (h : i ≤ l.length) : (insL l i x).length = l.length + 1 := by
  unfold insL; simp; omega
theorem insL_lt {α : Type} [Inhabited α] {l : List α} {i j : Nat} {x : α} (h : i ≤ l.length) (hj : j < i) : (insL l i x).getD j default = l.getD j default := by
  unfold insL
  simp only [List.getD]
  rw [List.getElem?_append_left (by simp; omega), List.getElem?_take_of_lt hj]
theorem insL_eq {α : Type} [Inhabited α] {l : List α} {i : Nat} {x : α} (h : i ≤ l.length) : (insL l i x).getD i default = x := by
  unfold insL
  simp only [List.getD]
  rw [List.getElem?_append_right (by simp only [List.length_take]; omega)]
  simp [Nat.min_eq_left h]
theorem insL_gt {α : Type} [Inhabited α] {l : List α} {i j : Nat} {x : α} (h : i ≤ l.length) (hj : i < j) : (insL l i x).getD j default = l.getD (j - 1) default := by
  unfold insL
  simp only [List.getD]
  rw [List.getElem?_append_right (by simp; omega), List.length_take, Nat.min_eq_left h]
  obtain ⟨q, rfl⟩ : ∃ q, j = i + q + 1 := ⟨j - i - 1, by omega⟩
  rw [show i + q + 1 - i = q + 1 from by omega, List.getElem?_cons_succ, List.getElem?_drop]
  congr 2

/-- cur with cs at place o instead of what stood there -/
def putC (cur : Array Value) (o : Nat) (cs : List Value) : Array Value := (cur.toList.take o ++ cs ++ cur.toList.drop (o + cs.length)).toArray
theorem putC_size {cur : Array Value} {o : Nat} {cs : List Value} (h : o + cs.length ≤ cur.size) : (putC cur o cs).size = cur.size := by
  unfold putC
  simp
  omega
theorem putC_get {cur : Array Value} {o : Nat} {cs : List Value} (h : o + cs.length ≤ cur.size) (x : Nat) : (putC cur o cs).getD x undef = if o ≤ x ∧ x < o + cs.length then cs.getD (x - o) undef else cur.getD x undef := by
  unfold putC
  simp only [Array.getD_eq_getD_getElem?, List.getD, List.getElem?_toArray]
  by_cases h1 : x < o
  · rw [if_neg (by omega), List.append_assoc, List.getElem?_append_left (by simp; omega), List.getElem?_take_of_lt h1, Array.getElem?_toList]
  · by_cases h2 : x < o + cs.length
    · rw [if_pos (by omega), List.append_assoc, List.getElem?_append_right (by simp; omega), List.getElem?_append_left (by simp; omega)]
      simp [Nat.min_eq_left (show o ≤ cur.size from by omega)]
    · rw [if_neg (by omega), List.getElem?_append_right (by simp; omega), List.getElem?_drop, Array.getElem?_toList]
      congr 2
      simp
      omega
theorem putC_one {cur : Array Value} {o : Nat} {cs : List Value} (h1 : ∀ v ∈ cur.toList, v.oneCell' = true) (h2 : ∀ v ∈ cs, v.oneCell' = true) : ∀ v ∈ (putC cur o cs).toList, v.oneCell' = true := by
  intro v hv
  unfold putC at hv
  simp only [List.mem_append] at hv
  rcases hv with (hv | hv) | hv
  · exact h1 v (List.mem_of_mem_take hv)
  · exact h2 v hv
  · exact h1 v (List.mem_of_mem_drop hv)

theorem lt_getD {a b : List Value} {y : Nat} (h : y < a.length) : (a ++ b).getD y undef = a.getD y undef := by
  simp only [List.getD]; rw [List.getElem?_append_left h]
theorem ge_getD {a b : List Value} {y : Nat} (h : a.length ≤ y) : (a ++ b).getD y undef = b.getD (y - a.length) undef := by
  simp only [List.getD]; rw [List.getElem?_append_right h]
theorem toA_getD (l : List Value) (y : Nat) : l.toArray.getD y undef = l.getD y undef := by
  simp only [List.getD, Array.getD_eq_getD_getElem?, List.getElem?_toArray]
theorem setCells_row {P : Program} {w : World} {b o : Nat} {vs : List Value} {cur : Array Value} {t : TypeId} (hb : w.heap[b]? = some (.cells cur t (0, 0))) (hf : o + vs.length ≤ cur.size) (h1 : ∀ v ∈ vs, v.oneCell' = true) : w.setCells b o vs = w.setRow b (putC cur o vs) := by
  have e1 := run_storeCells_at P b o t vs 0 cur w hb (by simpa using hf) h1
  have e2 := run_storeCells_cells (P := P) b o vs 0 w (fun j hj => by
    have h3 : o + 0 + j < cur.size := by omega
    simp only [World.cell?, hb]
    simp [show o + j < cur.size from by omega]) (fun j hj => by simp [World.frozen?, hb]) h1
  rw [e2] at e1
  exact (Result.ok.inj e1).2

theorem setRow_ext {w : World} {b : Nat} {A : Array Value} : FExt (fun c => c = b) w (w.setRow b A) := by
  refine ⟨rfl, rfl, rfl, by simp [World.setRow], fun c hc hne => ?_, Nat.le_refl _⟩
  show (w.heap.modify b _)[c]? = _
  rw [Array.getElem?_modify, if_neg (Ne.symm hne)]
theorem drew_ext {w : World} {F : Nat → Prop} : FExt F w w.drew := ⟨rfl, rfl, rfl, Nat.le_refl _, fun _ _ _ => rfl, Nat.le_succ _⟩

theorem ext_alloc {F : Nat → Prop} (w : World) (o : Obj) : FExt F w (w.alloc o) := by
  refine ⟨rfl, rfl, rfl, ?_, fun c hc _ => alloc_old w o c hc, Nat.le_refl _⟩
  show w.heap.size ≤ (w.heap.push o).size
  simp

section
variable {α : Type} [Inhabited α]
/-- what slices.Insert leaves, as an object -/
theorem ins_post {St M0 : Nat → Prop} {σ : Sig} {w w' : World} {k i : Nat} {l : List α} {x : α} {enc : α → List PV} {g : Nat → List PV} {loc0 : Loc} {b' c' : Nat} {cur nv A : Array Value} {t' : TypeId} (hi : Inv St M0 σ w) (h1 : σ 1 = none) (hl : σ 0 = some loc0) (hil : i ≤ l.length)
    (hb : loc0.blk = some b' ∨ w.heap.size ≤ b') (hx : FExt (fun b => loc0.blk = some b) w w') (hA : w'.heap[b']? = some (.cells A t' (0, 0))) (hn : l.length + 1 ≤ c') (hmax : c' ≤ maxLen) (hsz : A.size = c' * k) (hone : ∀ v ∈ A.toList, v.oneCell' = true)
    (hk : ∀ x, (enc x).length = k) (hgx : PSubs (g 0) (enc x))
    (hold : ∀ j, j < l.length → ∀ q p, (enc (l.getD j default))[q]? = some p → PR w (Mof M0 σ) p (cur.getD (j * k + q) undef)) (hnew : ∀ q p, (g 0)[q]? = some p → PR w (Mof M0 σ) p (nv.getD q undef))
    (hget : ∀ y, y < (l.length + 1) * k → A.getD y undef = if y < i * k then cur.getD y undef else if y < (i + 1) * k then nv.getD (y - i * k) undef else cur.getD (y - k) undef) :
    Post P St M0 σ w [(1, rowL k enc (insL l i x)), (0, .gone)] (.own 1) (upd1 (drop1 σ 0) 1 ⟨.slice (some ⟨b', 0, none⟩) (l.length + 1) c', some b'⟩) (.slice (some ⟨b', 0, none⟩) (l.length + 1) c') w' := by
  have hsame : Same (Mof M0 σ) w w' := hx.same.mono fun b _ h => .inr ⟨0, loc0, hl, h⟩
  have hmon : ∀ b, b < w.heap.size → Mof M0 (upd1 (drop1 σ 0) 1 ⟨.slice (some ⟨b', 0, none⟩) (l.length + 1) c', some b'⟩) b → Mof M0 σ b := by
    intro b hbw hm
    rcases hm with hm | hm
    · exact .inl hm
    · rcases owned_upd1 hm with hm | hm
      · exact .inr (owned_drop1 hm)
      · cases hm
        rcases hb with hb | hb
        · exact .inr ⟨0, loc0, hl, hb⟩
        · omega
  have hlen := insL_length (x := x) hil
  refine Post.moved hi h1 hl (fun b e => by cases e; exact hb) hx (fun e => by cases e) ?_
  show OR P w' St _ _ (.row k (insL l i x).length fun j => enc ((insL l i x).getD j default)) _
  rw [hlen]
  refine .row k (l.length + 1) _ b' c' A t' hA hn hmax hsz (fun j _ => hk _) (fun j hj q p hp => ?_) (fun j hj => ?_)
  · have hq : q < k := by have := (List.getElem?_eq_some_iff.1 hp).1; rwa [hk] at this
    have hjk : ∀ a c : Nat, a < c → a * k + q < c * k := fun a c h => Nat.lt_of_lt_of_le (by rw [Nat.succ_mul]; omega) (Nat.mul_le_mul_right k (show a + 1 ≤ c from h))
    rw [hget _ (hjk _ _ hj)]
    rcases Nat.lt_trichotomy j i with h | h | h
    · rw [if_pos (hjk _ _ h)]
      rw [insL_lt hil h] at hp
      exact (hold j (by omega) q p hp).mono hsame hmon
    · subst h
      rw [if_neg (by omega), if_pos (hjk _ _ (Nat.lt_succ_self j)), Nat.add_sub_cancel_left]
      rw [insL_eq hil] at hp
      obtain ⟨p0, hp0, hsub⟩ := hgx.get q p hp
      exact (hsub.to _ _ _ (hnew q p0 hp0)).mono hsame hmon
    · have h2 : (i + 1) * k ≤ j * k := Nat.mul_le_mul_right k h
      have h3 : i * k ≤ (i + 1) * k := Nat.mul_le_mul_right k (Nat.le_succ i)
      rw [if_neg (by omega), if_neg (by omega)]
      rw [insL_gt hil h] at hp
      have e : j * k + q - k = (j - 1) * k + q := by
        obtain ⟨m, rfl⟩ : ∃ m, j = m + 1 := ⟨j - 1, by omega⟩
        rw [Nat.succ_mul, Nat.add_sub_cancel]; omega
      rw [e]
      exact (hold (j - 1) (by omega) q p hp).mono hsame hmon
  · have := hone A[j] (by simp)
    simpa [Array.getD, hj] using this
end

end Go.Abs

namespace Go.Abs
open Go.Proofs Go.RowKit Go.Lib
set_option linter.unusedVariables false

set_option maxHeartbeats 4000000 in
set_option maxRecDepth 100000 in
theorem insKey_shift (b n c i vb vc : Nat) (cur nv : Array Value) (tb tv : TypeId) (w : World) (hi : i < n) (hroom : n + 1 ≤ c) (hc63 : c ≤ 9223372036854775807) (hvb : vb ≠ b)
    (hb : w.heap[b]? = some (.cells cur tb (0, 0))) (hcs : cur.size = c * 3) (hc1 : ∀ v ∈ cur.toList, v.oneCell' = true)
    (hv : w.heap[vb]? = some (.cells nv tv (0, 0))) (hvs : nv.size = vc * 3) (hv1 : ∀ v ∈ nv.toList, v.oneCell' = true) (hvc : 1 ≤ vc) :
    Calls Tryz.prog 99 #[.slice (some ⟨b, 0, none⟩) n c, .int .i64 i, .slice (some ⟨vb, 0, none⟩) 1 vc] w fun e w' =>
      e = .returned (.slice (some ⟨b, 0, none⟩) (n + 1) c) ∧ w' = (w.drew.setRow b (putC cur ((i + 1) * 3) ((cur.toList.drop (i * 3)).take ((n - i) * 3)))).setRow b (putC (putC cur ((i + 1) * 3) ((cur.toList.drop (i * 3)).take ((n - i) * 3))) (i * 3) (nv.toList.take 3)) := by
  have t3 := Tryz.underlying3; have a3 := Tryz.isAgg3; have z3 := Tryz.sizeOf3; have v3 := Tryz.zeroValue3
  have t4 := Tryz.underlying4; have a4 := Tryz.isAgg4; have z4 := Tryz.sizeOf4; have v4 := Tryz.zeroValue4
  have t9 := Tryz.underlying37; have a9 := Tryz.isAgg37; have z9 := Tryz.sizeOf37; have v9 := Tryz.zeroValue37
  have t24 := Tryz.underlying55; have a24 := Tryz.isAgg55; have z24 := Tryz.sizeOf55; have v24 := Tryz.zeroValue55
  have u3 := run_underlying t3; have u4 := run_underlying t4; have u9 := run_underlying t9; have u24 := run_underlying t24
  have hz2 : ¬ ((i : Int) = (n : Int)) := by omega
  have hsv : w.shape? vb = some (tv, nv.size) := by simp [World.shape?, hv]
  have hsb : w.shape? b = some (tb, cur.size) := by simp [World.shape?, hb]
  have hov : ∀ lb cb, (callFunc 140 #[.slice (some ⟨vb, 0, none⟩) 1 vc, .slice (some ⟨b, (i + 1) * 3, none⟩) lb cb]).run Tryz.prog w = .ok (.value (.bool false)) w := fun lb cb => by
    rw [run_callFunc_extern Tryz.func140 (by kernel_rfl) (by kernel_rfl) (by kernel_rfl) (e := Extern.SlicesOverlaps.overlaps #[55, 55] #[4]) (by kernel_rfl),
      Lib.run_overlaps_apart w 55 4 37 t24 3 z9 ⟨vb, 0, none⟩ ⟨b, (i + 1) * 3, none⟩ 1 vc lb cb hvb tv tb nv.size cur.size hsv hsb (by omega) (by simp [World.frozen?, hv]) (by simp [World.frozen?, hv])]
    rfl
  have hw1 : IntKind.i64.wrap ((i : Int) + 1) = (i : Int) + 1 := by rw [IntKind.wrap_i64]; omega
  have hw2 : IntKind.i64.wrap ((n : Int) + 1) = (n : Int) + 1 := by rw [IntKind.wrap_i64]; omega
  have hb1 : (0 : Int) ≤ (i : Int) + 1 := by omega
  have hin : i ≤ n := by omega
  have htn : ((i : Int) + 1).toNat = i + 1 := by omega
  have htn2 : ((n : Int) + 1).toNat = n + 1 := by omega
  have hb2 : ¬ (c = i + 1) := by omega
  have hb3 : (i : Int) ≤ (n : Int) + 1 := by omega
  have hb4 : ¬ (c = i) := by omega
  have hnc : ¬ ((c : Int) < (n : Int) + 1) := by omega
  obtain ⟨cs, hcs1⟩ : ∃ cs, cs = (cur.toList.drop (i * 3)).take ((n - i) * 3) := ⟨_, rfl⟩
  have hcl : cs.length = (n - i) * 3 := by rw [hcs1]; simp; omega
  have hcg : ∀ j v, cs[j]? = some v → cur[i * 3 + j]? = some v := fun j v hj => by
    rw [hcs1, List.getElem?_take] at hj
    split at hj
    · rw [List.getElem?_drop] at hj; simpa using hj
    · cases hj
  have hcm : ∀ v ∈ cs, v.oneCell' = true := fun v hv => by rw [hcs1] at hv; exact hc1 v (List.mem_of_mem_drop (List.mem_of_mem_take hv))
  have hcp1 : ∀ ty dc sc, (Builtin.copy_ #[55, 55] ty #[.slice (some ⟨b, (i + 1) * 3, none⟩) (n - i) dc, .slice (some ⟨b, i * 3, none⟩) (n + 1 - i) sc]).run Tryz.prog w.drew = .ok (goInt ((n - i : Nat) : Int)) (w.drew.setRow b (putC cur ((i + 1) * 3) cs)) := fun ty dc sc => by
    have h0 := run_copy_rowK (P := Tryz.prog) 3 w.drew 55 55 ty 37 b ((i + 1) * 3) (n - i) dc ⟨b, i * 3, none⟩ (n + 1 - i) sc cur tb cs (n - i) t24 z9 hb (by simp only [Nat.min_def]; split <;> omega) hcl
      (fun j v hj => by
        have h := hcg j v hj
        rw [Addr.add_lit]
        show w.cell? _ = _
        simp only [World.cell?, hb]
        simpa using h) (by rw [hcl]; omega) hcm
    exact h0
  obtain ⟨A1, hA1⟩ : ∃ A1, A1 = putC cur ((i + 1) * 3) cs := ⟨_, rfl⟩
  have hA1s : A1.size = cur.size := by rw [hA1, putC_size (by rw [hcl]; omega)]
  have hg1 : (w.drew.setRow b A1).heap[b]? = some (.cells A1 tb (0, 0)) := setRow_heap w.drew b cur _ tb _ hb
  have hv2 : (w.drew.setRow b A1).heap[vb]? = some (.cells nv tv (0, 0)) := by
    show (w.drew.heap.modify b _)[vb]? = _
    rw [Array.getElem?_modify, if_neg (Ne.symm hvb)]; exact hv
  have hvl : (nv.toList.take 3).length = 1 * 3 := by simp; omega
  have hcp2 : ∀ (W : World), W.heap = (w.drew.setRow b A1).heap → ∀ ty dc, (Builtin.copy_ #[55, 55] ty #[.slice (some ⟨b, i * 3, none⟩) (n + 1 - i) dc, .slice (some ⟨vb, 0, none⟩) 1 vc]).run Tryz.prog W = .ok (goInt ((1 : Nat) : Int)) (W.setRow b (putC A1 (i * 3) (nv.toList.take 3))) := fun W hW ty dc => by
    have h0 := run_copy_rowK (P := Tryz.prog) 3 W 55 55 ty 37 b (i * 3) (n + 1 - i) dc ⟨vb, 0, none⟩ 1 vc A1 tb (nv.toList.take 3) 1 t24 z9 (by rw [hW]; exact hg1) (by simp only [Nat.min_def]; split <;> omega) hvl
      (fun j v hj => by
        rw [Addr.add_lit, Nat.zero_add]
        simp only [World.cell?, hW, hv2]
        rw [List.getElem?_take] at hj
        split at hj
        · simpa using hj
        · cases hj) (by rw [hvl]; omega) (fun v hv => hv1 v (List.mem_of_mem_take hv))
    exact h0
  rw [← hA1] at hcp1
  rw [← hcs1, ← hA1]
  have mixed := hm
  go_enter Tryz.func99, Tryz.ntmps99
  go_wp2_with (simp only [hov])
  go_region_law_o (refine step_copy_runI rfl _ _ 55 55 rfl _ _ (by simp [Act.eval, Act.put]) (by simp [Act.eval, Act.put]) (hcp1 _ _ _) ?_)
  go_wp2_with (at_builtin; refine wpList_copy_runI _ rfl _ _ 55 55 rfl _ _ rfl rfl (hcp2 _ rfl _ _) ?_)
  go_ret
  exact ⟨rfl, by rw [hA1, hcs1]⟩

theorem src_row {w : World} {vb vc : Nat} {nv : Array Value} {tv : TypeId} (hv : w.heap[vb]? = some (.cells nv tv (0, 0))) (hvs : nv.size = vc * 3) (hv1 : ∀ v ∈ nv.toList, v.oneCell' = true) (hvc : 1 ≤ vc) :
    Go.Src Tryz.prog 3 55 (.slice (some ⟨vb, 0, none⟩) 1 vc) 1 (nv.toList.take 3) w :=
  Go.Src.ofSlice (w := w) Tryz.underlying55 ⟨vb, 0, none⟩ 1 vc (nv.toList.take 3) (by simp; omega) (fun j u hj => by
    rw [Addr.add_lit, Nat.zero_add]
    simp only [World.cell?, hv]
    rw [List.getElem?_take] at hj
    split at hj
    · simpa using hj
    · cases hj) (fun v hv => hv1 v (List.mem_of_mem_take hv))

set_option maxHeartbeats 4000000 in
set_option maxRecDepth 100000 in
theorem insKey_end_room (b n c vb vc : Nat) (cur nv : Array Value) (tb tv : TypeId) (w : World) (hroom : n + 1 ≤ c) (hc63 : c ≤ 9223372036854775807)
    (hb : w.heap[b]? = some (.cells cur tb (0, 0))) (hcs : cur.size = c * 3)
    (hv : w.heap[vb]? = some (.cells nv tv (0, 0))) (hvs : nv.size = vc * 3) (hv1 : ∀ v ∈ nv.toList, v.oneCell' = true) (hvc : 1 ≤ vc) :
    Calls Tryz.prog 99 #[.slice (some ⟨b, 0, none⟩) n c, .int .i64 n, .slice (some ⟨vb, 0, none⟩) 1 vc] w fun e w' =>
      e = .returned (.slice (some ⟨b, 0, none⟩) (n + 1) c) ∧ w' = w.setCells b (n * 3) (nv.toList.take 3) := by
  have t3 := Tryz.underlying3; have a3 := Tryz.isAgg3; have z3 := Tryz.sizeOf3; have v3 := Tryz.zeroValue3
  have t4 := Tryz.underlying4; have a4 := Tryz.isAgg4; have z4 := Tryz.sizeOf4; have v4 := Tryz.zeroValue4
  have t9 := Tryz.underlying37; have a9 := Tryz.isAgg37; have z9 := Tryz.sizeOf37; have v9 := Tryz.zeroValue37
  have t24 := Tryz.underlying55; have a24 := Tryz.isAgg55; have z24 := Tryz.sizeOf55; have v24 := Tryz.zeroValue55
  have u3 := run_underlying t3; have u4 := run_underlying t4; have u9 := run_underlying t9; have u24 := run_underlying t24
  have mixed := hm
  obtain ⟨i0, hi0, hz0, hzs, hzb⟩ := info_parts (show (Tryz.prog.info? 37).map (fun i => (i.zero, i.size, i.bytes)) = some (some (.agg #[.int .i64 0, .string ⟨#[]⟩, .string ⟨#[]⟩]), 3, 40) from by kernel_rfl)
  have hvl : (nv.toList.take 3).length = 3 := by simp; omega
  have hsrc := src_row hv hvs hv1 hvc
  have hrun : ∀ ty, (Builtin.append_ #[55, 55] ty #[.slice (some ⟨b, 0, none⟩) n c, .slice (some ⟨vb, 0, none⟩) 1 vc]).run Tryz.prog w = .ok (.slice (some ⟨b, 0, none⟩) (n + 1) c) (w.setCells b (n * 3) (nv.toList.take 3)) := fun ty => by
    have h0 := run_append_room_src (P := Tryz.prog) (w := w) 55 55 ty 37 i0 t24 hi0 b 0 n c (.slice (some ⟨vb, 0, none⟩) 1 vc) 1 (nv.toList.take 3) (by rw [hzs]; exact hsrc) hroom
      (fun j hj => by
        rw [hzs]
        have h1 : n * 3 + j < cur.size := by omega
        simp only [World.cell?, hb, Nat.zero_add]
        simp [h1]) (fun j hj => by simp [World.frozen?, hb])
    rw [hzs, Nat.zero_add] at h0
    exact h0
  go_enter Tryz.func99, Tryz.ntmps99
  go_wp2_with (at_builtin; refine Lib.wpList_append_run _ rfl _ _ _ _ rfl _ _ rfl rfl _ _ (hrun _) ?_)
  go_ret
  exact ⟨rfl, rfl⟩

set_option maxHeartbeats 4000000 in
set_option maxRecDepth 100000 in
theorem insKey_end_grow (base : Option Addr) (n c vb vc : Nat) (olds : List Value) (nv : Array Value) (tv : TypeId) (w : World) (hnc : n ≤ c) (hroom : c < n + 1) (hbig : (n + 1) * 40 ≤ 140737488355328)
    (hold : (Builtin.firstCells 3 n (.slice base n c)).run Tryz.prog w.drew = .ok olds.toArray w.drew) (hnil : base = none → n = 0)
    (hv : w.heap[vb]? = some (.cells nv tv (0, 0))) (hvs : nv.size = vc * 3) (hv1 : ∀ v ∈ nv.toList, v.oneCell' = true) (hvc : 1 ≤ vc) :
    Calls Tryz.prog 99 #[.slice base n c, .int .i64 n, .slice (some ⟨vb, 0, none⟩) 1 vc] w fun e w' =>
      e = .returned (.slice (some ⟨w.heap.size, 0, none⟩) (n + 1) (grownCap w (n + 1) c 37)) ∧
      w' = w.drew.alloc (.cells ((olds ++ nv.toList.take 3).toArray ++ Builtin.zeroCells (Value.agg #[.int .i64 0, .string ⟨#[]⟩, .string ⟨#[]⟩]).cells (grownCap w (n + 1) c 37 - (n + 1))) 37) := by
  have t3 := Tryz.underlying3; have a3 := Tryz.isAgg3; have z3 := Tryz.sizeOf3; have v3 := Tryz.zeroValue3
  have t4 := Tryz.underlying4; have a4 := Tryz.isAgg4; have z4 := Tryz.sizeOf4; have v4 := Tryz.zeroValue4
  have t9 := Tryz.underlying37; have a9 := Tryz.isAgg37; have z9 := Tryz.sizeOf37; have v9 := Tryz.zeroValue37
  have t24 := Tryz.underlying55; have a24 := Tryz.isAgg55; have z24 := Tryz.sizeOf55; have v24 := Tryz.zeroValue55
  have u3 := run_underlying t3; have u4 := run_underlying t4; have u9 := run_underlying t9; have u24 := run_underlying t24
  have mixed := hm
  obtain ⟨i0, hi0, hz0, hzs, hzb⟩ := info_parts (show (Tryz.prog.info? 37).map (fun i => (i.zero, i.size, i.bytes)) = some (some (.agg #[.int .i64 0, .string ⟨#[]⟩, .string ⟨#[]⟩]), 3, 40) from by kernel_rfl)
  have hsrc := src_row hv hvs hv1 hvc
  have hrun : ∀ ty, (Builtin.append_ #[55, 55] ty #[.slice base n c, .slice (some ⟨vb, 0, none⟩) 1 vc]).run Tryz.prog w = _ := fun ty =>
    run_append_grow_src (P := Tryz.prog) (w := w) 55 55 ty 37 i0 _ t24 hi0 hz0 base n c olds (by rw [hzs]; exact hold) (.slice (some ⟨vb, 0, none⟩) 1 vc) 1 (nv.toList.take 3) (by rw [hzs]; exact hsrc) hroom (by omega) (by rw [hzb]; exact growslice_fits hroom hbig)
  go_enter Tryz.func99, Tryz.ntmps99
  cases base with
  | none =>
    have h0 := hnil rfl
    subst h0
    go_wp2_with (at_builtin; refine Lib.wpList_append_run _ rfl _ _ _ _ rfl _ _ rfl rfl _ _ (hrun _) ?_)
    go_ret
    exact ⟨rfl, rfl⟩
  | some a =>
    obtain ⟨ab, ao, asp⟩ := a
    go_wp2_with (at_builtin; refine Lib.wpList_append_run _ rfl _ _ _ _ rfl _ _ rfl rfl _ _ (hrun _) ?_)
    all_goals (go_ret; exact ⟨rfl, rfl⟩)

set_option maxHeartbeats 4000000 in
set_option maxRecDepth 100000 in
theorem insKey_grow (b n c i vb vc : Nat) (cur nv : Array Value) (tb tv : TypeId) (w : World) (hi : i < n) (hnc : n ≤ c) (hroom : c < n + 1) (hbig : (n + 1) * 40 ≤ 140737488355328)
    (hb : w.heap[b]? = some (.cells cur tb (0, 0))) (hcs : cur.size = c * 3) (hc1 : ∀ v ∈ cur.toList, v.oneCell' = true)
    (hv : w.heap[vb]? = some (.cells nv tv (0, 0))) (hvs : nv.size = vc * 3) (hv1 : ∀ v ∈ nv.toList, v.oneCell' = true) (hvc : 1 ≤ vc) :
    ∃ G ROW W1, n + 1 ≤ G ∧ G ≤ maxLen ∧ ROW = (cur.toList.take (i * 3)).toArray ++ Builtin.zeroCells (Value.agg #[.int .i64 0, .string ⟨#[]⟩, .string ⟨#[]⟩]).cells (n + 1 - i) ++ Builtin.zeroCells (Value.agg #[.int .i64 0, .string ⟨#[]⟩, .string ⟨#[]⟩]).cells (G - (n + 1)) ∧ W1 = w.drew.alloc (.cells ROW 37) ∧
    Calls Tryz.prog 99 #[.slice (some ⟨b, 0, none⟩) n c, .int .i64 i, .slice (some ⟨vb, 0, none⟩) 1 vc] w fun e w' =>
      e = .returned (.slice (some ⟨w.heap.size, 0, none⟩) (n + 1) G) ∧ w' = (((W1.setRow w.heap.size (putC ROW (i * 3) (nv.toList.take 3)))).drew).setRow w.heap.size (putC (putC ROW (i * 3) (nv.toList.take 3)) ((i + 1) * 3) ((cur.toList.drop (i * 3)).take ((n - i) * 3))) := by
  have t3 := Tryz.underlying3; have a3 := Tryz.isAgg3; have z3 := Tryz.sizeOf3; have v3 := Tryz.zeroValue3
  have t4 := Tryz.underlying4; have a4 := Tryz.isAgg4; have z4 := Tryz.sizeOf4; have v4 := Tryz.zeroValue4
  have t9 := Tryz.underlying37; have a9 := Tryz.isAgg37; have z9 := Tryz.sizeOf37; have v9 := Tryz.zeroValue37
  have t24 := Tryz.underlying55; have a24 := Tryz.isAgg55; have z24 := Tryz.sizeOf55; have v24 := Tryz.zeroValue55
  have u3 := run_underlying t3; have u4 := run_underlying t4; have u9 := run_underlying t9; have u24 := run_underlying t24
  have mixed := hm
  obtain ⟨i0, hi0, hz0, hzs, hzb⟩ := info_parts (show (Tryz.prog.info? 37).map (fun i => (i.zero, i.size, i.bytes)) = some (some (.agg #[.int .i64 0, .string ⟨#[]⟩, .string ⟨#[]⟩]), 3, 40) from by kernel_rfl)
  have hbw : b < w.heap.size := lt_of_block hb
  have hvw : vb < w.heap.size := lt_of_block hv
  have hz2 : ¬ ((i : Int) = (n : Int)) := by omega
  have hz3 : (c : Int) < (n : Int) + 1 := by omega
  have hkk : (n : Int) + 1 - (i : Int) = ((n + 1 - i : Nat) : Int) := by omega
  have hik : i + (n + 1 - i) = n + 1 := by omega
  have hcell : ∀ (o j : Nat) (v : Value), cur[o + j]? = some v → w.cell? ⟨b, o + j, none⟩ = some v := fun o j v h => by
    simp only [World.cell?, hb]
    simpa using h
  have hold : (Builtin.firstCells i0.size i (.slice (some ⟨b, 0, none⟩) i c)).run Tryz.prog w.drew = .ok (cur.toList.take (i * 3)).toArray w.drew := by
    rw [hzs]
    exact run_firstCells_some w.drew 3 i ⟨b, 0, none⟩ i c (cur.toList.take (i * 3)) (by rw [List.length_take]; simp; omega) (fun j v hj => by
      rw [Addr.add_lit]
      rw [List.getElem?_take] at hj
      split at hj
      · exact hcell 0 j v (by simpa using hj)
      · cases hj)
  obtain ⟨G, hG⟩ : ∃ G, G = grownCap w (n + 1) c 37 := ⟨_, rfl⟩
  obtain ⟨ROW, hROW⟩ : ∃ ROW : Array Value, ROW = (cur.toList.take (i * 3)).toArray ++ Builtin.zeroCells (Value.agg #[.int .i64 0, .string ⟨#[]⟩, .string ⟨#[]⟩]).cells (n + 1 - i) ++ Builtin.zeroCells (Value.agg #[.int .i64 0, .string ⟨#[]⟩, .string ⟨#[]⟩]).cells (G - (n + 1)) := ⟨_, rfl⟩
  have hrz : ∀ ty, (Builtin.append_ #[55, 3] ty #[.slice (some ⟨b, 0, none⟩) i c, .int .i64 ((n : Int) + 1 - (i : Int))]).run Tryz.prog w =
      .ok (.slice (some ⟨w.heap.size, 0, none⟩) (n + 1) G) (w.drew.alloc (.cells ROW 37)) := fun ty => by
    have h := Lib.run_append_grow_zeros (P := Tryz.prog) w 55 3 ty 37 i0 _ .i64 .i64 t24 t3 hi0 hz0 (some ⟨b, 0, none⟩) i c (cur.toList.take (i * 3)) hold (n + 1 - i) (by omega) (by omega) (by omega) (by omega) (by rw [hzb]; omega) (by rw [hzb, hik]; exact growslice_fits hroom hbig)
    rw [hik] at h
    rw [hkk, hROW, hG]
    exact h
  have hGn : n + 1 ≤ G := by rw [hG]; exact grownCap_ge w _ _ _
  have hGm : G ≤ maxLen := by rw [hG]; exact grownCap_le_maxLen w (n + 1) c 37 (by unfold maxLen; omega)
  have hG63 : G ≤ 9223372036854775807 := by unfold maxLen at hGm; omega
  have hRl : ROW.size = G * 3 := by
    rw [hROW]
    simp [Builtin.zeroCells, Value.cells]
    omega
  obtain ⟨W1, hW1⟩ : ∃ W1, W1 = w.drew.alloc (.cells ROW 37) := ⟨_, rfl⟩
  refine ⟨G, ROW, W1, hGn, hGm, hROW, hW1, ?_⟩
  rw [← hW1] at hrz
  have hN1 : W1.heap[w.heap.size]? = some (.cells ROW 37 (0, 0)) := by rw [hW1]; exact alloc_new w.drew _
  have hB1 : W1.heap[b]? = some (.cells cur tb (0, 0)) := by rw [hW1]; exact (alloc_old w.drew _ b hbw).trans hb
  have hV1 : W1.heap[vb]? = some (.cells nv tv (0, 0)) := by rw [hW1]; exact (alloc_old w.drew _ vb hvw).trans hv
  have hvl : (nv.toList.take 3).length = 1 * 3 := by simp; omega
  have hcpA : ∀ (W : World), W.heap = W1.heap → ∀ ty dc, (Builtin.copy_ #[55, 55] ty #[.slice (some ⟨w.heap.size, i * 3, none⟩) (n + 1 - i) dc, .slice (some ⟨vb, 0, none⟩) 1 vc]).run Tryz.prog W = .ok (goInt ((1 : Nat) : Int)) (W.setRow w.heap.size (putC ROW (i * 3) (nv.toList.take 3))) := fun W hW ty dc => by
    have h0 := run_copy_rowK (P := Tryz.prog) 3 W 55 55 ty 37 w.heap.size (i * 3) (n + 1 - i) dc ⟨vb, 0, none⟩ 1 vc ROW 37 (nv.toList.take 3) 1 t24 z9 (by rw [hW]; exact hN1) (by simp only [Nat.min_def]; split <;> omega) hvl
      (fun j v hj => by
        rw [Addr.add_lit, Nat.zero_add]
        simp only [World.cell?, hW, hV1]
        rw [List.getElem?_take] at hj
        split at hj
        · simpa using hj
        · cases hj) (by rw [hvl]; omega) (fun v hv => hv1 v (List.mem_of_mem_take hv))
    exact h0
  obtain ⟨A1, hA1⟩ : ∃ A1, A1 = putC ROW (i * 3) (nv.toList.take 3) := ⟨_, rfl⟩
  have hA1s : A1.size = ROW.size := by rw [hA1, putC_size (by rw [hvl]; omega)]
  obtain ⟨cs, hcs1⟩ : ∃ cs, cs = (cur.toList.drop (i * 3)).take ((n - i) * 3) := ⟨_, rfl⟩
  have hcl : cs.length = (n - i) * 3 := by rw [hcs1]; simp; omega
  have hcg : ∀ j v, cs[j]? = some v → cur[i * 3 + j]? = some v := fun j v hj => by
    rw [hcs1, List.getElem?_take] at hj
    split at hj
    · rw [List.getElem?_drop] at hj; simpa using hj
    · cases hj
  have hcm : ∀ v ∈ cs, v.oneCell' = true := fun v hv => by rw [hcs1] at hv; exact hc1 v (List.mem_of_mem_drop (List.mem_of_mem_take hv))
  have hN2 : (W1.setRow w.heap.size A1).heap[w.heap.size]? = some (.cells A1 37 (0, 0)) := setRow_heap W1 w.heap.size ROW _ 37 _ hN1
  have hB2 : (W1.setRow w.heap.size A1).heap[b]? = some (.cells cur tb (0, 0)) := by
    show (W1.heap.modify w.heap.size _)[b]? = _
    rw [Array.getElem?_modify, if_neg (by omega)]; exact hB1
  have hcpB : ∀ (W : World), W.heap = (W1.setRow w.heap.size A1).heap → ∀ ty dc sc, (Builtin.copy_ #[55, 55] ty #[.slice (some ⟨w.heap.size, (i + 1) * 3, none⟩) (n - i) dc, .slice (some ⟨b, i * 3, none⟩) (n - i) sc]).run Tryz.prog W = .ok (goInt ((n - i : Nat) : Int)) (W.setRow w.heap.size (putC A1 ((i + 1) * 3) cs)) := fun W hW ty dc sc => by
    have h0 := run_copy_rowK (P := Tryz.prog) 3 W 55 55 ty 37 w.heap.size ((i + 1) * 3) (n - i) dc ⟨b, i * 3, none⟩ (n - i) sc A1 37 cs (n - i) t24 z9 (by rw [hW]; exact hN2) (by simp only [Nat.min_def]; split <;> omega) hcl
      (fun j v hj => by
        have h := hcg j v hj
        rw [Addr.add_lit]
        simp only [World.cell?, hW, hB2]
        simpa using h) (by rw [hcl]; omega) hcm
    exact h0
  have hw1 : IntKind.i64.wrap ((i : Int) + 1) = (i : Int) + 1 := by rw [IntKind.wrap_i64]; omega
  have hw2 : IntKind.i64.wrap ((n : Int) + 1) = (n : Int) + 1 := by rw [IntKind.wrap_i64]; omega
  have hw3 : IntKind.i64.wrap ((n : Int) + 1 - (i : Int)) = (n : Int) + 1 - (i : Int) := by rw [IntKind.wrap_i64]; omega
  have hb1 : (0 : Int) ≤ (i : Int) + 1 := by omega
  have hin : i ≤ n := by omega
  have htn : ((i : Int) + 1).toNat = i + 1 := by omega
  have hb3 : (i : Int) ≤ (n : Int) := by omega
  have hGi : ¬ (G = i) := by omega
  have hGim : ¬ (G = i + 1) := by omega
  have hci : ¬ (c = i) := by omega
  rw [← hA1] at hcpA
  rw [← hA1, ← hcs1]
  clear hkk hik hold hROW hG hW1 hcs1 hA1
  go_enter Tryz.func99, Tryz.ntmps99
  go_wp2_with (first
    | (at_builtin; refine Lib.wpList_append_run _ rfl _ _ _ _ rfl _ _ rfl rfl _ _ (hrz _) ?_)
    | (at_builtin; refine wpList_copy_runI _ rfl _ _ 55 55 rfl _ _ rfl rfl (hcpA _ rfl _ _) ?_))
  go_region_law_o (refine step_copy_runI rfl _ _ 55 55 rfl (.slice (some ⟨w.heap.size, (i + 1) * 3, none⟩) (n - i) (G - (i + 1))) (.slice (some ⟨b, i * 3, none⟩) (n - i) (c - i)) (by simp [Act.eval, Act.put]) (by simp [Act.eval, Act.put]) (hcpB (W1.setRow w.heap.size A1).drew rfl 3 (G - (i + 1)) (c - i)) ?_)
  go_wp2
  go_ret
  exact ⟨rfl, rfl⟩

theorem zeroK_one (m : Nat) : ∀ v ∈ (Builtin.zeroCells (Value.agg #[.int .i64 0, .string ⟨#[]⟩, .string ⟨#[]⟩]).cells m).toList, v.oneCell' = true := by
  intro v hv
  obtain ⟨j, hj, rfl⟩ := List.getElem_of_mem hv
  have h3 : j % 3 = 0 ∨ j % 3 = 1 ∨ j % 3 = 2 := by omega
  simp only [Builtin.zeroCells, Value.cells, Array.toList_map, List.getElem_map, Array.toList_range, List.getElem_range]
  show (#[Value.int .i64 0, .string ⟨#[]⟩, .string ⟨#[]⟩][j % 3]!).oneCell' = true
  rcases h3 with h | h | h <;> rw [h] <;> rfl

theorem zeroK_size (m : Nat) : (Builtin.zeroCells (Value.agg #[.int .i64 0, .string ⟨#[]⟩, .string ⟨#[]⟩]).cells m).size = m * 3 := by simp [Builtin.zeroCells, Value.cells]
theorem take_getD {nv : Array Value} {m y : Nat} (h : y < m) : (nv.toList.take m).getD y undef = nv.getD y undef := by
  simp only [List.getD, Array.getD_eq_getD_getElem?]
  rw [List.getElem?_take_of_lt h, Array.getElem?_toList]
theorem mid_getD {cur : Array Value} {a m y : Nat} (h : y < m) : ((cur.toList.drop a).take m).getD y undef = cur.getD (a + y) undef := by
  simp only [List.getD, Array.getD_eq_getD_getElem?]
  rw [List.getElem?_take_of_lt h, List.getElem?_drop, Array.getElem?_toList]

set_option maxHeartbeats 1000000 in
theorem ac_slices_Insert_Key {l : List Key} {i : Nat} {x : Key} {g : Nat → List PV} (hil : i ≤ l.length) (hln : l.length ≤ 1048576) (hgx : PSubs (g 0) (cKey x)) :
    AC Tryz.prog 99 [.own 0, .pv (vint i), .own 2] [(0, rowL 3 cKey l), (2, .row 3 1 g)] (.own 1) [(1, rowL 3 cKey (insL l i x)), (0, .gone)] := by
  refine ⟨Tryz.call99, fun St M0 σ w vals hi hσ hos hsz hA => ?_⟩
  obtain ⟨loc0, hl0, hor⟩ := hos 0 _ (by simp [getO]; rfl)
  obtain ⟨loc2, hl2, hor2⟩ := hos 2 (.row 3 1 g) (by simp [getO])
  have h1 : σ 1 = none := hσ 1 (by simp [getO])
  have hv0 := arg_own (hA 0 (.own 0) rfl) hl0
  have hv1 := pr_val (arg_pv (hA 1 (.pv (vint i)) rfl))
  have hv2 := arg_own (hA 2 (.own 2) rfl) hl2
  have hvals : vals = #[vals.getD 0 undef, vals.getD 1 undef, vals.getD 2 undef] := by
    have hs2 : vals.size = 3 := hsz
    apply Array.ext
    · simpa using hs2
    · intro i h2 h3
      have : i = 0 ∨ i = 1 ∨ i = 2 := by omega
      rcases this with rfl | rfl | rfl <;> simp [Array.getD, hs2]
  rw [hvals, hv0, hv1, hv2]
  generalize hk1 : (1 : Nat) = n1 at hor2
  cases hor2 with
  | row0 _ _ a => cases hk1
  | row _ _ _ b2 cap2 nv tv hb2 hn2 hmax2 hsz2 hs2 hh2 hone2 =>
  subst hk1
  have hnv1 : ∀ v ∈ nv.toList, v.oneCell' = true := fun v hv => by
    obtain ⟨j, hj, rfl⟩ := List.getElem_of_mem hv
    have := hone2 j (by simpa using hj)
    simpa [Array.getD, show j < nv.size from by simpa using hj] using this
  have hnew : ∀ q p, (g 0)[q]? = some p → PR w (Mof M0 σ) p (nv.getD q undef) := fun q p e => by
    have := hh2 0 (by omega) q p e
    rwa [Nat.zero_mul, Nat.zero_add] at this
  have hnl : (nv.toList.take 3).length = 3 := by simp; omega
  have hnm : ∀ v ∈ nv.toList.take 3, v.oneCell' = true := fun v hv => hnv1 v (List.mem_of_mem_take hv)
  change OR _ _ _ _ _ (.row 3 l.length fun j => cKey (l.getD j default)) loc0 at hor
  generalize hn0 : l.length = n0 at hor
  have hml : n0 + 1 ≤ maxLen := by unfold maxLen; omega
  cases hor with
  | row0 _ _ a =>
    have hi0 : i = 0 := by omega
    subst hi0
    refine (insKey_end_grow a 0 0 b2 cap2 [] nv tv w (by omega) (by omega) (by omega) (by
      cases a with
      | none => exact run_firstCells_none w.drew 3 0 0 0
      | some ad => exact run_firstCells_some w.drew 3 0 ad 0 0 [] rfl (fun j v hj => by simp at hj)) (fun _ => rfl) hb2 hsz2 hnv1 hn2).mono (fun e w' h => ?_)
    obtain ⟨rfl, rfl⟩ := h
    have hge := grownCap_ge w (0 + 1) 0 37
    have hp := ins_post (P := Tryz.prog) (x := x) (g := g) (enc := cKey) (k := 3) (cur := #[]) (nv := nv) (A := (([] ++ nv.toList.take 3).toArray ++ Builtin.zeroCells (Value.agg #[.int .i64 0, .string ⟨#[]⟩, .string ⟨#[]⟩]).cells (grownCap w (0 + 1) 0 37 - (0 + 1)))) (t' := 37) (c' := grownCap w (0 + 1) 0 37) hi h1 hl0 hil (.inr (Nat.le_refl _)) (drew_ext.trans (ext_alloc _ _)) (alloc_new w.drew _) (by rw [hn0]; exact hge) (grownCap_le_maxLen w _ _ _ hml) (by rw [Array.size_append, List.size_toArray, List.nil_append, hnl, zeroK_size]; omega) (fun v hv => ?_) (fun _ => rfl) hgx (fun j hj => by omega) hnew (fun y hy => ?_)
    · rw [hn0] at hp
      exact ⟨_, _, rfl, hp⟩
    · simp only [Array.toList_append, List.mem_append, List.nil_append] at hv
      rcases hv with hv | hv
      · exact hnm v hv
      · exact zeroK_one _ v hv
    · rw [hn0] at hy
      rw [if_neg (by omega), if_pos (by omega), getD_append_left (by rw [List.size_toArray, List.nil_append, hnl]; omega), Nat.zero_mul, Nat.sub_zero, toA_getD, List.nil_append, take_getD (m := 3) (by omega)]
  | row _ _ _ b cap vs tb hb hn hmax hsz' hs hh hone =>
    have hc1 : ∀ v ∈ vs.toList, v.oneCell' = true := fun v hv => by
      obtain ⟨j, hj, rfl⟩ := List.getElem_of_mem hv
      have := hone j (by simpa using hj)
      simpa [Array.getD, show j < vs.size from by simpa using hj] using this
    have hne : b2 ≠ b := fun e => by
      subst e
      have := hi.sep 0 2 _ _ b2 hl0 hl2 rfl rfl
      cases this
    subst hn0
    have hc63 : cap ≤ 9223372036854775807 := by unfold maxLen at hmax; omega
    have fin := fun (w' : World) (b' c' : Nat) (A : Array Value) (t' : TypeId) (hb') (hx) (hA) (hn') (hm') (hz) (ho) (hg) => ins_post (P := Tryz.prog) (w' := w') (b' := b') (c' := c') (A := A) (t' := t') (x := x) (g := g) (enc := cKey) (k := 3) (cur := vs) (nv := nv) hi h1 hl0 hil hb' hx hA hn' hm' hz ho (fun _ => rfl) hgx (fun j hj q p e => hh j hj q p e) hnew hg
    by_cases hin : i = l.length
    · subst hin
      by_cases hroom : l.length + 1 ≤ cap
      · refine (insKey_end_room b l.length cap b2 cap2 vs nv tb tv w hroom hc63 hb hsz' hb2 hsz2 hnv1 hn2).mono (fun e w' h => ?_)
        obtain ⟨rfl, rfl⟩ := h
        rw [setCells_row (P := Tryz.prog) hb (by rw [hnl]; omega) hnm]
        refine ⟨_, _, rfl, fin _ b cap (putC vs (l.length * 3) (nv.toList.take 3)) tb (.inl rfl) (setRow_ext.mono fun c _ h => by rw [h]) (setRow_heap w b vs _ tb _ hb) hroom hmax (by rw [putC_size (by rw [hnl]; omega)]; exact hsz') (putC_one hc1 hnm) (fun y hy => ?_)⟩
        rw [putC_get (by rw [hnl]; omega), hnl]
        by_cases hy1 : y < l.length * 3
        · rw [if_neg (by omega), if_pos hy1]
        · rw [if_pos (by omega), if_neg hy1, if_pos (by omega), take_getD (by omega)]
      · refine (insKey_end_grow (some ⟨b, 0, none⟩) l.length cap b2 cap2 (vs.toList.take (l.length * 3)) nv tv w hn (by omega) (by omega) (run_firstCells_some w.drew 3 l.length ⟨b, 0, none⟩ l.length cap _ (by simp; omega) (fun j v hj => ?_)) (fun h => by cases h) hb2 hsz2 hnv1 hn2).mono (fun e w' h => ?_)
        · rw [Addr.add_lit, Nat.zero_add]
          rw [List.getElem?_take] at hj
          split at hj
          · show w.cell? _ = _
            simp only [World.cell?, hb]
            simpa using hj
          · cases hj
        obtain ⟨rfl, rfl⟩ := h
        have htl : (vs.toList.take (l.length * 3)).length = l.length * 3 := by simp; omega
        have hge := grownCap_ge w (l.length + 1) cap 37
        refine ⟨_, _, rfl, fin _ w.heap.size (grownCap w (l.length + 1) cap 37) _ 37 (.inr (Nat.le_refl _)) (drew_ext.trans (ext_alloc _ _)) (alloc_new w.drew _) hge (grownCap_le_maxLen w _ _ _ hml) (by rw [Array.size_append, List.size_toArray, List.length_append, hnl, htl, zeroK_size]; omega) (fun v hv => ?_) (fun y hy => ?_)⟩
        · simp only [Array.toList_append, List.mem_append] at hv
          rcases hv with (hv | hv) | hv
          · exact hc1 v (List.mem_of_mem_take hv)
          · exact hnm v hv
          · exact zeroK_one _ v hv
        · rw [getD_append_left (by rw [List.size_toArray, List.length_append, hnl, htl]; omega), toA_getD]
          by_cases hy1 : y < l.length * 3
          · rw [if_pos hy1, lt_getD (by rw [htl]; exact hy1), take_getD hy1]
          · rw [if_neg hy1, if_pos (by omega), ge_getD (by rw [htl]; omega), htl, take_getD (by omega)]
    · have hcl : ((vs.toList.drop (i * 3)).take ((l.length - i) * 3)).length = (l.length - i) * 3 := by simp; omega
      have hcm : ∀ v ∈ (vs.toList.drop (i * 3)).take ((l.length - i) * 3), v.oneCell' = true := fun v hv => hc1 v (List.mem_of_mem_drop (List.mem_of_mem_take hv))
      by_cases hroom : l.length + 1 ≤ cap
      · refine (insKey_shift b l.length cap i b2 cap2 vs nv tb tv w (by omega) hroom hc63 hne hb hsz' hc1 hb2 hsz2 hnv1 hn2).mono (fun e w' h => ?_)
        obtain ⟨rfl, rfl⟩ := h
        have hs1 : (putC vs ((i + 1) * 3) ((vs.toList.drop (i * 3)).take ((l.length - i) * 3))).size = vs.size := putC_size (by rw [hcl]; omega)
        refine ⟨_, _, rfl, fin _ b cap _ tb (.inl rfl) ((drew_ext.trans setRow_ext).trans setRow_ext |>.mono fun c _ h => by rw [h]) (setRow_heap _ b _ _ tb _ (setRow_heap w.drew b vs _ tb _ hb)) hroom hmax (by rw [putC_size (by rw [hs1, hnl]; omega), hs1]; exact hsz') (putC_one (putC_one hc1 hcm) hnm) (fun y hy => ?_)⟩
        rw [putC_get (by rw [hs1, hnl]; omega), hnl, putC_get (by rw [hcl]; omega), hcl]
        by_cases hy1 : y < i * 3
        · rw [if_neg (by omega), if_neg (by omega), if_pos hy1]
        · rw [if_neg hy1]
          by_cases hy2 : y < (i + 1) * 3
          · rw [if_pos (by omega), if_pos hy2, take_getD (by omega)]
          · rw [if_neg (by omega), if_pos (by omega), if_neg hy2, mid_getD (by omega)]
            congr 1
            omega
      · obtain ⟨G, ROW, W1, hG1, hG2, hROW, hW1, hcalls⟩ := insKey_grow b l.length cap i b2 cap2 vs nv tb tv w (by omega) hn (by omega) (by omega) hb hsz' hc1 hb2 hsz2 hnv1 hn2
        refine hcalls.mono (fun e w' h => ?_)
        obtain ⟨rfl, rfl⟩ := h
        have hRs : ROW.size = G * 3 := by rw [hROW]; simp [Builtin.zeroCells, Value.cells]; omega
        have hRo : ∀ v ∈ ROW.toList, v.oneCell' = true := fun v hv => by
          rw [hROW] at hv
          simp only [Array.toList_append, List.mem_append] at hv
          rcases hv with (hv | hv) | hv
          · exact hc1 v (List.mem_of_mem_take hv)
          · exact zeroK_one _ v hv
          · exact zeroK_one _ v hv
        have hRg : ∀ y, y < i * 3 → ROW.getD y undef = vs.getD y undef := fun y hy => by
          rw [hROW, Array.append_assoc, getD_append_left (by simp; omega), toA_getD, take_getD hy]
        have hN1 : W1.heap[w.heap.size]? = some (.cells ROW 37 (0, 0)) := by rw [hW1]; exact alloc_new w.drew _
        have hs1 : (putC ROW (i * 3) (nv.toList.take 3)).size = ROW.size := putC_size (by rw [hnl]; omega)
        have hN2 := setRow_heap W1 w.heap.size ROW (putC ROW (i * 3) (nv.toList.take 3)) 37 _ hN1
        refine ⟨_, _, rfl, fin _ w.heap.size G _ 37 (.inr (Nat.le_refl _)) ?_ (setRow_heap _ w.heap.size _ _ 37 _ hN2) hG1 hG2 (by rw [putC_size (by rw [hs1, hcl]; omega), hs1]; exact hRs) (putC_one (putC_one hRo hnm) hcm) (fun y hy => ?_)⟩
        · have e1 : FExt (fun b => b = w.heap.size) w W1 := by rw [hW1]; exact drew_ext.trans (ext_alloc _ _)
          have e2 := ((e1.trans (setRow_ext (A := putC ROW (i * 3) (nv.toList.take 3)))).trans drew_ext).trans (setRow_ext (A := putC (putC ROW (i * 3) (nv.toList.take 3)) ((i + 1) * 3) ((vs.toList.drop (i * 3)).take ((l.length - i) * 3))))
          exact e2.mono fun c hc h => absurd h (by omega)
        · rw [putC_get (by rw [hs1, hcl]; omega), hcl, putC_get (by rw [hnl]; omega), hnl]
          by_cases hy1 : y < i * 3
          · rw [if_neg (by omega), if_neg (by omega), if_pos hy1, hRg y hy1]
          · rw [if_neg hy1]
            by_cases hy2 : y < (i + 1) * 3
            · rw [if_neg (by omega), if_pos (by omega), if_pos hy2, take_getD (by omega)]
            · rw [if_pos (by omega), if_neg hy2, mid_getD (by omega)]
              congr 1
              omega

end Go.Abs

namespace Go.Abs

/-- the first of l that is not before k -/
def posK : List Key → Key → Nat
  | [], _ => 0
  | x :: r, k => if keyLess x k = true then posK r k + 1 else 0
theorem posK_le (k : Key) : ∀ l : List Key, posK l k ≤ l.length
  | [] => Nat.le_refl _
  | x :: r => by
    have := posK_le k r
    unfold posK
    split
    · simp; omega
    · simp
theorem posK_lt {k : Key} : ∀ {l : List Key} {i : Nat}, i < posK l k → keyLess (l.getD i default) k = true
  | [], i, h => absurd h (by simp [posK])
  | x :: r, i, h => by
    unfold posK at h
    split at h
    · rename_i hx
      cases i with
      | zero => exact hx
      | succ i => exact posK_lt (l := r) (by omega)
    · omega
theorem posK_at {k : Key} : ∀ {l : List Key}, posK l k < l.length → keyLess (l.getD (posK l k) default) k = false
  | [], h => absurd h (by simp [posK])
  | x :: r, h => by
    by_cases hx : keyLess x k = true
    · have e : posK (x :: r) k = posK r k + 1 := by rw [posK, if_pos hx]
      rw [e] at h ⊢
      exact posK_at (l := r) (by simpa using h)
    · have e : posK (x :: r) k = 0 := by rw [posK, if_neg hx]
      rw [e]
      simpa using hx
theorem posK_eq {k : Key} {l : List Key} {i : Nat} (hi : i ≤ l.length) (h1 : ∀ j, j < i → keyLess (l.getD j default) k = true) (h2 : i < l.length → keyLess (l.getD i default) k = false) : i = posK l k := by
  have hle := posK_le k l
  rcases Nat.lt_trichotomy i (posK l k) with h | h | h
  · have := posK_lt h
    rw [h2 (by omega)] at this
    cases this
  · exact h
  · have := h1 _ h
    rw [posK_at (by omega)] at this
    cases this
/-- slices.Insert where the key is not there -/
theorem putK_ins {k : Key} : ∀ {l : List Key}, Asc l → (if posK l k = l.length ∨ l.getD (posK l k) default ≠ k then insL l (posK l k) k else l) = putK l k
  | [], _ => by simp [posK, putK, insL]
  | x :: r, h => by
    obtain ⟨h1, h2⟩ := List.pairwise_cons.1 h
    have ih := putK_ins (k := k) h2
    unfold posK putK
    by_cases hx : keyLess x k = true
    · rw [if_pos hx, if_pos hx, ← ih]
      simp only [List.length_cons, List.getD_cons_succ, Nat.add_right_cancel_iff]
      split
      · simp [insL]
      · rfl
    · rw [if_neg hx, if_neg hx]
      simp only [List.length_cons, List.getD_cons_zero]
      by_cases e : x = k
      · subst e
        rw [if_neg (by simp)]
        congr 1
        simp only [List.filter_cons, ne_eq, not_true_eq_false, decide_false, Bool.false_eq_true, if_false]
        symm
        refine List.filter_eq_self.2 fun y hy => ?_
        have := h1 y hy
        simp only [decide_eq_true_eq]
        intro e
        subst e
        rw [keyLess_irrefl] at this
        cases this
      · rw [if_pos (.inr e)]
        simp only [insL, List.take_zero, List.nil_append, List.drop_zero]
        congr 1
        symm
        refine List.filter_eq_self.2 fun y hy => ?_
        simp only [decide_eq_true_eq]
        intro e2
        subst e2
        rcases List.mem_cons.1 hy with e3 | hy
        · exact e e3.symm
        · exact hx (h1 _ hy)

/-- expr.Keys and homehubref28.read -/
def addK (e : Ex) (acc : List Key) : List Key := if e.kind = 2 then putK acc e.key else acc
mutual
def keysT : Ex → List Key → List Key
  | .mk a n m s v q ks, acc => keysTL ks (addK (.mk a n m s v q ks) acc)
def keysTL : List Ex → List Key → List Key
  | [], acc => acc
  | e :: es, acc => keysTL es (keysT e acc)
end
theorem keysT_eq (e : Ex) (acc : List Key) : keysT e acc = keysTL e.kids (addK e acc) := by cases e; rw [keysT]; rfl
theorem keysTL_snoc : ∀ (l : List Ex) (k : Nat) (acc : List Key), k < l.length → keysTL (l.take (k + 1)) acc = keysT (l.getD k default) (keysTL (l.take k) acc)
  | e :: l, 0, acc, _ => by simp [keysTL]
  | e :: l, k + 1, acc, h => by
    simp only [List.take_succ_cons, keysTL, List.getD_cons_succ]
    exact keysTL_snoc l k _ (by simpa using h)
theorem addK_asc {e : Ex} {acc : List Key} (h : Asc acc) : Asc (addK e acc) := by
  unfold addK; split
  · exact asc_putK h
  · exact h
theorem addK_length (e : Ex) (acc : List Key) : (addK e acc).length ≤ acc.length + 1 := by
  unfold addK; split
  · exact putK_length _ _
  · omega
mutual
theorem keysT_asc : ∀ (e : Ex) {acc : List Key}, Asc acc → Asc (keysT e acc) ∧ (keysT e acc).length ≤ acc.length + sizeE e
  | .mk a n m s v q ks, acc, h => by
    rw [keysT, sizeE]
    obtain ⟨h1, h2⟩ := keysTL_asc ks (addK_asc (e := .mk a n m s v q ks) h)
    have := addK_length (.mk a n m s v q ks) acc
    exact ⟨h1, by omega⟩
theorem keysTL_asc : ∀ (ks : List Ex) {acc : List Key}, Asc acc → Asc (keysTL ks acc) ∧ (keysTL ks acc).length ≤ acc.length + sizeL ks
  | [], acc, h => by rw [keysTL, sizeL]; exact ⟨h, by omega⟩
  | e :: ks, acc, h => by
    rw [keysTL, sizeL]
    obtain ⟨h1, h2⟩ := keysT_asc e h
    obtain ⟨h3, h4⟩ := keysTL_asc ks h1
    exact ⟨h3, by omega⟩
end

end Go.Abs

namespace Go.Abs
open Go.Proofs
set_option maxRecDepth 10000

theorem ac_expr_Keys_1 (e : Ex) (lv : Int) (acc : List Key) (ha : Asc acc) (hl : acc.length ≤ 1048576) : AC Tryz.prog 97 [.pv (.agg (cEx e)), .pv (vint lv), .ptr 900000 0] [(900000, .box [.own 900001]), (900001, rowL 3 cKey acc)]
    (.pv (vbool true)) [(900000, .box [.own 1]), (1, rowL 3 cKey (addK e acc)), (900001, .gone)] := by
  have hput := putK_ins (k := e.key) ha
  refine AC.of_awp_gen (T := T) T_ok hm Tryz.call97 Tryz.func97 rfl rfl rfl rfl rfl rfl ?_
  conv => whnf
  refine ⟨fun h => ?_, fun h => ?_⟩ <;> (try simp only [decide_eq_true_eq, decide_eq_false_iff_not, Bool.not_eq_true', Bool.not_eq_false', Int.toNat_natCast, beq_iff_eq, decide_eq_decide, beq_eq_false_iff_ne, ne_eq, reduceCtorEq] at h) <;> (conv => whnf)
  · have hadd : addK e acc = putK acc e.key := if_pos h
    rw [hadd, ← hput]
    refine loop_k (ι := Nat) [2, 3] [3, 900000, 900001] (fun q => q ≤ acc.length ∧ (∀ j, j < q → keyLess (acc.getD j default) e.key = true)) (fun q => acc.length - q) 0 (fun q => [(6, .pv (vint q))]) (fun q => []) [] ⟨Nat.zero_le _, fun j h => absurd h (by omega)⟩ ?_ (fun q hk => ?_)
    · (repeat' (first | exact PSub.rfl | exact rfl | exact PSubs.rfl | exact trivial | exact PSub.lit_sb rfl | refine And.intro ?_ ?_)); all_goals ((intro i hi; exact PSubs.rfl))
    obtain ⟨hkn, hinv⟩ := hk
    conv => whnf
    repeat (any_goals (first
      | (refine ⟨fun (h : (_ : Bool) = true) => ?_, fun (h : (_ : Bool) = false) => ?_⟩ <;> (try simp only [decide_eq_true_eq, decide_eq_false_iff_not, Bool.not_eq_true', Bool.not_eq_false', Int.toNat_natCast, beq_iff_eq, decide_eq_decide, beq_eq_false_iff_ne, ne_eq, reduceCtorEq] at h) <;> (conv => whnf))
      | (refine .inl ⟨_, ac_device_Less (acc.getD q default) e.key, ?_⟩; conv => whnf)
      | (refine .inr (.inr (.inr (.inr ⟨[(0, 900001), (2, 42)], [(1, 43)], _, _, _, (ac_slices_Insert_Key (l := acc) (i := q) (x := e.key) (by omega) (by omega) (by exact ⟨PSub.rfl, PSub.rfl, PSub.rfl, trivial⟩)), rfl, ?_⟩))); conv => whnf)
      | (refine And.intro (by (try simp only [Int.toNat_natCast]); omega) ?_; conv => whnf)
      | (refine And.intro (show (_ : Bool) = true from by kernel_rfl) ?_; conv => whnf)
      | (refine .inl ⟨wrap64 (by omega), ?_⟩; conv => whnf)))
    · have hs : ∀ j, j < q + 1 → keyLess (acc.getD j default) e.key = true := by
        intro j hj
        by_cases e2 : j = q
        · subst e2; exact h
        · exact hinv j (by omega)
      refine ⟨q + 1, [], ⟨by omega, hs⟩, by first | omega | (dsimp only; omega), ?_⟩
      (repeat' (first | exact PSub.rfl | exact rfl | exact PSubs.rfl | exact trivial | exact PSub.lit_sb rfl | refine And.intro ?_ ?_))
      all_goals (intro i hi; exact PSubs.rfl)
    · exfalso; omega
    · rename_i h1 h2 h3
      rw [key_eq] at h
      have hq : q = posK acc e.key := posK_eq hkn hinv fun _ => h2
      have e1 : (if posK acc e.key = acc.length ∨ acc.getD (posK acc e.key) default ≠ e.key then insL acc (posK acc e.key) e.key else acc) = insL acc q e.key := by
        rw [← hq]; exact if_pos (.inr (of_decide_eq_false h))
      rw [e1]
      refine ⟨[(1, 43)], ?_⟩
      conv => whnf
      (repeat' (first | exact PSub.rfl | exact rfl | exact PSubs.rfl | exact trivial | exact PSub.lit_sb rfl | refine And.intro ?_ ?_))
      intro i hi; exact PSubs.rfl
    · rename_i h1 h2 h3
      rw [key_eq] at h
      have hq : q = posK acc e.key := posK_eq hkn hinv fun _ => h2
      have e1 : (if posK acc e.key = acc.length ∨ acc.getD (posK acc e.key) default ≠ e.key then insL acc (posK acc e.key) e.key else acc) = acc := by
        rw [← hq]; exact if_neg (fun x => x.elim (fun y => h3 (by omega)) fun y => y (of_decide_eq_true h))
      rw [e1]
      refine ⟨[(1, 900001)], ?_⟩
      conv => whnf
      (repeat' (first | exact PSub.rfl | exact rfl | exact PSubs.rfl | exact trivial | exact PSub.lit_sb rfl | refine And.intro ?_ ?_))
      intro i hi; exact PSubs.rfl
    · have hq : q = posK acc e.key := posK_eq hkn hinv fun h2 => by omega
      have e1 : (if posK acc e.key = acc.length ∨ acc.getD (posK acc e.key) default ≠ e.key then insL acc (posK acc e.key) e.key else acc) = insL acc q e.key := by
        rw [← hq]; exact if_pos (.inl (by omega))
      rw [e1]
      refine ⟨[(1, 43)], ?_⟩
      conv => whnf
      (repeat' (first | exact PSub.rfl | exact rfl | exact PSubs.rfl | exact trivial | exact PSub.lit_sb rfl | refine And.intro ?_ ?_))
      intro i hi; exact PSubs.rfl
    all_goals (exfalso; omega)
  · have hadd : addK e acc = acc := if_neg h
    rw [hadd]
    refine ⟨[(1, 900001)], ?_⟩
    conv => whnf
    (repeat' (first | exact PSub.rfl | exact rfl | exact PSubs.rfl | exact trivial | exact PSub.lit_sb rfl | refine And.intro ?_ ?_))
    intro i hi; exact PSubs.rfl

theorem ac_expr_Keys_1n (e : Ex) (lv : Int) : AC Tryz.prog 97 [.pv (.agg (cEx e)), .pv (vint lv), .ptr 900000 0] [(900000, .pbox [.val (.slice none 0 0)])]
    (.pv (vbool true)) [(900000, .box [.own 1]), (1, rowL 3 cKey (addK e []))] := by
  refine AC.of_awp_gen (T := T) T_ok hm Tryz.call97 Tryz.func97 rfl rfl rfl rfl rfl rfl ?_
  conv => whnf
  refine ⟨fun h => ?_, fun h => ?_⟩ <;> (try simp only [decide_eq_true_eq, decide_eq_false_iff_not, Bool.not_eq_true', Bool.not_eq_false', Int.toNat_natCast, beq_iff_eq, decide_eq_decide, beq_eq_false_iff_ne, ne_eq, reduceCtorEq] at h) <;> (conv => whnf)
  · have hadd : addK e [] = [e.key] := if_pos h
    rw [hadd]
    refine loop_k (ι := Nat) [2, 3] [3] (fun q => q ≤ 0 ∧ True) (fun q => 0 - q) 0 (fun q => [(6, .pv (vint q))]) (fun q => [(900000, .box [.own 500]), (500, rowL 3 cKey ([] : List Key))]) [] ⟨Nat.zero_le _, trivial⟩ ?_ (fun q hk => ?_)
    · (repeat' (first | exact PSub.rfl | exact rfl | exact PSubs.rfl | exact trivial | exact PSub.lit_sb rfl | refine And.intro ?_ ?_))
    obtain ⟨hkn, hinv⟩ := hk
    conv => whnf
    have hq : q = 0 := by omega
    subst hq
    repeat (any_goals (first
      | (refine ⟨fun (h : (_ : Bool) = true) => ?_, fun (h : (_ : Bool) = false) => ?_⟩ <;> (try simp only [decide_eq_true_eq, decide_eq_false_iff_not, Bool.not_eq_true', Bool.not_eq_false', Int.toNat_natCast, beq_iff_eq, decide_eq_decide, beq_eq_false_iff_ne, ne_eq, reduceCtorEq] at h) <;> (conv => whnf))
      | (refine .inr (.inr (.inr (.inr ⟨[(0, 500), (2, 42)], [(1, 43)], _, _, _, (ac_slices_Insert_Key (l := []) (i := 0) (x := e.key) (by omega) (by simp) (by exact ⟨PSub.rfl, PSub.rfl, PSub.rfl, trivial⟩)), rfl, ?_⟩))); conv => whnf)
      | (refine And.intro (by (try simp only [Int.toNat_natCast]); omega) ?_; conv => whnf)
      | (refine And.intro (show (_ : Bool) = true from by kernel_rfl) ?_; conv => whnf)
      | (refine .inl ⟨wrap64 (by omega), ?_⟩; conv => whnf)))
    · exact absurd h (by decide)
    · refine ⟨[(1, 43)], ?_⟩
      conv => whnf
      (repeat' (first | exact PSub.rfl | exact rfl | exact PSubs.rfl | exact trivial | exact PSub.lit_sb rfl | refine And.intro ?_ ?_))
      intro i hi; exact PSubs.rfl
    all_goals exact absurd (show ((0 : Nat) : Int) = (([] : List Key).length : Int) from rfl) (by assumption)
  · have hadd : addK e [] = [] := if_neg h
    rw [hadd]
    refine ⟨[], ?_⟩
    conv => whnf
    (repeat' (first | exact PSub.rfl | exact rfl | exact PSubs.rfl | exact trivial | exact PSub.lit_sb rfl | refine And.intro ?_ ?_))

abbrev walkO : Upd := [(900000, .box [.fn 97 [.ptr 900002 0]]), (900001, .box [.fn 119 [.ptr 900000 0, .ptr 900001 0]])]

theorem ac_expr_walk_1_keys (e : Ex) (l : Int) (acc : List Key) (hl : 0 ≤ l ∧ l + sizeE e ≤ 1099511627776) (ha : Asc acc) (hlen : acc.length + sizeE e ≤ 1048576) :
    AC Tryz.prog 119 [.pv (.agg (cEx e)), .pv (vint l), .ptr 900000 0, .ptr 900001 0] (walkO ++ [(900002, .box [.own 900003]), (900003, rowL 3 cKey acc)]) (.pv (vbool true)) (walkO ++ [(900002, .box [.own 1]), (1, rowL 3 cKey (keysT e acc)), (900003, .gone)]) := by
  have hse := sizeE_eq e
  have hkl := sizeL_length (l := e.kids)
  have ih : ∀ (k : Nat) (l : Int) (acc : List Key), k < e.kids.length → 0 ≤ l ∧ l + sizeE (e.kids.getD k default) ≤ 1099511627776 → Asc acc → acc.length + sizeE (e.kids.getD k default) ≤ 1048576 → AC Tryz.prog 119 [.pv (.agg (cEx (e.kids.getD k default))), .pv (vint l), .ptr 900000 0, .ptr 900001 0] (walkO ++ [(900002, .box [.own 900003]), (900003, rowL 3 cKey acc)]) (.pv (vbool true)) (walkO ++ [(900002, .box [.own 1]), (1, rowL 3 cKey (keysT (e.kids.getD k default) acc)), (900003, .gone)]) := fun k l acc hk hl ha hlen =>
    have := Ex.kid_lt (Ex.kid_at hk)
    ac_expr_walk_1_keys (e.kids.getD k default) l acc hl ha hlen
  have hal := addK_length e acc
  have haa := addK_asc (e := e) ha
  refine AC.ex ?_
  refine AC.of_awp_gen (T := T) T_ok hm Tryz.call119 Tryz.func119 rfl rfl rfl rfl rfl rfl ?_
  conv => whnf
  refine .inr (.inr (.inr (.inr ⟨[(900000, 900002), (900001, 900003)], [(1, 700)], _, _, _, (ac_expr_Keys_1 e l acc ha (by omega)).ex', rfl, ?_⟩)))
  conv => whnf
  refine ⟨fun h => absurd h (by decide), fun _ => ?_⟩
  conv => whnf
  refine loop_k (ι := Nat) [1, 2, 3, 15, 16] [900000, 900001] (fun k => k ≤ e.kids.length ∧ True) (fun k => e.kids.length - k) 0 (fun k => [(17, .pv (vint k))]) (fun k => [(900002, .box [.own 500]), (500, rowL 3 cKey (keysTL (e.kids.take k) (addK e acc))), (900003, .gone)]) [(500, 700)] ⟨Nat.zero_le _, trivial⟩ ?_ (fun k hk => ?_)
  · (repeat' (first | exact PSub.rfl | exact rfl | exact PSubs.rfl | exact trivial | exact PSub.lit_sb rfl | refine And.intro ?_ ?_))
    intro i hi; exact PSubs.rfl
  obtain ⟨hkn, _⟩ := hk
  conv => whnf
  have hta := keysTL_asc (e.kids.take k) haa
  have htk := sizeL_take e.kids k
  have htl := sizeL_le_take (l := e.kids) (k := k + 1)
  have hkm : k < e.kids.length → sizeE (e.kids.getD k default) ≤ sizeL e.kids := fun h => sizeL_mem (Ex.kid_at h)
  repeat (any_goals (first
    | (refine ⟨fun (h : (_ : Bool) = true) => ?_, fun (h : (_ : Bool) = false) => ?_⟩ <;> (try simp only [decide_eq_true_eq, decide_eq_false_iff_not, Bool.not_eq_true', Bool.not_eq_false', Int.toNat_natCast, beq_iff_eq, decide_eq_decide, beq_eq_false_iff_ne, ne_eq, reduceCtorEq] at h) <;> (conv => whnf))
    | (refine .inr (.inr (.inr (.inr ⟨[(900000, 900000), (900001, 900001), (900002, 900002), (900003, 500)], [(1, 701)], _, _, _, ih k (l + 1) (keysTL (e.kids.take k) (addK e acc)) (by omega) (by have := hkm (by omega); omega) hta.1 (by have := htk (by omega); omega), rfl, ?_⟩))); conv => whnf)
    | (refine And.intro (by (try simp only [Int.toNat_natCast]); omega) ?_; conv => whnf)
    | (refine And.intro (show (_ : Bool) = true from by kernel_rfl) ?_; conv => whnf)
    | (refine .inl ⟨wrap64 (by omega), ?_⟩; conv => whnf)))
  · refine ⟨k + 1, [(500, 701)], ⟨by omega, trivial⟩, by omega, ?_⟩
    rw [keysTL_snoc e.kids k _ (by omega)]
    (repeat' (first | exact PSub.rfl | exact rfl | exact PSubs.rfl | exact trivial | exact PSub.lit_sb rfl | refine And.intro ?_ ?_))
    intro i hi; exact PSubs.rfl
  · rw [List.take_of_length_le (by omega), ← keysT_eq]
    refine ⟨[(1, 500)], ?_⟩
    conv => whnf
    (repeat' (first | exact PSub.rfl | exact rfl | exact PSubs.rfl | exact trivial | exact PSub.lit_sb rfl | refine And.intro ?_ ?_))
    intro i hi; exact PSubs.rfl
termination_by SizeOf.sizeOf e

/-- .. from nil -/
theorem ac_expr_walk_1_keysn (e : Ex) (l : Int) (hl : 0 ≤ l ∧ l + sizeE e ≤ 1099511627776) (hlen : sizeE e ≤ 1048576) :
    AC Tryz.prog 119 [.pv (.agg (cEx e)), .pv (vint l), .ptr 900000 0, .ptr 900001 0] (walkO ++ [(900002, .pbox [.val (.slice none 0 0)])]) (.pv (vbool true)) (walkO ++ [(900002, .box [.own 1]), (1, rowL 3 cKey (keysT e []))]) := by
  have hse := sizeE_eq e
  have hkl := sizeL_length (l := e.kids)
  have hal := addK_length e []
  rw [List.length_nil] at hal
  have haa := addK_asc (e := e) (acc := []) List.Pairwise.nil
  refine AC.ex ?_
  refine AC.of_awp_gen (T := T) T_ok hm Tryz.call119 Tryz.func119 rfl rfl rfl rfl rfl rfl ?_
  conv => whnf
  refine .inr (.inr (.inr (.inr ⟨[(900000, 900002)], [(1, 700)], _, _, _, (ac_expr_Keys_1n e l).ex', rfl, ?_⟩)))
  conv => whnf
  refine ⟨fun h => absurd h (by decide), fun _ => ?_⟩
  conv => whnf
  refine loop_k (ι := Nat) [1, 2, 3, 15, 16] [900000, 900001] (fun k => k ≤ e.kids.length ∧ True) (fun k => e.kids.length - k) 0 (fun k => [(17, .pv (vint k))]) (fun k => [(900002, .box [.own 500]), (500, rowL 3 cKey (keysTL (e.kids.take k) (addK e [])))]) [(500, 700)] ⟨Nat.zero_le _, trivial⟩ ?_ (fun k hk => ?_)
  · (repeat' (first | exact PSub.rfl | exact rfl | exact PSubs.rfl | exact trivial | exact PSub.lit_sb rfl | refine And.intro ?_ ?_))
    intro i hi; exact PSubs.rfl
  obtain ⟨hkn, _⟩ := hk
  conv => whnf
  have hta := keysTL_asc (e.kids.take k) haa
  have htk := sizeL_take e.kids k
  have htl := sizeL_le_take (l := e.kids) (k := k + 1)
  have hkm : k < e.kids.length → sizeE (e.kids.getD k default) ≤ sizeL e.kids := fun h => sizeL_mem (Ex.kid_at h)
  repeat (any_goals (first
    | (refine ⟨fun (h : (_ : Bool) = true) => ?_, fun (h : (_ : Bool) = false) => ?_⟩ <;> (try simp only [decide_eq_true_eq, decide_eq_false_iff_not, Bool.not_eq_true', Bool.not_eq_false', Int.toNat_natCast, beq_iff_eq, decide_eq_decide, beq_eq_false_iff_ne, ne_eq, reduceCtorEq] at h) <;> (conv => whnf))
    | (refine .inr (.inr (.inr (.inr ⟨[(900000, 900000), (900001, 900001), (900002, 900002), (900003, 500)], [(1, 701)], _, _, _, ac_expr_walk_1_keys (e.kids.getD k default) (l + 1) (keysTL (e.kids.take k) (addK e [])) (by have := hkm (by omega); omega) hta.1 (by have := htk (by omega); omega), rfl, ?_⟩))); conv => whnf)
    | (refine And.intro (by (try simp only [Int.toNat_natCast]); omega) ?_; conv => whnf)
    | (refine And.intro (show (_ : Bool) = true from by kernel_rfl) ?_; conv => whnf)
    | (refine .inl ⟨wrap64 (by omega), ?_⟩; conv => whnf)))
  · refine ⟨k + 1, [(500, 701)], ⟨by omega, trivial⟩, by omega, ?_⟩
    rw [keysTL_snoc e.kids k _ (by omega)]
    (repeat' (first | exact PSub.rfl | exact rfl | exact PSubs.rfl | exact trivial | exact PSub.lit_sb rfl | refine And.intro ?_ ?_))
    intro i hi; exact PSubs.rfl
  · rw [List.take_of_length_le (by omega), ← keysT_eq]
    refine ⟨[(1, 500)], ?_⟩
    conv => whnf
    (repeat' (first | exact PSub.rfl | exact rfl | exact PSubs.rfl | exact trivial | exact PSub.lit_sb rfl | refine And.intro ?_ ?_))
    intro i hi; exact PSubs.rfl

theorem ac_expr_walk_keys (e : Ex) (hlen : sizeE e ≤ 1048576) : AC Tryz.prog 78 [.pv (.agg (cEx e)), .fn 97 [.ptr 900002 0]] [(900002, .pbox [.val (.slice none 0 0)])] (.pv (vbool true)) [(900002, .box [.own 1]), (1, rowL 3 cKey (keysT e []))] := by
  refine AC.of_awp_gen (T := T) T_ok hm Tryz.call78 Tryz.func78 rfl rfl rfl rfl rfl rfl ?_
  conv => whnf
  refine .inr (.inr (.inr (.inr ⟨[(900000, 3), (900001, 5), (900002, 900002)], [(1, 700)], _, _, _, (ac_expr_walk_1_keysn e 1 (by omega) hlen), rfl, ?_⟩)))
  conv => whnf
  refine ⟨[(1, 700)], ?_⟩
  conv => whnf
  (repeat' (first | exact PSub.rfl | exact rfl | exact PSubs.rfl | exact trivial | exact PSub.lit_sb rfl | refine And.intro ?_ ?_))
  all_goals (intro i hi; exact PSubs.rfl)

theorem ac_expr_Keys (e : Ex) (hlen : sizeE e ≤ 1048576) : AC Tryz.prog 57 [.pv (.agg (cEx e))] [] (.pv (roL 3 cKey (keysT e []))) [] := by
  refine AC.of_awp (T := T) T_ok hm Tryz.call57 Tryz.func57 rfl rfl rfl ?_
  conv => whnf
  refine .inr (.inr (.inr (.inr ⟨[(900002, 3)], [(1, 700)], _, _, _, (ac_expr_walk_keys e hlen), rfl, ?_⟩)))
  conv => whnf
  exact PSub.rfl

end Go.Abs

namespace Go.Abs

def trgK (t : Trg) : List Key := if t.kind = 1 then [t.key] else []
def stpK (x : Stp) : List Key := keysT x.expr []
def readsR (r : Rul) : List Key := r.on.flatMap trgK ++ keysT r.cond [] ++ r.steps.flatMap stpK
def allR (l : List Rul) : List Key := l.flatMap readsR
/-- typing.Reads -/
def readsL (l : List Rul) : List Key := sortK (allR l)

def fewR2 (l : List Rul) : Prop := l.length ≤ 60 ∧ ∀ r ∈ l, r.on.length ≤ 20 ∧ r.steps.length ≤ 20 ∧ sizeE r.cond ≤ 1000 ∧ ∀ x ∈ r.steps, sizeE x.expr ≤ 1000
theorem fewR2.few {l : List Rul} (h : fewR2 l) : fewR l := ⟨h.1, fun r hr => (h.2 r hr).2.1⟩

theorem keysT_len (e : Ex) : (keysT e []).length ≤ sizeE e := by
  have := (keysT_asc e (acc := []) List.Pairwise.nil).2
  simpa using this
theorem flat_len {α β : Type} {f : α → List β} {m : Nat} : ∀ {l : List α}, (∀ x ∈ l, (f x).length ≤ m) → (l.flatMap f).length ≤ l.length * m
  | [], _ => by simp
  | x :: l, h => by
    have h1 := h x (by simp)
    have h2 := flat_len (l := l) fun y hy => h y (by simp [hy])
    rw [List.flatMap_cons, List.length_append, List.length_cons, Nat.succ_mul]
    omega
theorem trgK_len (t : Trg) : (trgK t).length ≤ 1 := by unfold trgK; split <;> simp
theorem readsR_len {r : Rul} (h : r.on.length ≤ 20 ∧ r.steps.length ≤ 20 ∧ sizeE r.cond ≤ 1000 ∧ ∀ x ∈ r.steps, sizeE x.expr ≤ 1000) : (readsR r).length ≤ 21020 := by
  have h1 := flat_len (f := trgK) (m := 1) (l := r.on) fun t _ => trgK_len t
  have h2 := keysT_len r.cond
  have h3 := flat_len (f := stpK) (m := 1000) (l := r.steps) fun x hx => Nat.le_trans (keysT_len x.expr) (h.2.2.2 x hx)
  have := h.1
  have := h.2.1
  have := h.2.2.1
  unfold readsR
  rw [List.length_append, List.length_append]
  have h4 : r.steps.length * 1000 ≤ 20 * 1000 := Nat.mul_le_mul_right _ h.2.1
  omega
theorem allR_len {l : List Rul} (h : fewR2 l) : (allR l).length ≤ 1261200 := by
  have h1 := flat_len (f := readsR) (m := 21020) (l := l) fun r hr => readsR_len (h.2 r hr)
  have h2 : l.length * 21020 ≤ 60 * 21020 := Nat.mul_le_mul_right _ h.1
  unfold allR
  omega

end Go.Abs

namespace Go.Abs
open Go.Proofs
set_option maxRecDepth 10000

theorem ac_typing_Reads_1 (e : Ex) (acc : List Key) (he : sizeE e ≤ 1000) : AC Tryz.prog 56 [.pv (.agg (cEx e)), .ptr 900000 0] [(900000, .box [.ref 900001]), (900001, .map KKey (seenLook fun q => decide (q ∈ acc)))]
    (.pv (.tup [])) [(900000, .box [.ref 900001]), (900001, .map KKey (seenLook fun q => decide (q ∈ acc ++ keysT e [])))] := by
  have hkl := keysT_len e
  refine AC.of_awp_gen (T := T) T_ok hm Tryz.call56 Tryz.func56 rfl rfl rfl rfl rfl rfl ?_
  conv => whnf
  refine .inl ⟨_, ac_expr_Keys e (by omega), ?_⟩
  conv => whnf
  refine loop_k (ι := Nat) [1, 6, 7] [900000] (fun k => k ≤ (keysT e []).length ∧ True) (fun k => (keysT e []).length - k) 0 (fun k => [(8, .pv (vint k))]) (fun k => [(900001, .map KKey (seenLook fun q => decide (q ∈ acc ++ (keysT e []).take k)))]) [] ⟨Nat.zero_le _, trivial⟩ ?_ (fun k hk => ?_)
  · (repeat' (first | exact PSub.rfl | exact rfl | exact PSubs.rfl | exact trivial | exact PSub.lit_sb rfl | refine And.intro ?_ ?_)); all_goals (intro v hv; simp)
  obtain ⟨hkn, hinv⟩ := hk
  conv => whnf
  repeat (any_goals (first
    | (refine ⟨fun (h : (_ : Bool) = true) => ?_, fun (h : (_ : Bool) = false) => ?_⟩ <;> (try simp only [decide_eq_true_eq, decide_eq_false_iff_not, Bool.not_eq_true', Bool.not_eq_false', Int.toNat_natCast, beq_iff_eq, decide_eq_decide, beq_eq_false_iff_ne, ne_eq, reduceCtorEq] at h) <;> (conv => whnf))
    | (refine And.intro (by (try simp only [Int.toNat_natCast]); omega) ?_; conv => whnf)
    | (refine And.intro (show (_ : Bool) = true from by kernel_rfl) ?_; conv => whnf)
    | (refine .inl ⟨wrap64 (by omega), ?_⟩; conv => whnf)))
  · refine ⟨k + 1, [], ⟨by omega, trivial⟩, by first | omega | (dsimp only; omega), ?_⟩
    (repeat' (first | exact PSub.rfl | exact rfl | exact PSubs.rfl | exact trivial | exact PSub.lit_sb rfl | refine And.intro ?_ ?_))
    intro v hv
    rw [take_succ_getD (by omega), ← List.append_assoc]
    exact seen_add v hv
  · rw [List.take_of_length_le (by omega)]
    refine ⟨rfl, [], ?_⟩
    conv => whnf
    (repeat' (first | exact PSub.rfl | exact rfl | exact PSubs.rfl | exact trivial | exact PSub.lit_sb rfl | refine And.intro ?_ ?_))
    intro v hv; rfl

set_option maxHeartbeats 1000000 in
theorem ac_typing_Reads (l : List Rul) (hl : fewR2 l) : AC Tryz.prog 24 [.pv (roL 15 cRul l)] [] (.pv (roL 3 cKey (readsL l))) [] := by
  have hl60 := hl.1
  refine AC.of_awp (T := T) T_ok hm Tryz.call24 Tryz.func24 rfl rfl rfl ?_
  conv => whnf
  refine loop_k (ι := Nat) [3, 4, 13, 14] [3] (fun k => k ≤ l.length ∧ True) (fun k => l.length - k) 0 (fun k => [(15, .pv (vint k))]) (fun k => [(11, .map KKey (seenLook fun q => decide (q ∈ allR (l.take k))))]) [] ⟨Nat.zero_le _, trivial⟩ ?_ (fun k hk => ?_)
  · (repeat' (first | exact PSub.rfl | exact rfl | exact PSubs.rfl | exact trivial | exact PSub.lit_sb rfl | refine And.intro ?_ ?_)); all_goals (intro v hv; obtain ⟨q, rfl⟩ := has_key hv; simp [seenLook_key, allR])
  obtain ⟨hkn, hinv⟩ := hk
  conv => whnf
  repeat (any_goals (first
    | (refine ⟨fun (h : (_ : Bool) = true) => ?_, fun (h : (_ : Bool) = false) => ?_⟩ <;> (try simp only [decide_eq_true_eq, decide_eq_false_iff_not, Bool.not_eq_true', Bool.not_eq_false', Int.toNat_natCast, beq_iff_eq, decide_eq_decide, beq_eq_false_iff_ne, ne_eq, reduceCtorEq] at h) <;> (conv => whnf))
    | (refine And.intro (by (try simp only [Int.toNat_natCast]); omega) ?_; conv => whnf)
    | (refine And.intro (show (_ : Bool) = true from by kernel_rfl) ?_; conv => whnf)
    | (refine .inl ⟨wrap64 (by omega), ?_⟩; conv => whnf)))
  · have hk : k < l.length := by omega
    have hst := hl.2 (l.getD k default) (by rw [getD_getElem _ _ hk]; exact List.getElem_mem hk)
    have hfs := flat_succ (f := readsR) hk
    refine loop_k (ι := Nat) [3, 4, 6, 13, 14, 15, 20, 21] [3, 6] (fun q => q ≤ (l.getD k default).on.length ∧ True) (fun q => (l.getD k default).on.length - q) 0 (fun q => [(22, .pv (vint q))]) (fun q => [(11, .map KKey (seenLook fun x => decide (x ∈ allR (l.take k) ++ ((l.getD k default).on.take q).flatMap trgK)))]) [] ⟨Nat.zero_le _, trivial⟩ ?_ (fun q hk => ?_)
    · (repeat' (first | exact PSub.rfl | exact rfl | exact PSubs.rfl | exact trivial | exact PSub.lit_sb rfl | refine And.intro ?_ ?_)); all_goals (intro v hv; simp)
    obtain ⟨hkn, hinv⟩ := hk
    conv => whnf
    rename_i hkn0 hinv0
    have hon := hst.1
    have hsl := hst.2.1
    have hall : (allR (l.take k) ++ (l.getD k default).on.flatMap trgK).length ≤ 100000000 := by
      have h1 := allR_len (l := l.take k) ⟨by rw [List.length_take]; omega, fun r hr => hl.2 r (List.mem_of_mem_take hr)⟩
      have h2 := flat_len (f := trgK) (m := 1) (l := (l.getD k default).on) fun t _ => trgK_len t
      rw [List.length_append]
      omega
    repeat (any_goals (first
      | (refine ⟨fun (h : (_ : Bool) = true) => ?_, fun (h : (_ : Bool) = false) => ?_⟩ <;> (try simp only [decide_eq_true_eq, decide_eq_false_iff_not, Bool.not_eq_true', Bool.not_eq_false', Int.toNat_natCast, beq_iff_eq, decide_eq_decide, beq_eq_false_iff_ne, ne_eq, reduceCtorEq] at h) <;> (conv => whnf))
      | (refine And.intro (by (try simp only [Int.toNat_natCast]); omega) ?_; conv => whnf)
      | (refine And.intro (show (_ : Bool) = true from by kernel_rfl) ?_; conv => whnf)
      | (refine .inl ⟨wrap64 (by omega), ?_⟩; conv => whnf)))
    · refine ⟨q + 1, [], ⟨by omega, trivial⟩, by first | omega | (dsimp only; omega), ?_⟩
      (repeat' (first | exact PSub.rfl | exact rfl | exact PSubs.rfl | exact trivial | exact PSub.lit_sb rfl | refine And.intro ?_ ?_))
      intro v hv
      rw [flat_succ (f := trgK) (by omega), trgK, if_pos h, ← List.append_assoc]
      exact seen_add v hv
    · refine ⟨q + 1, [], ⟨by omega, trivial⟩, by first | omega | (dsimp only; omega), ?_⟩
      (repeat' (first | exact PSub.rfl | exact rfl | exact PSubs.rfl | exact trivial | exact PSub.lit_sb rfl | refine And.intro ?_ ?_))
      intro v hv
      rw [flat_succ (f := trgK) (by omega), trgK, if_neg h, List.append_nil]
    · rw [List.take_of_length_le (l := (l.getD k default).on) (by omega)]
      refine .inr (.inr (.inr (.inr ⟨[(900000, 3), (900001, 11)], [], _, _, _, (ac_typing_Reads_1 (l.getD k default).cond (allR (l.take k) ++ (l.getD k default).on.flatMap trgK) hst.2.2.1), rfl, ?_⟩)))
      conv => whnf
      refine loop_k (ι := Nat) [3, 4, 13, 14, 15, 38, 39] [3] (fun j => j ≤ (l.getD k default).steps.length ∧ True) (fun j => (l.getD k default).steps.length - j) 0 (fun j => [(40, .pv (vint j))]) (fun j => [(11, .map KKey (seenLook fun x => decide (x ∈ allR (l.take k) ++ (l.getD k default).on.flatMap trgK ++ keysT (l.getD k default).cond [] ++ ((l.getD k default).steps.take j).flatMap stpK)))]) [] ⟨Nat.zero_le _, trivial⟩ ?_ (fun j hk => ?_)
      · (repeat' (first | exact PSub.rfl | exact rfl | exact PSubs.rfl | exact trivial | exact PSub.lit_sb rfl | refine And.intro ?_ ?_)); all_goals (intro v hv; simp)
      obtain ⟨hkn, hinv⟩ := hk
      conv => whnf
      rename_i hkn1 hinv1
      have hse : j < (l.getD k default).steps.length → sizeE ((l.getD k default).steps.getD j default).expr ≤ 1000 := fun hj => hst.2.2.2 _ (by rw [getD_getElem _ _ hj]; exact List.getElem_mem hj)
      repeat (any_goals (first
        | (refine ⟨fun (h : (_ : Bool) = true) => ?_, fun (h : (_ : Bool) = false) => ?_⟩ <;> (try simp only [decide_eq_true_eq, decide_eq_false_iff_not, Bool.not_eq_true', Bool.not_eq_false', Int.toNat_natCast, beq_iff_eq, decide_eq_decide, beq_eq_false_iff_ne, ne_eq, reduceCtorEq] at h) <;> (conv => whnf))
        | (refine .inr (.inr (.inr (.inr ⟨[(900000, 3), (900001, 11)], [], _, _, _, (ac_typing_Reads_1 ((l.getD k default).steps.getD j default).expr (allR (l.take k) ++ (l.getD k default).on.flatMap trgK ++ keysT (l.getD k default).cond [] ++ ((l.getD k default).steps.take j).flatMap stpK) (hse (by omega))), rfl, ?_⟩))); conv => whnf)
        | (refine And.intro (by (try simp only [Int.toNat_natCast]); omega) ?_; conv => whnf)
        | (refine And.intro (show (_ : Bool) = true from by kernel_rfl) ?_; conv => whnf)
        | (refine .inl ⟨wrap64 (by omega), ?_⟩; conv => whnf)))
      · refine ⟨j + 1, [], ⟨by omega, trivial⟩, by first | omega | (dsimp only; omega), ?_⟩
        (repeat' (first | exact PSub.rfl | exact rfl | exact PSubs.rfl | exact trivial | exact PSub.lit_sb rfl | refine And.intro ?_ ?_))
        intro v hv
        rw [flat_succ (f := stpK) (by omega), ← List.append_assoc]
        rfl
      · refine ⟨k + 1, [], ⟨by omega, trivial⟩, by first | omega | (dsimp only; omega), ?_⟩
        (repeat' (first | exact PSub.rfl | exact rfl | exact PSubs.rfl | exact trivial | exact PSub.lit_sb rfl | refine And.intro ?_ ?_))
        intro v hv
        rw [List.take_of_length_le (l := (l.getD k default).steps) (by omega)]
        have e : allR (l.take (k + 1)) = allR (l.take k) ++ (l.getD k default).on.flatMap trgK ++ keysT (l.getD k default).cond [] ++ (l.getD k default).steps.flatMap stpK := by
          rw [show allR (l.take (k + 1)) = allR (l.take k) ++ readsR (l.getD k default) from hfs, readsR, ← List.append_assoc, ← List.append_assoc]
        rw [e]
  · have ek : k = l.length := by omega
    subst ek
    have hlen := allR_len hl
    rw [List.take_length]
    refine .inl ⟨_, ac_typing_ascending (allR l) (by omega), ?_⟩
    conv => whnf
    exact PSub.rfl

end Go.Abs

namespace Go.Abs

theorem allR_rev {l : List Rul} {x : Key} : x ∈ allR l.reverse ↔ x ∈ allR l := by simp [allR]
theorem readsL_rev (l : List Rul) : readsL l.reverse = readsL l := sortK_congr fun x => allR_rev
theorem writesL_rev (s : Sco) (l : List Rul) : writesL s l.reverse = writesL s l := sortK_congr fun x => by simp [allT]
theorem fewR2.rev {l : List Rul} (h : fewR2 l) : fewR2 l.reverse := ⟨by rw [List.length_reverse]; exact h.1, fun r hr => h.2 r (List.mem_reverse.1 hr)⟩

theorem anyN_all' {n : Nat} {p : Nat → Bool} (h : anyN n p = false) (i : Nat) (hi : i < n) : p i = false := by
  cases e : p i with
  | false => rfl
  | true => rw [anyN_true hi e] at h; cases h
theorem great_few2 {s : Sco} {l : List Rul} (h : greatB s l = false) : fewR2 l := by
  unfold greatB at h
  simp only [Bool.or_eq_false_iff, decide_eq_false_iff_not] at h
  refine ⟨by omega, fun r hr => ?_⟩
  obtain ⟨i, hi, rfl⟩ := List.getElem_of_mem hr
  have h1 := anyN_all' h.2 i hi
  rw [getD_getElem _ _ hi] at h1
  unfold ruleG at h1
  simp only [Bool.or_eq_false_iff, decide_eq_false_iff_not] at h1
  refine ⟨by omega, by omega, by omega, fun x hx => ?_⟩
  obtain ⟨j, hj, rfl⟩ := List.getElem_of_mem hx
  have h2 := anyN_all' h1.2 j hj
  rw [getD_getElem _ _ hj] at h2
  unfold stepG at h2
  have := of_decide_eq_false h2
  omega

theorem rulesE_ok (s : Sco) (l : List Rul) : (rulesE s l).2 = 0 ↔ l.length ≤ 40 ∧ ∀ i, i < l.length → atE s l i = 0 := by
  unfold rulesE
  by_cases h : 40 < l.length
  · rw [if_pos h]
    exact ⟨fun x => (by cases x), fun x => by omega⟩
  · rw [if_neg h]
    split
    · rename_i i hi
      have h1 := List.find?_some hi
      have h2 := List.mem_of_find?_eq_some hi
      simp only [List.mem_range] at h2
      exact ⟨fun x => absurd x (of_decide_eq_true h1), fun x => x.2 i h2⟩
    · rename_i hn
      refine ⟨fun _ => ⟨by omega, fun i hi => ?_⟩, fun _ => rfl⟩
      have := List.find?_eq_none.1 hn i (by simpa using hi)
      simpa using this

theorem memN_iff {l : List ByteArray} {n : Nat} {s : ByteArray} : memN l n s = true ↔ ∃ j, j < n ∧ l.getD j default = s := by simp [memN, -List.getD_eq_getElem?_getD]
theorem idx_nodup {l : List ByteArray} : (∀ i, i < l.length → ¬ idxOf l (l.getD i default) < i) ↔ l.Nodup := by
  unfold List.Nodup
  rw [List.pairwise_iff_getElem]
  constructor
  · intro h i j hi hj hij e
    refine h j hj ?_
    rw [idxOf_lt hj, memN_iff]
    exact ⟨i, hij, by rw [getD_getElem _ _ hj, getD_getElem _ _ hi]; exact e⟩
  · intro h i hi hlt
    rw [idxOf_lt hi, memN_iff] at hlt
    obtain ⟨j, hj, e⟩ := hlt
    rw [getD_getElem _ _ hi, getD_getElem _ _ (by omega)] at e
    exact h j i (by omega) hi hj e

theorem rules_ok (s : Sco) (l : List Rul) : (rulesE s l).2 = 0 ↔ l.length ≤ 40 ∧ (∀ r ∈ l, ruleE s r = 0) ∧ (l.map Rul.name).Nodup := by
  rw [rulesE_ok, ← idx_nodup]
  have hn : ∀ i, i < l.length → (l.map Rul.name).getD i default = (l.getD i default).name := fun i hi => by
    rw [getD_getElem _ _ (by simpa using hi), getD_getElem _ _ hi, List.getElem_map]
  constructor
  · rintro ⟨h1, h2⟩
    refine ⟨h1, fun r hr => ?_, fun i hi => ?_⟩
    · obtain ⟨i, hi, rfl⟩ := List.getElem_of_mem hr
      have := h2 i hi
      unfold atE at this
      rw [getD_getElem _ _ hi] at this
      split at this
      · rename_i h; exact absurd this h
      · rename_i h; simpa using h
    · have hi : i < l.length := by simpa using hi
      have := h2 i hi
      unfold atE at this
      rw [hn i hi]
      split at this
      · rename_i h; exact absurd this h
      · split at this
        · cases this
        · assumption
  · rintro ⟨h1, h2, h3⟩
    refine ⟨h1, fun i hi => ?_⟩
    unfold atE
    rw [if_neg (by have := h2 (l.getD i default) (by rw [getD_getElem _ _ hi]; exact List.getElem_mem hi); simpa using this), if_neg (by have := h3 i (by simpa using hi); rwa [hn i hi] at this)]
theorem rules_rev (s : Sco) (l : List Rul) : (rulesE s l.reverse).2 = 0 ↔ (rulesE s l).2 = 0 := by
  rw [rules_ok, rules_ok]
  simp only [List.length_reverse, List.mem_reverse, List.map_reverse]
  have : (l.map Rul.name).reverse.Nodup ↔ (l.map Rul.name).Nodup := (List.reverse_perm _).nodup_iff
  rw [this]

theorem rev_getD {α : Type} [Inhabited α] {l : List α} {k : Nat} (h : k < l.length) : l.reverse.getD k default = l.getD ((l.length : Int) - 1 - k).toNat default := by
  have e : ((l.length : Int) - 1 - k).toNat = l.length - 1 - k := by omega
  rw [e, getD_getElem _ _ (by simpa using h), getD_getElem _ _ (by omega), List.getElem_reverse]

end Go.Abs

namespace Go.Abs

def isX (e : Ex) (n : Int) : Bool := decide (e.kind = 1 ∧ e.value.kind = 1 ∧ e.value.n = n)
def numX (e : Ex) : Bool := decide (e.kind = 1 ∧ e.value.kind = 2)
def litX (b : Bool) : Ex := .mk 1 0 0 ⟨#[]⟩ ⟨1, if b = true then 1 else 0, ⟨#[]⟩⟩ noKey []
def litI (n : Int) : Ex := .mk 1 0 0 ⟨#[]⟩ ⟨2, n, ⟨#[]⟩⟩ noKey []
def juncE (e : Ex) (d : Int) : Ex := if (e.kids.any fun k => isX k d) = true then litX (decide (d = 1)) else if (e.kids.all fun k => isX k (1 - d)) = true then litX (decide (d = 0)) else e

def sizeU (n : Int) : Int := if n < 0 then -n else n
def timesU (a b : Int) : Int := if b ≠ 0 ∧ (1099511627776 : Int).tdiv b < a then 1099511627777 else a * b
def signI (n : Int) (neg : Bool) : Int := if 1099511627776 < n then (if neg = true then -1099511627776 else 1099511627776) else if neg = true then -n else n
/-- num.Mul -/
def mulI (a b : Int) : Int := signI (timesU (sizeU a) (sizeU b)) (!(decide (a < 0) == decide (b < 0)))
/-- expr.binary -/
def binN (k a b : Int) : Int := if k = 11 then satI (a + b) else if k = 12 then satI (a - b) else mulI a b
def binE (e : Ex) : Ex :=
  if e.kind = 9 then (if (e.kids.getD 0 default).kind = 1 ∧ (e.kids.getD 1 default).kind = 1 then litX (decide ((e.kids.getD 0 default).value = (e.kids.getD 1 default).value)) else e)
  else if numX (e.kids.getD 0 default) = false ∨ numX (e.kids.getD 1 default) = false then e
  else if e.kind = 10 then litX (decide ((e.kids.getD 0 default).value.n < (e.kids.getD 1 default).value.n))
  else litI (binN e.kind (e.kids.getD 0 default).value.n (e.kids.getD 1 default).value.n)
/-- what Fold does at a node whose kids are folded -/
def chg2 (e : Ex) : Ex :=
  if e.kind = 6 then (if isX (e.kids.getD 0 default) 0 = true ∨ isX (e.kids.getD 0 default) 1 = true then litX (isX (e.kids.getD 0 default) 0) else e)
  else if e.kind = 7 then juncE e 0 else if e.kind = 8 then juncE e 1 else if 9 ≤ e.kind ∧ e.kind ≤ 13 then binE e
  else if e.kind = 14 then (if isX (e.kids.getD 0 default) 1 = true then e.kids.getD 1 default else if isX (e.kids.getD 0 default) 0 = true then e.kids.getD 2 default else e)
  else e

/-- e with other kids -/
def withK (e : Ex) (ks : List Ex) : Ex := .mk e.kind e.n e.m e.name e.value e.key ks
mutual
/-- expr.rebuild -/
def rebT (c : Ex → Ex) : Ex → Ex
  | .mk k n m s v q ks => c (.mk k n m s v q (rebL c ks))
def rebL (c : Ex → Ex) : List Ex → List Ex
  | [] => []
  | e :: es => rebT c e :: rebL c es
end
theorem rebT_eq (c : Ex → Ex) (e : Ex) : rebT c e = c (withK e (rebL c e.kids)) := by cases e; rw [rebT]; rfl
theorem rebL_length (c : Ex → Ex) : ∀ l : List Ex, (rebL c l).length = l.length
  | [] => by rw [rebL]
  | e :: l => by rw [rebL, List.length_cons, List.length_cons, rebL_length c l]
theorem rebL_getD (c : Ex → Ex) : ∀ (l : List Ex) (i : Nat), i < l.length → (rebL c l).getD i default = rebT c (l.getD i default)
  | e :: l, 0, _ => by rw [rebL]; rfl
  | e :: l, i + 1, h => by rw [rebL, List.getD_cons_succ, List.getD_cons_succ]; exact rebL_getD c l i (by simpa using h)
theorem rebL_take (c : Ex → Ex) (l : List Ex) (k : Nat) (h : k < l.length) : (rebL c l).take (k + 1) = (rebL c l).take k ++ [rebT c (l.getD k default)] := by
  rw [take_succ_getD (by rw [rebL_length]; exact h), rebL_getD c l k h]
mutual
theorem rebT_id : ∀ e : Ex, rebT (fun x => x) e = e
  | .mk k n m s v q ks => by rw [rebT, rebL_id ks]
theorem rebL_id : ∀ l : List Ex, rebL (fun x => x) l = l
  | [] => by rw [rebL]
  | e :: l => by rw [rebL, rebT_id e, rebL_id l]
end
abbrev foldT : Ex → Ex := rebT chg2
abbrev foldL : List Ex → List Ex := rebL chg2
theorem foldT_eq (e : Ex) : foldT e = chg2 (withK e (foldL e.kids)) := rebT_eq chg2 e
theorem foldL_length (l : List Ex) : (foldL l).length = l.length := rebL_length chg2 l
theorem foldL_getD (l : List Ex) (i : Nat) (h : i < l.length) : (foldL l).getD i default = foldT (l.getD i default) := rebL_getD chg2 l i h

mutual
/-- all nodes are right -/
def okN : Ex → Prop
  | .mk k n m s v q ks => nodeE (.mk k n m s v q ks) = 0 ∧ okNL ks
def okNL : List Ex → Prop
  | [] => True
  | e :: es => okN e ∧ okNL es
end
theorem okN_iff (e : Ex) : okN e ↔ nodeE e = 0 ∧ okNL e.kids := by cases e; rw [okN]; rfl
theorem okNL_iff : ∀ (l : List Ex), okNL l ↔ ∀ e ∈ l, okN e
  | [] => by rw [okNL]; simp
  | e :: l => by rw [okNL, okNL_iff l]; simp
mutual
def depE : Ex → Int
  | .mk _ _ _ _ _ _ ks => 1 + depL ks
def depL : List Ex → Int
  | [] => 0
  | e :: es => if depE e < depL es then depL es else depE e
end
theorem depE_eq (e : Ex) : depE e = 1 + depL e.kids := by cases e; rw [depE]; rfl
theorem depL_nn : ∀ l : List Ex, 0 ≤ depL l
  | [] => by rw [depL]; exact Int.le_refl 0
  | e :: l => by
    have := depL_nn l
    have h2 : 1 ≤ depE e ∨ depE e < depL l ∨ True := .inr (.inr trivial)
    rw [depL]
    split
    · exact this
    · omega
theorem depE_pos (e : Ex) : 1 ≤ depE e := by rw [depE_eq]; have := depL_nn e.kids; omega
theorem depL_mem : ∀ {l : List Ex} {e : Ex}, e ∈ l → depE e ≤ depL l
  | x :: l, e, h => by
    rw [depL]
    rcases List.mem_cons.1 h with rfl | h
    · split <;> omega
    · have := depL_mem h
      split <;> omega
theorem depL_le {n : Int} : ∀ {l : List Ex}, 0 ≤ n → (∀ e ∈ l, depE e ≤ n) → depL l ≤ n
  | [], h0, _ => by rw [depL]; exact h0
  | e :: l, h0, h => by
    have h1 := h e (by simp)
    have h2 := depL_le (l := l) h0 fun x hx => h x (by simp [hx])
    rw [depL]
    split <;> omega

mutual
theorem chk_iff : ∀ (e : Ex) (l c : Int), c ≤ 200 → l ≤ 25 → ((chkE e l c).2 = 0 ↔ okN e ∧ l - 1 + depE e ≤ 24 ∧ c + sizeE e ≤ 200) ∧ ((chkE e l c).2 = 0 → (chkE e l c).1 = c + sizeE e)
  | .mk a n m s v q ks, l, c, hc, hl => by
    have hd := depL_nn ks
    rw [chkE, okN, depE, sizeE]
    by_cases h1 : 24 < l
    · rw [if_pos h1]
      exact ⟨⟨fun h => (by cases h), fun h => (by have := h.2.1; omega)⟩, fun h => (by cases h)⟩
    rw [if_neg h1]
    by_cases h2 : 200 < c + 1
    · rw [if_pos h2]
      exact ⟨⟨fun h => (by cases h), fun h => (by have := h.2.2; omega)⟩, fun h => (by cases h)⟩
    rw [if_neg h2]
    by_cases h3 : nodeE (.mk a n m s v q ks) ≠ 0
    · rw [if_pos h3]
      exact ⟨⟨fun h => absurd h h3, fun h => absurd h.1.1 h3⟩, fun h => absurd h h3⟩
    rw [if_neg h3]
    obtain ⟨i1, i2⟩ := chk_iffL ks (l + 1) (c + 1) (by omega) (by omega)
    refine ⟨⟨fun h => ?_, fun h => ?_⟩, fun h => ?_⟩
    · obtain ⟨j1, j2, j3⟩ := i1.1 h
      exact ⟨⟨by simpa using h3, j1⟩, by omega, by omega⟩
    · exact i1.2 ⟨h.1.2, by have := h.2.1; omega, by have := h.2.2; omega⟩
    · rw [i2 h]; omega
theorem chk_iffL : ∀ (ks : List Ex) (l c : Int), c ≤ 200 → l ≤ 25 → ((chkL ks l c).2 = 0 ↔ okNL ks ∧ l - 1 + depL ks ≤ 24 ∧ c + sizeL ks ≤ 200) ∧ ((chkL ks l c).2 = 0 → (chkL ks l c).1 = c + sizeL ks)
  | [], l, c, hc, hl => by
    rw [chkL, okNL, depL, sizeL]
    exact ⟨⟨fun _ => ⟨trivial, by omega, by omega⟩, fun _ => rfl⟩, fun _ => by simp⟩
  | e :: es, l, c, hc, hl => by
    obtain ⟨i1, i2⟩ := chk_iff e l c hc hl
    rw [chkL, okNL, depL, sizeL]
    by_cases h : (chkE e l c).2 ≠ 0
    · rw [if_pos h]
      refine ⟨⟨fun h2 => absurd h2 h, fun h2 => absurd (i1.2 ⟨h2.1.1, ?_, by have := h2.2.2; omega⟩) h⟩, fun h2 => absurd h2 h⟩
      have := h2.2.1
      split at this <;> omega
    · have h0 : (chkE e l c).2 = 0 := by simpa using h
      rw [if_neg h]
      obtain ⟨g1, g2, g3⟩ := i1.1 h0
      have hcnt := i2 h0
      obtain ⟨k1, k2⟩ := chk_iffL es l (chkE e l c).1 (by omega) hl
      refine ⟨⟨fun h2 => ?_, fun h2 => ?_⟩, fun h2 => ?_⟩
      · obtain ⟨j1, j2, j3⟩ := k1.1 h2
        refine ⟨⟨g1, j1⟩, ?_, by omega⟩
        split <;> omega
      · refine k1.2 ⟨h2.1.2, ?_, by have := h2.2.2; omega⟩
        have := h2.2.1
        split at this <;> omega
      · rw [k2 h2, hcnt]; omega
end
theorem exE_iff (e : Ex) : exE e = 0 ↔ okN e ∧ depE e ≤ 24 ∧ (sizeE e : Int) ≤ 200 := by
  have := (chk_iff e 1 0 (by omega) (by omega)).1
  unfold exE
  rw [this]
  constructor
  · rintro ⟨a, b, c⟩; exact ⟨a, by omega, by omega⟩
  · rintro ⟨a, b, c⟩; exact ⟨a, by omega, by omega⟩

theorem kindL_get {s : Sco} : ∀ {ks : List Ex} {l : List Int}, kindL s ks = .inr l → l.length = ks.length ∧ ∀ i, i < ks.length → kindE s (ks.getD i default) = (l.getD i default, 0)
  | [], l, h => by rw [kindL] at h; cases h; exact ⟨rfl, fun i hi => absurd hi (by simp)⟩
  | e :: es, l, h => by
    rw [kindL] at h
    split at h
    · cases h
    · rename_i h0
      split at h
      · cases h
      · rename_i r hr
        cases h
        obtain ⟨h1, h2⟩ := kindL_get hr
        refine ⟨by simp [h1], fun i hi => ?_⟩
        cases i with
        | zero => exact Prod.ext rfl (by simpa using h0)
        | succ i => simpa using h2 i (by simpa using hi)
theorem kindL_of {s : Sco} : ∀ {ks : List Ex} {l : List Int}, l.length = ks.length → (∀ i, i < ks.length → kindE s (ks.getD i default) = (l.getD i default, 0)) → kindL s ks = .inr l
  | [], [], _, _ => by rw [kindL]
  | e :: es, a :: l, h, hk => by
    have h0 : kindE s e = (a, 0) := hk 0 (by simp)
    have h1 := kindL_of (ks := es) (l := l) (by simpa using h) fun i hi => by simpa using hk (i + 1) (by simpa using hi)
    rw [kindL, h0, if_neg (by simp), h1]

theorem litX_ok (b : Bool) : nodeE (litX b) = 0 := by cases b <;> rfl
theorem litX_okN (b : Bool) : okN (litX b) := (okN_iff _).2 ⟨litX_ok b, by rw [show (litX b).kids = [] from rfl, okNL]; trivial⟩
theorem litX_dep (b : Bool) : depE (litX b) = 1 := by rw [depE_eq, show (litX b).kids = [] from rfl, depL]; rfl
theorem litX_size (b : Bool) : sizeE (litX b) = 1 := by rw [sizeE_eq, show (litX b).kids = [] from rfl, sizeL]
theorem litX_kind (s : Sco) (b : Bool) : kindE s (litX b) = (1, 0) := by rw [kindE_leaf rfl]; rfl
theorem litI_okN {n : Int} (h : inRange n = true) : okN (litI n) := by
  refine (okN_iff _).2 ⟨?_, by rw [show (litI n).kids = [] from rfl, okNL]; trivial⟩
  have hv : valE (litI n).value = 0 := by
    simp only [litI, Ex.value, valE, h]
    rfl
  simp only [nodeE, hv]
  rfl
theorem litI_dep (n : Int) : depE (litI n) = 1 := by rw [depE_eq, show (litI n).kids = [] from rfl, depL]; rfl
theorem litI_size (n : Int) : sizeE (litI n) = 1 := by rw [sizeE_eq, show (litI n).kids = [] from rfl, sizeL]
theorem litI_kind (s : Sco) (n : Int) : kindE s (litI n) = (2, 0) := by rw [kindE_leaf rfl]; rfl

theorem satI_in (n : Int) : inRange (satI n) = true := by
  unfold satI inRange
  simp only [Bool.and_eq_true, decide_eq_true_eq]
  omega
theorem mulI_in (a b : Int) : inRange (mulI a b) = true := by
  have hn : 0 ≤ timesU (sizeU a) (sizeU b) := by
    have h1 : 0 ≤ sizeU a := by unfold sizeU; split <;> omega
    have h2 : 0 ≤ sizeU b := by unfold sizeU; split <;> omega
    unfold timesU
    split
    · omega
    · exact Int.mul_nonneg h1 h2
  unfold mulI signI inRange
  (repeat' split) <;> simp <;> omega
theorem binN_in (k a b : Int) : inRange (binN k a b) = true := by
  unfold binN
  split
  · exact satI_in _
  · split
    · exact satI_in _
    · exact mulI_in a b

/-- what folding keeps at a node whose kids are as they should be -/
structure Keeps (s : Sco) (e x : Ex) : Prop where
  ok : okN x
  dep : depE x ≤ depE e
  size : sizeE x ≤ sizeE e
  kind : (kindE s e).2 = 0 → kindE s x = kindE s e

theorem Keeps.refl {s : Sco} {e : Ex} (h : okN e) : Keeps s e e := ⟨h, Int.le_refl _, Nat.le_refl _, fun _ => rfl⟩
theorem Keeps.lit {s : Sco} {e : Ex} {b : Bool} (h : (kindE s e).2 = 0 → kindE s e = (1, 0)) : Keeps s e (litX b) :=
  ⟨litX_okN b, by rw [litX_dep]; exact depE_pos e, by rw [litX_size, sizeE_eq]; omega, fun hk => by rw [litX_kind, h hk]⟩
theorem Keeps.kid {s : Sco} {e : Ex} {i : Nat} (h : okN e) (hi : i < e.kids.length) (hk : (kindE s e).2 = 0 → kindE s (e.kids.getD i default) = kindE s e) : Keeps s e (e.kids.getD i default) := by
  have hm := Ex.kid_at hi
  refine ⟨(okNL_iff _).1 ((okN_iff e).1 h).2 _ hm, ?_, ?_, hk⟩
  · have := depL_mem hm; rw [depE_eq e]; omega
  · have := sizeL_mem hm; rw [sizeE_eq e]; omega

/-- the kind of an operation whose kids have kinds -/
theorem opK_cases {s : Sco} {e : Ex} (hz : e.kids.length ≠ 0) (h : (kindE s e).2 = 0) : ∃ l, kindL s e.kids = .inr l ∧ kindE s e = opK e.kind l ∧ (opK e.kind l).2 = 0 := by
  rw [kindE_op hz] at h ⊢
  cases hl : kindL s e.kids with
  | inl x =>
    rw [hl] at h
    exfalso
    have : ∀ {ks : List Ex} {x : Int}, kindL s ks = .inl x → x ≠ 0 := by
      intro ks
      induction ks with
      | nil => intro x h; rw [kindL] at h; cases h
      | cons e es ih =>
        intro x h
        rw [kindL] at h
        split at h
        · rename_i h0; cases h; exact h0
        · split at h
          · rename_i hr; cases h; exact ih hr
          · cases h
    exact this hl h
  | inr l => rw [hl] at h; exact ⟨l, rfl, rfl, h⟩
theorem opK_bool {k : Int} {l : List Int} (hk : k = 6 ∨ k = 7 ∨ k = 8 ∨ k = 9 ∨ k = 10) (h : (opK k l).2 = 0) : opK k l = (1, 0) := by
  unfold opK at h ⊢
  (repeat' split at h) <;> simp_all <;> omega
theorem opK_int {k : Int} {l : List Int} (hk : 11 ≤ k ∧ k ≤ 13) (h : (opK k l).2 = 0) : opK k l = (2, 0) := by
  unfold opK at h ⊢
  rw [if_neg (by omega), if_neg (by omega), if_neg (by omega), if_neg (by omega)] at h ⊢
  split at h
  · rename_i h1; rw [if_pos h1]
  · cases h
theorem opK_if {l : List Int} (h : (opK 14 l).2 = 0) : opK 14 l = (l.getD 1 default, 0) ∧ l.getD 1 default = l.getD 2 default := by
  unfold opK at h ⊢
  rw [if_neg (by omega), if_neg (by omega), if_neg (by omega), if_pos rfl] at h ⊢
  split at h
  · rename_i h1; rw [if_pos h1]; exact ⟨rfl, h1.2⟩
  · cases h

/-- a right literal's number -/
theorem okN_num {e : Ex} (h : okN e) (hn : numX e = true) : -1099511627776 ≤ e.value.n ∧ e.value.n ≤ 1099511627776 := by
  have h0 := ((okN_iff e).1 h).1
  simp only [numX, decide_eq_true_eq] at hn
  unfold nodeE at h0
  rw [if_neg (by omega)] at h0
  split at h0
  · cases h0
  split at h0
  · cases h0
  rw [if_neg (by omega), if_neg (by omega), if_pos hn.1] at h0
  split at h0
  · rename_i h1; exact absurd h0 h1
  rename_i h1
  have h1 : valE e.value = 0 := by simpa using h1
  unfold valE at h1
  split at h1
  · cases h1
  split at h1
  · cases h1
  · rename_i h2
    have h3 : ¬ inRange e.value.n = false := fun x => h2 (.inr (.inr (.inl ⟨hn.2, x⟩)))
    simp only [inRange, Bool.not_eq_false, Bool.and_eq_true, decide_eq_true_eq] at h3
    exact h3

theorem nodeE_kidsB {e : Ex} (h : nodeE e = 0) : kidsB e.kind e.kids.length = true := (nodeE_ok h).2

theorem chg2_keeps {s : Sco} {e : Ex} (h : okN e) : Keeps s e (chg2 e) := by
  have h0 := ((okN_iff e).1 h).1
  have hb := nodeE_kidsB h0
  have bool : (e.kind = 6 ∨ e.kind = 7 ∨ e.kind = 8 ∨ e.kind = 9 ∨ e.kind = 10) → ∀ b, Keeps s e (litX b) := fun hk b => Keeps.lit fun h2 => by
    have hz : e.kids.length ≠ 0 := by
      intro hz
      unfold kidsB at hb
      (repeat' split at hb) <;> simp only [decide_eq_true_eq, Bool.and_eq_true] at hb <;> omega
    obtain ⟨l, _, h4, h5⟩ := opK_cases hz h2
    rw [h4]; exact opK_bool hk h5
  unfold chg2
  split
  · rename_i hk
    split
    · exact bool (by omega) _
    · exact Keeps.refl h
  split
  · rename_i hk
    unfold juncE
    split
    · exact bool (by omega) _
    · split
      · exact bool (by omega) _
      · exact Keeps.refl h
  split
  · rename_i hk
    unfold juncE
    split
    · exact bool (by omega) _
    · split
      · exact bool (by omega) _
      · exact Keeps.refl h
  split
  · rename_i hk
    unfold binE
    split
    · split
      · exact bool (by omega) _
      · exact Keeps.refl h
    split
    · exact Keeps.refl h
    split
    · exact bool (by omega) _
    · refine ⟨litI_okN (binN_in _ _ _), by rw [litI_dep]; exact depE_pos e, by rw [litI_size, sizeE_eq]; omega, fun h2 => ?_⟩
      have hz : e.kids.length ≠ 0 := by
        intro hz
        unfold kidsB at hb
        (repeat' split at hb) <;> simp only [decide_eq_true_eq, Bool.and_eq_true] at hb <;> omega
      obtain ⟨l, _, h4, h5⟩ := opK_cases hz h2
      rw [h4, litI_kind]
      exact (opK_int (by omega) h5).symm
  split
  · rename_i hk
    have hz : e.kids.length = 3 := by
      unfold kidsB at hb
      (repeat' split at hb) <;> simp only [decide_eq_true_eq, Bool.and_eq_true] at hb <;> omega
    split
    · refine Keeps.kid h (by omega) fun h2 => ?_
      obtain ⟨l, h3, h4, h5⟩ := opK_cases (by omega) h2
      rw [hk] at h4 h5
      rw [h4, (opK_if h5).1, (kindL_get h3).2 1 (by omega)]
    split
    · refine Keeps.kid h (by omega) fun h2 => ?_
      obtain ⟨l, h3, h4, h5⟩ := opK_cases (by omega) h2
      rw [hk] at h4 h5
      rw [h4, (opK_if h5).1, (opK_if h5).2, (kindL_get h3).2 2 (by omega)]
    · exact Keeps.refl h
  · exact Keeps.refl h

theorem withK_node {e : Ex} {ks : List Ex} (h : ks.length = e.kids.length) : nodeE (withK e ks) = nodeE e := by
  obtain ⟨a, n, m, s, v, q, l⟩ := e
  have h : ks.length = l.length := h
  simp only [withK, Ex.kind, Ex.n, Ex.m, Ex.name, Ex.value, Ex.key, nodeE, Ex.kids, h]
  rfl

theorem fold_keeps (s : Sco) (e : Ex) (h : okN e) : Keeps s e (foldT e) := by
  have hk := (okNL_iff _).1 ((okN_iff e).1 h).2
  have ih : ∀ i, i < e.kids.length → Keeps s (e.kids.getD i default) (foldT (e.kids.getD i default)) := fun i hi =>
    have := Ex.kid_lt (Ex.kid_at hi)
    fold_keeps s (e.kids.getD i default) (hk _ (Ex.kid_at hi))
  have hlen := foldL_length e.kids
  have hmem : ∀ x ∈ foldL e.kids, ∃ i, i < e.kids.length ∧ x = foldT (e.kids.getD i default) := fun x hx => by
    obtain ⟨i, hi, rfl⟩ := List.getElem_of_mem hx
    refine ⟨i, by omega, ?_⟩
    rw [← foldL_getD e.kids i (by omega)]
    simp [List.getD, hi]
  have hw : okN (withK e (foldL e.kids)) := by
    rw [okN_iff, withK_node hlen]
    refine ⟨((okN_iff e).1 h).1, (okNL_iff _).2 fun x hx => ?_⟩
    obtain ⟨i, hi, rfl⟩ := hmem x hx
    exact (ih i hi).ok
  have key : Keeps s e (withK e (foldL e.kids)) := by
    refine ⟨hw, ?_, ?_, fun h2 => ?_⟩
    · rw [depE_eq, depE_eq e]
      have : depL (foldL e.kids) ≤ depL e.kids := depL_le (depL_nn _) fun x hx => by
        obtain ⟨i, hi, rfl⟩ := hmem x hx
        exact Int.le_trans (ih i hi).dep (depL_mem (Ex.kid_at hi))
      show 1 + depL (foldL e.kids) ≤ _
      omega
    · rw [sizeE_eq, sizeE_eq e]
      have : ∀ (l : List Ex), (∀ i, i < l.length → sizeE (foldT (l.getD i default)) ≤ sizeE (l.getD i default)) → sizeL (foldL l) ≤ sizeL l := by
        intro l
        induction l with
        | nil => intro _; rw [show foldL [] = [] from by show rebL chg2 [] = _; rw [rebL]]; exact Nat.le_refl _
        | cons x l ih2 =>
          intro hh
          rw [show foldL (x :: l) = foldT x :: foldL l from by show rebL chg2 (x :: l) = _; rw [rebL], sizeL, sizeL]
          have h1 : sizeE (foldT x) ≤ sizeE x := hh 0 (by simp)
          have h2 := ih2 fun i hi => by simpa using hh (i + 1) (by simpa using hi)
          omega
      have := this e.kids fun i hi => (ih i hi).size
      show 1 + sizeL (foldL e.kids) ≤ _
      omega
    · by_cases hz : e.kids.length = 0
      · rw [kindE_leaf hz, kindE_leaf (e := withK e (foldL e.kids)) (by show (foldL e.kids).length = 0; omega)]; rfl
      · obtain ⟨l, h3, h4, _⟩ := opK_cases hz h2
        obtain ⟨g1, g2⟩ := kindL_get h3
        have h5 : kindL s (foldL e.kids) = .inr l := kindL_of (by omega) fun i hi => by
          rw [foldL_getD e.kids i (by omega)]
          have h6 := g2 i (by omega)
          rw [(ih i (by omega)).kind (by rw [h6])]
          exact h6
        rw [h4, kindE_op (e := withK e (foldL e.kids)) (by show (foldL e.kids).length ≠ 0; omega)]
        show (match kindL s (foldL e.kids) with | .inl x => (0, x) | .inr l => opK e.kind l) = _
        rw [h5]
  have k2 := chg2_keeps (s := s) hw
  rw [foldT_eq]
  exact ⟨k2.ok, Int.le_trans k2.dep key.dep, Nat.le_trans k2.size key.size, fun h2 => by
    rw [k2.kind (by rw [key.kind h2]; exact h2), key.kind h2]⟩
termination_by SizeOf.sizeOf e

theorem fold_hw (e : Ex) (h : okN e) : okN (withK e (rebL chg2 e.kids)) := by
  have hk := (okNL_iff _).1 ((okN_iff e).1 h).2
  rw [okN_iff, withK_node (rebL_length chg2 e.kids)]
  refine ⟨((okN_iff e).1 h).1, (okNL_iff _).2 fun x hx => ?_⟩
  obtain ⟨i, hi, rfl⟩ := List.getElem_of_mem hx
  have hi' : i < e.kids.length := by rw [← rebL_length chg2 e.kids]; exact hi
  have h1 : (rebL chg2 e.kids)[i] = foldT (e.kids.getD i default) := by
    have hi2 : i < (rebL chg2 e.kids).length := hi
    rw [← foldL_getD e.kids i hi']
    show (rebL chg2 e.kids)[i] = (rebL chg2 e.kids).getD i default
    simp [List.getD, hi2]
  rw [show (withK e (rebL chg2 e.kids)).kids[i] = (rebL chg2 e.kids)[i] from rfl, h1]
  exact (fold_keeps ⟨⟨[], []⟩, [], []⟩ _ (hk _ (Ex.kid_at hi'))).ok

/-- expr.Fold -/
def foldE (e : Ex) : Ex := if exE e ≠ 0 then e else foldT e
theorem foldE_kind (s : Sco) (e : Ex) (h : (exprK s e).2 = 0) : exprK s (foldE e) = exprK s e := by
  have h0 : exE e = 0 := by
    unfold exprK at h
    split at h
    · rename_i h1; exact absurd h h1
    · rename_i h1; simpa using h1
  obtain ⟨h1, h2, h3⟩ := (exE_iff e).1 h0
  have hk := fold_keeps s e h1
  have h4 : exE (foldT e) = 0 := (exE_iff _).2 ⟨hk.ok, Int.le_trans hk.dep h2, by have := hk.size; omega⟩
  unfold foldE
  rw [if_neg (by simpa using h0)]
  unfold exprK at h ⊢
  rw [if_neg (by simpa using h4), if_neg (by simpa using h0)]
  rw [if_neg (by simpa using h0)] at h
  exact hk.kind h

end Go.Abs

namespace Go.Abs

mutual
def allK (p : Key → Prop) : Ex → Prop
  | .mk a _ _ _ _ q ks => (a = 2 → p q) ∧ allKL p ks
def allKL (p : Key → Prop) : List Ex → Prop
  | [] => True
  | e :: es => allK p e ∧ allKL p es
end
theorem allK_iff (p : Key → Prop) (e : Ex) : allK p e ↔ (e.kind = 2 → p e.key) ∧ allKL p e.kids := by cases e; rw [allK]; rfl
theorem allKL_iff (p : Key → Prop) : ∀ l : List Ex, allKL p l ↔ ∀ e ∈ l, allK p e
  | [] => by rw [allKL]; simp
  | e :: l => by rw [allKL, allKL_iff p l]; simp
mutual
theorem keysT_all (p : Key → Prop) : ∀ (e : Ex) {acc : List Key}, (∀ x ∈ acc, p x) → allK p e → ∀ x ∈ keysT e acc, p x
  | .mk a n m s v q ks, acc, h, he => by
    rw [allK] at he
    rw [keysT]
    refine keysTL_all p ks (fun x hx => ?_) he.2
    unfold addK at hx
    split at hx
    · rename_i h2
      rcases mem_putK.1 hx with rfl | hx
      · exact he.1 h2
      · exact h x hx
    · exact h x hx
theorem keysTL_all (p : Key → Prop) : ∀ (ks : List Ex) {acc : List Key}, (∀ x ∈ acc, p x) → allKL p ks → ∀ x ∈ keysTL ks acc, p x
  | [], acc, h, _ => by rw [keysTL]; exact h
  | e :: ks, acc, h, hk => by
    rw [allKL] at hk
    rw [keysTL]
    exact keysTL_all p ks (keysT_all p e h hk.1) hk.2
end

theorem kind_found (s : Sco) (e : Ex) (ho : okN e) (h : (kindE s e).2 = 0) : allK (fun k => foundB s k = true) e := by
  have ih : ∀ i, i < e.kids.length → okN (e.kids.getD i default) → (kindE s (e.kids.getD i default)).2 = 0 → allK (fun k => foundB s k = true) (e.kids.getD i default) := fun i hi h1 h2 =>
    have := Ex.kid_lt (Ex.kid_at hi)
    kind_found s (e.kids.getD i default) h1 h2
  obtain ⟨hn, hk⟩ := (okN_iff e).1 ho
  rw [okNL_iff] at hk
  rw [allK_iff, allKL_iff]
  by_cases hz : e.kids.length = 0
  · refine ⟨fun h2 => ?_, fun x hx => by rw [List.eq_nil_of_length_eq_zero hz] at hx; cases hx⟩
    rw [kindE_leaf hz, leafK, if_neg (by omega), if_pos h2] at h
    split at h
    · assumption
    · cases h
  · obtain ⟨l, h1, _, _⟩ := opK_cases hz h
    have h3 := (kindL_get h1).2
    refine ⟨fun h2 => ?_, fun x hx => ?_⟩
    · have := nodeE_kidsB hn
      rw [h2] at this
      simp [kidsB] at this
      exact absurd (by rw [this]; rfl) hz
    · obtain ⟨i, hi, rfl⟩ := List.getElem_of_mem hx
      have := ih i hi (hk _ (Ex.kid_at hi)) (by rw [h3 i hi])
      rwa [getD_getElem _ _ hi] at this
termination_by SizeOf.sizeOf e
theorem want_found {s : Sco} {e : Ex} {k : Int} (h : wantK s e k = 0) : ∀ x ∈ keysT e [], foundB s x = true := by
  have h1 : (exprK s e).2 = 0 := by
    unfold wantK at h
    split at h
    · rename_i h2; exact absurd h h2
    · rename_i h2; simpa using h2
  unfold exprK at h1
  split at h1
  · rename_i h2; exact absurd h1 h2
  · rename_i h2
    exact keysT_all _ e (fun x hx => by cases hx) (kind_found s e ((exE_iff e).1 (by simpa using h2)).1 h1)
theorem zero_keys {e : Ex} (h : zeroX e = true) : keysT e [] = [] := by
  have := of_decide_eq_true h
  rw [keysT_eq, List.eq_nil_of_length_eq_zero this.2.2.2.2.2.2, keysTL, addK, if_neg (by omega)]

theorem rule_parts {s : Sco} {r : Rul} (h : ruleE s r = 0) : rulE r = 0 ∧ (∀ i, i < r.on.length → fireE s (r.on.getD i default) = 0) ∧ wantK s r.cond 1 = 0 ∧ ∀ i, i < r.steps.length → doE s (r.steps.getD i default) = 0 := by
  unfold ruleE at h
  split at h
  · rename_i h1; exact absurd h h1
  rename_i h1
  split at h
  · rename_i h2; exact absurd h h2
  rename_i h2
  split at h
  · rename_i h3; exact absurd h h3
  rename_i h3
  exact ⟨by simpa using h1, firstE_zero (by simpa using h2), by simpa using h3, firstE_zero h⟩
theorem rulE_steps {r : Rul} (h : rulE r = 0) : ∀ i, i < r.steps.length → stpE (r.steps.getD i default) = 0 := by
  unfold rulE at h
  split at h
  · cases h
  split at h
  · cases h
  split at h
  · cases h
  split at h
  · rename_i h1; exact absurd h h1
  split at h
  · rename_i h1; exact absurd h h1
  exact firstE_zero h

theorem step_found {s : Sco} {x : Stp} (h1 : stpE x = 0) (h2 : doE s x = 0) : ∀ k ∈ stpK x, foundB s k = true := by
  unfold stpK
  by_cases k1 : x.kind = 1
  · rw [doE, if_pos k1] at h2
    split at h2
    · cases h2
    split at h2
    · cases h2
    exact want_found h2
  by_cases k2 : x.kind = 2
  · rw [doE, if_neg k1, if_pos k2, comE] at h2
    split at h2
    · cases h2
    · split at h2
      · exact want_found h2
      · split at h2
        · rename_i hz; rw [zero_keys hz]; intro k hk; cases hk
        · cases h2
  rw [stpE, if_neg k1, if_neg k2] at h1
  split at h1
  · split at h1
    · cases h1
    · rename_i hz
      have hz : zeroX x.expr = true := by
        cases e : zeroX x.expr with
        | true => rfl
        | false => exact absurd (.inr e) hz
      rw [zero_keys hz]; intro k hk; cases hk
  · cases h1

theorem reads_found {s : Sco} {r : Rul} (h : ruleE s r = 0) : ∀ k ∈ readsL [r], foundB s k = true := by
  obtain ⟨h1, h2, h3, h4⟩ := rule_parts h
  intro k hk
  rw [readsL, mem_sortK] at hk
  simp only [allR, List.flatMap_cons, List.flatMap_nil, List.append_nil, readsR, List.mem_append, List.mem_flatMap] at hk
  rcases hk with (⟨t, ht, hk⟩ | hk) | ⟨x, hx, hk⟩
  · obtain ⟨i, hi, rfl⟩ := List.getElem_of_mem ht
    have := h2 i hi
    rw [getD_getElem _ _ hi] at this
    unfold trgK at hk
    split at hk
    · rename_i k1
      simp only [List.mem_singleton] at hk
      subst hk
      rw [fireE, if_pos k1] at this
      split at this
      · assumption
      · cases this
    · cases hk
  · exact want_found h3 k hk
  · obtain ⟨i, hi, rfl⟩ := List.getElem_of_mem hx
    have g1 := rulE_steps h1 i hi
    have g2 := h4 i hi
    rw [getD_getElem _ _ hi] at g1 g2
    exact step_found g1 g2 k hk

/-! what is written -/
theorem clu_ok {H : Hom} (h : homE H = 0) {c : Clu} (hc : c ∈ H.clusters) : checkE c = 0 := by
  unfold homE at h
  split at h
  · rename_i h1; exact absurd h h1
  rename_i h1
  have h1 : allE H.clusters = 0 := by simpa using h1
  unfold allE at h1
  split at h1
  · cases h1
  obtain ⟨i, hi, rfl⟩ := List.getElem_of_mem hc
  have := firstE_zero h1 i hi
  unfold cluE at this
  rw [getD_getElem _ _ hi] at this
  split at this
  · rename_i h2; exact absurd this h2
  · rename_i h2; simpa using h2
theorem cmd_ok {c : Clu} (h : checkE c = 0) {i : Nat} (hi : i < c.commands.length) : cmdE c i = 0 := by
  unfold checkE at h
  split at h
  · cases h
  split at h
  · cases h
  split at h
  · rename_i h1; exact absurd h h1
  split at h
  · rename_i h1; exact absurd h h1
  · rename_i h1; exact firstE_zero (by simpa using h1) i hi
theorem eff_ok {c : Clu} {i : Nat} (h : cmdE c i = 0) : ∀ f ∈ (c.commands.getD i default).effects, attrAt c.attrs f.attr < c.attrs.length ∧ (attrOf c.attrs f.attr).writable = true := by
  intro f hf
  unfold cmdE at h
  split at h
  · cases h
  split at h
  · cases h
  split at h
  · cases h
  split at h
  · rename_i h1; exact absurd h h1.2
  obtain ⟨j, hj, rfl⟩ := List.getElem_of_mem hf
  have := firstE_zero h j hj
  rw [getD_getElem _ _ hj] at this
  unfold effE at this
  split at this
  · cases this
  split at this
  · cases this
  rename_i h2
  split at this
  · cases this
  rename_i h3
  exact ⟨by simpa using h2, by simpa using h3⟩

theorem targ_writable {s : Sco} {x : Stp} (h : doE s x = 0) : ∀ k ∈ targL s x, ((findA s.home k).getD noAttr).writable = true := by
  intro k hk
  unfold targL at hk
  by_cases k1 : x.kind = 1
  · rw [if_pos k1] at hk
    simp only [List.mem_singleton] at hk
    subst hk
    rw [doE, if_pos k1] at h
    split at h
    · cases h
    split at h
    · cases h
    · rename_i h2; simpa using h2
  rw [if_neg k1] at hk
  by_cases k2 : x.kind = 2
  · rw [if_pos k2] at hk
    rw [doE, if_neg k1, if_pos k2, comE] at h
    cases hc : comO s x with
    | none => rw [hc] at h; cases h
    | some d =>
      rw [hc, Option.getD_some] at hk
      obtain ⟨f, hf, rfl⟩ := List.mem_map.1 hk
      unfold comO at hc
      cases hp : partO s.home x.key.dev x.key.cluster with
      | none => rw [hp] at hc; cases hc
      | some c =>
        rw [hp] at hc
        dsimp only at hc
        split at hc
        · rename_i hlt
          cases hc
          rw [cmdOf, if_pos hlt] at hf
          have hp0 := hp
          unfold partO at hp
          split at hp
          · rename_i hb
            have hh : homE s.home = 0 := by
              have := hb.1
              unfold findB at this
              simp only [Bool.and_eq_true, decide_eq_true_eq] at this
              exact this.1
            obtain ⟨g1, g2⟩ := eff_ok (cmd_ok (clu_ok hh (List.mem_of_find?_eq_some hp)) hlt) f hf
            have e : findA s.home ⟨x.key.dev, x.key.cluster, f.attr⟩ = some (c.attrs.getD (attrAt c.attrs f.attr) default) := by
              unfold findA
              dsimp only
              rw [hp0, attrO, if_pos g1]
            rw [e, Option.getD_some]
            rw [attrOf, if_pos g1] at g2
            exact g2
          · cases hp
        · cases hc
  · rw [if_neg k2] at hk; cases hk

theorem writes_ok {s : Sco} {r : Rul} (h : ruleE s r = 0) : ∀ k ∈ writesL s [r], foundB s k = true ∧ ((findA s.home k).getD noAttr).writable = true := by
  obtain ⟨_, _, _, h4⟩ := rule_parts h
  intro k hk
  rw [writesL, mem_sortK, List.mem_filter] at hk
  refine ⟨hk.2, ?_⟩
  have hk := hk.1
  simp only [allT, List.flatMap_cons, List.flatMap_nil, List.append_nil, List.mem_flatMap] at hk
  obtain ⟨x, hx, hk⟩ := hk
  obtain ⟨i, hi, rfl⟩ := List.getElem_of_mem hx
  have g2 := h4 i hi
  rw [getD_getElem _ _ hi] at g2
  exact targ_writable g2 k hk

end Go.Abs

namespace Go.Abs
open Go.Proofs
set_option maxRecDepth 10000

set_option maxHeartbeats 1000000 in
theorem ac_law31_TypingExists (s : Sco) (r : Rul) (hs : smallS s) (hr : goodRul r) : AC Tryz.prog 9 [.pv (.agg (cSco s)), .pv (.agg (cRul r))] [] (.pv (vbool true)) [] := by
  have hone : ∀ i, i < [r].length → goodRul ([r].getD i default) := fun i hi => by
    have : i = 0 := by simp at hi; omega
    subst this; exact hr
  refine AC.of_awp (T := T) T_ok hm Tryz.call9 Tryz.func9 rfl rfl rfl ?_
  conv => whnf
  repeat (any_goals (first
    | (refine ⟨fun (h : (_ : Bool) = true) => ?_, fun (h : (_ : Bool) = false) => ?_⟩ <;> (try simp only [decide_eq_true_eq, decide_eq_false_iff_not, Bool.not_eq_true', Bool.not_eq_false', Int.toNat_natCast, beq_iff_eq, decide_eq_decide, beq_eq_false_iff_ne, ne_eq, reduceCtorEq] at h) <;> (conv => whnf))
    | (refine .inl ⟨_, AC.sub2 (ac_law31_great s [r] hone) (by repeat' (first | exact PSub.rfl | exact PSub.nil_ro _ _ | exact PSub.lit_sb rfl | exact trivial | exact all_lt_zero | refine PSub.agg ?_ | refine PSub.ro rfl ?_ | refine all_lt_succ ?_ ?_ | refine And.intro ?_ ?_)) (by repeat' (first | exact PSub.rfl | exact PSub.nil_ro _ _ | exact PSub.lit_sb rfl | exact trivial | exact all_lt_zero | refine PSub.agg ?_ | refine PSub.ro rfl ?_ | refine all_lt_succ ?_ ?_ | refine And.intro ?_ ?_)), ?_⟩; conv => whnf)
    | (refine .inl ⟨_, ac_typing_Rule s r hs, ?_⟩; conv => whnf)
    | (refine .inl ⟨_, ac_law31_lives, ?_⟩; conv => whnf)
    | (refine .inl ⟨_, AC.sub1 (ac_typing_Reads [r] (great_few2 (by assumption))) (by repeat' (first | exact PSub.rfl | exact PSub.nil_ro _ _ | exact PSub.lit_sb rfl | exact trivial | exact all_lt_zero | refine PSub.agg ?_ | refine PSub.ro rfl ?_ | refine all_lt_succ ?_ ?_ | refine And.intro ?_ ?_)), ?_⟩; conv => whnf)
    | (refine And.intro (by (try simp only [Int.toNat_natCast]); omega) ?_; conv => whnf)
    | (refine And.intro (show (_ : Bool) = true from by kernel_rfl) ?_; conv => whnf)
    | (refine .inl ⟨wrap64 (by omega), ?_⟩; conv => whnf)))
  all_goals try exact PSub.sb rfl
  have hfew := great_few2 (by assumption)
  have hrl : (readsL [r]).length ≤ 4194304 := Nat.le_trans (sortK_length _) (Nat.le_trans (allR_len hfew) (by decide))
  have hwl : (writesL s [r]).length ≤ 4194304 := Nat.le_trans (sortK_length _) (Nat.le_trans (allT_length (s := s) hfew.few) (by decide))
  have hrf := reads_found h
  have hwf := writes_ok h
  refine loop_k (ι := Nat) [2, 3, 5] [2, 3] (fun k => k ≤ (readsL [r]).length ∧ True) (fun k => (readsL [r]).length - k) 0 (fun k => [(6, .pv (vint k))]) (fun k => []) [] ⟨Nat.zero_le _, trivial⟩ ?_ (fun k hk => ?_)
  · (repeat' (first | exact PSub.rfl | exact rfl | exact PSubs.rfl | exact trivial | exact PSub.lit_sb rfl | refine And.intro ?_ ?_))
  obtain ⟨hkn, hinv⟩ := hk
  conv => whnf
  have hf1 : k < (readsL [r]).length → (findA s.home ((readsL [r]).getD k default)).isSome = true := fun hk => hrf _ (by rw [getD_getElem _ _ hk]; exact List.getElem_mem hk)
  repeat (any_goals (first
    | (refine ⟨fun (h : (_ : Bool) = true) => ?_, fun (h : (_ : Bool) = false) => ?_⟩ <;> (try simp only [decide_eq_true_eq, decide_eq_false_iff_not, Bool.not_eq_true', Bool.not_eq_false', Int.toNat_natCast, beq_iff_eq, decide_eq_decide, beq_eq_false_iff_ne, ne_eq, reduceCtorEq] at h) <;> (conv => whnf))
    | (refine .inl ⟨_, ac_r22_Find s.home ((readsL [r]).getD k default) hs.1, ?_⟩; conv => whnf)
    | (refine .inl ⟨_, AC.sub2 (ac_typing_Writes s [r] hs hfew.few) (by repeat' (first | exact PSub.rfl | exact PSub.nil_ro _ _ | exact PSub.lit_sb rfl | exact trivial | exact all_lt_zero | refine PSub.agg ?_ | refine PSub.ro rfl ?_ | refine all_lt_succ ?_ ?_ | refine And.intro ?_ ?_)) (by repeat' (first | exact PSub.rfl | exact PSub.nil_ro _ _ | exact PSub.lit_sb rfl | exact trivial | exact all_lt_zero | refine PSub.agg ?_ | refine PSub.ro rfl ?_ | refine all_lt_succ ?_ ?_ | refine And.intro ?_ ?_)), ?_⟩; conv => whnf)
    | (refine And.intro (by (try simp only [Int.toNat_natCast]); omega) ?_; conv => whnf)
    | (refine And.intro (show (_ : Bool) = true from by kernel_rfl) ?_; conv => whnf)
    | (refine .inl ⟨wrap64 (by omega), ?_⟩; conv => whnf)))
  · rename_i h1
    have := hf1 (by omega)
    rw [this] at h
    cases h
  · refine ⟨k + 1, [], ⟨by omega, ?_⟩, by first | omega | (dsimp only; omega), ?_⟩
    rotate_left
    · (repeat' (first | exact PSub.rfl | exact rfl | exact PSubs.rfl | exact trivial | exact PSub.lit_sb rfl | refine And.intro ?_ ?_))
    trivial
  have hkr := hkn
  refine loop_k (ι := Nat) [2, 3, 9] [2, 3] (fun q => q ≤ (writesL s [r]).length ∧ True) (fun q => (writesL s [r]).length - q) 0 (fun q => [(10, .pv (vint q))]) (fun q => []) [] ⟨Nat.zero_le _, trivial⟩ ?_ (fun q hk => ?_)
  · (repeat' (first | exact PSub.rfl | exact rfl | exact PSubs.rfl | exact trivial | exact PSub.lit_sb rfl | refine And.intro ?_ ?_))
  obtain ⟨hkn, hinv⟩ := hk
  conv => whnf
  have hf2 : q < (writesL s [r]).length → (findA s.home ((writesL s [r]).getD q default)).isSome = true ∧ ((findA s.home ((writesL s [r]).getD q default)).getD noAttr).writable = true := fun hk => hwf _ (by rw [getD_getElem _ _ hk]; exact List.getElem_mem hk)
  repeat (any_goals (first
    | (refine ⟨fun (h : (_ : Bool) = true) => ?_, fun (h : (_ : Bool) = false) => ?_⟩ <;> (try simp only [decide_eq_true_eq, decide_eq_false_iff_not, Bool.not_eq_true', Bool.not_eq_false', Int.toNat_natCast, beq_iff_eq, decide_eq_decide, beq_eq_false_iff_ne, ne_eq, reduceCtorEq] at h) <;> (conv => whnf))
    | (refine .inl ⟨_, ac_r22_Find s.home ((writesL s [r]).getD q default) hs.1, ?_⟩; conv => whnf)
    | (refine .inl ⟨_, ac_law31_lives, ?_⟩; conv => whnf)
    | (refine And.intro (by (try simp only [Int.toNat_natCast]); omega) ?_; conv => whnf)
    | (refine And.intro (show (_ : Bool) = true from by kernel_rfl) ?_; conv => whnf)
    | (refine .inl ⟨wrap64 (by omega), ?_⟩; conv => whnf)))
  · have := (hf2 (by omega)).1
    rw [this] at h
    cases h
  · have := (hf2 (by omega)).2
    rw [this] at h
    cases h
  · refine ⟨q + 1, [], ⟨by omega, ?_⟩, by first | omega | (dsimp only; omega), ?_⟩
    rotate_left
    · (repeat' (first | exact PSub.rfl | exact rfl | exact PSubs.rfl | exact trivial | exact PSub.lit_sb rfl | refine And.intro ?_ ?_))
    trivial
  · exact PSub.sb rfl

end Go.Abs
