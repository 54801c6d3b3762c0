/- Contracts: the laws' bounds and examples. -/
import Derived.Test.YtbhnjopjhaebpaaGreatDoorX07
import Derived.Test.YtbhnjopjhaebpaaGreatDoorX05
import Derived.Test.YtbhnjopjhaebpaaGreatDoorX04
import Derived.Test.YtbhnjopjhaebpaaGreatDoorX03

set_option linter.unusedVariables false
set_option linter.unusedSimpArgs false
set_option linter.unusedSectionVars false

namespace Go.Abs
open Go.Proofs
set_option maxRecDepth 10000

def stepG (x : Stp) : Bool := decide (1000 < sizeE x.expr)
def ruleG (r : Rul) : Bool := decide (20 < r.on.length) || decide (20 < r.steps.length) || decide (1000 < sizeE r.cond) || anyN r.steps.length fun i => stepG (r.steps.getD i default)
def scoG (s : Sco) : Bool := decide (300 < s.home.clusters.length) || decide (60 < s.home.devices.length) || decide (300 < s.modes.length) || decide (600 < s.scenes.length)
/-- homehublaw31.great -/
def greatB (s : Sco) (l : List Rul) : Bool := scoG s || decide (60 < l.length) || anyN l.length fun i => ruleG (l.getD i default)

def goodRul (r : Rul) : Prop := sizeE r.cond ≤ 1073741824 ∧ ∀ i, i < r.steps.length → sizeE (r.steps.getD i default).expr ≤ 1073741824

set_option maxHeartbeats 1000000 in
theorem ac_law31_great (s : Sco) (l : List Rul) (hl : ∀ i, i < l.length → goodRul (l.getD i default)) : AC Tryz.prog 11 [.pv (.agg (cSco s)), .pv (roL 15 cRul l)] [] (.pv (vbool (greatB s l))) [] := by
  refine AC.of_awp (T := T) T_ok hm Tryz.call11 Tryz.func11 rfl rfl rfl ?_
  conv => whnf
  repeat (any_goals (first
    | (refine ⟨fun (h : (_ : Bool) = true) => ?_, fun (h : (_ : Bool) = false) => ?_⟩ <;> (try simp only [decide_eq_true_eq, decide_eq_false_iff_not, Bool.not_eq_true', Bool.not_eq_false', Int.toNat_natCast, beq_iff_eq, decide_eq_decide, beq_eq_false_iff_ne, ne_eq, reduceCtorEq] at h) <;> (conv => whnf))
    | (refine And.intro (by (try simp only [Int.toNat_natCast]); omega) ?_; conv => whnf)
    | (refine And.intro (show (_ : Bool) = true from by kernel_rfl) ?_; conv => whnf)
    | (refine .inl ⟨wrap64 (by omega), ?_⟩; conv => whnf)))
  all_goals first
    | contradiction
    | (exfalso; omega)
    | exact PSub.rfl
    | (refine PSub.lit_sb ?_; (first | (simp [greatB, scoG, *]; done) | (simp_all [greatB, scoG]; done) | ((try simp only [greatB, scoG]); (repeat' split) <;> (try simp only [Bool.false_eq, Bool.true_eq, Bool.and_eq_false_iff, decide_eq_false_iff_not, Bool.and_eq_true, decide_eq_true_eq, decide_eq_decide]) <;> first | rfl | omega | (simp_all; done) | (simp_all; omega))))
    | (refine PSub.sb ?_; (first | (simp [greatB, scoG, *]; done) | (simp_all [greatB, scoG]; done) | ((try simp only [greatB, scoG]); (repeat' split) <;> (try simp only [Bool.false_eq, Bool.true_eq, Bool.and_eq_false_iff, decide_eq_false_iff_not, Bool.and_eq_true, decide_eq_true_eq, decide_eq_decide]) <;> first | rfl | omega | (simp_all; done) | (simp_all; omega))))
    | (refine PSub.sb_lit ?_; (first | (simp [greatB, scoG, *]; done) | (simp_all [greatB, scoG]; done) | ((try simp only [greatB, scoG]); (repeat' split) <;> (try simp only [Bool.false_eq, Bool.true_eq, Bool.and_eq_false_iff, decide_eq_false_iff_not, Bool.and_eq_true, decide_eq_true_eq, decide_eq_decide]) <;> first | rfl | omega | (simp_all; done) | (simp_all; omega))))
    | (refine PSub.int ?_; (first | (simp [greatB, scoG, *]; done) | (simp_all [greatB, scoG]; done) | ((try simp only [greatB, scoG]); (repeat' split) <;> (try simp only [Bool.false_eq, Bool.true_eq, Bool.and_eq_false_iff, decide_eq_false_iff_not, Bool.and_eq_true, decide_eq_true_eq, decide_eq_decide]) <;> first | rfl | omega | (simp_all; done) | (simp_all; omega))))
    | skip
  rename_i h1 h2 h3 h4
  have hcut : greatB s l = anyN l.length fun i => ruleG (l.getD i default) := by
    unfold greatB scoG
    rw [decide_eq_false (by omega), decide_eq_false (by omega), decide_eq_false (by omega), decide_eq_false (by omega), decide_eq_false (by omega)]
    rfl
  rw [hcut]
  refine loop_k (ι := Nat) [1] [] (fun k => k ≤ l.length ∧ ∀ j, j < k → ruleG (l.getD j default) = false) (fun k => l.length - k) 0 (fun k => [(5, .pv (vint k))]) (fun _ => []) [] ⟨Nat.zero_le _, fun j h => absurd h (by omega)⟩ ?_ (fun k hk => ?_)
  · (repeat' (first | exact PSub.rfl | exact rfl | exact PSubs.rfl | exact trivial | exact PSub.lit_sb rfl | refine And.intro ?_ ?_))
  obtain ⟨hkn, hinv⟩ := hk
  conv => whnf
  refine ⟨fun h => ?_, fun h => ?_⟩ <;> (try simp only [decide_eq_true_eq, decide_eq_false_iff_not, Bool.not_eq_true', Bool.not_eq_false', Int.toNat_natCast, beq_iff_eq, decide_eq_decide, beq_eq_false_iff_ne, ne_eq, reduceCtorEq] at h) <;> (conv => whnf)
  · have hg := hl k (by omega)
    repeat (any_goals (first
      | (refine ⟨fun (h : (_ : Bool) = true) => ?_, fun (h : (_ : Bool) = false) => ?_⟩ <;> (try simp only [decide_eq_true_eq, decide_eq_false_iff_not, Bool.not_eq_true', Bool.not_eq_false', Int.toNat_natCast, beq_iff_eq, decide_eq_decide, beq_eq_false_iff_ne, ne_eq, reduceCtorEq] at h) <;> (conv => whnf))
      | (refine .inl ⟨_, ac_r28_Size (l.getD k default).cond hg.1, ?_⟩; conv => whnf)
      | (refine And.intro (by (try simp only [Int.toNat_natCast]); omega) ?_; conv => whnf)
      | (refine And.intro (show (_ : Bool) = true from by kernel_rfl) ?_; conv => whnf)
      | (refine .inl ⟨wrap64 (by omega), ?_⟩; conv => whnf)))
    · exact PSub.lit_sb (anyN_true (k := k) (by omega) (by unfold ruleG; rw [decide_eq_true (show 20 < (l.getD k default).on.length by omega)]; rfl)).symm
    · exact PSub.lit_sb (anyN_true (k := k) (by omega) (by unfold ruleG; rw [decide_eq_true (show 20 < (l.getD k default).steps.length by omega), Bool.or_true]; rfl)).symm
    · exact PSub.lit_sb (anyN_true (k := k) (by omega) (by unfold ruleG; rw [decide_eq_true (show 1000 < sizeE (l.getD k default).cond by omega), Bool.or_true]; rfl)).symm
    · rename_i g1 g2
      have hrg : ruleG (l.getD k default) = anyN (l.getD k default).steps.length fun i => stepG ((l.getD k default).steps.getD i default) := by
        unfold ruleG
        rw [decide_eq_false (by omega), decide_eq_false (by omega), decide_eq_false (by omega)]
        rfl
      have hinv0 := hinv
      have hkn0 := hkn
      refine loop_k (ι := Nat) [1, 5] [] (fun q => q ≤ (l.getD k default).steps.length ∧ ∀ j, j < q → stepG ((l.getD k default).steps.getD j default) = false) (fun q => (l.getD k default).steps.length - q) 0 (fun q => [(6, .pv (vint q))]) (fun _ => []) [] ⟨Nat.zero_le _, fun j h => absurd h (by omega)⟩ ?_ (fun q hk => ?_)
      · (repeat' (first | exact PSub.rfl | exact rfl | exact PSubs.rfl | exact trivial | exact PSub.lit_sb rfl | refine And.intro ?_ ?_))
      obtain ⟨hkn, hinv⟩ := hk
      conv => whnf
      repeat (any_goals (first
        | (refine ⟨fun (h : (_ : Bool) = true) => ?_, fun (h : (_ : Bool) = false) => ?_⟩ <;> (try simp only [decide_eq_true_eq, decide_eq_false_iff_not, Bool.not_eq_true', Bool.not_eq_false', Int.toNat_natCast, beq_iff_eq, decide_eq_decide, beq_eq_false_iff_ne, ne_eq, reduceCtorEq] at h) <;> (conv => whnf))
        | (refine .inl ⟨_, ac_r28_Size ((l.getD k default).steps.getD q default).expr (hg.2 q (by omega)), ?_⟩; conv => whnf)
        | (refine And.intro (by (try simp only [Int.toNat_natCast]); omega) ?_; conv => whnf)
        | (refine And.intro (show (_ : Bool) = true from by kernel_rfl) ?_; conv => whnf)
        | (refine .inl ⟨wrap64 (by omega), ?_⟩; conv => whnf)))
      · have hs : stepG ((l.getD k default).steps.getD q default) = true := decide_eq_true (show 1000 < sizeE _ by omega)
        exact PSub.lit_sb (anyN_true (k := k) (by omega) (by rw [hrg]; exact anyN_true (k := q) (by omega) hs)).symm
      · refine ⟨q + 1, [], ⟨by omega, ?_⟩, by first | omega | (dsimp only; omega), ?_⟩
        rotate_left
        · (repeat' (first | exact PSub.rfl | exact rfl | exact PSubs.rfl | exact trivial | exact PSub.lit_sb rfl | refine And.intro ?_ ?_))
        intro j hj
        by_cases e : j = q
        · subst e; exact decide_eq_false (show ¬ 1000 < sizeE _ by omega)
        · exact hinv j (by omega)
      · refine ⟨k + 1, [], ⟨by omega, ?_⟩, by first | omega | (dsimp only; omega), ?_⟩
        rotate_left
        · (repeat' (first | exact PSub.rfl | exact rfl | exact PSubs.rfl | exact trivial | exact PSub.lit_sb rfl | refine And.intro ?_ ?_))
        intro j hj
        by_cases e : j = k
        · subst e
          rw [hrg]
          exact anyN_false fun i hi => hinv i (by omega)
        · exact hinv0 j (by omega)
  · exact PSub.lit_sb (anyN_false fun j hj => hinv j (by omega)).symm

/-! the examples -/
def scopeX : Sco := ⟨⟨stdC, [⟨1, 0, 0, false, 0, (⟨#[104, 97, 108, 108]⟩ : ByteArray), [(⟨#[111, 110, 111, 102, 102]⟩ : ByteArray), (⟨#[116, 104, 101, 114, 109, 111, 115, 116, 97, 116]⟩ : ByteArray)]⟩]⟩, [(⟨#[104, 111, 109, 101]⟩ : ByteArray)], []⟩
theorem ac_law31_scope : AC Tryz.prog 33 [] [] (.pv (.agg (cSco scopeX))) [] := by
  refine AC.of_awp (T := T) T_ok hm Tryz.call33 Tryz.func33 rfl rfl rfl ?_
  conv => whnf
  refine .inl ⟨_, ac_cluster_Standard, ?_⟩
  conv => whnf
  repeat' (first | exact PSub.rfl | exact PSub.nil_ro _ _ | exact PSub.lit_sb rfl | exact trivial | exact all_lt_zero | refine PSub.agg ?_ | refine PSub.ro rfl ?_ | refine all_lt_succ ?_ ?_ | refine And.intro ?_ ?_)

theorem ac_r28_Lit (v : Val) : AC Tryz.prog 34 [.pv (.agg (cVal v))] [] (.pv (.agg (cEx (.mk 1 0 0 ⟨#[]⟩ v noKey [])))) [] := by
  refine AC.of_awp (T := T) T_ok hm Tryz.call34 Tryz.func34 rfl rfl rfl ?_
  conv => whnf
  repeat' (first | exact PSub.rfl | exact PSub.nil_ro _ _ | exact PSub.lit_sb rfl | exact trivial | exact all_lt_zero | refine PSub.agg ?_ | refine PSub.ro rfl ?_ | refine all_lt_succ ?_ ?_ | refine And.intro ?_ ?_)
theorem ac_law31_attr (a b : ByteArray) : AC Tryz.prog 35 [.pv (vstr a), .pv (vstr b)] [] (.pv (.agg (cEx (.mk 2 0 0 ⟨#[]⟩ noVal ⟨1, a, b⟩ [])))) [] := by
  refine AC.of_awp (T := T) T_ok hm Tryz.call35 Tryz.func35 rfl rfl rfl ?_
  conv => whnf
  repeat' (first | exact PSub.rfl | exact PSub.nil_ro _ _ | exact PSub.lit_sb rfl | exact trivial | exact all_lt_zero | refine PSub.agg ?_ | refine PSub.ro rfl ?_ | refine all_lt_succ ?_ ?_ | refine And.intro ?_ ?_)
theorem ac_r28_Flag (b : Bool) : AC Tryz.prog 36 [.pv (vbool b)] [] (.pv (.agg (cEx (.mk 1 0 0 ⟨#[]⟩ ⟨1, if b = true then 1 else 0, ⟨#[]⟩⟩ noKey [])))) [] := by
  refine AC.of_awp (T := T) T_ok hm Tryz.call36 Tryz.func36 rfl rfl rfl ?_
  conv => whnf
  repeat (any_goals (first
    | (refine ⟨fun (h : (_ : Bool) = true) => ?_, fun (h : (_ : Bool) = false) => ?_⟩ <;> (try simp only [decide_eq_true_eq, decide_eq_false_iff_not, Bool.not_eq_true', Bool.not_eq_false', Int.toNat_natCast, beq_iff_eq, decide_eq_decide, beq_eq_false_iff_ne, ne_eq, reduceCtorEq] at h) <;> (conv => whnf))
    | (refine .inl ⟨_, ac_r28_Lit ⟨1, 1, ⟨#[]⟩⟩, ?_⟩; conv => whnf)
    | (refine .inl ⟨_, ac_r28_Lit ⟨1, 0, ⟨#[]⟩⟩, ?_⟩; conv => whnf)
    | (refine And.intro (by (try simp only [Int.toNat_natCast]); omega) ?_; conv => whnf)
    | (refine And.intro (show (_ : Bool) = true from by kernel_rfl) ?_; conv => whnf)
    | (refine .inl ⟨wrap64 (by omega), ?_⟩; conv => whnf)))
  · subst h
    rw [if_pos rfl]
    exact PSub.rfl
  · subst h
    rw [if_neg (by decide)]
    exact PSub.rfl

theorem smallS_X : smallS scopeX := by
  refine ⟨⟨⟨sl rfl, smallK_std⟩, sl rfl, fun i => ?_⟩, sl rfl, sl rfl⟩
  cases i with
  | zero => exact ⟨sl rfl, by decide, by decide⟩
  | succ i =>
    have : scopeX.home.devices.getD (i + 1) default = default := rfl
    rw [this]; exact ⟨Nat.zero_le _, by decide, by decide⟩

def n200 : Ex := .mk 1 0 0 ⟨#[]⟩ ⟨2, 200, ⟨#[]⟩⟩ noKey []
def atX (a b : ByteArray) : Ex := .mk 2 0 0 ⟨#[]⟩ noVal ⟨1, a, b⟩ []
def exX1 : Ex := .mk 10 0 0 ⟨#[]⟩ noVal noKey [atX (⟨#[116, 104, 101, 114, 109, 111, 115, 116, 97, 116]⟩ : ByteArray) (⟨#[116, 101, 109, 112]⟩ : ByteArray), n200]
def exX2 : Ex := .mk 11 0 0 ⟨#[]⟩ noVal noKey [atX (⟨#[111, 110, 111, 102, 102]⟩ : ByteArray) (⟨#[111, 110]⟩ : ByteArray), n200]
def exX3 : Ex := atX (⟨#[108, 101, 118, 101, 108]⟩ : ByteArray) (⟨#[108, 101, 118, 101, 108]⟩ : ByteArray)
def callX : Rul := ⟨(⟨#[97]⟩ : ByteArray), 0, [⟨5, noKey, noEvt, ⟨#[]⟩, 0, 0⟩], .mk 1 0 0 ⟨#[]⟩ ⟨1, 1, ⟨#[]⟩⟩ noKey [], [⟨2, ⟨1, (⟨#[111, 110, 111, 102, 102]⟩ : ByteArray), ⟨#[]⟩⟩, (⟨#[116, 111, 103, 103, 108, 101]⟩ : ByteArray), noEx⟩]⟩
theorem exk1 : exprK scopeX exX1 = (1, 0) := by kernel_rfl
theorem exk2 : exprK scopeX exX2 = (0, 11) := by kernel_rfl
theorem exk3 : exprK scopeX exX3 = (0, 8) := by kernel_rfl
theorem exk4 : scoE scopeX = 0 := by kernel_rfl
theorem exk5 : ruleE scopeX callX = 0 := by kernel_rfl
theorem exk6 : writesL scopeX [callX] = [⟨1, (⟨#[111, 110, 111, 102, 102]⟩ : ByteArray), (⟨#[111, 110]⟩ : ByteArray)⟩] := by kernel_rfl

theorem ac_law31_lives : AC Tryz.prog 14 [] [] (.pv (vbool true)) [] := by
  refine AC.of_awp (T := T) T_ok hm Tryz.call14 Tryz.func14 rfl rfl rfl ?_
  conv => whnf
  refine .inl ⟨_, ac_law31_scope, ?_⟩
  conv => whnf
  refine .inl ⟨_, ac_r28_Lit ⟨2, 200, ⟨#[]⟩⟩, ?_⟩
  conv => whnf
  repeat (any_goals (first
    | (refine ⟨fun (h : (_ : Bool) = true) => ?_, fun (h : (_ : Bool) = false) => ?_⟩ <;> (try simp only [decide_eq_true_eq, decide_eq_false_iff_not, Bool.not_eq_true', Bool.not_eq_false', Int.toNat_natCast, beq_iff_eq, decide_eq_decide, beq_eq_false_iff_ne, ne_eq, reduceCtorEq] at h) <;> (conv => whnf))
    | (refine .inl ⟨_, ac_law31_attr (⟨#[116, 104, 101, 114, 109, 111, 115, 116, 97, 116]⟩ : ByteArray) (⟨#[116, 101, 109, 112]⟩ : ByteArray), ?_⟩; conv => whnf)
    | (refine And.intro (by (try simp only [Int.toNat_natCast]); omega) ?_; conv => whnf)
    | (refine And.intro (show (_ : Bool) = true from by kernel_rfl) ?_; conv => whnf)
    | (refine .inl ⟨wrap64 (by omega), ?_⟩; conv => whnf)))
  refine .inl ⟨_, AC.sub2 (ac_typing_Expr scopeX exX1 smallS_X) (by repeat' (first | exact PSub.rfl | exact PSub.nil_ro _ _ | exact PSub.lit_sb rfl | exact trivial | exact all_lt_zero | refine PSub.agg ?_ | refine PSub.ro rfl ?_ | refine all_lt_succ ?_ ?_ | refine And.intro ?_ ?_)) (by repeat' (first | exact PSub.rfl | exact PSub.nil_ro _ _ | exact PSub.lit_sb rfl | exact trivial | exact all_lt_zero | refine PSub.agg ?_ | refine PSub.ro rfl ?_ | refine all_lt_succ ?_ ?_ | refine And.intro ?_ ?_)), ?_⟩
  conv => whnf
  rw [exk1]
  conv => whnf
  repeat (any_goals (first
    | (refine ⟨fun (h : (_ : Bool) = true) => ?_, fun (h : (_ : Bool) = false) => ?_⟩ <;> (try simp only [decide_eq_true_eq, decide_eq_false_iff_not, Bool.not_eq_true', Bool.not_eq_false', Int.toNat_natCast, beq_iff_eq, decide_eq_decide, beq_eq_false_iff_ne, ne_eq, reduceCtorEq] at h) <;> (conv => whnf))
    | (refine .inl ⟨_, ac_law31_attr (⟨#[111, 110, 111, 102, 102]⟩ : ByteArray) (⟨#[111, 110]⟩ : ByteArray), ?_⟩; conv => whnf)
    | (refine And.intro (by (try simp only [Int.toNat_natCast]); omega) ?_; conv => whnf)
    | (refine And.intro (show (_ : Bool) = true from by kernel_rfl) ?_; conv => whnf)
    | (refine .inl ⟨wrap64 (by omega), ?_⟩; conv => whnf)))
  refine .inl ⟨_, AC.sub2 (ac_typing_Expr scopeX exX2 smallS_X) (by repeat' (first | exact PSub.rfl | exact PSub.nil_ro _ _ | exact PSub.lit_sb rfl | exact trivial | exact all_lt_zero | refine PSub.agg ?_ | refine PSub.ro rfl ?_ | refine all_lt_succ ?_ ?_ | refine And.intro ?_ ?_)) (by repeat' (first | exact PSub.rfl | exact PSub.nil_ro _ _ | exact PSub.lit_sb rfl | exact trivial | exact all_lt_zero | refine PSub.agg ?_ | refine PSub.ro rfl ?_ | refine all_lt_succ ?_ ?_ | refine And.intro ?_ ?_)), ?_⟩
  conv => whnf
  rw [exk2]
  conv => whnf
  repeat (any_goals (first
    | (refine ⟨fun (h : (_ : Bool) = true) => ?_, fun (h : (_ : Bool) = false) => ?_⟩ <;> (try simp only [decide_eq_true_eq, decide_eq_false_iff_not, Bool.not_eq_true', Bool.not_eq_false', Int.toNat_natCast, beq_iff_eq, decide_eq_decide, beq_eq_false_iff_ne, ne_eq, reduceCtorEq] at h) <;> (conv => whnf))
    | (refine .inl ⟨_, ac_law31_attr (⟨#[108, 101, 118, 101, 108]⟩ : ByteArray) (⟨#[108, 101, 118, 101, 108]⟩ : ByteArray), ?_⟩; conv => whnf)
    | (refine And.intro (by (try simp only [Int.toNat_natCast]); omega) ?_; conv => whnf)
    | (refine And.intro (show (_ : Bool) = true from by kernel_rfl) ?_; conv => whnf)
    | (refine .inl ⟨wrap64 (by omega), ?_⟩; conv => whnf)))
  refine .inl ⟨_, AC.sub2 (ac_typing_Expr scopeX exX3 smallS_X) (by repeat' (first | exact PSub.rfl | exact PSub.nil_ro _ _ | exact PSub.lit_sb rfl | exact trivial | exact all_lt_zero | refine PSub.agg ?_ | refine PSub.ro rfl ?_ | refine all_lt_succ ?_ ?_ | refine And.intro ?_ ?_)) (by repeat' (first | exact PSub.rfl | exact PSub.nil_ro _ _ | exact PSub.lit_sb rfl | exact trivial | exact all_lt_zero | refine PSub.agg ?_ | refine PSub.ro rfl ?_ | refine all_lt_succ ?_ ?_ | refine And.intro ?_ ?_)), ?_⟩
  conv => whnf
  rw [exk3]
  conv => whnf
  repeat (any_goals (first
    | (refine ⟨fun (h : (_ : Bool) = true) => ?_, fun (h : (_ : Bool) = false) => ?_⟩ <;> (try simp only [decide_eq_true_eq, decide_eq_false_iff_not, Bool.not_eq_true', Bool.not_eq_false', Int.toNat_natCast, beq_iff_eq, decide_eq_decide, beq_eq_false_iff_ne, ne_eq, reduceCtorEq] at h) <;> (conv => whnf))
    | (refine And.intro (by (try simp only [Int.toNat_natCast]); omega) ?_; conv => whnf)
    | (refine And.intro (show (_ : Bool) = true from by kernel_rfl) ?_; conv => whnf)
    | (refine .inl ⟨wrap64 (by omega), ?_⟩; conv => whnf)))
  refine .inl ⟨_, AC.sub1 (ac_r28_Flag true) (PSub.lit_sb rfl), ?_⟩
  conv => whnf
  repeat (any_goals (first
    | (refine ⟨fun (h : (_ : Bool) = true) => ?_, fun (h : (_ : Bool) = false) => ?_⟩ <;> (try simp only [decide_eq_true_eq, decide_eq_false_iff_not, Bool.not_eq_true', Bool.not_eq_false', Int.toNat_natCast, beq_iff_eq, decide_eq_decide, beq_eq_false_iff_ne, ne_eq, reduceCtorEq] at h) <;> (conv => whnf))
    | (refine And.intro (by (try simp only [Int.toNat_natCast]); omega) ?_; conv => whnf)
    | (refine And.intro (show (_ : Bool) = true from by kernel_rfl) ?_; conv => whnf)
    | (refine .inl ⟨wrap64 (by omega), ?_⟩; conv => whnf)))
  refine .inl ⟨_, AC.sub2 (ac_typing_Writes scopeX [callX] smallS_X ⟨by decide, fun r hr => by simp only [List.mem_singleton] at hr; subst hr; decide⟩) (by repeat' (first | exact PSub.rfl | exact PSub.nil_ro _ _ | exact PSub.lit_sb rfl | exact trivial | exact all_lt_zero | refine PSub.agg ?_ | refine PSub.ro rfl ?_ | refine all_lt_succ ?_ ?_ | refine And.intro ?_ ?_)) (by repeat' (first | exact PSub.rfl | exact PSub.nil_ro _ _ | exact PSub.lit_sb rfl | exact trivial | exact all_lt_zero | refine PSub.agg ?_ | refine PSub.ro rfl ?_ | refine all_lt_succ ?_ ?_ | refine And.intro ?_ ?_)), ?_⟩
  conv => whnf
  rw [exk6]
  conv => whnf
  refine .inl ⟨_, AC.sub1 (ac_typing_Check scopeX smallS_X) (by repeat' (first | exact PSub.rfl | exact PSub.nil_ro _ _ | exact PSub.lit_sb rfl | exact trivial | exact all_lt_zero | refine PSub.agg ?_ | refine PSub.ro rfl ?_ | refine all_lt_succ ?_ ?_ | refine And.intro ?_ ?_)), ?_⟩
  conv => whnf
  rw [exk4]
  conv => whnf
  repeat (any_goals (first
    | (refine ⟨fun (h : (_ : Bool) = true) => ?_, fun (h : (_ : Bool) = false) => ?_⟩ <;> (try simp only [decide_eq_true_eq, decide_eq_false_iff_not, Bool.not_eq_true', Bool.not_eq_false', Int.toNat_natCast, beq_iff_eq, decide_eq_decide, beq_eq_false_iff_ne, ne_eq, reduceCtorEq] at h) <;> (conv => whnf))
    | (refine .inl ⟨_, AC.sub2 (ac_typing_Rule scopeX callX smallS_X) (by repeat' (first | exact PSub.rfl | exact PSub.nil_ro _ _ | exact PSub.lit_sb rfl | exact trivial | exact all_lt_zero | refine PSub.agg ?_ | refine PSub.ro rfl ?_ | refine all_lt_succ ?_ ?_ | refine And.intro ?_ ?_)) (by repeat' (first | exact PSub.rfl | exact PSub.nil_ro _ _ | exact PSub.lit_sb rfl | exact trivial | exact all_lt_zero | refine PSub.agg ?_ | refine PSub.ro rfl ?_ | refine all_lt_succ ?_ ?_ | refine And.intro ?_ ?_)), ?_⟩; conv => whnf)
    | (refine And.intro (by (try simp only [Int.toNat_natCast]); omega) ?_; conv => whnf)
    | (refine And.intro (show (_ : Bool) = true from by kernel_rfl) ?_; conv => whnf)
    | (refine .inl ⟨wrap64 (by omega), ?_⟩; conv => whnf)))
  all_goals first
    | exact PSub.sb (by kernel_rfl)
    | exact absurd trivial h
    | exact absurd exk5 h
    | exact absurd rfl h
    | (exfalso; exact h (by kernel_rfl))

/-! the laws -/
theorem ac_law31_TypingChecks (s : Sco) (hs : smallS s) : AC Tryz.prog 3 [.pv (.agg (cSco s))] [] (.pv (vbool true)) [] := by
  refine AC.of_awp (T := T) T_ok hm Tryz.call3 Tryz.func3 rfl rfl rfl ?_
  conv => whnf
  repeat (any_goals (first
    | (refine ⟨fun (h : (_ : Bool) = true) => ?_, fun (h : (_ : Bool) = false) => ?_⟩ <;> (try simp only [decide_eq_true_eq, decide_eq_false_iff_not, Bool.not_eq_true', Bool.not_eq_false', Int.toNat_natCast, beq_iff_eq, decide_eq_decide, beq_eq_false_iff_ne, ne_eq, reduceCtorEq] at h) <;> (conv => whnf))
    | (refine .inl ⟨_, AC.sub2 (ac_law31_great s [] (fun i h => absurd h (by simp))) .rfl (PSub.nilL rfl), ?_⟩; conv => whnf)
    | (refine .inl ⟨_, ac_typing_Check s hs, ?_⟩; conv => whnf)
    | (refine .inl ⟨_, ac_r31_Check s hs, ?_⟩; conv => whnf)
    | (refine .inl ⟨_, ac_law31_lives, ?_⟩; conv => whnf)
    | (refine And.intro (by (try simp only [Int.toNat_natCast]); omega) ?_; conv => whnf)
    | (refine And.intro (show (_ : Bool) = true from by kernel_rfl) ?_; conv => whnf)
    | (refine .inl ⟨wrap64 (by omega), ?_⟩; conv => whnf)))
  all_goals first | exact PSub.sb rfl | exact PSub.lit_sb rfl | exact absurd trivial h | (exfalso; exact h rfl)

theorem ac_law31_TypingKinds (s : Sco) (e : Ex) (hs : smallS s) (he : sizeE e ≤ 1073741824) : AC Tryz.prog 4 [.pv (.agg (cSco s)), .pv (.agg (cEx e))] [] (.pv (vbool true)) [] := by
  refine AC.of_awp (T := T) T_ok hm Tryz.call4 Tryz.func4 rfl rfl rfl ?_
  conv => whnf
  repeat (any_goals (first
    | (refine ⟨fun (h : (_ : Bool) = true) => ?_, fun (h : (_ : Bool) = false) => ?_⟩ <;> (try simp only [decide_eq_true_eq, decide_eq_false_iff_not, Bool.not_eq_true', Bool.not_eq_false', Int.toNat_natCast, beq_iff_eq, decide_eq_decide, beq_eq_false_iff_ne, ne_eq, reduceCtorEq] at h) <;> (conv => whnf))
    | (refine .inl ⟨_, AC.sub2 (ac_law31_great s [] (fun i h => absurd h (by simp))) .rfl (PSub.nilL rfl), ?_⟩; conv => whnf)
    | (refine .inl ⟨_, ac_r28_Size e he, ?_⟩; conv => whnf)
    | (refine .inl ⟨_, ac_typing_Expr s e hs, ?_⟩; conv => whnf)
    | (refine .inl ⟨_, ac_r31_Expr s e hs, ?_⟩; conv => whnf)
    | (refine .inl ⟨_, ac_law31_lives, ?_⟩; conv => whnf)
    | (refine And.intro (by (try simp only [Int.toNat_natCast]); omega) ?_; conv => whnf)
    | (refine And.intro (show (_ : Bool) = true from by kernel_rfl) ?_; conv => whnf)
    | (refine .inl ⟨wrap64 (by omega), ?_⟩; conv => whnf)))
  all_goals first | exact PSub.sb rfl | exact PSub.lit_sb rfl | exact absurd trivial h | (exfalso; exact h rfl)

theorem ac_law31_TypingRule (s : Sco) (r : Rul) (hs : smallS s) (hr : goodRul r) : AC Tryz.prog 5 [.pv (.agg (cSco s)), .pv (.agg (cRul r))] [] (.pv (vbool true)) [] := by
  have hl : ∀ i, i < [r].length → goodRul ([r].getD i default) := fun i hi => by
    have : i = 0 := by simpa using hi
    subst this; exact hr
  refine AC.of_awp (T := T) T_ok hm Tryz.call5 Tryz.func5 rfl rfl rfl ?_
  conv => whnf
  repeat (any_goals (first
    | (refine ⟨fun (h : (_ : Bool) = true) => ?_, fun (h : (_ : Bool) = false) => ?_⟩ <;> (try simp only [decide_eq_true_eq, decide_eq_false_iff_not, Bool.not_eq_true', Bool.not_eq_false', Int.toNat_natCast, beq_iff_eq, decide_eq_decide, beq_eq_false_iff_ne, ne_eq, reduceCtorEq] at h) <;> (conv => whnf))
    | (refine .inl ⟨_, AC.sub2 (ac_law31_great s [r] hl) (by repeat' (first | exact PSub.rfl | exact PSub.nil_ro _ _ | exact PSub.lit_sb rfl | exact trivial | exact all_lt_zero | refine PSub.agg ?_ | refine PSub.ro rfl ?_ | refine all_lt_succ ?_ ?_ | refine And.intro ?_ ?_)) (by repeat' (first | exact PSub.rfl | exact PSub.nil_ro _ _ | exact PSub.lit_sb rfl | exact trivial | exact all_lt_zero | refine PSub.agg ?_ | refine PSub.ro rfl ?_ | refine all_lt_succ ?_ ?_ | refine And.intro ?_ ?_)), ?_⟩; conv => whnf)
    | (refine .inl ⟨_, ac_typing_Rule s r hs, ?_⟩; conv => whnf)
    | (refine .inl ⟨_, ac_r31_Rule s r hs, ?_⟩; conv => whnf)
    | (refine .inl ⟨_, ac_law31_lives, ?_⟩; conv => whnf)
    | (refine And.intro (by (try simp only [Int.toNat_natCast]); omega) ?_; conv => whnf)
    | (refine And.intro (show (_ : Bool) = true from by kernel_rfl) ?_; conv => whnf)
    | (refine .inl ⟨wrap64 (by omega), ?_⟩; conv => whnf)))
  all_goals first | exact PSub.sb rfl | exact PSub.lit_sb rfl | exact absurd trivial h | (exfalso; exact h rfl)

theorem ac_law31_TypingRules (s : Sco) (l : List Rul) (hs : smallS s) (hl : ∀ i, i < l.length → goodRul (l.getD i default)) : AC Tryz.prog 6 [.pv (.agg (cSco s)), .pv (roL 15 cRul l)] [] (.pv (vbool true)) [] := by
  refine AC.of_awp (T := T) T_ok hm Tryz.call6 Tryz.func6 rfl rfl rfl ?_
  conv => whnf
  repeat (any_goals (first
    | (refine ⟨fun (h : (_ : Bool) = true) => ?_, fun (h : (_ : Bool) = false) => ?_⟩ <;> (try simp only [decide_eq_true_eq, decide_eq_false_iff_not, Bool.not_eq_true', Bool.not_eq_false', Int.toNat_natCast, beq_iff_eq, decide_eq_decide, beq_eq_false_iff_ne, ne_eq, reduceCtorEq] at h) <;> (conv => whnf))
    | (refine .inl ⟨_, ac_law31_great s l hl, ?_⟩; conv => whnf)
    | (refine .inl ⟨_, ac_typing_Rules s l hs, ?_⟩; conv => whnf)
    | (refine .inl ⟨_, ac_r31_Rules s l hs, ?_⟩; conv => whnf)
    | (refine .inl ⟨_, ac_law31_lives, ?_⟩; conv => whnf)
    | (refine And.intro (by (try simp only [Int.toNat_natCast]); omega) ?_; conv => whnf)
    | (refine And.intro (show (_ : Bool) = true from by kernel_rfl) ?_; conv => whnf)
    | (refine .inl ⟨wrap64 (by omega), ?_⟩; conv => whnf)))
  all_goals first | exact PSub.sb rfl | exact PSub.lit_sb rfl | exact absurd trivial h | (exfalso; exact h rfl)

end Go.Abs

namespace Go.Abs

def isX (e : Ex) (n : Int) : Bool := decide (e.kind = 1 ∧ e.value.kind = 1 ∧ e.value.n = n)
def numX (e : Ex) : Bool := decide (e.kind = 1 ∧ e.value.kind = 2)
def litX (b : Bool) : Ex := .mk 1 0 0 ⟨#[]⟩ ⟨1, if b = true then 1 else 0, ⟨#[]⟩⟩ noKey []
def litI (n : Int) : Ex := .mk 1 0 0 ⟨#[]⟩ ⟨2, n, ⟨#[]⟩⟩ noKey []
def juncE (e : Ex) (d : Int) : Ex := if (e.kids.any fun k => isX k d) = true then litX (decide (d = 1)) else if (e.kids.all fun k => isX k (1 - d)) = true then litX (decide (d = 0)) else e

def sizeU (n : Int) : Int := if n < 0 then -n else n
def timesU (a b : Int) : Int := if b ≠ 0 ∧ (1099511627776 : Int).tdiv b < a then 1099511627777 else a * b
def signI (n : Int) (neg : Bool) : Int := if 1099511627776 < n then (if neg = true then -1099511627776 else 1099511627776) else if neg = true then -n else n
/-- num.Mul -/
def mulI (a b : Int) : Int := signI (timesU (sizeU a) (sizeU b)) (!(decide (a < 0) == decide (b < 0)))
/-- expr.binary -/
def binN (k a b : Int) : Int := if k = 11 then satI (a + b) else if k = 12 then satI (a - b) else mulI a b
def binE (e : Ex) : Ex :=
  if e.kind = 9 then (if (e.kids.getD 0 default).kind = 1 ∧ (e.kids.getD 1 default).kind = 1 then litX (decide ((e.kids.getD 0 default).value = (e.kids.getD 1 default).value)) else e)
  else if numX (e.kids.getD 0 default) = false ∨ numX (e.kids.getD 1 default) = false then e
  else if e.kind = 10 then litX (decide ((e.kids.getD 0 default).value.n < (e.kids.getD 1 default).value.n))
  else litI (binN e.kind (e.kids.getD 0 default).value.n (e.kids.getD 1 default).value.n)
/-- what Fold does at a node whose kids are folded -/
def chg2 (e : Ex) : Ex :=
  if e.kind = 6 then (if isX (e.kids.getD 0 default) 0 = true ∨ isX (e.kids.getD 0 default) 1 = true then litX (isX (e.kids.getD 0 default) 0) else e)
  else if e.kind = 7 then juncE e 0 else if e.kind = 8 then juncE e 1 else if 9 ≤ e.kind ∧ e.kind ≤ 13 then binE e
  else if e.kind = 14 then (if isX (e.kids.getD 0 default) 1 = true then e.kids.getD 1 default else if isX (e.kids.getD 0 default) 0 = true then e.kids.getD 2 default else e)
  else e

/-- e with other kids -/
def withK (e : Ex) (ks : List Ex) : Ex := .mk e.kind e.n e.m e.name e.value e.key ks
mutual
/-- expr.rebuild -/
def rebT (c : Ex → Ex) : Ex → Ex
  | .mk k n m s v q ks => c (.mk k n m s v q (rebL c ks))
def rebL (c : Ex → Ex) : List Ex → List Ex
  | [] => []
  | e :: es => rebT c e :: rebL c es
end
theorem rebT_eq (c : Ex → Ex) (e : Ex) : rebT c e = c (withK e (rebL c e.kids)) := by cases e; rw [rebT]; rfl
theorem rebL_length (c : Ex → Ex) : ∀ l : List Ex, (rebL c l).length = l.length
  | [] => by rw [rebL]
  | e :: l => by rw [rebL, List.length_cons, List.length_cons, rebL_length c l]
theorem rebL_getD (c : Ex → Ex) : ∀ (l : List Ex) (i : Nat), i < l.length → (rebL c l).getD i default = rebT c (l.getD i default)
  | e :: l, 0, _ => by rw [rebL]; rfl
  | e :: l, i + 1, h => by rw [rebL, List.getD_cons_succ, List.getD_cons_succ]; exact rebL_getD c l i (by simpa using h)
theorem rebL_take (c : Ex → Ex) (l : List Ex) (k : Nat) (h : k < l.length) : (rebL c l).take (k + 1) = (rebL c l).take k ++ [rebT c (l.getD k default)] := by
  rw [take_succ_getD (by rw [rebL_length]; exact h), rebL_getD c l k h]
mutual
theorem rebT_id : ∀ e : Ex, rebT (fun x => x) e = e
  | .mk k n m s v q ks => by rw [rebT, rebL_id ks]
theorem rebL_id : ∀ l : List Ex, rebL (fun x => x) l = l
  | [] => by rw [rebL]
  | e :: l => by rw [rebL, rebT_id e, rebL_id l]
end
abbrev foldT : Ex → Ex := rebT chg2
abbrev foldL : List Ex → List Ex := rebL chg2
theorem foldT_eq (e : Ex) : foldT e = chg2 (withK e (foldL e.kids)) := rebT_eq chg2 e
theorem foldL_length (l : List Ex) : (foldL l).length = l.length := rebL_length chg2 l
theorem foldL_getD (l : List Ex) (i : Nat) (h : i < l.length) : (foldL l).getD i default = foldT (l.getD i default) := rebL_getD chg2 l i h

mutual
/-- all nodes are right -/
def okN : Ex → Prop
  | .mk k n m s v q ks => nodeE (.mk k n m s v q ks) = 0 ∧ okNL ks
def okNL : List Ex → Prop
  | [] => True
  | e :: es => okN e ∧ okNL es
end
theorem okN_iff (e : Ex) : okN e ↔ nodeE e = 0 ∧ okNL e.kids := by cases e; rw [okN]; rfl
theorem okNL_iff : ∀ (l : List Ex), okNL l ↔ ∀ e ∈ l, okN e
  | [] => by rw [okNL]; simp
  | e :: l => by rw [okNL, okNL_iff l]; simp
mutual
def depE : Ex → Int
  | .mk _ _ _ _ _ _ ks => 1 + depL ks
def depL : List Ex → Int
  | [] => 0
  | e :: es => if depE e < depL es then depL es else depE e
end
theorem depE_eq (e : Ex) : depE e = 1 + depL e.kids := by cases e; rw [depE]; rfl
theorem depL_nn : ∀ l : List Ex, 0 ≤ depL l
  | [] => by rw [depL]; exact Int.le_refl 0
  | e :: l => by
    have := depL_nn l
    have h2 : 1 ≤ depE e ∨ depE e < depL l ∨ True := .inr (.inr trivial)
    rw [depL]
    split
    · exact this
    · omega
theorem depE_pos (e : Ex) : 1 ≤ depE e := by rw [depE_eq]; have := depL_nn e.kids; omega
theorem depL_mem : ∀ {l : List Ex} {e : Ex}, e ∈ l → depE e ≤ depL l
  | x :: l, e, h => by
    rw [depL]
    rcases List.mem_cons.1 h with rfl | h
    · split <;> omega
    · have := depL_mem h
      split <;> omega
theorem depL_le {n : Int} : ∀ {l : List Ex}, 0 ≤ n → (∀ e ∈ l, depE e ≤ n) → depL l ≤ n
  | [], h0, _ => by rw [depL]; exact h0
  | e :: l, h0, h => by
    have h1 := h e (by simp)
    have h2 := depL_le (l := l) h0 fun x hx => h x (by simp [hx])
    rw [depL]
    split <;> omega

mutual
theorem chk_iff : ∀ (e : Ex) (l c : Int), c ≤ 200 → l ≤ 25 → ((chkE e l c).2 = 0 ↔ okN e ∧ l - 1 + depE e ≤ 24 ∧ c + sizeE e ≤ 200) ∧ ((chkE e l c).2 = 0 → (chkE e l c).1 = c + sizeE e)
  | .mk a n m s v q ks, l, c, hc, hl => by
    have hd := depL_nn ks
    rw [chkE, okN, depE, sizeE]
    by_cases h1 : 24 < l
    · rw [if_pos h1]
      exact ⟨⟨fun h => (by cases h), fun h => (by have := h.2.1; omega)⟩, fun h => (by cases h)⟩
    rw [if_neg h1]
    by_cases h2 : 200 < c + 1
    · rw [if_pos h2]
      exact ⟨⟨fun h => (by cases h), fun h => (by have := h.2.2; omega)⟩, fun h => (by cases h)⟩
    rw [if_neg h2]
    by_cases h3 : nodeE (.mk a n m s v q ks) ≠ 0
    · rw [if_pos h3]
      exact ⟨⟨fun h => absurd h h3, fun h => absurd h.1.1 h3⟩, fun h => absurd h h3⟩
    rw [if_neg h3]
    obtain ⟨i1, i2⟩ := chk_iffL ks (l + 1) (c + 1) (by omega) (by omega)
    refine ⟨⟨fun h => ?_, fun h => ?_⟩, fun h => ?_⟩
    · obtain ⟨j1, j2, j3⟩ := i1.1 h
      exact ⟨⟨by simpa using h3, j1⟩, by omega, by omega⟩
    · exact i1.2 ⟨h.1.2, by have := h.2.1; omega, by have := h.2.2; omega⟩
    · rw [i2 h]; omega
theorem chk_iffL : ∀ (ks : List Ex) (l c : Int), c ≤ 200 → l ≤ 25 → ((chkL ks l c).2 = 0 ↔ okNL ks ∧ l - 1 + depL ks ≤ 24 ∧ c + sizeL ks ≤ 200) ∧ ((chkL ks l c).2 = 0 → (chkL ks l c).1 = c + sizeL ks)
  | [], l, c, hc, hl => by
    rw [chkL, okNL, depL, sizeL]
    exact ⟨⟨fun _ => ⟨trivial, by omega, by omega⟩, fun _ => rfl⟩, fun _ => by simp⟩
  | e :: es, l, c, hc, hl => by
    obtain ⟨i1, i2⟩ := chk_iff e l c hc hl
    rw [chkL, okNL, depL, sizeL]
    by_cases h : (chkE e l c).2 ≠ 0
    · rw [if_pos h]
      refine ⟨⟨fun h2 => absurd h2 h, fun h2 => absurd (i1.2 ⟨h2.1.1, ?_, by have := h2.2.2; omega⟩) h⟩, fun h2 => absurd h2 h⟩
      have := h2.2.1
      split at this <;> omega
    · have h0 : (chkE e l c).2 = 0 := by simpa using h
      rw [if_neg h]
      obtain ⟨g1, g2, g3⟩ := i1.1 h0
      have hcnt := i2 h0
      obtain ⟨k1, k2⟩ := chk_iffL es l (chkE e l c).1 (by omega) hl
      refine ⟨⟨fun h2 => ?_, fun h2 => ?_⟩, fun h2 => ?_⟩
      · obtain ⟨j1, j2, j3⟩ := k1.1 h2
        refine ⟨⟨g1, j1⟩, ?_, by omega⟩
        split <;> omega
      · refine k1.2 ⟨h2.1.2, ?_, by have := h2.2.2; omega⟩
        have := h2.2.1
        split at this <;> omega
      · rw [k2 h2, hcnt]; omega
end
theorem exE_iff (e : Ex) : exE e = 0 ↔ okN e ∧ depE e ≤ 24 ∧ (sizeE e : Int) ≤ 200 := by
  have := (chk_iff e 1 0 (by omega) (by omega)).1
  unfold exE
  rw [this]
  constructor
  · rintro ⟨a, b, c⟩; exact ⟨a, by omega, by omega⟩
  · rintro ⟨a, b, c⟩; exact ⟨a, by omega, by omega⟩

theorem kindL_get {s : Sco} : ∀ {ks : List Ex} {l : List Int}, kindL s ks = .inr l → l.length = ks.length ∧ ∀ i, i < ks.length → kindE s (ks.getD i default) = (l.getD i default, 0)
  | [], l, h => by rw [kindL] at h; cases h; exact ⟨rfl, fun i hi => absurd hi (by simp)⟩
  | e :: es, l, h => by
    rw [kindL] at h
    split at h
    · cases h
    · rename_i h0
      split at h
      · cases h
      · rename_i r hr
        cases h
        obtain ⟨h1, h2⟩ := kindL_get hr
        refine ⟨by simp [h1], fun i hi => ?_⟩
        cases i with
        | zero => exact Prod.ext rfl (by simpa using h0)
        | succ i => simpa using h2 i (by simpa using hi)
theorem kindL_of {s : Sco} : ∀ {ks : List Ex} {l : List Int}, l.length = ks.length → (∀ i, i < ks.length → kindE s (ks.getD i default) = (l.getD i default, 0)) → kindL s ks = .inr l
  | [], [], _, _ => by rw [kindL]
  | e :: es, a :: l, h, hk => by
    have h0 : kindE s e = (a, 0) := hk 0 (by simp)
    have h1 := kindL_of (ks := es) (l := l) (by simpa using h) fun i hi => by simpa using hk (i + 1) (by simpa using hi)
    rw [kindL, h0, if_neg (by simp), h1]

theorem litX_ok (b : Bool) : nodeE (litX b) = 0 := by cases b <;> rfl
theorem litX_okN (b : Bool) : okN (litX b) := (okN_iff _).2 ⟨litX_ok b, by rw [show (litX b).kids = [] from rfl, okNL]; trivial⟩
theorem litX_dep (b : Bool) : depE (litX b) = 1 := by rw [depE_eq, show (litX b).kids = [] from rfl, depL]; rfl
theorem litX_size (b : Bool) : sizeE (litX b) = 1 := by rw [sizeE_eq, show (litX b).kids = [] from rfl, sizeL]
theorem litX_kind (s : Sco) (b : Bool) : kindE s (litX b) = (1, 0) := by rw [kindE_leaf rfl]; rfl
theorem litI_okN {n : Int} (h : inRange n = true) : okN (litI n) := by
  refine (okN_iff _).2 ⟨?_, by rw [show (litI n).kids = [] from rfl, okNL]; trivial⟩
  have hv : valE (litI n).value = 0 := by
    simp only [litI, Ex.value, valE, h]
    rfl
  simp only [nodeE, hv]
  rfl
theorem litI_dep (n : Int) : depE (litI n) = 1 := by rw [depE_eq, show (litI n).kids = [] from rfl, depL]; rfl
theorem litI_size (n : Int) : sizeE (litI n) = 1 := by rw [sizeE_eq, show (litI n).kids = [] from rfl, sizeL]
theorem litI_kind (s : Sco) (n : Int) : kindE s (litI n) = (2, 0) := by rw [kindE_leaf rfl]; rfl

theorem satI_in (n : Int) : inRange (satI n) = true := by
  unfold satI inRange
  simp only [Bool.and_eq_true, decide_eq_true_eq]
  omega
theorem mulI_in (a b : Int) : inRange (mulI a b) = true := by
  have hn : 0 ≤ timesU (sizeU a) (sizeU b) := by
    have h1 : 0 ≤ sizeU a := by unfold sizeU; split <;> omega
    have h2 : 0 ≤ sizeU b := by unfold sizeU; split <;> omega
    unfold timesU
    split
    · omega
    · exact Int.mul_nonneg h1 h2
  unfold mulI signI inRange
  (repeat' split) <;> simp <;> omega
theorem binN_in (k a b : Int) : inRange (binN k a b) = true := by
  unfold binN
  split
  · exact satI_in _
  · split
    · exact satI_in _
    · exact mulI_in a b

/-- what folding keeps at a node whose kids are as they should be -/
structure Keeps (s : Sco) (e x : Ex) : Prop where
  ok : okN x
  dep : depE x ≤ depE e
  size : sizeE x ≤ sizeE e
  kind : (kindE s e).2 = 0 → kindE s x = kindE s e

theorem Keeps.refl {s : Sco} {e : Ex} (h : okN e) : Keeps s e e := ⟨h, Int.le_refl _, Nat.le_refl _, fun _ => rfl⟩
theorem Keeps.lit {s : Sco} {e : Ex} {b : Bool} (h : (kindE s e).2 = 0 → kindE s e = (1, 0)) : Keeps s e (litX b) :=
  ⟨litX_okN b, by rw [litX_dep]; exact depE_pos e, by rw [litX_size, sizeE_eq]; omega, fun hk => by rw [litX_kind, h hk]⟩
theorem Keeps.kid {s : Sco} {e : Ex} {i : Nat} (h : okN e) (hi : i < e.kids.length) (hk : (kindE s e).2 = 0 → kindE s (e.kids.getD i default) = kindE s e) : Keeps s e (e.kids.getD i default) := by
  have hm := Ex.kid_at hi
  refine ⟨(okNL_iff _).1 ((okN_iff e).1 h).2 _ hm, ?_, ?_, hk⟩
  · have := depL_mem hm; rw [depE_eq e]; omega
  · have := sizeL_mem hm; rw [sizeE_eq e]; omega

/-- the kind of an operation whose kids have kinds -/
theorem opK_cases {s : Sco} {e : Ex} (hz : e.kids.length ≠ 0) (h : (kindE s e).2 = 0) : ∃ l, kindL s e.kids = .inr l ∧ kindE s e = opK e.kind l ∧ (opK e.kind l).2 = 0 := by
  rw [kindE_op hz] at h ⊢
  cases hl : kindL s e.kids with
  | inl x =>
    rw [hl] at h
    exfalso
    have : ∀ {ks : List Ex} {x : Int}, kindL s ks = .inl x → x ≠ 0 := by
      intro ks
      induction ks with
      | nil => intro x h; rw [kindL] at h; cases h
      | cons e es ih =>
        intro x h
        rw [kindL] at h
        split at h
        · rename_i h0; cases h; exact h0
        · split at h
          · rename_i hr; cases h; exact ih hr
          · cases h
    exact this hl h
  | inr l => rw [hl] at h; exact ⟨l, rfl, rfl, h⟩
theorem opK_bool {k : Int} {l : List Int} (hk : k = 6 ∨ k = 7 ∨ k = 8 ∨ k = 9 ∨ k = 10) (h : (opK k l).2 = 0) : opK k l = (1, 0) := by
  unfold opK at h ⊢
  (repeat' split at h) <;> simp_all <;> omega
theorem opK_int {k : Int} {l : List Int} (hk : 11 ≤ k ∧ k ≤ 13) (h : (opK k l).2 = 0) : opK k l = (2, 0) := by
  unfold opK at h ⊢
  rw [if_neg (by omega), if_neg (by omega), if_neg (by omega), if_neg (by omega)] at h ⊢
  split at h
  · rename_i h1; rw [if_pos h1]
  · cases h
theorem opK_if {l : List Int} (h : (opK 14 l).2 = 0) : opK 14 l = (l.getD 1 default, 0) ∧ l.getD 1 default = l.getD 2 default := by
  unfold opK at h ⊢
  rw [if_neg (by omega), if_neg (by omega), if_neg (by omega), if_pos rfl] at h ⊢
  split at h
  · rename_i h1; rw [if_pos h1]; exact ⟨rfl, h1.2⟩
  · cases h

/-- a right literal's number -/
theorem okN_num {e : Ex} (h : okN e) (hn : numX e = true) : -1099511627776 ≤ e.value.n ∧ e.value.n ≤ 1099511627776 := by
  have h0 := ((okN_iff e).1 h).1
  simp only [numX, decide_eq_true_eq] at hn
  unfold nodeE at h0
  rw [if_neg (by omega)] at h0
  split at h0
  · cases h0
  split at h0
  · cases h0
  rw [if_neg (by omega), if_neg (by omega), if_pos hn.1] at h0
  split at h0
  · rename_i h1; exact absurd h0 h1
  rename_i h1
  have h1 : valE e.value = 0 := by simpa using h1
  unfold valE at h1
  split at h1
  · cases h1
  split at h1
  · cases h1
  · rename_i h2
    have h3 : ¬ inRange e.value.n = false := fun x => h2 (.inr (.inr (.inl ⟨hn.2, x⟩)))
    simp only [inRange, Bool.not_eq_false, Bool.and_eq_true, decide_eq_true_eq] at h3
    exact h3

theorem nodeE_kidsB {e : Ex} (h : nodeE e = 0) : kidsB e.kind e.kids.length = true := (nodeE_ok h).2

theorem chg2_keeps {s : Sco} {e : Ex} (h : okN e) : Keeps s e (chg2 e) := by
  have h0 := ((okN_iff e).1 h).1
  have hb := nodeE_kidsB h0
  have bool : (e.kind = 6 ∨ e.kind = 7 ∨ e.kind = 8 ∨ e.kind = 9 ∨ e.kind = 10) → ∀ b, Keeps s e (litX b) := fun hk b => Keeps.lit fun h2 => by
    have hz : e.kids.length ≠ 0 := by
      intro hz
      unfold kidsB at hb
      (repeat' split at hb) <;> simp only [decide_eq_true_eq, Bool.and_eq_true] at hb <;> omega
    obtain ⟨l, _, h4, h5⟩ := opK_cases hz h2
    rw [h4]; exact opK_bool hk h5
  unfold chg2
  split
  · rename_i hk
    split
    · exact bool (by omega) _
    · exact Keeps.refl h
  split
  · rename_i hk
    unfold juncE
    split
    · exact bool (by omega) _
    · split
      · exact bool (by omega) _
      · exact Keeps.refl h
  split
  · rename_i hk
    unfold juncE
    split
    · exact bool (by omega) _
    · split
      · exact bool (by omega) _
      · exact Keeps.refl h
  split
  · rename_i hk
    unfold binE
    split
    · split
      · exact bool (by omega) _
      · exact Keeps.refl h
    split
    · exact Keeps.refl h
    split
    · exact bool (by omega) _
    · refine ⟨litI_okN (binN_in _ _ _), by rw [litI_dep]; exact depE_pos e, by rw [litI_size, sizeE_eq]; omega, fun h2 => ?_⟩
      have hz : e.kids.length ≠ 0 := by
        intro hz
        unfold kidsB at hb
        (repeat' split at hb) <;> simp only [decide_eq_true_eq, Bool.and_eq_true] at hb <;> omega
      obtain ⟨l, _, h4, h5⟩ := opK_cases hz h2
      rw [h4, litI_kind]
      exact (opK_int (by omega) h5).symm
  split
  · rename_i hk
    have hz : e.kids.length = 3 := by
      unfold kidsB at hb
      (repeat' split at hb) <;> simp only [decide_eq_true_eq, Bool.and_eq_true] at hb <;> omega
    split
    · refine Keeps.kid h (by omega) fun h2 => ?_
      obtain ⟨l, h3, h4, h5⟩ := opK_cases (by omega) h2
      rw [hk] at h4 h5
      rw [h4, (opK_if h5).1, (kindL_get h3).2 1 (by omega)]
    split
    · refine Keeps.kid h (by omega) fun h2 => ?_
      obtain ⟨l, h3, h4, h5⟩ := opK_cases (by omega) h2
      rw [hk] at h4 h5
      rw [h4, (opK_if h5).1, (opK_if h5).2, (kindL_get h3).2 2 (by omega)]
    · exact Keeps.refl h
  · exact Keeps.refl h

theorem withK_node {e : Ex} {ks : List Ex} (h : ks.length = e.kids.length) : nodeE (withK e ks) = nodeE e := by
  obtain ⟨a, n, m, s, v, q, l⟩ := e
  have h : ks.length = l.length := h
  simp only [withK, Ex.kind, Ex.n, Ex.m, Ex.name, Ex.value, Ex.key, nodeE, Ex.kids, h]
  rfl

theorem fold_keeps (s : Sco) (e : Ex) (h : okN e) : Keeps s e (foldT e) := by
  have hk := (okNL_iff _).1 ((okN_iff e).1 h).2
  have ih : ∀ i, i < e.kids.length → Keeps s (e.kids.getD i default) (foldT (e.kids.getD i default)) := fun i hi =>
    have := Ex.kid_lt (Ex.kid_at hi)
    fold_keeps s (e.kids.getD i default) (hk _ (Ex.kid_at hi))
  have hlen := foldL_length e.kids
  have hmem : ∀ x ∈ foldL e.kids, ∃ i, i < e.kids.length ∧ x = foldT (e.kids.getD i default) := fun x hx => by
    obtain ⟨i, hi, rfl⟩ := List.getElem_of_mem hx
    refine ⟨i, by omega, ?_⟩
    rw [← foldL_getD e.kids i (by omega)]
    simp [List.getD, hi]
  have hw : okN (withK e (foldL e.kids)) := by
    rw [okN_iff, withK_node hlen]
    refine ⟨((okN_iff e).1 h).1, (okNL_iff _).2 fun x hx => ?_⟩
    obtain ⟨i, hi, rfl⟩ := hmem x hx
    exact (ih i hi).ok
  have key : Keeps s e (withK e (foldL e.kids)) := by
    refine ⟨hw, ?_, ?_, fun h2 => ?_⟩
    · rw [depE_eq, depE_eq e]
      have : depL (foldL e.kids) ≤ depL e.kids := depL_le (depL_nn _) fun x hx => by
        obtain ⟨i, hi, rfl⟩ := hmem x hx
        exact Int.le_trans (ih i hi).dep (depL_mem (Ex.kid_at hi))
      show 1 + depL (foldL e.kids) ≤ _
      omega
    · rw [sizeE_eq, sizeE_eq e]
      have : ∀ (l : List Ex), (∀ i, i < l.length → sizeE (foldT (l.getD i default)) ≤ sizeE (l.getD i default)) → sizeL (foldL l) ≤ sizeL l := by
        intro l
        induction l with
        | nil => intro _; rw [show foldL [] = [] from by show rebL chg2 [] = _; rw [rebL]]; exact Nat.le_refl _
        | cons x l ih2 =>
          intro hh
          rw [show foldL (x :: l) = foldT x :: foldL l from by show rebL chg2 (x :: l) = _; rw [rebL], sizeL, sizeL]
          have h1 : sizeE (foldT x) ≤ sizeE x := hh 0 (by simp)
          have h2 := ih2 fun i hi => by simpa using hh (i + 1) (by simpa using hi)
          omega
      have := this e.kids fun i hi => (ih i hi).size
      show 1 + sizeL (foldL e.kids) ≤ _
      omega
    · by_cases hz : e.kids.length = 0
      · rw [kindE_leaf hz, kindE_leaf (e := withK e (foldL e.kids)) (by show (foldL e.kids).length = 0; omega)]; rfl
      · obtain ⟨l, h3, h4, _⟩ := opK_cases hz h2
        obtain ⟨g1, g2⟩ := kindL_get h3
        have h5 : kindL s (foldL e.kids) = .inr l := kindL_of (by omega) fun i hi => by
          rw [foldL_getD e.kids i (by omega)]
          have h6 := g2 i (by omega)
          rw [(ih i (by omega)).kind (by rw [h6])]
          exact h6
        rw [h4, kindE_op (e := withK e (foldL e.kids)) (by show (foldL e.kids).length ≠ 0; omega)]
        show (match kindL s (foldL e.kids) with | .inl x => (0, x) | .inr l => opK e.kind l) = _
        rw [h5]
  have k2 := chg2_keeps (s := s) hw
  rw [foldT_eq]
  exact ⟨k2.ok, Int.le_trans k2.dep key.dep, Nat.le_trans k2.size key.size, fun h2 => by
    rw [k2.kind (by rw [key.kind h2]; exact h2), key.kind h2]⟩
termination_by SizeOf.sizeOf e

theorem fold_hw (e : Ex) (h : okN e) : okN (withK e (rebL chg2 e.kids)) := by
  have hk := (okNL_iff _).1 ((okN_iff e).1 h).2
  rw [okN_iff, withK_node (rebL_length chg2 e.kids)]
  refine ⟨((okN_iff e).1 h).1, (okNL_iff _).2 fun x hx => ?_⟩
  obtain ⟨i, hi, rfl⟩ := List.getElem_of_mem hx
  have hi' : i < e.kids.length := by rw [← rebL_length chg2 e.kids]; exact hi
  have h1 : (rebL chg2 e.kids)[i] = foldT (e.kids.getD i default) := by
    have hi2 : i < (rebL chg2 e.kids).length := hi
    rw [← foldL_getD e.kids i hi']
    show (rebL chg2 e.kids)[i] = (rebL chg2 e.kids).getD i default
    simp [List.getD, hi2]
  rw [show (withK e (rebL chg2 e.kids)).kids[i] = (rebL chg2 e.kids)[i] from rfl, h1]
  exact (fold_keeps ⟨⟨[], []⟩, [], []⟩ _ (hk _ (Ex.kid_at hi'))).ok

/-- expr.Fold -/
def foldE (e : Ex) : Ex := if exE e ≠ 0 then e else foldT e
theorem foldE_kind (s : Sco) (e : Ex) (h : (exprK s e).2 = 0) : exprK s (foldE e) = exprK s e := by
  have h0 : exE e = 0 := by
    unfold exprK at h
    split at h
    · rename_i h1; exact absurd h h1
    · rename_i h1; simpa using h1
  obtain ⟨h1, h2, h3⟩ := (exE_iff e).1 h0
  have hk := fold_keeps s e h1
  have h4 : exE (foldT e) = 0 := (exE_iff _).2 ⟨hk.ok, Int.le_trans hk.dep h2, by have := hk.size; omega⟩
  unfold foldE
  rw [if_neg (by simpa using h0)]
  unfold exprK at h ⊢
  rw [if_neg (by simpa using h4), if_neg (by simpa using h0)]
  rw [if_neg (by simpa using h0)] at h
  exact hk.kind h

end Go.Abs

namespace Go.Abs
open Go.RowKit
variable [Globals]

def plain : List AV → Bool
  | [] => true
  | .pv _ :: l => plain l
  | .fn _ [] :: l => plain l
  | _ :: _ => false
theorem plain_spec : ∀ {l : List AV}, plain l = true → ∀ (i : Nat) (x : AV), l[i]? = some x → refs x = []
  | .pv _ :: l, h, 0, x, e => by simp at e; subst e; rfl
  | .fn _ [] :: l, h, 0, x, e => by simp at e; subst e; rfl
  | .pv _ :: l, h, i + 1, x, e => plain_spec (l := l) (by simpa [plain] using h) i x (by simpa using e)
  | .fn _ [] :: l, h, i + 1, x, e => plain_spec (l := l) (by simpa [plain] using h) i x (by simpa using e)

/-- A function that is handed pure data and plain functions and hands back pure data. -/
theorem AC.of_awp_plain {P : Program} {T : Tab} {f : FuncId} {fn : Func} {c : Code} {args : List AV} {res : PV} (hT : T.ok P) (hm : P.follows .mixedOrders = true) (hcall : ∀ (vals : Array Value) (w : World), (callFunc f vals).run P w = .ok (.enter f vals) w)
    (hf : P.funcs[f]? = some fn) (hb : fn.body = some c) (hn : Nat.ble args.length fn.ntmps = true) (hp : plain args = true) (h : awp P T fn.ntmps c ⟨argTm 0 args, []⟩ (pureQ T fn res)) : AC P f args [] (.pv res) [] := by
  refine ⟨hcall, fun St M0 σ w vals hi hσ _ hl hA => ?_⟩
  have hσ' : σ = fun _ => none := funext fun l => hσ l rfl
  subst hσ'
  have hown : ∀ b, ¬ owned (fun _ => none) b := fun b ⟨l, loc, h, _⟩ => by cases h
  have hle := Nat.le_of_ble_eq_true hn
  have hE : FEnv.ok ⟨fn.ntmps, St, M0, fun _ => False, w, fun _ => none⟩ := ⟨fun b hb => ⟨(hi.m0 b hb).1, id⟩, fun b hb => ⟨(hi.st b hb).1, id⟩, hi.gl.mono (Same.refl _ w) (fun b _ hb => .inl (hb.elim id False.elim)), fun _ _ e => by cases e⟩
  have hget : ∀ t x, getT (argTm 0 args) t = x → x = .junk ∨ args[t]? = some x := by
    intro t x e
    rw [argTm_get, if_neg (by omega)] at e
    cases ha : args[t - 0]? with
    | none => rw [ha] at e; exact .inl e.symm
    | some y => rw [ha] at e; simp at e ha; subst e; exact .inr rfl
  have hR : Rel P ⟨fn.ntmps, St, M0, fun _ => False, w, fun _ => none⟩ ⟨argTm 0 args, []⟩ (fun _ => none) { tmps := vals ++ Array.replicate (fn.ntmps - vals.size) undef, defers := [] } w := by
    refine ⟨by simp; omega, rfl, fun t => ?_, fun l o e => by simp [getO] at e, fun _ _ => rfl, fun t l hl' => ?_, fun i o e => by simp [getO] at e, fun l l' loc loc' b e => (by cases e), fun b hb => absurd hb (hown b), FExt.refl _ w, fun _ _ e => by cases e⟩
    · rcases hget t _ rfl with e | e
      · rw [e]; exact .junk _
      · have := hA t _ e
        have hlt : t < args.length := (List.getElem?_eq_some_iff.1 e).1
        rw [getD_append_left (by omega)]
        exact this
    · rcases hget t _ rfl with e | e
      · rw [e] at hl'; simp [refs] at hl'
      · rw [plain_spec hp t _ e] at hl'; simp at hl'
  refine calls_of_wp hf hb (wp_mono (awp_sound hE hT hm c _ _ _ _ w hR h) (fun e a' w' he => ?_))
  have fin : (∃ s σ, resQ T fn.results.toList res s ∧ Rel P ⟨fn.ntmps, St, M0, fun _ => False, w, fun _ => none⟩ s σ a' w') → a'.defers = [] ∧ ∃ v, (results fn a'.tmps).run P w' = .ok v w' ∧ ∃ v_1 σ', Ending.returned v = .returned v_1 ∧ Post P St M0 (fun _ => none) w [] (.pv res) σ' v_1 w' := by
    rintro ⟨s, σ, hq, hR'⟩
    obtain ⟨v, hr, hpv⟩ := results_run hE hT hR' hq
    refine ⟨hR'.df, v, hr, v, fun _ => none, rfl, ?_⟩
    refine ⟨.pv _ _ (hpv.mono (Same.refl _ w') (fun b _ hb => ?_)), fun l o e => by simp [getO] at e, fun _ _ => rfl, fun l loc loc' e => (by cases e), fun l l' loc loc' b e => (by cases e), fun b hb => absurd hb (hown b), hR'.ext.mono (fun _ _ h => h.elim)⟩
    rcases hb with hb | hb
    · exact hb
    · exact absurd hb (hown b)
  cases e with
  | normal => exact fin he
  | ret => exact fin he
  | exit i => obtain ⟨s, σ, hq, _⟩ := he; exact hq.elim
  | goto l => exact he.elim
  | panic c => exact he.elim
  | outgrown => exact he.elim

end Go.Abs

namespace Go.Abs
open Go.Proofs
set_option maxRecDepth 10000

theorem ac_expr_is (e : Ex) (n : Int) : AC Tryz.prog 52 [.pv (.agg (cEx e)), .pv (vint n)] [] (.pv (vbool (isX e n))) [] := by
  refine AC.of_awp (T := T) T_ok hm Tryz.call52 Tryz.func52 rfl rfl rfl ?_
  conv => whnf
  repeat (any_goals (first
    | (refine ⟨fun (h : (_ : Bool) = true) => ?_, fun (h : (_ : Bool) = false) => ?_⟩ <;> (try simp only [decide_eq_true_eq, decide_eq_false_iff_not, Bool.not_eq_true', Bool.not_eq_false', Int.toNat_natCast, beq_iff_eq, decide_eq_decide, beq_eq_false_iff_ne, ne_eq, reduceCtorEq] at h) <;> (conv => whnf))
    | (refine And.intro (by (try simp only [Int.toNat_natCast]); omega) ?_; conv => whnf)
    | (refine And.intro (show (_ : Bool) = true from by kernel_rfl) ?_; conv => whnf)
    | (refine .inl ⟨wrap64 (by omega), ?_⟩; conv => whnf)))
  all_goals first
    | contradiction
    | (exfalso; omega)
    | exact PSub.rfl
    | (refine PSub.lit_sb ?_; (first | (simp [isX, *]; done) | (simp_all [isX]; done) | ((try simp only [isX]); (repeat' split) <;> (try simp only [Bool.false_eq, Bool.true_eq, Bool.and_eq_false_iff, decide_eq_false_iff_not, Bool.and_eq_true, decide_eq_true_eq, decide_eq_decide]) <;> first | rfl | omega | (simp_all; done) | (simp_all; omega))))
    | (refine PSub.sb ?_; (first | (simp [isX, *]; done) | (simp_all [isX]; done) | ((try simp only [isX]); (repeat' split) <;> (try simp only [Bool.false_eq, Bool.true_eq, Bool.and_eq_false_iff, decide_eq_false_iff_not, Bool.and_eq_true, decide_eq_true_eq, decide_eq_decide]) <;> first | rfl | omega | (simp_all; done) | (simp_all; omega))))
    | (refine PSub.sb_lit ?_; (first | (simp [isX, *]; done) | (simp_all [isX]; done) | ((try simp only [isX]); (repeat' split) <;> (try simp only [Bool.false_eq, Bool.true_eq, Bool.and_eq_false_iff, decide_eq_false_iff_not, Bool.and_eq_true, decide_eq_true_eq, decide_eq_decide]) <;> first | rfl | omega | (simp_all; done) | (simp_all; omega))))
    | (refine PSub.int ?_; (first | (simp [isX, *]; done) | (simp_all [isX]; done) | ((try simp only [isX]); (repeat' split) <;> (try simp only [Bool.false_eq, Bool.true_eq, Bool.and_eq_false_iff, decide_eq_false_iff_not, Bool.and_eq_true, decide_eq_true_eq, decide_eq_decide]) <;> first | rfl | omega | (simp_all; done) | (simp_all; omega))))
    | skip
theorem ac_expr_number (e : Ex) : AC Tryz.prog 93 [.pv (.agg (cEx e))] [] (.pv (vbool (numX e))) [] := by
  refine AC.of_awp (T := T) T_ok hm Tryz.call93 Tryz.func93 rfl rfl rfl ?_
  conv => whnf
  repeat (any_goals (first
    | (refine ⟨fun (h : (_ : Bool) = true) => ?_, fun (h : (_ : Bool) = false) => ?_⟩ <;> (try simp only [decide_eq_true_eq, decide_eq_false_iff_not, Bool.not_eq_true', Bool.not_eq_false', Int.toNat_natCast, beq_iff_eq, decide_eq_decide, beq_eq_false_iff_ne, ne_eq, reduceCtorEq] at h) <;> (conv => whnf))
    | (refine And.intro (by (try simp only [Int.toNat_natCast]); omega) ?_; conv => whnf)
    | (refine And.intro (show (_ : Bool) = true from by kernel_rfl) ?_; conv => whnf)
    | (refine .inl ⟨wrap64 (by omega), ?_⟩; conv => whnf)))
  all_goals first
    | contradiction
    | (exfalso; omega)
    | exact PSub.rfl
    | (refine PSub.lit_sb ?_; (first | (simp [numX, *]; done) | (simp_all [numX]; done) | ((try simp only [numX]); (repeat' split) <;> (try simp only [Bool.false_eq, Bool.true_eq, Bool.and_eq_false_iff, decide_eq_false_iff_not, Bool.and_eq_true, decide_eq_true_eq, decide_eq_decide]) <;> first | rfl | omega | (simp_all; done) | (simp_all; omega))))
    | (refine PSub.sb ?_; (first | (simp [numX, *]; done) | (simp_all [numX]; done) | ((try simp only [numX]); (repeat' split) <;> (try simp only [Bool.false_eq, Bool.true_eq, Bool.and_eq_false_iff, decide_eq_false_iff_not, Bool.and_eq_true, decide_eq_true_eq, decide_eq_decide]) <;> first | rfl | omega | (simp_all; done) | (simp_all; omega))))
    | (refine PSub.sb_lit ?_; (first | (simp [numX, *]; done) | (simp_all [numX]; done) | ((try simp only [numX]); (repeat' split) <;> (try simp only [Bool.false_eq, Bool.true_eq, Bool.and_eq_false_iff, decide_eq_false_iff_not, Bool.and_eq_true, decide_eq_true_eq, decide_eq_decide]) <;> first | rfl | omega | (simp_all; done) | (simp_all; omega))))
    | (refine PSub.int ?_; (first | (simp [numX, *]; done) | (simp_all [numX]; done) | ((try simp only [numX]); (repeat' split) <;> (try simp only [Bool.false_eq, Bool.true_eq, Bool.and_eq_false_iff, decide_eq_false_iff_not, Bool.and_eq_true, decide_eq_true_eq, decide_eq_decide]) <;> first | rfl | omega | (simp_all; done) | (simp_all; omega))))
    | skip
theorem ac_expr_literal (b : Bool) : AC Tryz.prog 53 [.pv (vbool b)] [] (.pv (.agg (cEx (litX b)))) [] := by
  refine AC.of_awp (T := T) T_ok hm Tryz.call53 Tryz.func53 rfl rfl rfl ?_
  conv => whnf
  repeat (any_goals (first
    | (refine ⟨fun (h : (_ : Bool) = true) => ?_, fun (h : (_ : Bool) = false) => ?_⟩ <;> (try simp only [decide_eq_true_eq, decide_eq_false_iff_not, Bool.not_eq_true', Bool.not_eq_false', Int.toNat_natCast, beq_iff_eq, decide_eq_decide, beq_eq_false_iff_ne, ne_eq, reduceCtorEq] at h) <;> (conv => whnf))
    | (refine And.intro (by (try simp only [Int.toNat_natCast]); omega) ?_; conv => whnf)
    | (refine And.intro (show (_ : Bool) = true from by kernel_rfl) ?_; conv => whnf)
    | (refine .inl ⟨wrap64 (by omega), ?_⟩; conv => whnf)))
  · subst h
    repeat' (first | exact PSub.rfl | exact PSub.nil_ro _ _ | exact PSub.lit_sb rfl | exact trivial | exact all_lt_zero | refine PSub.agg ?_ | refine PSub.ro rfl ?_ | refine all_lt_succ ?_ ?_ | refine And.intro ?_ ?_)
  · subst h
    repeat' (first | exact PSub.rfl | exact PSub.nil_ro _ _ | exact PSub.lit_sb rfl | exact trivial | exact all_lt_zero | refine PSub.agg ?_ | refine PSub.ro rfl ?_ | refine all_lt_succ ?_ ?_ | refine And.intro ?_ ?_)

theorem any_false {l : List Ex} {p : Ex → Bool} (h : ∀ i, i < l.length → p (l.getD i default) = false) : l.any p = false := by
  rw [List.any_eq_false]
  intro x hx
  obtain ⟨i, hi, rfl⟩ := List.getElem_of_mem hx
  have := h i hi
  rw [show l[i] = l.getD i default from by simp [List.getD, hi], this]
  decide
theorem any_true {l : List Ex} {p : Ex → Bool} {i : Nat} (hi : i < l.length) (h : p (l.getD i default) = true) : l.any p = true := by
  rw [List.any_eq_true]
  exact ⟨_, Ex.kid_at hi, h⟩

theorem ac_expr_junction (e : Ex) (d : Int) (hd : d = 0 ∨ d = 1) (hk : e.kids.length ≤ 1048576) : AC Tryz.prog 54 [.pv (.agg (cEx e)), .pv (vint d)] [] (.pv (.agg (cEx (juncE e d)))) [] := by
  refine AC.ex ?_
  refine AC.of_awp (T := T) T_ok hm Tryz.call54 Tryz.func54 rfl rfl rfl ?_
  conv => whnf
  refine loop_k (ι := Nat) [1, 2, 4, 9, 10] [2, 4] (fun q => q ≤ e.kids.length ∧ (∀ j, j < q → isX (e.kids.getD j default) d = false)) (fun q => e.kids.length - q) 0 (fun q => [(5, .pv (vbool ((e.kids.take q).all fun k => isX k (1 - d)))), (11, .pv (vint q))]) (fun q => []) [] ⟨Nat.zero_le _, fun j h => absurd h (by omega)⟩ ?_ (fun q hk => ?_)
  · (repeat' (first | exact PSub.rfl | exact rfl | exact PSubs.rfl | exact trivial | exact PSub.lit_sb rfl | refine And.intro ?_ ?_)); all_goals (exact PSub.lit_sb rfl)
  obtain ⟨hkn, hinv⟩ := hk
  conv => whnf
  repeat (any_goals (first
    | (refine ⟨fun (h : (_ : Bool) = true) => ?_, fun (h : (_ : Bool) = false) => ?_⟩ <;> (try simp only [decide_eq_true_eq, decide_eq_false_iff_not, Bool.not_eq_true', Bool.not_eq_false', Int.toNat_natCast, beq_iff_eq, decide_eq_decide, beq_eq_false_iff_ne, ne_eq, reduceCtorEq] at h) <;> (conv => whnf))
    | (refine .inl ⟨_, ac_expr_is (e.kids.getD q default) d, ?_⟩; conv => whnf)
    | (refine .inl ⟨_, ac_expr_is (e.kids.getD q default) (1 - d), ?_⟩; conv => whnf)
    | (refine .inl ⟨_, ac_expr_literal (decide (d = 1)), ?_⟩; conv => whnf)
    | (refine .inl ⟨_, ac_expr_literal (decide (d = 0)), ?_⟩; conv => whnf)
    | (refine And.intro (by (try simp only [Int.toNat_natCast]); omega) ?_; conv => whnf)
    | (refine And.intro (show (_ : Bool) = true from by kernel_rfl) ?_; conv => whnf)
    | (refine .inl ⟨wrap64 (by omega), ?_⟩; conv => whnf)))
  · rw [show juncE e d = litX (decide (d = 1)) from by unfold juncE; rw [if_pos (any_true (by omega) h)]]
    exact PSub.rfl
  · have hs : ∀ j, j < q + 1 → isX (e.kids.getD j default) d = false := by
      intro j hj
      by_cases e2 : j = q
      · subst e2; assumption
      · exact hinv j (by omega)
    refine ⟨q + 1, [], ⟨by omega, hs⟩, by first | omega | (dsimp only; omega), ?_⟩
    (repeat' (first | exact PSub.rfl | exact rfl | exact PSubs.rfl | exact trivial | exact PSub.lit_sb rfl | refine And.intro ?_ ?_))
    all_goals exact PSub.sb (by rw [take_succ_getD (by omega), List.all_append]; simp [h])
  · have hs : ∀ j, j < q + 1 → isX (e.kids.getD j default) d = false := by
      intro j hj
      by_cases e2 : j = q
      · subst e2; assumption
      · exact hinv j (by omega)
    refine ⟨q + 1, [], ⟨by omega, hs⟩, by first | omega | (dsimp only; omega), ?_⟩
    (repeat' (first | exact PSub.rfl | exact rfl | exact PSubs.rfl | exact trivial | exact PSub.lit_sb rfl | refine And.intro ?_ ?_))
    all_goals exact PSub.lit_sb (by rw [take_succ_getD (by omega), List.all_append]; simp [h])
  · have e1 : q = e.kids.length := by omega
    subst e1
    rw [List.take_length] at h
    rw [show juncE e d = litX (decide (d = 0)) from by unfold juncE; rw [if_neg (by rw [any_false hinv]; simp), if_pos h]]
    exact PSub.rfl
  · have e1 : q = e.kids.length := by omega
    subst e1
    rw [List.take_length] at h
    rw [show juncE e d = e from by unfold juncE; rw [if_neg (by rw [any_false hinv]; simp), if_neg (by rw [h]; simp)]]
    exact PSub.ex1'

theorem wrapU {n : Int} (h : 0 ≤ n ∧ n ≤ 18446744073709551615) : IntKind.wrap .u64 n = n := IntWalk.u64_in n h
def smallV (n : Int) : Prop := -1099511627776 ≤ n ∧ n ≤ 1099511627776

theorem ac_num_limit (b : Bool) : AC Tryz.prog 135 [.pv (vbool b)] [] (.pv (vint (if b = true then -1099511627776 else 1099511627776))) [] := by
  refine AC.of_awp (T := T) T_ok hm Tryz.call135 Tryz.func135 rfl rfl rfl ?_
  conv => whnf
  repeat (any_goals (first
    | (refine ⟨fun (h : (_ : Bool) = true) => ?_, fun (h : (_ : Bool) = false) => ?_⟩ <;> (try simp only [decide_eq_true_eq, decide_eq_false_iff_not, Bool.not_eq_true', Bool.not_eq_false', Int.toNat_natCast, beq_iff_eq, decide_eq_decide, beq_eq_false_iff_ne, ne_eq, reduceCtorEq] at h) <;> (conv => whnf))
    | (refine And.intro (by (try simp only [Int.toNat_natCast]); omega) ?_; conv => whnf)
    | (refine And.intro (show (_ : Bool) = true from by kernel_rfl) ?_; conv => whnf)
    | (refine .inl ⟨wrap64 (by omega), ?_⟩; conv => whnf)))
  · subst h; exact PSub.rfl
  · subst h; exact PSub.rfl
theorem ac_num_Sub (a b : Int) (ha : smallN a) (hb : smallN b) : AC Tryz.prog 95 [.pv (vint a), .pv (vint b)] [] (.pv (vint (satI (a - b)))) [] := by
  obtain ⟨h1, h2⟩ := ha
  obtain ⟨h3, h4⟩ := hb
  refine AC.of_awp (T := T) T_ok hm Tryz.call95 Tryz.func95 rfl rfl rfl ?_
  conv => whnf
  refine .inl ⟨wrap64 (by omega), ?_⟩
  conv => whnf
  repeat (any_goals (first
    | (refine ⟨fun (h : (_ : Bool) = true) => ?_, fun (h : (_ : Bool) = false) => ?_⟩ <;> (try simp only [decide_eq_true_eq, decide_eq_false_iff_not, Bool.not_eq_true', Bool.not_eq_false', Int.toNat_natCast, beq_iff_eq, decide_eq_decide, beq_eq_false_iff_ne, ne_eq, reduceCtorEq] at h) <;> (conv => whnf))
    | (refine .inl ⟨_, ac_num_Sat (a - b), ?_⟩; conv => whnf)
    | (refine .inl ⟨_, ac_num_limit (decide (a < 0)), ?_⟩; conv => whnf)
    | (refine And.intro (by (try simp only [Int.toNat_natCast]); omega) ?_; conv => whnf)
    | (refine And.intro (show (_ : Bool) = true from by kernel_rfl) ?_; conv => whnf)
    | (refine .inl ⟨wrap64 (by omega), ?_⟩; conv => whnf)))
  all_goals (try simp only [decide_eq_true_eq, decide_eq_false_iff_not, Bool.not_eq_true', Bool.not_eq_false', Int.toNat_natCast, beq_iff_eq, decide_eq_decide, beq_eq_false_iff_ne, ne_eq, reduceCtorEq] at *)
  all_goals first
    | contradiction
    | (exfalso; omega)
    | exact PSub.rfl
    | (refine PSub.int ?_; simp only [satI]; (repeat' split) <;> first | rfl | omega | (simp_all [-List.getD_eq_getElem?_getD]; done) | (simp_all [-List.getD_eq_getElem?_getD]; omega))
    | (refine PSub.sb ?_; simp_all [satI, -List.getD_eq_getElem?_getD]; done)
    | (refine PSub.lit_sb ?_; simp_all [satI, -List.getD_eq_getElem?_getD]; done)
    | (refine PSub.sb_lit ?_; simp_all [satI, -List.getD_eq_getElem?_getD]; done)
    | (refine PSub.sb ?_; rw [Bool.eq_iff_iff]; simp_all [satI, -List.getD_eq_getElem?_getD]; done)
    | (refine PSub.lit_sb ?_; rw [Bool.eq_iff_iff]; simp_all [satI, -List.getD_eq_getElem?_getD]; done)
    | (refine PSub.sb_lit ?_; rw [Bool.eq_iff_iff]; simp_all [satI, -List.getD_eq_getElem?_getD]; done)
    | skip
theorem ac_num_size (n : Int) (h : smallV n) : AC Tryz.prog 139 [.pv (vint n)] [] (.pv (.val (.int .u64 (sizeU n)))) [] := by
  obtain ⟨h1, h2⟩ := h
  have e0 (x : Int) (h : 0 ≤ x ∧ x ≤ 9223372036854775807) : IntKind.i64.wrap x = x := wrap64 (by omega)
  refine AC.of_awp (T := T) T_ok hm Tryz.call139 Tryz.func139 rfl rfl rfl ?_
  conv => whnf
  repeat (any_goals (first
    | (refine ⟨fun (h : (_ : Bool) = true) => ?_, fun (h : (_ : Bool) = false) => ?_⟩ <;> (try simp only [decide_eq_true_eq, decide_eq_false_iff_not, Bool.not_eq_true', Bool.not_eq_false', Int.toNat_natCast, beq_iff_eq, decide_eq_decide, beq_eq_false_iff_ne, ne_eq, reduceCtorEq] at h) <;> (conv => whnf))
    | (refine And.intro (by (try simp only [Int.toNat_natCast]); omega) ?_; conv => whnf)
    | (refine And.intro (show (_ : Bool) = true from by kernel_rfl) ?_; conv => whnf)
    | (refine .inl ⟨wrap64 (by omega), ?_⟩; conv => whnf)))
  · rw [e0 (0 - (n + 1)) (by omega), wrapU (n := 0 - (n + 1)) (by omega)]
    refine .inl ⟨wrapU (by omega), ?_⟩
    conv => whnf
    refine PSub.int ?_
    unfold sizeU
    rw [if_pos (by omega)]
    omega
  · rw [wrapU (by omega)]
    refine PSub.int ?_
    unfold sizeU
    rw [if_neg (by omega)]
theorem ac_num_times (a b : Int) (ha : 0 ≤ a ∧ a ≤ 1099511627776) (hb : 0 ≤ b ∧ b ≤ 1099511627776) : AC Tryz.prog 138 [.pv (.val (.int .u64 a)), .pv (.val (.int .u64 b))] [] (.pv (.val (.int .u64 (timesU a b)))) [] := by
  have hq : 0 ≤ (1099511627776 : Int).tdiv b ∧ (1099511627776 : Int).tdiv b ≤ 1099511627776 := by
    rw [Int.tdiv_eq_ediv_of_nonneg (by omega)]
    exact ⟨Int.ediv_nonneg (by omega) hb.1, Int.ediv_le_self _ (by omega)⟩
  have hmm : ¬ (b ≠ 0 ∧ (1099511627776 : Int).tdiv b < a) → 0 ≤ a * b ∧ a * b ≤ 18446744073709551615 := fun h => by
    refine ⟨Int.mul_nonneg ha.1 hb.1, ?_⟩
    by_cases hb0 : b = 0
    · subst hb0; omega
    · have h1 : a ≤ (1099511627776 : Int).tdiv b := by
        rcases Int.lt_or_le ((1099511627776 : Int).tdiv b) a with h2 | h2
        · exact absurd ⟨hb0, h2⟩ h
        · exact h2
      rw [Int.tdiv_eq_ediv_of_nonneg (by omega)] at h1
      have h2 := (Int.le_ediv_iff_mul_le (by omega)).1 h1
      omega
  refine AC.of_awp (T := T) T_ok hm Tryz.call138 Tryz.func138 rfl rfl rfl ?_
  conv => whnf
  repeat (any_goals (first
    | (refine ⟨fun (h : (_ : Bool) = true) => ?_, fun (h : (_ : Bool) = false) => ?_⟩ <;> (try simp only [decide_eq_true_eq, decide_eq_false_iff_not, Bool.not_eq_true', Bool.not_eq_false', Int.toNat_natCast, beq_iff_eq, decide_eq_decide, beq_eq_false_iff_ne, ne_eq, reduceCtorEq] at h) <;> (conv => whnf))
    | (refine And.intro (by (try simp only [Int.toNat_natCast]); omega) ?_; conv => whnf)
    | (refine And.intro (show (_ : Bool) = true from by kernel_rfl) ?_; conv => whnf)
    | (refine .inl ⟨wrap64 (by omega), ?_⟩; conv => whnf)))
  all_goals first
    | (refine .inl ⟨wrapU (by omega), ?_⟩; conv => whnf)
    | (subst h; refine .inl ⟨wrapU (hmm (by simp)), ?_⟩; conv => whnf)
  repeat (any_goals (first
    | (refine ⟨fun (h : (_ : Bool) = true) => ?_, fun (h : (_ : Bool) = false) => ?_⟩ <;> (try simp only [decide_eq_true_eq, decide_eq_false_iff_not, Bool.not_eq_true', Bool.not_eq_false', Int.toNat_natCast, beq_iff_eq, decide_eq_decide, beq_eq_false_iff_ne, ne_eq, reduceCtorEq] at h) <;> (conv => whnf))
    | (refine And.intro (by (try simp only [Int.toNat_natCast]); omega) ?_; conv => whnf)
    | (refine And.intro (show (_ : Bool) = true from by kernel_rfl) ?_; conv => whnf)
    | (refine .inl ⟨wrap64 (by omega), ?_⟩; conv => whnf)))
  · refine PSub.int ?_
    unfold timesU
    rw [if_pos (by omega)]
  · rename_i h1
    refine .inl ⟨wrapU (hmm (by omega)), ?_⟩
    conv => whnf
    refine PSub.int ?_
    unfold timesU
    rw [if_neg (by omega)]
  · refine PSub.int ?_
    unfold timesU
    rw [if_neg (by omega)]
theorem ac_num_signed (n : Int) (b : Bool) (h : 0 ≤ n ∧ n ≤ 1099511627777) : AC Tryz.prog 137 [.pv (.val (.int .u64 n)), .pv (vbool b)] [] (.pv (vint (signI n b))) [] := by
  have e0 (x : Int) (h : -9223372036854775807 ≤ x ∧ x ≤ 9223372036854775807) : IntKind.i64.wrap x = x := wrap64 (by omega)
  refine AC.of_awp (T := T) T_ok hm Tryz.call137 Tryz.func137 rfl rfl rfl ?_
  conv => whnf
  repeat (any_goals (first
    | (refine ⟨fun (h : (_ : Bool) = true) => ?_, fun (h : (_ : Bool) = false) => ?_⟩ <;> (try simp only [decide_eq_true_eq, decide_eq_false_iff_not, Bool.not_eq_true', Bool.not_eq_false', Int.toNat_natCast, beq_iff_eq, decide_eq_decide, beq_eq_false_iff_ne, ne_eq, reduceCtorEq] at h) <;> (conv => whnf))
    | (refine .inl ⟨_, ac_num_limit b, ?_⟩; conv => whnf)
    | (refine And.intro (by (try simp only [Int.toNat_natCast]); omega) ?_; conv => whnf)
    | (refine And.intro (show (_ : Bool) = true from by kernel_rfl) ?_; conv => whnf)
    | (refine .inl ⟨wrap64 (by omega), ?_⟩; conv => whnf)))
  · rw [show signI n b = if b = true then -1099511627776 else 1099511627776 from by unfold signI; exact if_pos h]
    exact PSub.rfl
  · rename_i h1 h2
    subst h
    rw [e0 n (by omega), e0 (0 - n) (by omega)]
    refine PSub.int ?_
    unfold signI
    rw [if_neg (by omega), if_pos rfl]
    omega
  · subst h
    rw [e0 n (by omega)]
    refine PSub.int ?_
    unfold signI
    rw [if_neg (by omega), if_neg (by simp)]
theorem sizeU_in {n : Int} (h : smallV n) : 0 ≤ sizeU n ∧ sizeU n ≤ 1099511627776 := by
  obtain ⟨h1, h2⟩ := h
  unfold sizeU
  split <;> omega
theorem timesU_in {a b : Int} (ha : 0 ≤ a ∧ a ≤ 1099511627776) (hb : 0 ≤ b ∧ b ≤ 1099511627776) : 0 ≤ timesU a b ∧ timesU a b ≤ 1099511627777 := by
  unfold timesU
  split
  · omega
  · rename_i h
    refine ⟨Int.mul_nonneg ha.1 hb.1, ?_⟩
    by_cases hb0 : b = 0
    · subst hb0; omega
    · have h1 : a ≤ (1099511627776 : Int).tdiv b := by
        rcases Int.lt_or_le ((1099511627776 : Int).tdiv b) a with h2 | h2
        · exact absurd ⟨hb0, h2⟩ h
        · exact h2
      rw [Int.tdiv_eq_ediv_of_nonneg (by omega)] at h1
      have h2 := (Int.le_ediv_iff_mul_le (by omega)).1 h1
      omega
theorem ac_num_Mul (a b : Int) (ha : smallV a) (hb : smallV b) : AC Tryz.prog 96 [.pv (vint a), .pv (vint b)] [] (.pv (vint (mulI a b))) [] := by
  have h1 := sizeU_in ha
  have h2 := sizeU_in hb
  have h3 := timesU_in h1 h2
  refine AC.of_awp (T := T) T_ok hm Tryz.call96 Tryz.func96 rfl rfl rfl ?_
  conv => whnf
  repeat (any_goals (first
    | (refine ⟨fun (h : (_ : Bool) = true) => ?_, fun (h : (_ : Bool) = false) => ?_⟩ <;> (try simp only [decide_eq_true_eq, decide_eq_false_iff_not, Bool.not_eq_true', Bool.not_eq_false', Int.toNat_natCast, beq_iff_eq, decide_eq_decide, beq_eq_false_iff_ne, ne_eq, reduceCtorEq] at h) <;> (conv => whnf))
    | (refine .inl ⟨_, ac_num_size a ha, ?_⟩; conv => whnf)
    | (refine .inl ⟨_, ac_num_size b hb, ?_⟩; conv => whnf)
    | (refine .inl ⟨_, ac_num_times (sizeU a) (sizeU b) h1 h2, ?_⟩; conv => whnf)
    | (refine .inl ⟨_, ac_num_signed (timesU (sizeU a) (sizeU b)) (!(decide (a < 0) == decide (b < 0))) h3, ?_⟩; conv => whnf)
    | (refine And.intro (by (try simp only [Int.toNat_natCast]); omega) ?_; conv => whnf)
    | (refine And.intro (show (_ : Bool) = true from by kernel_rfl) ?_; conv => whnf)
    | (refine .inl ⟨wrap64 (by omega), ?_⟩; conv => whnf)))
  all_goals exact PSub.rfl

theorem PSub.ofE {x : PV} {e e' : Ex} (h : e = e') (k : PSub x (.agg (cEx e))) : PSub x (.agg (cEx e')) := h ▸ k
theorem smallV.N {n : Int} (h : smallV n) : smallN n := ⟨by have := h.1; omega, by have := h.2; omega⟩
theorem ac_expr_binary (e : Ex) (hk : e.kids.length = 2) (hb : 9 ≤ e.kind ∧ e.kind ≤ 13) (hn : ∀ i, i < 2 → numX (e.kids.getD i default) = true → smallV (e.kids.getD i default).value.n) : AC Tryz.prog 55 [.pv (.agg (cEx e))] [] (.pv (.agg (cEx (binE e)))) [] := by
  refine AC.ex ?_
  have hn0 := hn 0 (by omega)
  have hn1 := hn 1 (by omega)
  refine AC.of_awp (T := T) T_ok hm Tryz.call55 Tryz.func55 rfl rfl rfl ?_
  conv => whnf
  repeat (any_goals (first
    | (refine ⟨fun (h : (_ : Bool) = true) => ?_, fun (h : (_ : Bool) = false) => ?_⟩ <;> (try simp only [decide_eq_true_eq, decide_eq_false_iff_not, Bool.not_eq_true', Bool.not_eq_false', Int.toNat_natCast, beq_iff_eq, decide_eq_decide, beq_eq_false_iff_ne, ne_eq, reduceCtorEq] at h) <;> (conv => whnf))
    | (refine .inl ⟨_, ac_expr_number (e.kids.getD 0 default), ?_⟩; conv => whnf)
    | (refine .inl ⟨_, ac_expr_number (e.kids.getD 1 default), ?_⟩; conv => whnf)
    | (refine .inl ⟨_, ac_expr_literal _, ?_⟩; conv => whnf)
    | (refine .inl ⟨_, ac_num_Add (e.kids.getD 0 default).value.n (e.kids.getD 1 default).value.n (hn0 (by assumption)).N (hn1 (by assumption)).N, ?_⟩; conv => whnf)
    | (refine .inl ⟨_, ac_num_Sub (e.kids.getD 0 default).value.n (e.kids.getD 1 default).value.n (hn0 (by assumption)).N (hn1 (by assumption)).N, ?_⟩; conv => whnf)
    | (refine .inl ⟨_, ac_num_Mul (e.kids.getD 0 default).value.n (e.kids.getD 1 default).value.n (hn0 (by assumption)) (hn1 (by assumption)), ?_⟩; conv => whnf)
    | (refine And.intro (by (try simp only [Int.toNat_natCast]); omega) ?_; conv => whnf)
    | (refine And.intro (show (_ : Bool) = true from by kernel_rfl) ?_; conv => whnf)
    | (refine .inl ⟨wrap64 (by omega), ?_⟩; conv => whnf)))
  · refine PSub.ofE ?_ PSub.rfl
    rename_i h1 h2
    unfold binE
    rw [if_pos h1, if_pos ⟨h2, h⟩]
    exact congrArg litX (val_eq _ _)
  · rename_i h1 h2
    refine PSub.ofE ?_ PSub.ex1'
    unfold binE
    rw [if_pos h1, if_neg fun x => h x.2]
  · rename_i h1
    refine PSub.ofE ?_ PSub.ex1'
    unfold binE
    rw [if_pos h1, if_neg fun x => h x.1]
  · rename_i h1
    refine PSub.ofE ?_ PSub.ex1'
    unfold binE
    rw [if_neg h1, if_pos (.inl h)]
  · rename_i h1 h2
    refine PSub.ofE ?_ PSub.ex1'
    unfold binE
    rw [if_neg h1, if_pos (.inr h)]
  · rename_i h1 h2 h3
    refine PSub.ofE ?_ PSub.rfl
    unfold binE
    rw [if_neg h1, if_neg (by rw [h2, h3]; simp), if_pos h]
    rfl
  · rename_i h1 h2 h3 h4
    refine PSub.ofE (e := litI (satI ((e.kids.getD 0 default).value.n + (e.kids.getD 1 default).value.n))) ?_ ?_
    · unfold binE binN
      rw [if_neg h1, if_neg (by rw [h2, h3]; simp), if_neg h4, if_pos h]
    · repeat' (first | exact PSub.rfl | exact PSub.nil_ro _ _ | exact PSub.lit_sb rfl | exact trivial | exact all_lt_zero | refine PSub.agg ?_ | refine PSub.ro rfl ?_ | refine all_lt_succ ?_ ?_ | refine And.intro ?_ ?_)
  · rename_i h1 h2 h3 h4 h5
    refine PSub.ofE (e := litI (satI ((e.kids.getD 0 default).value.n - (e.kids.getD 1 default).value.n))) ?_ ?_
    · unfold binE binN
      rw [if_neg h1, if_neg (by rw [h2, h3]; simp), if_neg h4, if_neg h5, if_pos h]
    · repeat' (first | exact PSub.rfl | exact PSub.nil_ro _ _ | exact PSub.lit_sb rfl | exact trivial | exact all_lt_zero | refine PSub.agg ?_ | refine PSub.ro rfl ?_ | refine all_lt_succ ?_ ?_ | refine And.intro ?_ ?_)
  · rename_i h1 h2 h3 h4 h5
    refine PSub.ofE (e := litI (mulI (e.kids.getD 0 default).value.n (e.kids.getD 1 default).value.n)) ?_ ?_
    · unfold binE binN
      rw [if_neg h1, if_neg (by rw [h2, h3]; simp), if_neg h4, if_neg h5, if_neg h]
    · repeat' (first | exact PSub.rfl | exact PSub.nil_ro _ _ | exact PSub.lit_sb rfl | exact trivial | exact all_lt_zero | refine PSub.agg ?_ | refine PSub.ro rfl ?_ | refine all_lt_succ ?_ ?_ | refine And.intro ?_ ?_)

theorem ac_expr_Fold_1 (e : Ex) : AC Tryz.prog 50 [.pv (.agg (cEx e))] [] (.pv (.agg (cEx e))) [] := by
  refine AC.of_awp (T := T) T_ok hm Tryz.call50 Tryz.func50 rfl rfl rfl ?_
  conv => whnf
  exact PSub.rfl

theorem kidsB_le {k n : Int} (h : kidsB k n = true) : n ≤ 1048576 := by
  unfold kidsB at h
  (repeat' split at h) <;> simp only [decide_eq_true_eq, Bool.and_eq_true] at h <;> omega
theorem ac_expr_Fold_2 (e : Ex) (he : okN e) : AC Tryz.prog 51 [.pv (.agg (cEx e))] [] (.pv (.agg (cEx (chg2 e)))) [] := by
  have hb := nodeE_kidsB ((okN_iff e).1 he).1
  have hle := kidsB_le hb
  have hk := (okNL_iff _).1 ((okN_iff e).1 he).2
  have hn : ∀ i, i < e.kids.length → numX (e.kids.getD i default) = true → smallV (e.kids.getD i default).value.n := fun i hi h => okN_num (hk _ (Ex.kid_at hi)) h
  have h6 : e.kind = 6 → e.kids.length = 1 := fun h => by rw [h] at hb; simp [kidsB] at hb; omega
  have h9 : 9 ≤ e.kind ∧ e.kind ≤ 13 → e.kids.length = 2 := fun h => by
    unfold kidsB at hb
    (repeat' split at hb) <;> simp only [decide_eq_true_eq, Bool.and_eq_true] at hb <;> omega
  have h14 : e.kind = 14 → e.kids.length = 3 := fun h => by rw [h] at hb; simp [kidsB] at hb; omega
  refine AC.ex ?_
  refine AC.of_awp (T := T) T_ok hm Tryz.call51 Tryz.func51 rfl rfl rfl ?_
  conv => whnf
  repeat (any_goals (first
    | (refine ⟨fun (h : (_ : Bool) = true) => ?_, fun (h : (_ : Bool) = false) => ?_⟩ <;> (try simp only [decide_eq_true_eq, decide_eq_false_iff_not, Bool.not_eq_true', Bool.not_eq_false', Int.toNat_natCast, beq_iff_eq, decide_eq_decide, beq_eq_false_iff_ne, ne_eq, reduceCtorEq] at h) <;> (conv => whnf))
    | (refine .inl ⟨_, ac_expr_is (e.kids.getD 0 default) 0, ?_⟩; conv => whnf)
    | (refine .inl ⟨_, ac_expr_is (e.kids.getD 0 default) 1, ?_⟩; conv => whnf)
    | (refine .inl ⟨_, ac_expr_literal (isX (e.kids.getD 0 default) 0), ?_⟩; conv => whnf)
    | (refine .inl ⟨_, AC.ex' (ac_expr_junction e 0 (.inl rfl) (by omega)), ?_⟩; conv => whnf)
    | (refine .inl ⟨_, AC.ex' (ac_expr_junction e 1 (.inr rfl) (by omega)), ?_⟩; conv => whnf)
    | (refine .inl ⟨_, AC.ex' (ac_expr_binary e (h9 (by omega)) (by omega) (fun i hi => hn i (by have := h9 (by omega); omega))), ?_⟩; conv => whnf)
    | (refine And.intro (by (try simp only [Int.toNat_natCast]); omega) ?_; conv => whnf)
    | (refine And.intro (show (_ : Bool) = true from by kernel_rfl) ?_; conv => whnf)
    | (refine .inl ⟨wrap64 (by omega), ?_⟩; conv => whnf)))
  all_goals clear hb hle hk hn h6 h9 h14 he
  all_goals first
    | (refine PSub.ofE ?_ PSub.ex1'; unfold chg2; (repeat' split) <;> first | rfl | (exfalso; omega) | (simp_all; done))
    | (refine PSub.ofE ?_ PSub.rfl; unfold chg2; (repeat' split) <;> first | rfl | (exfalso; omega) | (simp_all; done))

theorem ac_expr_rebuild {g : Nat} {c : Ex → Ex} {P : Ex → Prop} (hg : ∀ x, P x → AC Tryz.prog g [.pv (.agg (cEx x))] [] (.pv (.agg (cEx (c x)))) []) (hP : ∀ x, P x → P (withK x (rebL c x.kids)) ∧ x.kids.length ≤ 1048576 ∧ ∀ i, i < x.kids.length → P (x.kids.getD i default))
    (e : Ex) (he : P e) : AC Tryz.prog 49 [.pv (.agg (cEx e)), .fn g []] [] (.pv (.agg (cEx (rebT c e)))) [] := by
  obtain ⟨h1, h2, h3⟩ := hP e he
  have ih : ∀ i, i < e.kids.length → AC Tryz.prog 49 [.pv (.agg (cEx (e.kids.getD i default))), .fn g []] [] (.pv (.agg (cEx (rebT c (e.kids.getD i default))))) [] := fun i hi =>
    have := Ex.kid_lt (Ex.kid_at hi)
    ac_expr_rebuild hg hP (e.kids.getD i default) (h3 i hi)
  have hl := rebL_length c e.kids
  refine AC.ex ?_
  refine AC.of_awp_plain (T := T) T_ok hm Tryz.call49 Tryz.func49 rfl rfl rfl ?_
  conv => whnf
  refine loop_k (ι := Nat) [1, 2, 4, 11, 12] [4] (fun k => k ≤ e.kids.length ∧ True) (fun k => e.kids.length - k) 0 (fun k => [(13, .pv (vint k))]) (fun k => [(2, .box [.pv (vint e.kind), .pv (vint e.n), .pv (vint e.m), .pv (vstr e.name), .pv (vint e.value.kind), .pv (vint e.value.n), .pv (vstr e.value.s), .pv (vint e.key.dev), .pv (vstr e.key.cluster), .pv (vstr e.key.attr), .own 500]), (500, rowL 11 cEx ((rebL c e.kids).take k))]) [] ⟨Nat.zero_le _, trivial⟩ ?_ (fun k hk => ?_)
  · (repeat' (first | exact PSub.rfl | exact rfl | exact PSubs.rfl | exact trivial | exact PSub.lit_sb rfl | refine And.intro ?_ ?_)); all_goals ((intro i hi; exact absurd hi (by simp)))
  obtain ⟨hkn, hinv⟩ := hk
  conv => whnf
  have hlen : ((rebL c e.kids).take k).length = k := by rw [List.length_take]; omega
  repeat (any_goals (first
    | (refine ⟨fun (h : (_ : Bool) = true) => ?_, fun (h : (_ : Bool) = false) => ?_⟩ <;> (try simp only [decide_eq_true_eq, decide_eq_false_iff_not, Bool.not_eq_true', Bool.not_eq_false', Int.toNat_natCast, beq_iff_eq, decide_eq_decide, beq_eq_false_iff_ne, ne_eq, reduceCtorEq] at h) <;> (conv => whnf))
    | (refine .inl ⟨_, ih k (by omega), ?_⟩; conv => whnf)
    | (refine And.intro (by (try simp only [Int.toNat_natCast]); omega) ?_; conv => whnf)
    | (refine And.intro (show (_ : Bool) = true from by kernel_rfl) ?_; conv => whnf)
    | (refine .inl ⟨wrap64 (by omega), ?_⟩; conv => whnf)))
  · refine ⟨k + 1, [(500, 23)], ⟨by omega, trivial⟩, by omega, ?_⟩
    rw [rebL_take c e.kids k (by omega)]
    (repeat' (first | exact PSub.rfl | exact rfl | exact PSubs.rfl | exact trivial | exact PSub.lit_sb rfl | refine And.intro ?_ ?_))
    · simp
    · refine rows_snocF (fun i hi => by simp only [if_pos hi]; exact PSubs.rfl) (by simp only [if_neg (Nat.lt_irrefl _), Nat.sub_self]; exact PSubs.rfl)
  · rw [List.take_of_length_le (by omega)]
    refine .inl ⟨_, AC.sub1 (hg (withK e (rebL c e.kids)) h1) (PSub.ex1' (e := withK e (rebL c e.kids))), ?_⟩
    conv => whnf
    rw [← rebT_eq c e]
    exact PSub.rfl
termination_by SizeOf.sizeOf e

theorem ac_expr_Fold (e : Ex) (he : sizeE e ≤ 1048576) : AC Tryz.prog 22 [.pv (.agg (cEx e))] [] (.pv (.agg (cEx (foldE e)))) [] := by
  refine AC.of_awp (T := T) T_ok hm Tryz.call22 Tryz.func22 rfl rfl rfl ?_
  conv => whnf
  repeat (any_goals (first
    | (refine ⟨fun (h : (_ : Bool) = true) => ?_, fun (h : (_ : Bool) = false) => ?_⟩ <;> (try simp only [decide_eq_true_eq, decide_eq_false_iff_not, Bool.not_eq_true', Bool.not_eq_false', Int.toNat_natCast, beq_iff_eq, decide_eq_decide, beq_eq_false_iff_ne, ne_eq, reduceCtorEq] at h) <;> (conv => whnf))
    | (refine .inl ⟨_, ac_expr_Check e, ?_⟩; conv => whnf)
    | (refine And.intro (by (try simp only [Int.toNat_natCast]); omega) ?_; conv => whnf)
    | (refine And.intro (show (_ : Bool) = true from by kernel_rfl) ?_; conv => whnf)
    | (refine .inl ⟨wrap64 (by omega), ?_⟩; conv => whnf)))
  · refine .inl ⟨_, ac_expr_rebuild (g := 50) (c := fun x => x) (P := fun x => sizeE x ≤ 1048576) (fun x _ => ac_expr_Fold_1 x) (fun x hx => ?_) e he, ?_⟩
    · rw [rebL_id]
      refine ⟨?_, ?_, fun i hi => ?_⟩
      · rw [show withK x x.kids = x from (Ex.eta x).symm]; exact hx
      · have := sizeE_eq x
        have := sizeL_length (l := x.kids)
        omega
      · have := sizeL_mem (Ex.kid_at hi)
        have := sizeE_eq x
        omega
    · conv => whnf
      rw [rebT_id, show foldE e = e from if_pos h]
      exact PSub.rfl
  · have ho : okN e := ((exE_iff e).1 h).1
    refine .inl ⟨_, ac_expr_rebuild (g := 51) (c := chg2) (P := okN) (fun x hx => ac_expr_Fold_2 x hx) (fun x hx => ?_) e ho, ?_⟩
    · have hb := nodeE_kidsB ((okN_iff x).1 hx).1
      have hle := kidsB_le hb
      exact ⟨fold_hw x hx, by omega, fun i hi => (okNL_iff _).1 ((okN_iff x).1 hx).2 _ (Ex.kid_at hi)⟩
    · conv => whnf
      rw [show foldE e = foldT e from if_neg (by simpa using h)]
      exact PSub.rfl

end Go.Abs

namespace Go.Abs
open Go.Proofs
set_option maxRecDepth 10000

theorem ac_law31_TypingFolds (s : Sco) (e : Ex) (hs : smallS s) (he : sizeE e ≤ 1073741824) : AC Tryz.prog 7 [.pv (.agg (cSco s)), .pv (.agg (cEx e))] [] (.pv (vbool true)) [] := by
  refine AC.of_awp (T := T) T_ok hm Tryz.call7 Tryz.func7 rfl rfl rfl ?_
  conv => whnf
  repeat (any_goals (first
    | (refine ⟨fun (h : (_ : Bool) = true) => ?_, fun (h : (_ : Bool) = false) => ?_⟩ <;> (try simp only [decide_eq_true_eq, decide_eq_false_iff_not, Bool.not_eq_true', Bool.not_eq_false', Int.toNat_natCast, beq_iff_eq, decide_eq_decide, beq_eq_false_iff_ne, ne_eq, reduceCtorEq] at h) <;> (conv => whnf))
    | (refine .inl ⟨_, AC.sub2 (ac_law31_great s [] (fun i h => absurd h (by simp))) .rfl (PSub.nilL rfl), ?_⟩; conv => whnf)
    | (refine .inl ⟨_, ac_r28_Size e he, ?_⟩; conv => whnf)
    | (refine .inl ⟨_, ac_typing_Expr s e hs, ?_⟩; conv => whnf)
    | (refine .inl ⟨_, ac_expr_Fold e (by omega), ?_⟩; conv => whnf)
    | (refine .inl ⟨_, ac_typing_Expr s (foldE e) hs, ?_⟩; conv => whnf)
    | (refine .inl ⟨_, ac_law31_lives, ?_⟩; conv => whnf)
    | (refine And.intro (by (try simp only [Int.toNat_natCast]); omega) ?_; conv => whnf)
    | (refine And.intro (show (_ : Bool) = true from by kernel_rfl) ?_; conv => whnf)
    | (refine .inl ⟨wrap64 (by omega), ?_⟩; conv => whnf)))
  all_goals first
    | exact PSub.sb rfl
    | exact PSub.lit_sb rfl
    | exact PSub.rfl
    | skip
  · rename_i a b
    exact absurd ((congrArg Prod.snd (foldE_kind s e a)).trans a) h
  · rename_i a
    exact absurd (congrArg Prod.fst (foldE_kind s e a)).symm h

end Go.Abs
