/- Contracts: the laws' bounds and examples. -/
import Derived.Test.YtbhnjopjhaebpaaGreatDoorX07
import Derived.Test.YtbhnjopjhaebpaaGreatDoorX05

set_option linter.unusedVariables false
set_option linter.unusedSimpArgs false
set_option linter.unusedSectionVars false

namespace Go.Abs
open Go.Proofs
set_option maxRecDepth 10000

def stepG (x : Stp) : Bool := decide (1000 < sizeE x.expr)
def ruleG (r : Rul) : Bool := decide (20 < r.on.length) || decide (20 < r.steps.length) || decide (1000 < sizeE r.cond) || anyN r.steps.length fun i => stepG (r.steps.getD i default)
def scoG (s : Sco) : Bool := decide (300 < s.home.clusters.length) || decide (60 < s.home.devices.length) || decide (300 < s.modes.length) || decide (600 < s.scenes.length)
/-- homehublaw31.great -/
def greatB (s : Sco) (l : List Rul) : Bool := scoG s || decide (60 < l.length) || anyN l.length fun i => ruleG (l.getD i default)

def goodRul (r : Rul) : Prop := sizeE r.cond ≤ 1073741824 ∧ ∀ i, i < r.steps.length → sizeE (r.steps.getD i default).expr ≤ 1073741824

set_option maxHeartbeats 1000000 in
theorem ac_law31_great (s : Sco) (l : List Rul) (hl : ∀ i, i < l.length → goodRul (l.getD i default)) : AC Tryz.prog 11 [.pv (.agg (cSco s)), .pv (roL 15 cRul l)] [] (.pv (vbool (greatB s l))) [] := by
  refine AC.of_awp (T := T) T_ok hm Tryz.call11 Tryz.func11 rfl rfl rfl ?_
  conv => whnf
  repeat (any_goals (first
    | (refine ⟨fun (h : (_ : Bool) = true) => ?_, fun (h : (_ : Bool) = false) => ?_⟩ <;> (try simp only [decide_eq_true_eq, decide_eq_false_iff_not, Bool.not_eq_true', Bool.not_eq_false', Int.toNat_natCast, beq_iff_eq, decide_eq_decide, beq_eq_false_iff_ne, ne_eq, reduceCtorEq] at h) <;> (conv => whnf))
    | (refine And.intro (by (try simp only [Int.toNat_natCast]); omega) ?_; conv => whnf)
    | (refine And.intro (show (_ : Bool) = true from by kernel_rfl) ?_; conv => whnf)
    | (refine .inl ⟨wrap64 (by omega), ?_⟩; conv => whnf)))
  all_goals first
    | contradiction
    | (exfalso; omega)
    | exact PSub.rfl
    | (refine PSub.lit_sb ?_; (first | (simp [greatB, scoG, *]; done) | (simp_all [greatB, scoG]; done) | ((try simp only [greatB, scoG]); (repeat' split) <;> (try simp only [Bool.false_eq, Bool.true_eq, Bool.and_eq_false_iff, decide_eq_false_iff_not, Bool.and_eq_true, decide_eq_true_eq, decide_eq_decide]) <;> first | rfl | omega | (simp_all; done) | (simp_all; omega))))
    | (refine PSub.sb ?_; (first | (simp [greatB, scoG, *]; done) | (simp_all [greatB, scoG]; done) | ((try simp only [greatB, scoG]); (repeat' split) <;> (try simp only [Bool.false_eq, Bool.true_eq, Bool.and_eq_false_iff, decide_eq_false_iff_not, Bool.and_eq_true, decide_eq_true_eq, decide_eq_decide]) <;> first | rfl | omega | (simp_all; done) | (simp_all; omega))))
    | (refine PSub.sb_lit ?_; (first | (simp [greatB, scoG, *]; done) | (simp_all [greatB, scoG]; done) | ((try simp only [greatB, scoG]); (repeat' split) <;> (try simp only [Bool.false_eq, Bool.true_eq, Bool.and_eq_false_iff, decide_eq_false_iff_not, Bool.and_eq_true, decide_eq_true_eq, decide_eq_decide]) <;> first | rfl | omega | (simp_all; done) | (simp_all; omega))))
    | (refine PSub.int ?_; (first | (simp [greatB, scoG, *]; done) | (simp_all [greatB, scoG]; done) | ((try simp only [greatB, scoG]); (repeat' split) <;> (try simp only [Bool.false_eq, Bool.true_eq, Bool.and_eq_false_iff, decide_eq_false_iff_not, Bool.and_eq_true, decide_eq_true_eq, decide_eq_decide]) <;> first | rfl | omega | (simp_all; done) | (simp_all; omega))))
    | skip
  rename_i h1 h2 h3 h4
  have hcut : greatB s l = anyN l.length fun i => ruleG (l.getD i default) := by
    unfold greatB scoG
    rw [decide_eq_false (by omega), decide_eq_false (by omega), decide_eq_false (by omega), decide_eq_false (by omega), decide_eq_false (by omega)]
    rfl
  rw [hcut]
  refine loop_k (ι := Nat) [1] [] (fun k => k ≤ l.length ∧ ∀ j, j < k → ruleG (l.getD j default) = false) (fun k => l.length - k) 0 (fun k => [(5, .pv (vint k))]) (fun _ => []) [] ⟨Nat.zero_le _, fun j h => absurd h (by omega)⟩ ?_ (fun k hk => ?_)
  · (repeat' (first | exact PSub.rfl | exact rfl | exact PSubs.rfl | exact trivial | exact PSub.lit_sb rfl | refine And.intro ?_ ?_))
  obtain ⟨hkn, hinv⟩ := hk
  conv => whnf
  refine ⟨fun h => ?_, fun h => ?_⟩ <;> (try simp only [decide_eq_true_eq, decide_eq_false_iff_not, Bool.not_eq_true', Bool.not_eq_false', Int.toNat_natCast, beq_iff_eq, decide_eq_decide, beq_eq_false_iff_ne, ne_eq, reduceCtorEq] at h) <;> (conv => whnf)
  · have hg := hl k (by omega)
    repeat (any_goals (first
      | (refine ⟨fun (h : (_ : Bool) = true) => ?_, fun (h : (_ : Bool) = false) => ?_⟩ <;> (try simp only [decide_eq_true_eq, decide_eq_false_iff_not, Bool.not_eq_true', Bool.not_eq_false', Int.toNat_natCast, beq_iff_eq, decide_eq_decide, beq_eq_false_iff_ne, ne_eq, reduceCtorEq] at h) <;> (conv => whnf))
      | (refine .inl ⟨_, ac_r28_Size (l.getD k default).cond hg.1, ?_⟩; conv => whnf)
      | (refine And.intro (by (try simp only [Int.toNat_natCast]); omega) ?_; conv => whnf)
      | (refine And.intro (show (_ : Bool) = true from by kernel_rfl) ?_; conv => whnf)
      | (refine .inl ⟨wrap64 (by omega), ?_⟩; conv => whnf)))
    · exact PSub.lit_sb (anyN_true (k := k) (by omega) (by unfold ruleG; rw [decide_eq_true (show 20 < (l.getD k default).on.length by omega)]; rfl)).symm
    · exact PSub.lit_sb (anyN_true (k := k) (by omega) (by unfold ruleG; rw [decide_eq_true (show 20 < (l.getD k default).steps.length by omega), Bool.or_true]; rfl)).symm
    · exact PSub.lit_sb (anyN_true (k := k) (by omega) (by unfold ruleG; rw [decide_eq_true (show 1000 < sizeE (l.getD k default).cond by omega), Bool.or_true]; rfl)).symm
    · rename_i g1 g2
      have hrg : ruleG (l.getD k default) = anyN (l.getD k default).steps.length fun i => stepG ((l.getD k default).steps.getD i default) := by
        unfold ruleG
        rw [decide_eq_false (by omega), decide_eq_false (by omega), decide_eq_false (by omega)]
        rfl
      have hinv0 := hinv
      have hkn0 := hkn
      refine loop_k (ι := Nat) [1, 5] [] (fun q => q ≤ (l.getD k default).steps.length ∧ ∀ j, j < q → stepG ((l.getD k default).steps.getD j default) = false) (fun q => (l.getD k default).steps.length - q) 0 (fun q => [(6, .pv (vint q))]) (fun _ => []) [] ⟨Nat.zero_le _, fun j h => absurd h (by omega)⟩ ?_ (fun q hk => ?_)
      · (repeat' (first | exact PSub.rfl | exact rfl | exact PSubs.rfl | exact trivial | exact PSub.lit_sb rfl | refine And.intro ?_ ?_))
      obtain ⟨hkn, hinv⟩ := hk
      conv => whnf
      repeat (any_goals (first
        | (refine ⟨fun (h : (_ : Bool) = true) => ?_, fun (h : (_ : Bool) = false) => ?_⟩ <;> (try simp only [decide_eq_true_eq, decide_eq_false_iff_not, Bool.not_eq_true', Bool.not_eq_false', Int.toNat_natCast, beq_iff_eq, decide_eq_decide, beq_eq_false_iff_ne, ne_eq, reduceCtorEq] at h) <;> (conv => whnf))
        | (refine .inl ⟨_, ac_r28_Size ((l.getD k default).steps.getD q default).expr (hg.2 q (by omega)), ?_⟩; conv => whnf)
        | (refine And.intro (by (try simp only [Int.toNat_natCast]); omega) ?_; conv => whnf)
        | (refine And.intro (show (_ : Bool) = true from by kernel_rfl) ?_; conv => whnf)
        | (refine .inl ⟨wrap64 (by omega), ?_⟩; conv => whnf)))
      · have hs : stepG ((l.getD k default).steps.getD q default) = true := decide_eq_true (show 1000 < sizeE _ by omega)
        exact PSub.lit_sb (anyN_true (k := k) (by omega) (by rw [hrg]; exact anyN_true (k := q) (by omega) hs)).symm
      · refine ⟨q + 1, [], ⟨by omega, ?_⟩, by first | omega | (dsimp only; omega), ?_⟩
        rotate_left
        · (repeat' (first | exact PSub.rfl | exact rfl | exact PSubs.rfl | exact trivial | exact PSub.lit_sb rfl | refine And.intro ?_ ?_))
        intro j hj
        by_cases e : j = q
        · subst e; exact decide_eq_false (show ¬ 1000 < sizeE _ by omega)
        · exact hinv j (by omega)
      · refine ⟨k + 1, [], ⟨by omega, ?_⟩, by first | omega | (dsimp only; omega), ?_⟩
        rotate_left
        · (repeat' (first | exact PSub.rfl | exact rfl | exact PSubs.rfl | exact trivial | exact PSub.lit_sb rfl | refine And.intro ?_ ?_))
        intro j hj
        by_cases e : j = k
        · subst e
          rw [hrg]
          exact anyN_false fun i hi => hinv i (by omega)
        · exact hinv0 j (by omega)
  · exact PSub.lit_sb (anyN_false fun j hj => hinv j (by omega)).symm

/-! the examples -/
def scopeX : Sco := ⟨⟨stdC, [⟨1, 0, 0, false, 0, (⟨#[104, 97, 108, 108]⟩ : ByteArray), [(⟨#[111, 110, 111, 102, 102]⟩ : ByteArray), (⟨#[116, 104, 101, 114, 109, 111, 115, 116, 97, 116]⟩ : ByteArray)]⟩]⟩, [(⟨#[104, 111, 109, 101]⟩ : ByteArray)], []⟩
theorem ac_law31_scope : AC Tryz.prog 33 [] [] (.pv (.agg (cSco scopeX))) [] := by
  refine AC.of_awp (T := T) T_ok hm Tryz.call33 Tryz.func33 rfl rfl rfl ?_
  conv => whnf
  refine .inl ⟨_, ac_cluster_Standard, ?_⟩
  conv => whnf
  repeat' (first | exact PSub.rfl | exact PSub.nil_ro _ _ | exact PSub.lit_sb rfl | exact trivial | exact all_lt_zero | refine PSub.agg ?_ | refine PSub.ro rfl ?_ | refine all_lt_succ ?_ ?_ | refine And.intro ?_ ?_)

theorem ac_r28_Lit (v : Val) : AC Tryz.prog 34 [.pv (.agg (cVal v))] [] (.pv (.agg (cEx (.mk 1 0 0 ⟨#[]⟩ v noKey [])))) [] := by
  refine AC.of_awp (T := T) T_ok hm Tryz.call34 Tryz.func34 rfl rfl rfl ?_
  conv => whnf
  repeat' (first | exact PSub.rfl | exact PSub.nil_ro _ _ | exact PSub.lit_sb rfl | exact trivial | exact all_lt_zero | refine PSub.agg ?_ | refine PSub.ro rfl ?_ | refine all_lt_succ ?_ ?_ | refine And.intro ?_ ?_)
theorem ac_law31_attr (a b : ByteArray) : AC Tryz.prog 35 [.pv (vstr a), .pv (vstr b)] [] (.pv (.agg (cEx (.mk 2 0 0 ⟨#[]⟩ noVal ⟨1, a, b⟩ [])))) [] := by
  refine AC.of_awp (T := T) T_ok hm Tryz.call35 Tryz.func35 rfl rfl rfl ?_
  conv => whnf
  repeat' (first | exact PSub.rfl | exact PSub.nil_ro _ _ | exact PSub.lit_sb rfl | exact trivial | exact all_lt_zero | refine PSub.agg ?_ | refine PSub.ro rfl ?_ | refine all_lt_succ ?_ ?_ | refine And.intro ?_ ?_)
theorem ac_r28_Flag (b : Bool) : AC Tryz.prog 36 [.pv (vbool b)] [] (.pv (.agg (cEx (.mk 1 0 0 ⟨#[]⟩ ⟨1, if b = true then 1 else 0, ⟨#[]⟩⟩ noKey [])))) [] := by
  refine AC.of_awp (T := T) T_ok hm Tryz.call36 Tryz.func36 rfl rfl rfl ?_
  conv => whnf
  repeat (any_goals (first
    | (refine ⟨fun (h : (_ : Bool) = true) => ?_, fun (h : (_ : Bool) = false) => ?_⟩ <;> (try simp only [decide_eq_true_eq, decide_eq_false_iff_not, Bool.not_eq_true', Bool.not_eq_false', Int.toNat_natCast, beq_iff_eq, decide_eq_decide, beq_eq_false_iff_ne, ne_eq, reduceCtorEq] at h) <;> (conv => whnf))
    | (refine .inl ⟨_, ac_r28_Lit ⟨1, 1, ⟨#[]⟩⟩, ?_⟩; conv => whnf)
    | (refine .inl ⟨_, ac_r28_Lit ⟨1, 0, ⟨#[]⟩⟩, ?_⟩; conv => whnf)
    | (refine And.intro (by (try simp only [Int.toNat_natCast]); omega) ?_; conv => whnf)
    | (refine And.intro (show (_ : Bool) = true from by kernel_rfl) ?_; conv => whnf)
    | (refine .inl ⟨wrap64 (by omega), ?_⟩; conv => whnf)))
  · subst h
    rw [if_pos rfl]
    exact PSub.rfl
  · subst h
    rw [if_neg (by decide)]
    exact PSub.rfl

theorem smallS_X : smallS scopeX := by
  refine ⟨⟨⟨sl rfl, smallK_std⟩, sl rfl, fun i => ?_⟩, sl rfl, sl rfl⟩
  cases i with
  | zero => exact ⟨sl rfl, by decide, by decide⟩
  | succ i =>
    have : scopeX.home.devices.getD (i + 1) default = default := rfl
    rw [this]; exact ⟨Nat.zero_le _, by decide, by decide⟩

def n200 : Ex := .mk 1 0 0 ⟨#[]⟩ ⟨2, 200, ⟨#[]⟩⟩ noKey []
def atX (a b : ByteArray) : Ex := .mk 2 0 0 ⟨#[]⟩ noVal ⟨1, a, b⟩ []
def exX1 : Ex := .mk 10 0 0 ⟨#[]⟩ noVal noKey [atX (⟨#[116, 104, 101, 114, 109, 111, 115, 116, 97, 116]⟩ : ByteArray) (⟨#[116, 101, 109, 112]⟩ : ByteArray), n200]
def exX2 : Ex := .mk 11 0 0 ⟨#[]⟩ noVal noKey [atX (⟨#[111, 110, 111, 102, 102]⟩ : ByteArray) (⟨#[111, 110]⟩ : ByteArray), n200]
def exX3 : Ex := atX (⟨#[108, 101, 118, 101, 108]⟩ : ByteArray) (⟨#[108, 101, 118, 101, 108]⟩ : ByteArray)
def callX : Rul := ⟨(⟨#[97]⟩ : ByteArray), 0, [⟨5, noKey, noEvt, ⟨#[]⟩, 0, 0⟩], .mk 1 0 0 ⟨#[]⟩ ⟨1, 1, ⟨#[]⟩⟩ noKey [], [⟨2, ⟨1, (⟨#[111, 110, 111, 102, 102]⟩ : ByteArray), ⟨#[]⟩⟩, (⟨#[116, 111, 103, 103, 108, 101]⟩ : ByteArray), noEx⟩]⟩
theorem exk1 : exprK scopeX exX1 = (1, 0) := by kernel_rfl
theorem exk2 : exprK scopeX exX2 = (0, 11) := by kernel_rfl
theorem exk3 : exprK scopeX exX3 = (0, 8) := by kernel_rfl
theorem exk4 : scoE scopeX = 0 := by kernel_rfl
theorem exk5 : ruleE scopeX callX = 0 := by kernel_rfl
theorem exk6 : writesL scopeX [callX] = [⟨1, (⟨#[111, 110, 111, 102, 102]⟩ : ByteArray), (⟨#[111, 110]⟩ : ByteArray)⟩] := by kernel_rfl

theorem ac_law31_lives : AC Tryz.prog 14 [] [] (.pv (vbool true)) [] := by
  refine AC.of_awp (T := T) T_ok hm Tryz.call14 Tryz.func14 rfl rfl rfl ?_
  conv => whnf
  refine .inl ⟨_, ac_law31_scope, ?_⟩
  conv => whnf
  refine .inl ⟨_, ac_r28_Lit ⟨2, 200, ⟨#[]⟩⟩, ?_⟩
  conv => whnf
  repeat (any_goals (first
    | (refine ⟨fun (h : (_ : Bool) = true) => ?_, fun (h : (_ : Bool) = false) => ?_⟩ <;> (try simp only [decide_eq_true_eq, decide_eq_false_iff_not, Bool.not_eq_true', Bool.not_eq_false', Int.toNat_natCast, beq_iff_eq, decide_eq_decide, beq_eq_false_iff_ne, ne_eq, reduceCtorEq] at h) <;> (conv => whnf))
    | (refine .inl ⟨_, ac_law31_attr (⟨#[116, 104, 101, 114, 109, 111, 115, 116, 97, 116]⟩ : ByteArray) (⟨#[116, 101, 109, 112]⟩ : ByteArray), ?_⟩; conv => whnf)
    | (refine And.intro (by (try simp only [Int.toNat_natCast]); omega) ?_; conv => whnf)
    | (refine And.intro (show (_ : Bool) = true from by kernel_rfl) ?_; conv => whnf)
    | (refine .inl ⟨wrap64 (by omega), ?_⟩; conv => whnf)))
  refine .inl ⟨_, AC.sub2 (ac_typing_Expr scopeX exX1 smallS_X) (by repeat' (first | exact PSub.rfl | exact PSub.nil_ro _ _ | exact PSub.lit_sb rfl | exact trivial | exact all_lt_zero | refine PSub.agg ?_ | refine PSub.ro rfl ?_ | refine all_lt_succ ?_ ?_ | refine And.intro ?_ ?_)) (by repeat' (first | exact PSub.rfl | exact PSub.nil_ro _ _ | exact PSub.lit_sb rfl | exact trivial | exact all_lt_zero | refine PSub.agg ?_ | refine PSub.ro rfl ?_ | refine all_lt_succ ?_ ?_ | refine And.intro ?_ ?_)), ?_⟩
  conv => whnf
  rw [exk1]
  conv => whnf
  repeat (any_goals (first
    | (refine ⟨fun (h : (_ : Bool) = true) => ?_, fun (h : (_ : Bool) = false) => ?_⟩ <;> (try simp only [decide_eq_true_eq, decide_eq_false_iff_not, Bool.not_eq_true', Bool.not_eq_false', Int.toNat_natCast, beq_iff_eq, decide_eq_decide, beq_eq_false_iff_ne, ne_eq, reduceCtorEq] at h) <;> (conv => whnf))
    | (refine .inl ⟨_, ac_law31_attr (⟨#[111, 110, 111, 102, 102]⟩ : ByteArray) (⟨#[111, 110]⟩ : ByteArray), ?_⟩; conv => whnf)
    | (refine And.intro (by (try simp only [Int.toNat_natCast]); omega) ?_; conv => whnf)
    | (refine And.intro (show (_ : Bool) = true from by kernel_rfl) ?_; conv => whnf)
    | (refine .inl ⟨wrap64 (by omega), ?_⟩; conv => whnf)))
  refine .inl ⟨_, AC.sub2 (ac_typing_Expr scopeX exX2 smallS_X) (by repeat' (first | exact PSub.rfl | exact PSub.nil_ro _ _ | exact PSub.lit_sb rfl | exact trivial | exact all_lt_zero | refine PSub.agg ?_ | refine PSub.ro rfl ?_ | refine all_lt_succ ?_ ?_ | refine And.intro ?_ ?_)) (by repeat' (first | exact PSub.rfl | exact PSub.nil_ro _ _ | exact PSub.lit_sb rfl | exact trivial | exact all_lt_zero | refine PSub.agg ?_ | refine PSub.ro rfl ?_ | refine all_lt_succ ?_ ?_ | refine And.intro ?_ ?_)), ?_⟩
  conv => whnf
  rw [exk2]
  conv => whnf
  repeat (any_goals (first
    | (refine ⟨fun (h : (_ : Bool) = true) => ?_, fun (h : (_ : Bool) = false) => ?_⟩ <;> (try simp only [decide_eq_true_eq, decide_eq_false_iff_not, Bool.not_eq_true', Bool.not_eq_false', Int.toNat_natCast, beq_iff_eq, decide_eq_decide, beq_eq_false_iff_ne, ne_eq, reduceCtorEq] at h) <;> (conv => whnf))
    | (refine .inl ⟨_, ac_law31_attr (⟨#[108, 101, 118, 101, 108]⟩ : ByteArray) (⟨#[108, 101, 118, 101, 108]⟩ : ByteArray), ?_⟩; conv => whnf)
    | (refine And.intro (by (try simp only [Int.toNat_natCast]); omega) ?_; conv => whnf)
    | (refine And.intro (show (_ : Bool) = true from by kernel_rfl) ?_; conv => whnf)
    | (refine .inl ⟨wrap64 (by omega), ?_⟩; conv => whnf)))
  refine .inl ⟨_, AC.sub2 (ac_typing_Expr scopeX exX3 smallS_X) (by repeat' (first | exact PSub.rfl | exact PSub.nil_ro _ _ | exact PSub.lit_sb rfl | exact trivial | exact all_lt_zero | refine PSub.agg ?_ | refine PSub.ro rfl ?_ | refine all_lt_succ ?_ ?_ | refine And.intro ?_ ?_)) (by repeat' (first | exact PSub.rfl | exact PSub.nil_ro _ _ | exact PSub.lit_sb rfl | exact trivial | exact all_lt_zero | refine PSub.agg ?_ | refine PSub.ro rfl ?_ | refine all_lt_succ ?_ ?_ | refine And.intro ?_ ?_)), ?_⟩
  conv => whnf
  rw [exk3]
  conv => whnf
  repeat (any_goals (first
    | (refine ⟨fun (h : (_ : Bool) = true) => ?_, fun (h : (_ : Bool) = false) => ?_⟩ <;> (try simp only [decide_eq_true_eq, decide_eq_false_iff_not, Bool.not_eq_true', Bool.not_eq_false', Int.toNat_natCast, beq_iff_eq, decide_eq_decide, beq_eq_false_iff_ne, ne_eq, reduceCtorEq] at h) <;> (conv => whnf))
    | (refine And.intro (by (try simp only [Int.toNat_natCast]); omega) ?_; conv => whnf)
    | (refine And.intro (show (_ : Bool) = true from by kernel_rfl) ?_; conv => whnf)
    | (refine .inl ⟨wrap64 (by omega), ?_⟩; conv => whnf)))
  refine .inl ⟨_, AC.sub1 (ac_r28_Flag true) (PSub.lit_sb rfl), ?_⟩
  conv => whnf
  repeat (any_goals (first
    | (refine ⟨fun (h : (_ : Bool) = true) => ?_, fun (h : (_ : Bool) = false) => ?_⟩ <;> (try simp only [decide_eq_true_eq, decide_eq_false_iff_not, Bool.not_eq_true', Bool.not_eq_false', Int.toNat_natCast, beq_iff_eq, decide_eq_decide, beq_eq_false_iff_ne, ne_eq, reduceCtorEq] at h) <;> (conv => whnf))
    | (refine And.intro (by (try simp only [Int.toNat_natCast]); omega) ?_; conv => whnf)
    | (refine And.intro (show (_ : Bool) = true from by kernel_rfl) ?_; conv => whnf)
    | (refine .inl ⟨wrap64 (by omega), ?_⟩; conv => whnf)))
  refine .inl ⟨_, AC.sub2 (ac_typing_Writes scopeX [callX] smallS_X ⟨by decide, fun r hr => by simp only [List.mem_singleton] at hr; subst hr; decide⟩) (by repeat' (first | exact PSub.rfl | exact PSub.nil_ro _ _ | exact PSub.lit_sb rfl | exact trivial | exact all_lt_zero | refine PSub.agg ?_ | refine PSub.ro rfl ?_ | refine all_lt_succ ?_ ?_ | refine And.intro ?_ ?_)) (by repeat' (first | exact PSub.rfl | exact PSub.nil_ro _ _ | exact PSub.lit_sb rfl | exact trivial | exact all_lt_zero | refine PSub.agg ?_ | refine PSub.ro rfl ?_ | refine all_lt_succ ?_ ?_ | refine And.intro ?_ ?_)), ?_⟩
  conv => whnf
  rw [exk6]
  conv => whnf
  refine .inl ⟨_, AC.sub1 (ac_typing_Check scopeX smallS_X) (by repeat' (first | exact PSub.rfl | exact PSub.nil_ro _ _ | exact PSub.lit_sb rfl | exact trivial | exact all_lt_zero | refine PSub.agg ?_ | refine PSub.ro rfl ?_ | refine all_lt_succ ?_ ?_ | refine And.intro ?_ ?_)), ?_⟩
  conv => whnf
  rw [exk4]
  conv => whnf
  repeat (any_goals (first
    | (refine ⟨fun (h : (_ : Bool) = true) => ?_, fun (h : (_ : Bool) = false) => ?_⟩ <;> (try simp only [decide_eq_true_eq, decide_eq_false_iff_not, Bool.not_eq_true', Bool.not_eq_false', Int.toNat_natCast, beq_iff_eq, decide_eq_decide, beq_eq_false_iff_ne, ne_eq, reduceCtorEq] at h) <;> (conv => whnf))
    | (refine .inl ⟨_, AC.sub2 (ac_typing_Rule scopeX callX smallS_X) (by repeat' (first | exact PSub.rfl | exact PSub.nil_ro _ _ | exact PSub.lit_sb rfl | exact trivial | exact all_lt_zero | refine PSub.agg ?_ | refine PSub.ro rfl ?_ | refine all_lt_succ ?_ ?_ | refine And.intro ?_ ?_)) (by repeat' (first | exact PSub.rfl | exact PSub.nil_ro _ _ | exact PSub.lit_sb rfl | exact trivial | exact all_lt_zero | refine PSub.agg ?_ | refine PSub.ro rfl ?_ | refine all_lt_succ ?_ ?_ | refine And.intro ?_ ?_)), ?_⟩; conv => whnf)
    | (refine And.intro (by (try simp only [Int.toNat_natCast]); omega) ?_; conv => whnf)
    | (refine And.intro (show (_ : Bool) = true from by kernel_rfl) ?_; conv => whnf)
    | (refine .inl ⟨wrap64 (by omega), ?_⟩; conv => whnf)))
  all_goals first
    | exact PSub.sb (by kernel_rfl)
    | exact absurd trivial h
    | exact absurd exk5 h
    | exact absurd rfl h
    | (exfalso; exact h (by kernel_rfl))

/-! the laws -/
theorem ac_law31_TypingChecks (s : Sco) (hs : smallS s) : AC Tryz.prog 3 [.pv (.agg (cSco s))] [] (.pv (vbool true)) [] := by
  refine AC.of_awp (T := T) T_ok hm Tryz.call3 Tryz.func3 rfl rfl rfl ?_
  conv => whnf
  repeat (any_goals (first
    | (refine ⟨fun (h : (_ : Bool) = true) => ?_, fun (h : (_ : Bool) = false) => ?_⟩ <;> (try simp only [decide_eq_true_eq, decide_eq_false_iff_not, Bool.not_eq_true', Bool.not_eq_false', Int.toNat_natCast, beq_iff_eq, decide_eq_decide, beq_eq_false_iff_ne, ne_eq, reduceCtorEq] at h) <;> (conv => whnf))
    | (refine .inl ⟨_, AC.sub2 (ac_law31_great s [] (fun i h => absurd h (by simp))) .rfl (PSub.nilL rfl), ?_⟩; conv => whnf)
    | (refine .inl ⟨_, ac_typing_Check s hs, ?_⟩; conv => whnf)
    | (refine .inl ⟨_, ac_r31_Check s hs, ?_⟩; conv => whnf)
    | (refine .inl ⟨_, ac_law31_lives, ?_⟩; conv => whnf)
    | (refine And.intro (by (try simp only [Int.toNat_natCast]); omega) ?_; conv => whnf)
    | (refine And.intro (show (_ : Bool) = true from by kernel_rfl) ?_; conv => whnf)
    | (refine .inl ⟨wrap64 (by omega), ?_⟩; conv => whnf)))
  all_goals first | exact PSub.sb rfl | exact PSub.lit_sb rfl | exact absurd trivial h | (exfalso; exact h rfl)

theorem ac_law31_TypingKinds (s : Sco) (e : Ex) (hs : smallS s) (he : sizeE e ≤ 1073741824) : AC Tryz.prog 4 [.pv (.agg (cSco s)), .pv (.agg (cEx e))] [] (.pv (vbool true)) [] := by
  refine AC.of_awp (T := T) T_ok hm Tryz.call4 Tryz.func4 rfl rfl rfl ?_
  conv => whnf
  repeat (any_goals (first
    | (refine ⟨fun (h : (_ : Bool) = true) => ?_, fun (h : (_ : Bool) = false) => ?_⟩ <;> (try simp only [decide_eq_true_eq, decide_eq_false_iff_not, Bool.not_eq_true', Bool.not_eq_false', Int.toNat_natCast, beq_iff_eq, decide_eq_decide, beq_eq_false_iff_ne, ne_eq, reduceCtorEq] at h) <;> (conv => whnf))
    | (refine .inl ⟨_, AC.sub2 (ac_law31_great s [] (fun i h => absurd h (by simp))) .rfl (PSub.nilL rfl), ?_⟩; conv => whnf)
    | (refine .inl ⟨_, ac_r28_Size e he, ?_⟩; conv => whnf)
    | (refine .inl ⟨_, ac_typing_Expr s e hs, ?_⟩; conv => whnf)
    | (refine .inl ⟨_, ac_r31_Expr s e hs, ?_⟩; conv => whnf)
    | (refine .inl ⟨_, ac_law31_lives, ?_⟩; conv => whnf)
    | (refine And.intro (by (try simp only [Int.toNat_natCast]); omega) ?_; conv => whnf)
    | (refine And.intro (show (_ : Bool) = true from by kernel_rfl) ?_; conv => whnf)
    | (refine .inl ⟨wrap64 (by omega), ?_⟩; conv => whnf)))
  all_goals first | exact PSub.sb rfl | exact PSub.lit_sb rfl | exact absurd trivial h | (exfalso; exact h rfl)

theorem ac_law31_TypingRule (s : Sco) (r : Rul) (hs : smallS s) (hr : goodRul r) : AC Tryz.prog 5 [.pv (.agg (cSco s)), .pv (.agg (cRul r))] [] (.pv (vbool true)) [] := by
  have hl : ∀ i, i < [r].length → goodRul ([r].getD i default) := fun i hi => by
    have : i = 0 := by simpa using hi
    subst this; exact hr
  refine AC.of_awp (T := T) T_ok hm Tryz.call5 Tryz.func5 rfl rfl rfl ?_
  conv => whnf
  repeat (any_goals (first
    | (refine ⟨fun (h : (_ : Bool) = true) => ?_, fun (h : (_ : Bool) = false) => ?_⟩ <;> (try simp only [decide_eq_true_eq, decide_eq_false_iff_not, Bool.not_eq_true', Bool.not_eq_false', Int.toNat_natCast, beq_iff_eq, decide_eq_decide, beq_eq_false_iff_ne, ne_eq, reduceCtorEq] at h) <;> (conv => whnf))
    | (refine .inl ⟨_, AC.sub2 (ac_law31_great s [r] hl) (by repeat' (first | exact PSub.rfl | exact PSub.nil_ro _ _ | exact PSub.lit_sb rfl | exact trivial | exact all_lt_zero | refine PSub.agg ?_ | refine PSub.ro rfl ?_ | refine all_lt_succ ?_ ?_ | refine And.intro ?_ ?_)) (by repeat' (first | exact PSub.rfl | exact PSub.nil_ro _ _ | exact PSub.lit_sb rfl | exact trivial | exact all_lt_zero | refine PSub.agg ?_ | refine PSub.ro rfl ?_ | refine all_lt_succ ?_ ?_ | refine And.intro ?_ ?_)), ?_⟩; conv => whnf)
    | (refine .inl ⟨_, ac_typing_Rule s r hs, ?_⟩; conv => whnf)
    | (refine .inl ⟨_, ac_r31_Rule s r hs, ?_⟩; conv => whnf)
    | (refine .inl ⟨_, ac_law31_lives, ?_⟩; conv => whnf)
    | (refine And.intro (by (try simp only [Int.toNat_natCast]); omega) ?_; conv => whnf)
    | (refine And.intro (show (_ : Bool) = true from by kernel_rfl) ?_; conv => whnf)
    | (refine .inl ⟨wrap64 (by omega), ?_⟩; conv => whnf)))
  all_goals first | exact PSub.sb rfl | exact PSub.lit_sb rfl | exact absurd trivial h | (exfalso; exact h rfl)

theorem ac_law31_TypingRules (s : Sco) (l : List Rul) (hs : smallS s) (hl : ∀ i, i < l.length → goodRul (l.getD i default)) : AC Tryz.prog 6 [.pv (.agg (cSco s)), .pv (roL 15 cRul l)] [] (.pv (vbool true)) [] := by
  refine AC.of_awp (T := T) T_ok hm Tryz.call6 Tryz.func6 rfl rfl rfl ?_
  conv => whnf
  repeat (any_goals (first
    | (refine ⟨fun (h : (_ : Bool) = true) => ?_, fun (h : (_ : Bool) = false) => ?_⟩ <;> (try simp only [decide_eq_true_eq, decide_eq_false_iff_not, Bool.not_eq_true', Bool.not_eq_false', Int.toNat_natCast, beq_iff_eq, decide_eq_decide, beq_eq_false_iff_ne, ne_eq, reduceCtorEq] at h) <;> (conv => whnf))
    | (refine .inl ⟨_, ac_law31_great s l hl, ?_⟩; conv => whnf)
    | (refine .inl ⟨_, ac_typing_Rules s l hs, ?_⟩; conv => whnf)
    | (refine .inl ⟨_, ac_r31_Rules s l hs, ?_⟩; conv => whnf)
    | (refine .inl ⟨_, ac_law31_lives, ?_⟩; conv => whnf)
    | (refine And.intro (by (try simp only [Int.toNat_natCast]); omega) ?_; conv => whnf)
    | (refine And.intro (show (_ : Bool) = true from by kernel_rfl) ?_; conv => whnf)
    | (refine .inl ⟨wrap64 (by omega), ?_⟩; conv => whnf)))
  all_goals first | exact PSub.sb rfl | exact PSub.lit_sb rfl | exact absurd trivial h | (exfalso; exact h rfl)

end Go.Abs
