/- Contracts: effects done; the plain law that both texts do them alike. -/
import Derived.Test.YtdnppfhapkdlfaaDoorX07

set_option linter.unusedVariables false
set_option linter.unusedSimpArgs false
set_option linter.unusedSectionVars false

namespace Go.Abs
open Go.Proofs
set_option maxRecDepth 10000

/-- cluster.after -/
def afterV (x : Eff) (a : Attr) (p v : Val) : Val :=
  limitV a (if x.kind = 1 then ⟨a.kind, x.n, ⟨#[]⟩⟩ else if x.kind = 2 then p else if x.kind = 3 then ⟨v.kind, satI (v.n + x.n), v.s⟩ else if x.kind = 4 then ⟨v.kind, 1 - v.n, v.s⟩ else v)
/-- R21.Done -/
def doneV (x : Eff) (a : Attr) (p v : Val) : Val :=
  limitV a (if x.kind = 1 then ⟨v.kind, x.n, v.s⟩ else if x.kind = 2 then p else if x.kind = 3 then ⟨v.kind, v.n + x.n, v.s⟩ else if x.kind = 4 then ⟨v.kind, 1 - v.n, v.s⟩ else v)

theorem ac93 (x : Eff) (a : Attr) (p v : Val) (ha : smallA a) (hv : smallN v.n) (hx : x.kind = 3 → smallN x.n) : AC Tryd.prog 93 [.pv (.agg (cEff x)), .pv (.agg (cAttr a)), .pv (.agg (cVal p)), .pv (.agg (cVal v))] [] (.pv (.agg (cVal (afterV x a p v)))) [] := by
  have ⟨h1, h2⟩ := hv
  refine AC.of_awp (T := T) T_ok hm Tryd.call93 Tryd.func93 rfl rfl rfl ?_
  conv => whnf
  repeat (any_goals (first
    | (refine ⟨fun (h : (_ : Bool) = true) => ?_, fun (h : (_ : Bool) = false) => ?_⟩ <;> (try simp only [decide_eq_true_eq, decide_eq_false_iff_not, Bool.not_eq_true', Bool.not_eq_false', Int.toNat_natCast, beq_iff_eq, decide_eq_decide, beq_eq_false_iff_ne, ne_eq, reduceCtorEq] at h) <;> (conv => whnf))
    | (refine .inl ⟨_, ac115 a ⟨a.kind, x.n, ⟨#[]⟩⟩ ha, ?_⟩; conv => whnf)
    | (refine .inl ⟨_, ac115 a p ha, ?_⟩; conv => whnf)
    | (refine .inl ⟨_, ac114 v.n x.n hv (hx h), ?_⟩; conv => whnf)
    | (refine .inl ⟨_, ac115 a ⟨v.kind, satI (v.n + x.n), v.s⟩ ha, ?_⟩; conv => whnf)
    | (refine .inl ⟨_, ac115 a ⟨v.kind, 1 - v.n, v.s⟩ ha, ?_⟩; conv => whnf)
    | (refine .inl ⟨_, ac115 a v ha, ?_⟩; conv => whnf)
    | (refine And.intro (by (try simp only [Int.toNat_natCast]); omega) ?_; conv => whnf)
    | (refine And.intro (by kernel_rfl) ?_; conv => whnf)
    | (refine .inl ⟨wrap64 (by omega), ?_⟩; conv => whnf)))
  all_goals first
    | (rw [afterV, if_pos (by assumption)]; exact .rfl)
    | (rw [afterV, if_neg (by assumption), if_pos (by assumption)]; exact .rfl)
    | (rw [afterV, if_neg (by assumption), if_neg (by assumption), if_pos (by assumption)]; exact .rfl)
    | (rw [afterV, if_neg (by assumption), if_neg (by assumption), if_neg (by assumption), if_pos (by assumption)]; exact .rfl)
    | (rw [afterV, if_neg (by assumption), if_neg (by assumption), if_neg (by assumption), if_neg (by assumption)]; exact .rfl)

theorem ac96 (x : Eff) (a : Attr) (p v : Val) (ha : smallA a) (hv : smallN v.n) (hx : x.kind = 3 → smallN x.n) : AC Tryd.prog 96 [.pv (.agg (cEff x)), .pv (.agg (cAttr a)), .pv (.agg (cVal p)), .pv (.agg (cVal v))] [] (.pv (.agg (cVal (doneV x a p v)))) [] := by
  have ⟨h1, h2⟩ := hv
  have h3 : x.kind = 3 → -4611686018427387904 ≤ x.n ∧ x.n ≤ 4611686018427387903 := hx
  refine AC.of_awp (T := T) T_ok hm Tryd.call96 Tryd.func96 rfl rfl rfl ?_
  conv => whnf
  repeat (any_goals (first
    | (refine ⟨fun (h : (_ : Bool) = true) => ?_, fun (h : (_ : Bool) = false) => ?_⟩ <;> (try simp only [decide_eq_true_eq, decide_eq_false_iff_not, Bool.not_eq_true', Bool.not_eq_false', Int.toNat_natCast, beq_iff_eq, decide_eq_decide, beq_eq_false_iff_ne, ne_eq, reduceCtorEq] at h) <;> (conv => whnf))
    | (refine .inl ⟨_, ac82 a ⟨v.kind, x.n, v.s⟩ ha, ?_⟩; conv => whnf)
    | (refine .inl ⟨_, ac82 a p ha, ?_⟩; conv => whnf)
    | (refine .inl ⟨_, ac82 a ⟨v.kind, v.n + x.n, v.s⟩ ha, ?_⟩; conv => whnf)
    | (refine .inl ⟨_, ac82 a ⟨v.kind, 1 - v.n, v.s⟩ ha, ?_⟩; conv => whnf)
    | (refine .inl ⟨_, ac82 a v ha, ?_⟩; conv => whnf)
    | (refine And.intro (by (try simp only [Int.toNat_natCast]); omega) ?_; conv => whnf)
    | (refine And.intro (by kernel_rfl) ?_; conv => whnf)
    | (refine .inl ⟨wrap64 (by omega), ?_⟩; conv => whnf)))
  all_goals first
    | (rw [doneV, if_pos (by assumption)]; exact .rfl)
    | (rw [doneV, if_neg (by assumption), if_pos (by assumption)]; exact .rfl)
    | (rw [doneV, if_neg (by assumption), if_neg (by assumption), if_pos (by assumption)]; exact .rfl)
    | (rw [doneV, if_neg (by assumption), if_neg (by assumption), if_neg (by assumption), if_pos (by assumption)]; exact .rfl)
    | (rw [doneV, if_neg (by assumption), if_neg (by assumption), if_neg (by assumption), if_neg (by assumption)]; exact .rfl)

theorem fits_iff {a : Attr} {v : Val} : fitsE a v = 0 ↔ (defE a = 0 ∧ valE v = 0 ∧ v.kind = a.kind ∧ ¬ ((v.kind = 2 ∧ (v.n < a.min ∨ a.max < v.n)) ∨ (v.kind = 3 ∧ (a.enum.length : Int) ≤ v.n))) := by
  unfold fitsE
  constructor
  · intro h
    split at h
    · contradiction
    · split at h
      · contradiction
      · split at h
        · cases h
        · split at h
          · cases h
          · refine ⟨by omega, by omega, by omega, by assumption⟩
  · rintro ⟨h1, h2, h3, h4⟩
    rw [if_neg (by omega), if_neg (by omega), if_neg (by omega), if_neg h4]

theorem val_iff {v : Val} : valE v = 0 ↔ (0 ≤ v.kind ∧ v.kind ≤ 4 ∧ ((v.kind = 0 ∨ v.kind = 4) → v.n = 0) ∧ (v.kind = 1 → v.n = 0 ∨ v.n = 1) ∧ (v.kind = 2 → inRange v.n = true) ∧ (v.kind = 3 → 0 ≤ v.n ∧ v.n ≤ 63) ∧ v.s.size ≤ 60 ∧ (v.s = ⟨#[]⟩ ∨ v.kind = 4)) := by
  unfold valE
  constructor
  · intro h
    split at h
    · cases h
    · rename_i h1
      split at h
      · cases h
      · rename_i h2
        split at h
        · cases h
        · rename_i h3
          split at h
          · cases h
          · rename_i h4
            refine ⟨by omega, by omega, by omega, by omega, fun hk => ?_, by omega, by omega, ?_⟩
            · cases hi : inRange v.n with
              | true => rfl
              | false => exact absurd (.inr (.inr (.inl ⟨hk, hi⟩))) h2
            · by_cases hs : v.s = ⟨#[]⟩
              · exact .inl hs
              · exact .inr (Classical.not_not.1 fun hk => h4 ⟨hs, hk⟩)
  · rintro ⟨h1, h2, h3, h4, h5, h6, h7, h8⟩
    rw [if_neg (by omega), if_neg, if_neg (by omega), if_neg]
    · rintro ⟨hs, hk⟩; rcases h8 with h | h
      · exact hs h
      · exact hk h
    · rintro (h | h | h | h)
      · omega
      · omega
      · rw [h5 h.1] at h; cases h.2
      · omega

theorem def_int {a : Attr} (h : defE a = 0) (hk : a.kind = 2) : inRange a.min = true ∧ inRange a.max = true ∧ a.min ≤ a.max := by
  unfold defE at h
  split at h
  · cases h
  · split at h
    · cases h
    · split at h
      · cases h
      · rename_i h1
        have h2 : ¬ (inRange a.min = false ∨ inRange a.max = false ∨ a.max < a.min) := fun x => h1 ⟨hk, x⟩
        refine ⟨?_, ?_, ?_⟩
        · cases e : inRange a.min with
          | true => rfl
          | false => exact absurd (.inl e) h2
        · cases e : inRange a.max with
          | true => rfl
          | false => exact absurd (.inr (.inl e)) h2
        · exact Int.not_lt.1 fun x => h2 (.inr (.inr x))

theorem inRange_iff {n : Int} : inRange n = true ↔ -1099511627776 ≤ n ∧ n ≤ 1099511627776 := by simp [inRange]

theorem limit_fits {a : Attr} {v : Val} (h : fitsE a v = 0) : limitV a v = v := by
  rw [fits_iff] at h
  unfold limitV
  split
  · rename_i hh
    obtain ⟨k, n, s⟩ := v
    simp only at *
    congr 1
    unfold clampI
    have := def_int h.1 hh.2.1
    rw [if_neg (by omega), if_neg (by omega)]
  · rfl

/-- An integer value, limited, fits. -/
theorem limit_int {a : Attr} {n : Int} {s : ByteArray} (hd : defE a = 0) (hk : a.kind = 2) (hs : s = ⟨#[]⟩) : limitV a ⟨2, n, s⟩ = ⟨2, clampI n a.min a.max, s⟩ ∧ fitsE a (limitV a ⟨2, n, s⟩) = 0 := by
  have e : limitV a ⟨2, n, s⟩ = ⟨2, clampI n a.min a.max, s⟩ := by
    unfold limitV; rw [if_pos ⟨hd, hk, rfl⟩]
  refine ⟨e, ?_⟩
  rw [e, fits_iff, val_iff]
  obtain ⟨h1, h2, h3⟩ := def_int hd hk
  rw [inRange_iff] at h1 h2
  have hc : a.min ≤ clampI n a.min a.max ∧ clampI n a.min a.max ≤ a.max := by unfold clampI; (repeat' split) <;> omega
  simp only [inRange_iff]
  subst hs
  refine ⟨hd, ⟨by omega, by omega, by omega, by omega, by omega, by omega, by decide, .inl rfl⟩, by omega, by omega⟩

theorem suits_cases {x : Eff} {a p : Attr} (h : suitsB x a p = true) : (x.kind = 1 ∧ a.kind ≠ 4 ∧ fitsE a ⟨a.kind, x.n, ⟨#[]⟩⟩ = 0) ∨ (x.kind = 2 ∧ a.kind = p.kind ∧ a.enum = p.enum) ∨ (x.kind = 3 ∧ a.kind = 2) ∨ (x.kind ≠ 1 ∧ x.kind ≠ 2 ∧ x.kind ≠ 3 ∧ a.kind = 1) := by
  unfold suitsB at h
  split at h
  · rename_i hk; simp only [Bool.and_eq_true, decide_eq_true_eq] at h; exact .inl ⟨hk, h⟩
  · split at h
    · rename_i hk; simp only [alikeB, Bool.and_eq_true, decide_eq_true_eq] at h; exact .inr (.inl ⟨hk, h⟩)
    · split at h
      · rename_i hk; simp only [decide_eq_true_eq] at h; exact .inr (.inr (.inl ⟨hk, h⟩))
      · simp only [decide_eq_true_eq] at h; exact .inr (.inr (.inr ⟨by assumption, by assumption, by assumption, h⟩))

/-- cluster.accepts -/
def acceptsE (d : Cmd) (p : Val) : Int := if d.param.kind ≠ 0 then fitsE d.param p else if p ≠ noVal then 11 else 0

/-- An effect that suits its attribute: what it leaves fits, and both texts leave the same. -/
theorem after_ok {x : Eff} {a : Attr} {d : Cmd} {p v : Val} (hk : 1 ≤ x.kind ∧ x.kind ≤ 4) (hs : suitsB x a d.param = true) (hp : acceptsE d p = 0) (hv : fitsE a v = 0) (hn : x.kind = 3 → satI x.n = x.n) :
    fitsE a (afterV x a p v) = 0 ∧ doneV x a p v = afterV x a p v := by
  obtain ⟨hd, hval, hvk, hvb⟩ := fits_iff.1 hv
  have hv2 := val_iff.1 hval
  rcases suits_cases hs with ⟨h1, h2, h3⟩ | ⟨h1, h2, h3⟩ | ⟨h1, h2⟩ | ⟨h1, h2, h3, h4⟩
  · have hvs : v.s = ⟨#[]⟩ := by rcases hv2.2.2.2.2.2.2.2 with h | h; exact h; omega
    unfold afterV doneV
    rw [if_pos h1, if_pos h1, hvk, hvs]
    exact ⟨by rw [limit_fits h3]; exact h3, rfl⟩
  · unfold afterV doneV
    rw [if_neg (by omega), if_pos h1, if_neg (by omega), if_pos h1]
    refine ⟨?_, rfl⟩
    have hak : 1 ≤ a.kind := by
      unfold defE at hd
      split at hd
      · cases hd
      · split at hd
        · cases hd
        · omega
    have hpf : fitsE d.param p = 0 := by
      unfold acceptsE at hp; rw [if_pos (by omega)] at hp; exact hp
    obtain ⟨hpd, hpv, hpk, hpb⟩ := fits_iff.1 hpf
    have hp2 := val_iff.1 hpv
    by_cases hk2 : a.kind = 2
    · have e : p = ⟨2, p.n, p.s⟩ := by cases p; simp only at *; congr 1; omega
      rw [e]
      refine (limit_int hd hk2 ?_).2
      rcases hp2.2.2.2.2.2.2.2 with h | h; exact h; omega
    · have e : limitV a p = p := by unfold limitV; rw [if_neg (by omega)]
      rw [e, fits_iff]
      refine ⟨hd, hpv, by omega, ?_⟩
      rw [h3]; omega
  · have hvs : v.s = ⟨#[]⟩ := by rcases hv2.2.2.2.2.2.2.2 with h | h; exact h; omega
    have hvk2 : v.kind = 2 := by omega
    unfold afterV doneV
    rw [if_neg (by omega), if_neg (by omega), if_pos h1, if_neg (by omega), if_neg (by omega), if_pos h1, hvk2]
    have e1 := limit_int (n := satI (v.n + x.n)) hd h2 hvs
    have e2 := limit_int (n := v.n + x.n) hd h2 hvs
    refine ⟨e1.2, ?_⟩
    rw [e1.1, e2.1]
    congr 1
    obtain ⟨h3, h4, h5⟩ := def_int hd h2
    rw [inRange_iff] at h3 h4
    unfold clampI satI
    (repeat' split) <;> omega
  · have h5 : x.kind = 4 := by omega
    unfold afterV doneV
    simp only [h5, if_true, if_false, reduceIte, Int.reduceEq]
    have e : limitV a ⟨v.kind, 1 - v.n, v.s⟩ = ⟨v.kind, 1 - v.n, v.s⟩ := by unfold limitV; rw [if_neg (by omega)]
    rw [e, fits_iff, val_iff]
    simp only
    refine ⟨⟨hd, ⟨by omega, by omega, ?_, ?_, ?_, ?_, by omega, hv2.2.2.2.2.2.2.2⟩, hvk, ?_⟩, trivial⟩
    all_goals first | omega | (intro h; omega)

theorem fits_small {a : Attr} {v : Val} (h : fitsE a v = 0) : smallN v.n := by
  have h2 := val_iff.1 (fits_iff.1 h).2.1
  have : v.kind = 0 ∨ v.kind = 1 ∨ v.kind = 2 ∨ v.kind = 3 ∨ v.kind = 4 := by omega
  unfold smallN
  rcases this with e | e | e | e | e
  · have := h2.2.2.1 (.inl e); omega
  · have := h2.2.2.2.1 e; omega
  · have := inRange_iff.1 (h2.2.2.2.2.1 e); omega
  · have := h2.2.2.2.2.2.1 e; omega
  · have := h2.2.2.1 (.inr e); omega

theorem ac91 (d : Cmd) (p : Val) (hd : smallC d) : AC Tryd.prog 91 [.pv (.agg (cCmd d)), .pv (.agg (cVal p))] [] (.pv (vint (acceptsE d p))) [] := by
  refine AC.of_awp (T := T) T_ok hm Tryd.call91 Tryd.func91 rfl rfl rfl ?_
  conv => whnf
  repeat (any_goals (first
    | (refine ⟨fun (h : (_ : Bool) = true) => ?_, fun (h : (_ : Bool) = false) => ?_⟩ <;> (try simp only [decide_eq_true_eq, decide_eq_false_iff_not, Bool.not_eq_true', Bool.not_eq_false', Int.toNat_natCast, beq_iff_eq, decide_eq_decide, beq_eq_false_iff_ne, ne_eq, reduceCtorEq] at h) <;> (conv => whnf))
    | (refine .inl ⟨_, ac83 d.param p hd.1, ?_⟩; conv => whnf)
    | (refine And.intro (by (try simp only [Int.toNat_natCast]); omega) ?_; conv => whnf)
    | (refine And.intro (by kernel_rfl) ?_; conv => whnf)
    | (refine .inl ⟨wrap64 (by omega), ?_⟩; conv => whnf)))
  all_goals try rw [show (decide (p.kind = 0) && (decide (p.n = 0) && (decide (p.s = ⟨#[]⟩) && true))) = decide (p = noVal) from val_eq p noVal] at h
  all_goals try simp only [decide_eq_true_eq, decide_eq_false_iff_not] at h
  all_goals first
    | exact PSub.int (by simp [acceptsE, *])
    | exact PSub.int (by simp_all [acceptsE])

end Go.Abs

namespace Go.Abs
open Go.Proofs
set_option maxRecDepth 10000

theorem firstI_spec {n : Nat} {p : Nat → Bool} : (firstI n p < n ∧ p (firstI n p) = true ∧ ∀ j, j < firstI n p → p j = false) ∨ (firstI n p = n ∧ ∀ j, j < n → p j = false) := by
  unfold firstI
  split
  · rename_i i e
    rw [List.find?_range_eq_some] at e
    exact .inl ⟨by simpa using e.2.1, e.1, fun j hj => by simpa using e.2.2 j hj⟩
  · rename_i e
    rw [List.find?_eq_none] at e
    exact .inr ⟨rfl, fun j hj => by simpa using e j (by simpa using hj)⟩

/-- What a checked cluster is. -/
structure Checked (c : Clu) : Prop where
  distinct : ∀ i j, i < j → j < c.attrs.length → (c.attrs.getD i default).name ≠ (c.attrs.getD j default).name
  attrs : c.attrs.length ≤ 12
  cmds : ∀ i, i < c.commands.length → cmdE c i = 0
  defs : ∀ i, i < c.attrs.length → defE (c.attrs.getD i default) = 0

theorem checkE_ok {c : Clu} (h : checkE c = 0) : Checked c := by
  unfold checkE at h
  split at h
  · cases h
  split at h
  · cases h
  rename_i hw
  split at h
  · contradiction
  rename_i ha
  split at h
  · contradiction
  rename_i hc
  have ha := firstE_zero (Classical.not_not.1 ha)
  refine ⟨fun i j hi hj e => ?_, ?_, firstE_zero (Classical.not_not.1 hc), fun i hi => ?_⟩
  · have := ha j hj
    unfold attrE at this
    split at this
    · contradiction
    · rw [if_pos (anyN_true hi (by simpa [-List.getD_eq_getElem?_getD] using e))] at this
      cases this
  · rw [Bool.not_eq_true] at hw
    simp only [wideB, Bool.or_eq_false_iff, decide_eq_false_iff_not] at hw
    omega
  · have := ha i hi
    unfold attrE at this
    split at this
    · contradiction
    · rename_i h0; exact Classical.not_not.1 h0

theorem cmdE_effects {c : Clu} {i : Nat} (h : cmdE c i = 0) : ∀ j, j < (c.commands.getD i default).effects.length → effE c (c.commands.getD i default).param ((c.commands.getD i default).effects.getD j default) = 0 := by
  unfold cmdE at h
  split at h
  · cases h
  split at h
  · cases h
  split at h
  · cases h
  split at h
  · omega
  exact firstE_zero h

theorem effE_ok {c : Clu} {p : Attr} {x : Eff} (h : effE c p x = 0) : (1 ≤ x.kind ∧ x.kind ≤ 4) ∧ attrAt c.attrs x.attr < c.attrs.length ∧ suitsB x (c.attrs.getD (attrAt c.attrs x.attr) default) p = true ∧ (x.kind = 3 → satI x.n = x.n) := by
  unfold effE at h
  split at h
  · cases h
  split at h
  · cases h
  rename_i h1 h2
  have h2 := Classical.not_not.1 h2
  have e : attrOf c.attrs x.attr = c.attrs.getD (attrAt c.attrs x.attr) default := by rw [attrOf, if_pos h2]
  rw [e] at h
  split at h
  · cases h
  split at h
  · cases h
  rename_i h3 h4
  split at h
  · cases h
  rename_i h5
  refine ⟨by omega, h2, by simpa using h4, fun hk => Classical.not_not.1 fun hn => h5 ⟨hk, hn⟩⟩

theorem attrAt_name {l : List Attr} {s : ByteArray} (h : attrAt l s < l.length) : (l.getD (attrAt l s) default).name = s := by
  unfold attrAt at *
  rcases firstI_spec (n := l.length) (p := fun i => decide ((l.getD i default).name = s)) with ⟨_, h2, _⟩ | ⟨h1, _⟩
  · simpa [-List.getD_eq_getElem?_getD] using h2
  · omega

theorem attrAt_eq {c : Clu} (hc : Checked c) {s : ByteArray} {j : Nat} (hj : j < c.attrs.length) (h : (c.attrs.getD j default).name = s) : attrAt c.attrs s = j := by
  have hlt : attrAt c.attrs s < c.attrs.length := by
    unfold attrAt
    rcases firstI_spec (n := c.attrs.length) (p := fun i => decide ((c.attrs.getD i default).name = s)) with ⟨h1, _⟩ | ⟨_, h2⟩
    · exact h1
    · have := h2 j hj; simp [h, -List.getD_eq_getElem?_getD] at this
  have hn := attrAt_name hlt
  rcases Nat.lt_trichotomy (attrAt c.attrs s) j with h1 | h1 | h1
  · exact absurd (hn.trans h.symm) (hc.distinct _ _ h1 hj)
  · exact h1
  · exact absurd (h.trans hn.symm) (hc.distinct _ _ h1 hlt)

/-- one effect on the values -/
def stepL (c : Clu) (p : Val) (x : Eff) (out : List Val) : List Val := out.set (attrAt c.attrs x.attr) (afterV x (c.attrs.getD (attrAt c.attrs x.attr) default) p (out.getD (attrAt c.attrs x.attr) default))
/-- the first k effects -/
def applyTo (c : Clu) (d : Cmd) (p : Val) (vals : List Val) : Nat → List Val
  | 0 => vals
  | k + 1 => stepL c p (d.effects.getD k default) (applyTo c d p vals k)

def fitsAll (c : Clu) (vals : List Val) : Prop := vals.length = c.attrs.length ∧ ∀ i, i < c.attrs.length → fitsE (c.attrs.getD i default) (vals.getD i default) = 0

theorem getD_set {α : Type} [Inhabited α] {l : List α} {i j : Nat} {x : α} : (l.set i x).getD j default = if j = i ∧ i < l.length then x else l.getD j default := by
  by_cases e : j = i
  · subst e
    by_cases h : j < l.length
    · rw [if_pos ⟨rfl, h⟩]; simp [List.getD, h]
    · rw [if_neg (by omega)]; simp [List.getD, Nat.le_of_not_lt h]
  · rw [if_neg (by omega)]
    simp [List.getD, List.getElem?_set_ne (Ne.symm e)]

theorem stepL_fits {c : Clu} {d : Cmd} {p : Val} {x : Eff} {out : List Val} (hx : effE c d.param x = 0) (hp : acceptsE d p = 0) (h : fitsAll c out) : fitsAll c (stepL c p x out) := by
  obtain ⟨h1, h2, h3, h4⟩ := effE_ok hx
  refine ⟨by rw [stepL, List.length_set]; exact h.1, fun i hi => ?_⟩
  rw [stepL, getD_set]
  split
  · rename_i e
    rw [e.1]
    exact (after_ok h1 h3 hp (h.2 _ h2) h4).1
  · exact h.2 i hi

theorem applyTo_fits {c : Clu} {d : Cmd} {p : Val} {vals : List Val} (hd : ∀ j, j < d.effects.length → effE c d.param (d.effects.getD j default) = 0) (hp : acceptsE d p = 0) (h : fitsAll c vals) : ∀ k, k ≤ d.effects.length → fitsAll c (applyTo c d p vals k)
  | 0, _ => h
  | k + 1, hk => stepL_fits (hd k (by omega)) hp (applyTo_fits hd hp h k (by omega))

def badV (c : Clu) (vals : List Val) (i : Nat) : Bool := decide (fitsE (c.attrs.getD i default) (vals.getD i default) ≠ 0)
/-- cluster.Apply: its error -/
def applyE (c : Clu) (s : ByteArray) (p : Val) (vals : List Val) : Int :=
  if checkE c ≠ 0 then checkE c else if ¬ cmdAt c.commands s < c.commands.length then 8 else if acceptsE (cmdOf c.commands s) p ≠ 0 then acceptsE (cmdOf c.commands s) p
  else if vals.length ≠ c.attrs.length then 1 else if anyN vals.length (badV c vals) = true then 1 else 0
def applyL (c : Clu) (s : ByteArray) (p : Val) (vals : List Val) : List Val := if applyE c s p vals = 0 then applyTo c (cmdOf c.commands s) p vals (cmdOf c.commands s).effects.length else []

theorem cmdOf_small {c : Clu} (hc : smallK c) {s : ByteArray} : smallC (cmdOf c.commands s) := by
  unfold cmdOf
  split
  · exact hc.2.2.2.1 _
  · exact ⟨Nat.zero_le _, Nat.zero_le _⟩

theorem cmdOf_effects {c : Clu} (hc : Checked c) {s : ByteArray} (h : cmdAt c.commands s < c.commands.length) : ∀ j, j < (cmdOf c.commands s).effects.length → effE c (cmdOf c.commands s).param ((cmdOf c.commands s).effects.getD j default) = 0 := by
  rw [cmdOf, if_pos h]
  exact cmdE_effects (hc.cmds _ h)

theorem satI_small {n : Int} (h : satI n = n) : smallN n := by unfold satI at h; unfold smallN; omega

theorem ac63 (c : Clu) (s : ByteArray) (p : Val) (vals : List Val) (hc : smallK c) (hl : smallL vals) : AC Tryd.prog 63 [.pv (.agg (cClu c)), .pv (vstr s), .pv (.agg (cVal p)), .pv (roL 3 cVal vals)] [] (.pv (.tup [roL 3 cVal (applyL c s p vals), vint (applyE c s p vals)])) [] := by
  have hl2 : vals.length ≤ 1048576 := hl
  have hds := cmdOf_small hc (s := s)
  have hde : (cmdOf c.commands s).effects.length ≤ 1048576 := hds.2
  refine AC.of_awp (T := T) T_ok hm Tryd.call63 Tryd.func63 rfl rfl rfl ?_
  conv => whnf
  refine .inl ⟨_, ac71 c hc, ?_⟩
  conv => whnf
  refine ⟨fun h => ?_, fun h => ?_⟩ <;> (try simp only [decide_eq_true_eq, decide_eq_false_iff_not, Bool.not_eq_true', Bool.not_eq_false', Int.toNat_natCast, beq_iff_eq, decide_eq_decide, beq_eq_false_iff_ne, ne_eq, reduceCtorEq] at h) <;> (conv => whnf)
  · have e : applyE c s p vals = checkE c := by rw [applyE, if_pos h]
    rw [applyL, e]
    refine ⟨?_, ?_⟩ <;> (conv => whnf)
    · exact PSub.nilL (by simp [*])
    · exact .rfl
  have h0 := h
  refine .inl ⟨_, ac90 c s hc, ?_⟩
  conv => whnf
  refine ⟨fun h => ?_, fun h => ?_⟩ <;> (try simp only [decide_eq_true_eq, decide_eq_false_iff_not, Bool.not_eq_true', Bool.not_eq_false', Int.toNat_natCast, beq_iff_eq, decide_eq_decide, beq_eq_false_iff_ne, ne_eq, reduceCtorEq] at h) <;> (conv => whnf)
  · have e : applyE c s p vals = 8 := by rw [applyE, if_neg (by simpa using h0), if_pos h]
    rw [applyL, e]
    refine ⟨?_, ?_⟩ <;> (conv => whnf)
    · exact PSub.nilL (by simp [*])
    · exact .rfl
  have h1 := h
  refine .inl ⟨_, ac91 (cmdOf c.commands s) p hds, ?_⟩
  conv => whnf
  refine ⟨fun h => ?_, fun h => ?_⟩ <;> (try simp only [decide_eq_true_eq, decide_eq_false_iff_not, Bool.not_eq_true', Bool.not_eq_false', Int.toNat_natCast, beq_iff_eq, decide_eq_decide, beq_eq_false_iff_ne, ne_eq, reduceCtorEq] at h) <;> (conv => whnf)
  · have e : applyE c s p vals = acceptsE (cmdOf c.commands s) p := by rw [applyE, if_neg (by simpa using h0), if_neg (by simpa using h1), if_pos h]
    rw [applyL, e]
    refine ⟨?_, ?_⟩ <;> (conv => whnf)
    · exact PSub.nilL (by simp [*])
    · exact .rfl
  have h2 := h
  refine ⟨fun h => ?_, fun h => ?_⟩ <;> (try simp only [decide_eq_true_eq, decide_eq_false_iff_not, Bool.not_eq_true', Bool.not_eq_false', Int.toNat_natCast, beq_iff_eq, decide_eq_decide, beq_eq_false_iff_ne, ne_eq, reduceCtorEq] at h) <;> (conv => whnf)
  · have e : applyE c s p vals = 1 := by rw [applyE, if_neg (by simpa using h0), if_neg (by simpa using h1), if_neg (by simpa using h2), if_pos (by omega)]
    rw [applyL, e]
    refine ⟨?_, ?_⟩ <;> (conv => whnf)
    · exact PSub.nilL (by simp [*])
    · exact .rfl
  have h3 : vals.length = c.attrs.length := by omega
  clear h
  have hk := checkE_ok h0
  have heff := cmdOf_effects hk h1
  refine loop_k (ι := Nat) [3, 4, 6, 11, 46, 47] [4, 6, 11] (fun k => k ≤ vals.length ∧ (∀ j, j < k → badV c vals j = false)) (fun k => vals.length - k) 0 (fun k => [(48, .pv (vint k))]) (fun _ => []) [] ⟨Nat.zero_le _, fun j h => absurd h (by omega)⟩ ?_ (fun k hk => ?_)
  · (repeat' (first | exact PSub.rfl | exact rfl | exact PSubs.rfl | exact trivial | refine And.intro ?_ ?_))
  obtain ⟨hkn, hinv⟩ := hk
  conv => whnf
  refine ⟨fun h => ?_, fun h => ?_⟩ <;> (try simp only [decide_eq_true_eq, decide_eq_false_iff_not, Bool.not_eq_true', Bool.not_eq_false', Int.toNat_natCast, beq_iff_eq, decide_eq_decide, beq_eq_false_iff_ne, ne_eq, reduceCtorEq] at h) <;> (conv => whnf)
  · repeat (any_goals (first
      | (refine ⟨fun (h : (_ : Bool) = true) => ?_, fun (h : (_ : Bool) = false) => ?_⟩ <;> (try simp only [decide_eq_true_eq, decide_eq_false_iff_not, Bool.not_eq_true', Bool.not_eq_false', Int.toNat_natCast, beq_iff_eq, decide_eq_decide, beq_eq_false_iff_ne, ne_eq, reduceCtorEq] at h) <;> (conv => whnf))
      | (refine .inl ⟨_, ac83 (c.attrs.getD k default) (vals.getD k default) (hc.2.1 k), ?_⟩; conv => whnf)
      | (refine And.intro (by (try simp only [Int.toNat_natCast]); omega) ?_; conv => whnf)
      | (refine And.intro (by kernel_rfl) ?_; conv => whnf)
      | (refine .inl ⟨wrap64 (by omega), ?_⟩; conv => whnf)))
    · have e : applyE c s p vals = 1 := by rw [applyE, if_neg (by simpa using h0), if_neg (by simpa using h1), if_neg (by simpa using h2), if_neg (by omega), if_pos (anyN_true (k := k) (by omega) (by simpa [badV, -List.getD_eq_getElem?_getD] using h))]
      rw [applyL, e]
      refine ⟨?_, ?_⟩ <;> (conv => whnf)
      · exact PSub.nilL (by simp [*])
      · exact .rfl
    · refine ⟨k + 1, [], ⟨by omega, ?_⟩, by first | omega | (dsimp only; omega), ?_⟩
      rotate_left
      · (repeat' (first | exact PSub.rfl | exact rfl | exact PSubs.rfl | exact trivial | refine And.intro ?_ ?_))
      intro j hj
      by_cases e : j = k
      · subst e; simpa [badV, -List.getD_eq_getElem?_getD] using h
      · exact hinv j (by omega)
  have hnb : anyN vals.length (badV c vals) = false := anyN_false fun j hj => hinv j (by omega)
  have hfa : fitsAll c vals := ⟨h3, fun i hi => by have := hinv i (by omega); simpa [badV, -List.getD_eq_getElem?_getD] using this⟩
  have e : applyE c s p vals = 0 := by rw [applyE, if_neg (by simpa using h0), if_neg (by simpa using h1), if_neg (by simpa using h2), if_neg (by omega), hnb, if_neg (by decide)]
  have eL : applyL c s p vals = applyTo c (cmdOf c.commands s) p vals (cmdOf c.commands s).effects.length := by rw [applyL, if_pos e]
  rw [e, eL]
  generalize cmdOf c.commands s = d at *
  have hfit := applyTo_fits heff h2 hfa
  clear h hinv hkn hnb
  refine .inr ⟨_, _, _, ac92 _ _ hl2, ?_⟩
  conv => whnf
  refine loop_k (ι := Nat) [4, 6, 16, 65, 66] [4, 6] (fun k => k ≤ d.effects.length ∧ True) (fun k => d.effects.length - k) 0 (fun k => [(67, .pv (vint k))]) (fun k => [(63, rowL 3 cVal (applyTo c d p vals k))]) [] ⟨Nat.zero_le _, trivial⟩ ?_ (fun k hk => ?_)
  · (repeat' (first | exact PSub.rfl | exact rfl | exact PSubs.rfl | exact trivial | refine And.intro ?_ ?_)); all_goals ((intro i hi; exact PSubs.rfl))
  obtain ⟨hkn, hinv⟩ := hk
  conv => whnf
  refine ⟨fun h => ?_, fun h => ?_⟩ <;> (try simp only [decide_eq_true_eq, decide_eq_false_iff_not, Bool.not_eq_true', Bool.not_eq_false', Int.toNat_natCast, beq_iff_eq, decide_eq_decide, beq_eq_false_iff_ne, ne_eq, reduceCtorEq] at h) <;> (conv => whnf)
  · repeat (any_goals (first
      | (refine ⟨fun (h : (_ : Bool) = true) => ?_, fun (h : (_ : Bool) = false) => ?_⟩ <;> (try simp only [decide_eq_true_eq, decide_eq_false_iff_not, Bool.not_eq_true', Bool.not_eq_false', Int.toNat_natCast, beq_iff_eq, decide_eq_decide, beq_eq_false_iff_ne, ne_eq, reduceCtorEq] at h) <;> (conv => whnf))
      | (refine And.intro (by (try simp only [Int.toNat_natCast]); omega) ?_; conv => whnf)
      | (refine And.intro (by kernel_rfl) ?_; conv => whnf)
      | (refine .inl ⟨wrap64 (by omega), ?_⟩; conv => whnf)))
    have hx := heff k (by omega)
    obtain ⟨g1, g2, g3, g4⟩ := effE_ok hx
    have hf := hfit k (by omega)
    have hf2 := stepL_fits hx h2 hf
    refine loop_k (ι := Nat) [4, 6, 16, 18, 65, 66, 67, 72, 73] [4, 6, 18] (fun j => j ≤ c.attrs.length ∧ True) (fun j => c.attrs.length - j) 0 (fun j => [(74, .pv (vint j))]) (fun j => [(63, rowL 3 cVal (if attrAt c.attrs (d.effects.getD k default).attr < j then stepL c p (d.effects.getD k default) (applyTo c d p vals k) else applyTo c d p vals k))]) [] ⟨Nat.zero_le _, trivial⟩ ?_ (fun j hk => ?_)
    · (repeat' (first | exact PSub.rfl | exact rfl | exact PSubs.rfl | exact trivial | refine And.intro ?_ ?_)); all_goals ((first | (simp only [Nat.not_lt_zero, if_false]; done) | (intro i hi; simp only [Nat.not_lt_zero, if_false]; exact PSubs.rfl)))
    obtain ⟨hkn, hinv⟩ := hk
    conv => whnf
    have hL : fitsAll c (if attrAt c.attrs (d.effects.getD k default).attr < j then stepL c p (d.effects.getD k default) (applyTo c d p vals k) else applyTo c d p vals k) := by split <;> assumption
    obtain ⟨L, hLe⟩ : ∃ L, L = if attrAt c.attrs (d.effects.getD k default).attr < j then stepL c p (d.effects.getD k default) (applyTo c d p vals k) else applyTo c d p vals k := ⟨_, rfl⟩
    rw [← hLe] at hL ⊢
    have hLl : L.length = c.attrs.length := hL.1
    repeat (any_goals (first
      | (refine ⟨fun (h : (_ : Bool) = true) => ?_, fun (h : (_ : Bool) = false) => ?_⟩ <;> (try simp only [decide_eq_true_eq, decide_eq_false_iff_not, Bool.not_eq_true', Bool.not_eq_false', Int.toNat_natCast, beq_iff_eq, decide_eq_decide, beq_eq_false_iff_ne, ne_eq, reduceCtorEq] at h) <;> (conv => whnf))
      | (refine .inl ⟨_, ac93 (d.effects.getD k default) (c.attrs.getD j default) p (L.getD j default) (hc.2.1 j) (fits_small (hL.2 j (by omega))) (fun hk3 => satI_small (g4 hk3)), ?_⟩; conv => whnf)
      | (refine And.intro (by (try simp only [Int.toNat_natCast]); omega) ?_; conv => whnf)
      | (refine And.intro (by kernel_rfl) ?_; conv => whnf)
      | (refine .inl ⟨wrap64 (by omega), ?_⟩; conv => whnf)))
    · have ej := attrAt_eq hk (j := j) (by omega) h
      have e1 : L = applyTo c d p vals k := by rw [hLe, if_neg (by omega)]
      refine ⟨j + 1, [], ⟨by omega, trivial⟩, by omega, ?_⟩
      rw [if_pos (by omega), stepL, ej, ← e1]
      (repeat' (first | exact PSub.rfl | exact rfl | exact PSubs.rfl | exact trivial | refine And.intro ?_ ?_))
      · simp
      · refine rows_set (i := j) (F := updAt _ _ _ _) (fun i hi e => ?_) (fun hi => ?_)
        · simp only [Int.toNat_natCast]; rw [updAt_ne e]; exact PSubs.rfl
        · simp only [Int.toNat_natCast]; rw [updAt_same]; exact PSubs.rfl
    · have ej : attrAt c.attrs (d.effects.getD k default).attr ≠ j := fun e => h (by rw [← e]; exact attrAt_name g2)
      refine ⟨j + 1, [], ⟨by omega, trivial⟩, by omega, ?_⟩
      have e1 : (if attrAt c.attrs (d.effects.getD k default).attr < j + 1 then stepL c p (d.effects.getD k default) (applyTo c d p vals k) else applyTo c d p vals k) = L := by
        rw [hLe]
        by_cases h5 : attrAt c.attrs (d.effects.getD k default).attr < j
        · rw [if_pos h5, if_pos (by omega)]
        · rw [if_neg h5, if_neg (by omega)]
      rw [e1]
      (repeat' (first | exact PSub.rfl | exact rfl | exact PSubs.rfl | exact trivial | refine And.intro ?_ ?_))
      intro i hi; exact PSubs.rfl
    · have e1 : L = applyTo c d p vals (k + 1) := by rw [hLe, if_pos (by omega), applyTo]
      refine ⟨k + 1, [], ⟨by omega, trivial⟩, by omega, ?_⟩
      rw [← e1]
      (repeat' (first | exact PSub.rfl | exact rfl | exact PSubs.rfl | exact trivial | refine And.intro ?_ ?_))
      intro i hi; exact PSubs.rfl
  · have ek : k = d.effects.length := by omega
    subst ek
    repeat (any_goals (first
      | (refine ⟨fun (h : (_ : Bool) = true) => ?_, fun (h : (_ : Bool) = false) => ?_⟩ <;> (try simp only [decide_eq_true_eq, decide_eq_false_iff_not, Bool.not_eq_true', Bool.not_eq_false', Int.toNat_natCast, beq_iff_eq, decide_eq_decide, beq_eq_false_iff_ne, ne_eq, reduceCtorEq] at h) <;> (conv => whnf))
      | (refine And.intro (by (try simp only [Int.toNat_natCast]); omega) ?_; conv => whnf)
      | (refine And.intro (by kernel_rfl) ?_; conv => whnf)
      | (refine .inl ⟨wrap64 (by omega), ?_⟩; conv => whnf)))
    refine ⟨?_, ?_⟩ <;> (conv => whnf)
    · exact .rfl
    · exact .rfl

end Go.Abs

namespace Go.Abs
open Go.Proofs
set_option maxRecDepth 10000

theorem placeI_eq {l : List Attr} {s : ByteArray} (h : attrAt l s < l.length) : placeI l s = (attrAt l s : Int) := by rw [placeI, if_pos h]

theorem val_eq0 (a : Val) : (decide (a.kind = 0) && (decide (a.n = 0) && (decide (a.s = ⟨#[]⟩) && true))) = decide (a = noVal) := val_eq a noVal

theorem ac66 (c : Clu) (s : ByteArray) (p : Val) (vals : List Val) (hc : smallK c) (hl : smallL vals) : AC Tryd.prog 66 [.pv (.agg (cClu c)), .pv (vstr s), .pv (.agg (cVal p)), .pv (roL 3 cVal vals)] [] (.pv (.tup [roL 3 cVal (applyL c s p vals), vint (applyE c s p vals)])) [] := by
  have hl2 : vals.length ≤ 1048576 := hl
  have hds := cmdOf_small hc (s := s)
  have hde : (cmdOf c.commands s).effects.length ≤ 1048576 := hds.2
  refine AC.of_awp (T := T) T_ok hm Tryd.call66 Tryd.func66 rfl rfl rfl ?_
  conv => whnf
  refine .inl ⟨_, ac73 c hc, ?_⟩
  conv => whnf
  refine ⟨fun h => ?_, fun h => ?_⟩ <;> (try simp only [decide_eq_true_eq, decide_eq_false_iff_not, Bool.not_eq_true', Bool.not_eq_false', Int.toNat_natCast, beq_iff_eq, decide_eq_decide, beq_eq_false_iff_ne, ne_eq, reduceCtorEq] at h) <;> (conv => whnf)
  · have e : applyE c s p vals = checkE c := by rw [applyE, if_pos h]
    rw [applyL, e]
    refine ⟨?_, ?_⟩ <;> (conv => whnf)
    · exact PSub.nilL (by simp [*])
    · exact .rfl
  have h0 := h
  refine .inl ⟨_, ac95 c s hc, ?_⟩
  conv => whnf
  refine ⟨fun h => ?_, fun h => ?_⟩ <;> (try simp only [decide_eq_true_eq, decide_eq_false_iff_not, Bool.not_eq_true', Bool.not_eq_false', Int.toNat_natCast, beq_iff_eq, decide_eq_decide, beq_eq_false_iff_ne, ne_eq, reduceCtorEq] at h) <;> (conv => whnf)
  · have e : applyE c s p vals = 8 := by rw [applyE, if_neg (by simpa using h0), if_pos h]
    rw [applyL, e]
    refine ⟨?_, ?_⟩ <;> (conv => whnf)
    · exact PSub.nilL (by simp [*])
    · exact .rfl
  have h1 := h
  clear h
  have hk := checkE_ok h0
  have heff := cmdOf_effects hk h1
  refine ⟨fun h => ?_, fun h => ?_⟩ <;> (try simp only [decide_eq_true_eq, decide_eq_false_iff_not, Bool.not_eq_true', Bool.not_eq_false', Int.toNat_natCast, beq_iff_eq, decide_eq_decide, beq_eq_false_iff_ne, ne_eq, reduceCtorEq] at h) <;> (conv => whnf)
  · refine ⟨fun h => ?_, fun h => ?_⟩ <;> (try simp only [decide_eq_true_eq, decide_eq_false_iff_not, Bool.not_eq_true', Bool.not_eq_false', Int.toNat_natCast, beq_iff_eq, decide_eq_decide, beq_eq_false_iff_ne, ne_eq, reduceCtorEq] at h) <;> (conv => whnf)
    · rename_i hpk
      rw [val_eq0] at h
      have ha : acceptsE (cmdOf c.commands s) p = 11 := by rw [acceptsE, if_neg (by simpa using hpk), if_pos (by simpa using h)]
      have e : applyE c s p vals = 11 := by rw [applyE, if_neg (by simpa using h0), if_neg (by simpa using h1), ha, if_pos (by decide)]
      rw [applyL, e]
      refine ⟨?_, ?_⟩ <;> (conv => whnf)
      · exact PSub.nilL (by simp [*])
      · exact .rfl
    · rename_i hpk
      rw [val_eq0] at h
      have h2 : acceptsE (cmdOf c.commands s) p = 0 := by rw [acceptsE, if_neg (by simpa using hpk), if_neg (by simpa using h)]
      refine ⟨fun h => ?_, fun h => ?_⟩ <;> (try simp only [decide_eq_true_eq, decide_eq_false_iff_not, Bool.not_eq_true', Bool.not_eq_false', Int.toNat_natCast, beq_iff_eq, decide_eq_decide, beq_eq_false_iff_ne, ne_eq, reduceCtorEq] at h) <;> (conv => whnf)
      · have e : applyE c s p vals = 1 := by rw [applyE, if_neg (by simpa using h0), if_neg (by simpa using h1), if_neg (by simpa using h2), if_pos (by omega)]
        rw [applyL, e]
        refine ⟨?_, ?_⟩ <;> (conv => whnf)
        · exact PSub.nilL (by simp [*])
        · exact .rfl
      have h3 : vals.length = c.attrs.length := by omega
      clear h
      refine And.intro (by omega) ?_
      conv => whnf
      refine loop_k (ι := Nat) [3, 4, 6, 11, 54] [4, 6, 11] (fun k => k ≤ vals.length ∧ ∀ j, j < k → badV c vals j = false) (fun k => vals.length - k) 0 (fun k => [(13, .own 500), (55, .pv (vint k))]) (fun k => [(500, rowL 3 cVal (vals.take k))]) [(500, 52)] ⟨Nat.zero_le _, fun j h => absurd h (by omega)⟩ ?_ (fun k hk => ?_)
      · (repeat' (first | exact PSub.rfl | exact rfl | exact PSubs.rfl | exact trivial | refine And.intro ?_ ?_))
        all_goals try (intro i hi; exact absurd hi (by simp))
      obtain ⟨hkn, hinv⟩ := hk
      conv => whnf
      refine ⟨fun h => ?_, fun h => ?_⟩ <;> (try simp only [decide_eq_true_eq, decide_eq_false_iff_not, Bool.not_eq_true', Bool.not_eq_false', Int.toNat_natCast, beq_iff_eq, decide_eq_decide, beq_eq_false_iff_ne, ne_eq, reduceCtorEq] at h) <;> (conv => whnf)
      · have hlt : (vals.take k).length = k := by rw [List.length_take]; omega
        repeat (any_goals (first
          | (refine ⟨fun (h : (_ : Bool) = true) => ?_, fun (h : (_ : Bool) = false) => ?_⟩ <;> (try simp only [decide_eq_true_eq, decide_eq_false_iff_not, Bool.not_eq_true', Bool.not_eq_false', Int.toNat_natCast, beq_iff_eq, decide_eq_decide, beq_eq_false_iff_ne, ne_eq, reduceCtorEq] at h) <;> (conv => whnf))
          | (refine .inl ⟨_, ac53 (c.attrs.getD k default) (vals.getD k default) (hc.2.1 k), ?_⟩; conv => whnf)
          | (refine And.intro (by (try simp only [Int.toNat_natCast]); omega) ?_; conv => whnf)
          | (refine And.intro (by kernel_rfl) ?_; conv => whnf)
          | (refine .inl ⟨wrap64 (by omega), ?_⟩; conv => whnf)))
        · have e : applyE c s p vals = 1 := by rw [applyE, if_neg (by simpa using h0), if_neg (by simpa using h1), if_neg (by simpa using h2), if_neg (by omega), if_pos (anyN_true (k := k) (by omega) (by simpa [badV, -List.getD_eq_getElem?_getD] using h))]
          rw [applyL, e]
          refine ⟨?_, ?_⟩ <;> (conv => whnf)
          · exact PSub.nilL (by simp [*])
          · exact .rfl
        · refine ⟨k + 1, [(500, 75)], ⟨by omega, ?_⟩, by omega, ?_⟩
          · intro j hj
            by_cases e : j = k
            · subst e; simpa [badV, -List.getD_eq_getElem?_getD] using h
            · exact hinv j (by omega)
          · rw [take_succ_getD (by omega)]
            (repeat' (first | exact PSub.rfl | exact rfl | exact PSubs.rfl | exact trivial | refine And.intro ?_ ?_))
            · simp; try omega
            · refine rows_snocF (fun i hi => by simp only [if_pos hi]; exact PSubs.rfl) (by simp only [if_neg (Nat.lt_irrefl _), Nat.sub_self]; exact PSubs.rfl)
      have hnb : anyN vals.length (badV c vals) = false := anyN_false fun j hj => hinv j (by omega)
      have hfa : fitsAll c vals := ⟨h3, fun i hi => by have := hinv i (by omega); simpa [badV, -List.getD_eq_getElem?_getD] using this⟩
      have e : applyE c s p vals = 0 := by rw [applyE, if_neg (by simpa using h0), if_neg (by simpa using h1), if_neg (by simpa using h2), if_neg (by omega), hnb, if_neg (by decide)]
      have eL : applyL c s p vals = applyTo c (cmdOf c.commands s) p vals (cmdOf c.commands s).effects.length := by rw [applyL, if_pos e]
      rw [e, eL]
      have hfit := applyTo_fits heff h2 hfa
      have htk : vals.take k = vals := List.take_of_length_le (by omega)
      clear h hinv hkn hnb e eL
      refine loop_k (ι := Nat) [4, 6, 11, 13, 79] [4, 6, 11] (fun k2 => k2 ≤ (cmdOf c.commands s).effects.length ∧ True) (fun k2 => (cmdOf c.commands s).effects.length - k2) 0 (fun k2 => [(80, .pv (vint k2))]) (fun k2 => [(500, rowL 3 cVal (applyTo c (cmdOf c.commands s) p vals k2))]) [] ⟨Nat.zero_le _, trivial⟩ ?_ (fun k2 hk => ?_)
      · (repeat' (first | exact PSub.rfl | exact rfl | exact PSubs.rfl | exact trivial | refine And.intro ?_ ?_)); all_goals ((first | (rw [htk]; rfl) | (intro i hi; rw [htk]; exact PSubs.rfl)))
      obtain ⟨hkn, hinv⟩ := hk
      conv => whnf
      refine ⟨fun h => ?_, fun h => ?_⟩ <;> (try simp only [decide_eq_true_eq, decide_eq_false_iff_not, Bool.not_eq_true', Bool.not_eq_false', Int.toNat_natCast, beq_iff_eq, decide_eq_decide, beq_eq_false_iff_ne, ne_eq, reduceCtorEq] at h) <;> (conv => whnf)
      · have hx := heff k2 (by omega)
        obtain ⟨g1, g2, g3, g4⟩ := effE_ok hx
        have hf := hfit k2 (by omega)
        have hpl := placeI_eq g2
        have hl3 := hf.1
        repeat (any_goals (first
          | (refine ⟨fun (h : (_ : Bool) = true) => ?_, fun (h : (_ : Bool) = false) => ?_⟩ <;> (try simp only [decide_eq_true_eq, decide_eq_false_iff_not, Bool.not_eq_true', Bool.not_eq_false', Int.toNat_natCast, beq_iff_eq, decide_eq_decide, beq_eq_false_iff_ne, ne_eq, reduceCtorEq] at h) <;> (conv => whnf))
          | (refine And.intro (by (try simp only [Int.toNat_natCast]); omega) ?_; conv => whnf)
          | (refine And.intro (by kernel_rfl) ?_; conv => whnf)
          | (refine .inl ⟨wrap64 (by omega), ?_⟩; conv => whnf)))
        refine .inl ⟨_, ac89 c ((cmdOf c.commands s).effects.getD k2 default).attr hc, ?_⟩
        rw [hpl]
        conv => whnf
        have hok := after_ok g1 g3 h2 (hf.2 _ g2) g4
        repeat (any_goals (first
          | (refine ⟨fun (h : (_ : Bool) = true) => ?_, fun (h : (_ : Bool) = false) => ?_⟩ <;> (try simp only [decide_eq_true_eq, decide_eq_false_iff_not, Bool.not_eq_true', Bool.not_eq_false', Int.toNat_natCast, beq_iff_eq, decide_eq_decide, beq_eq_false_iff_ne, ne_eq, reduceCtorEq] at h) <;> (conv => whnf))
          | (refine .inl ⟨_, ac96 ((cmdOf c.commands s).effects.getD k2 default) (c.attrs.getD (attrAt c.attrs ((cmdOf c.commands s).effects.getD k2 default).attr) default) p ((applyTo c (cmdOf c.commands s) p vals k2).getD (attrAt c.attrs ((cmdOf c.commands s).effects.getD k2 default).attr) default) (hc.2.1 _) (fits_small (hf.2 _ g2)) (fun hk3 => satI_small (g4 hk3)), ?_⟩; conv => whnf)
          | (refine And.intro (by (try simp only [Int.toNat_natCast]); omega) ?_; conv => whnf)
          | (refine And.intro (by kernel_rfl) ?_; conv => whnf)
          | (refine .inl ⟨wrap64 (by omega), ?_⟩; conv => whnf)))
        refine ⟨k2 + 1, [], ⟨by omega, trivial⟩, by omega, ?_⟩
        rw [applyTo, stepL, ← hok.2]
        (repeat' (first | exact PSub.rfl | exact rfl | exact PSubs.rfl | exact trivial | refine And.intro ?_ ?_))
        · simp
        · refine rows_set (i := attrAt c.attrs ((cmdOf c.commands s).effects.getD k2 default).attr) (F := updAt _ _ _ _) (fun i hi e => ?_) (fun hi => ?_)
          · simp only [Int.toNat_natCast]; rw [updAt_ne e]; exact PSubs.rfl
          · simp only [Int.toNat_natCast]; rw [updAt_same]; exact PSubs.rfl
      · have ek : k2 = (cmdOf c.commands s).effects.length := by omega
        subst ek
        repeat (any_goals (first
          | (refine ⟨fun (h : (_ : Bool) = true) => ?_, fun (h : (_ : Bool) = false) => ?_⟩ <;> (try simp only [decide_eq_true_eq, decide_eq_false_iff_not, Bool.not_eq_true', Bool.not_eq_false', Int.toNat_natCast, beq_iff_eq, decide_eq_decide, beq_eq_false_iff_ne, ne_eq, reduceCtorEq] at h) <;> (conv => whnf))
          | (refine And.intro (by (try simp only [Int.toNat_natCast]); omega) ?_; conv => whnf)
          | (refine And.intro (by kernel_rfl) ?_; conv => whnf)
          | (refine .inl ⟨wrap64 (by omega), ?_⟩; conv => whnf)))
        refine ⟨?_, ?_⟩ <;> (conv => whnf)
        · exact .rfl
        · exact .rfl
  · have hpk := h
    refine .inl ⟨_, ac53 (cmdOf c.commands s).param p hds.1, ?_⟩
    conv => whnf
    refine ⟨fun h => ?_, fun h => ?_⟩ <;> (try simp only [decide_eq_true_eq, decide_eq_false_iff_not, Bool.not_eq_true', Bool.not_eq_false', Int.toNat_natCast, beq_iff_eq, decide_eq_decide, beq_eq_false_iff_ne, ne_eq, reduceCtorEq] at h) <;> (conv => whnf)
    · have ha : acceptsE (cmdOf c.commands s) p = fitsE (cmdOf c.commands s).param p := by rw [acceptsE, if_pos hpk]
      have e : applyE c s p vals = fitsE (cmdOf c.commands s).param p := by rw [applyE, if_neg (by simpa using h0), if_neg (by simpa using h1), ha, if_pos h]
      rw [applyL, e]
      refine ⟨?_, ?_⟩ <;> (conv => whnf)
      · exact PSub.nilL (by simp [*])
      · exact .rfl
    · have h2 : acceptsE (cmdOf c.commands s) p = 0 := by rw [acceptsE, if_pos hpk, h]
      refine ⟨fun h => ?_, fun h => ?_⟩ <;> (try simp only [decide_eq_true_eq, decide_eq_false_iff_not, Bool.not_eq_true', Bool.not_eq_false', Int.toNat_natCast, beq_iff_eq, decide_eq_decide, beq_eq_false_iff_ne, ne_eq, reduceCtorEq] at h) <;> (conv => whnf)
      · have e : applyE c s p vals = 1 := by rw [applyE, if_neg (by simpa using h0), if_neg (by simpa using h1), if_neg (by simpa using h2), if_pos (by omega)]
        rw [applyL, e]
        refine ⟨?_, ?_⟩ <;> (conv => whnf)
        · exact PSub.nilL (by simp [*])
        · exact .rfl
      have h3 : vals.length = c.attrs.length := by omega
      clear h
      refine And.intro (by omega) ?_
      conv => whnf
      refine loop_k (ι := Nat) [3, 4, 6, 11, 54] [4, 6, 11] (fun k => k ≤ vals.length ∧ ∀ j, j < k → badV c vals j = false) (fun k => vals.length - k) 0 (fun k => [(13, .own 500), (55, .pv (vint k))]) (fun k => [(500, rowL 3 cVal (vals.take k))]) [(500, 52)] ⟨Nat.zero_le _, fun j h => absurd h (by omega)⟩ ?_ (fun k hk => ?_)
      · (repeat' (first | exact PSub.rfl | exact rfl | exact PSubs.rfl | exact trivial | refine And.intro ?_ ?_))
        all_goals try (intro i hi; exact absurd hi (by simp))
      obtain ⟨hkn, hinv⟩ := hk
      conv => whnf
      refine ⟨fun h => ?_, fun h => ?_⟩ <;> (try simp only [decide_eq_true_eq, decide_eq_false_iff_not, Bool.not_eq_true', Bool.not_eq_false', Int.toNat_natCast, beq_iff_eq, decide_eq_decide, beq_eq_false_iff_ne, ne_eq, reduceCtorEq] at h) <;> (conv => whnf)
      · have hlt : (vals.take k).length = k := by rw [List.length_take]; omega
        repeat (any_goals (first
          | (refine ⟨fun (h : (_ : Bool) = true) => ?_, fun (h : (_ : Bool) = false) => ?_⟩ <;> (try simp only [decide_eq_true_eq, decide_eq_false_iff_not, Bool.not_eq_true', Bool.not_eq_false', Int.toNat_natCast, beq_iff_eq, decide_eq_decide, beq_eq_false_iff_ne, ne_eq, reduceCtorEq] at h) <;> (conv => whnf))
          | (refine .inl ⟨_, ac53 (c.attrs.getD k default) (vals.getD k default) (hc.2.1 k), ?_⟩; conv => whnf)
          | (refine And.intro (by (try simp only [Int.toNat_natCast]); omega) ?_; conv => whnf)
          | (refine And.intro (by kernel_rfl) ?_; conv => whnf)
          | (refine .inl ⟨wrap64 (by omega), ?_⟩; conv => whnf)))
        · have e : applyE c s p vals = 1 := by rw [applyE, if_neg (by simpa using h0), if_neg (by simpa using h1), if_neg (by simpa using h2), if_neg (by omega), if_pos (anyN_true (k := k) (by omega) (by simpa [badV, -List.getD_eq_getElem?_getD] using h))]
          rw [applyL, e]
          refine ⟨?_, ?_⟩ <;> (conv => whnf)
          · exact PSub.nilL (by simp [*])
          · exact .rfl
        · refine ⟨k + 1, [(500, 75)], ⟨by omega, ?_⟩, by omega, ?_⟩
          · intro j hj
            by_cases e : j = k
            · subst e; simpa [badV, -List.getD_eq_getElem?_getD] using h
            · exact hinv j (by omega)
          · rw [take_succ_getD (by omega)]
            (repeat' (first | exact PSub.rfl | exact rfl | exact PSubs.rfl | exact trivial | refine And.intro ?_ ?_))
            · simp; try omega
            · refine rows_snocF (fun i hi => by simp only [if_pos hi]; exact PSubs.rfl) (by simp only [if_neg (Nat.lt_irrefl _), Nat.sub_self]; exact PSubs.rfl)
      have hnb : anyN vals.length (badV c vals) = false := anyN_false fun j hj => hinv j (by omega)
      have hfa : fitsAll c vals := ⟨h3, fun i hi => by have := hinv i (by omega); simpa [badV, -List.getD_eq_getElem?_getD] using this⟩
      have e : applyE c s p vals = 0 := by rw [applyE, if_neg (by simpa using h0), if_neg (by simpa using h1), if_neg (by simpa using h2), if_neg (by omega), hnb, if_neg (by decide)]
      have eL : applyL c s p vals = applyTo c (cmdOf c.commands s) p vals (cmdOf c.commands s).effects.length := by rw [applyL, if_pos e]
      rw [e, eL]
      have hfit := applyTo_fits heff h2 hfa
      have htk : vals.take k = vals := List.take_of_length_le (by omega)
      clear h hinv hkn hnb e eL
      refine loop_k (ι := Nat) [4, 6, 11, 13, 79] [4, 6, 11] (fun k2 => k2 ≤ (cmdOf c.commands s).effects.length ∧ True) (fun k2 => (cmdOf c.commands s).effects.length - k2) 0 (fun k2 => [(80, .pv (vint k2))]) (fun k2 => [(500, rowL 3 cVal (applyTo c (cmdOf c.commands s) p vals k2))]) [] ⟨Nat.zero_le _, trivial⟩ ?_ (fun k2 hk => ?_)
      · (repeat' (first | exact PSub.rfl | exact rfl | exact PSubs.rfl | exact trivial | refine And.intro ?_ ?_)); all_goals ((first | (rw [htk]; rfl) | (intro i hi; rw [htk]; exact PSubs.rfl)))
      obtain ⟨hkn, hinv⟩ := hk
      conv => whnf
      refine ⟨fun h => ?_, fun h => ?_⟩ <;> (try simp only [decide_eq_true_eq, decide_eq_false_iff_not, Bool.not_eq_true', Bool.not_eq_false', Int.toNat_natCast, beq_iff_eq, decide_eq_decide, beq_eq_false_iff_ne, ne_eq, reduceCtorEq] at h) <;> (conv => whnf)
      · have hx := heff k2 (by omega)
        obtain ⟨g1, g2, g3, g4⟩ := effE_ok hx
        have hf := hfit k2 (by omega)
        have hpl := placeI_eq g2
        have hl3 := hf.1
        repeat (any_goals (first
          | (refine ⟨fun (h : (_ : Bool) = true) => ?_, fun (h : (_ : Bool) = false) => ?_⟩ <;> (try simp only [decide_eq_true_eq, decide_eq_false_iff_not, Bool.not_eq_true', Bool.not_eq_false', Int.toNat_natCast, beq_iff_eq, decide_eq_decide, beq_eq_false_iff_ne, ne_eq, reduceCtorEq] at h) <;> (conv => whnf))
          | (refine And.intro (by (try simp only [Int.toNat_natCast]); omega) ?_; conv => whnf)
          | (refine And.intro (by kernel_rfl) ?_; conv => whnf)
          | (refine .inl ⟨wrap64 (by omega), ?_⟩; conv => whnf)))
        refine .inl ⟨_, ac89 c ((cmdOf c.commands s).effects.getD k2 default).attr hc, ?_⟩
        rw [hpl]
        conv => whnf
        have hok := after_ok g1 g3 h2 (hf.2 _ g2) g4
        repeat (any_goals (first
          | (refine ⟨fun (h : (_ : Bool) = true) => ?_, fun (h : (_ : Bool) = false) => ?_⟩ <;> (try simp only [decide_eq_true_eq, decide_eq_false_iff_not, Bool.not_eq_true', Bool.not_eq_false', Int.toNat_natCast, beq_iff_eq, decide_eq_decide, beq_eq_false_iff_ne, ne_eq, reduceCtorEq] at h) <;> (conv => whnf))
          | (refine .inl ⟨_, ac96 ((cmdOf c.commands s).effects.getD k2 default) (c.attrs.getD (attrAt c.attrs ((cmdOf c.commands s).effects.getD k2 default).attr) default) p ((applyTo c (cmdOf c.commands s) p vals k2).getD (attrAt c.attrs ((cmdOf c.commands s).effects.getD k2 default).attr) default) (hc.2.1 _) (fits_small (hf.2 _ g2)) (fun hk3 => satI_small (g4 hk3)), ?_⟩; conv => whnf)
          | (refine And.intro (by (try simp only [Int.toNat_natCast]); omega) ?_; conv => whnf)
          | (refine And.intro (by kernel_rfl) ?_; conv => whnf)
          | (refine .inl ⟨wrap64 (by omega), ?_⟩; conv => whnf)))
        refine ⟨k2 + 1, [], ⟨by omega, trivial⟩, by omega, ?_⟩
        rw [applyTo, stepL, ← hok.2]
        (repeat' (first | exact PSub.rfl | exact rfl | exact PSubs.rfl | exact trivial | refine And.intro ?_ ?_))
        · simp
        · refine rows_set (i := attrAt c.attrs ((cmdOf c.commands s).effects.getD k2 default).attr) (F := updAt _ _ _ _) (fun i hi e => ?_) (fun hi => ?_)
          · simp only [Int.toNat_natCast]; rw [updAt_ne e]; exact PSubs.rfl
          · simp only [Int.toNat_natCast]; rw [updAt_same]; exact PSubs.rfl
      · have ek : k2 = (cmdOf c.commands s).effects.length := by omega
        subst ek
        repeat (any_goals (first
          | (refine ⟨fun (h : (_ : Bool) = true) => ?_, fun (h : (_ : Bool) = false) => ?_⟩ <;> (try simp only [decide_eq_true_eq, decide_eq_false_iff_not, Bool.not_eq_true', Bool.not_eq_false', Int.toNat_natCast, beq_iff_eq, decide_eq_decide, beq_eq_false_iff_ne, ne_eq, reduceCtorEq] at h) <;> (conv => whnf))
          | (refine And.intro (by (try simp only [Int.toNat_natCast]); omega) ?_; conv => whnf)
          | (refine And.intro (by kernel_rfl) ?_; conv => whnf)
          | (refine .inl ⟨wrap64 (by omega), ?_⟩; conv => whnf)))
        refine ⟨?_, ?_⟩ <;> (conv => whnf)
        · exact .rfl
        · exact .rfl

end Go.Abs

namespace Go.Abs
open Go.Proofs
set_option maxRecDepth 10000

theorem ac64p (n : Nat) (g : Nat → List PV) (hn : n ≤ 1048576) : AC Tryd.prog 64 [.pv (.ro 7 n g)] [] (.pv (.ro 7 n g)) [] := by
  refine AC.nil_split (pre := []) (post := []) ?_ (fun h => ?_)
  · refine AC.of_awp (T := T) T_ok hm Tryd.call64 Tryd.func64 rfl rfl rfl ?_
    conv => whnf
    refine And.intro (by omega) ?_
    conv => whnf
    exact PSub.ro (by simp) fun i hi => by simpa using PSubs.rfl
  · refine AC.of_awp (T := T) T_ok hm Tryd.call64 Tryd.func64 rfl rfl rfl ?_
    conv => whnf
    subst h
    exact PSub.nil_ro _ _

theorem ac54o (l : List Item) (k : Key) (v : Val) (hl : smallL l) : AC Tryd.prog 54 [.pv (roL 7 cItem l), .pv (.agg (cKey k)), .pv (.agg (cVal v))] [] (.own 0) [(0, rowL 7 cItem (withL l k v))] := by
  have hl2 : l.length ≤ 1048576 := hl
  refine AC.of_awp_own (T := T) T_ok hm Tryd.call54 Tryd.func54 rfl rfl rfl ?_
  conv => whnf
  refine And.intro (by omega) ?_
  conv => whnf
  refine .inl ⟨_, ac49 l k hl, ?_⟩
  conv => whnf
  unfold ixI
  by_cases hlt : itemAt l k < l.length
  · rw [if_pos hlt]
    repeat (any_goals (first
      | (refine ⟨fun (h : (_ : Bool) = true) => ?_, fun (h : (_ : Bool) = false) => ?_⟩ <;> (try simp only [decide_eq_true_eq, decide_eq_false_iff_not, Bool.not_eq_true', Bool.not_eq_false', Int.toNat_natCast, beq_iff_eq, decide_eq_decide, beq_eq_false_iff_ne, ne_eq, reduceCtorEq] at h) <;> (conv => whnf))
      | (refine .inl ⟨_, ac85 l k.dev hl, ?_⟩; conv => whnf)
      | (refine And.intro (by (try simp only [Int.toNat_natCast]); omega) ?_; conv => whnf)
      | (refine And.intro (show (_ : Bool) = true from by kernel_rfl) ?_; conv => whnf)
      | (refine .inl ⟨wrap64 (by omega), ?_⟩; conv => whnf)))
    all_goals try rw [val_eq] at h
    all_goals try simp only [decide_eq_true_eq, decide_eq_false_iff_not, Int.toNat_natCast] at h
    · rw [withL, if_pos hlt, putL, if_pos h]
      refine ⟨by simp, fun j hj => ?_⟩
      refine rows_set (i := itemAt l k) (F := updAt _ _ _ _) (fun j hj e => ?_) (fun hi => ?_) j hj
      · simp only [Int.toNat_natCast]; rw [updAt_ne e]; simp only [Nat.not_lt_zero, if_false, Nat.sub_zero]; exact PSubs.rfl
      · simp only [Int.toNat_natCast]; rw [updAt_same, itemAt_key hlt]; exact PSubs.rfl
    · rw [withL, if_pos hlt, putL, if_neg (by simpa using h)]
      refine ⟨by simp, fun j hj => ?_⟩
      simp only [Nat.not_lt_zero, if_false, Nat.sub_zero]; exact PSubs.rfl
    · exfalso; omega
  · rw [if_neg hlt]
    repeat (any_goals (first
      | (refine ⟨fun (h : (_ : Bool) = true) => ?_, fun (h : (_ : Bool) = false) => ?_⟩ <;> (try simp only [decide_eq_true_eq, decide_eq_false_iff_not, Bool.not_eq_true', Bool.not_eq_false', Int.toNat_natCast, beq_iff_eq, decide_eq_decide, beq_eq_false_iff_ne, ne_eq, reduceCtorEq] at h) <;> (conv => whnf))
      | (refine .inl ⟨_, ac85 l k.dev hl, ?_⟩; conv => whnf)
      | (refine And.intro (by (try simp only [Int.toNat_natCast]); omega) ?_; conv => whnf)
      | (refine And.intro (show (_ : Bool) = true from by kernel_rfl) ?_; conv => whnf)
      | (refine .inl ⟨wrap64 (by omega), ?_⟩; conv => whnf)))
    all_goals try (exfalso; omega)
    rw [withL, if_neg hlt]
    refine ⟨by simp, fun j hj => ?_⟩
    simp only [Nat.not_lt_zero, if_false, Nat.sub_zero]; exact PSubs.rfl

def keyI (dev : Int) (cn : ByteArray) (l : List Attr) (i : Nat) : Key := ⟨dev, cn, (l.getD i default).name⟩
def atI (l : List Item) (dev : Int) (cn : ByteArray) (ats : List Attr) (i : Nat) : Nat := itemAt l (keyI dev cn ats i)
def atTo (l : List Item) (dev : Int) (cn : ByteArray) (ats : List Attr) (k : Nat) : List Int := (List.range k).map fun i => (atI l dev cn ats i : Int)
def valsTo (l : List Item) (dev : Int) (cn : ByteArray) (ats : List Attr) (k : Nat) : List Val := (List.range k).map fun i => (l.getD (atI l dev cn ats i) default).value
theorem atTo_succ {l : List Item} {dev : Int} {cn : ByteArray} {ats : List Attr} {k : Nat} : atTo l dev cn ats (k + 1) = atTo l dev cn ats k ++ [(atI l dev cn ats k : Int)] := by simp [atTo, List.range_succ]
theorem valsTo_succ {l : List Item} {dev : Int} {cn : ByteArray} {ats : List Attr} {k : Nat} : valsTo l dev cn ats (k + 1) = valsTo l dev cn ats k ++ [(l.getD (atI l dev cn ats k) default).value] := by simp [valsTo, List.range_succ, -List.getD_eq_getElem?_getD]
theorem atTo_length {l : List Item} {dev : Int} {cn : ByteArray} {ats : List Attr} {k : Nat} : (atTo l dev cn ats k).length = k := by simp [atTo]
theorem valsTo_length {l : List Item} {dev : Int} {cn : ByteArray} {ats : List Attr} {k : Nat} : (valsTo l dev cn ats k).length = k := by simp [valsTo]
theorem atTo_get {l : List Item} {dev : Int} {cn : ByteArray} {ats : List Attr} {k i : Nat} (h : i < k) : (atTo l dev cn ats k).getD i default = (atI l dev cn ats i : Int) := by simp [atTo, List.getD, h]

def lostB (l : List Item) (dev : Int) (cn : ByteArray) (ats : List Attr) (i : Nat) : Bool := decide (¬ atI l dev cn ats i < l.length)
/-- device.Command: its error -/
def commandE (H : Hom) (l : List Item) (dev : Int) (cn s : ByteArray) (p : Val) : Int :=
  if homE H ≠ 0 then homE H else match partO H dev cn with
  | none => 8
  | some x => if anyN x.attrs.length (lostB l dev cn x.attrs) = true then 8 else applyE x s p (valsTo l dev cn x.attrs x.attrs.length)
def putTo (l : List Item) (at_ : Nat → Nat) (vals : List Val) : Nat → List Item
  | 0 => l
  | k + 1 => putL (putTo l at_ vals k) (at_ k) (vals.getD k default)
def commandL (H : Hom) (l : List Item) (dev : Int) (cn s : ByteArray) (p : Val) : List Item :=
  match partO H dev cn with
  | none => []
  | some x => if commandE H l dev cn s p = 0 then putTo l (atI l dev cn x.attrs) (applyL x s p (valsTo l dev cn x.attrs x.attrs.length)) x.attrs.length else []

theorem putTo_length {l : List Item} {at_ : Nat → Nat} {vals : List Val} : ∀ {k : Nat}, (putTo l at_ vals k).length = l.length
  | 0 => rfl
  | k + 1 => by rw [putTo, putL_length, putTo_length]

theorem putL_key {l : List Item} {i j : Nat} {v : Val} : ((putL l i v).getD j default).key = (l.getD j default).key := by
  unfold putL
  split
  · rw [getD_set]
    split
    · rename_i e; rw [e.1]
    · rfl
  · rfl
theorem itemAt_put {l : List Item} {i : Nat} {v : Val} {k : Key} : itemAt (putL l i v) k = itemAt l k := by
  unfold itemAt
  rw [putL_length]
  congr 1
  funext j
  rw [putL_key]
theorem itemAt_putTo {l : List Item} {at_ : Nat → Nat} {vals : List Val} {q : Key} : ∀ {k : Nat}, itemAt (putTo l at_ vals k) q = itemAt l q
  | 0 => rfl
  | k + 1 => by rw [putTo, itemAt_put, itemAt_putTo]

theorem ac36 (H : Hom) (l : List Item) (dev : Int) (cn s : ByteArray) (p : Val) (hH : smallH H) (hl : smallL l) : AC Tryd.prog 36 [.pv (.agg (cHom H)), .pv (roL 7 cItem l), .pv (vint dev), .pv (vstr cn), .pv (vstr s), .pv (.agg (cVal p))] [] (.pv (.tup [roL 7 cItem (commandL H l dev cn s p), vint (commandE H l dev cn s p)])) [] := by
  have hl2 : l.length ≤ 1048576 := hl
  have hd4 := @findD_length H dev
  have hcl : H.clusters.length ≤ 1048576 := hH.1.1
  refine AC.of_awp (T := T) T_ok hm Tryd.call36 Tryd.func36 rfl rfl rfl ?_
  conv => whnf
  refine .inl ⟨_, ac13 H hH, ?_⟩
  conv => whnf
  refine ⟨fun h => ?_, fun h => ?_⟩ <;> (try simp only [decide_eq_true_eq, decide_eq_false_iff_not, Bool.not_eq_true', Bool.not_eq_false', Int.toNat_natCast, beq_iff_eq, decide_eq_decide, beq_eq_false_iff_ne, ne_eq, reduceCtorEq] at h) <;> (conv => whnf)
  · have e : commandE H l dev cn s p = homE H := by rw [commandE, if_pos h]
    have e2 : commandL H l dev cn s p = [] := by
      unfold commandL
      split
      · rfl
      · rw [if_neg (by rw [e]; first | decide | assumption)]
    rw [e, e2]
    refine ⟨?_, ?_⟩ <;> (conv => whnf)
    · exact PSub.nilL rfl
    · exact .rfl
  have h0 := h
  refine .inl ⟨_, ac55 H dev hH, ?_⟩
  conv => whnf
  repeat (any_goals (first
    | (refine ⟨fun (h : (_ : Bool) = true) => ?_, fun (h : (_ : Bool) = false) => ?_⟩ <;> (try simp only [decide_eq_true_eq, decide_eq_false_iff_not, Bool.not_eq_true', Bool.not_eq_false', Int.toNat_natCast, beq_iff_eq, decide_eq_decide, beq_eq_false_iff_ne, ne_eq, reduceCtorEq] at h) <;> (conv => whnf))
    | (refine .inl ⟨_, ac56 (findD H dev).clusters cn (by omega), ?_⟩; conv => whnf)
    | (refine And.intro (by (try simp only [Int.toNat_natCast]); omega) ?_; conv => whnf)
    | (refine And.intro (show (_ : Bool) = true from by kernel_rfl) ?_; conv => whnf)
    | (refine .inl ⟨wrap64 (by omega), ?_⟩; conv => whnf)))
  · have e : commandE H l dev cn s p = 8 := by rw [commandE, if_neg (by simpa using h0), partO, if_neg (by simp [h])]
    have e2 : commandL H l dev cn s p = [] := by
      unfold commandL
      split
      · rfl
      · rw [if_neg (by rw [e]; first | decide | assumption)]
    rw [e, e2]
    refine ⟨?_, ?_⟩ <;> (conv => whnf)
    · exact PSub.nilL rfl
    · exact .rfl
  · have e : commandE H l dev cn s p = 8 := by rw [commandE, if_neg (by simpa using h0), partO, if_neg (by omega)]
    have e2 : commandL H l dev cn s p = [] := by
      unfold commandL
      split
      · rfl
      · rw [if_neg (by rw [e]; first | decide | assumption)]
    rw [e, e2]
    refine ⟨?_, ?_⟩ <;> (conv => whnf)
    · exact PSub.nilL rfl
    · exact .rfl
  have hb : findB H dev = true := by assumption
  obtain ⟨i0, hi0, he0⟩ := idxOf_mem (by omega : 0 ≤ idxOf (findD H dev).clusters cn)
  obtain ⟨x, hx⟩ := capE_some (findD_cap hb) hi0
  rw [he0] at hx
  have hpart : partO H dev cn = some x := by rw [partO, if_pos ⟨hb, by omega⟩, hx]
  have hxs := firstC_small hH.1 hx
  have hxa : x.attrs.length ≤ 1048576 := hxs.1
  refine .inl ⟨_, ac41 H hcl, ?_⟩
  conv => whnf
  have hlook : cluLook (lastC H.clusters H.clusters.length) (.string cn) = some (.agg (cClu x)) := by
    simp only [cluLook, lastC_first (allE_distinct (homE_all h0)), hx, Option.map_some]
  rw [hlook]
  refine ⟨fun q hq => ?_, fun hq => (by cases hq)⟩
  cases hq
  conv => whnf
  have hE : commandE H l dev cn s p = if anyN x.attrs.length (lostB l dev cn x.attrs) = true then 8 else applyE x s p (valsTo l dev cn x.attrs x.attrs.length) := by rw [commandE, if_neg (by simpa using h0), hpart]
  clear h
  refine loop_k (ι := Nat) [1, 2, 3, 4, 11, 17, 53, 54] [11, 17] (fun k => k ≤ x.attrs.length ∧ ∀ j, j < k → lostB l dev cn x.attrs j = false) (fun k => x.attrs.length - k) 0 (fun k => [(18, .own 500), (19, .own 501), (55, .pv (vint k))]) (fun k => [(500, rowL 1 cint (atTo l dev cn x.attrs k)), (501, rowL 3 cVal (valsTo l dev cn x.attrs k))]) [] ⟨Nat.zero_le _, fun j h => absurd h (by omega)⟩ ?_ (fun k hk => ?_)
  · (repeat' (first | exact PSub.rfl | exact rfl | exact PSubs.rfl | exact trivial | refine And.intro ?_ ?_))
  obtain ⟨hkn, hinv⟩ := hk
  conv => whnf
  refine ⟨fun h => ?_, fun h => ?_⟩ <;> (try simp only [decide_eq_true_eq, decide_eq_false_iff_not, Bool.not_eq_true', Bool.not_eq_false', Int.toNat_natCast, beq_iff_eq, decide_eq_decide, beq_eq_false_iff_ne, ne_eq, reduceCtorEq] at h) <;> (conv => whnf)
  · repeat (any_goals (first
      | (refine ⟨fun (h : (_ : Bool) = true) => ?_, fun (h : (_ : Bool) = false) => ?_⟩ <;> (try simp only [decide_eq_true_eq, decide_eq_false_iff_not, Bool.not_eq_true', Bool.not_eq_false', Int.toNat_natCast, beq_iff_eq, decide_eq_decide, beq_eq_false_iff_ne, ne_eq, reduceCtorEq] at h) <;> (conv => whnf))
      | (refine .inl ⟨_, ac48 l (keyI dev cn x.attrs k) hl, ?_⟩; conv => whnf)
      | (refine And.intro (by (try simp only [Int.toNat_natCast]); omega) ?_; conv => whnf)
      | (refine And.intro (show (_ : Bool) = true from by kernel_rfl) ?_; conv => whnf)
      | (refine .inl ⟨wrap64 (by omega), ?_⟩; conv => whnf)))
    · have hlost : lostB l dev cn x.attrs k = true := by
        unfold lostB atI
        unfold ixI at h
        split at h
        · omega
        · rename_i h5; simpa using h5
      have e : commandE H l dev cn s p = 8 := by rw [hE, if_pos (anyN_true (k := k) (by omega) hlost)]
      have e2 : commandL H l dev cn s p = [] := by
        unfold commandL
        split
        · rfl
        · rw [if_neg (by rw [e]; first | decide | assumption)]
      rw [e, e2]
      refine ⟨?_, ?_⟩ <;> (conv => whnf)
      · exact PSub.nilL rfl
      · exact .rfl
    · obtain ⟨hlt, hix⟩ := ixI_nonneg h
      have hal := @atTo_length l dev cn x.attrs k
      have hvl := @valsTo_length l dev cn x.attrs k
      rw [hix]
      repeat (any_goals (first
        | (refine ⟨fun (h : (_ : Bool) = true) => ?_, fun (h : (_ : Bool) = false) => ?_⟩ <;> (try simp only [decide_eq_true_eq, decide_eq_false_iff_not, Bool.not_eq_true', Bool.not_eq_false', Int.toNat_natCast, beq_iff_eq, decide_eq_decide, beq_eq_false_iff_ne, ne_eq, reduceCtorEq] at h) <;> (conv => whnf))
        | (refine And.intro (by (try simp only [Int.toNat_natCast]); omega) ?_; conv => whnf)
        | (refine And.intro (show (_ : Bool) = true from by kernel_rfl) ?_; conv => whnf)
        | (refine .inl ⟨wrap64 (by omega), ?_⟩; conv => whnf)))
      refine ⟨k + 1, [(500, 71), (501, 79)], ⟨by omega, ?_⟩, by omega, ?_⟩
      · intro j hj
        by_cases e : j = k
        · subst e; unfold lostB atI; simpa using hlt
        · exact hinv j (by omega)
      · rw [atTo_succ, valsTo_succ]
        (repeat' (first | exact PSub.rfl | exact rfl | exact PSubs.rfl | exact trivial | refine And.intro ?_ ?_))
        · simp
        · refine rows_snocF (fun i hi => by simp only [if_pos hi]; exact PSubs.rfl) (by simp only [if_neg (Nat.lt_irrefl _), Nat.sub_self]; exact PSubs.rfl)
        · simp
        · refine rows_snocF (fun i hi => by simp only [if_pos hi]; exact PSubs.rfl) (by simp only [if_neg (Nat.lt_irrefl _), Nat.sub_self]; exact PSubs.rfl)
  have ek : k = x.attrs.length := by omega
  subst ek
  have hnl : anyN x.attrs.length (lostB l dev cn x.attrs) = false := anyN_false fun j hj => hinv j hj
  rw [hnl, if_neg (by decide)] at hE
  have hvl := @valsTo_length l dev cn x.attrs x.attrs.length
  have hal := @atTo_length l dev cn x.attrs x.attrs.length
  generalize hvals : valsTo l dev cn x.attrs x.attrs.length = vals at *
  clear h
  refine .inl ⟨_, ac63 x s p vals hxs (by show _ ≤ 1048576; omega), ?_⟩
  conv => whnf
  refine ⟨fun h => ?_, fun h => ?_⟩ <;> (try simp only [decide_eq_true_eq, decide_eq_false_iff_not, Bool.not_eq_true', Bool.not_eq_false', Int.toNat_natCast, beq_iff_eq, decide_eq_decide, beq_eq_false_iff_ne, ne_eq, reduceCtorEq] at h) <;> (conv => whnf)
  · have e : commandE H l dev cn s p = applyE x s p vals := hE
    have e2 : commandL H l dev cn s p = [] := by
      unfold commandL
      split
      · rfl
      · rw [if_neg (by rw [e]; first | decide | assumption)]
    rw [e, e2]
    refine ⟨?_, ?_⟩ <;> (conv => whnf)
    · exact PSub.nilL rfl
    · exact .rfl
  rw [h] at hE
  have hL : commandL H l dev cn s p = putTo l (atI l dev cn x.attrs) (applyL x s p vals) x.attrs.length := by unfold commandL; rw [hpart]; simp only; rw [if_pos hE, hvals]
  have hafter : (applyL x s p vals).length = x.attrs.length := by
    have hae := h
    rw [applyL, if_pos h]
    unfold applyE at h
    split at h
    · contradiction
    split at h
    · cases h
    split at h
    · contradiction
    split at h
    · cases h
    split at h
    · cases h
    rename_i c1 c2 c3 c4 c5
    refine (applyTo_fits (cmdOf_effects (checkE_ok (Classical.not_not.1 c1)) (Classical.not_not.1 c2)) (Classical.not_not.1 c3) ⟨Classical.not_not.1 c4, fun i hi => ?_⟩ _ (Nat.le_refl _)).1
    rw [Bool.not_eq_true] at c5
    have : badV x vals i = false := by
      cases hb : badV x vals i with
      | false => rfl
      | true => rw [anyN_true (k := i) (by omega) hb] at c5; cases c5
    simpa [badV, -List.getD_eq_getElem?_getD] using this
  rw [hE, hL]
  generalize applyL x s p vals = after at *
  have hinv0 := hinv
  refine .inl ⟨_, ac64p _ _ hl2, ?_⟩
  conv => whnf
  refine loop_k (ι := Nat) [18, 94, 95] [500] (fun k => k ≤ after.length ∧ True) (fun k => after.length - k) 0 (fun k => [(25, .pv (roL 7 cItem (putTo l (atI l dev cn x.attrs) after k))), (96, .pv (vint k))]) (fun k => []) [] ⟨Nat.zero_le _, trivial⟩ ?_ (fun k hk => ?_)
  · (repeat' (first | exact PSub.rfl | exact rfl | exact PSubs.rfl | exact trivial | refine And.intro ?_ ?_)); all_goals ((intro i hi; exact PSubs.rfl))
  obtain ⟨hkn, hinv⟩ := hk
  conv => whnf
  refine ⟨fun h => ?_, fun h => ?_⟩ <;> (try simp only [decide_eq_true_eq, decide_eq_false_iff_not, Bool.not_eq_true', Bool.not_eq_false', Int.toNat_natCast, beq_iff_eq, decide_eq_decide, beq_eq_false_iff_ne, ne_eq, reduceCtorEq] at h) <;> (conv => whnf)
  · have hpl := @putTo_length l (atI l dev cn x.attrs) after k
    have hati : atI l dev cn x.attrs k < l.length := by
      have := hinv0 k (by omega)
      simpa [lostB] using this
    repeat (any_goals (first
      | (refine ⟨fun (h : (_ : Bool) = true) => ?_, fun (h : (_ : Bool) = false) => ?_⟩ <;> (try simp only [decide_eq_true_eq, decide_eq_false_iff_not, Bool.not_eq_true', Bool.not_eq_false', Int.toNat_natCast, beq_iff_eq, decide_eq_decide, beq_eq_false_iff_ne, ne_eq, reduceCtorEq] at h) <;> (conv => whnf))
      | (refine And.intro (by (try simp only [Int.toNat_natCast]); omega) ?_; conv => whnf)
      | (refine And.intro (show (_ : Bool) = true from by kernel_rfl) ?_; conv => whnf)
      | (refine .inl ⟨wrap64 (by omega), ?_⟩; conv => whnf)))
    rw [atTo_get (by omega)]
    repeat (any_goals (first
      | (refine ⟨fun (h : (_ : Bool) = true) => ?_, fun (h : (_ : Bool) = false) => ?_⟩ <;> (try simp only [decide_eq_true_eq, decide_eq_false_iff_not, Bool.not_eq_true', Bool.not_eq_false', Int.toNat_natCast, beq_iff_eq, decide_eq_decide, beq_eq_false_iff_ne, ne_eq, reduceCtorEq] at h) <;> (conv => whnf))
      | (refine .inl ⟨_, ac65 (putTo l (atI l dev cn x.attrs) after k) (atI l dev cn x.attrs k) (after.getD k default) (by show _ ≤ 1048576; omega) (by omega), ?_⟩; conv => whnf)
      | (refine And.intro (by (try simp only [Int.toNat_natCast]); omega) ?_; conv => whnf)
      | (refine And.intro (show (_ : Bool) = true from by kernel_rfl) ?_; conv => whnf)
      | (refine .inl ⟨wrap64 (by omega), ?_⟩; conv => whnf)))
    refine ⟨k + 1, [], ⟨by omega, trivial⟩, by omega, ?_⟩
    (repeat' (first | exact PSub.rfl | exact rfl | exact PSubs.rfl | exact trivial | refine And.intro ?_ ?_))
    intro i hi; exact PSubs.rfl
  · have ek : k = x.attrs.length := by omega
    subst ek
    repeat (any_goals (first
      | (refine ⟨fun (h : (_ : Bool) = true) => ?_, fun (h : (_ : Bool) = false) => ?_⟩ <;> (try simp only [decide_eq_true_eq, decide_eq_false_iff_not, Bool.not_eq_true', Bool.not_eq_false', Int.toNat_natCast, beq_iff_eq, decide_eq_decide, beq_eq_false_iff_ne, ne_eq, reduceCtorEq] at h) <;> (conv => whnf))
      | (refine And.intro (by (try simp only [Int.toNat_natCast]); omega) ?_; conv => whnf)
      | (refine And.intro (show (_ : Bool) = true from by kernel_rfl) ?_; conv => whnf)
      | (refine .inl ⟨wrap64 (by omega), ?_⟩; conv => whnf)))
    refine ⟨?_, ?_⟩ <;> (conv => whnf)
    · exact .rfl
    · exact .rfl

end Go.Abs

namespace Go.Abs
open Go.Proofs
set_option maxRecDepth 10000

/-- withL over the keys -/
theorem with_putTo {l : List Item} {dev : Int} {cn : ByteArray} {ats : List Attr} {vals : List Val} {k : Nat} {v : Val} (h : atI l dev cn ats k < l.length) : withL (putTo l (atI l dev cn ats) vals k) (keyI dev cn ats k) v = putL (putTo l (atI l dev cn ats) vals k) (atI l dev cn ats k) v := by
  have e : itemAt (putTo l (atI l dev cn ats) vals k) (keyI dev cn ats k) = atI l dev cn ats k := itemAt_putTo
  rw [withL, e, if_pos (by rw [putTo_length]; exact h)]

theorem applyL_length {x : Clu} {s : ByteArray} {p : Val} {vals : List Val} (h : applyE x s p vals = 0) : (applyL x s p vals).length = x.attrs.length := by
  rw [applyL, if_pos h]
  unfold applyE at h
  split at h
  · contradiction
  split at h
  · cases h
  split at h
  · contradiction
  split at h
  · cases h
  split at h
  · cases h
  rename_i c1 c2 c3 c4 c5
  refine (applyTo_fits (cmdOf_effects (checkE_ok (Classical.not_not.1 c1)) (Classical.not_not.1 c2)) (Classical.not_not.1 c3) ⟨Classical.not_not.1 c4, fun i hi => ?_⟩ _ (Nat.le_refl _)).1
  rw [Bool.not_eq_true] at c5
  have : badV x vals i = false := by
    cases hb : badV x vals i with
    | false => rfl
    | true => rw [anyN_true (k := i) (by omega) hb] at c5; cases c5
  simpa [badV, -List.getD_eq_getElem?_getD] using this

theorem ac37 (H : Hom) (l : List Item) (dev : Int) (cn s : ByteArray) (p : Val) (hH : smallH H) (hl : smallL l) : AC Tryd.prog 37 [.pv (.agg (cHom H)), .pv (roL 7 cItem l), .pv (vint dev), .pv (vstr cn), .pv (vstr s), .pv (.agg (cVal p))] [] (.pv (.tup [roL 7 cItem (commandL H l dev cn s p), vint (commandE H l dev cn s p)])) [] := by
  have hl2 : l.length ≤ 1048576 := hl
  refine AC.of_awp (T := T) T_ok hm Tryd.call37 Tryd.func37 rfl rfl rfl ?_
  conv => whnf
  refine .inl ⟨_, ac14 H hH, ?_⟩
  conv => whnf
  refine ⟨fun h => ?_, fun h => ?_⟩ <;> (try simp only [decide_eq_true_eq, decide_eq_false_iff_not, Bool.not_eq_true', Bool.not_eq_false', Int.toNat_natCast, beq_iff_eq, decide_eq_decide, beq_eq_false_iff_ne, ne_eq, reduceCtorEq] at h) <;> (conv => whnf)
  · have e : commandE H l dev cn s p = homE H := by rw [commandE, if_pos h]
    have e2 : commandL H l dev cn s p = [] := by
      unfold commandL
      split
      · rfl
      · rw [if_neg (by rw [e]; first | decide | assumption)]
    rw [e, e2]
    refine ⟨?_, ?_⟩ <;> (conv => whnf)
    · exact PSub.nilL rfl
    · exact .rfl
  have h0 := h
  refine .inl ⟨_, ac58 H dev cn hH, ?_⟩
  conv => whnf
  refine ⟨fun h => ?_, fun h => ?_⟩ <;> (try simp only [decide_eq_true_eq, decide_eq_false_iff_not, Bool.not_eq_true', Bool.not_eq_false', Int.toNat_natCast, beq_iff_eq, decide_eq_decide, beq_eq_false_iff_ne, ne_eq, reduceCtorEq] at h) <;> (conv => whnf)
  · have hpn : partO H dev cn = none := by cases hp : partO H dev cn with
      | none => rfl
      | some x => rw [hp] at h; cases h
    have e : commandE H l dev cn s p = 8 := by rw [commandE, if_neg (by simpa using h0), hpn]
    have e2 : commandL H l dev cn s p = [] := by
      unfold commandL
      split
      · rfl
      · rw [if_neg (by rw [e]; first | decide | assumption)]
    rw [e, e2]
    refine ⟨?_, ?_⟩ <;> (conv => whnf)
    · exact PSub.nilL rfl
    · exact .rfl
  obtain ⟨x, hpart⟩ : ∃ x, partO H dev cn = some x := by
    cases hp : partO H dev cn with
    | none => rw [hp] at h; cases h
    | some x => exact ⟨x, rfl⟩
  have hxs : smallK x := by
    have := small_part (id := dev) (s := cn) hH
    rw [hpart] at this; exact this
  have hxa : x.attrs.length ≤ 1048576 := hxs.1
  have hE : commandE H l dev cn s p = if anyN x.attrs.length (lostB l dev cn x.attrs) = true then 8 else applyE x s p (valsTo l dev cn x.attrs x.attrs.length) := by rw [commandE, if_neg (by simpa using h0), hpart]
  clear h
  rw [hpart]
  simp only [Option.getD_some]
  conv => whnf
  refine loop_k (ι := Nat) [1, 2, 3, 4, 11, 15] [11, 15] (fun k => k ≤ x.attrs.length ∧ ∀ j, j < k → lostB l dev cn x.attrs j = false) (fun k => x.attrs.length - k) 0 (fun k => [(17, .own 501), (18, .pv (vint k))]) (fun k => [(501, rowL 3 cVal (valsTo l dev cn x.attrs k))]) [] ⟨Nat.zero_le _, fun j h => absurd h (by omega)⟩ ?_ (fun k hk => ?_)
  · (repeat' (first | exact PSub.rfl | exact rfl | exact PSubs.rfl | exact trivial | refine And.intro ?_ ?_))
  obtain ⟨hkn, hinv⟩ := hk
  conv => whnf
  refine ⟨fun h => ?_, fun h => ?_⟩ <;> (try simp only [decide_eq_true_eq, decide_eq_false_iff_not, Bool.not_eq_true', Bool.not_eq_false', Int.toNat_natCast, beq_iff_eq, decide_eq_decide, beq_eq_false_iff_ne, ne_eq, reduceCtorEq] at h) <;> (conv => whnf)
  · repeat (any_goals (first
      | (refine ⟨fun (h : (_ : Bool) = true) => ?_, fun (h : (_ : Bool) = false) => ?_⟩ <;> (try simp only [decide_eq_true_eq, decide_eq_false_iff_not, Bool.not_eq_true', Bool.not_eq_false', Int.toNat_natCast, beq_iff_eq, decide_eq_decide, beq_eq_false_iff_ne, ne_eq, reduceCtorEq] at h) <;> (conv => whnf))
      | (refine .inl ⟨_, ac49 l (keyI dev cn x.attrs k) hl, ?_⟩; conv => whnf)
      | (refine And.intro (by (try simp only [Int.toNat_natCast]); omega) ?_; conv => whnf)
      | (refine And.intro (show (_ : Bool) = true from by kernel_rfl) ?_; conv => whnf)
      | (refine .inl ⟨wrap64 (by omega), ?_⟩; conv => whnf)))
    · have hlost : lostB l dev cn x.attrs k = true := by
        unfold lostB atI
        unfold ixI at h
        split at h
        · omega
        · rename_i h5; simpa using h5
      have e : commandE H l dev cn s p = 8 := by rw [hE, if_pos (anyN_true (k := k) (by omega) hlost)]
      have e2 : commandL H l dev cn s p = [] := by
        unfold commandL
        split
        · rfl
        · rw [if_neg (by rw [e]; first | decide | assumption)]
      rw [e, e2]
      refine ⟨?_, ?_⟩ <;> (conv => whnf)
      · exact PSub.nilL rfl
      · exact .rfl
    · obtain ⟨hlt, hix⟩ := ixI_nonneg h
      have hvl := @valsTo_length l dev cn x.attrs k
      rw [hix]
      repeat (any_goals (first
        | (refine ⟨fun (h : (_ : Bool) = true) => ?_, fun (h : (_ : Bool) = false) => ?_⟩ <;> (try simp only [decide_eq_true_eq, decide_eq_false_iff_not, Bool.not_eq_true', Bool.not_eq_false', Int.toNat_natCast, beq_iff_eq, decide_eq_decide, beq_eq_false_iff_ne, ne_eq, reduceCtorEq] at h) <;> (conv => whnf))
        | (refine And.intro (by (try simp only [Int.toNat_natCast]); omega) ?_; conv => whnf)
        | (refine And.intro (show (_ : Bool) = true from by kernel_rfl) ?_; conv => whnf)
        | (refine .inl ⟨wrap64 (by omega), ?_⟩; conv => whnf)))
      refine ⟨k + 1, [(501, 65)], ⟨by omega, ?_⟩, by omega, ?_⟩
      · intro j hj
        by_cases e : j = k
        · subst e; unfold lostB atI; simpa using hlt
        · exact hinv j (by omega)
      · rw [valsTo_succ]
        (repeat' (first | exact PSub.rfl | exact rfl | exact PSubs.rfl | exact trivial | refine And.intro ?_ ?_))
        · simp
        · refine rows_snocF (fun i hi => by simp only [if_pos hi]; exact PSubs.rfl) (by simp only [if_neg (Nat.lt_irrefl _), Nat.sub_self]; exact PSubs.rfl)
  have ek : k = x.attrs.length := by omega
  subst ek
  have hnl : anyN x.attrs.length (lostB l dev cn x.attrs) = false := anyN_false fun j hj => hinv j hj
  rw [hnl, if_neg (by decide)] at hE
  have hvl := @valsTo_length l dev cn x.attrs x.attrs.length
  generalize hvals : valsTo l dev cn x.attrs x.attrs.length = vals at *
  clear h
  refine .inl ⟨_, ac66 x s p vals hxs (by show _ ≤ 1048576; omega), ?_⟩
  conv => whnf
  refine ⟨fun h => ?_, fun h => ?_⟩ <;> (try simp only [decide_eq_true_eq, decide_eq_false_iff_not, Bool.not_eq_true', Bool.not_eq_false', Int.toNat_natCast, beq_iff_eq, decide_eq_decide, beq_eq_false_iff_ne, ne_eq, reduceCtorEq] at h) <;> (conv => whnf)
  · have e : commandE H l dev cn s p = applyE x s p vals := hE
    have e2 : commandL H l dev cn s p = [] := by
      unfold commandL
      split
      · rfl
      · rw [if_neg (by rw [e]; first | decide | assumption)]
    rw [e, e2]
    refine ⟨?_, ?_⟩ <;> (conv => whnf)
    · exact PSub.nilL rfl
    · exact .rfl
  rw [h] at hE
  have hL : commandL H l dev cn s p = putTo l (atI l dev cn x.attrs) (applyL x s p vals) x.attrs.length := by unfold commandL; rw [hpart]; simp only; rw [if_pos hE, hvals]
  have hafter := applyL_length h
  rw [hE, hL]
  generalize applyL x s p vals = after at *
  have hinv0 := hinv
  refine And.intro (by omega) ?_
  conv => whnf
  refine loop_k (ι := Nat) [2, 3, 15, 20] [15] (fun k => k ≤ x.attrs.length ∧ True) (fun k => x.attrs.length - k) 0 (fun k => [(22, .own 500), (23, .pv (vint k))]) (fun k => [(500, rowL 7 cItem (putTo l (atI l dev cn x.attrs) after k))]) [(500, 79)] ⟨Nat.zero_le _, trivial⟩ ?_ (fun k hk => ?_)
  · (repeat' (first | exact PSub.rfl | exact rfl | exact PSubs.rfl | exact trivial | refine And.intro ?_ ?_))
    · simp [putTo]
    · intro i hi
      simp only [Nat.not_lt_zero, if_false, Nat.sub_zero, putTo]; exact PSubs.rfl
  obtain ⟨hkn, hinv⟩ := hk
  conv => whnf
  refine ⟨fun h => ?_, fun h => ?_⟩ <;> (try simp only [decide_eq_true_eq, decide_eq_false_iff_not, Bool.not_eq_true', Bool.not_eq_false', Int.toNat_natCast, beq_iff_eq, decide_eq_decide, beq_eq_false_iff_ne, ne_eq, reduceCtorEq] at h) <;> (conv => whnf)
  · have hpl := @putTo_length l (atI l dev cn x.attrs) after k
    have hati : atI l dev cn x.attrs k < l.length := by
      have := hinv0 k (by omega)
      simpa [lostB] using this
    repeat (any_goals (first
      | (refine ⟨fun (h : (_ : Bool) = true) => ?_, fun (h : (_ : Bool) = false) => ?_⟩ <;> (try simp only [decide_eq_true_eq, decide_eq_false_iff_not, Bool.not_eq_true', Bool.not_eq_false', Int.toNat_natCast, beq_iff_eq, decide_eq_decide, beq_eq_false_iff_ne, ne_eq, reduceCtorEq] at h) <;> (conv => whnf))
      | (refine And.intro (by (try simp only [Int.toNat_natCast]); omega) ?_; conv => whnf)
      | (refine And.intro (show (_ : Bool) = true from by kernel_rfl) ?_; conv => whnf)
      | (refine .inl ⟨wrap64 (by omega), ?_⟩; conv => whnf)))
    refine .inr ⟨_, _, _, ac54o (putTo l (atI l dev cn x.attrs) after k) (keyI dev cn x.attrs k) (after.getD k default) (by show _ ≤ 1048576; omega), ?_⟩
    conv => whnf
    repeat (any_goals (first
      | (refine ⟨fun (h : (_ : Bool) = true) => ?_, fun (h : (_ : Bool) = false) => ?_⟩ <;> (try simp only [decide_eq_true_eq, decide_eq_false_iff_not, Bool.not_eq_true', Bool.not_eq_false', Int.toNat_natCast, beq_iff_eq, decide_eq_decide, beq_eq_false_iff_ne, ne_eq, reduceCtorEq] at h) <;> (conv => whnf))
      | (refine And.intro (by (try simp only [Int.toNat_natCast]); omega) ?_; conv => whnf)
      | (refine And.intro (show (_ : Bool) = true from by kernel_rfl) ?_; conv => whnf)
      | (refine .inl ⟨wrap64 (by omega), ?_⟩; conv => whnf)))
    refine ⟨k + 1, [(500, 101)], ⟨by omega, trivial⟩, by omega, ?_⟩
    rw [putTo, ← with_putTo hati]
    (repeat' (first | exact PSub.rfl | exact rfl | exact PSubs.rfl | exact trivial | refine And.intro ?_ ?_))
    intro i hi; exact PSubs.rfl
  · have ek : k = x.attrs.length := by omega
    subst ek
    repeat (any_goals (first
      | (refine ⟨fun (h : (_ : Bool) = true) => ?_, fun (h : (_ : Bool) = false) => ?_⟩ <;> (try simp only [decide_eq_true_eq, decide_eq_false_iff_not, Bool.not_eq_true', Bool.not_eq_false', Int.toNat_natCast, beq_iff_eq, decide_eq_decide, beq_eq_false_iff_ne, ne_eq, reduceCtorEq] at h) <;> (conv => whnf))
      | (refine And.intro (by (try simp only [Int.toNat_natCast]); omega) ?_; conv => whnf)
      | (refine And.intro (show (_ : Bool) = true from by kernel_rfl) ?_; conv => whnf)
      | (refine .inl ⟨wrap64 (by omega), ?_⟩; conv => whnf)))
    refine ⟨?_, ?_⟩ <;> (conv => whnf)
    · exact .rfl
    · exact .rfl

structure Call where
  H : Hom
  L : List Item
  Dev : Int
  C : ByteArray
  Name : ByteArray
  Param : Val
  deriving Inhabited
def cCall (x : Call) : List PV := cHom x.H ++ (roL 7 cItem x.L :: vint x.Dev :: vstr x.C :: vstr x.Name :: cVal x.Param)

theorem commandL_length {H : Hom} {l : List Item} {dev : Int} {cn s : ByteArray} {p : Val} : (commandL H l dev cn s p).length = if commandE H l dev cn s p = 0 then l.length else 0 := by
  unfold commandL
  cases hp : partO H dev cn with
  | none =>
    have : commandE H l dev cn s p ≠ 0 := by
      unfold commandE
      split
      · assumption
      · rw [hp]; exact (by decide : (8 : Int) ≠ 0)
    rw [if_neg this]; rfl
  | some x =>
    simp only
    split
    · rw [putTo_length]
    · rfl

theorem ac8 (x : Call) (hH : smallH x.H) (hl : smallL x.L) : AC Tryd.prog 8 [.pv (.agg (cCall x))] [] (.pv (vbool true)) [] := by
  have hs : (commandL x.H x.L x.Dev x.C x.Name x.Param).length ≤ 4194304 := by
    have : x.L.length ≤ 1048576 := hl
    rw [commandL_length]; split <;> omega
  refine AC.of_awp (T := T) T_ok hm Tryd.call8 Tryd.func8 rfl rfl rfl ?_
  conv => whnf
  repeat (any_goals (first
    | (refine ⟨fun (h : (_ : Bool) = true) => ?_, fun (h : (_ : Bool) = false) => ?_⟩ <;> (try simp only [decide_eq_true_eq, decide_eq_false_iff_not, Bool.not_eq_true', Bool.not_eq_false', Int.toNat_natCast, beq_iff_eq, decide_eq_decide, beq_eq_false_iff_ne, ne_eq, reduceCtorEq] at h) <;> (conv => whnf))
    | (refine .inl ⟨_, ac12 x.H, ?_⟩; conv => whnf)
    | (refine .inl ⟨_, ac15, ?_⟩; conv => whnf)
    | (refine .inl ⟨_, ac36 x.H x.L x.Dev x.C x.Name x.Param hH hl, ?_⟩; conv => whnf)
    | (refine .inl ⟨_, ac37 x.H x.L x.Dev x.C x.Name x.Param hH hl, ?_⟩; conv => whnf)
    | (refine .inl ⟨_, ac18 (commandL x.H x.L x.Dev x.C x.Name x.Param) (commandL x.H x.L x.Dev x.C x.Name x.Param) hs, ?_⟩; conv => whnf)
    | (refine And.intro (by (try simp only [Int.toNat_natCast]); omega) ?_; conv => whnf)
    | (refine And.intro (show (_ : Bool) = true from by kernel_rfl) ?_; conv => whnf)
    | (refine .inl ⟨wrap64 (by omega), ?_⟩; conv => whnf)))
  all_goals first
    | exact PSub.rfl
    | exact PSub.lit_sb rfl
    | exact absurd trivial h
    | (exfalso; simp_all; done)

theorem initL_get {H : Hom} {id : Int} {k : Nat} (h : k < (keysL H id).length) : (initL H id).getD k default = ⟨(keysL H id).getD k default, zeroV ((findA H ((keysL H id).getD k default)).getD noAttr), (k : Int) + 1⟩ := by
  simp [initL, List.getD, h]

theorem firstC_checked {H : Hom} (h : homE H = 0) {s : ByteArray} {c : Clu} (hc : firstC H.clusters s = some c) : Checked c := by
  have hm := List.mem_of_find?_eq_some hc
  obtain ⟨i, hi, rfl⟩ := List.getElem_of_mem hm
  have := allE_distinct (homE_all h) i hi
  unfold cluE at this
  split at this
  · contradiction
  · rename_i h0
    have e : H.clusters.getD i default = H.clusters[i] := by simp [List.getD, hi]
    rw [← e]
    exact checkE_ok (Classical.not_not.1 h0)

theorem keysL_48 {H : Hom} {id : Int} : (keysL H id).length ≤ 48 := by
  cases hb : findB H id with
  | false => rw [keysL, findD_none hb]; exact Nat.zero_le _
  | true =>
    have hv : homE H = 0 := by simp only [findB, Bool.and_eq_true, decide_eq_true_eq] at hb; exact hb.1
    have key : ∀ k, k ≤ (findD H id).clusters.length → (keysTo (firstC H.clusters) id (findD H id).clusters k).length ≤ k * 12 := by
      intro k
      induction k with
      | zero => intro _; simp [keysTo]
      | succ k ih =>
        intro hk
        rw [keysTo_succ (by omega), List.length_append]
        have := ih (by omega)
        have : (keysOf1 (firstC H.clusters) id ((findD H id).clusters.getD k default)).length ≤ 12 := by
          simp only [keysOf1, attrsOf, List.length_map]
          split
          · rename_i c e; exact (firstC_checked hv e).attrs
          · exact Nat.zero_le _
        omega
    have h4 := @findD_length H id
    have := key _ (Nat.le_refl _)
    rw [keysTo, List.take_length] at this
    have e : keysL H id = (findD H id).clusters.flatMap (keysOf1 (firstC H.clusters) id) := rfl
    rw [← e] at this
    omega

theorem ac9 (H : Hom) (id : Int) (s : ByteArray) (hH : smallH H) : AC Tryd.prog 9 [.pv (.agg (cHom H)), .pv (vint id), .pv (vstr s)] [] (.pv (vbool true)) [] := by
  have hk := @keysL_48 H id
  have hil := @initL_length H id
  refine AC.of_awp (T := T) T_ok hm Tryd.call9 Tryd.func9 rfl rfl rfl ?_
  conv => whnf
  refine .inl ⟨_, ac12 H, ?_⟩
  conv => whnf
  refine ⟨fun h => ?_, fun h => ?_⟩ <;> (try simp only [decide_eq_true_eq, decide_eq_false_iff_not, Bool.not_eq_true', Bool.not_eq_false', Int.toNat_natCast, beq_iff_eq, decide_eq_decide, beq_eq_false_iff_ne, ne_eq, reduceCtorEq] at h) <;> (conv => whnf)
  · refine .inl ⟨_, ac15, ?_⟩
    conv => whnf
    exact .rfl
  refine .inl ⟨_, ac19 H id hH, ?_⟩
  conv => whnf
  refine .inl ⟨_, ac29 H id hH, ?_⟩
  conv => whnf
  refine ⟨fun h => ?_, fun h => ?_⟩ <;> (try simp only [decide_eq_true_eq, decide_eq_false_iff_not, Bool.not_eq_true', Bool.not_eq_false', Int.toNat_natCast, beq_iff_eq, decide_eq_decide, beq_eq_false_iff_ne, ne_eq, reduceCtorEq] at h) <;> (conv => whnf)
  · exfalso; omega
  clear h
  refine loop_k (ι := Nat) [1, 2, 3, 7, 8] [3] (fun k => k ≤ (keysL H id).length ∧ True) (fun k => (keysL H id).length - k) 0 (fun k => [(9, .pv (vint k))]) (fun _ => []) [] ⟨Nat.zero_le _, trivial⟩ ?_ (fun k hk => ?_)
  · (repeat' (first | exact PSub.rfl | exact rfl | exact PSubs.rfl | exact trivial | refine And.intro ?_ ?_))
  obtain ⟨hkn, hinv⟩ := hk
  conv => whnf
  refine ⟨fun h => ?_, fun h => ?_⟩ <;> (try simp only [decide_eq_true_eq, decide_eq_false_iff_not, Bool.not_eq_true', Bool.not_eq_false', Int.toNat_natCast, beq_iff_eq, decide_eq_decide, beq_eq_false_iff_ne, ne_eq, reduceCtorEq] at h) <;> (conv => whnf)
  · have hg := initL_get (H := H) (id := id) (k := k) (by omega)
    repeat (any_goals (first
      | (refine ⟨fun (h : (_ : Bool) = true) => ?_, fun (h : (_ : Bool) = false) => ?_⟩ <;> (try simp only [decide_eq_true_eq, decide_eq_false_iff_not, Bool.not_eq_true', Bool.not_eq_false', Int.toNat_natCast, beq_iff_eq, decide_eq_decide, beq_eq_false_iff_ne, ne_eq, reduceCtorEq] at h) <;> (conv => whnf))
      | (refine And.intro (by (try simp only [Int.toNat_natCast]); omega) ?_; conv => whnf)
      | (refine And.intro (show (_ : Bool) = true from by kernel_rfl) ?_; conv => whnf)
      | (refine .inl ⟨wrap64 (by omega), ?_⟩; conv => whnf)))
    · exfalso; rw [key_eq] at h; simp only [hg] at h; simp at h
    · exfalso; simp only [hg] at h; simp at h
    · refine ⟨k + 1, [], ⟨by omega, trivial⟩, by omega, ?_⟩
      (repeat' (first | exact PSub.rfl | exact rfl | exact PSubs.rfl | exact trivial | refine And.intro ?_ ?_))
  · have hcl := @commandL_length H (initL H id) id ((keysL H id).getD 0 default).cluster s noVal
    repeat (any_goals (first
      | (refine ⟨fun (h : (_ : Bool) = true) => ?_, fun (h : (_ : Bool) = false) => ?_⟩ <;> (try simp only [decide_eq_true_eq, decide_eq_false_iff_not, Bool.not_eq_true', Bool.not_eq_false', Int.toNat_natCast, beq_iff_eq, decide_eq_decide, beq_eq_false_iff_ne, ne_eq, reduceCtorEq] at h) <;> (conv => whnf))
      | (refine .inl ⟨_, ac15, ?_⟩; conv => whnf)
      | (refine .inl ⟨_, ac36 H (initL H id) id ((keysL H id).getD 0 default).cluster s noVal hH (by show _ ≤ 1048576; omega), ?_⟩; conv => whnf)
      | (refine And.intro (by (try simp only [Int.toNat_natCast]); omega) ?_; conv => whnf)
      | (refine And.intro (show (_ : Bool) = true from by kernel_rfl) ?_; conv => whnf)
      | (refine .inl ⟨wrap64 (by omega), ?_⟩; conv => whnf)))
    all_goals first
      | exact .rfl
      | exact PSub.lit_sb rfl
      | (exfalso; split at hcl <;> first | contradiction | omega)

section
variable {H : Type} {enc : TypeId × Value → H} {w : World} {bulk : DataW H → Nat}
theorem op62 (hB : BulkOk bulk) : Opens enc Tryd.prog w bulk BB 62 cCall (fun x => smallH x.H ∧ goodItems x.L ∧ inI64 x.Dev ∧ goodVal x.Param) :=
  (Opens.struct hB Tryd.underlying62 (by kernel_rfl) (.cons (size := 2) rfl (by kernel_rfl) (op25 hB) (.cons (size := 1) rfl (by kernel_rfl) (op30 hB) (.cons (size := 1) rfl (by kernel_rfl) op3 (.cons (size := 1) rfl (by kernel_rfl) (op9 hB) (.cons (size := 1) rfl (by kernel_rfl) (op9 hB) (.cons (size := 3) rfl (by kernel_rfl) (op34 hB) .nil))))))).imp (fun x => ⟨x.1, x.2.1, x.2.2.1, x.2.2.2.1, x.2.2.2.2.1, x.2.2.2.2.2.1⟩) (fun _ => rfl) (fun _ h => ⟨h.1, h.2.1, h.2.2.1, h.2.2.2.2.2.1⟩)
end

end Go.Abs
