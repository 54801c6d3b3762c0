/- YtefmohlfcnjmjaaGreatY00: walks and contracts. -/
import Derived.Test.YtefmohlfcnjmjaaGreatX07
import Derived.Shelf.SlSortCmp.Insertion
import Derived.Shelf.SlSortCmp.NoneTotal
import Derived.Test.YtefmohlfcnjmjaaGreatProg
import Derived.Shelf.Spec.SlicesGrow

set_option linter.unusedVariables false
set_option linter.unusedSimpArgs false
set_option linter.unusedSectionVars false

namespace Go.Abs
open Go.RowKit
variable [Globals]
theorem AC.of_awp_move {P : Program} {T : Tab} {f : FuncId} {fn : Func} {c : Code} {args : List AV} {o1 : AObj} {size n : Nat} {g : Nat → List PV} (hT : T.ok P) (hm : P.follows .mixedOrders = true) (hcall : ∀ (vals : Array Value) (w : World), (callFunc f vals).run P w = .ok (.enter f vals) w)
    (hf : P.funcs[f]? = some fn) (hb : fn.body = some c) (hn : Nat.ble args.length fn.ntmps = true) (hp : wsT [(0, o1)] (argTm 0 args) = true) (hr : refsO o1 = []) (h : awp P T fn.ntmps c ⟨argTm 0 args, [(0, o1)]⟩ (ownE fn size n g)) : AC P f args [(0, o1)] (.own 1) [(1, .row size n g), (0, .gone)] := by
  refine ⟨hcall, fun St M0 σ w vals hi hσ hos hl hA => ?_⟩
  have hσ0 : ∀ l, l ≠ 0 → σ l = none := fun l hl => hσ l (by rw [getO_one, if_neg (Ne.symm hl)])
  have hown0 : ∀ b, owned σ b → ∃ loc, σ 0 = some loc ∧ loc.blk = some b := by
    rintro b ⟨l, loc, e, hb⟩
    by_cases h0 : l = 0
    · subst h0; exact ⟨loc, e, hb⟩
    · rw [hσ0 l h0] at e; cases e
  have hE : FEnv.ok ⟨fn.ntmps, St, M0, owned σ, w, fun _ => none⟩ := ⟨fun b hb => hi.m0 b hb, fun b hb => hi.st b hb, hi.gl.mono (Same.refl _ w) (fun b _ hb => hb), fun _ _ e => by cases e⟩
  have hle := Nat.le_of_ble_eq_true hn
  have hget : ∀ t x, getT (argTm 0 args) t = x → x = .junk ∨ args[t]? = some x := by
    intro t x e
    rw [argTm_get, if_neg (by omega)] at e
    cases ha : args[t - 0]? with
    | none => rw [ha] at e; exact .inl e.symm
    | some y => rw [ha] at e; simp at e ha; subst e; exact .inr rfl
  have hR : Rel P ⟨fn.ntmps, St, M0, owned σ, w, fun _ => none⟩ ⟨argTm 0 args, [(0, o1)]⟩ σ { tmps := vals ++ Array.replicate (fn.ntmps - vals.size) undef, defers := [] } w := by
    refine ⟨by simp; omega, rfl, fun t => ?_, hos, hσ, fun t l hl' => ?_, fun i o e l hl' => ?_, hi.sep, fun b hb => .inl hb, FExt.refl _ w, fun _ _ e => by cases e⟩
    · rcases hget t _ rfl with e | e
      · rw [e]; exact .junk _
      · have := hA t _ e
        have hlt : t < args.length := (List.getElem?_eq_some_iff.1 e).1
        rw [getD_append_left (by omega)]
        exact this
    · rcases getT_mem (l := argTm 0 args) (t := t) with e | ⟨v, hm, e⟩
      · simp only [e] at hl'; simp [refs] at hl'
      · simp only [e] at hl'; exact wsT_mem hp t v hm l hl'
    · rw [getO_one] at e
      split at e
      · cases e; rw [hr] at hl'; simp at hl'
      · cases e
  refine calls_of_wp hf hb (wp_mono (awp_sound hE hT hm c _ _ _ _ w hR h) (fun e a' w' he => ?_))
  have hgo : ∀ k, getO [(1, AObj.row size n g), (0, AObj.gone)] k = if 1 = k then some (AObj.row size n g) else if 0 = k then some .gone else none := fun k => by
    rw [getO_cons]
    split
    · rfl
    · exact getO_one
  have fin : (∃ s σ', ownQ fn size n g s ∧ Rel P ⟨fn.ntmps, St, M0, owned σ, w, fun _ => none⟩ s σ' a' w') → a'.defers = [] ∧ ∃ v, (results fn a'.tmps).run P w' = .ok v w' ∧ ∃ v_1 σ', Ending.returned v = .returned v_1 ∧ Post P St M0 σ w [(1, .row size n g), (0, .gone)] (.own 1) σ' v_1 w' := by
    rintro ⟨⟨tm, ob⟩, σ2, hq, hR'⟩
    have hc : ∀ l : List ResultVar, fn.results.toList = l → fn.results = l.toArray := fun l e => by rw [← e]
    have mk : ∀ (loc : Loc), (∀ b, loc.blk = some b → Mof M0 σ2 b ∧ (owned σ b ∨ w.heap.size ≤ b)) → OR P w' St (Mof M0 σ2) σ2 (.row size n g) loc → Post P St M0 σ w [(1, .row size n g), (0, .gone)] (.own 1) (upd1 (fun _ => none) 1 loc) loc.ref w' := by
      intro loc hlb hor
      have hMM : ∀ b, b < w'.heap.size → Mof M0 (upd1 (fun _ => none) 1 loc) b → Mof M0 σ2 b := by
        intro b _ hb
        rcases hb with hb | hb
        · exact .inl hb
        · rcases owned_upd1 hb with ⟨_, _, h, _⟩ | h
          · cases h
          · exact (hlb b h).1
      refine ⟨.own _ _ fun lc h => by simp [upd1] at h; rw [h], fun k x e => ?_, fun k e => ?_, fun k lc lc' e e' => ?_, ?_, fun b h => ?_, hR'.ext.mono (fun b _ h => ?_)⟩
      · rw [hgo] at e
        split at e
        · rename_i h; cases e; subst h
          exact ⟨loc, by simp [upd1], hor.mono (Same.refl _ w') hMM (fun _ _ _ => rfl) (fun l hl => by simp [refsO] at hl) (fun _ _ => rfl)⟩
        · split at e
          · rename_i h; cases e; subst h; show upd1 (fun _ => none) 1 loc 0 = none; simp [upd1]
          · cases e
      · rw [hgo] at e
        split at e
        · cases e
        · split at e
          · cases e
          · rename_i h1 h2
            rw [hσ0 k (fun h => h2 h.symm)]
            simp [upd1, show ¬ k = 1 from fun x => h1 x.symm]
      · unfold upd1 at e'
        split at e'
        · rename_i h; subst h; rw [hσ0 1 (by decide)] at e; cases e
        · cases e'
      · intro k k' lc lc' b e e' _ _
        unfold upd1 at e e'
        split at e <;> split at e'
        · rename_i h h'; rw [h, h']
        · cases e'
        · cases e
        · cases e
      · rcases owned_upd1 h with ⟨_, _, h, _⟩ | h
        · cases h
        · exact (hlb b h).2
      · obtain ⟨lc, h1, h2⟩ := hown0 b h
        exact ⟨0, lc, by rw [hgo]; simp, h1, h2⟩
    unfold ownQ at hq
    simp only at hq
    split at hq
    · rename_i t hr
      have htm := hR'.tm t
      simp only at htm
      split at hq
      · rename_i l hv
        split at hq
        · rename_i s' n' f' hob
          obtain ⟨h1, h2, h3⟩ := chk_true hq
          have h1 := Nat.eq_of_beq_eq_true h1
          subst h1; subst h2
          obtain ⟨loc, hloc, hor⟩ := hR'.ob l _ hob
          rw [hv] at htm
          have hval := arg_own htm hloc
          have hlb : ∀ b, loc.blk = some b → Mof M0 σ2 b ∧ (owned σ b ∨ w.heap.size ≤ b) := fun b hb => ⟨.inr ⟨l, loc, hloc, hb⟩, hR'.own b ⟨l, loc, hloc, hb⟩⟩
          refine ⟨hR'.df, _, by simp [results, hc _ hr]; rfl, _, upd1 (fun _ => none) 1 loc, rfl, ?_⟩
          have h4 : a'.tmps.getD t undef = loc.ref := hval
          have h5 : a'.tmps[t]?.getD undef = loc.ref := by rw [← h4]; simp [Array.getD_eq_getD_getElem?]
          rw [h5]
          refine mk loc hlb ?_
          cases hor with
          | row0 _ _ a => exact .row0 _ _ a
          | row _ _ _ b cap vs t hb hn hmax hsz hs hh h6 =>
            refine .row _ _ _ b cap vs t hb hn hmax hsz (fun i hi => (h3 i hi).length ▸ hs i hi) (fun i hi j p e => ?_) h6
            obtain ⟨q, hq, hs'⟩ := (h3 i hi).get j p e
            exact hs'.to _ _ _ (hh i hi j q hq)
        · exact hq.elim
      · rename_i hv
        subst hq
        rw [hv] at htm
        have h4 : a'.tmps.getD t undef = .slice none 0 0 := pr_val (arg_pv htm)
        have h5 : a'.tmps[t]?.getD undef = .slice none 0 0 := by rw [← h4]; simp [Array.getD_eq_getD_getElem?]
        refine ⟨hR'.df, _, by simp [results, hc _ hr]; rfl, _, upd1 (fun _ => none) 1 ⟨.slice none 0 0, none⟩, rfl, ?_⟩
        rw [h5]
        exact mk ⟨.slice none 0 0, none⟩ (fun b hb => by cases hb) (.row0 _ _ none)
      · exact hq.elim
    · exact hq.elim
  cases e with
  | normal => exact fin he
  | ret => exact fin he
  | exit i => obtain ⟨s, σ, hq, _⟩ := he; exact hq.elim
  | goto l => exact he.elim
  | panic c => exact he.elim
  | outgrown => exact he.elim
end Go.Abs

namespace Go.Abs
variable [Globals]
theorem updAt_same {f : Nat → List PV} {i j : Nat} {cs : List PV} : updAt f i j cs i = splice (f i) j cs := by simp [updAt, putAt]
theorem updAt_ne {f : Nat → List PV} {i j k : Nat} {cs : List PV} (h : k ≠ i) : updAt f i j cs k = f k := by
  unfold updAt putAt
  rw [show Nat.beq k i = false from by rw [← Bool.not_eq_true]; simpa [Nat.beq_eq] using h]
end Go.Abs

namespace Go.Abs
open Go.Proofs
set_option maxRecDepth 10000
def keyLess (a b : Key) : Bool := if a.dev ≠ b.dev then decide (a.dev < b.dev) else if a.cluster ≠ b.cluster then Op.bytesLess a.cluster.toList b.cluster.toList else Op.bytesLess a.attr.toList b.attr.toList
theorem ac_device_Less (a b : Key) : AC Tryz.prog 52 [.pv (.agg (cKey a)), .pv (.agg (cKey b))] [] (.pv (vbool (keyLess a b))) [] := by
  refine AC.of_awp (T := T) T_ok hm Tryz.call52 Tryz.func52 rfl rfl rfl ?_
  conv => whnf
  repeat (any_goals (first
    | (refine ⟨fun (h : (_ : Bool) = true) => ?_, fun (h : (_ : Bool) = false) => ?_⟩ <;> (try simp only [decide_eq_true_eq, decide_eq_false_iff_not, Bool.not_eq_true', Bool.not_eq_false', Int.toNat_natCast, beq_iff_eq, decide_eq_decide, beq_eq_false_iff_ne, ne_eq, reduceCtorEq] at h) <;> (conv => whnf))
    | (refine And.intro (by (try simp only [Int.toNat_natCast]); omega) ?_; conv => whnf)
    | (refine And.intro (show (_ : Bool) = true from by kernel_rfl) ?_; conv => whnf)
    | (refine .inl ⟨wrap64 (by omega), ?_⟩; conv => whnf)))
  all_goals (try simp only [decide_eq_true_eq, decide_eq_false_iff_not, Bool.not_eq_true', Bool.not_eq_false', Int.toNat_natCast, beq_iff_eq, decide_eq_decide, beq_eq_false_iff_ne, ne_eq, reduceCtorEq] at *)
  all_goals first
    | contradiction
    | (exfalso; omega)
    | exact PSub.rfl
    | (refine PSub.int ?_; simp only [keyLess]; (repeat' split) <;> first | rfl | omega | (simp_all [-List.getD_eq_getElem?_getD]; done) | (simp_all [-List.getD_eq_getElem?_getD]; omega))
    | (refine PSub.sb ?_; simp_all [keyLess, -List.getD_eq_getElem?_getD]; done)
    | (refine PSub.lit_sb ?_; simp_all [keyLess, -List.getD_eq_getElem?_getD]; done)
    | (refine PSub.sb_lit ?_; simp_all [keyLess, -List.getD_eq_getElem?_getD]; done)
    | (refine PSub.sb ?_; rw [Bool.eq_iff_iff]; simp_all [keyLess, -List.getD_eq_getElem?_getD]; done)
    | (refine PSub.lit_sb ?_; rw [Bool.eq_iff_iff]; simp_all [keyLess, -List.getD_eq_getElem?_getD]; done)
    | (refine PSub.sb_lit ?_; rw [Bool.eq_iff_iff]; simp_all [keyLess, -List.getD_eq_getElem?_getD]; done)
    | skip
end Go.Abs

namespace Go.Abs
open Go.Proofs
set_option maxRecDepth 10000
theorem keyLess_def (a b : Key) : keyLess a b = if a.dev ≠ b.dev then decide (a.dev < b.dev) else if a.cluster ≠ b.cluster then sLt a.cluster b.cluster else sLt a.attr b.attr := rfl
theorem keyLess_irrefl (a : Key) : keyLess a a = false := by
  rw [keyLess_def]; simp [sLt_irrefl]
theorem keyLess_total {a b : Key} (h : a ≠ b) : keyLess a b = true ∨ keyLess b a = true := by
  rw [keyLess_def, keyLess_def]
  by_cases h1 : a.dev = b.dev
  · by_cases h2 : a.cluster = b.cluster
    · by_cases h3 : a.attr = b.attr
      · exfalso; apply h; cases a; cases b; simp_all
      · simp [h1, h2]; exact sLt_total h3
    · simp [h1, h2, Ne.symm h2]; exact sLt_total h2
  · simp [h1, Ne.symm h1]; omega
theorem keyLess_trans {a b c : Key} (h : keyLess a b = true) (k : keyLess b c = true) : keyLess a c = true := by
  rw [keyLess_def] at *
  by_cases h1 : a.dev = b.dev <;> by_cases k1 : b.dev = c.dev
  · by_cases h2 : a.cluster = b.cluster <;> by_cases k2 : b.cluster = c.cluster
    · simp_all; exact sLt_trans h k
    · simp_all
    · have : a.cluster ≠ c.cluster := fun e => h2 (e.trans k2.symm)
      simp_all
    · have h3 : sLt a.cluster b.cluster = true := by simp_all
      have k3 : sLt b.cluster c.cluster = true := by simp_all
      have t := sLt_trans h3 k3
      have : a.cluster ≠ c.cluster := fun e => by rw [e, sLt_irrefl] at t; cases t
      simp [h1, k1, this]; exact t
  · simp [h1, k1] at h k ⊢; exact k
  · have : a.dev ≠ c.dev := fun e => h1 (e.trans k1.symm)
    simp [h1] at h
    simp [this]; omega
  · simp [h1] at h
    simp [k1] at k
    have : a.dev ≠ c.dev := by omega
    simp [this]; omega
theorem keyLess_asymm {a b : Key} (h : keyLess a b = true) : keyLess b a = false := by
  rw [← Bool.not_eq_true]
  intro k
  have := keyLess_trans h k
  rw [keyLess_irrefl] at this; cases this
end Go.Abs

namespace Go.Abs
def Asc (l : List Key) : Prop := l.Pairwise fun a b => keyLess a b = true
theorem asc_ext : ∀ {l k : List Key}, Asc l → Asc k → (∀ x, x ∈ l ↔ x ∈ k) → l = k
  | [], [], _, _, _ => rfl
  | [], b :: k, _, _, h => by have := (h b).2 (by simp); simp at this
  | a :: l, [], _, _, h => by have := (h a).1 (by simp); simp at this
  | a :: l, b :: k, hl, hk, h => by
    obtain ⟨hl1, hl2⟩ := List.pairwise_cons.1 hl
    obtain ⟨hk1, hk2⟩ := List.pairwise_cons.1 hk
    have e : a = b := by
      have h1 := (h a).1 (by simp)
      have h2 := (h b).2 (by simp)
      rcases List.mem_cons.1 h1 with e | h1
      · exact e
      · rcases List.mem_cons.1 h2 with e | h2
        · exact e.symm
        · have := keyLess_asymm (hl1 b h2)
          rw [hk1 a h1] at this; cases this
    subst e
    congr 1
    refine asc_ext hl2 hk2 fun x => ⟨fun hx => ?_, fun hx => ?_⟩
    · rcases List.mem_cons.1 ((h x).1 (by simp [hx])) with e | h1
      · subst e; have := hl1 x hx; rw [keyLess_irrefl] at this; cases this
      · exact h1
    · rcases List.mem_cons.1 ((h x).2 (by simp [hx])) with e | h1
      · subst e; have := hk1 x hx; rw [keyLess_irrefl] at this; cases this
      · exact h1
def putK : List Key → Key → List Key
  | [], k => [k]
  | x :: r, k => if keyLess x k = true then x :: putK r k else k :: (x :: r).filter fun y => decide (y ≠ k)
theorem mem_putK {l : List Key} {k x : Key} : x ∈ putK l k ↔ x = k ∨ x ∈ l := by
  induction l with
  | nil => simp [putK]
  | cons y r ih =>
    unfold putK
    split
    · simp only [List.mem_cons, ih]
      constructor
      · rintro (h | h | h)
        · exact .inr (.inl h)
        · exact .inl h
        · exact .inr (.inr h)
      · rintro (h | h | h)
        · exact .inr (.inl h)
        · exact .inl h
        · exact .inr (.inr h)
    · simp only [List.mem_cons, List.mem_filter, decide_eq_true_eq]
      constructor
      · rintro (h | ⟨h, _⟩)
        · exact .inl h
        · exact .inr h
      · rintro (h | h)
        · exact .inl h
        · by_cases e : x = k
          · exact .inl e
          · exact .inr ⟨h, e⟩
theorem asc_putK {l : List Key} {k : Key} (h : Asc l) : Asc (putK l k) := by
  induction l with
  | nil => simp [putK, Asc]
  | cons y r ih =>
    obtain ⟨h1, h2⟩ := List.pairwise_cons.1 h
    unfold putK
    split
    · rename_i hy
      refine List.pairwise_cons.2 ⟨fun x hx => ?_, ih h2⟩
      rcases mem_putK.1 hx with rfl | hx
      · exact hy
      · exact h1 x hx
    · rename_i hy
      refine List.pairwise_cons.2 ⟨fun x hx => ?_, h.sublist (List.filter_sublist)⟩
      rw [List.mem_filter, decide_eq_true_eq] at hx
      obtain ⟨hx, hne⟩ := hx
      rcases List.mem_cons.1 hx with rfl | hx
      · exact (keyLess_total hne).resolve_left hy
      · have h3 := h1 x hx
        rcases keyLess_total hne with h4 | h4
        · exact absurd (keyLess_trans h3 h4) hy
        · exact h4
def sortK (l : List Key) : List Key := l.foldl putK []
theorem foldl_putK_mem {l acc : List Key} {x : Key} : x ∈ l.foldl putK acc ↔ x ∈ acc ∨ x ∈ l := by
  induction l generalizing acc with
  | nil => simp
  | cons y r ih =>
    simp only [List.foldl_cons, ih, mem_putK, List.mem_cons]
    constructor
    · rintro ((h | h) | h)
      · exact .inr (.inl h)
      · exact .inl h
      · exact .inr (.inr h)
    · rintro (h | h | h)
      · exact .inl (.inr h)
      · exact .inl (.inl h)
      · exact .inr h
theorem foldl_putK_asc {l acc : List Key} (h : Asc acc) : Asc (l.foldl putK acc) := by
  induction l generalizing acc with
  | nil => exact h
  | cons y r ih => exact ih (asc_putK h)
theorem mem_sortK {l : List Key} {x : Key} : x ∈ sortK l ↔ x ∈ l := by unfold sortK; rw [foldl_putK_mem]; simp
theorem asc_sortK (l : List Key) : Asc (sortK l) := foldl_putK_asc List.Pairwise.nil
theorem sortK_congr {l k : List Key} (h : ∀ x, x ∈ l ↔ x ∈ k) : sortK l = sortK k := asc_ext (asc_sortK l) (asc_sortK k) fun x => by rw [mem_sortK, mem_sortK, h]
theorem putK_length (l : List Key) (k : Key) : (putK l k).length ≤ l.length + 1 := by
  induction l with
  | nil => simp [putK]
  | cons y r ih =>
    unfold putK
    split
    · simp only [List.length_cons]; omega
    · simp only [List.length_cons]
      have := List.length_filter_le (fun z => decide (z ≠ k)) (y :: r)
      simp only [List.length_cons] at this
      omega
theorem foldl_putK_length {l acc : List Key} : (l.foldl putK acc).length ≤ acc.length + l.length := by
  induction l generalizing acc with
  | nil => simp
  | cons y r ih =>
    have h1 := ih (acc := putK acc y)
    have h2 := putK_length acc y
    simp only [List.foldl_cons, List.length_cons]; omega
theorem sortK_length (l : List Key) : (sortK l).length ≤ l.length := by
  have := foldl_putK_length (l := l) (acc := [])
  simpa [sortK] using this
def compTo (l : List Key) : Nat → List Key
  | 0 => []
  | m + 1 => if m = 0 ∨ l.getD m default ≠ l.getD (m - 1) default then compTo l m ++ [l.getD m default] else compTo l m
theorem compTo_take {l : List Key} : ∀ {m : Nat}, m ≤ l.length → (∀ j, 1 ≤ j → j < m → l.getD j default ≠ l.getD (j - 1) default) → compTo l m = l.take m
  | 0, _, _ => by simp [compTo]
  | m + 1, hm, h => by
    have ih := compTo_take (l := l) (m := m) (by omega) (fun j h1 h2 => h j h1 (by omega))
    unfold compTo
    rw [if_pos, ih, take_succ_getD (by omega)]
    by_cases e : m = 0
    · exact .inl e
    · exact .inr (h m (by omega) (by omega))
def Ord (l : List Key) : Prop := ∀ i j, i < j → j < l.length → keyLess (l.getD j default) (l.getD i default) = false
theorem compTo_spec {s : List Key} (hs : Ord s) : ∀ m, m ≤ s.length → Asc (compTo s m) ∧ ∀ x, x ∈ compTo s m ↔ ∃ i, i < m ∧ s.getD i default = x
  | 0, _ => ⟨List.Pairwise.nil, fun x => by simp [compTo]⟩
  | m + 1, hm => by
    obtain ⟨h1, h2⟩ := compTo_spec hs m (by omega)
    unfold compTo
    split
    · rename_i hne
      refine ⟨List.pairwise_append.2 ⟨h1, by simp, fun a ha b hb => ?_⟩, fun x => ?_⟩
      · simp only [List.mem_singleton] at hb
        subst hb
        obtain ⟨i, hi, rfl⟩ := (h2 a).1 ha
        have hle := hs i m hi (by omega)
        by_cases e : s.getD i default = s.getD m default
        · exfalso
          have hne := hne.resolve_left (by omega)
          have h3 := hs (m - 1) m (by omega) (by omega)
          have h4 : keyLess (s.getD (m - 1) default) (s.getD m default) = false := by
            by_cases ei : i = m - 1
            · subst ei; rw [e]; exact keyLess_irrefl _
            · rw [← e]; exact hs i (m - 1) (by omega) (by omega)
          rcases keyLess_total hne with h5 | h5
          · rw [h5] at h3; cases h3
          · rw [h5] at h4; cases h4
        · rcases keyLess_total e with h5 | h5
          · exact h5
          · rw [h5] at hle; cases hle
      · rw [List.mem_append, h2, List.mem_singleton]
        constructor
        · rintro (⟨i, hi, e⟩ | e)
          · exact ⟨i, by omega, e⟩
          · exact ⟨m, by omega, e.symm⟩
        · rintro ⟨i, hi, e⟩
          by_cases ei : i = m
          · subst ei; exact .inr e.symm
          · exact .inl ⟨i, by omega, e⟩
    · rename_i hne
      have hne := not_or.1 hne
      have heq := Classical.not_not.1 hne.2
      refine ⟨h1, fun x => ?_⟩
      rw [h2]
      constructor
      · rintro ⟨i, hi, e⟩; exact ⟨i, by omega, e⟩
      · rintro ⟨i, hi, e⟩
        by_cases ei : i = m
        · subst ei; exact ⟨i - 1, by omega, by rw [← heq]; exact e⟩
        · exact ⟨i, by omega, e⟩
def sortedK (l : List Key) : List Key := l.mergeSort fun x y => !keyLess y x
theorem sortedK_ord (l : List Key) : Ord (sortedK l) := by
  have hp := List.pairwise_mergeSort (le := fun x y : Key => !keyLess y x) (fun a b c h1 h2 => by
    simp only [Bool.not_eq_true'] at *
    cases h3 : keyLess c a with
    | false => rfl
    | true =>
      exfalso
      by_cases e : a = b
      · subst e; rw [h3] at h2; cases h2
      · rcases keyLess_total e with h4 | h4
        · have := keyLess_trans h3 h4; rw [this] at h2; cases h2
        · rw [h4] at h1; cases h1) (fun a b => by
    simp only [Bool.or_eq_true, Bool.not_eq_true']
    cases h : keyLess b a with
    | false => exact .inl rfl
    | true => exact .inr (keyLess_asymm h)) l
  intro i j hij hj
  have hj' : j < (l.mergeSort fun x y => !keyLess y x).length := hj
  have := List.pairwise_iff_getElem.1 hp i j (by omega) hj' hij
  simp only [Bool.not_eq_true'] at this
  unfold sortedK
  rw [getD_getElem _ _ hj', getD_getElem _ _ (show i < (l.mergeSort fun x y => !keyLess y x).length from by omega)]
  exact this
theorem sortedK_length (l : List Key) : (sortedK l).length = l.length := List.length_mergeSort _
theorem comp_sorted (l : List Key) : compTo (sortedK l) l.length = sortK l := by
  obtain ⟨h1, h2⟩ := compTo_spec (sortedK_ord l) l.length (by rw [sortedK_length]; exact Nat.le_refl _)
  refine asc_ext h1 (asc_sortK l) fun x => ?_
  rw [h2, mem_sortK, ← List.mem_mergeSort (le := fun x y => !keyLess y x)]
  show _ ↔ x ∈ sortedK l
  rw [List.mem_iff_getElem]
  constructor
  · rintro ⟨i, hi, e⟩
    exact ⟨i, by rw [sortedK_length]; exact hi, by simpa [List.getD, show i < (sortedK l).length from by rw [sortedK_length]; exact hi] using e⟩
  · rintro ⟨i, hi, e⟩
    exact ⟨i, by rwa [sortedK_length] at hi, by simp [List.getD, hi, e]⟩
def cmpK (a b : Key) : Int := if keyLess a b = true then -1 else if keyLess b a = true then 1 else 0
theorem ltOf_cmpK (a b : Key) : Proofs.ltOf cmpK a b = keyLess a b := by
  unfold Proofs.ltOf cmpK
  by_cases h : keyLess a b = true
  · simp [h]
  · by_cases h2 : keyLess b a = true <;> simp [h, h2]
theorem swo_cmpK : Sort.SWO (Proofs.ltOf cmpK) := by
  refine ⟨fun x => by rw [ltOf_cmpK]; exact keyLess_irrefl x, fun x y z h1 h2 => ?_, fun x y z h1 h2 => ?_⟩
  · rw [ltOf_cmpK] at *; exact keyLess_trans h1 h2
  · rw [ltOf_cmpK] at *
    cases h3 : keyLess x z with
    | false => rfl
    | true =>
      exfalso
      by_cases e : y = x
      · subst e; rw [h3] at h2; cases h2
      · rcases keyLess_total e with h4 | h4
        · have := keyLess_trans h4 h3; rw [this] at h2; cases h2
        · rw [h4] at h1; cases h1
theorem parts_cmpK (a b : Key) (h1 : Proofs.ltOf cmpK a b = false) (h2 : Proofs.ltOf cmpK b a = false) : a = b := by
  rw [ltOf_cmpK] at *
  rcases Classical.em (a = b) with e | e
  · exact e
  · rcases keyLess_total e with h | h
    · rw [h] at h1; cases h1
    · rw [h] at h2; cases h2
def vKey (k : Key) : List Value := [.int .i64 k.dev, .string k.cluster, .string k.attr]
theorem sortedK_eq (l : List Key) : (l.mergeSort fun x y => !(Proofs.ltOf cmpK) y x) = sortedK l := by
  have : (fun x y : Key => !(Proofs.ltOf cmpK) y x) = fun x y => !keyLess y x := funext fun x => funext fun y => by rw [ltOf_cmpK]
  rw [sortedK, this]
end Go.Abs

namespace Go.Abs
theorem putS_length (l : List ByteArray) (k : ByteArray) : (putS l k).length ≤ l.length + 1 := by
  induction l with
  | nil => simp [putS]
  | cons y r ih =>
    unfold putS
    split
    · simp only [List.length_cons]; omega
    · simp only [List.length_cons]
      have := List.length_filter_le (fun z => decide (z ≠ k)) (y :: r)
      simp only [List.length_cons] at this
      omega
theorem foldl_putS_length {l acc : List ByteArray} : (l.foldl putS acc).length ≤ acc.length + l.length := by
  induction l generalizing acc with
  | nil => simp
  | cons y r ih =>
    have h1 := ih (acc := putS acc y)
    have h2 := putS_length acc y
    simp only [List.foldl_cons, List.length_cons]; omega
theorem sortS_length (l : List ByteArray) : (sortS l).length ≤ l.length := by
  have := foldl_putS_length (l := l) (acc := [])
  simpa [sortS] using this
end Go.Abs

namespace Go.Abs
variable [Globals]
def lockKeys (l : List Lck) : List Key := l.flatMap fun k => (k.force ++ k.forbid).map Item.key
theorem mem_actL {l : List Lck} {v : Vw} {before : List ByteArray} {n : ByteArray} : n ∈ actL l v before ↔ actN l v before n = true := by
  unfold actL
  rw [mem_sortS, List.mem_filter]
  refine ⟨fun h => h.2, fun h => ⟨?_, h⟩⟩
  unfold actN at h
  cases hf : fstL l n with
  | none => rw [hf] at h; cases h
  | some x => exact fstL_isSome.1 (by rw [hf]; rfl)
end Go.Abs

namespace Go.Abs
open Go.Proofs Go.RowKit
set_option maxRecDepth 10000
section
variable {H : Type} {enc : TypeId × Value → H} {w : World} {bulk : DataW H → Nat}
theorem op_Span (hB : BulkOk bulk) : Opens enc Tryz.prog w bulk BB 248 cSpn (fun _ => True) :=
  (Opens.struct hB Tryz.underlying248 (by kernel_rfl) (.cons (size := 1) rfl (by kernel_rfl) op_int (.cons (size := 1) rfl (by kernel_rfl) op_int .nil))).imp (fun x => ⟨x.1, x.2.1⟩) (fun _ => rfl) (fun _ _ => trivial)
theorem op_l_Span (hB : BulkOk bulk) : Opens enc Tryz.prog w bulk BB 155 (fun l : List Spn => [roL 2 cSpn l]) smallL :=
  (Opens.slice hB Tryz.underlying155 (by kernel_rfl) (by decide) (op_Span hB)).imp id (fun _ => rfl) (fun _ h => h.1)
theorem op_Member (hB : BulkOk bulk) : Opens enc Tryz.prog w bulk BB 157 cMem (fun _ => True) :=
  (Opens.struct hB Tryz.underlying157 (by kernel_rfl) (.cons (size := 1) rfl (by kernel_rfl) (op_string hB) (.cons (size := 1) rfl (by kernel_rfl) op_int (.cons (size := 1) rfl (by kernel_rfl) (op_l_Span hB) (.cons (size := 1) rfl (by kernel_rfl) (op_l_string hB) (.cons (size := 1) rfl (by kernel_rfl) op_bool .nil)))))).imp
    (fun x => ⟨x.1, x.2.1, x.2.2.1, x.2.2.2.1, x.2.2.2.2.1⟩) (fun _ => rfl) (fun _ _ => trivial)
theorem op_l_Member (hB : BulkOk bulk) : Opens enc Tryz.prog w bulk BB 48 (fun l : List Mem => [roL 5 cMem l]) smallL :=
  (Opens.slice hB Tryz.underlying48 (by kernel_rfl) (by decide) (op_Member hB)).imp id (fun _ => rfl) (fun _ h => h.1)
theorem op_View (hB : BulkOk bulk) : Opens enc Tryz.prog w bulk BB 50 cVw smallV2 :=
  (Opens.struct hB Tryz.underlying50 (by kernel_rfl) (.cons (size := 1) rfl (by kernel_rfl) (op_l_Item hB) (.cons (size := 1) rfl (by kernel_rfl) (op_string hB) (.cons (size := 1) rfl (by kernel_rfl) op_int (.cons (size := 1) rfl (by kernel_rfl) (op_l_Member hB) .nil))))).imp
    (fun x => ⟨x.1, x.2.1, x.2.2.1, x.2.2.2.1⟩) (fun _ => rfl) (fun _ h => ⟨h.1.1, h.2.2.2.1⟩)
end
end Go.Abs

namespace Go.Abs
open Go.Proofs
set_option maxRecDepth 10000
theorem ac_r22_SameKeys (a b : List Key) (ha : a.length ≤ 4194304) : AC Tryz.prog 29 [.pv (roL 3 cKey a), .pv (roL 3 cKey b)] [] (.pv (vbool (decide (a = b)))) [] := by
  refine AC.of_awp (T := T) T_ok hm Tryz.call29 Tryz.func29 rfl rfl rfl ?_
  conv => whnf
  refine ⟨fun h => ?_, fun h => ?_⟩ <;> (try simp only [decide_eq_true_eq, decide_eq_false_iff_not, Bool.not_eq_true', Bool.not_eq_false', Int.toNat_natCast, beq_iff_eq, decide_eq_decide, beq_eq_false_iff_ne, ne_eq, reduceCtorEq] at h) <;> (conv => whnf)
  · exact PSub.lit_sb (by symm; simp only [decide_eq_false_iff_not]; intro e; exact h (by rw [e]))
  have hl := h
  refine loop_k (ι := Nat) [0, 1] [] (fun k => k ≤ a.length ∧ (∀ j, j < k → a.getD j default = b.getD j default)) (fun k => a.length - k) 0 (fun k => [(5, .pv (vint k))]) (fun _ => []) [] ⟨Nat.zero_le _, fun j h => absurd h (by omega)⟩ ?_ (fun k hk => ?_)
  · (repeat' (first | exact PSub.rfl | exact rfl | exact PSubs.rfl | exact trivial | exact PSub.lit_sb rfl | refine And.intro ?_ ?_))
  obtain ⟨hkn, hinv⟩ := hk
  conv => whnf
  repeat (any_goals (first
    | (refine ⟨fun (h : (_ : Bool) = true) => ?_, fun (h : (_ : Bool) = false) => ?_⟩ <;> (try simp only [decide_eq_true_eq, decide_eq_false_iff_not, Bool.not_eq_true', Bool.not_eq_false', Int.toNat_natCast, beq_iff_eq, decide_eq_decide, beq_eq_false_iff_ne, ne_eq, reduceCtorEq] at h) <;> (conv => whnf))
    | (refine And.intro (by (try simp only [Int.toNat_natCast]); omega) ?_; conv => whnf)
    | (refine And.intro (show (_ : Bool) = true from by kernel_rfl) ?_; conv => whnf)
    | (refine .inl ⟨wrap64 (by omega), ?_⟩; conv => whnf)))
  all_goals try rw [key_eq] at h
  all_goals try simp only [decide_eq_true_eq, decide_eq_false_iff_not] at h
  · exact PSub.lit_sb (by symm; simp only [decide_eq_false_iff_not]; intro e; exact h (by rw [e]))
  · refine ⟨k + 1, [], ⟨by omega, ?_⟩, by first | omega | (dsimp only; omega), ?_⟩
    rotate_left
    · (repeat' (first | exact PSub.rfl | exact rfl | exact PSubs.rfl | exact trivial | exact PSub.lit_sb rfl | refine And.intro ?_ ?_))
    intro j hj
    by_cases e : j = k
    · subst e; first | exact h | simpa [-List.getD_eq_getElem?_getD] using h | simp_all [-List.getD_eq_getElem?_getD]
    · exact hinv j (by omega)
  · exact PSub.lit_sb (by symm; simp only [decide_eq_true_eq]; exact list_eq (by omega) fun i hi => hinv i (by omega))
section
variable {H : Type} {enc : TypeId × Value → H} {w : World} {bulk : DataW H → Nat}
end
end Go.Abs

namespace Go.Abs
open Go.RowKit Go.Shelf Go.Sort
variable [Globals]
theorem grown_of_ext {w w' : World} (ho : w'.os = w.os) (ht : w'.tape = w.tape) (hp : w'.output = w.output) (hs : w.heap.size ≤ w'.heap.size) (hb : ∀ b, b < w.heap.size → w'.heap[b]? = w.heap[b]?) (hd : w.drawn ≤ w'.drawn) :
    ∃ q os', w' = grow (w.drewN q) os' := by
  refine ⟨w'.drawn - w.drawn, w'.heap.extract w.heap.size w'.heap.size, ?_⟩
  obtain ⟨heap, tape, drawn, os, output⟩ := w
  obtain ⟨heap', tape', drawn', os', output'⟩ := w'
  simp only at *
  subst ho; subst ht; subst hp
  simp only [grow, World.drewN, World.mk.injEq, true_and, and_true]
  refine ⟨?_, by omega⟩
  apply Array.ext_getElem?
  intro i
  rw [Array.getElem?_append]
  split
  · rename_i h; exact hb i h
  · rename_i h
    by_cases h2 : i < heap'.size
    · rw [Array.getElem?_extract]
      rw [if_pos (by omega)]
      congr 1; omega
    · rw [Array.getElem?_eq_none (by omega), Array.getElem?_eq_none (by simp; omega)]
section
variable {P : Program} {ρ : Ren} {α : Type} [Inhabited α]
theorem sortWorld_same {encV : α → List Value} {k : Nat} {M : Nat → Prop} {w : World} {b m : Nat} {dk : Array α} {os : Array Obj} (hb : M b) : Same M w (Proofs.sortWorldK encV k w b 0 m dk os) := by
  unfold Proofs.sortWorldK grow
  refine ⟨by simp [putRowK, Sort.ahead], fun c hc hm => ?_⟩
  have hne : b ≠ c := fun e => hm (e ▸ hb)
  show ((putRowK encV k (Sort.ahead w m) b 0 dk).heap ++ os)[c]? = _
  rw [Array.getElem?_append_left (by simp [putRowK, Sort.ahead]; exact hc)]
  simp only [putRowK, putRow, mapBlock, Sort.ahead]
  rw [Array.getElem?_modify]
  simp [hne]
theorem agg_vals {W : World} {M : Nat → Prop} {l : List Value} (h1 : ∀ v ∈ l, v.oneCell' = true) : PR W M (.agg (l.map .val)) (.agg l.toArray) := by
  refine .agg _ _ (by simp) (fun i p e => ?_) (fun i hi' => ?_)
  · rw [List.getElem?_map] at e
    cases hq : l[i]? with
    | none => rw [hq] at e; cases e
    | some q =>
      rw [hq] at e; cases e
      have : l.toArray.getD i undef = q := by simp [Array.getD_eq_getD_getElem?, hq]
      rw [this]; exact .val q
  · have hlt : i < l.length := by simpa using hi'
    have := h1 l[i] (List.getElem_mem hlt)
    simpa [Array.getD, hlt] using this
theorem two_args {W : World} {St M : Nat → Prop} {σ : Sig} {p q : PV} {u v : Value} (hu : PR W M p u) (hv : PR W M q v) : ∀ (i : Nat) (z : AV), [AV.pv p, AV.pv q][i]? = some z → AR P W St M σ z (#[u, v].getD i undef) := by
  intro i z e
  match i, e with
  | 0, e => cases e; exact .pv _ _ hu
  | 1, e => cases e; exact .pv _ _ hv
  | i + 2, e => simp at e
theorem ac_grown {g : FuncId} {p q : PV} {n : Int} (h : AC P g [.pv p, .pv q] [] (.pv (.val (.int .i64 n))) []) {M : Nat → Prop} {W : World} {u v : Value} (hM : ∀ b, M b → b < W.heap.size) (hG : Glob W M) (hu : PR W M p u) (hv : PR W M q v) :
    Calls P g #[u, v] W fun e w' => e = .returned (.int .i64 n) ∧ ∃ r os', w' = grow (W.drewN r) os' := by
  have hMo : ∀ b, Mof M (fun _ => none) b ↔ M b := fun b => ⟨fun h => h.elim id (fun ⟨l, loc, e, _⟩ => (by cases e)), fun h => .inl h⟩
  have hMe : Mof M (fun _ => none) = M := funext fun b => propext (hMo b)
  have hinv : Inv (fun _ => False) M (fun _ => none) W := by
    refine ⟨fun l l' loc loc' c e => (by cases e), fun c ⟨l, loc, e, _⟩ => (by cases e), fun c h => ⟨hM c h, fun ⟨l, loc, e, _⟩ => by cases e⟩, fun c h => h.elim, ?_⟩
    rw [hMe]; exact hG
  refine (h.2 (fun _ => False) M (fun _ => none) W #[u, v] hinv (fun _ _ => rfl) (fun l o e => by simp [getO] at e) rfl (two_args (by rw [hMe]; exact hu) (by rw [hMe]; exact hv))).mono (fun e w' he => ?_)
  obtain ⟨v, σ', rfl, hp⟩ := he
  have hv := pr_val (arg_pv hp.val)
  subst hv
  refine ⟨rfl, grown_of_ext hp.ext.os hp.ext.tape hp.ext.output hp.ext.size (fun c hc => hp.ext.block c hc ?_) hp.ext.drawn⟩
  rintro ⟨l, loc, h, _⟩
  exact h rfl
theorem cmpLays_of_ac {g : FuncId} {encV : α → List Value} {k : Nat} {cf : α → α → Int} (h1 : ∀ x, ∀ v ∈ encV x, v.oneCell' = true)
    (hg : ∀ x y, AC P g [.pv (.agg ((encV x).map .val)), .pv (.agg ((encV y).map .val))] [] (.pv (.val (.int .i64 (cf x y)))) [])
    {St M0 : Nat → Prop} {σ : Sig} {w : World} (hi : Inv St M0 σ w) {b size : Nat} (hb : owned σ b) : Proofs.CmpLays P g #[] encV k cf b 0 size w := by
  intro m os dk hdk x y
  have hsame : Same (Mof M0 σ) w (Proofs.sortWorldK encV k w b 0 m dk os) := sortWorld_same (.inr hb)
  rw [Array.append_empty]
  exact ac_grown (hg x y) (M := Mof M0 σ) (fun c h => Nat.lt_of_lt_of_le (h.elim (fun h => (hi.m0 c h).1) (hi.lt c)) hsame.1) (hi.gl.mono hsame (fun c _ h => h)) (agg_vals (h1 x)) (agg_vals (h1 y))
theorem AC.sortFunc (L : Proofs.SlLaysF0.n6 P ρ) (k : Nat) (aE : ∀ w, (isAgg (ρ.t 24)).run P w = .ok true w) (zE : ∀ w, (Go.sizeOf (ρ.t 24)).run P w = .ok k w) (encV : α → List Value) (hk : ∀ x, (encV x).length = k) (h1 : ∀ x, ∀ v ∈ encV x, v.oneCell' = true) (cf : α → α → Int) (hO : SWO (Proofs.ltOf cf)) (g : FuncId)
    (hg : ∀ x y, AC P g [.pv (.agg ((encV x).map .val)), .pv (.agg ((encV y).map .val))] [] (.pv (.val (.int .i64 (cf x y)))) []) (hT : ∀ x y, Proofs.ltOf cf x y = false → Proofs.ltOf cf y x = false → x = y)
    (hcall : ∀ (vals : Array Value) (w : World), (callFunc (ρ.f 6) vals).run P w = .ok (.enter (ρ.f 6) vals) w) (l : List α) (hl : l.length < 4611686018427387904) :
    AC P (ρ.f 6) [.own 0, .fn g []] [(0, .row k l.length fun i => (encV (l.getD i default)).map .val)] (.pv (.tup [])) [(0, .row k l.length fun i => (encV ((l.mergeSort fun x y => !(Proofs.ltOf cf) y x).getD i default)).map .val)] := by
  refine ⟨hcall, fun St M0 σ w vals hi hσ hos hsz hA => ?_⟩
  obtain ⟨loc, hloc, hor⟩ := hos 0 _ (by simp [getO]; rfl)
  have hv0 := arg_own (hA 0 (.own 0) rfl) hloc
  have hv1 := hA 1 (.fn g []) rfl
  have hvals : vals = #[vals.getD 0 undef, vals.getD 1 undef] := by
    have hs2 : vals.size = 2 := hsz
    apply Array.ext
    · simpa using hs2
    · intro i h2 h3
      have : i = 0 ∨ i = 1 := by omega
      rcases this with rfl | rfl <;> simp [Array.getD, hs2]
  have hfv : vals.getD 1 undef = .func (.func g) #[] #[] := by
    generalize vals.getD 1 undef = v at hv1
    cases hv1 with
    | fn f caps vs hlc _ =>
      have : vs = #[] := by simpa using hlc
      rw [this]
  rw [hvals, hv0, hfv]
  have done : ∀ w' : World, w' = w → l.length = 0 → ∃ v σ', Ending.returned (.tuple #[]) = .returned v ∧ Post P St M0 σ w [(0, .row k l.length fun i => (encV ((l.mergeSort fun x y => !(Proofs.ltOf cf) y x).getD i default)).map .val)] (.pv (.tup [])) σ' v w' := by
    rintro w' rfl hl0
    refine ⟨_, σ, rfl, Post.redo hi ⟨loc, hloc, ?_⟩ (.pv _ _ (.tup _ _ rfl fun i p e => by simp at e))⟩
    have h0 : l = [] := List.length_eq_zero_iff.1 hl0
    subst h0
    simpa using hor
  generalize hn0 : l.length = n0 at hor
  cases hor with
  | row0 _ _ a =>
    refine (Proofs.AnyF.slices_SortFunc_none L a 0 _ w).mono (fun e w' h => ?_)
    obtain ⟨rfl, hw⟩ := h
    have h5 := done w' hw hn0
    rw [hn0] at h5
    exact h5
  | row _ _ _ b cap vs t hb hn hmax hsz' hs hh hone =>
    subst hn0
    by_cases h0 : l.length = 0
    · have none' : ∀ n, n = 0 → Calls P (ρ.f 6) #[.slice (some ⟨b, 0, none⟩) n cap, .func (.func g) #[] #[]] w fun e w' => e = .returned (.tuple #[]) ∧ w' = w := by
        intro n hn
        rw [hn]
        exact Proofs.AnyF.slices_SortFunc_none L (some ⟨b, 0, none⟩) cap (.func (.func g) #[] #[]) w
      have := none' l.length h0
      refine this.mono (fun e w' h => ?_)
      obtain ⟨rfl, hw⟩ := h
      exact done w' hw h0
    · have hblk := lt_of_block hb
      have hget : ∀ j, j < l.length * k → vs.getD j undef = (flatK encV k l.toArray)[j]! := by
        intro j hj
        have k0 : 0 < k := by rcases Nat.eq_zero_or_pos k with h | h; · subst h; simp at hj
                              · exact h
        have hd : j / k < l.length := (Nat.div_lt_iff_lt_mul k0).2 hj
        have hm : j % k < (encV (l.getD (j / k) default)).length := by rw [hk]; exact Nat.mod_lt _ k0
        have hp := hh (j / k) hd (j % k) (.val ((encV (l.getD (j / k) default))[j % k]'hm)) (by simp [hm])
        have hp := pr_val hp
        rw [show j / k * k + j % k = j from by rw [Nat.mul_comm]; exact Nat.div_add_mod j k] at hp
        rw [hp, get_flatK _ _ _ _ (by simpa using hj)]
        have e1 : l.toArray[j / k]! = l.getD (j / k) default := by simp [List.getD, hd]
        rw [e1, getElem!_pos (encV (l.getD (j / k) default)) (j % k) hm]
      have hH : HoldsK encV k w b 0 l.toArray := by
        intro j hj
        have hj' : j < l.length * k := by simpa using hj
        have hlt : j < vs.size := by rw [hsz']; exact Nat.lt_of_lt_of_le hj' (Nat.mul_le_mul_right _ hn)
        refine ⟨?_, ?_⟩
        · rw [Nat.zero_add, id, ← hget j hj']
          simp [World.cell?, hb, Array.getD, hlt]
        · simp [World.frozen?, hb]
      have hown : owned σ b := ⟨0, _, hloc, rfl⟩
      have := Proofs.AnyQ.slices_SortFunc_total L k aE zE encV hk h1 cf hO g #[] b 0 cap l.toArray w (hg default default).1 (cmpLays_of_ac h1 hg hi hown) hH hblk (by simpa using hl) hT
      have e0 : (l.toArray).size = l.length := by simp
      rw [e0] at this
      refine this.mono ?_
      rintro e w' ⟨rfl, n, os, rfl⟩
      have hx := sortWorld_ext (encV := encV) (k := k) (w := w) (b := b) (n := n) (d := (l.toArray.toList.mergeSort fun x y => !(Proofs.ltOf cf) y x).toArray) (os := os)
      have hrow := sortWorld_row (encV := encV) (k := k) (w := w) (b := b) (n := n) (d := (l.toArray.toList.mergeSort fun x y => !(Proofs.ltOf cf) y x).toArray) (os := os) hb
      have hlm : (l.mergeSort fun x y => !(Proofs.ltOf cf) y x).length = l.length := List.length_mergeSort _
      refine ⟨_, σ, rfl, Post.upd hi hloc rfl hx (by simp) (.row _ _ _ b cap _ t hrow hn hmax (by simp [Sort.putCells, hsz']) (fun i hi' => by simp [hk]) (fun i hi' j p e => ?_) (fun i hi' => ?_)) (.pv _ _ (.tup _ _ rfl fun i p e => by simp at e))⟩
      · rw [List.getElem?_map] at e
        cases hq : (encV ((l.mergeSort fun x y => !(Proofs.ltOf cf) y x).getD i default))[j]? with
        | none => rw [hq] at e; cases e
        | some q =>
          rw [hq] at e; cases e
          have hj : j < k := by have := (List.getElem?_eq_some_iff.1 hq).1; rwa [hk] at this
          have hlt : i * k + j < l.length * k := idx_lt hi' hj
          have hltv : i * k + j < vs.size := by rw [hsz']; exact Nat.lt_of_lt_of_le hlt (Nat.mul_le_mul_right _ hn)
          have : (Sort.putCells id 0 (flatK encV k (l.toArray.toList.mergeSort fun x y => !(Proofs.ltOf cf) y x).toArray) vs).getD (i * k + j) undef = q := by
            simp only [Sort.putCells, Array.getD, Array.size_mapIdx, hltv, dif_pos, Array.getInternal_eq_getElem, Array.getElem_mapIdx]
            rw [if_pos (by simp [hlm]; exact hlt)]
            rw [Nat.sub_zero, id, get_flatK _ _ _ _ (by simp [hlm]; exact hlt)]
            have e1 : (i * k + j) / k = i := by rw [Nat.add_comm, Nat.add_mul_div_right _ _ (by omega), Nat.div_eq_of_lt hj, Nat.zero_add]
            have e2 : (i * k + j) % k = j := by rw [Nat.add_comm, Nat.add_mul_mod_self_right, Nat.mod_eq_of_lt hj]
            rw [e1, e2]
            have e3 : (l.toArray.toList.mergeSort fun x y => !(Proofs.ltOf cf) y x).toArray[i]! = (l.mergeSort fun x y => !(Proofs.ltOf cf) y x).getD i default := by
              have : i < (l.mergeSort fun x y => !(Proofs.ltOf cf) y x).length := by omega
              simp [List.getD, this]
            rw [e3]
            have hj2 := (List.getElem?_eq_some_iff.1 hq)
            obtain ⟨h3, h4⟩ := hj2
            rw [getElem!_pos (encV ((l.mergeSort fun x y => !(Proofs.ltOf cf) y x).getD i default)) j h3, h4]
          rw [this]; exact .val q
      · have hltv : i < vs.size := by simpa [Sort.putCells] using hi'
        simp only [Sort.putCells, Array.getD, Array.size_mapIdx, hltv, dif_pos, Array.getInternal_eq_getElem, Array.getElem_mapIdx]
        split
        · rename_i hc
          have hf : i - 0 < (flatK encV k (l.toArray.toList.mergeSort fun x y => !(Proofs.ltOf cf) y x).toArray).size := by
            have := hc.2
            simp only [Nat.zero_add, Nat.sub_zero] at this ⊢
            exact this
          have k0 : 0 < k := by rcases Nat.eq_zero_or_pos k with h | h; · subst h; simp at hf
                                · exact h
          rw [id, get_flatK _ _ _ _ (by simpa using hf)]
          have hm : (i - 0) % k < (encV (l.toArray.toList.mergeSort fun x y => !(Proofs.ltOf cf) y x).toArray[(i - 0) / k]!).length := by rw [hk]; exact Nat.mod_lt _ k0
          rw [getElem!_pos (encV (l.toArray.toList.mergeSort fun x y => !(Proofs.ltOf cf) y x).toArray[(i - 0) / k]!) ((i - 0) % k) hm]
          exact h1 _ _ (List.getElem_mem hm)
        · have := hone i hltv
          simpa [Array.getD, hltv] using this
end
end Go.Abs

namespace Go.Proofs
open Go.Shelf
def Tryz.sortKey_ren : Go.Shelf.Ren := ⟨fun | 6 => 50 | 15 => 91 | 14 => 90 | 28 => 134 | 29 => 135 | 20 => 126 | 21 => 127 | 22 => 128 | 23 => 129 | 24 => 130 | 25 => 131 | 26 => 132 | 27 => 133 | 46 => 177 | 47 => 178 | 48 => 179 | 49 => 180 | 50 => 181 | 57 => 209 | n => n, fun | 22 => 65 | 24 => 39 | 25 => 93 | 3 => 3 | 39 => 133 | 0 => 0 | 53 => 171 | 55 => 71 | 4 => 4 | 46 => 164 | 45 => 163 | 50 => 168 | 5 => 5 | 9 => 9 | 66 => 204 | 70 => 208 | 76 => 223 | 77 => 224 | n => n, fun | n => n⟩
theorem Tryz.sortKey : Go.Proofs.SlLaysF0.n6 Tryz.prog Tryz.sortKey_ren := {
  mixed := by kernel_rfl
  f6 := ⟨Tryz.f50.name, by decide, Tryz.func50.trans (congrArg some (by kernel_rfl))⟩
  f14 := ⟨Tryz.f90.name, by decide, Tryz.func90.trans (congrArg some (by kernel_rfl))⟩
  f15 := Tryz.func91.trans (congrArg some (by kernel_rfl))
  f20 := ⟨Tryz.f126.name, by decide, Tryz.func126.trans (congrArg some (by kernel_rfl))⟩
  f21 := ⟨Tryz.f127.name, by decide, Tryz.func127.trans (congrArg some (by kernel_rfl))⟩
  f22 := ⟨Tryz.f128.name, by decide, Tryz.func128.trans (congrArg some (by kernel_rfl))⟩
  f23 := ⟨Tryz.f129.name, by decide, Tryz.func129.trans (congrArg some (by kernel_rfl))⟩
  f24 := ⟨Tryz.f130.name, by decide, Tryz.func130.trans (congrArg some (by kernel_rfl))⟩
  f25 := ⟨Tryz.f131.name, by decide, Tryz.func131.trans (congrArg some (by kernel_rfl))⟩
  f26 := ⟨Tryz.f132.name, by decide, Tryz.func132.trans (congrArg some (by kernel_rfl))⟩
  f27 := ⟨Tryz.f133.name, by decide, Tryz.func133.trans (congrArg some (by kernel_rfl))⟩
  f28 := Tryz.func134.trans (congrArg some (by kernel_rfl))
  f29 := Tryz.func135.trans (congrArg some (by kernel_rfl))
  f46 := ⟨Tryz.f177.name, by decide, Tryz.func177.trans (congrArg some (by kernel_rfl))⟩
  f47 := Tryz.func178.trans (congrArg some (by kernel_rfl))
  f48 := Tryz.func179.trans (congrArg some (by kernel_rfl))
  f49 := ⟨Tryz.f180.name, by decide, Tryz.func180.trans (congrArg some (by kernel_rfl))⟩
  f50 := ⟨Tryz.f181.name, by decide, Tryz.func181.trans (congrArg some (by kernel_rfl))⟩
  f57 := ⟨Tryz.f209.name, by decide, Tryz.func209.trans (congrArg some (by kernel_rfl))⟩
  t0 := Tryz.underlying0
  a0 := Tryz.isAgg0
  z0 := Tryz.sizeOf0
  v0 := Tryz.zeroValue0
  t3 := Tryz.underlying3
  a3 := Tryz.isAgg3
  z3 := Tryz.sizeOf3
  v3 := Tryz.zeroValue3
  t4 := Tryz.underlying4
  a4 := Tryz.isAgg4
  z4 := Tryz.sizeOf4
  v4 := Tryz.zeroValue4
  t5 := Tryz.underlying5
  a5 := Tryz.isAgg5
  z5 := Tryz.sizeOf5
  v5 := Tryz.zeroValue5
  t9 := Tryz.underlying9
  a9 := Tryz.isAgg9
  z9 := Tryz.sizeOf9
  v9 := Tryz.zeroValue9
  t22 := Tryz.underlying65
  a22 := Tryz.isAgg65
  z22 := Tryz.sizeOf65
  v22 := Tryz.zeroValue65
  t25 := Tryz.underlying93
  a25 := Tryz.isAgg93
  z25 := Tryz.sizeOf93
  v25 := Tryz.zeroValue93
  t39 := Tryz.underlying133
  a39 := Tryz.isAgg133
  z39 := Tryz.sizeOf133
  v39 := Tryz.zeroValue133
  t45 := Tryz.underlying163
  a45 := Tryz.isAgg163
  z45 := Tryz.sizeOf163
  v45 := Tryz.zeroValue163
  t46 := Tryz.underlying164
  a46 := Tryz.isAgg164
  z46 := Tryz.sizeOf164
  v46 := Tryz.zeroValue164
  t50 := Tryz.underlying168
  a50 := Tryz.isAgg168
  z50 := Tryz.sizeOf168
  v50 := Tryz.zeroValue168
  t53 := Tryz.underlying171
  a53 := Tryz.isAgg171
  z53 := Tryz.sizeOf171
  v53 := Tryz.zeroValue171
  t55 := Tryz.underlying71
  a55 := Tryz.isAgg71
  z55 := Tryz.sizeOf71
  v55 := Tryz.zeroValue71
  t66 := Tryz.underlying204
  a66 := Tryz.isAgg204
  z66 := Tryz.sizeOf204
  v66 := Tryz.zeroValue204
  t70 := Tryz.underlying208
  a70 := Tryz.isAgg208
  z70 := Tryz.sizeOf208
  v70 := Tryz.zeroValue208
  t76 := Tryz.underlying223
  a76 := Tryz.isAgg223
  z76 := Tryz.sizeOf223
  v76 := Tryz.zeroValue223
  t77 := Tryz.underlying224
  a77 := Tryz.isAgg224
  z77 := Tryz.sizeOf224
  v77 := Tryz.zeroValue224 }
end Go.Proofs

namespace Go.Abs
open Go.Proofs
set_option maxRecDepth 10000
theorem ac_slices_SortFunc_Key (g : FuncId) (hg : ∀ a b, AC Tryz.prog g [.pv (.agg (cKey a)), .pv (.agg (cKey b))] [] (.pv (vint (cmpK a b))) []) (l : List Key) (hl : l.length ≤ 8388608) :
    AC Tryz.prog 50 [.own 0, .fn g []] [(0, rowL 3 cKey l)] (.pv (.tup [])) [(0, rowL 3 cKey (sortedK l))] := by
  have := AC.sortFunc (α := Key) Tryz.sortKey 3 Tryz.isAgg39 Tryz.sizeOf39 vKey (fun _ => rfl) (fun x v hv => by simp [vKey] at hv; rcases hv with rfl | rfl | rfl <;> rfl) cmpK swo_cmpK g hg parts_cmpK Tryz.call50 l (by omega)
  rw [sortedK_eq] at this
  unfold rowL
  rw [sortedK_length]
  exact this
theorem row_upd {G : Nat → Key} {i : Nat} {x : Key} {n : Nat} : ∀ j, j < n → PSubs (updAt (fun j => cKey (G j)) i 0 (cKey x) j) (cKey (if j = i then x else G j)) := by
  intro j _
  by_cases e : j = i
  · subst e; rw [updAt_same, if_pos rfl]; exact PSubs.rfl
  · rw [updAt_ne e, if_neg e]; exact PSubs.rfl
theorem ac_slices_Compact_Key (l : List Key) (hl : l.length ≤ 8388608) : AC Tryz.prog 53 [.own 0] [(0, rowL 3 cKey l)] (.own 1) [(1, rowL 3 cKey (compTo l l.length)), (0, .gone)] := by
  refine AC.of_awp_move (T := T) T_ok hm Tryz.call53 Tryz.func53 rfl rfl rfl rfl ?_
  conv => whnf
  refine ⟨fun h => ?_, fun h => ?_⟩ <;> (try simp only [decide_eq_true_eq, decide_eq_false_iff_not, Bool.not_eq_true', Bool.not_eq_false', Int.toNat_natCast, beq_iff_eq, decide_eq_decide, beq_eq_false_iff_ne, ne_eq, reduceCtorEq] at h) <;> (conv => whnf)
  · have e : compTo l l.length = l := by
      rw [compTo_take (Nat.le_refl _) (fun j h1 h2 => by omega), List.take_length]
    rw [e]
    exact ⟨rfl, fun i hi => PSubs.rfl⟩
  refine loop_k (ι := Nat) [0] [] (fun k => 1 ≤ k ∧ k ≤ l.length ∧ ∀ j, 1 ≤ j → j < k → l.getD j default ≠ l.getD (j - 1) default) (fun k => l.length - k) 1 (fun k => [(3, .pv (vint k))]) (fun _ => [(0, rowL 3 cKey l)]) [] ⟨Nat.le_refl _, by omega, fun j h1 h2 => by omega⟩ ?_ (fun k hk => ?_)
  · (repeat' (first | exact PSub.rfl | exact rfl | exact PSubs.rfl | exact trivial | exact PSub.lit_sb rfl | refine And.intro ?_ ?_))
    intro i hi; exact PSubs.rfl
  obtain ⟨h1, h2, hinv⟩ := hk
  conv => whnf
  have hk0 : compTo l k = l.take k := compTo_take h2 hinv
  repeat (any_goals (first
    | (refine ⟨fun (h : (_ : Bool) = true) => ?_, fun (h : (_ : Bool) = false) => ?_⟩ <;> (try simp only [decide_eq_true_eq, decide_eq_false_iff_not, Bool.not_eq_true', Bool.not_eq_false', Int.toNat_natCast, beq_iff_eq, decide_eq_decide, beq_eq_false_iff_ne, ne_eq, reduceCtorEq] at h) <;> (conv => whnf))
    | (refine And.intro (by (try simp only [Int.toNat_natCast]); omega) ?_; conv => whnf)
    | (refine And.intro (show (_ : Bool) = true from by kernel_rfl) ?_; conv => whnf)
    | (refine .inl ⟨wrap64 (by omega), ?_⟩; conv => whnf)))
  · rename_i hlt
    rw [key_eq] at h
    simp only [decide_eq_true_eq, Int.toNat_natCast] at h
    have hkm : ((k : Int) - 1).toNat = k - 1 := by omega
    rw [hkm] at h
    have hk1 : compTo l (k + 1) = l.take k := by
      rw [compTo, if_neg (not_or.2 ⟨by omega, fun hn => hn h⟩), hk0]
    refine loop_k (ι := Nat × (Nat → Key)) [0, 4] [] (fun x => 1 ≤ x.1 ∧ x.1 ≤ l.length - k ∧ (compTo l (k + x.1)).length ≤ k + x.1 - 1 ∧ (∀ j, j < (compTo l (k + x.1)).length → x.2 j = (compTo l (k + x.1)).getD j default) ∧ ∀ j, k + x.1 - 1 ≤ j → j < l.length → x.2 j = l.getD j default)
      (fun x => l.length - k - x.1) (1, fun j => l.getD j default) (fun x => [(3, .pv (vint (compTo l (k + x.1)).length)), (5, .pv (vint x.1))]) (fun x => [(0, .row 3 l.length fun i => cKey (x.2 i))]) [] ⟨Nat.le_refl _, by simp only; omega, ?_, ?_, fun j _ _ => rfl⟩ ?_ (fun x hx => ?_)
    · simp only [hk1, List.length_take]; omega
    · intro j hj
      simp only [hk1, List.length_take] at hj ⊢
      simp [List.getD, List.getElem?_take, show j < k from by omega]
    · (repeat' (first | exact PSub.rfl | exact rfl | exact PSubs.rfl | exact trivial | exact PSub.lit_sb rfl | refine And.intro ?_ ?_))
      · intro i hi; exact PSubs.rfl
      · refine PSub.int ?_
        simp only [hk1, List.length_take]; omega
    obtain ⟨k2, G⟩ := x
    obtain ⟨j1, j2, hC, hG, hL⟩ := hx
    simp only at j1 j2 hC hG hL
    have hCs : compTo l (k + (k2 + 1)) = if l.getD (k + k2) default ≠ l.getD (k + k2 - 1) default then compTo l (k + k2) ++ [l.getD (k + k2) default] else compTo l (k + k2) := by
      rw [show k + (k2 + 1) = k + k2 + 1 from rfl, compTo]
      by_cases e : l.getD (k + k2) default ≠ l.getD (k + k2 - 1) default
      · rw [if_pos (.inr e), if_pos e]
      · rw [if_neg (not_or.2 ⟨by omega, e⟩), if_neg e]
    have e2 : (((k2 : Nat) : Int) - 1).toNat = k2 - 1 := by omega
    dsimp only
    conv => whnf
    repeat (any_goals (first
      | (refine ⟨fun (h : (_ : Bool) = true) => ?_, fun (h : (_ : Bool) = false) => ?_⟩ <;> (try simp only [decide_eq_true_eq, decide_eq_false_iff_not, Bool.not_eq_true', Bool.not_eq_false', Int.toNat_natCast, beq_iff_eq, decide_eq_decide, beq_eq_false_iff_ne, ne_eq, reduceCtorEq] at h) <;> (conv => whnf))
      | (refine And.intro (by (try simp only [Int.toNat_natCast]); omega) ?_; conv => whnf)
      | (refine And.intro (show (_ : Bool) = true from by kernel_rfl) ?_; conv => whnf)
      | (refine .inl ⟨wrap64 (by omega), ?_⟩; conv => whnf)))
    · rw [key_eq, e2] at h
      simp only [decide_eq_false_iff_not] at h
      rw [hL _ (by omega) (by omega), hL _ (by omega) (by omega), show k + (k2 - 1) = k + k2 - 1 from by omega] at h
      rw [if_pos h] at hCs
      refine ⟨(k2 + 1, fun j => if j = (compTo l (k + k2)).length then l.getD (k + k2) default else G j), [], ⟨?_, ?_, ?_, ?_, ?_⟩, by dsimp only; omega, ?_⟩
      · dsimp only; omega
      · dsimp only; omega
      · simp only [hCs, List.length_append, List.length_singleton]; omega
      · intro j hj
        simp only [hCs, List.length_append, List.length_singleton] at hj ⊢
        by_cases e : j = (compTo l (k + k2)).length
        · subst e; simp [List.getD]
        · rw [if_neg e, hG j (by omega)]; simp [List.getD, List.getElem?_append_left (show j < (compTo l (k + k2)).length from by omega)]
      · intro j h3 h4
        dsimp only at h3 ⊢
        rw [if_neg (by omega)]
        exact hL j (by omega) h4
      dsimp only
      rw [hCs]
      (repeat' (first | exact PSub.rfl | exact rfl | exact PSubs.rfl | exact trivial | exact PSub.lit_sb rfl | refine And.intro ?_ ?_))
      · intro j hj
        have := row_upd (G := G) (i := (compTo l (k + k2)).length) (x := l.getD (k + k2) default) j hj
        rw [← hL (k + k2) (by omega) (by omega)] at this ⊢
        exact this
      · refine PSub.int ?_; simp
    · rw [key_eq, e2] at h
      simp only [decide_eq_true_eq] at h
      rw [hL _ (by omega) (by omega), hL _ (by omega) (by omega), show k + (k2 - 1) = k + k2 - 1 from by omega] at h
      rw [if_neg (fun hn => hn h)] at hCs
      refine ⟨(k2 + 1, G), [], ⟨?_, ?_, ?_, ?_, ?_⟩, by dsimp only; omega, ?_⟩
      · dsimp only; omega
      · dsimp only; omega
      · simp only [hCs]; omega
      · intro j hj
        simp only [hCs] at hj ⊢
        exact hG j hj
      · intro j h3 h4
        dsimp only at h3 ⊢
        exact hL j (by omega) h4
      dsimp only
      rw [hCs]
      (repeat' (first | exact PSub.rfl | exact rfl | exact PSubs.rfl | exact trivial | exact PSub.lit_sb rfl | refine And.intro ?_ ?_))
      intro i hi; exact PSubs.rfl
    · have e3 : k + k2 = l.length := by omega
      rw [e3] at hG hC ⊢
      refine ⟨by simp, fun j hj => ?_⟩
      rw [fillF_eq, if_neg (by simp; omega)]
      simp only [hG j hj]
      exact PSubs.rfl
  · refine ⟨k + 1, [], ⟨by omega, by omega, fun j h3 h4 => ?_⟩, by omega, ?_⟩
    · by_cases e : j = k
      · subst e
        rw [key_eq] at h
        simp only [decide_eq_false_iff_not, Int.toNat_natCast] at h
        rw [show ((j : Int) - 1).toNat = j - 1 from by omega] at h
        exact h
      · exact hinv j h3 (by omega)
    · (repeat' (first | exact PSub.rfl | exact rfl | exact PSubs.rfl | exact trivial | exact PSub.lit_sb rfl | refine And.intro ?_ ?_))
      intro i hi; exact PSubs.rfl
  · have e : k = l.length := by omega
    subst e
    rw [hk0, List.take_length]
    exact ⟨rfl, fun i hi => PSubs.rfl⟩
end Go.Abs

namespace Go.Proofs
open Go.Shelf
def Tryz.growItem_ren : Go.Shelf.Ren := ⟨fun | 4 => 89 | n => n, fun | 22 => 43 | 25 => 47 | 3 => 3 | 4 => 4 | 9 => 9 | 20 => 20 | 0 => 0 | n => n, fun | n => n⟩
theorem Tryz.growItem : Go.Proofs.Lays8.n4 Tryz.prog Tryz.growItem_ren := {
  mixed := by kernel_rfl
  f4 := ⟨Tryz.f89.name, by decide, Tryz.func89.trans (congrArg some (by kernel_rfl))⟩
  t0 := Tryz.underlying0
  a0 := Tryz.isAgg0
  z0 := Tryz.sizeOf0
  v0 := Tryz.zeroValue0
  t3 := Tryz.underlying3
  a3 := Tryz.isAgg3
  z3 := Tryz.sizeOf3
  v3 := Tryz.zeroValue3
  t4 := Tryz.underlying4
  a4 := Tryz.isAgg4
  z4 := Tryz.sizeOf4
  v4 := Tryz.zeroValue4
  t9 := Tryz.underlying9
  a9 := Tryz.isAgg9
  z9 := Tryz.sizeOf9
  v9 := Tryz.zeroValue9
  t20 := Tryz.underlying20
  a20 := Tryz.isAgg20
  z20 := Tryz.sizeOf20
  v20 := Tryz.zeroValue20
  t22 := Tryz.underlying43
  a22 := Tryz.isAgg43
  z22 := Tryz.sizeOf43
  v22 := Tryz.zeroValue43 }
end Go.Proofs

namespace Go.Abs
open Go.Proofs
set_option maxRecDepth 10000
theorem ac_slices_Grow_Item (n : Nat) (hn : n ≤ 8388608) : AC Tryz.prog 89 [.pv (.val (.slice none 0 0)), .pv (vint n)] [] (.own 0) [(0, .row 7 0 fun _ => [])] := by
  obtain ⟨e, i, z, hE, hs⟩ := elemOf_spec (T := T) T_ok (t := 43) (size := 7) (by kernel_rfl)
  have he : e = 47 := by have := hE.ht; rw [Tryz.underlying43] at this; cases this; rfl
  subst he
  have := AC.grow Tryz.growItem hE n (Nat.le_trans (Nat.mul_le_mul hn hE.small) (by decide)) hn (fun _ => []) Tryz.call89
  rw [hs] at this
  exact this
theorem flat_take {ls : List (List Item)} {k : Nat} (h : k < ls.length) : (ls.take (k + 1)).flatten = (ls.take k).flatten ++ ls.getD k default := by
  rw [take_succ_getD h, List.flatten_append]; simp [-List.getD_eq_getElem?_getD]
theorem flat_le {ls : List (List Item)} {k : Nat} : (ls.take k).flatten.length ≤ ls.flatten.length := by
  conv => rhs; rw [← List.take_append_drop k ls, List.flatten_append, List.length_append]
  omega
theorem flat_add {ls : List (List Item)} {k : Nat} : (ls.take k).flatten.length + (ls.getD k default).length ≤ ls.flatten.length := by
  by_cases h : k < ls.length
  · have := flat_le (ls := ls) (k := k + 1)
    rw [flat_take h, List.length_append] at this
    exact this
  · have : ls.getD k default = [] := by simp [List.getD, Nat.le_of_not_lt h]; rfl
    rw [this]
    exact flat_le
theorem ac_slices_Concat_Item (ls : List (List Item)) (hl : smallL ls) (hf : ls.flatten.length ≤ 8388608) : AC Tryz.prog 49 [.pv (roL 1 (fun l => [roL 7 cItem l]) ls)] [] (.own 0) [(0, rowL 7 cItem ls.flatten)] := by
  have hl2 : ls.length ≤ 1048576 := hl
  refine AC.of_awp_own (T := T) T_ok hm Tryz.call49 Tryz.func49 rfl rfl rfl ?_
  conv => whnf
  refine loop_k (ι := Nat) [0, 9, 10] [] (fun k => k ≤ ls.length ∧ True) (fun k => ls.length - k) 0 (fun k => [(3, .pv (vint (ls.take k).flatten.length)), (11, .pv (vint k))]) (fun k => []) [] ⟨Nat.zero_le _, trivial⟩ ?_ (fun k hk => ?_)
  · (repeat' (first | exact PSub.rfl | exact rfl | exact PSubs.rfl | exact trivial | exact PSub.lit_sb rfl | refine And.intro ?_ ?_))
  obtain ⟨hkn, -⟩ := hk
  conv => whnf
  have hadd := flat_add (ls := ls) (k := k)
  repeat (any_goals (first
    | (refine ⟨fun (h : (_ : Bool) = true) => ?_, fun (h : (_ : Bool) = false) => ?_⟩ <;> (try simp only [decide_eq_true_eq, decide_eq_false_iff_not, Bool.not_eq_true', Bool.not_eq_false', Int.toNat_natCast, beq_iff_eq, decide_eq_decide, beq_eq_false_iff_ne, ne_eq, reduceCtorEq] at h) <;> (conv => whnf))
    | (refine .inr (.inl ⟨_, _, _, ac_slices_Grow_Item (ls.take k).flatten.length (Nat.le_trans flat_le hf), ?_⟩); conv => whnf)
    | (refine And.intro (by (try simp only [Int.toNat_natCast]); omega) ?_; conv => whnf)
    | (refine And.intro (show (_ : Bool) = true from by kernel_rfl) ?_; conv => whnf)
    | (refine .inl ⟨wrap64 (by omega), ?_⟩; conv => whnf)))
  · refine .inl ⟨show inR .i64 (((ls.take k).flatten.length : Int) + ((ls.getD k default).length : Int)) from wrap64 (by omega), ?_⟩
    conv => whnf
    repeat (any_goals (first
      | (refine ⟨fun (h : (_ : Bool) = true) => ?_, fun (h : (_ : Bool) = false) => ?_⟩ <;> (try simp only [decide_eq_true_eq, decide_eq_false_iff_not, Bool.not_eq_true', Bool.not_eq_false', Int.toNat_natCast, beq_iff_eq, decide_eq_decide, beq_eq_false_iff_ne, ne_eq, reduceCtorEq] at h) <;> (conv => whnf))
      | (refine And.intro (by (try simp only [Int.toNat_natCast]); omega) ?_; conv => whnf)
      | (refine And.intro (show (_ : Bool) = true from by kernel_rfl) ?_; conv => whnf)
      | (refine .inl ⟨wrap64 (by omega), ?_⟩; conv => whnf)))
    · exfalso; omega
    refine ⟨k + 1, [], ⟨by omega, trivial⟩, by omega, ?_⟩
    rw [flat_take (by omega), List.length_append]
    (repeat' (first | exact PSub.rfl | exact rfl | exact PSubs.rfl | exact trivial | exact PSub.lit_sb rfl | refine And.intro ?_ ?_))
    all_goals exact PSub.int (show ((ls.take k).flatten.length : Int) + ((ls.getD k default).length : Int) = _ from by omega)
  clear hadd hkn
  refine loop_k (ι := Nat) [25, 26] [] (fun q => q ≤ ls.length ∧ True) (fun q => ls.length - q) 0 (fun q => [(6, .own 500), (27, .pv (vint q))]) (fun q => [(500, rowL 7 cItem (ls.take q).flatten)]) [(500, 24)] ⟨Nat.zero_le _, trivial⟩ ?_ (fun q hk => ?_)
  · (repeat' (first | exact PSub.rfl | exact rfl | exact PSubs.rfl | exact trivial | exact PSub.lit_sb rfl | refine And.intro ?_ ?_))
    intro i hi
    exact absurd hi (by simp)
  obtain ⟨hkn, -⟩ := hk
  conv => whnf
  have hadd := flat_add (ls := ls) (k := q)
  repeat (any_goals (first
    | (refine ⟨fun (h : (_ : Bool) = true) => ?_, fun (h : (_ : Bool) = false) => ?_⟩ <;> (try simp only [decide_eq_true_eq, decide_eq_false_iff_not, Bool.not_eq_true', Bool.not_eq_false', Int.toNat_natCast, beq_iff_eq, decide_eq_decide, beq_eq_false_iff_ne, ne_eq, reduceCtorEq] at h) <;> (conv => whnf))
    | (refine And.intro (by (try simp only [Int.toNat_natCast]); omega) ?_; conv => whnf)
    | (refine And.intro (show (_ : Bool) = true from by kernel_rfl) ?_; conv => whnf)
    | (refine .inl ⟨wrap64 (by omega), ?_⟩; conv => whnf)))
  · refine ⟨q + 1, [(500, 33)], ⟨by omega, trivial⟩, by omega, ?_⟩
    rw [flat_take (by omega)]
    (repeat' (first | exact PSub.rfl | exact rfl | exact PSubs.rfl | exact trivial | exact PSub.lit_sb rfl | refine And.intro ?_ ?_))
    · simp
    · intro i hi
      dsimp only
      by_cases hia : i < (ls.take q).flatten.length
      · rw [if_pos hia, show ((ls.take q).flatten ++ ls.getD q default).getD i default = (ls.take q).flatten.getD i default from by simp only [List.getD_eq_getElem?_getD]; rw [List.getElem?_append_left hia]]
        exact PSubs.rfl
      · rw [if_neg hia, show ((ls.take q).flatten ++ ls.getD q default).getD i default = (ls.getD q default).getD (i - (ls.take q).flatten.length) default from by simp only [List.getD_eq_getElem?_getD]; rw [List.getElem?_append_right (by omega)]]
        exact PSubs.rfl
  · rw [List.take_of_length_le (by omega)]
    exact ⟨rfl, fun i _ => PSubs.rfl⟩
end Go.Abs

namespace Go.Abs
open Go.Proofs
set_option maxRecDepth 10000
theorem ac_interlock_Keys_1 (a b : Key) : AC Tryz.prog 51 [.pv (.agg (cKey a)), .pv (.agg (cKey b))] [] (.pv (vint (cmpK a b))) [] := by
  refine AC.of_awp (T := T) T_ok hm Tryz.call51 Tryz.func51 rfl rfl rfl ?_
  conv => whnf
  repeat (any_goals (first
    | (refine ⟨fun (h : (_ : Bool) = true) => ?_, fun (h : (_ : Bool) = false) => ?_⟩ <;> (try simp only [decide_eq_true_eq, decide_eq_false_iff_not, Bool.not_eq_true', Bool.not_eq_false', Int.toNat_natCast, beq_iff_eq, decide_eq_decide, beq_eq_false_iff_ne, ne_eq, reduceCtorEq] at h) <;> (conv => whnf))
    | (refine .inl ⟨_, ac_device_Less a b, ?_⟩; conv => whnf)
    | (refine .inl ⟨_, ac_device_Less b a, ?_⟩; conv => whnf)
    | (refine And.intro (by (try simp only [Int.toNat_natCast]); omega) ?_; conv => whnf)
    | (refine And.intro (show (_ : Bool) = true from by kernel_rfl) ?_; conv => whnf)
    | (refine .inl ⟨wrap64 (by omega), ?_⟩; conv => whnf)))
  all_goals (try simp only [decide_eq_true_eq, decide_eq_false_iff_not, Bool.not_eq_true', Bool.not_eq_false', Int.toNat_natCast, beq_iff_eq, decide_eq_decide, beq_eq_false_iff_ne, ne_eq, reduceCtorEq] at *)
  all_goals first
    | contradiction
    | (exfalso; omega)
    | exact PSub.rfl
    | (refine PSub.int ?_; simp only [cmpK]; (repeat' split) <;> first | rfl | omega | (simp_all [-List.getD_eq_getElem?_getD]; done) | (simp_all [-List.getD_eq_getElem?_getD]; omega))
    | (refine PSub.sb ?_; simp_all [cmpK, -List.getD_eq_getElem?_getD]; done)
    | (refine PSub.lit_sb ?_; simp_all [cmpK, -List.getD_eq_getElem?_getD]; done)
    | (refine PSub.sb_lit ?_; simp_all [cmpK, -List.getD_eq_getElem?_getD]; done)
    | (refine PSub.sb ?_; rw [Bool.eq_iff_iff]; simp_all [cmpK, -List.getD_eq_getElem?_getD]; done)
    | (refine PSub.lit_sb ?_; rw [Bool.eq_iff_iff]; simp_all [cmpK, -List.getD_eq_getElem?_getD]; done)
    | (refine PSub.sb_lit ?_; rw [Bool.eq_iff_iff]; simp_all [cmpK, -List.getD_eq_getElem?_getD]; done)
    | skip
def itemsOf (k : Lck) : List Item := k.force ++ k.forbid
theorem lockKeys_take {l : List Lck} {k : Nat} (hk : k < l.length) : lockKeys (l.take (k + 1)) = lockKeys (l.take k) ++ (itemsOf (l.getD k default)).map Item.key := by
  unfold lockKeys
  rw [take_succ_getD hk, List.flatMap_append]
  simp [itemsOf, -List.getD_eq_getElem?_getD]
theorem lockKeys_le {l : List Lck} {k : Nat} : (lockKeys (l.take k)).length ≤ (lockKeys l).length := by
  have : lockKeys l = lockKeys (l.take k) ++ lockKeys (l.drop k) := by
    unfold lockKeys
    rw [← List.flatMap_append, List.take_append_drop]
  rw [this, List.length_append]; omega
set_option maxHeartbeats 1000000 in
theorem ac_interlock_Keys (l : List Lck) (hl : goodLcks l) (hlen : (lockKeys l).length ≤ 4194304) : AC Tryz.prog 30 [.pv (roL 16 cLck l)] [] (.pv (roL 3 cKey (sortK (lockKeys l)))) [] := by
  have hl2 : l.length ≤ 1048576 := hl.1
  refine AC.of_awp (T := T) T_ok hm Tryz.call30 Tryz.func30 rfl rfl rfl ?_
  conv => whnf
  refine loop_k (ι := Nat) [8, 9] [] (fun k => k ≤ l.length ∧ True) (fun k => l.length - k) 0 (fun k => [(3, .own 500), (10, .pv (vint k))]) (fun k => [(500, rowL 3 cKey (lockKeys (l.take k)))]) [] ⟨Nat.zero_le _, trivial⟩ ?_ (fun k hk => ?_)
  · (repeat' (first | exact PSub.rfl | exact rfl | exact PSubs.rfl | exact trivial | exact PSub.lit_sb rfl | refine And.intro ?_ ?_)); all_goals ((intro i hi; exact absurd hi (by simp [lockKeys])))
  obtain ⟨hkn, hinv⟩ := hk
  conv => whnf
  have hle := lockKeys_le (l := l) (k := k)
  refine ⟨fun h => ?_, fun h => ?_⟩ <;> (try simp only [decide_eq_true_eq, decide_eq_false_iff_not, Bool.not_eq_true', Bool.not_eq_false', Int.toNat_natCast, beq_iff_eq, decide_eq_decide, beq_eq_false_iff_ne, ne_eq, reduceCtorEq] at h) <;> (conv => whnf)
  · have hk : k < l.length := by omega
    have hx := hl.2 k hk
    have h1 : (l.getD k default).force.length ≤ 1048576 := hx.1
    have h2 : (l.getD k default).forbid.length ≤ 1048576 := hx.2.1
    have hfl : [(l.getD k default).force, (l.getD k default).forbid].flatten = itemsOf (l.getD k default) := by simp [itemsOf, -List.getD_eq_getElem?_getD]
    have hil : (itemsOf (l.getD k default)).length = (l.getD k default).force.length + (l.getD k default).forbid.length := List.length_append
    have hc := ac_slices_Concat_Item [(l.getD k default).force, (l.getD k default).forbid] (sl rfl) (by rw [hfl]; omega)
    rw [hfl] at hc
    have htk := lockKeys_take hk
    have hle2 := lockKeys_le (l := l) (k := k + 1)
    rw [htk, List.length_append, List.length_map] at hle2
    repeat (any_goals (first
      | (refine ⟨fun (h : (_ : Bool) = true) => ?_, fun (h : (_ : Bool) = false) => ?_⟩ <;> (try simp only [decide_eq_true_eq, decide_eq_false_iff_not, Bool.not_eq_true', Bool.not_eq_false', Int.toNat_natCast, beq_iff_eq, decide_eq_decide, beq_eq_false_iff_ne, ne_eq, reduceCtorEq] at h) <;> (conv => whnf))
      | (refine And.intro (by (try simp only [Int.toNat_natCast]); omega) ?_; conv => whnf)
      | (refine And.intro (show (_ : Bool) = true from by kernel_rfl) ?_; conv => whnf)
      | (refine .inl ⟨wrap64 (by omega), ?_⟩; conv => whnf)))
    refine .inr (.inl ⟨_, _, _, AC.sub1 hc (by repeat' (first | exact PSub.rfl | exact trivial | exact all_lt_zero | refine PSub.ro rfl ?_ | refine all_lt_succ ?_ ?_ | refine And.intro ?_ ?_)), ?_⟩)
    conv => whnf
    generalize itemsOf (l.getD k default) = its at *
    refine loop_k (ι := Nat) [8, 9, 10, 19, 20] [19] (fun q => q ≤ its.length) (fun q => its.length - q) 0 (fun q => [(3, .own 501), (21, .pv (vint q))]) (fun q => [(501, rowL 3 cKey (lockKeys (l.take k) ++ (its.take q).map Item.key))]) [(501, 500)] (Nat.zero_le _) ?_ (fun q hq => ?_)
    · rw [show lockKeys (l.take k) ++ (its.take 0).map Item.key = lockKeys (l.take k) from by simp]
      (repeat' (first | exact PSub.rfl | exact rfl | exact PSubs.rfl | exact trivial | exact PSub.lit_sb rfl | refine And.intro ?_ ?_))
      all_goals (intro i hi; exact PSubs.rfl)
    have hml : ((its.take q).map Item.key).length = q := by rw [List.length_map, List.length_take]; omega
    have hal : (lockKeys (l.take k) ++ (its.take q).map Item.key).length = (lockKeys (l.take k)).length + q := by rw [List.length_append, hml]
    conv => whnf
    repeat (any_goals (first
      | (refine ⟨fun (h : (_ : Bool) = true) => ?_, fun (h : (_ : Bool) = false) => ?_⟩ <;> (try simp only [decide_eq_true_eq, decide_eq_false_iff_not, Bool.not_eq_true', Bool.not_eq_false', Int.toNat_natCast, beq_iff_eq, decide_eq_decide, beq_eq_false_iff_ne, ne_eq, reduceCtorEq] at h) <;> (conv => whnf))
      | (refine And.intro (by (try simp only [Int.toNat_natCast]); omega) ?_; conv => whnf)
      | (refine And.intro (show (_ : Bool) = true from by kernel_rfl) ?_; conv => whnf)
      | (refine .inl ⟨wrap64 (by omega), ?_⟩; conv => whnf)))
    · refine ⟨q + 1, [(501, 29)], by omega, by omega, ?_⟩
      rw [take_succ_getD (l := its) (by omega), List.map_append, ← List.append_assoc]
      (repeat' (first | exact PSub.rfl | exact rfl | exact PSubs.rfl | exact trivial | exact PSub.lit_sb rfl | refine And.intro ?_ ?_))
      · simp; omega
      · refine rows_snocF (fun i hi => by simp only [if_pos hi]; exact PSubs.rfl) (by simp only [if_neg (Nat.lt_irrefl _), Nat.sub_self]; exact PSubs.rfl)
      · intro i hi; exact PSubs.rfl
    · have hq : q = its.length := by omega
      subst hq
      refine ⟨k + 1, [(500, 501)], ⟨by omega, trivial⟩, by omega, ?_⟩
      rw [htk, List.take_length]
      (repeat' (first | exact PSub.rfl | exact rfl | exact PSubs.rfl | exact trivial | exact PSub.lit_sb rfl | refine And.intro ?_ ?_))
      intro i hi; exact PSubs.rfl
  · have hk : k = l.length := by omega
    subst hk
    rw [List.take_length]
    conv => whnf
    refine .inr (.inr (.inl ⟨_, _, ac_slices_SortFunc_Key 51 ac_interlock_Keys_1 (lockKeys l) (by omega), ?_⟩))
    conv => whnf
    refine .inr (.inr (.inr (.inl ⟨_, _, _, ac_slices_Compact_Key (sortedK (lockKeys l)) (by rw [sortedK_length]; omega), ?_⟩)))
    conv => whnf
    rw [sortedK_length, comp_sorted]
    exact .rfl
end Go.Abs

namespace Go.Abs
open Go.Proofs
set_option maxRecDepth 10000
theorem fewB_keys {l : List Lck} (h : fewB l = true) : (lockKeys l).length ≤ 720 := by
  obtain ⟨h1, h2⟩ := fewB_len h
  have : ∀ m : List Lck, (∀ k ∈ m, k.force.length ≤ 12 ∧ k.forbid.length ≤ 12) → (lockKeys m).length ≤ m.length * 24 := by
    intro m
    induction m with
    | nil => intro _; simp [lockKeys]
    | cons x m ih =>
      intro hm
      have h3 := hm x (by simp)
      have h4 := ih fun k hk => hm k (by simp [hk])
      unfold lockKeys at h4 ⊢
      rw [List.flatMap_cons, List.length_append, List.length_map, List.length_append, List.length_cons]
      omega
  have := this l h2
  omega
def viewB (v : Vw) : Bool := decide (v.items.length ≤ 60) && decide (v.members.length ≤ 20)
theorem ac_law45_view (v : Vw) (hv : smallV2 v) : AC Tryz.prog 16 [.pv (.agg (cVw v))] [] (.pv (vbool (viewB v))) [] := by
  have h1 : v.items.length ≤ 1048576 := hv.1
  have h2 : v.members.length ≤ 1048576 := hv.2
  refine AC.of_awp (T := T) T_ok hm Tryz.call16 Tryz.func16 rfl rfl rfl ?_
  conv => whnf
  repeat (any_goals (first
    | (refine ⟨fun (h : (_ : Bool) = true) => ?_, fun (h : (_ : Bool) = false) => ?_⟩ <;> (try simp only [decide_eq_true_eq, decide_eq_false_iff_not, Bool.not_eq_true', Bool.not_eq_false', Int.toNat_natCast, beq_iff_eq, decide_eq_decide, beq_eq_false_iff_ne, ne_eq, reduceCtorEq] at h) <;> (conv => whnf))
    | (refine And.intro (by (try simp only [Int.toNat_natCast]); omega) ?_; conv => whnf)
    | (refine And.intro (show (_ : Bool) = true from by kernel_rfl) ?_; conv => whnf)
    | (refine .inl ⟨wrap64 (by omega), ?_⟩; conv => whnf)))
  · exact PSub.sb (by unfold viewB; rw [decide_eq_true (show v.items.length ≤ 60 by omega), Bool.true_and, decide_eq_decide]; omega)
  · exact PSub.lit_sb (by unfold viewB; rw [decide_eq_false (show ¬ v.items.length ≤ 60 by omega)]; rfl)
end Go.Abs

namespace Go.Abs
open Go.Proofs
set_option maxRecDepth 10000
theorem few_keys {l : List Lck} (h : fewB l = true) : (lockKeys l).length ≤ 4194304 := Nat.le_trans (fewB_keys h) (by decide)
theorem few_sort {l : List Lck} (h : fewB l = true) : (sortK (lockKeys l)).length ≤ 4194304 := Nat.le_trans (sortK_length _) (few_keys h)
theorem actL_length (l : List Lck) (v : Vw) (b : List ByteArray) : (actL l v b).length ≤ l.length := by
  unfold actL
  exact Nat.le_trans (sortS_length _) (Nat.le_trans (List.length_filter_le _ _) (by simp))
theorem actL_small {l : List Lck} {v : Vw} {b : List ByteArray} (hl : smallL l) : smallL (actL l v b) := Nat.le_trans (actL_length l v b) hl
end Go.Abs

namespace Go.Abs
open Go.Proofs
set_option maxRecDepth 10000
def distL (l : List Lck) (k : Nat) : Prop := ∀ j, j < k → ∀ i, i < j → (l.getD i default).name ≠ (l.getD j default).name
theorem dist_mem {l : List Lck} (h : distL l l.length) {x y : Lck} (hx : x ∈ l) (hy : y ∈ l) (hn : x.name = y.name) : x = y := by
  obtain ⟨i, hi, rfl⟩ := List.getElem_of_mem hx
  obtain ⟨j, hj, rfl⟩ := List.getElem_of_mem hy
  have gi : l.getD i default = l[i] := by simp [List.getD, hi]
  have gj : l.getD j default = l[j] := by simp [List.getD, hj]
  rcases Nat.lt_trichotomy i j with e | e | e
  · exact absurd (by rw [gi, gj]; exact hn) (h j hj i e)
  · subst e; rfl
  · exact absurd (by rw [gi, gj]; exact hn.symm) (h i hi j e)
theorem fstL_dist {l : List Lck} (h : distL l l.length) {x : Lck} (hx : x ∈ l) : fstL l x.name = some x := by
  cases hf : fstL l x.name with
  | none =>
    have := (fstL_isSome (l := l) (n := x.name)).2 (List.mem_map_of_mem hx)
    rw [hf] at this; cases this
  | some y =>
    have := fstL_some hf
    rw [dist_mem h this.1 hx this.2]
theorem fstL_rev {l : List Lck} (h : distL l l.length) (n : ByteArray) : fstL l.reverse n = fstL l n := by
  cases hf : fstL l.reverse n with
  | none =>
    cases hg : fstL l n with
    | none => rfl
    | some y =>
      have h1 := fstL_some hg
      have := (fstL_isSome (l := l.reverse) (n := n)).2 (by rw [← h1.2]; exact List.mem_map_of_mem (List.mem_reverse.2 h1.1))
      rw [hf] at this; cases this
  | some y =>
    have h1 := fstL_some hf
    rw [← h1.2, fstL_dist h (List.mem_reverse.1 h1.1)]
theorem memS_rev (b : List ByteArray) (n : ByteArray) : memS b.reverse n = memS b n := by
  rw [Bool.eq_iff_iff, memS_iff, memS_iff, List.mem_reverse]
theorem actL_rev {l : List Lck} (h : distL l l.length) (v : Vw) (b : List ByteArray) : actL l.reverse v b.reverse = actL l v b := by
  refine ascS_ext (ascS_sortS _) (ascS_sortS _) fun n => ?_
  refine (mem_actL (l := l.reverse) (v := v) (before := b.reverse) (n := n)).trans (Iff.trans ?_ (mem_actL (l := l) (v := v) (before := b) (n := n)).symm)
  unfold actN
  rw [fstL_rev h]
  cases fstL l n with
  | none => exact Iff.rfl
  | some x => dsimp only; unfold actB; rw [memS_rev]
theorem few_rev {l : List Lck} (h : fewB l = true) : fewB l.reverse = true := by
  unfold fewB at h ⊢
  rw [List.length_reverse, List.all_reverse]; exact h
theorem keys_rev (l : List Lck) : sortK (lockKeys l.reverse) = sortK (lockKeys l) := sortK_congr fun q => by
  unfold lockKeys
  simp only [List.mem_flatMap, List.mem_reverse]
theorem rev_getD {α : Type} [Inhabited α] {l : List α} {k : Nat} (hk : k < l.length) : l.reverse.getD k default = l.getD (l.length - 1 - k) default := by
  simp only [List.getD]
  rw [List.getElem?_reverse hk]
set_option maxHeartbeats 2000000 in
theorem ac_law45_InterlockOrder (l : List Lck) (v : Vw) (b : List ByteArray) (hl : smallL l) (hv : smallV2 v) (hb : smallL b) : AC Tryz.prog 10 [.pv (roL 16 cLck l), .pv (.agg (cVw v)), .pv (roL 1 cstr b)] [] (.pv (vbool true)) [] := by
  have hl2 : l.length ≤ 1048576 := hl
  have hb2 : b.length ≤ 1048576 := hb
  have hlr : l.reverse.length = l.length := List.length_reverse
  have hbr : b.reverse.length = b.length := List.length_reverse
  refine AC.of_awp (T := T) T_ok hm Tryz.call10 Tryz.func10 rfl rfl rfl ?_
  conv => whnf
  repeat (any_goals (first
    | (refine ⟨fun (h : (_ : Bool) = true) => ?_, fun (h : (_ : Bool) = false) => ?_⟩ <;> (try simp only [decide_eq_true_eq, decide_eq_false_iff_not, Bool.not_eq_true', Bool.not_eq_false', Int.toNat_natCast, beq_iff_eq, decide_eq_decide, beq_eq_false_iff_ne, ne_eq, reduceCtorEq] at h) <;> (conv => whnf))
    | (refine .inl ⟨_, ac_law45_few l hl, ?_⟩; conv => whnf)
    | (refine .inl ⟨_, ac_law45_view v hv, ?_⟩; conv => whnf)
    | (refine .inl ⟨_, ac_law45_awake, ?_⟩; conv => whnf)
    | (refine And.intro (by (try simp only [Int.toNat_natCast]); omega) ?_; conv => whnf)
    | (refine And.intro (show (_ : Bool) = true from by kernel_rfl) ?_; conv => whnf)
    | (refine .inl ⟨wrap64 (by omega), ?_⟩; conv => whnf)))
  all_goals try (exact PSub.rfl)
  have hfew : fewB l = true := by assumption
  refine loop_k (ι := Nat) [0, 2, 4, 28] [4] (fun k => k ≤ l.length ∧ distL l k) (fun k => l.length - k) 0 (fun k => [(7, .own 500), (29, .pv (vint k))]) (fun k => [(500, rowL 16 cLck (l.reverse.take k))]) [] ⟨Nat.zero_le _, fun j hj => absurd hj (by omega)⟩ ?_ (fun k hk => ?_)
  · (repeat' (first | exact PSub.rfl | exact rfl | exact PSubs.rfl | exact trivial | exact PSub.lit_sb rfl | refine And.intro ?_ ?_)); all_goals ((intro i hi; exact absurd hi (by simp)))
  obtain ⟨hkn, hinv⟩ := hk
  conv => whnf
  have htl : (l.reverse.take k).length ≤ k := List.length_take_le _ _
  repeat (any_goals (first
    | (refine ⟨fun (h : (_ : Bool) = true) => ?_, fun (h : (_ : Bool) = false) => ?_⟩ <;> (try simp only [decide_eq_true_eq, decide_eq_false_iff_not, Bool.not_eq_true', Bool.not_eq_false', Int.toNat_natCast, beq_iff_eq, decide_eq_decide, beq_eq_false_iff_ne, ne_eq, reduceCtorEq] at h) <;> (conv => whnf))
    | (refine And.intro (by (try simp only [Int.toNat_natCast]); omega) ?_; conv => whnf)
    | (refine And.intro (show (_ : Bool) = true from by kernel_rfl) ?_; conv => whnf)
    | (refine .inl ⟨wrap64 (by omega), ?_⟩; conv => whnf)))
  · have hk : k < l.length := by omega
    have hik : ((l.length : Int) - 1 - k).toNat = l.length - 1 - k := by omega
    refine loop_k (ι := Nat) [0, 2, 4, 7, 8, 28, 29, 45, 46] [4, 42] (fun q => q ≤ k ∧ ∀ i, i < q → (l.getD i default).name ≠ (l.getD k default).name) (fun q => k - q) 0 (fun q => [(47, .pv (vint q))]) (fun _ => []) [] ⟨Nat.zero_le _, fun i hi => absurd hi (by omega)⟩ ?_ (fun q hq => ?_)
    · (repeat' (first | exact PSub.rfl | exact rfl | exact PSubs.rfl | exact trivial | exact PSub.lit_sb rfl | refine And.intro ?_ ?_))
      intro i hi; exact PSubs.rfl
    obtain ⟨hqk, hqi⟩ := hq
    conv => whnf
    repeat (any_goals (first
      | (refine ⟨fun (h : (_ : Bool) = true) => ?_, fun (h : (_ : Bool) = false) => ?_⟩ <;> (try simp only [decide_eq_true_eq, decide_eq_false_iff_not, Bool.not_eq_true', Bool.not_eq_false', Int.toNat_natCast, beq_iff_eq, decide_eq_decide, beq_eq_false_iff_ne, ne_eq, reduceCtorEq] at h) <;> (conv => whnf))
      | (refine .inl ⟨_, ac_law45_awake, ?_⟩; conv => whnf)
      | (refine And.intro (by (try simp only [Int.toNat_natCast]); omega) ?_; conv => whnf)
      | (refine And.intro (show (_ : Bool) = true from by kernel_rfl) ?_; conv => whnf)
      | (refine .inl ⟨wrap64 (by omega), ?_⟩; conv => whnf)))
    · exact PSub.rfl
    · refine ⟨q + 1, [], ⟨by omega, fun i hi => ?_⟩, by omega, ?_⟩
      · by_cases e : i = q
        · subst e; exact h
        · exact hqi i (by omega)
      · (repeat' (first | exact PSub.rfl | exact rfl | exact PSubs.rfl | exact trivial | exact PSub.lit_sb rfl | refine And.intro ?_ ?_))
        intro i hi; exact PSubs.rfl
    · have hqk2 : q = k := by omega
      have he : l.reverse.getD k default = l.getD ((l.length : Int) - 1 - k).toNat default := by rw [hik]; exact rev_getD hk
      refine ⟨k + 1, [(500, 42)], ⟨by omega, fun j hj i hij => ?_⟩, by omega, ?_⟩
      · by_cases e : j = k
        · subst e; exact hqi i (by omega)
        · exact hinv j (by omega) i hij
      · rw [take_succ_getD (l := l.reverse) (by omega), he]
        (repeat' (first | exact PSub.rfl | exact rfl | exact PSubs.rfl | exact trivial | exact PSub.lit_sb rfl | refine And.intro ?_ ?_))
        · simp
        · refine rows_snocF (fun i hi => by simp only [if_pos hi]; exact PSubs.rfl) (by simp only [if_neg (Nat.lt_irrefl _), Nat.sub_self]; exact PSubs.rfl)
  · have hkl : k = l.length := by omega
    subst hkl
    rw [List.take_of_length_le (by omega)]
    refine loop_k (ι := Nat) [0, 2, 4, 63] [4] (fun q => q ≤ b.length) (fun q => b.length - q) 0 (fun q => [(7, .pv (roL 16 cLck l.reverse)), (11, .own 501), (64, .pv (vint q))]) (fun q => [(501, rowL 1 cstr (b.reverse.take q))]) [] (Nat.zero_le _) ?_ (fun q hq => ?_)
    · (repeat' (first | exact PSub.rfl | exact rfl | exact PSubs.rfl | exact trivial | exact PSub.lit_sb rfl | refine And.intro ?_ ?_))
    have htb : (b.reverse.take q).length ≤ q := List.length_take_le _ _
    conv => whnf
    repeat (any_goals (first
      | (refine ⟨fun (h : (_ : Bool) = true) => ?_, fun (h : (_ : Bool) = false) => ?_⟩ <;> (try simp only [decide_eq_true_eq, decide_eq_false_iff_not, Bool.not_eq_true', Bool.not_eq_false', Int.toNat_natCast, beq_iff_eq, decide_eq_decide, beq_eq_false_iff_ne, ne_eq, reduceCtorEq] at h) <;> (conv => whnf))
      | (refine And.intro (by (try simp only [Int.toNat_natCast]); omega) ?_; conv => whnf)
      | (refine And.intro (show (_ : Bool) = true from by kernel_rfl) ?_; conv => whnf)
      | (refine .inl ⟨wrap64 (by omega), ?_⟩; conv => whnf)))
    · have hk : q < b.length := by omega
      have he : b.reverse.getD q default = b.getD ((b.length : Int) - 1 - q).toNat default := by rw [show ((b.length : Int) - 1 - q).toNat = b.length - 1 - q from by omega]; exact rev_getD hk
      refine ⟨q + 1, [(501, 77)], by omega, by omega, ?_⟩
      rw [take_succ_getD (l := b.reverse) (by omega), he]
      (repeat' (first | exact PSub.rfl | exact rfl | exact PSubs.rfl | exact trivial | exact PSub.lit_sb rfl | refine And.intro ?_ ?_))
      · simp
      · refine rows_snocF (fun i hi => by simp only [if_pos hi]; exact PSubs.rfl) (by simp only [if_neg (Nat.lt_irrefl _), Nat.sub_self]; exact PSubs.rfl)
    · have hq2 : q = b.length := by omega
      subst hq2
      rw [List.take_of_length_le (by omega)]
      have hgood := few_good hl hfew
      have hgoodr := few_good (l := l.reverse) (by unfold smallL; omega) (few_rev hfew)
      have c1 := ac_interlock_Active l.reverse v b.reverse hgoodr hv (by unfold smallL; omega)
      rw [actL_rev hinv] at c1
      have c2 := ac_interlock_Keys l.reverse hgoodr (few_keys (few_rev hfew))
      rw [keys_rev] at c2
      repeat (any_goals (first
        | (refine ⟨fun (h : (_ : Bool) = true) => ?_, fun (h : (_ : Bool) = false) => ?_⟩ <;> (try simp only [decide_eq_true_eq, decide_eq_false_iff_not, Bool.not_eq_true', Bool.not_eq_false', Int.toNat_natCast, beq_iff_eq, decide_eq_decide, beq_eq_false_iff_ne, ne_eq, reduceCtorEq] at h) <;> (conv => whnf))
        | (refine .inl ⟨_, ac_interlock_Active l v b hgood hv hb, ?_⟩; conv => whnf)
        | (refine .inl ⟨_, c1, ?_⟩; conv => whnf)
        | (refine .inl ⟨_, ac_r04_Same (actL l v b) (actL l v b) (actL_small hl), ?_⟩; conv => whnf)
        | (refine .inl ⟨_, ac_interlock_Keys l hgood (few_keys hfew), ?_⟩; conv => whnf)
        | (refine .inl ⟨_, c2, ?_⟩; conv => whnf)
        | (refine .inl ⟨_, ac_r22_SameKeys (sortK (lockKeys l)) (sortK (lockKeys l)) (few_sort hfew), ?_⟩; conv => whnf)
        | (refine .inl ⟨_, ac_law45_awake, ?_⟩; conv => whnf)
        | (refine And.intro (by (try simp only [Int.toNat_natCast]); omega) ?_; conv => whnf)
        | (refine And.intro (show (_ : Bool) = true from by kernel_rfl) ?_; conv => whnf)
        | (refine .inl ⟨wrap64 (by omega), ?_⟩; conv => whnf)))
      all_goals first | exact PSub.rfl | exact absurd trivial h
end Go.Abs
