/- Functions: from code on abstract states to what callers may use. -/
import Derived.Test.YthelcfpfbnhcjaaDoorX02
import Derived.IntWalk
import Derived.ChangeArms
import Derived.ChangeOld
import Derived.DataReads
import Derived.Carry
import Derived.ProofKit
import Derived.OpenShut
import Derived.Deep.DeepHandedRow
import Derived.Lib.LaidTab
import Derived.Test.YthelcfpfbnhcjaaDoorProg
import Derived.KernelRfl
import Derived.Laws.RangeString

set_option linter.unusedVariables false
set_option linter.unusedSimpArgs false
set_option linter.unusedSectionVars false

namespace Go.Abs
open Go.RowKit
variable [Globals]

def argTm : Nat → List AV → List (Nat × AV)
  | _, [] => []
  | i, a :: l => (i, a) :: argTm (i + 1) l

theorem argTm_get : ∀ {l : List AV} {i t : Nat}, getT (argTm i l) t = if t < i then .junk else (l[t - i]?).getD .junk
  | [], i, t => by simp [argTm, getT]
  | a :: l, i, t => by
    simp only [argTm, getT_cons]
    rw [argTm_get (l := l) (i := i + 1) (t := t)]
    by_cases h : i = t
    · subst h; simp
    · rw [if_neg h]
      by_cases h1 : t < i
      · rw [if_pos (by omega), if_pos h1]
      · rw [if_neg (by omega), if_neg h1]
        have : t - i = (t - (i + 1)) + 1 := by omega
        rw [this, List.getElem?_cons_succ]

/-- The value in hand is, or can be handed over as, p. -/
def resOK (s : AState) (x : AV) (p : PV) : Prop :=
  match s with
  | ⟨_, ob⟩ => match borrowV (getO ob) x with
    | .pv q => PSub q p
    | _ => False

/-- .. of a result, in its slot or in its cell -/
def resV (T : Tab) (s : AState) (rv : ResultVar) (p : PV) : Prop :=
  match rv with
  | .tmp t => match s with
    | ⟨tm, ob⟩ => resOK ⟨tm, ob⟩ (getT tm t) p
  | .cell a ty => match s with
    | ⟨tm, ob⟩ => match T ty with
      | some y => match getT tm a with
        | .ptr l off => match getO ob l with
          | some (.pbox cs) => loadP y cs off fun q => PSub q p
          | _ => False
        | _ => False
      | none => False

def resQ (T : Tab) (rs : List ResultVar) (res : PV) (s : AState) : Prop :=
  match rs with
  | [] => res = .tup []
  | [a] => resV T s a res
  | [a, b] => match res with
    | .tup [p, q] => resV T s a p ∧ resV T s b q
    | _ => False
  | [a, b, c] => match res with
    | .tup [p, q, r] => resV T s a p ∧ resV T s b q ∧ resV T s c r
    | _ => False
  | [a, b, c, d] => match res with
    | .tup [p, q, r, z] => resV T s a p ∧ resV T s b q ∧ resV T s c r ∧ resV T s d z
    | _ => False
  | _ => False

def pureQ (T : Tab) (fn : Func) (res : PV) : AExit → AState → Prop
  | .exit _, _ => False
  | .normal, s => resQ T fn.results.toList res s
  | .ret, s => resQ T fn.results.toList res s

theorem resOK_val {P : Program} {E : FEnv} (hE : E.ok) {s : AState} {σ : Sig} {a : Act} {w : World} (hR : Rel P E s σ a w) {t : Nat} {p : PV} (h : resOK s (getT s.tm t) p) : PR w E.M0 p (a.tmps.getD t undef) := by
  obtain ⟨tm, ob⟩ := s
  unfold resOK at h
  have hA := borrow_rel (ob := getO ob) (L := refs (getT tm t)) (hR.inv hE) (hR.tm t) (fun l hl => hl) (fun l _ obj e => hR.ob l obj e)
  simp only at h
  split at h
  · rename_i q hq
    rw [hq] at hA
    exact h.to _ _ _ ((arg_pv hA).mono (Same.refl _ w) (fun b _ hb => .inl hb))
  · exact h.elim

def rvRun (tmps : Array Value) : ResultVar → Sem Value
  | .tmp t => pure (tmps.getD t undef)
  | .cell a t => do loadVar t (← asAddr (tmps.getD a undef))

theorem results_eq {fn : Func} {tmps : Array Value} {l : List ResultVar} (h : fn.results.toList = l) : results fn tmps = (do let vs ← l.toArray.mapM (rvRun tmps); pure (if h : vs.size = 1 then vs[0] else .tuple vs)) := by
  have : fn.results = l.toArray := by rw [← h]
  unfold results
  rw [this]
  rfl

theorem resV_run {P : Program} {T : Tab} {E : FEnv} (hE : E.ok) (hT : T.ok P) {s : AState} {σ : Sig} {a : Act} {w : World} (hR : Rel P E s σ a w) {rv : ResultVar} {p : PV} (h : resV T s rv p) : ∃ v, (rvRun a.tmps rv).run P w = .ok v w ∧ PR w E.M0 p v := by
  obtain ⟨tm, ob⟩ := s
  cases rv with
  | tmp t => exact ⟨_, rfl, resOK_val hE hR h⟩
  | cell x ty =>
    unfold resV at h
    simp only at h
    split at h
    · rename_i y hy
      split at h
      · rename_i l off hx
        split at h
        · rename_i cs hob
          obtain ⟨q, hs, hq⟩ := loadP_split h
          obtain ⟨b, vs, t', hl, hb, hsz, hp, hone⟩ := at_pbox (hR.ob l _ hob)
          have hA := hR.tm x
          rw [show getT tm x = .ptr l off from hx] at hA
          obtain ⟨b', hb', hv⟩ := arg_ptr hA hl
          cases hb'
          obtain ⟨v, hr, hpv⟩ := run_loadP hT hy (Cells.pbox hb hsz hp hone) hq
          rw [add_block0] at hr
          refine ⟨v, ?_, hs.to _ _ _ (hpv.mono (Same.refl _ w) (fun b _ hb => .inl hb))⟩
          have hv' : a.tmps[x]?.getD undef = .pointer (some ⟨b, off, none⟩) := by rw [← hv]; simp [Array.getD_eq_getD_getElem?]
          simp [rvRun, asAddr, hv', hr]
        · exact h.elim
      · exact h.elim
    · exact h.elim

theorem results_run {P : Program} {T : Tab} {E : FEnv} (hE : E.ok) (hT : T.ok P) {s : AState} {σ : Sig} {a : Act} {w : World} (hR : Rel P E s σ a w) {fn : Func} {res : PV} (h : resQ T fn.results.toList res s) :
    ∃ v, (results fn a.tmps).run P w = .ok v w ∧ PR w E.M0 res v := by
  unfold resQ at h
  split at h
  · rename_i hr
    exact ⟨.tuple #[], by rw [results_eq hr]; simp, by rw [h]; exact .tup [] #[] rfl (fun i p e => by simp at e)⟩
  · rename_i x hr
    obtain ⟨v, h1, h2⟩ := resV_run hE hT hR h
    exact ⟨v, by rw [results_eq hr]; simp [h1], h2⟩
  · rename_i x y hr
    split at h
    · rename_i p q
      obtain ⟨h1, h2⟩ := h
      obtain ⟨v1, r1, p1⟩ := resV_run hE hT hR h1
      obtain ⟨v2, r2, p2⟩ := resV_run hE hT hR h2
      refine ⟨.tuple #[v1, v2], by rw [results_eq hr]; simp [r1, r2], .tup _ _ rfl (fun i x e => ?_)⟩
      match i, e with
      | 0, e => simp at e; subst e; exact p1
      | 1, e => simp at e; subst e; exact p2
      | i + 2, e => simp at e
    · exact h.elim
  · rename_i x y z hr
    split at h
    · rename_i p q r
      obtain ⟨h1, h2, h3⟩ := h
      obtain ⟨v1, r1, p1⟩ := resV_run hE hT hR h1
      obtain ⟨v2, r2, p2⟩ := resV_run hE hT hR h2
      obtain ⟨v3, r3, p3⟩ := resV_run hE hT hR h3
      refine ⟨.tuple #[v1, v2, v3], by rw [results_eq hr]; simp [r1, r2, r3], .tup _ _ rfl (fun i x e => ?_)⟩
      match i, e with
      | 0, e => simp at e; subst e; exact p1
      | 1, e => simp at e; subst e; exact p2
      | 2, e => simp at e; subst e; exact p3
      | i + 3, e => simp at e
    · exact h.elim
  · rename_i x y z u hr
    split at h
    · rename_i p q r pz
      obtain ⟨h1, h2, h3, h4⟩ := h
      obtain ⟨v1, r1, p1⟩ := resV_run hE hT hR h1
      obtain ⟨v2, r2, p2⟩ := resV_run hE hT hR h2
      obtain ⟨v3, r3, p3⟩ := resV_run hE hT hR h3
      obtain ⟨v4, r4, p4⟩ := resV_run hE hT hR h4
      refine ⟨.tuple #[v1, v2, v3, v4], by rw [results_eq hr]; simp [r1, r2, r3, r4], .tup _ _ rfl (fun i x e => ?_)⟩
      match i, e with
      | 0, e => simp at e; subst e; exact p1
      | 1, e => simp at e; subst e; exact p2
      | 2, e => simp at e; subst e; exact p3
      | 3, e => simp at e; subst e; exact p4
      | i + 4, e => simp at e
    · exact h.elim
  · exact h.elim

def noRefs : List AV → Bool
  | [] => true
  | .pv _ :: l => noRefs l
  | .clo _ _ _ _ :: l => noRefs l
  | _ :: _ => false

theorem noRefs_spec : ∀ {l : List AV}, noRefs l = true → ∀ (i : Nat) (x : AV), l[i]? = some x → refs x = []
  | .pv _ :: l, h, 0, x, e => by simp at e; subst e; rfl
  | .clo _ _ _ _ :: l, h, 0, x, e => by simp at e; subst e; rfl
  | .pv _ :: l, h, i + 1, x, e => noRefs_spec (l := l) (by simpa [noRefs] using h) i x (by simpa using e)
  | .clo _ _ _ _ :: l, h, i + 1, x, e => noRefs_spec (l := l) (by simpa [noRefs] using h) i x (by simpa using e)

/-- A function that is handed pure data (and functions) and hands back pure data. -/
theorem AC.of_awp {P : Program} {T : Tab} {f : FuncId} {fn : Func} {c : Code} {args : List AV} {res : PV} (hT : T.ok P) (hm : P.follows .mixedOrders = true) (hcall : ∀ (vals : Array Value) (w : World), (callFunc f vals).run P w = .ok (.enter f vals) w)
    (hf : P.funcs[f]? = some fn) (hb : fn.body = some c) (hn : Nat.ble args.length fn.ntmps = true) (hp : noRefs args = true) (h : awp P T fn.ntmps c ⟨argTm 0 args, []⟩ (pureQ T fn res)) : AC P f args [] (.pv res) [] := by
  refine ⟨hcall, fun St M0 σ w vals hi hσ _ hl hA => ?_⟩
  have hσ' : σ = fun _ => none := funext fun l => hσ l rfl
  subst hσ'
  have hown : ∀ b, ¬ owned (fun _ => none) b := fun b ⟨l, loc, h, _⟩ => by cases h
  have hle := Nat.le_of_ble_eq_true hn
  have hE : FEnv.ok ⟨fn.ntmps, St, M0, fun _ => False, w⟩ := ⟨fun b hb => ⟨(hi.m0 b hb).1, id⟩, fun b hb => ⟨(hi.st b hb).1, id⟩, hi.gl.mono (Same.refl _ w) (fun b _ hb => .inl (hb.elim id False.elim))⟩
  have hget : ∀ t x, getT (argTm 0 args) t = x → x = .junk ∨ args[t]? = some x := by
    intro t x e
    rw [argTm_get, if_neg (by omega)] at e
    cases ha : args[t - 0]? with
    | none => rw [ha] at e; exact .inl e.symm
    | some y => rw [ha] at e; simp at e ha; subst e; exact .inr rfl
  have hR : Rel P ⟨fn.ntmps, St, M0, fun _ => False, w⟩ ⟨argTm 0 args, []⟩ (fun _ => none) { tmps := vals ++ Array.replicate (fn.ntmps - vals.size) undef, defers := [] } w := by
    refine ⟨by simp; omega, rfl, fun t => ?_, fun l o e => by simp [getO] at e, fun _ _ => rfl, fun t l hl' => ?_, fun i o e => by simp [getO] at e, fun l l' loc loc' b e => (by cases e), fun b hb => absurd hb (hown b), FExt.refl _ w⟩
    · rcases hget t _ rfl with e | e
      · rw [e]; exact .junk _
      · have := hA t _ e
        have hlt : t < args.length := (List.getElem?_eq_some_iff.1 e).1
        rw [getD_append_left (by omega)]
        exact this
    · rcases hget t _ rfl with e | e
      · rw [e] at hl'; simp [refs] at hl'
      · rw [noRefs_spec hp t _ e] at hl'; simp at hl'
  refine calls_of_wp hf hb (wp_mono (awp_sound hE hT hm c _ _ _ _ w hR h) (fun e a' w' he => ?_))
  have fin : (∃ s σ, resQ T fn.results.toList res s ∧ Rel P ⟨fn.ntmps, St, M0, fun _ => False, w⟩ s σ a' w') → a'.defers = [] ∧ ∃ v, (results fn a'.tmps).run P w' = .ok v w' ∧ ∃ v_1 σ', Ending.returned v = .returned v_1 ∧ Post P St M0 (fun _ => none) w [] (.pv res) σ' v_1 w' := by
    rintro ⟨s, σ, hq, hR'⟩
    obtain ⟨v, hr, hpv⟩ := results_run hE hT hR' hq
    refine ⟨hR'.df, v, hr, v, fun _ => none, rfl, ?_⟩
    refine ⟨.pv _ _ (hpv.mono (Same.refl _ w') (fun b _ hb => ?_)), fun l o e => by simp [getO] at e, fun _ _ => rfl, fun l loc loc' e => (by cases e), fun l l' loc loc' b e => (by cases e), fun b hb => absurd hb (hown b), hR'.ext.mono (fun _ _ h => h.elim)⟩
    rcases hb with hb | hb
    · exact hb
    · exact absurd hb (hown b)
  cases e with
  | normal => exact fin he
  | ret => exact fin he
  | exit i => obtain ⟨s, σ, hq, _⟩ := he; exact hq.elim
  | goto l => exact he.elim
  | panic c => exact he.elim
  | outgrown => exact he.elim

/-- .. and what it gives of a call in the model's words. -/
theorem AC.calls {P : Program} {f : FuncId} {args : List AV} {res : PV} (h : AC P f args [] (.pv res) []) {w : World} {vals : Array Value} (hg : Glob w (fun _ => False)) (hl : vals.size = args.length)
    (hA : ∀ i x, args[i]? = some x → AR P w (fun b => b < w.heap.size) (fun _ => False) (fun _ => none) x (vals.getD i undef)) :
    Calls P f vals w (fun e w' => ∃ v, e = .returned v ∧ PR w' (fun _ => False) res v ∧ Below w.heap.size w w') := by
  have hown : ∀ b, ¬ owned (fun _ => none) b := fun b ⟨l, loc, h, _⟩ => by cases h
  have hM : Mof (fun _ => False) (fun _ => none) = fun _ => False := funext fun b => propext ⟨fun h => h.elim id (hown b), False.elim⟩
  refine (h.2 (fun b => b < w.heap.size) (fun _ => False) (fun _ => none) w vals ⟨fun l l' loc loc' b e => (by cases e), fun b h => absurd h (hown b), fun b h => h.elim, fun b h => ⟨h, hown b⟩, by rw [hM]; exact hg⟩ (fun _ _ => rfl) (fun l o e => by simp [getO] at e) hl (by rw [hM]; exact hA)).mono ?_
  rintro e w' ⟨v, σ', rfl, hp⟩
  have hσ : σ' = fun _ => none := funext fun l => hp.old l rfl
  subst hσ
  have hv := arg_pv hp.val
  rw [hM] at hv
  exact ⟨v, rfl, hv, hp.ext.os, hp.ext.tape, hp.ext.output, hp.ext.size, fun b hb => hp.ext.block b hb (fun ⟨l, loc, h, _⟩ => (h rfl).elim)⟩

/-- A function that hands back a new row. -/
def ownQ (fn : Func) (size n : Nat) (g : Nat → List PV) (s : AState) : Prop :=
  match s with
  | ⟨tm, ob⟩ => match fn.results.toList with
    | [.tmp t] => match getT tm t with
      | .own l => match getO ob l with
        | some (.row s' n' f') => chk (Nat.beq s' size) (n' = n ∧ ∀ i, i < n → PSubs (f' i) (g i))
        | _ => False
      | .pv (.val (.slice none 0 0)) => n = 0
      | _ => False
    | _ => False

def ownE (fn : Func) (size n : Nat) (g : Nat → List PV) : AExit → AState → Prop
  | .exit _, _ => False
  | .normal, s => ownQ fn size n g s
  | .ret, s => ownQ fn size n g s

theorem AC.of_awp_own {P : Program} {T : Tab} {f : FuncId} {fn : Func} {c : Code} {args : List AV} {size n : Nat} {g : Nat → List PV} (hT : T.ok P) (hm : P.follows .mixedOrders = true) (hcall : ∀ (vals : Array Value) (w : World), (callFunc f vals).run P w = .ok (.enter f vals) w)
    (hf : P.funcs[f]? = some fn) (hb : fn.body = some c) (hn : Nat.ble args.length fn.ntmps = true) (hp : noRefs args = true) (h : awp P T fn.ntmps c ⟨argTm 0 args, []⟩ (ownE fn size n g)) : AC P f args [] (.own 0) [(0, .row size n g)] := by
  refine ⟨hcall, fun St M0 σ w vals hi hσ _ hl hA => ?_⟩
  have hσ' : σ = fun _ => none := funext fun l => hσ l rfl
  subst hσ'
  have hown : ∀ b, ¬ owned (fun _ => none) b := fun b ⟨l, loc, h, _⟩ => by cases h
  have hle := Nat.le_of_ble_eq_true hn
  have hE : FEnv.ok ⟨fn.ntmps, St, M0, fun _ => False, w⟩ := ⟨fun b hb => ⟨(hi.m0 b hb).1, id⟩, fun b hb => ⟨(hi.st b hb).1, id⟩, hi.gl.mono (Same.refl _ w) (fun b _ hb => .inl (hb.elim id False.elim))⟩
  have hget : ∀ t x, getT (argTm 0 args) t = x → x = .junk ∨ args[t]? = some x := by
    intro t x e
    rw [argTm_get, if_neg (by omega)] at e
    cases ha : args[t - 0]? with
    | none => rw [ha] at e; exact .inl e.symm
    | some y => rw [ha] at e; simp at e ha; subst e; exact .inr rfl
  have hR : Rel P ⟨fn.ntmps, St, M0, fun _ => False, w⟩ ⟨argTm 0 args, []⟩ (fun _ => none) { tmps := vals ++ Array.replicate (fn.ntmps - vals.size) undef, defers := [] } w := by
    refine ⟨by simp; omega, rfl, fun t => ?_, fun l o e => by simp [getO] at e, fun _ _ => rfl, fun t l hl' => ?_, fun i o e => by simp [getO] at e, fun l l' loc loc' b e => (by cases e), fun b hb => absurd hb (hown b), FExt.refl _ w⟩
    · rcases hget t _ rfl with e | e
      · rw [e]; exact .junk _
      · have := hA t _ e
        have hlt : t < args.length := (List.getElem?_eq_some_iff.1 e).1
        rw [getD_append_left (by omega)]
        exact this
    · rcases hget t _ rfl with e | e
      · rw [e] at hl'; simp [refs] at hl'
      · rw [noRefs_spec hp t _ e] at hl'; simp at hl'
  refine calls_of_wp hf hb (wp_mono (awp_sound hE hT hm c _ _ _ _ w hR h) (fun e a' w' he => ?_))
  have fin : (∃ s σ, ownQ fn size n g s ∧ Rel P ⟨fn.ntmps, St, M0, fun _ => False, w⟩ s σ a' w') → a'.defers = [] ∧ ∃ v, (results fn a'.tmps).run P w' = .ok v w' ∧ ∃ v_1 σ', Ending.returned v = .returned v_1 ∧ Post P St M0 (fun _ => none) w [(0, .row size n g)] (.own 0) σ' v_1 w' := by
    rintro ⟨⟨tm, ob⟩, σ, hq, hR'⟩
    have hc : ∀ l : List ResultVar, fn.results.toList = l → fn.results = l.toArray := fun l e => by rw [← e]
    have mk : ∀ (loc : Loc), (∀ b, loc.blk = some b → Mof M0 σ b ∧ w.heap.size ≤ b) → OR P w' St (Mof M0 σ) σ (.row size n g) loc → Post P St M0 (fun _ => none) w [(0, .row size n g)] (.own 0) (upd1 (fun _ => none) 0 loc) loc.ref w' := by
      intro loc hlb hor
      have hMM : ∀ b, b < w'.heap.size → Mof M0 (upd1 (fun _ => none) 0 loc) b → Mof M0 σ b := by
        intro b _ hb
        rcases hb with hb | hb
        · exact .inl hb
        · rcases owned_upd1 hb with h | h
          · exact absurd h (hown b)
          · exact (hlb b h).1
      refine ⟨.own _ _ fun lc h => by simp [upd1] at h; rw [h], fun k x e => ?_, fun k e => ?_, fun k lc lc' e => (by cases e), ?_, fun b h => ?_, hR'.ext.mono (fun _ _ h => h.elim)⟩
      · rw [getO_one] at e
        split at e
        · rename_i h; cases e; subst h
          refine ⟨loc, by simp [upd1], ?_⟩
          cases hor with
          | row0 _ _ a => exact .row0 _ _ a
          | row _ _ _ b cap vs t hb hn hmax hsz hs hh h1 => exact .row _ _ _ b cap vs t hb hn hmax hsz hs (fun i hi j p e => (hh i hi j p e).mono (Same.refl _ w') hMM) h1
        · cases e
      · rw [getO_one] at e
        split at e
        · cases e
        · rename_i h; simp [upd1, show ¬ k = 0 from fun x => h x.symm]
      · intro k k' lc lc' b e e' _ _
        unfold upd1 at e e'
        split at e <;> split at e'
        · rename_i h h'; rw [h, h']
        · cases e'
        · cases e
        · cases e
      · rcases owned_upd1 h with h | h
        · exact absurd h (hown b)
        · exact .inr (hlb b h).2
    unfold ownQ at hq
    simp only at hq
    split at hq
    · rename_i t hr
      have htm := hR'.tm t
      simp only at htm
      split at hq
      · rename_i l hv
        split at hq
        · rename_i s' n' f' hob
          obtain ⟨h1, h2, h3⟩ := chk_true hq
          have h1 := Nat.eq_of_beq_eq_true h1
          subst h1; subst h2
          obtain ⟨loc, hloc, hor⟩ := hR'.ob l _ hob
          rw [hv] at htm
          have hval := arg_own htm hloc
          have hlb : ∀ b, loc.blk = some b → Mof M0 σ b ∧ w.heap.size ≤ b := fun b hb => ⟨.inr ⟨l, loc, hloc, hb⟩, by
            rcases hR'.own b ⟨l, loc, hloc, hb⟩ with h | h
            · exact h.elim
            · exact h⟩
          refine ⟨hR'.df, _, by simp [results, hc _ hr]; rfl, _, upd1 (fun _ => none) 0 loc, rfl, ?_⟩
          have h4 : a'.tmps.getD t undef = loc.ref := hval
          have h5 : a'.tmps[t]?.getD undef = loc.ref := by rw [← h4]; simp [Array.getD_eq_getD_getElem?]
          rw [h5]
          refine mk loc hlb ?_
          cases hor with
          | row0 _ _ a => exact .row0 _ _ a
          | row _ _ _ b cap vs t hb hn hmax hsz hs hh h6 =>
            refine .row _ _ _ b cap vs t hb hn hmax hsz (fun i hi => (h3 i hi).length ▸ hs i hi) (fun i hi j p e => ?_) h6
            obtain ⟨q, hq, hs'⟩ := (h3 i hi).get j p e
            exact hs'.to _ _ _ (hh i hi j q hq)
        · exact hq.elim
      · rename_i hv
        subst hq
        rw [hv] at htm
        have h4 : a'.tmps.getD t undef = .slice none 0 0 := pr_val (arg_pv htm)
        have h5 : a'.tmps[t]?.getD undef = .slice none 0 0 := by rw [← h4]; simp [Array.getD_eq_getD_getElem?]
        refine ⟨hR'.df, _, by simp [results, hc _ hr]; rfl, _, upd1 (fun _ => none) 0 ⟨.slice none 0 0, none⟩, rfl, ?_⟩
        rw [h5]
        exact mk ⟨.slice none 0 0, none⟩ (fun b hb => by cases hb) (.row0 _ _ none)
      · exact hq.elim
    · exact hq.elim
  cases e with
  | normal => exact fin he
  | ret => exact fin he
  | exit i => obtain ⟨s, σ, hq, _⟩ := he; exact hq.elim
  | goto l => exact he.elim
  | panic c => exact he.elim
  | outgrown => exact he.elim

/-- A function that is handed a row and hands one back. -/
def moveQ (fn : Func) (size n : Nat) (g : Nat → List PV) : AExit → AState → Prop := ownE fn size n g

theorem AC.of_awp_move {P : Program} {T : Tab} {f : FuncId} {fn : Func} {c : Code} {args : List AV} {o1 : AObj} {size n : Nat} {g : Nat → List PV} (hT : T.ok P) (hm : P.follows .mixedOrders = true) (hcall : ∀ (vals : Array Value) (w : World), (callFunc f vals).run P w = .ok (.enter f vals) w)
    (hf : P.funcs[f]? = some fn) (hb : fn.body = some c) (hn : Nat.ble args.length fn.ntmps = true) (hp : wsT [(0, o1)] (argTm 0 args) = true) (hr : refsO o1 = []) (h : awp P T fn.ntmps c ⟨argTm 0 args, [(0, o1)]⟩ (ownE fn size n g)) : AC P f args [(0, o1)] (.own 1) [(1, .row size n g), (0, .gone)] := by
  refine ⟨hcall, fun St M0 σ w vals hi hσ hos hl hA => ?_⟩
  have hσ0 : ∀ l, l ≠ 0 → σ l = none := fun l hl => hσ l (by rw [getO_one, if_neg (Ne.symm hl)])
  have hown0 : ∀ b, owned σ b → ∃ loc, σ 0 = some loc ∧ loc.blk = some b := by
    rintro b ⟨l, loc, e, hb⟩
    by_cases h0 : l = 0
    · subst h0; exact ⟨loc, e, hb⟩
    · rw [hσ0 l h0] at e; cases e
  have hE : FEnv.ok ⟨fn.ntmps, St, M0, owned σ, w⟩ := ⟨fun b hb => hi.m0 b hb, fun b hb => hi.st b hb, hi.gl.mono (Same.refl _ w) (fun b _ hb => hb)⟩
  have hle := Nat.le_of_ble_eq_true hn
  have hget : ∀ t x, getT (argTm 0 args) t = x → x = .junk ∨ args[t]? = some x := by
    intro t x e
    rw [argTm_get, if_neg (by omega)] at e
    cases ha : args[t - 0]? with
    | none => rw [ha] at e; exact .inl e.symm
    | some y => rw [ha] at e; simp at e ha; subst e; exact .inr rfl
  have hR : Rel P ⟨fn.ntmps, St, M0, owned σ, w⟩ ⟨argTm 0 args, [(0, o1)]⟩ σ { tmps := vals ++ Array.replicate (fn.ntmps - vals.size) undef, defers := [] } w := by
    refine ⟨by simp; omega, rfl, fun t => ?_, hos, hσ, fun t l hl' => ?_, fun i o e l hl' => ?_, hi.sep, fun b hb => .inl hb, FExt.refl _ w⟩
    · rcases hget t _ rfl with e | e
      · rw [e]; exact .junk _
      · have := hA t _ e
        have hlt : t < args.length := (List.getElem?_eq_some_iff.1 e).1
        rw [getD_append_left (by omega)]
        exact this
    · rcases getT_mem (l := argTm 0 args) (t := t) with e | ⟨v, hm, e⟩
      · simp only [e] at hl'; simp [refs] at hl'
      · simp only [e] at hl'; exact wsT_mem hp t v hm l hl'
    · rw [getO_one] at e
      split at e
      · cases e; rw [hr] at hl'; simp at hl'
      · cases e
  refine calls_of_wp hf hb (wp_mono (awp_sound hE hT hm c _ _ _ _ w hR h) (fun e a' w' he => ?_))
  have hgo : ∀ k, getO [(1, AObj.row size n g), (0, AObj.gone)] k = if 1 = k then some (AObj.row size n g) else if 0 = k then some .gone else none := fun k => by
    rw [getO_cons]
    split
    · rfl
    · exact getO_one
  have fin : (∃ s σ', ownQ fn size n g s ∧ Rel P ⟨fn.ntmps, St, M0, owned σ, w⟩ s σ' a' w') → a'.defers = [] ∧ ∃ v, (results fn a'.tmps).run P w' = .ok v w' ∧ ∃ v_1 σ', Ending.returned v = .returned v_1 ∧ Post P St M0 σ w [(1, .row size n g), (0, .gone)] (.own 1) σ' v_1 w' := by
    rintro ⟨⟨tm, ob⟩, σ2, hq, hR'⟩
    have hc : ∀ l : List ResultVar, fn.results.toList = l → fn.results = l.toArray := fun l e => by rw [← e]
    have mk : ∀ (loc : Loc), (∀ b, loc.blk = some b → Mof M0 σ2 b ∧ (owned σ b ∨ w.heap.size ≤ b)) → OR P w' St (Mof M0 σ2) σ2 (.row size n g) loc → Post P St M0 σ w [(1, .row size n g), (0, .gone)] (.own 1) (upd1 (fun _ => none) 1 loc) loc.ref w' := by
      intro loc hlb hor
      have hMM : ∀ b, b < w'.heap.size → Mof M0 (upd1 (fun _ => none) 1 loc) b → Mof M0 σ2 b := by
        intro b _ hb
        rcases hb with hb | hb
        · exact .inl hb
        · rcases owned_upd1 hb with ⟨_, _, h, _⟩ | h
          · cases h
          · exact (hlb b h).1
      refine ⟨.own _ _ fun lc h => by simp [upd1] at h; rw [h], fun k x e => ?_, fun k e => ?_, fun k lc lc' e e' => ?_, ?_, fun b h => ?_, hR'.ext.mono (fun b _ h => ?_)⟩
      · rw [hgo] at e
        split at e
        · rename_i h; cases e; subst h
          exact ⟨loc, by simp [upd1], hor.mono (Same.refl _ w') hMM (fun _ _ _ => rfl) (fun l hl => by simp [refsO] at hl) (fun _ _ => rfl)⟩
        · split at e
          · rename_i h; cases e; subst h; show upd1 (fun _ => none) 1 loc 0 = none; simp [upd1]
          · cases e
      · rw [hgo] at e
        split at e
        · cases e
        · split at e
          · cases e
          · rename_i h1 h2
            rw [hσ0 k (fun h => h2 h.symm)]
            simp [upd1, show ¬ k = 1 from fun x => h1 x.symm]
      · unfold upd1 at e'
        split at e'
        · rename_i h; subst h; rw [hσ0 1 (by decide)] at e; cases e
        · cases e'
      · intro k k' lc lc' b e e' _ _
        unfold upd1 at e e'
        split at e <;> split at e'
        · rename_i h h'; rw [h, h']
        · cases e'
        · cases e
        · cases e
      · rcases owned_upd1 h with ⟨_, _, h, _⟩ | h
        · cases h
        · exact (hlb b h).2
      · obtain ⟨lc, h1, h2⟩ := hown0 b h
        exact ⟨0, lc, by rw [hgo]; simp, h1, h2⟩
    unfold ownQ at hq
    simp only at hq
    split at hq
    · rename_i t hr
      have htm := hR'.tm t
      simp only at htm
      split at hq
      · rename_i l hv
        split at hq
        · rename_i s' n' f' hob
          obtain ⟨h1, h2, h3⟩ := chk_true hq
          have h1 := Nat.eq_of_beq_eq_true h1
          subst h1; subst h2
          obtain ⟨loc, hloc, hor⟩ := hR'.ob l _ hob
          rw [hv] at htm
          have hval := arg_own htm hloc
          have hlb : ∀ b, loc.blk = some b → Mof M0 σ2 b ∧ (owned σ b ∨ w.heap.size ≤ b) := fun b hb => ⟨.inr ⟨l, loc, hloc, hb⟩, hR'.own b ⟨l, loc, hloc, hb⟩⟩
          refine ⟨hR'.df, _, by simp [results, hc _ hr]; rfl, _, upd1 (fun _ => none) 1 loc, rfl, ?_⟩
          have h4 : a'.tmps.getD t undef = loc.ref := hval
          have h5 : a'.tmps[t]?.getD undef = loc.ref := by rw [← h4]; simp [Array.getD_eq_getD_getElem?]
          rw [h5]
          refine mk loc hlb ?_
          cases hor with
          | row0 _ _ a => exact .row0 _ _ a
          | row _ _ _ b cap vs t hb hn hmax hsz hs hh h6 =>
            refine .row _ _ _ b cap vs t hb hn hmax hsz (fun i hi => (h3 i hi).length ▸ hs i hi) (fun i hi j p e => ?_) h6
            obtain ⟨q, hq, hs'⟩ := (h3 i hi).get j p e
            exact hs'.to _ _ _ (hh i hi j q hq)
        · exact hq.elim
      · rename_i hv
        subst hq
        rw [hv] at htm
        have h4 : a'.tmps.getD t undef = .slice none 0 0 := pr_val (arg_pv htm)
        have h5 : a'.tmps[t]?.getD undef = .slice none 0 0 := by rw [← h4]; simp [Array.getD_eq_getD_getElem?]
        refine ⟨hR'.df, _, by simp [results, hc _ hr]; rfl, _, upd1 (fun _ => none) 1 ⟨.slice none 0 0, none⟩, rfl, ?_⟩
        rw [h5]
        exact mk ⟨.slice none 0 0, none⟩ (fun b hb => by cases hb) (.row0 _ _ none)
      · exact hq.elim
    · exact hq.elim
  cases e with
  | normal => exact fin he
  | ret => exact fin he
  | exit i => obtain ⟨s, σ, hq, _⟩ := he; exact hq.elim
  | goto l => exact he.elim
  | panic c => exact he.elim
  | outgrown => exact he.elim

/-- A function that is handed a function: from what it does with any that answers so, to what it does with this one. -/
theorem AC.with_fn {P : Program} {g f : FuncId} {pre post caps : List AV} {dom : List PV → Prop} {isB : Bool} {gb : List PV → Bool} {gi : List PV → Int} {res : PV} (h : AC P g (pre ++ .clo dom isB gb gi :: post) [] (.pv res) [])
    (hcall : ∀ (vals : Array Value) (w : World), (callFunc f vals).run P w = .ok (.enter f vals) w) (hpre : noRefs pre = true) (hpost : noRefs post = true) (hcaps : noRefs caps = true)
    (hf : ∀ xs, dom xs → AC P f (xs.map .pv ++ caps) [] (.pv (cloRes isB gb gi xs)) []) : AC P g (pre ++ .fn f caps :: post) [] (.pv res) [] := by
  refine ⟨h.1, fun St M0 σ w vals hi hσ hos hl hA => ?_⟩
  have hσ' : σ = fun _ => none := funext fun l => hσ l rfl
  subst hσ'
  have hown : ∀ b, ¬ owned (fun _ => none) b := fun b ⟨l, loc, h, _⟩ => by cases h
  have hmono : ∀ (x : AV) (v : Value), refs x = [] → AR P w St (Mof M0 fun _ => none) (fun _ => none) x v → AR P w (fun b => b < w.heap.size) (Mof M0 fun _ => none) (fun _ => none) x v := by
    intro x v _ hx
    induction hx with
    | pv p v h => exact .pv p v h
    | junk v => exact .junk v
    | ptr l off v h => exact .ptr l off v h
    | eptr l s i j v h => exact .eptr l s i j v h
    | own l v h => exact .own l v h
    | part l s i n v h => exact .part l s i n v h
    | ref l v h => exact .ref l v h
    | fn f caps vs hl _ ih => exact .fn f caps vs hl (fun i c e => ih i c e (by
        rename_i hr
        have := refs_sub e
        cases hc : refs c with
        | nil => rfl
        | cons a b => have := this a (by simp [hc]); simp [refs] at hr; rw [hr] at this; simp at this))
    | clo dom isB gb gi f caps C hC h => exact .clo dom isB gb gi f caps C (fun b hb => ⟨(hC b hb).2, (hC b hb).2⟩) h
  have hinv : Inv (fun b => b < w.heap.size) M0 (fun _ => none) w := ⟨hi.sep, hi.lt, hi.m0, fun b h => ⟨h, hown b⟩, hi.gl⟩
  refine (h.2 (fun b => b < w.heap.size) M0 (fun _ => none) w vals hinv (fun _ _ => rfl) (fun l o e => by simp [getO] at e) (by simpa using hl) (fun i x hx => ?_)).mono ?_
  · by_cases h1 : i = pre.length
    · subst h1
      simp at hx
      subst hx
      have hfv := hA pre.length (.fn f caps) (by simp)
      cases hv : vals.getD pre.length undef with
      | func fn first vs => _
      | _ => rw [hv] at hfv; cases hfv
      rw [hv] at hfv
      cases hfv with
      | fn _ _ _ hlc hcap =>
        refine .clo _ _ _ _ f vs (fun b => b < w.heap.size) (fun b hb => ⟨hb, hb⟩) ⟨hcall, ?_⟩
        intro w' M xs vs' hd hsz hblk hlen hx
        obtain ⟨_, hrun⟩ := hf xs hd
        have hsame : ∀ M, Same M w w' := fun M => ⟨hsz, fun b hb _ => hblk b hb⟩
        have hM0 : Mof M0 (fun _ => none) = M0 := funext fun b => propext ⟨fun h => h.elim id (fun h => absurd h (hown b)), .inl⟩
        have hMF : Mof (fun b => M b ∧ w'.heap.size ≤ b ∧ False) (fun _ => none) = fun _ => False := funext fun b => propext ⟨fun h => h.elim (fun h => h.2.2) (fun h => absurd h (hown b)), False.elim⟩
        refine (hrun (fun b => b < w'.heap.size) (fun b => M b ∧ w'.heap.size ≤ b ∧ False) (fun _ => none) w' (vs' ++ vs) ⟨fun l l' loc loc' b e => (by cases e), fun b h => absurd h (hown b), fun b h => h.2.2.elim, fun b h => ⟨h, hown b⟩, ?_⟩ (fun _ _ => rfl) (fun l o e => by simp [getO] at e) (by simp [hlen, hlc]) (fun j y hy => ?_)).mono ?_
        · rw [hMF]; exact hi.gl.mono (hsame _) (fun b _ h => h.elim)
        · rw [hMF]
          rw [List.getElem?_append] at hy
          split at hy
          · rename_i hlt
            have hlt' : j < xs.length := by simpa using hlt
            rw [getD_append_left (by omega)]
            simp at hy
            obtain ⟨q, hq, rfl⟩ := hy
            exact .pv _ _ ((hx j q hq).mono (Same.refl _ w') (fun b _ h => h.elim))
          · rename_i hge
            have hge' : xs.length ≤ j := by simpa using hge
            rw [getD_append_right (by omega)]
            have h2 := hcap (j - xs.length) y (by simpa using hy)
            rw [hlen]
            have hr := noRefs_spec hcaps (j - xs.length) y (by simpa using hy)
            have h3 : AR P w' (fun b => b < w.heap.size) (fun _ => False) (fun _ => none) y (vs.getD (j - xs.length) undef) := (hmono y _ hr h2).mono (hsame _) (fun b _ h => h.elim) (fun b hb hb' => hblk b hb) (fun l hl => by rw [hr] at hl; simp at hl)
            cases y with
            | pv p => exact .pv _ _ (arg_pv h3)
            | clo d b1 gb1 gi1 =>
              generalize vs.getD (j - xs.length) undef = vv at h3
              cases h3 with
              | clo _ _ _ _ f2 c2 C hC h4 => exact .clo _ _ _ _ f2 c2 C (fun b hb => ⟨(hC b hb).2, (hC b hb).2⟩) h4
            | junk => exact .junk _
            | ptr l o => simp [refs] at hr
            | eptr l s i j => simp [refs] at hr
            | own l => simp [refs] at hr
            | part l s i n => simp [refs] at hr
            | ref l => simp [refs] at hr
            | fn f2 c2 =>
              exfalso
              have hc2 : caps[j - xs.length]? = some (.fn f2 c2) := by simpa using hy
              have : ∀ (l : List AV) (i : Nat), noRefs l = true → l[i]? ≠ some (.fn f2 c2) := by
                intro l
                induction l with
                | nil => intro i _; simp
                | cons z l ih =>
                  intro i hz
                  cases z <;> simp [noRefs] at hz
                  all_goals
                    cases i with
                    | zero => simp
                    | succ i => simpa using ih i hz
              exact this caps _ hcaps hc2
        · rintro e w'' ⟨v, σ', rfl, hp⟩
          have hσ : σ' = fun _ => none := funext fun l => hp.old l rfl
          subst hσ
          have hv2 := arg_pv hp.val
          rw [hMF] at hv2
          have hext : FExt (fun _ => False) w' w'' := hp.ext.mono (fun i _ ⟨l, loc, h, _⟩ => (h rfl).elim)
          refine ⟨v, rfl, ?_, hext⟩
          cases isB with
          | true =>
            cases hv2
            exact .sb _
          | false =>
            cases hv2
            exact .val _
    · have h2 : (pre ++ AV.fn f caps :: post)[i]? = some x := by
        rw [List.getElem?_append] at hx ⊢
        split at hx
        · rename_i hlt; rw [if_pos hlt]; exact hx
        · rename_i hge
          rw [if_neg hge]
          have : i - pre.length ≠ 0 := by omega
          cases hk : i - pre.length with
          | zero => omega
          | succ k => rw [hk] at hx; simpa using hx
      have hr : refs x = [] := by
        rw [List.getElem?_append] at hx
        split at hx
        · exact noRefs_spec hpre i x hx
        · rename_i hge
          cases hk : i - pre.length with
          | zero => omega
          | succ k => rw [hk] at hx; exact noRefs_spec hpost k x (by simpa using hx)
      exact hmono x _ hr (hA i x h2)
  · rintro e w' ⟨v, σ', rfl, hp⟩
    have hσ : σ' = fun _ => none := funext fun l => hp.old l rfl
    subst hσ
    exact ⟨v, _, rfl, .pv _ _ (arg_pv hp.val), fun l o e => by simp [getO] at e, hp.old, hp.stay, hp.sep, hp.blk, hp.ext⟩

/-- A slice in hand is nil, or it is not. -/
theorem AC.nil_split {P : Program} {g : FuncId} {pre post : List AV} {size n : Nat} {f : Nat → List PV} {os os' : Upd} {res : AV} (h1 : AC P g (pre ++ .pv (.nn (.ro size n f)) :: post) os res os') (h2 : n = 0 → AC P g (pre ++ .pv (.val (.slice none 0 0)) :: post) os res os') :
    AC P g (pre ++ .pv (.ro size n f) :: post) os res os' := by
  refine ⟨h1.1, fun St M0 σ w vals hi hσ hos hl hA => ?_⟩
  have hv := hA pre.length (.pv (.ro size n f)) (by simp)
  have hp := arg_pv hv
  have go : ∀ (q : PV), PR w (Mof M0 σ) q (vals.getD pre.length undef) → ∀ (i : Nat) (x : AV), (pre ++ AV.pv q :: post)[i]? = some x → AR P w St (Mof M0 σ) σ x (vals.getD i undef) := by
    intro q hq i x hx
    by_cases h3 : i = pre.length
    · subst h3; simp at hx; subst hx; exact .pv _ _ hq
    · refine hA i x ?_
      rw [List.getElem?_append] at hx ⊢
      split at hx
      · rename_i hlt; rw [if_pos hlt]; exact hx
      · rename_i hge
        rw [if_neg hge]
        cases hk : i - pre.length with
        | zero => omega
        | succ k => rw [hk] at hx; simpa using hx
  generalize vals.getD pre.length undef = v at hp go
  cases hp with
  | ro _ _ _ a cap u hcap hmax hz hs ha hh =>
    cases a with
    | some ad => exact h1.2 St M0 σ w vals hi hσ hos (by simpa using hl) (go _ (.nn _ ad n cap (.ro size n f (some ad) cap u hcap hmax hz hs ha hh)))
    | none =>
      have hc := hz rfl
      subst hc
      have hn : n = 0 := by omega
      subst hn
      exact (h2 rfl).2 St M0 σ w vals hi hσ hos (by simpa using hl) (go _ (.val _))

end Go.Abs

namespace Go.Abs
open Go.RowKit
variable [Globals]

def EqAt (P : Program) (d : Nat) (t : TypeId) (ls : List Leaf) : Prop :=
  ∀ (xs ys : Array Value) (w : World), xs.size = ls.length → ys.size = ls.length → (∀ (i : Nat) (l : Leaf), ls[i]? = some l → l.has (xs.getD i undef) ∧ l.has (ys.getD i undef)) →
    (Op.equalIn d t (.agg xs) (.agg ys)).run P w = .ok (eqvs xs.toList ys.toList) w

inductive FieldsEq (P : Program) (d : Nat) : Nat → List Field → List Leaf → Prop where
  | nil (off : Nat) : FieldsEq P d off [] []
  | one (off : Nat) (f : Field) (fs : List Field) (l : Leaf) (ls : List Leaf) (hn : f.name ≠ "_") (ho : f.offset = off) (hu : P.underlying f.type = some l.desc) (h : FieldsEq P d (off + 1) fs ls) : FieldsEq P d off (f :: fs) (l :: ls)
  | many (off : Nat) (f : Field) (fs : List Field) (l1 ls : List Leaf) (hn : f.name ≠ "_") (ho : f.offset = off) (i : TypeInfo) (gs : Array Field) (hu : P.underlying f.type = some (.struct gs)) (hi : P.info? f.type = some i) (hs : i.size = l1.length) (he : EqAt P d f.type l1)
      (h : FieldsEq P d (off + l1.length) fs ls) : FieldsEq P d off (f :: fs) (l1 ++ ls)

theorem eqvs_append : ∀ {a b c d : List Value}, a.length = b.length → eqvs (a ++ c) (b ++ d) = (eqvs a b && eqvs c d)
  | [], [], c, d, _ => by simp [eqvs]
  | x :: a, y :: b, c, d, h => by
    simp only [List.cons_append, eqvs, eqvs_append (a := a) (b := b) (c := c) (d := d) (by simpa using h), Bool.and_assoc]
  | [], _ :: _, _, _, h => by simp at h
  | _ :: _, [], _, _, h => by simp at h

theorem run_equalIn_leaf {P : Program} {w : World} {d : Nat} {t : TypeId} {l : Leaf} {x y : Value} (hu : P.underlying t = some l.desc) (hx : l.has x) (hy : l.has y) : (Op.equalIn (d + 1) t x y).run P w = .ok (Leaf.eqv x y) w := by
  cases l with
  | int k =>
    obtain ⟨a, rfl⟩ := hx; obtain ⟨b, rfl⟩ := hy
    simp [Op.equalIn, run_underlying (show P.underlying t = some (.int k) from hu), Leaf.eqv]
  | str =>
    obtain ⟨a, rfl⟩ := hx; obtain ⟨b, rfl⟩ := hy
    simp [Op.equalIn, run_underlying (show P.underlying t = some .string from hu), Leaf.eqv]
  | bool =>
    obtain ⟨a, rfl⟩ := hx; obtain ⟨b, rfl⟩ := hy
    simp [Op.equalIn, run_underlying (show P.underlying t = some .bool from hu), Leaf.eqv]

theorem run_part_leaf {P : Program} {w : World} {t : TypeId} {l : Leaf} {xs : Array Value} {off : Nat} (hu : P.underlying t = some l.desc) (h : off < xs.size) : (part t xs off).run P w = .ok (xs.getD off undef) w := by
  have : (isAgg t).run P w = .ok false w := by
    cases l <;> simp [isAgg, run_underlying hu, Leaf.desc]
  simp [part, this, Array.getD, h]

theorem eqFields_run {P : Program} {d : Nat} {off : Nat} {fs : List Field} {ls : List Leaf} (hF : FieldsEq P (d + 1) off fs ls) :
    ∀ (xs ys : Array Value) (w : World), xs.size = off + ls.length → ys.size = off + ls.length → (∀ (i : Nat) (l : Leaf), ls[i]? = some l → l.has (xs.getD (off + i) undef) ∧ l.has (ys.getD (off + i) undef)) →
      (Op.eqFields (d + 1) xs ys fs).run P w = .ok (eqvs (xs.toList.drop off) (ys.toList.drop off)) w := by
  induction hF with
  | nil off =>
    intro xs ys w hx hy _
    have : xs.toList.drop off = [] := List.drop_eq_nil_of_le (by simp; simpa using Nat.le_of_eq hx)
    simp [Op.eqFields, this, eqvs]
  | one off f fs l ls hn ho hu _ ih =>
    intro xs ys w hx hy hl
    obtain ⟨h1, h2⟩ := hl 0 l (by simp)
    have hx' : off < xs.size := by simp at hx; omega
    have hy' : off < ys.size := by simp at hy; omega
    have ih' := ih xs ys w (by simp at hx ⊢; omega) (by simp at hy ⊢; omega) (fun i l' e => by have := hl (i + 1) l' (by simpa using e); simpa [Nat.add_assoc, Nat.add_comm 1 i] using this)
    have d1 : xs.toList.drop off = xs.getD off undef :: xs.toList.drop (off + 1) := by
      rw [List.drop_eq_getElem_cons (by simpa using hx')]; simp [Array.getD, hx']
    have d2 : ys.toList.drop off = ys.getD off undef :: ys.toList.drop (off + 1) := by
      rw [List.drop_eq_getElem_cons (by simpa using hy')]; simp [Array.getD, hy']
    have hr : (Op.equalIn (d + 1) f.type (xs.getD off undef) (ys.getD off undef)).run P w = _ := run_equalIn_leaf hu h1 h2
    unfold Op.eqFields
    rw [d1, d2]
    simp only [hn, ne_eq, not_false_eq_true, if_true, ho, Sem.run_bind, run_part_leaf hu hx', run_part_leaf hu hy', Result.andThen_ok, eqvs]
    rw [hr]
    cases Leaf.eqv (xs.getD off undef) (ys.getD off undef)
    · simp
    · simpa using ih'
  | many off f fs l1 ls hn ho i gs hu hi hs he _ ih =>
    intro xs ys w hx hy hl
    simp only [List.length_append] at hx hy
    have ih' := ih xs ys w (by omega) (by omega) (fun j l' e => by
      have := hl (l1.length + j) l' (by rw [List.getElem?_append_right (by omega)]; simpa using e)
      simpa [Nat.add_assoc] using this)
    have hag : (isAgg f.type).run P w = .ok true w := by simp [isAgg, run_underlying hu]
    have hsz : (sizeOf f.type).run P w = .ok l1.length w := by simp [sizeOf, run_typeInfo_some hi, hs]
    have px : (part f.type xs off).run P w = .ok (.agg (xs.extract off (off + l1.length))) w := by simp [part, hag, hsz]
    have py : (part f.type ys off).run P w = .ok (.agg (ys.extract off (off + l1.length))) w := by simp [part, hag, hsz]
    have gx : ∀ (zs : Array Value), zs.size = off + (l1.length + ls.length) → ∀ j, j < l1.length → (zs.extract off (off + l1.length)).getD j undef = zs.getD (off + j) undef := by
      intro zs hz j hj
      simp [Array.getD_eq_getD_getElem?, show j < min (off + l1.length) zs.size - off from by omega, show off + j < zs.size from by omega]
    have hr := he (xs.extract off (off + l1.length)) (ys.extract off (off + l1.length)) w (by simp; omega) (by simp; omega) (fun j l' e => by
      have hj : j < l1.length := (List.getElem?_eq_some_iff.1 e).1
      rw [gx xs hx j hj, gx ys hy j hj]
      exact hl j l' (by rw [List.getElem?_append_left hj]; exact e))
    have tx : ∀ (zs : Array Value), zs.toList.drop off = (zs.extract off (off + l1.length)).toList ++ zs.toList.drop (off + l1.length) := by
      intro zs
      rw [Array.toList_extract, List.extract_eq_take_drop]
      rw [show off + l1.length - off = l1.length from by omega, ← List.drop_drop, List.take_append_drop]
    unfold Op.eqFields
    rw [tx xs, tx ys, eqvs_append (by simp; omega)]
    simp only [hn, ne_eq, not_false_eq_true, if_true, ho, Sem.run_bind, px, py, Result.andThen_ok, hr]
    cases eqvs (xs.extract off (off + l1.length)).toList (ys.extract off (off + l1.length)).toList
    · simp
    · simpa using ih'

theorem EqAt.struct {P : Program} {d : Nat} {t : TypeId} {fs : Array Field} {ls : List Leaf} (hu : P.underlying t = some (.struct fs)) (hs : P.stoodInHeld t = false) (hF : FieldsEq P (d + 1) 0 fs.toList ls) : EqAt P (d + 2) t ls := by
  intro xs ys w hx hy hl
  have hfo : P.fieldsOf t = fs := by simp [Program.fieldsOf, hu]
  rw [run_equalIn_struct w (d + 1) t xs ys (by rw [hfo]; exact hu) hs, hfo]
  have := eqFields_run hF xs ys w (by simpa using hx) (by simpa using hy) (by simpa using hl)
  simpa using this

/-- A table as a tree over the binary digits of the number. -/
inductive TT where
  | leaf
  | node (l : TT) (v : Option TY) (r : TT)

def TT.get : Nat → TT → Nat → Option TY
  | 0, _, _ => none
  | f + 1, t, n => match t with
    | .leaf => none
    | .node l v r => match Nat.beq n 0 with
      | true => v
      | false => match Nat.beq (n % 2) 0 with
        | true => TT.get f l (n / 2)
        | false => TT.get f r (n / 2)

def TT.all (p : Nat → TY → Prop) : TT → Nat → Nat → Prop
  | .leaf, _, _ => True
  | .node l v r, m, b => (match v with | some ty => p b ty | none => True) ∧ TT.all p l (2 * m) b ∧ TT.all p r (2 * m) (b + m)

theorem TT.all_get {p : Nat → TY → Prop} : ∀ {f : Nat} {t : TT} {m b n : Nat} {ty : TY}, TT.all p t m b → TT.get f t n = some ty → p (b + m * n) ty
  | 0, t, m, b, n, ty, _, h => by simp [TT.get] at h
  | f + 1, .leaf, m, b, n, ty, _, h => by simp [TT.get] at h
  | f + 1, .node l v r, m, b, n, ty, hp, h => by
    obtain ⟨h1, h2, h3⟩ := hp
    have h : (match Nat.beq n 0 with
      | true => v
      | false => match Nat.beq (n % 2) 0 with
        | true => TT.get f l (n / 2)
        | false => TT.get f r (n / 2)) = some ty := h
    split at h
    · rename_i e
      have : n = 0 := Nat.eq_of_beq_eq_true e
      subst this
      have h : v = some ty := ‹v = some ty›
      rw [h] at h1
      simpa using h1
    · split at h
      · rename_i e
        have e := Nat.eq_of_beq_eq_true e
        have := TT.all_get h2 h
        have hn : 2 * m * (n / 2) = m * n := by
          have : n = 2 * (n / 2) := by omega
          rw [Nat.mul_comm 2 m, Nat.mul_assoc, ← this]
        rw [hn] at this
        exact this
      · rename_i e
        have e : n % 2 = 1 := by
          have : Nat.beq (n % 2) 0 = false := by cases hh : Nat.beq (n % 2) 0 <;> simp_all
          have h0 : n % 2 ≠ 0 := fun hh => by rw [hh] at this; simp at this
          omega
        have := TT.all_get h3 h
        have hn : b + m + 2 * m * (n / 2) = b + m * n := by
          have : n = 2 * (n / 2) + 1 := by omega
          conv => rhs; rw [this]
          rw [Nat.mul_add, Nat.mul_one, ← Nat.mul_assoc, Nat.mul_comm m 2]
          omega
        rw [hn] at this
        exact this

end Go.Abs

namespace Go.Abs
open Go.RowKit
variable [Globals]

instance : Inhabited ByteArray := ⟨ByteArray.empty⟩

abbrev vint (n : Int) : PV := .val (.int .i64 n)
abbrev vstr (s : ByteArray) : PV := .val (.string s)
abbrev vbool (b : Bool) : PV := .sb b

/-- a slice of l, each element as enc says, 'size' cells each -/
def roL {α : Type} [Inhabited α] (size : Nat) (enc : α → List PV) (l : List α) : PV := .ro size l.length (fun i => enc (l.getD i default))
def cstr (s : ByteArray) : List PV := [.val (.string s)]
def cint (n : Int) : List PV := [.val (.int .i64 n)]

theorem wrap64 {n : Int} (h : -9223372036854775808 ≤ n ∧ n ≤ 9223372036854775807) : inR .i64 n := IntWalk.i64_in n h

theorem PSub.lst {α : Type} [Inhabited α] {size : Nat} {enc : α → List PV} {l k : List α} (h : l = k) : PSub (roL size enc l) (roL size enc k) := h ▸ PSub.rfl
theorem PSub.nilL {α : Type} [Inhabited α] {size : Nat} {enc : α → List PV} {l : List α} (h : l = []) : PSub (.val (.slice none 0 0)) (roL size enc l) := by
  subst h; exact PSub.nil_ro _ _

/-- a row built so far, as a slice of a list -/
theorem PSub.rows {α : Type} [Inhabited α] {size n : Nat} {f : Nat → List PV} {enc : α → List PV} {l : List α} (hn : n = l.length) (h : ∀ i, i < n → f i = enc (l.getD i default)) : PSub (.ro size n f) (roL size enc l) :=
  PSub.ro hn (fun i hi => by rw [h i hi]; exact PSubs.rfl)

end Go.Abs

namespace Go.Abs
variable [Globals]

def keepT (tm : List (Nat × AV)) : List Nat → List (Nat × AV)
  | [] => []
  | t :: l => (t, getT tm t) :: keepT tm l

def keepO (ob : List (Nat × AObj)) : List Nat → List (Nat × AObj)
  | [] => []
  | l :: r => match getO ob l with
    | some o => (l, o) :: keepO ob r
    | none => keepO ob r

/-- A loop whose slots 'kt' and objects 'ko' stay as they are. -/
theorem loop_k {P : Program} {T : Tab} {nt : Nat} {c : Code} {Q : AExit → AState → Prop} {tm : List (Nat × AV)} {ob : List (Nat × AObj)} {ι : Type} (kt ko : List Nat) (J : ι → Prop) (m : ι → Nat) (i0 : ι)
    (δ : ι → List (Nat × AV)) (δo : ι → List (Nat × AObj)) (r : List (Nat × Nat)) (h0 : J i0) (he : entS r ⟨tm, ob⟩ ⟨δ i0 ++ keepT tm kt, δo i0 ++ keepO ob ko⟩)
    (hs : ∀ i, J i → awp P T nt c ⟨δ i ++ keepT tm kt, δo i ++ keepO ob ko⟩ (thenK (fun s' => ∃ (j : ι) (r : List (Nat × Nat)), J j ∧ m j < m i ∧ entS r s' ⟨δ j ++ keepT tm kt, δo j ++ keepO ob ko⟩) Q)) :
    ∃ (ι : Type) (J : ι → Prop) (I : ι → AState) (m : ι → Nat) (i0 : ι) (r : List (Nat × Nat)), J i0 ∧ entS r ⟨tm, ob⟩ (I i0) ∧
      ∀ i, J i → awp P T nt c (I i) (thenK (fun s' => ∃ (j : ι) (r : List (Nat × Nat)), J j ∧ m j < m i ∧ entS r s' (I j)) Q) :=
  ⟨ι, J, fun i => ⟨δ i ++ keepT tm kt, δo i ++ keepO ob ko⟩, m, i0, r, h0, he, hs⟩

/-- for i := k; i < n; i++: from state s; a round goes on with a state or ends all with an answer. -/
def forI {ρ σ : Type} (step : Nat → σ → ρ ⊕ σ) : Nat → Nat → σ → ρ ⊕ σ
  | 0, _, s => .inr s
  | m + 1, k, s => match step k s with
    | .inl r => .inl r
    | .inr s' => forI step m (k + 1) s'

theorem forI_stop {ρ σ : Type} {step : Nat → σ → ρ ⊕ σ} {n k : Nat} {s : σ} {r : ρ} {t : ρ ⊕ σ} (h : forI step (n - k) k s = t) (hk : k < n) (hs : step k s = .inl r) : t = .inl r := by
  rw [← h, show n - k = (n - (k + 1)) + 1 from by omega, forI, hs]

theorem forI_next {ρ σ : Type} {step : Nat → σ → ρ ⊕ σ} {n k : Nat} {s s' : σ} {t : ρ ⊕ σ} (h : forI step (n - k) k s = t) (hk : k < n) (hs : step k s = .inr s') : forI step (n - (k + 1)) (k + 1) s' = t := by
  rw [← h, show n - k = (n - (k + 1)) + 1 from by omega, forI, hs]

theorem forI_end {ρ σ : Type} {step : Nat → σ → ρ ⊕ σ} {n k : Nat} {s : σ} {t : ρ ⊕ σ} (h : forI step (n - k) k s = t) (hk : n ≤ k) : t = .inr s := by
  rw [← h, show n - k = 0 from by omega, forI]

/-- Two loops whose rounds agree agree. -/
theorem forI_congr {ρ σ : Type} {f g : Nat → σ → ρ ⊕ σ} : ∀ (n k : Nat) (s : σ), (∀ i s, k ≤ i → i < k + n → f i s = g i s) → forI f n k s = forI g n k s
  | 0, _, _, _ => rfl
  | n + 1, k, s, h => by
    simp only [forI, h k s (Nat.le_refl _) (by omega)]
    cases g k s with
    | inl r => rfl
    | inr s' => exact forI_congr n (k + 1) s' (fun i t h1 h2 => h i t (by omega) (by omega))

/-- .. and what holds of states and answers all along. -/
theorem forI_inv {ρ σ : Type} {f : Nat → σ → ρ ⊕ σ} (p : Nat → σ → Prop) : ∀ (n k : Nat) (s : σ), p k s → (∀ i s s', k ≤ i → i < k + n → p i s → f i s = .inr s' → p (i + 1) s') → ∀ s', forI f n k s = .inr s' → p (k + n) s'
  | 0, k, s, h0, _, s', e => by simp only [forI, Sum.inr.injEq] at e; subst e; exact h0
  | n + 1, k, s, h0, h, s', e => by
    simp only [forI] at e
    cases hf : f k s with
    | inl r => rw [hf] at e; cases e
    | inr t =>
      rw [hf] at e
      have := forI_inv p n (k + 1) t (h k s t (Nat.le_refl _) (by omega) h0 hf) (fun i s s' h1 h2 => h i s s' (by omega) (by omega)) s' e
      rwa [show k + (n + 1) = k + 1 + n from by omega]

/-- Arguments that say more will do. -/
theorem AC.sub {P : Program} {f : FuncId} {ps qs : List PV} {os os' : Upd} {res : AV} (h : AC P f (qs.map .pv) os res os') (hs : PSubs ps qs) : AC P f (ps.map .pv) os res os' := by
  refine ⟨h.1, fun St M0 σ w vals hi hn ho hl ha => h.2 St M0 σ w vals hi hn ho (by rw [hl]; simp [hs.length]) fun i x e => ?_⟩
  rw [List.getElem?_map] at e
  cases hq : qs[i]? with
  | none => rw [hq] at e; cases e
  | some q =>
    rw [hq] at e
    simp only [Option.map_some, Option.some.injEq] at e
    subst e
    obtain ⟨p, hp, hpq⟩ := hs.get i q hq
    have := ha i (.pv p) (by rw [List.getElem?_map, hp]; rfl)
    exact .pv _ _ (hpq.to _ _ _ (arg_pv this))

theorem AC.sub1 {P : Program} {f : FuncId} {p q : PV} {os os' : Upd} {res : AV} (h : AC P f [.pv q] os res os') (h1 : PSub p q) : AC P f [.pv p] os res os' :=
  AC.sub (qs := [q]) (ps := [p]) h ⟨h1, trivial⟩
theorem AC.sub2 {P : Program} {f : FuncId} {p q p2 q2 : PV} {os os' : Upd} {res : AV} (h : AC P f [.pv q, .pv q2] os res os') (h1 : PSub p q) (h2 : PSub p2 q2) : AC P f [.pv p, .pv p2] os res os' :=
  AC.sub (qs := [q, q2]) (ps := [p, p2]) h ⟨h1, h2, trivial⟩
theorem AC.sub3 {P : Program} {f : FuncId} {p q p2 q2 p3 q3 : PV} {os os' : Upd} {res : AV} (h : AC P f [.pv q, .pv q2, .pv q3] os res os') (h1 : PSub p q) (h2 : PSub p2 q2) (h3 : PSub p3 q3) : AC P f [.pv p, .pv p2, .pv p3] os res os' :=
  AC.sub (qs := [q, q2, q3]) (ps := [p, p2, p3]) h ⟨h1, h2, h3, trivial⟩
theorem AC.sub4 {P : Program} {f : FuncId} {p q p2 q2 p3 q3 p4 q4 : PV} {os os' : Upd} {res : AV} (h : AC P f [.pv q, .pv q2, .pv q3, .pv q4] os res os') (h1 : PSub p q) (h2 : PSub p2 q2) (h3 : PSub p3 q3) (h4 : PSub p4 q4) : AC P f [.pv p, .pv p2, .pv p3, .pv p4] os res os' :=
  AC.sub (qs := [q, q2, q3, q4]) (ps := [p, p2, p3, p4]) h ⟨h1, h2, h3, h4, trivial⟩

/-- A result may be told in fewer words. -/
theorem AC.weak {P : Program} {f : FuncId} {args : List AV} {p q : PV} (h : AC P f args [] (.pv p) []) (hs : PSub p q) : AC P f args [] (.pv q) [] := by
  refine ⟨h.1, fun St M0 σ w vals hi hn ho hl ha => (h.2 St M0 σ w vals hi hn ho hl ha).mono ?_⟩
  rintro e w' ⟨v, σ', he, hp⟩
  exact ⟨v, σ', he, ⟨.pv _ _ (hs.to _ _ _ (arg_pv hp.val)), hp.obj, hp.old, hp.stay, hp.sep, hp.blk, hp.ext⟩⟩

/-- a row of the function's own that holds the list l -/
def rowL {α : Type} [Inhabited α] (size : Nat) (enc : α → List PV) (l : List α) : AObj := .row size l.length (fun i => enc (l.getD i default))

theorem rows_app {α : Type} [Inhabited α] {enc : α → List PV} {acc xs : List α} {g : Nat → List PV} (hg : ∀ i, i < xs.length → PSubs (g i) (enc (xs.getD i default))) :
    ∀ i, i < (acc ++ xs).length → PSubs (if i < acc.length then enc (acc.getD i default) else g (i - acc.length)) (enc ((acc ++ xs).getD i default)) := by
  intro i hi
  rw [List.length_append] at hi
  by_cases h : i < acc.length
  · rw [if_pos h]
    have : (acc ++ xs).getD i default = acc.getD i default := by simp [List.getD, List.getElem?_append_left h]
    rw [this]; exact PSubs.rfl
  · rw [if_neg h]
    have : (acc ++ xs).getD i default = xs.getD (i - acc.length) default := by simp [List.getD, List.getElem?_append_right (Nat.le_of_not_lt h)]
    rw [this]; exact hg _ (by omega)

theorem rows_snoc {α : Type} [Inhabited α] {enc : α → List PV} {acc : List α} {x : α} {g : Nat → List PV} (hg : PSubs (g 0) (enc x)) :
    ∀ i, i < (acc ++ [x]).length → PSubs (if i < acc.length then enc (acc.getD i default) else g (i - acc.length)) (enc ((acc ++ [x]).getD i default)) :=
  rows_app fun i hi => by
    have : i = 0 := by simpa using hi
    subst this; exact hg

theorem take_succ_getD {α : Type} [Inhabited α] {l : List α} {k : Nat} (h : k < l.length) : l.take (k + 1) = l.take k ++ [l.getD k default] := by
  rw [List.take_add_one, List.getElem?_eq_getElem h]; simp [List.getD, h]

theorem rows_snocF {α : Type} [Inhabited α] {enc : α → List PV} {acc : List α} {x : α} {F : Nat → List PV} (h1 : ∀ i, i < acc.length → PSubs (F i) (enc (acc.getD i default))) (h2 : PSubs (F acc.length) (enc x)) :
    ∀ i, i < (acc ++ [x]).length → PSubs (F i) (enc ((acc ++ [x]).getD i default)) := by
  intro i hi
  rw [List.length_append] at hi
  by_cases h : i < acc.length
  · have : (acc ++ [x]).getD i default = acc.getD i default := by simp [List.getD, List.getElem?_append_left h]
    rw [this]; exact h1 i h
  · have e : i = acc.length := by simp at hi; omega
    subst e
    have : (acc ++ [x]).getD acc.length default = x := by simp [List.getD]
    rw [this]; exact h2

theorem updAt_same {f : Nat → List PV} {i j : Nat} {cs : List PV} : updAt f i j cs i = splice (f i) j cs := by simp [updAt, putAt]
theorem updAt_ne {f : Nat → List PV} {i j k : Nat} {cs : List PV} (h : k ≠ i) : updAt f i j cs k = f k := by
  unfold updAt putAt
  rw [show Nat.beq k i = false from by rw [← Bool.not_eq_true]; simpa [Nat.beq_eq] using h]

end Go.Abs

namespace Go.Abs
open Go.RowKit

/-- cells that read as these data -/
structure Reads (w : World) (cs : List Value) (ps : List PV) : Prop where
  len : cs.length = ps.length
  pr : ∀ i p, ps[i]? = some p → PR w (fun _ => False) p (cs.getD i undef)
  one : ∀ i, i < cs.length → (cs.getD i undef).oneCell' = true

theorem Reads.nil {w : World} : Reads w [] [] := ⟨rfl, fun i p h => by simp at h, fun i h => by simp at h⟩

theorem Reads.append {w : World} {a b : List Value} {p q : List PV} (h : Reads w a p) (k : Reads w b q) : Reads w (a ++ b) (p ++ q) := by
  have e1 : ∀ i, i < a.length → (a ++ b).getD i undef = a.getD i undef := fun i hi => by simp [List.getD, List.getElem?_append_left hi]
  have e2 : ∀ i, a.length ≤ i → (a ++ b).getD i undef = b.getD (i - a.length) undef := fun i hi => by simp [List.getD, List.getElem?_append_right hi]
  refine ⟨by simp [h.len, k.len], fun i x hx => ?_, fun i hi => ?_⟩
  · by_cases hlt : i < a.length
    · rw [e1 i hlt]
      rw [List.getElem?_append_left (by rw [← h.len]; exact hlt)] at hx
      exact h.pr i x hx
    · rw [e2 i (by omega)]
      rw [List.getElem?_append_right (by rw [← h.len]; omega)] at hx
      rw [h.len]
      exact k.pr _ x hx
  · by_cases hlt : i < a.length
    · rw [e1 i hlt]; exact h.one i hlt
    · rw [e2 i (by omega)]
      rw [List.length_append] at hi
      exact k.one _ (by omega)

theorem Reads.single {w : World} {v : Value} {p : PV} (h : PR w (fun _ => False) p v) (h1 : v.oneCell' = true) : Reads w [v] [p] := by
  refine ⟨rfl, fun i q hq => ?_, fun i hi => ?_⟩
  · cases i with
    | zero => simp at hq; subst hq; exact h
    | succ i => simp at hq
  · cases i with
    | zero => exact h1
    | succ i => simp at hi

structure BulkOk {H : Type} (bulk : DataW H → Nat) : Prop where
  str : ∀ bytes, bytes.length ≤ bulk (.lit (.string bytes))
  len : ∀ e s, e.length ≤ bulk (.slice e s)
  elem : ∀ e s d, d ∈ e → bulk d ≤ bulk (.slice e s)
  part : ∀ l d, d ∈ l → bulk d ≤ bulk (.agg l)

section
variable {H : Type} (enc : TypeId × Value → H) (P : Program) (w : World) (bulk : DataW H → Nat) (B : Nat)

/-- What reads at the type t reads as data of α. -/
def Opens (t : TypeId) {α : Type} (cs : α → List PV) (good : α → Prop) : Prop :=
  ∀ (sp : Nat → Bool) (fuel : Nat) (vs : List Value) (x : DataW H × List MemPlace), DataW.trod enc P w 0 sp true fuel t vs = some x → bulk x.1 ≤ B → ∃ a : α, good a ∧ Reads w vs (cs a)

/-- .. of the fields of a struct, from the cell off on. -/
def FOpens (fs : List Field) (off : Nat) {α : Type} (cs : α → List PV) (good : α → Prop) : Prop :=
  ∀ (sp : Nat → Bool) (n : Nat) (vs : List Value) (xs : List (DataW H × List MemPlace)), xs.length = fs.length → (∀ (i : Nat) (f : Field), fs[i]? = some f → DataW.trod enc P w 0 sp true n f.type ((vs.drop f.offset).take (P.cellsOf f.type)) = xs[i]?) →
    (∀ y ∈ xs, bulk y.1 ≤ B) → off ≤ vs.length → vs.length = off + (fs.map fun f => P.cellsOf f.type).sum → ∃ a : α, good a ∧ Reads w (vs.drop off) (cs a)
end

section
variable {H : Type} {enc : TypeId × Value → H} {P : Program} {w : World} {bulk : DataW H → Nat} {B : Nat}

theorem Opens.imp {t : TypeId} {α β : Type} {cs : α → List PV} {good : α → Prop} {cs' : β → List PV} {good' : β → Prop} (h : Opens enc P w bulk B t cs good) (f : α → β) (he : ∀ a, cs' (f a) = cs a) (hg : ∀ a, good a → good' (f a)) : Opens enc P w bulk B t cs' good' := by
  intro sp fuel vs x hx hb
  obtain ⟨a, h1, h2⟩ := h sp fuel vs x hx hb
  exact ⟨f a, hg a h1, by rw [he]; exact h2⟩

theorem Opens.int {t : TypeId} {k : IntKind} (ht : P.underlying t = some (.int k)) : Opens enc P w bulk B t (fun n : Int => [.val (.int k n)]) (fun n => (Lit.int k n).wf = true) := by
  intro sp fuel vs x hx hb
  obtain ⟨n, rfl, rfl, hw⟩ := DataW.trod_int ht hx
  exact ⟨n, hw, Reads.single (.val _) rfl⟩

theorem Opens.bool {t : TypeId} (ht : P.underlying t = some .bool) : Opens enc P w bulk B t (fun b : Bool => [.sb b]) (fun _ => True) := by
  intro sp fuel vs x hx hb
  obtain ⟨n, rfl, rfl⟩ := DataW.trod_bool ht hx
  exact ⟨n, trivial, Reads.single (.sb _) rfl⟩

theorem Opens.str (hB : BulkOk bulk) {t : TypeId} (ht : P.underlying t = some .string) : Opens enc P w bulk B t (fun s : ByteArray => [.val (.string s)]) (fun s => s.size ≤ B) := by
  intro sp fuel vs x hx hb
  obtain ⟨s, rfl, rfl, _⟩ := DataW.trod_string ht hx
  refine ⟨s, ?_, Reads.single (.val _) rfl⟩
  have := hB.str s.data.toList
  simp only at hb
  have e : s.data.toList.length = s.size := by show s.data.toList.length = s.data.size; exact Array.length_toList
  omega

theorem Opens.slice (hB : BulkOk bulk) {t e : TypeId} {α : Type} [Inhabited α] {cs : α → List PV} {good : α → Prop} {size : Nat} (ht : P.underlying t = some (.slice e)) (hsz : P.cellsOf e = size) (hpos : 0 < size) (he : Opens enc P w bulk B e cs good) :
    Opens enc P w bulk B t (fun l : List α => [roL size cs l]) (fun l => l.length ≤ B ∧ ∀ i, i < l.length → good (l.getD i default)) := by
  intro sp fuel vs x hx hb
  rcases DataW.trod_slice ht hx with ⟨rfl, rfl⟩ | ⟨a, len, cap, elems, rest, n, rfl, rfl, rfl, _, hlc, hcm, hel, hcell, _, _⟩
  · exact ⟨[], ⟨Nat.zero_le _, fun i h => absurd h (by simp)⟩, Reads.single ((PSub.nil_ro size _).to _ _ _ (.val _)) rfl⟩
  · simp only at hb
    have hlen : len ≤ B := by
      have := hB.len (elems.map (·.1)) (rest.map (·.1))
      simp only [List.length_map] at this
      omega
    have hone : ∀ i, i < len → ∃ y, good y ∧ ∃ cl, w.cells? 0 (a.add (i * size)) size = some cl ∧ Reads w cl (cs y) := by
      intro i hi
      have h1 := hcell i hi
      rw [hsz] at h1
      have hi2 : i < elems.length := by omega
      rw [List.getElem?_eq_getElem hi2] at h1
      cases hc : w.cells? 0 (a.add (i * size)) size with
      | none => rw [hc] at h1; cases h1
      | some cl =>
        rw [hc] at h1
        simp only [Option.bind_some] at h1
        have hb2 : bulk (elems[i]).1 ≤ B := Nat.le_trans (hB.elem (elems.map (·.1)) (rest.map (·.1)) _ (List.mem_map_of_mem (List.getElem_mem hi2))) hb
        obtain ⟨y, hg, hr⟩ := he sp n cl _ h1 hb2
        exact ⟨y, hg, cl, rfl, hr⟩
    have hex : ∃ f : Nat → α, ∀ i, i < len → good (f i) ∧ ∃ cl, w.cells? 0 (a.add (i * size)) size = some cl ∧ Reads w cl (cs (f i)) :=
      ⟨fun i => if h : i < len then Classical.choose (hone i h) else default, fun i hi => by simp only [dif_pos hi]; exact Classical.choose_spec (hone i hi)⟩
    obtain ⟨f, hf⟩ := hex
    have hget : ∀ i, i < len → ((List.range len).map f).getD i default = f i := fun i hi => by simp [List.getD, hi]
    refine ⟨(List.range len).map f, ⟨by simpa using hlen, fun i hi => ?_⟩, Reads.single ?_ rfl⟩
    · have hi : i < len := by simpa using hi
      rw [hget i hi]; exact (hf i hi).1
    · have key : ∀ i, i < len → ∀ j, j < size → ∃ v, w.cell? (a.add (i * size + j)) = some v ∧ v.oneCell' = true ∧ (a.add (i * size + j)).block < w.heap.size ∧ ∀ p, (cs (f i))[j]? = some p → PR w (fun _ => False) p v := by
        intro i hi j hj
        obtain ⟨_, cl, hc, hr⟩ := hf i hi
        obtain ⟨_, hl, hall⟩ := World.cells?_some hc
        have hj2 : j < cl.length := by omega
        have h1 := hall j hj
        rw [add_add, List.getElem?_eq_getElem hj2] at h1
        have hg : cl.getD j undef = cl[j] := by simp [List.getD, hj2]
        refine ⟨cl[j], h1, by rw [← hg]; exact hr.one j hj2, ?_, fun p hp => by rw [← hg]; exact hr.pr j p hp⟩
        have hb := World.cells?_block hc hpos
        simpa [block_add] using hb
      have hn : ((List.range len).map f).length = len := by simp
      unfold roL
      rw [hn]
      refine .ro size len _ (some a) cap (fun i j => (w.cell? (a.add (i * size + j))).getD undef) hlc hcm (fun h => by cases h) (fun i hi => ?_) (fun h0 => ⟨a, rfl, ?_, fun h => h.elim, fun i hi j hj => ?_⟩) (fun i hi j p hp => ?_)
      · rw [hget i hi]
        obtain ⟨_, cl, hc, hr⟩ := hf i hi
        obtain ⟨_, hl, _⟩ := World.cells?_some hc
        rw [← hr.len]; exact hl
      · obtain ⟨v, _, _, hb, _⟩ := key 0 h0 0 hpos
        simpa [block_add] using hb
      · obtain ⟨v, e, h1, _, _⟩ := key i hi j hj
        rw [e]; exact ⟨rfl, h1⟩
      · rw [hget i hi] at hp
        have hj : j < size := by
          obtain ⟨_, cl, hc, hr⟩ := hf i hi
          obtain ⟨_, hl, _⟩ := World.cells?_some hc
          have := (List.getElem?_eq_some_iff.1 hp).1
          rw [← hr.len, hl] at this; exact this
        obtain ⟨v, e, _, _, hpv⟩ := key i hi j hj
        simp only [e, Option.getD_some]
        exact hpv p hp

theorem FOpens.nil {off : Nat} : FOpens enc P w bulk B [] off (fun _ : Unit => []) (fun _ => True) := by
  intro sp n vs xs _ _ _ _ hl
  simp at hl
  exact ⟨(), trivial, by rw [List.drop_of_length_le (by omega)]; exact Reads.nil⟩

theorem FOpens.cons {f : Field} {fs : List Field} {off : Nat} {α β : Type} {cs : α → List PV} {good : α → Prop} {cs' : β → List PV} {good' : β → Prop} {size : Nat} (ho : f.offset = off) (hsz : P.cellsOf f.type = size) (h : Opens enc P w bulk B f.type cs good) (k : FOpens enc P w bulk B fs (off + size) cs' good') :
    FOpens enc P w bulk B (f :: fs) off (fun x : α × β => cs x.1 ++ cs' x.2) (fun x => good x.1 ∧ good' x.2) := by
  subst ho; subst hsz
  intro sp n vs xs hxl hx hb hoff hl
  cases xs with
  | nil => simp at hxl
  | cons y ys =>
    have h0 := hx 0 f rfl
    simp only [List.getElem?_cons_zero] at h0
    obtain ⟨a, ha, ra⟩ := h sp n _ _ h0 (hb y (by simp))
    simp only [List.map_cons, List.sum_cons] at hl
    obtain ⟨b, hb2, rb⟩ := k sp n vs ys (by simpa using hxl) (fun i g hg => by simpa using hx (i + 1) g (by simpa using hg)) (fun z hz => hb z (by simp [hz])) (by omega) (by omega)
    refine ⟨(a, b), ⟨ha, hb2⟩, ?_⟩
    have e : vs.drop f.offset = (vs.drop f.offset).take (P.cellsOf f.type) ++ vs.drop (f.offset + P.cellsOf f.type) := by
      rw [← List.drop_drop, List.take_append_drop]
    rw [e]
    exact ra.append rb

theorem Opens.struct (hB : BulkOk bulk) {t : TypeId} {fs : Array Field} {α : Type} {cs : α → List PV} {good : α → Prop} (ht : P.underlying t = some (.struct fs)) (hc : P.cellsOf t = (fs.toList.map fun f => P.cellsOf f.type).sum) (h : FOpens enc P w bulk B fs.toList 0 cs good) :
    Opens enc P w bulk B t cs good := by
  intro sp fuel vs x hx hb
  obtain ⟨xs, n, rfl, rfl, hl, hxl, hall⟩ := DataW.trod_struct ht hx
  obtain ⟨a, ha, hr⟩ := h sp n vs xs (by simpa using hxl) (fun i f hf => hall i f (by simpa using hf)) (fun y hy => Nat.le_trans (hB.part _ _ (List.mem_map_of_mem hy)) hb) (Nat.zero_le _) (by rw [hl, hc]; simp)
  exact ⟨a, ha, by simpa using hr⟩

/-- An argument whose type is a struct. -/
theorem Opens.arg_struct {t : TypeId} {fs : Array Field} {α : Type} {cs : α → List PV} {good : α → Prop} {r : Reach} {base : Nat} {v : Value} {d : DataW H} {ps : List MemPlace} (h : Opens enc P w bulk B t cs good) (ht : P.underlying t = some (.struct fs))
    (hok : Value.okWide P w r base t v) (hd : DataW.Trod enc P w 0 (fun _ => true) true t v d ps) (hb : bulk d ≤ B) : ∃ a : α, good a ∧ PR w (fun _ => False) (.agg (cs a)) v := by
  unfold Value.okWide at hok
  rw [ht] at hok
  obtain ⟨vs, rfl, _, _⟩ := hok
  obtain ⟨n, hn⟩ := hd
  have ec : (Value.agg vs).cells = vs := rfl
  rw [ec] at hn
  obtain ⟨a, ha, hr⟩ := h _ _ _ _ hn hb
  refine ⟨a, ha, .agg _ vs (by simpa using hr.len) (fun i p hp => by simpa [Array.getD_eq_getD_getElem?, List.getD] using hr.pr i p hp) (fun i hi => by simpa [Array.getD_eq_getD_getElem?, List.getD, hi] using hr.one i (by simpa using hi))⟩

/-- .. is one cell. -/
theorem Opens.arg_cell {t : TypeId} {α : Type} {cs : α → PV} {good : α → Prop} {v : Value} {d : DataW H} {ps : List MemPlace} (h : Opens enc P w bulk B t (fun a => [cs a]) good) (hc : v.cells.toList = [v])
    (hd : DataW.Trod enc P w 0 (fun _ => true) true t v d ps) (hb : bulk d ≤ B) : ∃ a : α, good a ∧ PR w (fun _ => False) (cs a) v := by
  obtain ⟨n, hn⟩ := hd
  rw [hc] at hn
  obtain ⟨a, ha, hr⟩ := h _ _ _ _ hn hb
  exact ⟨a, ha, by simpa using hr.pr 0 _ rfl⟩
end

end Go.Abs

namespace Go.Abs
open Go.RowKit Go.ChangeShapes

def strData {H : Type} (ss : List ByteArray) : DataW H := .agg (ss.map fun s => .lit (.string s.data.toList))

theorem cells_of_strs {H : Type} {enc : TypeId × Value → H} {P : Program} {w : World} {base : Nat} {sp : Nat → Bool} {held : Bool} {fuel : Nat} {t e : TypeId} {n : Nat} {cs : List Value} {ss : List ByteArray} {p : List MemPlace}
    (ht : P.underlying t = some (.array n e)) (he : P.underlying e = some .string) (hce : P.cellsOf e = 1) (hct : P.cellsOf t = n)
    (h : DataW.trod enc P w base sp held fuel t cs = some (strData ss, p)) : cs = ss.map fun s => Value.string s := by
  cases fuel with
  | zero => simp [DataW.trod] at h
  | succ fuel =>
    simp only [DataW.trod, ht, hce, hct, Nat.mul_one] at h
    split at h
    · rename_i hl
      obtain ⟨xs, hm, hx⟩ := Option.map_eq_some_iff.1 h
      have hxs : xs.map (·.1) = ss.map fun s => (DataW.lit (.string s.data.toList) : DataW H) := by
        have := congrArg Prod.fst hx
        simpa [strData] using this
      have hxl : xs.length = n := by simpa using Lib.mapM_length hm
      have hzl : ss.length = n := by
        have := congrArg List.length hxs
        simp at this
        omega
      apply List.ext_getElem?
      intro i
      by_cases hi : i < n
      · obtain ⟨b, hb, hf⟩ := Lib.mapM_at hm i i (by simp [hi])
        obtain ⟨z, hc, rfl, _⟩ := DataW.trod_string he hf
        have h1 : cs[i]? = some (.string z) := by
          have := congrArg (·[0]?) hc
          simpa [List.getElem?_take, List.getElem?_drop] using this
        have h2 : (xs.map (·.1))[i]? = some (DataW.lit (.string z.data.toList) : DataW H) := by simp [hb]
        rw [hxs] at h2
        simp only [List.getElem?_map, Option.map_eq_some_iff, DataW.lit.injEq, Lit.string.injEq] at h2
        obtain ⟨z', hz', e⟩ := h2
        have ez : z' = z := by
          cases z'; cases z
          congr 1
          exact Array.toList_inj.1 e
        subst ez
        simp [h1, hz']
      · rw [List.getElem?_eq_none (by omega), List.getElem?_eq_none (by simp; omega)]
    · cases h

/-- A listed table of strings reads as pure data. -/
theorem strTab {P : Program} {W : World} {name : String} {ss : List ByteArray} {rest : List (String × DataW Unit)} {g : Nat} {t e : TypeId} {n : Nat}
    (hg : P.globalNamed name = some g) (hty : (P.globals[g]?).map (·.type) = some t) (ht : P.underlying t = some (.array n e)) (he : P.underlying e = some .string) (hce : P.cellsOf e = 1) (hct : P.cellsOf t = n) (hpos : 0 < ss.length)
    (h : laidMet P ((name, strData ss) :: rest) W) : PR W (fun _ => False) (.cell (ss.map fun s => .val (.string s))) (.pointer (some ⟨g, 0, none⟩)) := by
  obtain ⟨ps, ⟨g', t', cs, fuel, p, q, hg', ht', hvar, hd, _, _⟩, _⟩ := h
  obtain rfl := Option.some.inj (hg.symm.trans hg')
  obtain rfl := Option.some.inj (hty.symm.trans ht')
  have hcs := cells_of_strs ht he hce hct hd
  have hcell : ∀ j, j < ss.length → W.cell? ⟨g, j, none⟩ = some (.string (ss.getD j default)) := fun j hj => by
    rw [World.var?_cell hg hvar j]
    have : cs.toList[j]? = some (.string (ss.getD j default)) := by rw [hcs]; simp [List.getD, hj]
    simpa using this
  have hadd : ∀ j, (⟨g, 0, none⟩ : Addr).add j = ⟨g, j, none⟩ := fun j => by unfold Addr.add; split <;> simp_all
  refine .cell _ ⟨g, 0, none⟩ (fun j => .string (ss.getD j default)) ?_ (fun h => h) (fun j hj => ?_) (fun j p hp => ?_)
  · have := hcell 0 hpos
    unfold World.cell? at this
    split at this
    · rename_i hb; exact lt_of_block hb
    · cases this
  · rw [hadd, hcell j (by simpa using hj)]; exact ⟨rfl, rfl⟩
  · simp only [List.getElem?_map, Option.map_eq_some_iff] at hp
    obtain ⟨s, hs, rfl⟩ := hp
    have : ss.getD j default = s := by simp [List.getD, hs]
    rw [this]; exact .val _

section
variable {H : Type} {enc : TypeId × Value → H} {P : Program}

theorem trodAll_stays (hl : laidOutB P = true) {W W' : World} (hb : Below W.heap.size W W') : ∀ {ts : List TypeId} {vs : List Value} {ds : List (DataW H)} {ps : List MemPlace}, (∀ t ∈ ts, P.readableRec t = true ∧ t < P.types.size) →
    DataW.TrodAll enc P W 0 (fun _ => true) true ts vs ds ps → DataW.TrodAll enc P W' 0 (fun b => decide (b < W.heap.size)) true ts vs ds ps
  | [], [], [], ps, _, h => h
  | t :: ts, v :: vs, d :: ds, ps, ht, h => by
    obtain ⟨p, q, h1, h2, rfl⟩ := h
    exact ⟨p, q, Below.trod hl (ht t (by simp)).1 (ht t (by simp)).2 h1 hb (fun x hx => DataW.TrodAll.lt (ts := [t]) (vs := [v]) (ds := [d]) (ps := p) ⟨p, [], h1, rfl, by simp⟩ x hx), trodAll_stays hl hb (fun t' h' => ht t' (by simp [h'])) h2, rfl⟩
  | [], _ :: _, _, _, _, h => h.elim
  | [], [], _ :: _, _, _, h => h.elim
  | _ :: _, [], _, _, _, h => h.elim
  | _ :: _, _ :: _, [], _, _, h => h.elim

/-- The answer true, all as it was: what a law's specification asks of the call's end. -/
theorem law_post {f : Func} {s : ChangeSpec} {W W' : World} {args : Array Value} {ds gs : List (DataW H)} {before : List MemPlace} {tb : TypeId} (hl : laidOutB P = true) (hr : ∀ t ∈ f.params.toList, P.readableRec t = true ∧ t < P.types.size)
    (hres : f.resultTypes = #[tb]) (htb : P.underlying tb = some .bool) (hv : s.vars = []) (hfn : s.fn H ds = { results := [.lit (.bool true)], args := ds }) (hb : Below W.heap.size W W')
    (hW : DataW.Whole enc P f.params.toList s.vars false W args.toList ds gs before) : s.post enc P f false true false false W args (.bool true) W' := by
  have hW2 := hW
  obtain ⟨p, q, h1, h2, rfl, _, _⟩ := hW
  rw [hv] at h2
  have hgs : gs = [] ∧ q = [] := by
    cases gs with
    | nil => exact ⟨rfl, h2⟩
    | cons g gs => exact h2.elim
  obtain ⟨rfl, rfl⟩ := hgs
  refine ⟨ds, [], p ++ [], [], p, [], hW2, ?_, ?_, ?_, hb.frame _, fun h => by cases h⟩
  · rw [List.append_nil, hfn, hres]
    exact ⟨[], [], ⟨1, by show DataW.trod enc P W' _ _ _ 1 tb [.bool true] = _; simp [DataW.trod, htb]⟩, rfl, rfl⟩
  · rw [List.append_nil, hfn]
    exact trodAll_stays hl hb hr h1
  · rw [List.append_nil, hfn, hv]; exact rfl
end

end Go.Abs

namespace Go.Abs
open Go.RowKit

theorem cells_slice {P : Program} {w : World} {r : Reach} {base : Nat} {t e : TypeId} {v : Value} (ht : P.underlying t = some (.slice e)) (h : Value.okWide P w r base t v) : v.cells.toList = [v] := by
  cases v <;> first | rfl | simp [Value.okWide, ht, Cell.okWide, Cell.ok] at h
theorem cells_int {P : Program} {w : World} {r : Reach} {base : Nat} {t : TypeId} {k : IntKind} {v : Value} (ht : P.underlying t = some (.int k)) (h : Value.okWide P w r base t v) : v.cells.toList = [v] := by
  cases v <;> first | rfl | simp [Value.okWide, ht, Cell.okWide, Cell.ok] at h
theorem cells_bool {P : Program} {w : World} {r : Reach} {base : Nat} {t : TypeId} {v : Value} (ht : P.underlying t = some .bool) (h : Value.okWide P w r base t v) : v.cells.toList = [v] := by
  cases v <;> first | rfl | simp [Value.okWide, ht, Cell.okWide, Cell.ok] at h
theorem cells_string {P : Program} {w : World} {r : Reach} {base : Nat} {t : TypeId} {v : Value} (ht : P.underlying t = some .string) (h : Value.okWide P w r base t v) : v.cells.toList = [v] := by
  cases v <;> first | rfl | simp [Value.okWide, ht, Cell.okWide, Cell.ok] at h

end Go.Abs

namespace Go.Abs
open Go.Proofs

/-- the string tables of the program -/
def glob0 : List ByteArray := [⟨#[111, 110, 111, 102, 102]⟩, ⟨#[108, 101, 118, 101, 108]⟩, ⟨#[108, 111, 99, 107]⟩, ⟨#[116, 104, 101, 114, 109, 111, 115, 116, 97, 116]⟩, ⟨#[115, 109, 111, 107, 101]⟩, ⟨#[108, 101, 97, 107]⟩, ⟨#[118, 97, 108, 118, 101]⟩, ⟨#[109, 101, 116, 101, 114]⟩]
instance : Globals := ⟨fun g => match Nat.beq g 0 with | true => some (glob0.map fun s => .val (.string s)) | false => none⟩

theorem eqt32 (e : Nat) : EqAt Tryd.prog (e + 2) 32 [.int .i64, .str, .str] := EqAt.struct Tryd.underlying32 (by kernel_rfl) (.one 0 _ _ (.int .i64) _ (by decide) rfl Tryd.underlying3 (.one 1 _ _ (.str) _ (by decide) rfl Tryd.underlying9 (.one 2 _ _ (.str) _ (by decide) rfl Tryd.underlying9 (.nil _))))
theorem eqt33 (e : Nat) : EqAt Tryd.prog (e + 2) 33 [.int .i64, .str, .str] := EqAt.struct Tryd.underlying33 (by kernel_rfl) (.one 0 _ _ (.int .i64) _ (by decide) rfl Tryd.underlying3 (.one 1 _ _ (.str) _ (by decide) rfl Tryd.underlying9 (.one 2 _ _ (.str) _ (by decide) rfl Tryd.underlying9 (.nil _))))
theorem eqt34 (e : Nat) : EqAt Tryd.prog (e + 2) 34 [.int .i64, .int .i64, .str] := EqAt.struct Tryd.underlying34 (by kernel_rfl) (.one 0 _ _ (.int .i64) _ (by decide) rfl Tryd.underlying3 (.one 1 _ _ (.int .i64) _ (by decide) rfl Tryd.underlying3 (.one 2 _ _ (.str) _ (by decide) rfl Tryd.underlying9 (.nil _))))
theorem eqt35 (e : Nat) : EqAt Tryd.prog (e + 2) 35 [.int .i64, .int .i64, .str] := EqAt.struct Tryd.underlying35 (by kernel_rfl) (.one 0 _ _ (.int .i64) _ (by decide) rfl Tryd.underlying3 (.one 1 _ _ (.int .i64) _ (by decide) rfl Tryd.underlying3 (.one 2 _ _ (.str) _ (by decide) rfl Tryd.underlying9 (.nil _))))
theorem eqt42 (e : Nat) : EqAt Tryd.prog (e + 3) 42 [.int .i64, .str, .str, .int .i64, .int .i64, .str, .int .i64] := EqAt.struct Tryd.underlying42 (by kernel_rfl) (.many 0 _ _ [.int .i64, .str, .str] _ (by decide) rfl Tryd.t33 _ Tryd.underlying33 (by kernel_rfl) rfl (eqt33 e) (.many 3 _ _ [.int .i64, .int .i64, .str] _ (by decide) rfl Tryd.t35 _ Tryd.underlying35 (by kernel_rfl) rfl (eqt35 e) (.one 6 _ _ (.int .i64) _ (by decide) rfl Tryd.underlying3 (.nil _))))
theorem eqt43 (e : Nat) : EqAt Tryd.prog (e + 3) 43 [.int .i64, .str, .str, .int .i64, .int .i64, .str, .int .i64] := EqAt.struct Tryd.underlying43 (by kernel_rfl) (.many 0 _ _ [.int .i64, .str, .str] _ (by decide) rfl Tryd.t33 _ Tryd.underlying33 (by kernel_rfl) rfl (eqt33 e) (.many 3 _ _ [.int .i64, .int .i64, .str] _ (by decide) rfl Tryd.t35 _ Tryd.underlying35 (by kernel_rfl) rfl (eqt35 e) (.one 6 _ _ (.int .i64) _ (by decide) rfl Tryd.underlying3 (.nil _))))
theorem eqt98 (e : Nat) : EqAt Tryd.prog (e + 2) 98 [.int .i64, .str, .int .i64] := EqAt.struct Tryd.underlying98 (by kernel_rfl) (.one 0 _ _ (.int .i64) _ (by decide) rfl Tryd.underlying3 (.one 1 _ _ (.str) _ (by decide) rfl Tryd.underlying9 (.one 2 _ _ (.int .i64) _ (by decide) rfl Tryd.underlying3 (.nil _))))
theorem eqt99 (e : Nat) : EqAt Tryd.prog (e + 2) 99 [.int .i64, .str, .int .i64] := EqAt.struct Tryd.underlying99 (by kernel_rfl) (.one 0 _ _ (.int .i64) _ (by decide) rfl Tryd.underlying3 (.one 1 _ _ (.str) _ (by decide) rfl Tryd.underlying9 (.one 2 _ _ (.int .i64) _ (by decide) rfl Tryd.underlying3 (.nil _))))

def TYok (t : Nat) (ty : TY) : Prop := Tryd.prog.info? t = some ty.info ∧ Tryd.prog.underlying t = some ty.und ∧ (ty.leaves = [] ∨ EqOK Tryd.prog t ty.leaves)
noncomputable abbrev ty0 : TY := ⟨Tryd.t0, Tryd.t0.desc, []⟩
theorem ok0 : TYok 0 ty0 := ⟨by kernel_rfl, by kernel_rfl, .inl rfl⟩
noncomputable abbrev ty1 : TY := ⟨Tryd.t1, Tryd.t1.desc, []⟩
theorem ok1 : TYok 1 ty1 := ⟨by kernel_rfl, by kernel_rfl, .inl rfl⟩
noncomputable abbrev ty2 : TY := ⟨Tryd.t2, Tryd.t2.desc, []⟩
theorem ok2 : TYok 2 ty2 := ⟨by kernel_rfl, by kernel_rfl, .inl rfl⟩
noncomputable abbrev ty3 : TY := ⟨Tryd.t3, Tryd.t3.desc, []⟩
theorem ok3 : TYok 3 ty3 := ⟨by kernel_rfl, by kernel_rfl, .inl rfl⟩
noncomputable abbrev ty4 : TY := ⟨Tryd.t4, Tryd.t4.desc, []⟩
theorem ok4 : TYok 4 ty4 := ⟨by kernel_rfl, by kernel_rfl, .inl rfl⟩
noncomputable abbrev ty5 : TY := ⟨Tryd.t5, Tryd.t5.desc, []⟩
theorem ok5 : TYok 5 ty5 := ⟨by kernel_rfl, by kernel_rfl, .inl rfl⟩
noncomputable abbrev ty6 : TY := ⟨Tryd.t6, Tryd.t5.desc, []⟩
theorem ok6 : TYok 6 ty6 := ⟨by kernel_rfl, by kernel_rfl, .inl rfl⟩
noncomputable abbrev ty7 : TY := ⟨Tryd.t7, Tryd.t7.desc, []⟩
theorem ok7 : TYok 7 ty7 := ⟨by kernel_rfl, by kernel_rfl, .inl rfl⟩
noncomputable abbrev ty8 : TY := ⟨Tryd.t8, Tryd.t7.desc, []⟩
theorem ok8 : TYok 8 ty8 := ⟨by kernel_rfl, by kernel_rfl, .inl rfl⟩
noncomputable abbrev ty9 : TY := ⟨Tryd.t9, Tryd.t9.desc, []⟩
theorem ok9 : TYok 9 ty9 := ⟨by kernel_rfl, by kernel_rfl, .inl rfl⟩
noncomputable abbrev ty10 : TY := ⟨Tryd.t10, Tryd.t9.desc, []⟩
theorem ok10 : TYok 10 ty10 := ⟨by kernel_rfl, by kernel_rfl, .inl rfl⟩
noncomputable abbrev ty11 : TY := ⟨Tryd.t11, Tryd.t9.desc, []⟩
theorem ok11 : TYok 11 ty11 := ⟨by kernel_rfl, by kernel_rfl, .inl rfl⟩
noncomputable abbrev ty12 : TY := ⟨Tryd.t12, Tryd.t12.desc, []⟩
theorem ok12 : TYok 12 ty12 := ⟨by kernel_rfl, by kernel_rfl, .inl rfl⟩
noncomputable abbrev ty13 : TY := ⟨Tryd.t13, Tryd.t13.desc, []⟩
theorem ok13 : TYok 13 ty13 := ⟨by kernel_rfl, by kernel_rfl, .inl rfl⟩
noncomputable abbrev ty14 : TY := ⟨Tryd.t14, Tryd.t13.desc, []⟩
theorem ok14 : TYok 14 ty14 := ⟨by kernel_rfl, by kernel_rfl, .inl rfl⟩
noncomputable abbrev ty15 : TY := ⟨Tryd.t15, Tryd.t15.desc, []⟩
theorem ok15 : TYok 15 ty15 := ⟨by kernel_rfl, by kernel_rfl, .inl rfl⟩
noncomputable abbrev ty16 : TY := ⟨Tryd.t16, Tryd.t16.desc, []⟩
theorem ok16 : TYok 16 ty16 := ⟨by kernel_rfl, by kernel_rfl, .inl rfl⟩
noncomputable abbrev ty17 : TY := ⟨Tryd.t17, Tryd.t17.desc, []⟩
theorem ok17 : TYok 17 ty17 := ⟨by kernel_rfl, by kernel_rfl, .inl rfl⟩
noncomputable abbrev ty18 : TY := ⟨Tryd.t18, Tryd.t18.desc, []⟩
theorem ok18 : TYok 18 ty18 := ⟨by kernel_rfl, by kernel_rfl, .inl rfl⟩
noncomputable abbrev ty19 : TY := ⟨Tryd.t19, Tryd.t18.desc, []⟩
theorem ok19 : TYok 19 ty19 := ⟨by kernel_rfl, by kernel_rfl, .inl rfl⟩
noncomputable abbrev ty20 : TY := ⟨Tryd.t20, Tryd.t20.desc, []⟩
theorem ok20 : TYok 20 ty20 := ⟨by kernel_rfl, by kernel_rfl, .inl rfl⟩
noncomputable abbrev ty21 : TY := ⟨Tryd.t21, Tryd.t21.desc, []⟩
theorem ok21 : TYok 21 ty21 := ⟨by kernel_rfl, by kernel_rfl, .inl rfl⟩
noncomputable abbrev ty22 : TY := ⟨Tryd.t22, Tryd.t22.desc, []⟩
theorem ok22 : TYok 22 ty22 := ⟨by kernel_rfl, by kernel_rfl, .inl rfl⟩
noncomputable abbrev ty23 : TY := ⟨Tryd.t23, Tryd.t23.desc, []⟩
theorem ok23 : TYok 23 ty23 := ⟨by kernel_rfl, by kernel_rfl, .inl rfl⟩
noncomputable abbrev ty24 : TY := ⟨Tryd.t24, Tryd.t24.desc, []⟩
theorem ok24 : TYok 24 ty24 := ⟨by kernel_rfl, by kernel_rfl, .inl rfl⟩
noncomputable abbrev ty25 : TY := ⟨Tryd.t25, Tryd.t25.desc, []⟩
theorem ok25 : TYok 25 ty25 := ⟨by kernel_rfl, by kernel_rfl, .inl rfl⟩
noncomputable abbrev ty26 : TY := ⟨Tryd.t26, Tryd.t26.desc, []⟩
theorem ok26 : TYok 26 ty26 := ⟨by kernel_rfl, by kernel_rfl, .inl rfl⟩
noncomputable abbrev ty27 : TY := ⟨Tryd.t27, Tryd.t27.desc, []⟩
theorem ok27 : TYok 27 ty27 := ⟨by kernel_rfl, by kernel_rfl, .inl rfl⟩
noncomputable abbrev ty28 : TY := ⟨Tryd.t28, Tryd.t28.desc, []⟩
theorem ok28 : TYok 28 ty28 := ⟨by kernel_rfl, by kernel_rfl, .inl rfl⟩
noncomputable abbrev ty29 : TY := ⟨Tryd.t29, Tryd.t29.desc, []⟩
theorem ok29 : TYok 29 ty29 := ⟨by kernel_rfl, by kernel_rfl, .inl rfl⟩
noncomputable abbrev ty30 : TY := ⟨Tryd.t30, Tryd.t30.desc, []⟩
theorem ok30 : TYok 30 ty30 := ⟨by kernel_rfl, by kernel_rfl, .inl rfl⟩
noncomputable abbrev ty31 : TY := ⟨Tryd.t31, Tryd.t30.desc, []⟩
theorem ok31 : TYok 31 ty31 := ⟨by kernel_rfl, by kernel_rfl, .inl rfl⟩
noncomputable abbrev ty32 : TY := ⟨Tryd.t32, Tryd.t32.desc, [.int .i64, .str, .str]⟩
theorem ok32 : TYok 32 ty32 := ⟨by kernel_rfl, by kernel_rfl, .inr ⟨by kernel_rfl, eqt32 9998⟩⟩
noncomputable abbrev ty33 : TY := ⟨Tryd.t33, Tryd.t32.desc, [.int .i64, .str, .str]⟩
theorem ok33 : TYok 33 ty33 := ⟨by kernel_rfl, by kernel_rfl, .inr ⟨by kernel_rfl, eqt33 9998⟩⟩
noncomputable abbrev ty34 : TY := ⟨Tryd.t34, Tryd.t34.desc, [.int .i64, .int .i64, .str]⟩
theorem ok34 : TYok 34 ty34 := ⟨by kernel_rfl, by kernel_rfl, .inr ⟨by kernel_rfl, eqt34 9998⟩⟩
noncomputable abbrev ty35 : TY := ⟨Tryd.t35, Tryd.t34.desc, [.int .i64, .int .i64, .str]⟩
theorem ok35 : TYok 35 ty35 := ⟨by kernel_rfl, by kernel_rfl, .inr ⟨by kernel_rfl, eqt35 9998⟩⟩
noncomputable abbrev ty36 : TY := ⟨Tryd.t36, Tryd.t36.desc, []⟩
theorem ok36 : TYok 36 ty36 := ⟨by kernel_rfl, by kernel_rfl, .inl rfl⟩
noncomputable abbrev ty37 : TY := ⟨Tryd.t37, Tryd.t36.desc, []⟩
theorem ok37 : TYok 37 ty37 := ⟨by kernel_rfl, by kernel_rfl, .inl rfl⟩
noncomputable abbrev ty38 : TY := ⟨Tryd.t38, Tryd.t38.desc, []⟩
theorem ok38 : TYok 38 ty38 := ⟨by kernel_rfl, by kernel_rfl, .inl rfl⟩
noncomputable abbrev ty39 : TY := ⟨Tryd.t39, Tryd.t3.desc, []⟩
theorem ok39 : TYok 39 ty39 := ⟨by kernel_rfl, by kernel_rfl, .inl rfl⟩
noncomputable abbrev ty40 : TY := ⟨Tryd.t40, Tryd.t40.desc, []⟩
theorem ok40 : TYok 40 ty40 := ⟨by kernel_rfl, by kernel_rfl, .inl rfl⟩
noncomputable abbrev ty41 : TY := ⟨Tryd.t41, Tryd.t41.desc, []⟩
theorem ok41 : TYok 41 ty41 := ⟨by kernel_rfl, by kernel_rfl, .inl rfl⟩
noncomputable abbrev ty42 : TY := ⟨Tryd.t42, Tryd.t42.desc, [.int .i64, .str, .str, .int .i64, .int .i64, .str, .int .i64]⟩
theorem ok42 : TYok 42 ty42 := ⟨by kernel_rfl, by kernel_rfl, .inr ⟨by kernel_rfl, eqt42 9997⟩⟩
noncomputable abbrev ty43 : TY := ⟨Tryd.t43, Tryd.t42.desc, [.int .i64, .str, .str, .int .i64, .int .i64, .str, .int .i64]⟩
theorem ok43 : TYok 43 ty43 := ⟨by kernel_rfl, by kernel_rfl, .inr ⟨by kernel_rfl, eqt43 9997⟩⟩
noncomputable abbrev ty44 : TY := ⟨Tryd.t44, Tryd.t44.desc, []⟩
theorem ok44 : TYok 44 ty44 := ⟨by kernel_rfl, by kernel_rfl, .inl rfl⟩
noncomputable abbrev ty45 : TY := ⟨Tryd.t45, Tryd.t45.desc, []⟩
theorem ok45 : TYok 45 ty45 := ⟨by kernel_rfl, by kernel_rfl, .inl rfl⟩
noncomputable abbrev ty46 : TY := ⟨Tryd.t46, Tryd.t46.desc, []⟩
theorem ok46 : TYok 46 ty46 := ⟨by kernel_rfl, by kernel_rfl, .inl rfl⟩
noncomputable abbrev ty47 : TY := ⟨Tryd.t47, Tryd.t47.desc, []⟩
theorem ok47 : TYok 47 ty47 := ⟨by kernel_rfl, by kernel_rfl, .inl rfl⟩
noncomputable abbrev ty48 : TY := ⟨Tryd.t48, Tryd.t48.desc, []⟩
theorem ok48 : TYok 48 ty48 := ⟨by kernel_rfl, by kernel_rfl, .inl rfl⟩
noncomputable abbrev ty49 : TY := ⟨Tryd.t49, Tryd.t49.desc, []⟩
theorem ok49 : TYok 49 ty49 := ⟨by kernel_rfl, by kernel_rfl, .inl rfl⟩
noncomputable abbrev ty50 : TY := ⟨Tryd.t50, Tryd.t50.desc, []⟩
theorem ok50 : TYok 50 ty50 := ⟨by kernel_rfl, by kernel_rfl, .inl rfl⟩
noncomputable abbrev ty51 : TY := ⟨Tryd.t51, Tryd.t51.desc, []⟩
theorem ok51 : TYok 51 ty51 := ⟨by kernel_rfl, by kernel_rfl, .inl rfl⟩
noncomputable abbrev ty52 : TY := ⟨Tryd.t52, Tryd.t52.desc, []⟩
theorem ok52 : TYok 52 ty52 := ⟨by kernel_rfl, by kernel_rfl, .inl rfl⟩
noncomputable abbrev ty53 : TY := ⟨Tryd.t53, Tryd.t53.desc, []⟩
theorem ok53 : TYok 53 ty53 := ⟨by kernel_rfl, by kernel_rfl, .inl rfl⟩
noncomputable abbrev ty54 : TY := ⟨Tryd.t54, Tryd.t54.desc, []⟩
theorem ok54 : TYok 54 ty54 := ⟨by kernel_rfl, by kernel_rfl, .inl rfl⟩
noncomputable abbrev ty55 : TY := ⟨Tryd.t55, Tryd.t55.desc, []⟩
theorem ok55 : TYok 55 ty55 := ⟨by kernel_rfl, by kernel_rfl, .inl rfl⟩
noncomputable abbrev ty56 : TY := ⟨Tryd.t56, Tryd.t56.desc, []⟩
theorem ok56 : TYok 56 ty56 := ⟨by kernel_rfl, by kernel_rfl, .inl rfl⟩
noncomputable abbrev ty57 : TY := ⟨Tryd.t57, Tryd.t57.desc, []⟩
theorem ok57 : TYok 57 ty57 := ⟨by kernel_rfl, by kernel_rfl, .inl rfl⟩
noncomputable abbrev ty58 : TY := ⟨Tryd.t58, Tryd.t58.desc, []⟩
theorem ok58 : TYok 58 ty58 := ⟨by kernel_rfl, by kernel_rfl, .inl rfl⟩
noncomputable abbrev ty59 : TY := ⟨Tryd.t59, Tryd.t59.desc, []⟩
theorem ok59 : TYok 59 ty59 := ⟨by kernel_rfl, by kernel_rfl, .inl rfl⟩
noncomputable abbrev ty60 : TY := ⟨Tryd.t60, Tryd.t60.desc, []⟩
theorem ok60 : TYok 60 ty60 := ⟨by kernel_rfl, by kernel_rfl, .inl rfl⟩
noncomputable abbrev ty61 : TY := ⟨Tryd.t61, Tryd.t61.desc, []⟩
theorem ok61 : TYok 61 ty61 := ⟨by kernel_rfl, by kernel_rfl, .inl rfl⟩
noncomputable abbrev ty62 : TY := ⟨Tryd.t62, Tryd.t62.desc, []⟩
theorem ok62 : TYok 62 ty62 := ⟨by kernel_rfl, by kernel_rfl, .inl rfl⟩
noncomputable abbrev ty63 : TY := ⟨Tryd.t63, Tryd.t62.desc, []⟩
theorem ok63 : TYok 63 ty63 := ⟨by kernel_rfl, by kernel_rfl, .inl rfl⟩
noncomputable abbrev ty64 : TY := ⟨Tryd.t64, Tryd.t64.desc, []⟩
theorem ok64 : TYok 64 ty64 := ⟨by kernel_rfl, by kernel_rfl, .inl rfl⟩
noncomputable abbrev ty65 : TY := ⟨Tryd.t65, Tryd.t65.desc, []⟩
theorem ok65 : TYok 65 ty65 := ⟨by kernel_rfl, by kernel_rfl, .inl rfl⟩
noncomputable abbrev ty66 : TY := ⟨Tryd.t66, Tryd.t65.desc, []⟩
theorem ok66 : TYok 66 ty66 := ⟨by kernel_rfl, by kernel_rfl, .inl rfl⟩
noncomputable abbrev ty67 : TY := ⟨Tryd.t67, Tryd.t67.desc, []⟩
theorem ok67 : TYok 67 ty67 := ⟨by kernel_rfl, by kernel_rfl, .inl rfl⟩
noncomputable abbrev ty68 : TY := ⟨Tryd.t68, Tryd.t68.desc, []⟩
theorem ok68 : TYok 68 ty68 := ⟨by kernel_rfl, by kernel_rfl, .inl rfl⟩
noncomputable abbrev ty69 : TY := ⟨Tryd.t69, Tryd.t69.desc, []⟩
theorem ok69 : TYok 69 ty69 := ⟨by kernel_rfl, by kernel_rfl, .inl rfl⟩
noncomputable abbrev ty70 : TY := ⟨Tryd.t70, Tryd.t70.desc, []⟩
theorem ok70 : TYok 70 ty70 := ⟨by kernel_rfl, by kernel_rfl, .inl rfl⟩
noncomputable abbrev ty71 : TY := ⟨Tryd.t71, Tryd.t71.desc, []⟩
theorem ok71 : TYok 71 ty71 := ⟨by kernel_rfl, by kernel_rfl, .inl rfl⟩
noncomputable abbrev ty72 : TY := ⟨Tryd.t72, Tryd.t72.desc, []⟩
theorem ok72 : TYok 72 ty72 := ⟨by kernel_rfl, by kernel_rfl, .inl rfl⟩
noncomputable abbrev ty73 : TY := ⟨Tryd.t73, Tryd.t73.desc, []⟩
theorem ok73 : TYok 73 ty73 := ⟨by kernel_rfl, by kernel_rfl, .inl rfl⟩
noncomputable abbrev ty74 : TY := ⟨Tryd.t74, Tryd.t74.desc, []⟩
theorem ok74 : TYok 74 ty74 := ⟨by kernel_rfl, by kernel_rfl, .inl rfl⟩
noncomputable abbrev ty75 : TY := ⟨Tryd.t75, Tryd.t75.desc, []⟩
theorem ok75 : TYok 75 ty75 := ⟨by kernel_rfl, by kernel_rfl, .inl rfl⟩
noncomputable abbrev ty76 : TY := ⟨Tryd.t76, Tryd.t76.desc, []⟩
theorem ok76 : TYok 76 ty76 := ⟨by kernel_rfl, by kernel_rfl, .inl rfl⟩
noncomputable abbrev ty77 : TY := ⟨Tryd.t77, Tryd.t77.desc, []⟩
theorem ok77 : TYok 77 ty77 := ⟨by kernel_rfl, by kernel_rfl, .inl rfl⟩
noncomputable abbrev ty78 : TY := ⟨Tryd.t78, Tryd.t78.desc, []⟩
theorem ok78 : TYok 78 ty78 := ⟨by kernel_rfl, by kernel_rfl, .inl rfl⟩
noncomputable abbrev ty79 : TY := ⟨Tryd.t79, Tryd.t79.desc, []⟩
theorem ok79 : TYok 79 ty79 := ⟨by kernel_rfl, by kernel_rfl, .inl rfl⟩
noncomputable abbrev ty80 : TY := ⟨Tryd.t80, Tryd.t80.desc, []⟩
theorem ok80 : TYok 80 ty80 := ⟨by kernel_rfl, by kernel_rfl, .inl rfl⟩
noncomputable abbrev ty81 : TY := ⟨Tryd.t81, Tryd.t81.desc, []⟩
theorem ok81 : TYok 81 ty81 := ⟨by kernel_rfl, by kernel_rfl, .inl rfl⟩
noncomputable abbrev ty82 : TY := ⟨Tryd.t82, Tryd.t82.desc, []⟩
theorem ok82 : TYok 82 ty82 := ⟨by kernel_rfl, by kernel_rfl, .inl rfl⟩
noncomputable abbrev ty83 : TY := ⟨Tryd.t83, Tryd.t83.desc, []⟩
theorem ok83 : TYok 83 ty83 := ⟨by kernel_rfl, by kernel_rfl, .inl rfl⟩
noncomputable abbrev ty84 : TY := ⟨Tryd.t84, Tryd.t84.desc, []⟩
theorem ok84 : TYok 84 ty84 := ⟨by kernel_rfl, by kernel_rfl, .inl rfl⟩
noncomputable abbrev ty85 : TY := ⟨Tryd.t85, Tryd.t85.desc, []⟩
theorem ok85 : TYok 85 ty85 := ⟨by kernel_rfl, by kernel_rfl, .inl rfl⟩
noncomputable abbrev ty86 : TY := ⟨Tryd.t86, Tryd.t86.desc, []⟩
theorem ok86 : TYok 86 ty86 := ⟨by kernel_rfl, by kernel_rfl, .inl rfl⟩
noncomputable abbrev ty87 : TY := ⟨Tryd.t87, Tryd.t87.desc, []⟩
theorem ok87 : TYok 87 ty87 := ⟨by kernel_rfl, by kernel_rfl, .inl rfl⟩
noncomputable abbrev ty88 : TY := ⟨Tryd.t88, Tryd.t88.desc, []⟩
theorem ok88 : TYok 88 ty88 := ⟨by kernel_rfl, by kernel_rfl, .inl rfl⟩
noncomputable abbrev ty89 : TY := ⟨Tryd.t89, Tryd.t89.desc, []⟩
theorem ok89 : TYok 89 ty89 := ⟨by kernel_rfl, by kernel_rfl, .inl rfl⟩
noncomputable abbrev ty90 : TY := ⟨Tryd.t90, Tryd.t90.desc, []⟩
theorem ok90 : TYok 90 ty90 := ⟨by kernel_rfl, by kernel_rfl, .inl rfl⟩
noncomputable abbrev ty91 : TY := ⟨Tryd.t91, Tryd.t91.desc, []⟩
theorem ok91 : TYok 91 ty91 := ⟨by kernel_rfl, by kernel_rfl, .inl rfl⟩
noncomputable abbrev ty92 : TY := ⟨Tryd.t92, Tryd.t91.desc, []⟩
theorem ok92 : TYok 92 ty92 := ⟨by kernel_rfl, by kernel_rfl, .inl rfl⟩
noncomputable abbrev ty93 : TY := ⟨Tryd.t93, Tryd.t93.desc, []⟩
theorem ok93 : TYok 93 ty93 := ⟨by kernel_rfl, by kernel_rfl, .inl rfl⟩
noncomputable abbrev ty94 : TY := ⟨Tryd.t94, Tryd.t94.desc, []⟩
theorem ok94 : TYok 94 ty94 := ⟨by kernel_rfl, by kernel_rfl, .inl rfl⟩
noncomputable abbrev ty95 : TY := ⟨Tryd.t95, Tryd.t95.desc, []⟩
theorem ok95 : TYok 95 ty95 := ⟨by kernel_rfl, by kernel_rfl, .inl rfl⟩
noncomputable abbrev ty96 : TY := ⟨Tryd.t96, Tryd.t95.desc, []⟩
theorem ok96 : TYok 96 ty96 := ⟨by kernel_rfl, by kernel_rfl, .inl rfl⟩
noncomputable abbrev ty97 : TY := ⟨Tryd.t97, Tryd.t97.desc, []⟩
theorem ok97 : TYok 97 ty97 := ⟨by kernel_rfl, by kernel_rfl, .inl rfl⟩
noncomputable abbrev ty98 : TY := ⟨Tryd.t98, Tryd.t98.desc, [.int .i64, .str, .int .i64]⟩
theorem ok98 : TYok 98 ty98 := ⟨by kernel_rfl, by kernel_rfl, .inr ⟨by kernel_rfl, eqt98 9998⟩⟩
noncomputable abbrev ty99 : TY := ⟨Tryd.t99, Tryd.t98.desc, [.int .i64, .str, .int .i64]⟩
theorem ok99 : TYok 99 ty99 := ⟨by kernel_rfl, by kernel_rfl, .inr ⟨by kernel_rfl, eqt99 9998⟩⟩
noncomputable abbrev ty100 : TY := ⟨Tryd.t100, Tryd.t100.desc, []⟩
theorem ok100 : TYok 100 ty100 := ⟨by kernel_rfl, by kernel_rfl, .inl rfl⟩
noncomputable abbrev ty101 : TY := ⟨Tryd.t101, Tryd.t101.desc, []⟩
theorem ok101 : TYok 101 ty101 := ⟨by kernel_rfl, by kernel_rfl, .inl rfl⟩
noncomputable abbrev ty102 : TY := ⟨Tryd.t102, Tryd.t102.desc, []⟩
theorem ok102 : TYok 102 ty102 := ⟨by kernel_rfl, by kernel_rfl, .inl rfl⟩
noncomputable abbrev ty103 : TY := ⟨Tryd.t103, Tryd.t103.desc, []⟩
theorem ok103 : TYok 103 ty103 := ⟨by kernel_rfl, by kernel_rfl, .inl rfl⟩
noncomputable abbrev ty104 : TY := ⟨Tryd.t104, Tryd.t104.desc, []⟩
theorem ok104 : TYok 104 ty104 := ⟨by kernel_rfl, by kernel_rfl, .inl rfl⟩
noncomputable abbrev ty105 : TY := ⟨Tryd.t105, Tryd.t105.desc, []⟩
theorem ok105 : TYok 105 ty105 := ⟨by kernel_rfl, by kernel_rfl, .inl rfl⟩
noncomputable abbrev ty106 : TY := ⟨Tryd.t106, Tryd.t106.desc, []⟩
theorem ok106 : TYok 106 ty106 := ⟨by kernel_rfl, by kernel_rfl, .inl rfl⟩
noncomputable abbrev ty107 : TY := ⟨Tryd.t107, Tryd.t107.desc, []⟩
theorem ok107 : TYok 107 ty107 := ⟨by kernel_rfl, by kernel_rfl, .inl rfl⟩
noncomputable abbrev ty108 : TY := ⟨Tryd.t108, Tryd.t108.desc, []⟩
theorem ok108 : TYok 108 ty108 := ⟨by kernel_rfl, by kernel_rfl, .inl rfl⟩
noncomputable abbrev ty109 : TY := ⟨Tryd.t109, Tryd.t3.desc, []⟩
theorem ok109 : TYok 109 ty109 := ⟨by kernel_rfl, by kernel_rfl, .inl rfl⟩
noncomputable abbrev ty110 : TY := ⟨Tryd.t110, Tryd.t110.desc, []⟩
theorem ok110 : TYok 110 ty110 := ⟨by kernel_rfl, by kernel_rfl, .inl rfl⟩
noncomputable abbrev ty111 : TY := ⟨Tryd.t111, Tryd.t111.desc, []⟩
theorem ok111 : TYok 111 ty111 := ⟨by kernel_rfl, by kernel_rfl, .inl rfl⟩
noncomputable abbrev ty112 : TY := ⟨Tryd.t112, Tryd.t112.desc, []⟩
theorem ok112 : TYok 112 ty112 := ⟨by kernel_rfl, by kernel_rfl, .inl rfl⟩
noncomputable abbrev ty113 : TY := ⟨Tryd.t113, Tryd.t113.desc, []⟩
theorem ok113 : TYok 113 ty113 := ⟨by kernel_rfl, by kernel_rfl, .inl rfl⟩
noncomputable abbrev ty114 : TY := ⟨Tryd.t114, Tryd.t114.desc, []⟩
theorem ok114 : TYok 114 ty114 := ⟨by kernel_rfl, by kernel_rfl, .inl rfl⟩
noncomputable abbrev ty115 : TY := ⟨Tryd.t115, Tryd.t115.desc, []⟩
theorem ok115 : TYok 115 ty115 := ⟨by kernel_rfl, by kernel_rfl, .inl rfl⟩
noncomputable abbrev ty116 : TY := ⟨Tryd.t116, Tryd.t116.desc, []⟩
theorem ok116 : TYok 116 ty116 := ⟨by kernel_rfl, by kernel_rfl, .inl rfl⟩
noncomputable abbrev ty117 : TY := ⟨Tryd.t117, Tryd.t117.desc, []⟩
theorem ok117 : TYok 117 ty117 := ⟨by kernel_rfl, by kernel_rfl, .inl rfl⟩
noncomputable abbrev ty118 : TY := ⟨Tryd.t118, Tryd.t118.desc, []⟩
theorem ok118 : TYok 118 ty118 := ⟨by kernel_rfl, by kernel_rfl, .inl rfl⟩
noncomputable abbrev ty119 : TY := ⟨Tryd.t119, Tryd.t119.desc, []⟩
theorem ok119 : TYok 119 ty119 := ⟨by kernel_rfl, by kernel_rfl, .inl rfl⟩
noncomputable abbrev ty120 : TY := ⟨Tryd.t120, Tryd.t120.desc, []⟩
theorem ok120 : TYok 120 ty120 := ⟨by kernel_rfl, by kernel_rfl, .inl rfl⟩
noncomputable abbrev ty121 : TY := ⟨Tryd.t121, Tryd.t121.desc, []⟩
theorem ok121 : TYok 121 ty121 := ⟨by kernel_rfl, by kernel_rfl, .inl rfl⟩
noncomputable abbrev ty122 : TY := ⟨Tryd.t122, Tryd.t122.desc, []⟩
theorem ok122 : TYok 122 ty122 := ⟨by kernel_rfl, by kernel_rfl, .inl rfl⟩
noncomputable abbrev ty123 : TY := ⟨Tryd.t123, Tryd.t123.desc, []⟩
theorem ok123 : TYok 123 ty123 := ⟨by kernel_rfl, by kernel_rfl, .inl rfl⟩
noncomputable abbrev ty124 : TY := ⟨Tryd.t124, Tryd.t124.desc, []⟩
theorem ok124 : TYok 124 ty124 := ⟨by kernel_rfl, by kernel_rfl, .inl rfl⟩
noncomputable abbrev ty125 : TY := ⟨Tryd.t125, Tryd.t125.desc, []⟩
theorem ok125 : TYok 125 ty125 := ⟨by kernel_rfl, by kernel_rfl, .inl rfl⟩
noncomputable abbrev ty126 : TY := ⟨Tryd.t126, Tryd.t126.desc, []⟩
theorem ok126 : TYok 126 ty126 := ⟨by kernel_rfl, by kernel_rfl, .inl rfl⟩
noncomputable abbrev ty127 : TY := ⟨Tryd.t127, Tryd.t127.desc, []⟩
theorem ok127 : TYok 127 ty127 := ⟨by kernel_rfl, by kernel_rfl, .inl rfl⟩
noncomputable abbrev ty128 : TY := ⟨Tryd.t128, Tryd.t61.desc, []⟩
theorem ok128 : TYok 128 ty128 := ⟨by kernel_rfl, by kernel_rfl, .inl rfl⟩
noncomputable abbrev ty129 : TY := ⟨Tryd.t129, Tryd.t129.desc, []⟩
theorem ok129 : TYok 129 ty129 := ⟨by kernel_rfl, by kernel_rfl, .inl rfl⟩
noncomputable abbrev ty130 : TY := ⟨Tryd.t130, Tryd.t130.desc, []⟩
theorem ok130 : TYok 130 ty130 := ⟨by kernel_rfl, by kernel_rfl, .inl rfl⟩
noncomputable abbrev ty131 : TY := ⟨Tryd.t131, Tryd.t131.desc, []⟩
theorem ok131 : TYok 131 ty131 := ⟨by kernel_rfl, by kernel_rfl, .inl rfl⟩
noncomputable abbrev ty132 : TY := ⟨Tryd.t132, Tryd.t132.desc, []⟩
theorem ok132 : TYok 132 ty132 := ⟨by kernel_rfl, by kernel_rfl, .inl rfl⟩
noncomputable abbrev ty133 : TY := ⟨Tryd.t133, Tryd.t133.desc, []⟩
theorem ok133 : TYok 133 ty133 := ⟨by kernel_rfl, by kernel_rfl, .inl rfl⟩
noncomputable abbrev ty134 : TY := ⟨Tryd.t134, Tryd.t134.desc, []⟩
theorem ok134 : TYok 134 ty134 := ⟨by kernel_rfl, by kernel_rfl, .inl rfl⟩
noncomputable abbrev ty135 : TY := ⟨Tryd.t135, Tryd.t135.desc, []⟩
theorem ok135 : TYok 135 ty135 := ⟨by kernel_rfl, by kernel_rfl, .inl rfl⟩
noncomputable abbrev ty136 : TY := ⟨Tryd.t136, Tryd.t136.desc, []⟩
theorem ok136 : TYok 136 ty136 := ⟨by kernel_rfl, by kernel_rfl, .inl rfl⟩
noncomputable abbrev ty137 : TY := ⟨Tryd.t137, Tryd.t137.desc, []⟩
theorem ok137 : TYok 137 ty137 := ⟨by kernel_rfl, by kernel_rfl, .inl rfl⟩
noncomputable abbrev ty138 : TY := ⟨Tryd.t138, Tryd.t138.desc, []⟩
theorem ok138 : TYok 138 ty138 := ⟨by kernel_rfl, by kernel_rfl, .inl rfl⟩
noncomputable abbrev ty139 : TY := ⟨Tryd.t139, Tryd.t139.desc, []⟩
theorem ok139 : TYok 139 ty139 := ⟨by kernel_rfl, by kernel_rfl, .inl rfl⟩
noncomputable abbrev ty140 : TY := ⟨Tryd.t140, Tryd.t140.desc, []⟩
theorem ok140 : TYok 140 ty140 := ⟨by kernel_rfl, by kernel_rfl, .inl rfl⟩
noncomputable abbrev ty141 : TY := ⟨Tryd.t141, Tryd.t141.desc, []⟩
theorem ok141 : TYok 141 ty141 := ⟨by kernel_rfl, by kernel_rfl, .inl rfl⟩
noncomputable abbrev ty142 : TY := ⟨Tryd.t142, Tryd.t142.desc, []⟩
theorem ok142 : TYok 142 ty142 := ⟨by kernel_rfl, by kernel_rfl, .inl rfl⟩
noncomputable abbrev ty143 : TY := ⟨Tryd.t143, Tryd.t143.desc, []⟩
theorem ok143 : TYok 143 ty143 := ⟨by kernel_rfl, by kernel_rfl, .inl rfl⟩
noncomputable abbrev ty144 : TY := ⟨Tryd.t144, Tryd.t144.desc, []⟩
theorem ok144 : TYok 144 ty144 := ⟨by kernel_rfl, by kernel_rfl, .inl rfl⟩
noncomputable abbrev ty145 : TY := ⟨Tryd.t145, Tryd.t144.desc, []⟩
theorem ok145 : TYok 145 ty145 := ⟨by kernel_rfl, by kernel_rfl, .inl rfl⟩
noncomputable abbrev ty146 : TY := ⟨Tryd.t146, Tryd.t146.desc, []⟩
theorem ok146 : TYok 146 ty146 := ⟨by kernel_rfl, by kernel_rfl, .inl rfl⟩
noncomputable abbrev ty147 : TY := ⟨Tryd.t147, Tryd.t147.desc, []⟩
theorem ok147 : TYok 147 ty147 := ⟨by kernel_rfl, by kernel_rfl, .inl rfl⟩
noncomputable abbrev ty148 : TY := ⟨Tryd.t148, Tryd.t147.desc, []⟩
theorem ok148 : TYok 148 ty148 := ⟨by kernel_rfl, by kernel_rfl, .inl rfl⟩
noncomputable abbrev ty149 : TY := ⟨Tryd.t149, Tryd.t149.desc, []⟩
theorem ok149 : TYok 149 ty149 := ⟨by kernel_rfl, by kernel_rfl, .inl rfl⟩
noncomputable abbrev ty150 : TY := ⟨Tryd.t150, Tryd.t5.desc, []⟩
theorem ok150 : TYok 150 ty150 := ⟨by kernel_rfl, by kernel_rfl, .inl rfl⟩
noncomputable abbrev ty151 : TY := ⟨Tryd.t151, Tryd.t5.desc, []⟩
theorem ok151 : TYok 151 ty151 := ⟨by kernel_rfl, by kernel_rfl, .inl rfl⟩
noncomputable abbrev ty152 : TY := ⟨Tryd.t152, Tryd.t152.desc, []⟩
theorem ok152 : TYok 152 ty152 := ⟨by kernel_rfl, by kernel_rfl, .inl rfl⟩
noncomputable abbrev ty153 : TY := ⟨Tryd.t153, Tryd.t153.desc, []⟩
theorem ok153 : TYok 153 ty153 := ⟨by kernel_rfl, by kernel_rfl, .inl rfl⟩
noncomputable abbrev ty154 : TY := ⟨Tryd.t154, Tryd.t21.desc, []⟩
theorem ok154 : TYok 154 ty154 := ⟨by kernel_rfl, by kernel_rfl, .inl rfl⟩
noncomputable abbrev ty155 : TY := ⟨Tryd.t155, Tryd.t21.desc, []⟩
theorem ok155 : TYok 155 ty155 := ⟨by kernel_rfl, by kernel_rfl, .inl rfl⟩
noncomputable abbrev ty156 : TY := ⟨Tryd.t156, Tryd.t156.desc, []⟩
theorem ok156 : TYok 156 ty156 := ⟨by kernel_rfl, by kernel_rfl, .inl rfl⟩
noncomputable abbrev ty157 : TY := ⟨Tryd.t157, Tryd.t156.desc, []⟩
theorem ok157 : TYok 157 ty157 := ⟨by kernel_rfl, by kernel_rfl, .inl rfl⟩
noncomputable abbrev ty158 : TY := ⟨Tryd.t158, Tryd.t158.desc, []⟩
theorem ok158 : TYok 158 ty158 := ⟨by kernel_rfl, by kernel_rfl, .inl rfl⟩
noncomputable def tab : TT := (.node (.node (.node (.node (.node (.node (.node (.node .leaf none (.node .leaf (some ty128) .leaf)) none (.node .leaf (some ty64) .leaf)) none (.node .leaf (some ty32) (.node .leaf (some ty96) .leaf))) none (.node (.node (.node .leaf none (.node .leaf (some ty144) .leaf)) none (.node .leaf (some ty80) .leaf)) (some ty16) (.node .leaf (some ty48) (.node .leaf (some ty112) .leaf)))) none (.node (.node (.node (.node .leaf none (.node .leaf (some ty136) .leaf)) none (.node .leaf (some ty72) .leaf)) none (.node .leaf (some ty40) (.node .leaf (some ty104) .leaf))) (some ty8) (.node (.node (.node .leaf none (.node .leaf (some ty152) .leaf)) none (.node .leaf (some ty88) .leaf)) (some ty24) (.node .leaf (some ty56) (.node .leaf (some ty120) .leaf))))) none (.node (.node (.node (.node (.node .leaf none (.node .leaf (some ty132) .leaf)) none (.node .leaf (some ty68) .leaf)) none (.node .leaf (some ty36) (.node .leaf (some ty100) .leaf))) none (.node (.node (.node .leaf none (.node .leaf (some ty148) .leaf)) none (.node .leaf (some ty84) .leaf)) (some ty20) (.node .leaf (some ty52) (.node .leaf (some ty116) .leaf)))) (some ty4) (.node (.node (.node (.node .leaf none (.node .leaf (some ty140) .leaf)) none (.node .leaf (some ty76) .leaf)) none (.node .leaf (some ty44) (.node .leaf (some ty108) .leaf))) (some ty12) (.node (.node (.node .leaf none (.node .leaf (some ty156) .leaf)) none (.node .leaf (some ty92) .leaf)) (some ty28) (.node .leaf (some ty60) (.node .leaf (some ty124) .leaf)))))) none (.node (.node (.node (.node (.node (.node .leaf none (.node .leaf (some ty130) .leaf)) none (.node .leaf (some ty66) .leaf)) none (.node .leaf (some ty34) (.node .leaf (some ty98) .leaf))) none (.node (.node (.node .leaf none (.node .leaf (some ty146) .leaf)) none (.node .leaf (some ty82) .leaf)) (some ty18) (.node .leaf (some ty50) (.node .leaf (some ty114) .leaf)))) none (.node (.node (.node (.node .leaf none (.node .leaf (some ty138) .leaf)) none (.node .leaf (some ty74) .leaf)) none (.node .leaf (some ty42) (.node .leaf (some ty106) .leaf))) (some ty10) (.node (.node (.node .leaf none (.node .leaf (some ty154) .leaf)) none (.node .leaf (some ty90) .leaf)) (some ty26) (.node .leaf (some ty58) (.node .leaf (some ty122) .leaf))))) (some ty2) (.node (.node (.node (.node (.node .leaf none (.node .leaf (some ty134) .leaf)) none (.node .leaf (some ty70) .leaf)) none (.node .leaf (some ty38) (.node .leaf (some ty102) .leaf))) none (.node (.node (.node .leaf none (.node .leaf (some ty150) .leaf)) none (.node .leaf (some ty86) .leaf)) (some ty22) (.node .leaf (some ty54) (.node .leaf (some ty118) .leaf)))) (some ty6) (.node (.node (.node (.node .leaf none (.node .leaf (some ty142) .leaf)) none (.node .leaf (some ty78) .leaf)) none (.node .leaf (some ty46) (.node .leaf (some ty110) .leaf))) (some ty14) (.node (.node (.node .leaf none (.node .leaf (some ty158) .leaf)) none (.node .leaf (some ty94) .leaf)) (some ty30) (.node .leaf (some ty62) (.node .leaf (some ty126) .leaf))))))) (some ty0) (.node (.node (.node (.node (.node (.node (.node .leaf none (.node .leaf (some ty129) .leaf)) none (.node .leaf (some ty65) .leaf)) none (.node .leaf (some ty33) (.node .leaf (some ty97) .leaf))) none (.node (.node (.node .leaf none (.node .leaf (some ty145) .leaf)) none (.node .leaf (some ty81) .leaf)) (some ty17) (.node .leaf (some ty49) (.node .leaf (some ty113) .leaf)))) none (.node (.node (.node (.node .leaf none (.node .leaf (some ty137) .leaf)) none (.node .leaf (some ty73) .leaf)) none (.node .leaf (some ty41) (.node .leaf (some ty105) .leaf))) (some ty9) (.node (.node (.node .leaf none (.node .leaf (some ty153) .leaf)) none (.node .leaf (some ty89) .leaf)) (some ty25) (.node .leaf (some ty57) (.node .leaf (some ty121) .leaf))))) none (.node (.node (.node (.node (.node .leaf none (.node .leaf (some ty133) .leaf)) none (.node .leaf (some ty69) .leaf)) none (.node .leaf (some ty37) (.node .leaf (some ty101) .leaf))) none (.node (.node (.node .leaf none (.node .leaf (some ty149) .leaf)) none (.node .leaf (some ty85) .leaf)) (some ty21) (.node .leaf (some ty53) (.node .leaf (some ty117) .leaf)))) (some ty5) (.node (.node (.node (.node .leaf none (.node .leaf (some ty141) .leaf)) none (.node .leaf (some ty77) .leaf)) none (.node .leaf (some ty45) (.node .leaf (some ty109) .leaf))) (some ty13) (.node (.node (.node .leaf none (.node .leaf (some ty157) .leaf)) none (.node .leaf (some ty93) .leaf)) (some ty29) (.node .leaf (some ty61) (.node .leaf (some ty125) .leaf)))))) (some ty1) (.node (.node (.node (.node (.node (.node .leaf none (.node .leaf (some ty131) .leaf)) none (.node .leaf (some ty67) .leaf)) none (.node .leaf (some ty35) (.node .leaf (some ty99) .leaf))) none (.node (.node (.node .leaf none (.node .leaf (some ty147) .leaf)) none (.node .leaf (some ty83) .leaf)) (some ty19) (.node .leaf (some ty51) (.node .leaf (some ty115) .leaf)))) none (.node (.node (.node (.node .leaf none (.node .leaf (some ty139) .leaf)) none (.node .leaf (some ty75) .leaf)) none (.node .leaf (some ty43) (.node .leaf (some ty107) .leaf))) (some ty11) (.node (.node (.node .leaf none (.node .leaf (some ty155) .leaf)) none (.node .leaf (some ty91) .leaf)) (some ty27) (.node .leaf (some ty59) (.node .leaf (some ty123) .leaf))))) (some ty3) (.node (.node (.node (.node (.node .leaf none (.node .leaf (some ty135) .leaf)) none (.node .leaf (some ty71) .leaf)) none (.node .leaf (some ty39) (.node .leaf (some ty103) .leaf))) none (.node (.node (.node .leaf none (.node .leaf (some ty151) .leaf)) none (.node .leaf (some ty87) .leaf)) (some ty23) (.node .leaf (some ty55) (.node .leaf (some ty119) .leaf)))) (some ty7) (.node (.node (.node (.node .leaf none (.node .leaf (some ty143) .leaf)) none (.node .leaf (some ty79) .leaf)) none (.node .leaf (some ty47) (.node .leaf (some ty111) .leaf))) (some ty15) (.node (.node .leaf none (.node .leaf (some ty95) .leaf)) (some ty31) (.node .leaf (some ty63) (.node .leaf (some ty127) .leaf))))))))
noncomputable def T : Tab := fun t => TT.get 20 tab t
theorem T_ok : T.ok Tryd.prog := fun _ _ h => by
  have := TT.all_get (p := TYok) (m := 1) (b := 0) (t := tab) ⟨ok0, ⟨trivial, ⟨trivial, ⟨trivial, ⟨trivial, ⟨trivial, ⟨trivial, ⟨trivial, trivial, ⟨ok128, trivial, trivial⟩⟩, ⟨ok64, trivial, trivial⟩⟩, ⟨ok32, trivial, ⟨ok96, trivial, trivial⟩⟩⟩, ⟨ok16, ⟨trivial, ⟨trivial, trivial, ⟨ok144, trivial, trivial⟩⟩, ⟨ok80, trivial, trivial⟩⟩, ⟨ok48, trivial, ⟨ok112, trivial, trivial⟩⟩⟩⟩, ⟨ok8, ⟨trivial, ⟨trivial, ⟨trivial, trivial, ⟨ok136, trivial, trivial⟩⟩, ⟨ok72, trivial, trivial⟩⟩, ⟨ok40, trivial, ⟨ok104, trivial, trivial⟩⟩⟩, ⟨ok24, ⟨trivial, ⟨trivial, trivial, ⟨ok152, trivial, trivial⟩⟩, ⟨ok88, trivial, trivial⟩⟩, ⟨ok56, trivial, ⟨ok120, trivial, trivial⟩⟩⟩⟩⟩, ⟨ok4, ⟨trivial, ⟨trivial, ⟨trivial, ⟨trivial, trivial, ⟨ok132, trivial, trivial⟩⟩, ⟨ok68, trivial, trivial⟩⟩, ⟨ok36, trivial, ⟨ok100, trivial, trivial⟩⟩⟩, ⟨ok20, ⟨trivial, ⟨trivial, trivial, ⟨ok148, trivial, trivial⟩⟩, ⟨ok84, trivial, trivial⟩⟩, ⟨ok52, trivial, ⟨ok116, trivial, trivial⟩⟩⟩⟩, ⟨ok12, ⟨trivial, ⟨trivial, ⟨trivial, trivial, ⟨ok140, trivial, trivial⟩⟩, ⟨ok76, trivial, trivial⟩⟩, ⟨ok44, trivial, ⟨ok108, trivial, trivial⟩⟩⟩, ⟨ok28, ⟨trivial, ⟨trivial, trivial, ⟨ok156, trivial, trivial⟩⟩, ⟨ok92, trivial, trivial⟩⟩, ⟨ok60, trivial, ⟨ok124, trivial, trivial⟩⟩⟩⟩⟩⟩, ⟨ok2, ⟨trivial, ⟨trivial, ⟨trivial, ⟨trivial, ⟨trivial, trivial, ⟨ok130, trivial, trivial⟩⟩, ⟨ok66, trivial, trivial⟩⟩, ⟨ok34, trivial, ⟨ok98, trivial, trivial⟩⟩⟩, ⟨ok18, ⟨trivial, ⟨trivial, trivial, ⟨ok146, trivial, trivial⟩⟩, ⟨ok82, trivial, trivial⟩⟩, ⟨ok50, trivial, ⟨ok114, trivial, trivial⟩⟩⟩⟩, ⟨ok10, ⟨trivial, ⟨trivial, ⟨trivial, trivial, ⟨ok138, trivial, trivial⟩⟩, ⟨ok74, trivial, trivial⟩⟩, ⟨ok42, trivial, ⟨ok106, trivial, trivial⟩⟩⟩, ⟨ok26, ⟨trivial, ⟨trivial, trivial, ⟨ok154, trivial, trivial⟩⟩, ⟨ok90, trivial, trivial⟩⟩, ⟨ok58, trivial, ⟨ok122, trivial, trivial⟩⟩⟩⟩⟩, ⟨ok6, ⟨trivial, ⟨trivial, ⟨trivial, ⟨trivial, trivial, ⟨ok134, trivial, trivial⟩⟩, ⟨ok70, trivial, trivial⟩⟩, ⟨ok38, trivial, ⟨ok102, trivial, trivial⟩⟩⟩, ⟨ok22, ⟨trivial, ⟨trivial, trivial, ⟨ok150, trivial, trivial⟩⟩, ⟨ok86, trivial, trivial⟩⟩, ⟨ok54, trivial, ⟨ok118, trivial, trivial⟩⟩⟩⟩, ⟨ok14, ⟨trivial, ⟨trivial, ⟨trivial, trivial, ⟨ok142, trivial, trivial⟩⟩, ⟨ok78, trivial, trivial⟩⟩, ⟨ok46, trivial, ⟨ok110, trivial, trivial⟩⟩⟩, ⟨ok30, ⟨trivial, ⟨trivial, trivial, ⟨ok158, trivial, trivial⟩⟩, ⟨ok94, trivial, trivial⟩⟩, ⟨ok62, trivial, ⟨ok126, trivial, trivial⟩⟩⟩⟩⟩⟩⟩, ⟨ok1, ⟨trivial, ⟨trivial, ⟨trivial, ⟨trivial, ⟨trivial, ⟨trivial, trivial, ⟨ok129, trivial, trivial⟩⟩, ⟨ok65, trivial, trivial⟩⟩, ⟨ok33, trivial, ⟨ok97, trivial, trivial⟩⟩⟩, ⟨ok17, ⟨trivial, ⟨trivial, trivial, ⟨ok145, trivial, trivial⟩⟩, ⟨ok81, trivial, trivial⟩⟩, ⟨ok49, trivial, ⟨ok113, trivial, trivial⟩⟩⟩⟩, ⟨ok9, ⟨trivial, ⟨trivial, ⟨trivial, trivial, ⟨ok137, trivial, trivial⟩⟩, ⟨ok73, trivial, trivial⟩⟩, ⟨ok41, trivial, ⟨ok105, trivial, trivial⟩⟩⟩, ⟨ok25, ⟨trivial, ⟨trivial, trivial, ⟨ok153, trivial, trivial⟩⟩, ⟨ok89, trivial, trivial⟩⟩, ⟨ok57, trivial, ⟨ok121, trivial, trivial⟩⟩⟩⟩⟩, ⟨ok5, ⟨trivial, ⟨trivial, ⟨trivial, ⟨trivial, trivial, ⟨ok133, trivial, trivial⟩⟩, ⟨ok69, trivial, trivial⟩⟩, ⟨ok37, trivial, ⟨ok101, trivial, trivial⟩⟩⟩, ⟨ok21, ⟨trivial, ⟨trivial, trivial, ⟨ok149, trivial, trivial⟩⟩, ⟨ok85, trivial, trivial⟩⟩, ⟨ok53, trivial, ⟨ok117, trivial, trivial⟩⟩⟩⟩, ⟨ok13, ⟨trivial, ⟨trivial, ⟨trivial, trivial, ⟨ok141, trivial, trivial⟩⟩, ⟨ok77, trivial, trivial⟩⟩, ⟨ok45, trivial, ⟨ok109, trivial, trivial⟩⟩⟩, ⟨ok29, ⟨trivial, ⟨trivial, trivial, ⟨ok157, trivial, trivial⟩⟩, ⟨ok93, trivial, trivial⟩⟩, ⟨ok61, trivial, ⟨ok125, trivial, trivial⟩⟩⟩⟩⟩⟩, ⟨ok3, ⟨trivial, ⟨trivial, ⟨trivial, ⟨trivial, ⟨trivial, trivial, ⟨ok131, trivial, trivial⟩⟩, ⟨ok67, trivial, trivial⟩⟩, ⟨ok35, trivial, ⟨ok99, trivial, trivial⟩⟩⟩, ⟨ok19, ⟨trivial, ⟨trivial, trivial, ⟨ok147, trivial, trivial⟩⟩, ⟨ok83, trivial, trivial⟩⟩, ⟨ok51, trivial, ⟨ok115, trivial, trivial⟩⟩⟩⟩, ⟨ok11, ⟨trivial, ⟨trivial, ⟨trivial, trivial, ⟨ok139, trivial, trivial⟩⟩, ⟨ok75, trivial, trivial⟩⟩, ⟨ok43, trivial, ⟨ok107, trivial, trivial⟩⟩⟩, ⟨ok27, ⟨trivial, ⟨trivial, trivial, ⟨ok155, trivial, trivial⟩⟩, ⟨ok91, trivial, trivial⟩⟩, ⟨ok59, trivial, ⟨ok123, trivial, trivial⟩⟩⟩⟩⟩, ⟨ok7, ⟨trivial, ⟨trivial, ⟨trivial, ⟨trivial, trivial, ⟨ok135, trivial, trivial⟩⟩, ⟨ok71, trivial, trivial⟩⟩, ⟨ok39, trivial, ⟨ok103, trivial, trivial⟩⟩⟩, ⟨ok23, ⟨trivial, ⟨trivial, trivial, ⟨ok151, trivial, trivial⟩⟩, ⟨ok87, trivial, trivial⟩⟩, ⟨ok55, trivial, ⟨ok119, trivial, trivial⟩⟩⟩⟩, ⟨ok15, ⟨trivial, ⟨trivial, ⟨trivial, trivial, ⟨ok143, trivial, trivial⟩⟩, ⟨ok79, trivial, trivial⟩⟩, ⟨ok47, trivial, ⟨ok111, trivial, trivial⟩⟩⟩, ⟨ok31, ⟨trivial, trivial, ⟨ok95, trivial, trivial⟩⟩, ⟨ok63, trivial, ⟨ok127, trivial, trivial⟩⟩⟩⟩⟩⟩⟩⟩ h
  have h2 := this; simp at h2; exact h2
end Go.Abs

namespace Go.Abs
variable [Globals]

structure Val where
  kind : Int
  n : Int
  s : ByteArray
  deriving Inhabited, DecidableEq
structure Attr where
  name : ByteArray
  kind : Int
  min : Int
  max : Int
  enum : List ByteArray
  writable : Bool
  safety : Bool
  deriving Inhabited, DecidableEq
structure Eff where
  kind : Int
  attr : ByteArray
  n : Int
  deriving Inhabited, DecidableEq
structure Cmd where
  name : ByteArray
  param : Attr
  effects : List Eff
  deriving Inhabited, DecidableEq
structure Clu where
  name : ByteArray
  attrs : List Attr
  commands : List Cmd
  events : List ByteArray
  deriving Inhabited, DecidableEq
structure Dev where
  id : Int
  eui : Int
  vendor : Int
  sleepy : Bool
  poll : Int
  room : ByteArray
  clusters : List ByteArray
  deriving Inhabited, DecidableEq
structure Hom where
  clusters : List Clu
  devices : List Dev
  deriving Inhabited, DecidableEq
structure Key where
  dev : Int
  cluster : ByteArray
  attr : ByteArray
  deriving Inhabited, DecidableEq
structure Item where
  key : Key
  value : Val
  version : Int
  deriving Inhabited, DecidableEq

def cVal (v : Val) : List PV := [vint v.kind, vint v.n, vstr v.s]
def cAttr (a : Attr) : List PV := [vstr a.name, vint a.kind, vint a.min, vint a.max, roL 1 cstr a.enum, vbool a.writable, vbool a.safety]
def cEff (e : Eff) : List PV := [vint e.kind, vstr e.attr, vint e.n]
def cCmd (c : Cmd) : List PV := vstr c.name :: (cAttr c.param ++ [roL 3 cEff c.effects])
def cClu (c : Clu) : List PV := [vstr c.name, roL 7 cAttr c.attrs, roL 9 cCmd c.commands, roL 1 cstr c.events]
def cDev (d : Dev) : List PV := [vint d.id, .val (.int .u64 d.eui), vint d.vendor, vbool d.sleepy, vint d.poll, vstr d.room, roL 1 cstr d.clusters]
def cHom (h : Hom) : List PV := [roL 4 cClu h.clusters, roL 7 cDev h.devices]
def cKey (k : Key) : List PV := [vint k.dev, vstr k.cluster, vstr k.attr]
def cItem (x : Item) : List PV := cKey x.key ++ (cVal x.value ++ [vint x.version])

/-- the first index of s, or -1 -/
def idxOf (l : List ByteArray) (s : ByteArray) : Int := match l.findIdx? (· = s) with | some i => i | none => -1

theorem idxOf_some {l : List ByteArray} {x : ByteArray} {k : Nat} (hk : k < l.length) (h : l.getD k default = x) (hf : ∀ j, j < k → l.getD j default ≠ x) : idxOf l x = k := by
  have : l.findIdx? (· = x) = some k := by
    rw [List.findIdx?_eq_some_iff_getElem]
    refine ⟨hk, by simpa [List.getD, hk] using h, fun j hj => ?_⟩
    have := hf j hj
    simpa [List.getD, show j < l.length from by omega] using this
  simp [idxOf, this]

theorem idxOf_none {l : List ByteArray} {x : ByteArray} (hf : ∀ j, j < l.length → l.getD j default ≠ x) : idxOf l x = -1 := by
  have : l.findIdx? (· = x) = none := by
    rw [List.findIdx?_eq_none_iff]
    intro y hy
    obtain ⟨j, hj, rfl⟩ := List.getElem_of_mem hy
    simpa [List.getD, hj] using hf j hj
  simp [idxOf, this]

/-- a letter of a name, at an index -/
def letterOk (i : Nat) (c : Int) : Bool := (decide (97 ≤ c) && decide (c ≤ 122)) || (decide (i ≠ 0) && (decide (c = 95) || decide (c = 45) || (decide (48 ≤ c) && decide (c ≤ 57))))

/-- names.Valid -/
def validName (s : ByteArray) : Bool := decide (1 ≤ s.size) && decide (s.size ≤ 24) && (List.range s.size).all fun i => letterOk i (byteAt s i)

theorem validName_iff {s : ByteArray} : validName s = true ↔ (1 ≤ s.size ∧ s.size ≤ 24 ∧ ∀ i, i < s.size → letterOk i (byteAt s i) = true) := by
  simp [validName, and_assoc]

/-- the first error of f 0 .. f (n - 1), or 0 -/
def firstE (n : Nat) (f : Nat → Int) : Int := match (List.range n).find? (fun i => decide (f i ≠ 0)) with | some i => f i | none => 0

theorem firstE_at {n k : Nat} {f : Nat → Int} (hk : k < n) (h : f k ≠ 0) (hf : ∀ j, j < k → f j = 0) : firstE n f = f k := by
  have : (List.range n).find? (fun i => decide (f i ≠ 0)) = some k := by
    rw [List.find?_range_eq_some]
    exact ⟨by simpa using h, by simpa using hk, fun j hj => by simpa using hf j hj⟩
  simp only [firstE, this]

theorem firstE_none {n : Nat} {f : Nat → Int} (hf : ∀ j, j < n → f j = 0) : firstE n f = 0 := by
  have : (List.range n).find? (fun i => decide (f i ≠ 0)) = none := by
    rw [List.find?_eq_none]
    intro x hx
    simpa using hf x (by simpa using hx)
  simp only [firstE, this]

def inRange (n : Int) : Bool := decide (-1099511627776 ≤ n) && decide (n ≤ 1099511627776)

def membersE (l : List ByteArray) : Int := if l.length < 1 ∨ 64 < l.length then 3 else firstE l.length fun i => if validName (l.getD i default) = false then 10 else if idxOf l (l.getD i default) < i then 9 else 0

/-- value.Def -/
def defE (a : Attr) : Int :=
  if validName a.name = false then 10 else if a.kind < 1 ∨ 4 < a.kind then 7
  else if a.kind = 2 ∧ (inRange a.min = false ∨ inRange a.max = false ∨ a.max < a.min) then 2
  else if a.kind ≠ 2 ∧ (a.min ≠ 0 ∨ a.max ≠ 0) then 2
  else if a.kind = 3 then membersE a.enum else if 0 < a.enum.length then 4 else 0

/-- value.Check -/
def valE (v : Val) : Int :=
  if v.kind < 0 ∨ 4 < v.kind then 7
  else if ((v.kind = 0 ∨ v.kind = 4) ∧ v.n ≠ 0) ∨ (v.kind = 1 ∧ v.n ≠ 0 ∧ v.n ≠ 1) ∨ (v.kind = 2 ∧ inRange v.n = false) ∨ (v.kind = 3 ∧ (v.n < 0 ∨ 63 < v.n)) then 2
  else if 60 < v.s.size then 3 else if v.s ≠ ⟨#[]⟩ ∧ v.kind ≠ 4 then 4 else 0

/-- value.Fits -/
def fitsE (a : Attr) (v : Val) : Int :=
  if defE a ≠ 0 then defE a else if valE v ≠ 0 then valE v else if v.kind ≠ a.kind then 11
  else if (v.kind = 2 ∧ (v.n < a.min ∨ a.max < v.n)) ∨ (v.kind = 3 ∧ (a.enum.length : Int) ≤ v.n) then 2 else 0

def clampI (n lo hi : Int) : Int := if hi < lo ∨ hi < n then hi else if n < lo then lo else n

def noVal : Val := ⟨0, 0, ⟨#[]⟩⟩

/-- value.Zero -/
def zeroV (a : Attr) : Val := if defE a ≠ 0 then noVal else if a.kind = 2 then ⟨a.kind, clampI 0 a.min a.max, ⟨#[]⟩⟩ else ⟨a.kind, 0, ⟨#[]⟩⟩

/-- value.Limit -/
def limitV (a : Attr) (v : Val) : Val := if defE a = 0 ∧ a.kind = 2 ∧ v.kind = 2 then ⟨v.kind, clampI v.n a.min a.max, v.s⟩ else v

end Go.Abs

namespace Go.Abs
open Go.Proofs

theorem hm : Tryd.prog.follows .mixedOrders = true := by kernel_rfl

theorem ac_slices_Index_string (l : List ByteArray) (x : ByteArray) (hl : l.length ≤ 1048576) : AC Tryd.prog 65 [.pv (roL 1 cstr l), .pv (vstr x)] [] (.pv (vint (idxOf l x))) [] := by
  refine AC.of_awp (T := T) T_ok hm Tryd.call65 Tryd.func65 rfl rfl rfl ?_
  conv => whnf
  refine ⟨Nat, fun k => k ≤ l.length ∧ ∀ j, j < k → l.getD j default ≠ x, fun k => ⟨[(0, .pv (roL 1 cstr l)), (1, .pv (vstr x)), (7, .pv (vint l.length)), (8, .pv (vint k))], []⟩, fun k => l.length - k, 0, [], ⟨Nat.zero_le _, fun j h => absurd h (by omega)⟩, ⟨.rfl, .rfl, .rfl, .rfl⟩, fun k hk => ?_⟩
  conv => whnf
  refine ⟨fun h => ?_, fun h => ?_⟩
  · simp only [decide_eq_true_eq] at h
    refine ⟨by omega, ?_⟩
    conv => whnf
    refine ⟨fun h2 => ?_, fun h2 => ?_⟩
    · conv => whnf
      simp only [decide_eq_true_eq] at h2
      exact PSub.int (by rw [idxOf_some (k := k) (by omega) (by simpa [eq_comm] using h2) hk.2])
    · conv => whnf
      refine .inl ⟨wrap64 (by omega), ?_⟩
      conv => whnf
      simp only [decide_eq_false_iff_not] at h2
      refine ⟨k + 1, [], ⟨by omega, fun j hj => ?_⟩, by dsimp only; omega, .rfl, .rfl, .rfl, .rfl⟩
      by_cases e : j = k
      · subst e; simpa [eq_comm] using h2
      · exact hk.2 j (by omega)
  · conv => whnf
    simp only [decide_eq_false_iff_not] at h
    exact PSub.int (by rw [idxOf_none fun j hj => hk.2 j (by omega)])

theorem ac_names_Index (l : List ByteArray) (x : ByteArray) (hl : l.length ≤ 1048576) : AC Tryd.prog 46 [.pv (roL 1 cstr l), .pv (vstr x)] [] (.pv (vint (idxOf l x))) [] := by
  refine AC.of_awp (T := T) T_ok hm Tryd.call46 Tryd.func46 rfl rfl rfl ?_
  conv => whnf
  refine .inl ⟨_, ac_slices_Index_string l x hl, ?_⟩
  conv => whnf
  exact PSub.rfl

theorem ac_names_letter (c : Int) : AC Tryd.prog 51 [.pv (.val (.int .i32 c))] [] (.pv (vbool (decide (97 ≤ c) && decide (c ≤ 122)))) [] := by
  refine AC.of_awp (T := T) T_ok hm Tryd.call51 Tryd.func51 rfl rfl rfl ?_
  conv => whnf
  refine ⟨fun h => ?_, fun h => ?_⟩
  · conv => whnf
    simp only [decide_eq_true_eq] at h
    exact PSub.sb (by simp [h])
  · conv => whnf
    simp only [decide_eq_false_iff_not] at h
    exact PSub.lit_sb (by simp [h])

theorem letterOk_iff {i : Nat} {c : Int} : letterOk i c = true ↔ ((97 ≤ c ∧ c ≤ 122) ∨ (i ≠ 0 ∧ (c = 95 ∨ c = 45 ∨ (48 ≤ c ∧ c ≤ 57)))) := by
  simp [letterOk, or_assoc]

theorem validName_bad {s : ByteArray} {k : Nat} (hk : k < s.size) (h : ¬ ((97 ≤ byteAt s k ∧ byteAt s k ≤ 122) ∨ (k ≠ 0 ∧ (byteAt s k = 95 ∨ byteAt s k = 45 ∨ (48 ≤ byteAt s k ∧ byteAt s k ≤ 57))))) : false = validName s := by
  symm
  rw [← Bool.not_eq_true, validName_iff]
  intro ⟨_, _, h2⟩
  exact h (letterOk_iff.1 (h2 k hk))

theorem decode_rune {s : ByteArray} {k : Nat} (hk : k < s.size) : (byteAt s k < 128 ∧ ((Utf8.decode s k).1 : Int) = byteAt s k ∧ (Utf8.decode s k).2 = 1) ∨ (128 ≤ byteAt s k ∧ 128 ≤ (Utf8.decode s k).1) := by
  have hlt : k < s.data.size := hk
  have hb : byteAt s k = ((s[k]'hk).toNat : Int) := by simp only [byteAt, Array.getD, dif_pos hlt]; rfl
  rw [hb]
  by_cases h : (s[k]'hk).toNat < 128
  · left
    rw [decode_ascii s k hk h]
    exact ⟨by omega, rfl, rfl⟩
  · right
    exact ⟨by omega, (decode_high s k hk (by omega)).1⟩

theorem ac_names_Valid (s : ByteArray) : AC Tryd.prog 32 [.pv (vstr s)] [] (.pv (vbool (validName s))) [] := by
  refine AC.of_awp (T := T) T_ok hm Tryd.call32 Tryd.func32 rfl rfl rfl ?_
  conv => whnf
  refine ⟨fun h => ?_, fun h => ?_⟩
  · conv => whnf
    simp only [decide_eq_true_eq] at h
    exact PSub.lit_sb (by symm; simp [validName]; omega)
  conv => whnf
  refine ⟨fun h2 => ?_, fun h2 => ?_⟩
  · conv => whnf
    simp only [decide_eq_true_eq] at h2
    exact PSub.lit_sb (by symm; simp [validName]; omega)
  conv => whnf
  simp only [decide_eq_false_iff_not] at h h2
  refine ⟨Nat, fun k => k ≤ s.size ∧ ∀ j, j < k → letterOk j (byteAt s j) = true, fun k => ⟨[(0, .pv (vstr s)), (14, .ref 500)], [(500, .siter s k)]⟩, fun k => s.size - k, 0, [(500, 14)], ⟨Nat.zero_le _, fun j h => absurd h (by omega)⟩, ⟨⟨⟨rfl, rfl⟩, trivial⟩, .rfl, trivial⟩, fun k hk => ?_⟩
  conv => whnf
  refine ⟨fun h3 => ?_, fun h3 => ?_⟩
  · conv => whnf
    refine .inl ⟨_, ac_names_letter _, ?_⟩
    conv => whnf
    have hb : ∀ j, j < k → letterOk j (byteAt s j) = true := hk.2
    have hkl := hk.1
    clear hk
    have hd := decode_rune h3
    iterate 9 (all_goals first | (refine ⟨fun h => ?_, fun h => ?_⟩ <;> (conv => whnf)) | skip)
    all_goals simp only [decide_eq_true_eq, decide_eq_false_iff_not, Bool.not_eq_true', Bool.not_eq_false', Bool.and_eq_true, Bool.and_eq_false_iff] at *
    all_goals first
      | contradiction
      | exact PSub.lit_sb (validName_bad (k := k) h3 (by omega))
      | (refine ⟨k + 1, [], ⟨by omega, fun j hj => ?_⟩, by omega, ⟨⟨rfl, by omega⟩, trivial⟩, .rfl, trivial⟩
         by_cases e : j = k
         · subst e; exact letterOk_iff.2 (by omega)
         · exact hb j (by omega))
  · conv => whnf
    exact PSub.lit_sb (by symm; rw [validName_iff]; exact ⟨by omega, by omega, fun i hi => hk.2 i (by have := hk.1; omega)⟩)

end Go.Abs

namespace Go.Abs
open Go.Proofs
set_option maxRecDepth 10000

theorem ac_value_inRange (n : Int) : AC Tryd.prog 67 [.pv (vint n)] [] (.pv (vbool (inRange n))) [] := by
  refine AC.of_awp (T := T) T_ok hm Tryd.call67 Tryd.func67 rfl rfl rfl ?_
  conv => whnf
  refine ⟨fun h => ?_, fun h => ?_⟩
  · conv => whnf
    simp only [decide_eq_true_eq] at h
    exact PSub.sb (by simp [inRange, h])
  · conv => whnf
    simp only [decide_eq_false_iff_not] at h
    exact PSub.lit_sb (by simp [inRange, h])

theorem ac_value_members (l : List ByteArray) (hl : l.length ≤ 1048576) : AC Tryd.prog 68 [.pv (roL 1 cstr l)] [] (.pv (vint (membersE l))) [] := by
  refine AC.of_awp (T := T) T_ok hm Tryd.call68 Tryd.func68 rfl rfl rfl ?_
  conv => whnf
  refine ⟨fun h => ?_, fun h => ?_⟩
  · conv => whnf
    simp only [decide_eq_true_eq] at h
    exact PSub.int (by rw [membersE, if_pos (by omega)])
  conv => whnf
  refine ⟨fun h2 => ?_, fun h2 => ?_⟩
  · conv => whnf
    simp only [decide_eq_true_eq] at h2
    exact PSub.int (by rw [membersE, if_pos (by omega)])
  conv => whnf
  simp only [decide_eq_false_iff_not] at h h2
  have e0 : membersE l = firstE l.length fun i => if validName (l.getD i default) = false then 10 else if idxOf l (l.getD i default) < i then 9 else 0 := by rw [membersE, if_neg (by omega)]
  rw [e0]
  generalize hf : (fun i => if validName (l.getD i default) = false then (10 : Int) else if idxOf l (l.getD i default) < (i : Int) then 9 else 0) = f
  have hfi : ∀ i, f i = if validName (l.getD i default) = false then (10 : Int) else if idxOf l (l.getD i default) < (i : Int) then 9 else 0 := fun i => by rw [← hf]
  refine ⟨Nat, fun k => k ≤ l.length ∧ ∀ j, j < k → f j = 0, fun k => ⟨[(0, .pv (roL 1 cstr l)), (13, .pv (roL 1 cstr l)), (14, .pv (vint l.length)), (15, .pv (vint k))], []⟩, fun k => l.length - k, 0, [], ⟨Nat.zero_le _, fun j h => absurd h (by omega)⟩, ⟨.rfl, .rfl, .rfl, .rfl⟩, fun k hk => ?_⟩
  conv => whnf
  refine ⟨fun h3 => ?_, fun h3 => ?_⟩
  · conv => whnf
    simp only [decide_eq_true_eq] at h3
    refine ⟨by omega, ?_⟩
    conv => whnf
    refine .inl ⟨_, ac_names_Valid _, ?_⟩
    conv => whnf
    have hfk := hfi k
    refine ⟨fun h4 => ?_, fun h4 => ?_⟩
    · conv => whnf
      simp only [Bool.not_eq_true', Int.toNat_natCast] at h4
      rw [if_pos h4] at hfk
      exact PSub.int (by rw [firstE_at (k := k) (by omega) (by rw [hfk]; decide) hk.2, hfk])
    · conv => whnf
      refine .inl ⟨_, ac_names_Index l _ hl, ?_⟩
      conv => whnf
      simp only [Bool.not_eq_false', Int.toNat_natCast] at h4
      rw [if_neg (by rw [h4]; decide)] at hfk
      refine ⟨fun h5 => ?_, fun h5 => ?_⟩
      · conv => whnf
        simp only [decide_eq_true_eq, Int.toNat_natCast] at h5
        rw [if_pos h5] at hfk
        exact PSub.int (by rw [firstE_at (k := k) (by omega) (by rw [hfk]; decide) hk.2, hfk])
      · conv => whnf
        simp only [decide_eq_false_iff_not, Int.toNat_natCast] at h5
        rw [if_neg h5] at hfk
        refine .inl ⟨wrap64 (by omega), ?_⟩
        conv => whnf
        refine ⟨k + 1, [], ⟨by omega, fun j hj => ?_⟩, by dsimp only; omega, .rfl, .rfl, .rfl, .rfl⟩
        by_cases e : j = k
        · subst e; exact hfk
        · exact hk.2 j (by omega)
  · conv => whnf
    simp only [decide_eq_false_iff_not] at h3
    exact PSub.int (by rw [firstE_none fun j hj => hk.2 j (by omega)])

theorem ac_value_Def (a : Attr) (hl : a.enum.length ≤ 1048576) : AC Tryd.prog 48 [.pv (.agg (cAttr a))] [] (.pv (vint (defE a))) [] := by
  refine AC.of_awp (T := T) T_ok hm Tryd.call48 Tryd.func48 rfl rfl rfl ?_
  conv => whnf
  refine .inl ⟨_, ac_names_Valid _, ?_⟩
  conv => whnf
  refine ⟨fun h => ?_, fun h => ?_⟩
  · conv => whnf
    simp only [Bool.not_eq_true'] at h
    exact PSub.int (by rw [defE, if_pos h])
  conv => whnf
  simp only [Bool.not_eq_false'] at h
  have h : ¬ validName a.name = false := by rw [h]; decide
  have hk : a.kind < 1 ∨ 4 < a.kind → PSub (ofConst (.int .i64 7)) (vint (defE a)) := fun hh => PSub.int (by rw [defE, if_neg h, if_pos hh])
  refine ⟨fun h2 => ?_, fun h2 => ?_⟩
  · conv => whnf
    simp only [decide_eq_true_eq] at h2
    exact hk (.inl h2)
  conv => whnf
  refine ⟨fun h3 => ?_, fun h3 => ?_⟩
  · conv => whnf
    simp only [decide_eq_true_eq] at h3
    exact hk (.inr h3)
  conv => whnf
  simp only [decide_eq_false_iff_not] at h2 h3
  have hk2 : ¬ (a.kind < 1 ∨ 4 < a.kind) := by omega
  have tail : ∀ (hq : ¬ (a.kind = 2 ∧ (inRange a.min = false ∨ inRange a.max = false ∨ a.max < a.min))) (hq2 : ¬ (a.kind ≠ 2 ∧ (a.min ≠ 0 ∨ a.max ≠ 0))), defE a = if a.kind = 3 then membersE a.enum else if 0 < a.enum.length then 4 else 0 := fun hq hq2 => by
    rw [defE, if_neg h, if_neg hk2, if_neg hq, if_neg hq2]
  refine ⟨fun h4 => ?_, fun h4 => ?_⟩
  · conv => whnf
    simp only [decide_eq_true_eq] at h4
    have bad : (inRange a.min = false ∨ inRange a.max = false ∨ a.max < a.min) → PSub (ofConst (.int .i64 2)) (vint (defE a)) := fun hh => PSub.int (by rw [defE, if_neg h, if_neg hk2, if_pos ⟨h4, hh⟩])
    refine .inl ⟨_, ac_value_inRange _, ?_⟩
    conv => whnf
    refine ⟨fun h5 => ?_, fun h5 => ?_⟩
    · conv => whnf
      simp only [Bool.not_eq_true'] at h5
      exact bad (.inl h5)
    conv => whnf
    refine .inl ⟨_, ac_value_inRange _, ?_⟩
    conv => whnf
    refine ⟨fun h6 => ?_, fun h6 => ?_⟩
    · conv => whnf
      simp only [Bool.not_eq_true'] at h6
      exact bad (.inr (.inl h6))
    conv => whnf
    refine ⟨fun h7 => ?_, fun h7 => ?_⟩
    · conv => whnf
      simp only [decide_eq_true_eq] at h7
      exact bad (.inr (.inr h7))
    conv => whnf
    simp only [decide_eq_false_iff_not, Bool.not_eq_false'] at h5 h6 h7
    have hd := tail (by rw [h5, h6]; simp; omega) (by omega)
    rw [if_neg (by omega)] at hd
    rw [hd]
    refine ⟨fun h8 => ?_, fun h8 => ?_⟩
    · simp only [decide_eq_true_eq] at h8
      omega
    conv => whnf
    refine ⟨fun h9 => ?_, fun h9 => ?_⟩
    · conv => whnf
      simp only [decide_eq_true_eq] at h9
      exact PSub.int (by rw [if_pos (by omega)])
    · conv => whnf
      simp only [decide_eq_false_iff_not] at h9
      exact PSub.int (by rw [if_neg (by omega)])
  · conv => whnf
    simp only [decide_eq_false_iff_not] at h4
    have bad : (a.min ≠ 0 ∨ a.max ≠ 0) → PSub (ofConst (.int .i64 2)) (vint (defE a)) := fun hh => PSub.int (by rw [defE, if_neg h, if_neg hk2, if_neg (fun x => h4 x.1), if_pos ⟨h4, hh⟩])
    refine ⟨fun h5 => ?_, fun h5 => ?_⟩
    · conv => whnf
      simp only [Bool.not_eq_true', decide_eq_false_iff_not] at h5
      exact bad (.inl h5)
    conv => whnf
    refine ⟨fun h6 => ?_, fun h6 => ?_⟩
    · conv => whnf
      simp only [Bool.not_eq_true', decide_eq_false_iff_not] at h6
      exact bad (.inr h6)
    conv => whnf
    simp only [Bool.not_eq_false', decide_eq_true_eq] at h5 h6
    have hd := tail (fun x => h4 x.1) (by omega)
    rw [hd]
    refine ⟨fun h8 => ?_, fun h8 => ?_⟩
    · conv => whnf
      simp only [decide_eq_true_eq] at h8
      rw [if_pos h8]
      refine .inl ⟨_, ac_value_members _ hl, ?_⟩
      conv => whnf
      exact PSub.rfl
    conv => whnf
    simp only [decide_eq_false_iff_not] at h8
    rw [if_neg h8]
    refine ⟨fun h9 => ?_, fun h9 => ?_⟩
    · conv => whnf
      simp only [decide_eq_true_eq] at h9
      exact PSub.int (by rw [if_pos (by omega)])
    · conv => whnf
      simp only [decide_eq_false_iff_not] at h9
      exact PSub.int (by rw [if_neg (by omega)])

theorem ac_value_Check (v : Val) : AC Tryd.prog 62 [.pv (.agg (cVal v))] [] (.pv (vint (valE v))) [] := by
  refine AC.of_awp (T := T) T_ok hm Tryd.call62 Tryd.func62 rfl rfl rfl ?_
  conv => whnf
  iterate 14 (all_goals first | (refine ⟨fun h => ?_, fun h => ?_⟩ <;> (conv => whnf)) | (refine .inl ⟨_, ac_value_inRange _, ?_⟩; conv => whnf) | skip)
  all_goals simp only [decide_eq_true_eq, decide_eq_false_iff_not, Bool.not_eq_true', Bool.not_eq_false'] at *
  all_goals first
    | contradiction
    | exact PSub.int (by simp only [valE]; (repeat' split) <;> first | rfl | omega | (simp_all; done) | (simp_all; omega))
    | trace_state

theorem ac_value_Fits (a : Attr) (v : Val) (hl : a.enum.length ≤ 1048576) : AC Tryd.prog 39 [.pv (.agg (cAttr a)), .pv (.agg (cVal v))] [] (.pv (vint (fitsE a v))) [] := by
  refine AC.of_awp (T := T) T_ok hm Tryd.call39 Tryd.func39 rfl rfl rfl ?_
  conv => whnf
  iterate 14 (all_goals first | (refine ⟨fun h => ?_, fun h => ?_⟩ <;> (conv => whnf)) | (refine .inl ⟨_, ac_value_Def a hl, ?_⟩; conv => whnf) | (refine .inl ⟨_, ac_value_Check v, ?_⟩; conv => whnf) | skip)
  all_goals simp only [decide_eq_true_eq, decide_eq_false_iff_not, Bool.not_eq_true', Bool.not_eq_false'] at *
  all_goals first
    | contradiction
    | exact PSub.int (by simp only [fitsE]; (repeat' split) <;> first | rfl | omega | (simp_all; done) | (simp_all; omega))
    | trace_state

theorem ac_num_Clamp (n lo hi : Int) : AC Tryd.prog 49 [.pv (vint n), .pv (vint lo), .pv (vint hi)] [] (.pv (vint (clampI n lo hi))) [] := by
  refine AC.of_awp (T := T) T_ok hm Tryd.call49 Tryd.func49 rfl rfl rfl ?_
  conv => whnf
  iterate 5 (all_goals first | (refine ⟨fun h => ?_, fun h => ?_⟩ <;> (conv => whnf)) | skip)
  all_goals simp only [decide_eq_true_eq, decide_eq_false_iff_not, Bool.not_eq_true', Bool.not_eq_false'] at *
  all_goals first
    | contradiction
    | exact PSub.int (by simp only [clampI]; (repeat' split) <;> first | rfl | omega)
    | trace_state

theorem ac_value_Zero (a : Attr) (hl : a.enum.length ≤ 1048576) : AC Tryd.prog 28 [.pv (.agg (cAttr a))] [] (.pv (.agg (cVal (zeroV a)))) [] := by
  refine AC.of_awp (T := T) T_ok hm Tryd.call28 Tryd.func28 rfl rfl rfl ?_
  conv => whnf
  iterate 6 (all_goals first | (refine ⟨fun h => ?_, fun h => ?_⟩ <;> (conv => whnf)) | (refine .inl ⟨_, ac_value_Def a hl, ?_⟩; conv => whnf) | (refine .inl ⟨_, ac_num_Clamp _ _ _, ?_⟩; conv => whnf) | skip)
  all_goals simp only [decide_eq_true_eq, decide_eq_false_iff_not, Bool.not_eq_true', Bool.not_eq_false'] at *
  all_goals first
    | contradiction
    | exact PSub.of_eq (by simp only [zeroV]; (repeat' split) <;> first | rfl | omega | contradiction | (simp_all; done))
    | trace_state

end Go.Abs

namespace Go.Abs
open Go.Proofs
set_option maxRecDepth 10000

/-- s is among the first n of l -/
def memN (l : List ByteArray) (n : Nat) (s : ByteArray) : Bool := (List.range n).any fun j => decide (l.getD j default = s)

theorem memN_true {l : List ByteArray} {n k : Nat} {s : ByteArray} (hk : k < n) (h : l.getD k default = s) : memN l n s = true := by
  simp only [memN, List.any_eq_true, List.mem_range, decide_eq_true_eq]
  exact ⟨k, hk, h⟩

theorem memN_false {l : List ByteArray} {n : Nat} {s : ByteArray} (h : ∀ j, j < n → l.getD j default ≠ s) : memN l n s = false := by
  rw [← Bool.not_eq_true]
  simp only [memN, List.any_eq_true, List.mem_range, decide_eq_true_eq]
  rintro ⟨j, hj, e⟩
  exact h j hj e

theorem idxOf_lt {l : List ByteArray} {i : Nat} (hi : i < l.length) : idxOf l (l.getD i default) < (i : Int) ↔ memN l i (l.getD i default) = true := by
  constructor
  · intro h
    by_cases hm : memN l i (l.getD i default) = true
    · exact hm
    · exfalso
      have hn : ∀ j, j < i → l.getD j default ≠ l.getD i default := fun j hj e => hm (memN_true hj e)
      rw [idxOf_some (k := i) hi rfl hn] at h
      omega
  · intro h
    simp only [memN, List.any_eq_true, List.mem_range, decide_eq_true_eq] at h
    have hex : ∃ j, j < i ∧ l.getD j default = l.getD i default := h
    have : ∃ k, k < i ∧ l.getD k default = l.getD i default ∧ ∀ j, j < k → l.getD j default ≠ l.getD i default := by
      obtain ⟨j, hj, e⟩ := hex
      clear h
      induction j using Nat.strongRecOn with
      | _ j ih =>
        by_cases hb : ∃ m, m < j ∧ l.getD m default = l.getD i default
        · obtain ⟨m, hm, e2⟩ := hb
          exact ih m hm (by omega) e2
        · exact ⟨j, hj, e, fun m hm e2 => hb ⟨m, hm, e2⟩⟩
    obtain ⟨k, hk, e, hf⟩ := this
    rw [idxOf_some (k := k) (by omega) e hf]
    omega

end Go.Abs

namespace Go.Abs
open Go.Proofs
set_option maxRecDepth 10000

end Go.Abs

namespace Go.Abs
open Go.Proofs
set_option maxRecDepth 10000

theorem ac_slices_Clone_string (n : Nat) (g : Nat → List PV) (hn : n ≤ 1048576) : AC Tryd.prog 66 [.pv (.ro 1 n g)] [] (.own 0) [(0, .row 1 n g)] := by
  refine AC.nil_split (pre := []) (post := []) ?_ (fun h => ?_)
  · refine AC.of_awp_own (T := T) T_ok hm Tryd.call66 Tryd.func66 rfl rfl rfl ?_
    conv => whnf
    refine ⟨by omega, ?_⟩
    conv => whnf
    exact ⟨by omega, fun i hi => by simpa using PSubs.rfl⟩
  · refine AC.of_awp_own (T := T) T_ok hm Tryd.call66 Tryd.func66 rfl rfl rfl ?_
    conv => whnf
    exact h

theorem ac_slices_Clone_Item (n : Nat) (g : Nat → List PV) (hn : n ≤ 1048576) : AC Tryd.prog 63 [.pv (.ro 7 n g)] [] (.own 0) [(0, .row 7 n g)] := by
  refine AC.nil_split (pre := []) (post := []) ?_ (fun h => ?_)
  · refine AC.of_awp_own (T := T) T_ok hm Tryd.call63 Tryd.func63 rfl rfl rfl ?_
    conv => whnf
    refine ⟨by omega, ?_⟩
    conv => whnf
    exact ⟨by omega, fun i hi => by simpa using PSubs.rfl⟩
  · refine AC.of_awp_own (T := T) T_ok hm Tryd.call63 Tryd.func63 rfl rfl rfl ?_
    conv => whnf
    exact h

end Go.Abs

namespace Go.Abs
open Go.Proofs
set_option maxRecDepth 10000

def noAttr : Attr := ⟨⟨#[]⟩, 0, 0, 0, [], false, false⟩
def smallL {α : Type} (l : List α) : Prop := l.length ≤ 1048576
def smallA (a : Attr) : Prop := smallL a.enum
def smallC (c : Cmd) : Prop := smallA c.param ∧ smallL c.effects
def smallK (c : Clu) : Prop := smallL c.attrs ∧ (∀ i, smallA (c.attrs.getD i default)) ∧ smallL c.commands ∧ (∀ i, smallC (c.commands.getD i default)) ∧ smallL c.events

/-- the first index whose element is as p says, or the length -/
def firstI (n : Nat) (p : Nat → Bool) : Nat := match (List.range n).find? p with | some i => i | none => n

theorem firstI_at {n k : Nat} {p : Nat → Bool} (hk : k < n) (h : p k = true) (hf : ∀ j, j < k → p j = false) : firstI n p = k := by
  have : (List.range n).find? p = some k := by
    rw [List.find?_range_eq_some]
    exact ⟨h, by simpa using hk, fun j hj => by simpa using hf j hj⟩
  simp only [firstI, this]

theorem firstI_none {n : Nat} {p : Nat → Bool} (hf : ∀ j, j < n → p j = false) : firstI n p = n := by
  have : (List.range n).find? p = none := by
    rw [List.find?_eq_none]
    intro x hx
    simpa using hf x (by simpa using hx)
  simp only [firstI, this]

def attrAt (l : List Attr) (s : ByteArray) : Nat := firstI l.length fun i => decide ((l.getD i default).name = s)

/-- cluster.Attr -/
def attrOf (l : List Attr) (s : ByteArray) : Attr := if attrAt l s < l.length then l.getD (attrAt l s) default else noAttr

theorem ac_cluster_Attr (c : Clu) (s : ByteArray) (hc : smallK c) : AC Tryd.prog 47 [.pv (.agg (cClu c)), .pv (vstr s)] [] (.pv (.tup [.agg (cAttr (attrOf c.attrs s)), vbool (decide (attrAt c.attrs s < c.attrs.length))])) [] := by
  have hl : c.attrs.length ≤ 1048576 := hc.1
  refine AC.of_awp (T := T) T_ok hm Tryd.call47 Tryd.func47 rfl rfl rfl ?_
  conv => whnf
  refine ⟨Nat, fun k => k ≤ c.attrs.length ∧ ∀ j, j < k → decide ((c.attrs.getD j default).name = s) = false, fun k => ⟨[(1, .pv (vstr s)), (4, .ptr 4 0), (9, .pv (roL 7 cAttr c.attrs)), (10, .pv (vint c.attrs.length)), (11, .pv (vint k))], [(4, .pbox (cAttr noAttr))]⟩, fun k => c.attrs.length - k, 0, [], ⟨Nat.zero_le _, fun j h => absurd h (by omega)⟩, ?_, fun k hk => ?_⟩
  · exact ⟨⟨⟨.rfl, .rfl, .rfl, .rfl, PSub.nil_ro _ _, PSub.lit_sb rfl, PSub.lit_sb rfl, trivial⟩, trivial⟩, .rfl, rfl, .rfl, .rfl, .rfl⟩
  conv => whnf
  refine ⟨fun h => ?_, fun h => ?_⟩
  · simp only [decide_eq_true_eq] at h
    conv => whnf
    refine ⟨by omega, ?_⟩
    conv => whnf
    refine ⟨fun h2 => ?_, fun h2 => ?_⟩
    · conv => whnf
      refine .inr (.inl ⟨_, _, _, ac_slices_Clone_string _ _ (hc.2.1 k), ?_⟩)
      conv => whnf
      have ea : attrAt c.attrs s = k := firstI_at (by omega) h2 hk.2
      have hlt : k < c.attrs.length := by omega
      refine ⟨?_, ?_⟩
      · conv => whnf
        exact PSub.of_eq (by rw [attrOf, ea, if_pos hlt]; rfl)
      · conv => whnf
        exact PSub.lit_sb (by rw [ea]; simp [hlt])
    · conv => whnf
      refine .inl ⟨wrap64 (by omega), ?_⟩
      conv => whnf
      refine ⟨k + 1, [], ⟨by omega, fun j hj => ?_⟩, by dsimp only; omega, ⟨PSubs.rfl, trivial⟩, .rfl, rfl, .rfl, .rfl, .rfl⟩
      by_cases e : j = k
      · subst e; exact h2
      · exact hk.2 j (by omega)
  · conv => whnf
    simp only [decide_eq_false_iff_not] at h
    have ea : attrAt c.attrs s = c.attrs.length := firstI_none fun j hj => hk.2 j (by omega)
    refine ⟨?_, ?_⟩
    · conv => whnf
      rw [attrOf, ea, if_neg (by omega)]
      exact PSub.agg ⟨.rfl, .rfl, .rfl, .rfl, PSub.nil_ro _ _, PSub.lit_sb rfl, PSub.lit_sb rfl, trivial⟩
    · conv => whnf
      exact PSub.lit_sb (by rw [ea]; simp)

/-- R21.Place -/
def placeI (l : List Attr) (s : ByteArray) : Int := if attrAt l s < l.length then (attrAt l s : Int) else -1

def manyE (l : List Cmd) : Bool := (List.range l.length).any fun i => decide (12 < (l.getD i default).effects.length)

theorem manyE_true {l : List Cmd} {k : Nat} (hk : k < l.length) (h : 12 < (l.getD k default).effects.length) : manyE l = true := by
  simp only [manyE, List.any_eq_true, List.mem_range, decide_eq_true_eq]
  exact ⟨k, hk, h⟩

theorem manyE_false {l : List Cmd} (h : ∀ j, j < l.length → ¬ 12 < (l.getD j default).effects.length) : manyE l = false := by
  rw [← Bool.not_eq_true]
  simp only [manyE, List.any_eq_true, List.mem_range, decide_eq_true_eq]
  rintro ⟨j, hj, e⟩
  exact h j hj e

/-- cluster.wide -/
def wideB (c : Clu) : Bool := decide (12 < c.attrs.length) || decide (12 < c.commands.length) || decide (12 < c.events.length) || manyE c.commands

theorem ac_cluster_wide (c : Clu) (hc : smallK c) : AC Tryd.prog 69 [.pv (.agg (cClu c))] [] (.pv (vbool (wideB c))) [] := by
  have hl : c.commands.length ≤ 1048576 := hc.2.2.1
  refine AC.of_awp (T := T) T_ok hm Tryd.call69 Tryd.func69 rfl rfl rfl ?_
  conv => whnf
  refine ⟨Nat, fun k => k ≤ c.commands.length ∧ ∀ j, j < k → ¬ 12 < (c.commands.getD j default).effects.length, fun k => ⟨[(1, .ptr 1 0), (6, .pv (roL 9 cCmd c.commands)), (7, .pv (vint c.commands.length)), (8, .pv (vint k))], [(1, .pbox (cClu c))]⟩, fun k => c.commands.length - k, 0, [], ⟨Nat.zero_le _, fun j h => absurd h (by omega)⟩, ⟨⟨PSubs.rfl, trivial⟩, rfl, .rfl, .rfl, .rfl⟩, fun k hk => ?_⟩
  conv => whnf
  refine ⟨fun h => ?_, fun h => ?_⟩
  · simp only [decide_eq_true_eq] at h
    conv => whnf
    refine ⟨by omega, ?_⟩
    conv => whnf
    refine ⟨fun h2 => ?_, fun h2 => ?_⟩
    · conv => whnf
      simp only [decide_eq_true_eq, Int.toNat_natCast] at h2
      exact PSub.lit_sb (by rw [wideB, manyE_true (k := k) (by omega) (by omega)]; simp)
    · conv => whnf
      simp only [decide_eq_false_iff_not, Int.toNat_natCast] at h2
      refine .inl ⟨wrap64 (by omega), ?_⟩
      conv => whnf
      refine ⟨k + 1, [], ⟨by omega, fun j hj => ?_⟩, by dsimp only; omega, ⟨PSubs.rfl, trivial⟩, rfl, .rfl, .rfl, .rfl⟩
      by_cases e : j = k
      · subst e; omega
      · exact hk.2 j (by omega)
  · simp only [decide_eq_false_iff_not] at h
    have em : manyE c.commands = false := manyE_false fun j hj => hk.2 j (by omega)
    have e0 : wideB c = (decide (12 < c.attrs.length) || decide (12 < c.commands.length) || decide (12 < c.events.length)) := by rw [wideB, em]; simp
    rw [e0]
    conv => whnf
    iterate 3 (all_goals first | (refine ⟨fun h => ?_, fun h => ?_⟩ <;> (conv => whnf)) | skip)
    all_goals simp only [decide_eq_true_eq, decide_eq_false_iff_not] at *
    all_goals first
      | exact PSub.lit_sb (by symm; simp; omega)
      | exact PSub.sb (by rw [Bool.eq_iff_iff]; simp; omega)
      | trace_state

end Go.Abs

namespace Go.Abs
open Go.Proofs
set_option maxRecDepth 10000

theorem list_eq {α : Type} [Inhabited α] {a b : List α} (hl : a.length = b.length) (h : ∀ i, i < a.length → a.getD i default = b.getD i default) : a = b := by
  apply List.ext_getElem hl
  intro i h1 h2
  have := h i h1
  simpa [List.getD, h1, h2] using this

theorem ac_slices_Equal_string (a b : List ByteArray) (ha : a.length ≤ 1048576) : AC Tryd.prog 83 [.pv (roL 1 cstr a), .pv (roL 1 cstr b)] [] (.pv (vbool (decide (a = b)))) [] := by
  refine AC.of_awp (T := T) T_ok hm Tryd.call83 Tryd.func83 rfl rfl rfl ?_
  conv => whnf
  refine ⟨fun h => ?_, fun h => ?_⟩
  · conv => whnf
    simp only [Bool.not_eq_true', decide_eq_false_iff_not] at h
    exact PSub.lit_sb (by symm; simp only [decide_eq_false_iff_not]; intro e; exact h (by rw [e]))
  conv => whnf
  simp only [Bool.not_eq_false', decide_eq_true_eq] at h
  refine ⟨Nat, fun k => k ≤ a.length ∧ ∀ j, j < k → a.getD j default = b.getD j default, fun k => ⟨[(0, .pv (roL 1 cstr a)), (1, .pv (roL 1 cstr b)), (12, .pv (vint a.length)), (13, .pv (vint k))], []⟩, fun k => a.length - k, 0, [], ⟨Nat.zero_le _, fun j h => absurd h (by omega)⟩, ⟨.rfl, .rfl, .rfl, .rfl⟩, fun k hk => ?_⟩
  conv => whnf
  refine ⟨fun h2 => ?_, fun h2 => ?_⟩
  · simp only [decide_eq_true_eq] at h2
    conv => whnf
    refine ⟨by kernel_rfl, ?_⟩
    conv => whnf
    refine ⟨by omega, ?_⟩
    conv => whnf
    refine ⟨by omega, ?_⟩
    conv => whnf
    refine ⟨by kernel_rfl, ?_⟩
    conv => whnf
    refine ⟨fun h3 => ?_, fun h3 => ?_⟩
    · conv => whnf
      simp only [Bool.not_eq_true', decide_eq_false_iff_not] at h3
      exact PSub.lit_sb (by symm; simp only [decide_eq_false_iff_not]; intro e; exact h3 (by rw [e]))
    · conv => whnf
      simp only [Bool.not_eq_false', decide_eq_true_eq, Int.toNat_natCast] at h3
      refine .inl ⟨wrap64 (by omega), ?_⟩
      conv => whnf
      refine ⟨k + 1, [], ⟨by omega, fun j hj => ?_⟩, by dsimp only; omega, .rfl, .rfl, .rfl, .rfl⟩
      by_cases e : j = k
      · subst e; exact h3
      · exact hk.2 j (by omega)
  · conv => whnf
    simp only [decide_eq_false_iff_not] at h2
    exact PSub.lit_sb (by symm; simp only [decide_eq_true_eq]; exact list_eq (by omega) fun i hi => hk.2 i (by omega))

theorem ac_slices_Contains_string (l : List ByteArray) (n : Nat) (x : ByteArray) (hl : l.length ≤ 1048576) : AC Tryd.prog 71 [.pv (roL 1 cstr l), .pv (vstr x)] [] (.pv (vbool (decide (0 ≤ idxOf l x)))) [] := by
  refine AC.of_awp (T := T) T_ok hm Tryd.call71 Tryd.func71 rfl rfl rfl ?_
  conv => whnf
  refine .inl ⟨_, ac_slices_Index_string l x hl, ?_⟩
  conv => whnf
  exact PSub.rfl

end Go.Abs

namespace Go.Abs
open Go.Proofs
set_option maxRecDepth 10000

def idxN (l : List ByteArray) (n : Nat) (x : ByteArray) : Int := if firstI n (fun i => decide (l.getD i default = x)) < n then (firstI n (fun i => decide (l.getD i default = x)) : Int) else -1

theorem ac_slices_Index_string_n (l : List ByteArray) (n : Nat) (x : ByteArray) (hl : n ≤ 1048576) : AC Tryd.prog 65 [.pv (.ro 1 n fun i => cstr (l.getD i default)), .pv (vstr x)] [] (.pv (vint (idxN l n x))) [] := by
  refine AC.of_awp (T := T) T_ok hm Tryd.call65 Tryd.func65 rfl rfl rfl ?_
  conv => whnf
  refine ⟨Nat, fun k => k ≤ n ∧ ∀ j, j < k → decide (l.getD j default = x) = false, fun k => ⟨[(0, .pv (.ro 1 n fun i => cstr (l.getD i default))), (1, .pv (vstr x)), (7, .pv (vint n)), (8, .pv (vint k))], []⟩, fun k => n - k, 0, [], ⟨Nat.zero_le _, fun j h => absurd h (by omega)⟩, ⟨.rfl, .rfl, .rfl, .rfl⟩, fun k hk => ?_⟩
  conv => whnf
  refine ⟨fun h => ?_, fun h => ?_⟩
  · simp only [decide_eq_true_eq] at h
    refine ⟨by omega, ?_⟩
    conv => whnf
    refine ⟨fun h2 => ?_, fun h2 => ?_⟩
    · conv => whnf
      simp only [decide_eq_true_eq, Int.toNat_natCast] at h2
      have e : firstI n (fun i => decide (l.getD i default = x)) = k := firstI_at (by omega) (by simpa using h2.symm) hk.2
      exact PSub.int (by rw [idxN, e, if_pos (by omega)])
    · conv => whnf
      refine .inl ⟨wrap64 (by omega), ?_⟩
      conv => whnf
      simp only [decide_eq_false_iff_not, Int.toNat_natCast] at h2
      refine ⟨k + 1, [], ⟨by omega, fun j hj => ?_⟩, by dsimp only; omega, .rfl, .rfl, .rfl, .rfl⟩
      by_cases e : j = k
      · subst e; simpa using fun e => h2 e.symm
      · exact hk.2 j (by omega)
  · conv => whnf
    simp only [decide_eq_false_iff_not] at h
    have e : firstI n (fun i => decide (l.getD i default = x)) = n := firstI_none fun j hj => hk.2 j (by omega)
    exact PSub.int (by rw [idxN, e, if_neg (by omega)])

theorem idxN_mem {l : List ByteArray} {n : Nat} {x : ByteArray} : decide (0 ≤ idxN l n x) = memN l n x := by
  by_cases h : ∃ j, j < n ∧ l.getD j default = x
  · obtain ⟨j, hj, e⟩ := h
    rw [memN_true hj e]
    unfold idxN
    split
    · simp
    · rename_i hn
      exfalso
      have hnone : (List.range n).find? (fun i => decide (l.getD i default = x)) = none := by
        cases hf : (List.range n).find? (fun i => decide (l.getD i default = x)) with
        | none => rfl
        | some i =>
          exfalso
          apply hn
          simp only [firstI, hf]
          have := List.mem_of_find?_eq_some hf
          simpa using this
      rw [List.find?_eq_none] at hnone
      exact hnone j (by simpa using hj) (by simpa using e)
  · rw [memN_false fun j hj e => h ⟨j, hj, e⟩]
    have e : firstI n (fun i => decide (l.getD i default = x)) = n := firstI_none fun j hj => by simpa using fun e => h ⟨j, hj, e⟩
    unfold idxN
    rw [e, if_neg (by omega)]
    simp

theorem ac_slices_Contains_string_n (l : List ByteArray) (n : Nat) (x : ByteArray) (hl : n ≤ 1048576) : AC Tryd.prog 71 [.pv (.ro 1 n fun i => cstr (l.getD i default)), .pv (vstr x)] [] (.pv (vbool (memN l n x))) [] := by
  refine AC.of_awp (T := T) T_ok hm Tryd.call71 Tryd.func71 rfl rfl rfl ?_
  conv => whnf
  refine .inl ⟨_, ac_slices_Index_string_n l n x hl, ?_⟩
  conv => whnf
  exact PSub.sb idxN_mem

end Go.Abs

namespace Go.Abs
open Go.Proofs
set_option maxRecDepth 10000

def alikeB (a b : Attr) : Bool := decide (a.kind = b.kind) && decide (a.enum = b.enum)

theorem ac_cluster_alike (a b : Attr) (ha : smallA a) : AC Tryd.prog 82 [.pv (.agg (cAttr a)), .pv (.agg (cAttr b))] [] (.pv (vbool (alikeB a b))) [] := by
  refine AC.of_awp (T := T) T_ok hm Tryd.call82 Tryd.func82 rfl rfl rfl ?_
  conv => whnf
  refine ⟨fun h => ?_, fun h => ?_⟩
  · conv => whnf
    refine .inl ⟨_, ac_slices_Equal_string a.enum b.enum ha, ?_⟩
    conv => whnf
    exact PSub.sb (by simp [alikeB, h])
  · conv => whnf
    exact PSub.lit_sb (by simp [alikeB, h])

end Go.Abs

namespace Go.Abs
open Go.Proofs
set_option maxRecDepth 10000

def cmdAt (l : List Cmd) (s : ByteArray) : Nat := firstI l.length fun i => decide ((l.getD i default).name = s)
def noCmd : Cmd := ⟨⟨#[]⟩, noAttr, []⟩
/-- cluster.Command -/
def cmdOf (l : List Cmd) (s : ByteArray) : Cmd := if cmdAt l s < l.length then l.getD (cmdAt l s) default else noCmd

end Go.Abs

namespace Go.Abs
open Go.Proofs
set_option maxRecDepth 10000

/-- num.Sat -/
def satI (n : Int) : Int := min (max n (-1099511627776)) 1099511627776

theorem ac_num_Sat (n : Int) : AC Tryd.prog 81 [.pv (vint n)] [] (.pv (vint (satI n))) [] := by
  refine AC.of_awp (T := T) T_ok hm Tryd.call81 Tryd.func81 rfl rfl rfl ?_
  conv => whnf
  exact PSub.int (by simp only [satI]; (repeat' split) <;> omega)

/-- num.Add of bounded numbers -/
def smallN (n : Int) : Prop := -4611686018427387904 ≤ n ∧ n ≤ 4611686018427387903

/-- cluster.suits -/
def suitsB (x : Eff) (a p : Attr) : Bool := if x.kind = 1 then decide (a.kind ≠ 4) && decide (fitsE a ⟨a.kind, x.n, ⟨#[]⟩⟩ = 0) else if x.kind = 2 then alikeB a p else if x.kind = 3 then decide (a.kind = 2) else decide (a.kind = 1)

theorem ac_cluster_suits (x : Eff) (a p : Attr) (ha : smallA a) : AC Tryd.prog 80 [.pv (.agg (cEff x)), .pv (.agg (cAttr a)), .pv (.agg (cAttr p))] [] (.pv (vbool (suitsB x a p))) [] := by
  refine AC.of_awp (T := T) T_ok hm Tryd.call80 Tryd.func80 rfl rfl rfl ?_
  conv => whnf
  repeat (any_goals (first
    | (refine ⟨fun (h : (_ : Bool) = true) => ?_, fun (h : (_ : Bool) = false) => ?_⟩ <;> (try simp only [decide_eq_true_eq, decide_eq_false_iff_not, Bool.not_eq_true', Bool.not_eq_false', Int.toNat_natCast, beq_iff_eq, decide_eq_decide, beq_eq_false_iff_ne, ne_eq, reduceCtorEq] at h) <;> (conv => whnf))
    | (refine .inl ⟨_, ac_value_Fits a ⟨a.kind, x.n, ⟨#[]⟩⟩ ha, ?_⟩; conv => whnf)
    | (refine .inl ⟨_, ac_cluster_alike a p ha, ?_⟩; conv => whnf)
    | (refine And.intro (by (try simp only [Int.toNat_natCast]); omega) ?_; conv => whnf)
    | (refine And.intro (show (_ : Bool) = true from by kernel_rfl) ?_; conv => whnf)
    | (refine .inl ⟨wrap64 (by omega), ?_⟩; conv => whnf)))
  all_goals (try simp only [decide_eq_true_eq, decide_eq_false_iff_not, Bool.not_eq_true', Bool.not_eq_false', Int.toNat_natCast, beq_iff_eq, decide_eq_decide, beq_eq_false_iff_ne, ne_eq, reduceCtorEq] at *)
  all_goals first
    | contradiction
    | (exfalso; omega)
    | exact PSub.rfl
    | (refine PSub.int ?_; simp only [suitsB]; (repeat' split) <;> first | rfl | omega | (simp_all [-List.getD_eq_getElem?_getD]; done) | (simp_all [-List.getD_eq_getElem?_getD]; omega))
    | (refine PSub.sb ?_; simp_all [suitsB, -List.getD_eq_getElem?_getD]; done)
    | (refine PSub.lit_sb ?_; simp_all [suitsB, -List.getD_eq_getElem?_getD]; done)
    | (refine PSub.sb_lit ?_; simp_all [suitsB, -List.getD_eq_getElem?_getD]; done)
    | (refine PSub.sb ?_; rw [Bool.eq_iff_iff]; simp_all [suitsB, -List.getD_eq_getElem?_getD]; done)
    | (refine PSub.lit_sb ?_; rw [Bool.eq_iff_iff]; simp_all [suitsB, -List.getD_eq_getElem?_getD]; done)
    | (refine PSub.sb_lit ?_; rw [Bool.eq_iff_iff]; simp_all [suitsB, -List.getD_eq_getElem?_getD]; done)
    | skip

/-- cluster.effect -/
def effE (c : Clu) (p : Attr) (x : Eff) : Int :=
  if x.kind < 1 ∨ 4 < x.kind then 7 else if ¬ attrAt c.attrs x.attr < c.attrs.length then 8 else if (attrOf c.attrs x.attr).writable = false then 24
  else if suitsB x (attrOf c.attrs x.attr) p = false then 11 else if x.kind = 3 ∧ satI x.n ≠ x.n then 2 else if (x.kind = 2 ∨ x.kind = 4) ∧ x.n ≠ 0 then 4 else 0

theorem small_attrOf {c : Clu} {s : ByteArray} (hc : smallK c) : smallA (attrOf c.attrs s) := by
  unfold attrOf
  split
  · exact hc.2.1 _
  · exact Nat.zero_le _

theorem ac_cluster_effect (c : Clu) (p : Attr) (x : Eff) (hc : smallK c) : AC Tryd.prog 78 [.pv (.agg (cClu c)), .pv (.agg (cAttr p)), .pv (.agg (cEff x))] [] (.pv (vint (effE c p x))) [] := by
  refine AC.of_awp (T := T) T_ok hm Tryd.call78 Tryd.func78 rfl rfl rfl ?_
  conv => whnf
  repeat (any_goals (first
    | (refine ⟨fun (h : (_ : Bool) = true) => ?_, fun (h : (_ : Bool) = false) => ?_⟩ <;> (try simp only [decide_eq_true_eq, decide_eq_false_iff_not, Bool.not_eq_true', Bool.not_eq_false', Int.toNat_natCast, beq_iff_eq, decide_eq_decide, beq_eq_false_iff_ne, ne_eq, reduceCtorEq] at h) <;> (conv => whnf))
    | (refine .inl ⟨_, ac_cluster_Attr c x.attr hc, ?_⟩; conv => whnf)
    | (refine .inl ⟨_, ac_cluster_suits x (attrOf c.attrs x.attr) p (small_attrOf hc), ?_⟩; conv => whnf)
    | (refine .inl ⟨_, ac_num_Sat x.n, ?_⟩; conv => whnf)
    | (refine And.intro (by (try simp only [Int.toNat_natCast]); omega) ?_; conv => whnf)
    | (refine And.intro (show (_ : Bool) = true from by kernel_rfl) ?_; conv => whnf)
    | (refine .inl ⟨wrap64 (by omega), ?_⟩; conv => whnf)))
  all_goals (try simp only [decide_eq_true_eq, decide_eq_false_iff_not, Bool.not_eq_true', Bool.not_eq_false', Int.toNat_natCast, beq_iff_eq, decide_eq_decide, beq_eq_false_iff_ne, ne_eq, reduceCtorEq] at *)
  all_goals first
    | contradiction
    | (exfalso; omega)
    | exact PSub.rfl
    | (refine PSub.int ?_; simp only [effE]; (repeat' split) <;> first | rfl | omega | (simp_all [-List.getD_eq_getElem?_getD]; done) | (simp_all [-List.getD_eq_getElem?_getD]; omega))
    | (refine PSub.sb ?_; simp_all [effE, -List.getD_eq_getElem?_getD]; done)
    | (refine PSub.lit_sb ?_; simp_all [effE, -List.getD_eq_getElem?_getD]; done)
    | (refine PSub.sb_lit ?_; simp_all [effE, -List.getD_eq_getElem?_getD]; done)
    | (refine PSub.sb ?_; rw [Bool.eq_iff_iff]; simp_all [effE, -List.getD_eq_getElem?_getD]; done)
    | (refine PSub.lit_sb ?_; rw [Bool.eq_iff_iff]; simp_all [effE, -List.getD_eq_getElem?_getD]; done)
    | (refine PSub.sb_lit ?_; rw [Bool.eq_iff_iff]; simp_all [effE, -List.getD_eq_getElem?_getD]; done)
    | skip

theorem satI_ne {n : Int} : satI n ≠ n ↔ (n < -1099511627776 ∨ 1099511627776 < n) := by unfold satI; omega

/-- cluster.zero -/
def zeroA (a : Attr) : Bool := decide (a = noAttr)
theorem zeroA_iff {a : Attr} : zeroA a = true ↔ (a.name = ⟨#[]⟩ ∧ a.kind = 0 ∧ a.min = 0 ∧ a.max = 0 ∧ a.enum.length = 0 ∧ a.writable = false ∧ a.safety = false) := by
  obtain ⟨a1, a2, a3, a4, a5, a6, a7⟩ := a
  simp [zeroA, noAttr]

theorem ac_cluster_zero (a : Attr) : AC Tryd.prog 77 [.pv (.agg (cAttr a))] [] (.pv (vbool (zeroA a))) [] := by
  refine AC.of_awp (T := T) T_ok hm Tryd.call77 Tryd.func77 rfl rfl rfl ?_
  conv => whnf
  repeat (any_goals (first
    | (refine ⟨fun (h : (_ : Bool) = true) => ?_, fun (h : (_ : Bool) = false) => ?_⟩ <;> (try simp only [decide_eq_true_eq, decide_eq_false_iff_not, Bool.not_eq_true', Bool.not_eq_false', Int.toNat_natCast, beq_iff_eq, decide_eq_decide, beq_eq_false_iff_ne, ne_eq, reduceCtorEq] at h) <;> (conv => whnf))
    | (refine And.intro (by (try simp only [Int.toNat_natCast]); omega) ?_; conv => whnf)
    | (refine And.intro (show (_ : Bool) = true from by kernel_rfl) ?_; conv => whnf)
    | (refine .inl ⟨wrap64 (by omega), ?_⟩; conv => whnf)))
  all_goals first | (refine PSub.sb ?_ ; rw [Bool.eq_iff_iff, zeroA_iff]; simp_all; done) | (refine PSub.lit_sb ?_ ; rw [Bool.eq_iff_iff, zeroA_iff]; simp_all; done) | skip

end Go.Abs

namespace Go.Abs
open Go.Proofs
set_option maxRecDepth 10000

def anyN (n : Nat) (p : Nat → Bool) : Bool := (List.range n).any p

theorem anyN_true {n k : Nat} {p : Nat → Bool} (hk : k < n) (h : p k = true) : anyN n p = true := by
  simp only [anyN, List.any_eq_true, List.mem_range]
  exact ⟨k, hk, h⟩
theorem anyN_false {n : Nat} {p : Nat → Bool} (h : ∀ j, j < n → p j = false) : anyN n p = false := by
  rw [← Bool.not_eq_true]
  simp only [anyN, List.any_eq_true, List.mem_range]
  rintro ⟨j, hj, e⟩
  rw [h j hj] at e; cases e
theorem anyN_iff {n : Nat} {p : Nat → Bool} : anyN n p = true ↔ ∃ k, k < n ∧ p k = true := by simp [anyN]

/-- cluster.numbered -/
def cmdE (c : Clu) (i : Nat) : Int :=
  if validName (c.commands.getD i default).name = false then 10 else if anyN i (fun j => decide ((c.commands.getD j default).name = (c.commands.getD i default).name)) = true then 9
  else if (c.commands.getD i default).param.kind = 0 ∧ zeroA (c.commands.getD i default).param = false then 4
  else if (c.commands.getD i default).param.kind ≠ 0 ∧ defE (c.commands.getD i default).param ≠ 0 then defE (c.commands.getD i default).param
  else firstE (c.commands.getD i default).effects.length fun j => effE c (c.commands.getD i default).param ((c.commands.getD i default).effects.getD j default)

def zAttr : List PV := [vstr ⟨#[]⟩, vint 0, vint 0, vint 0, .val (.slice none 0 0), .val (.bool false), .val (.bool false)]
theorem noAttr_cells : PSubs zAttr (cAttr noAttr) := ⟨.rfl, .rfl, .rfl, .rfl, PSub.nil_ro _ _, PSub.lit_sb rfl, PSub.lit_sb rfl, trivial⟩

theorem ac_cluster_numbered (c : Clu) (i : Nat) (hc : smallK c) (hi : i < c.commands.length) : AC Tryd.prog 70 [.pv (.agg (cClu c)), .pv (vint i)] [] (.pv (vint (cmdE c i))) [] := by
  have hl : c.commands.length ≤ 1048576 := hc.2.2.1
  have hd := hc.2.2.2.1 i
  have hd2 : (c.commands.getD i default).effects.length ≤ 1048576 := hd.2
  refine AC.of_awp (T := T) T_ok hm Tryd.call70 Tryd.func70 rfl rfl rfl ?_
  conv => whnf
  refine And.intro (by omega) ?_
  conv => whnf
  refine .inl ⟨_, ac_names_Valid (c.commands.getD i default).name, ?_⟩
  conv => whnf
  refine ⟨fun h => ?_, fun h => ?_⟩ <;> (try simp only [decide_eq_true_eq, decide_eq_false_iff_not, Bool.not_eq_true', Bool.not_eq_false', Int.toNat_natCast, beq_iff_eq, decide_eq_decide, beq_eq_false_iff_ne, ne_eq, reduceCtorEq] at h) <;> (conv => whnf)
  · exact PSub.int (by simp [cmdE, h, -List.getD_eq_getElem?_getD])
  refine And.intro (by omega) ?_
  conv => whnf
  have hv := h
  refine loop_k (ι := Nat) [2, 5, 24, 25] [2, 5] (fun k => k ≤ i ∧ (∀ j, j < k → decide ((c.commands.getD j default).name = (c.commands.getD i default).name) = false)) (fun k => i - k) 0 (fun k => [(26, .pv (vint k))]) (fun _ => []) [] ⟨Nat.zero_le _, fun j h => absurd h (by omega)⟩ ?_ (fun k hk => ?_)
  · (repeat' (first | exact PSub.rfl | exact rfl | exact PSubs.rfl | exact trivial | refine And.intro ?_ ?_))
  obtain ⟨hkn, hinv⟩ := hk
  conv => whnf
  repeat (any_goals (first
    | (refine ⟨fun (h : (_ : Bool) = true) => ?_, fun (h : (_ : Bool) = false) => ?_⟩ <;> (try simp only [decide_eq_true_eq, decide_eq_false_iff_not, Bool.not_eq_true', Bool.not_eq_false', Int.toNat_natCast, beq_iff_eq, decide_eq_decide, beq_eq_false_iff_ne, ne_eq, reduceCtorEq] at h) <;> (conv => whnf))
    | (refine .inl ⟨_, ac_cluster_zero (c.commands.getD i default).param, ?_⟩; conv => whnf)
    | (refine .inl ⟨_, ac_value_Def (c.commands.getD i default).param hd.1, ?_⟩; conv => whnf)
    | (refine And.intro (by (try simp only [Int.toNat_natCast]); omega) ?_; conv => whnf)
    | (refine And.intro (show (_ : Bool) = true from by kernel_rfl) ?_; conv => whnf)
    | (refine .inl ⟨wrap64 (by omega), ?_⟩; conv => whnf)))
  case' refine_2.refine_2.refine_1.refine_2 =>
    refine ⟨k + 1, [], ⟨by omega, ?_⟩, by first | omega | (dsimp only; omega), ?_⟩
    rotate_left
    · (repeat' (first | exact PSub.rfl | exact rfl | exact PSubs.rfl | exact trivial | refine And.intro ?_ ?_))
    intro j hj
    by_cases e : j = k
    · subst e; first | exact h | simpa [-List.getD_eq_getElem?_getD] using h | simp_all [-List.getD_eq_getElem?_getD]
    · exact hinv j (by omega)
  · have e := anyN_true (n := i) (p := fun j => decide ((c.commands.getD j default).name = (c.commands.getD i default).name)) (k := k) (by omega) (by simpa [-List.getD_eq_getElem?_getD] using h)
    exact PSub.int (by simp [cmdE, hv, e, -List.getD_eq_getElem?_getD])
  all_goals have ef : anyN i (fun j => decide ((c.commands.getD j default).name = (c.commands.getD i default).name)) = false := anyN_false fun j hj => hinv j (by omega)
  all_goals try (exact PSub.int (by simp_all [cmdE, -List.getD_eq_getElem?_getD]; done))
  all_goals
    have e0 : cmdE c i = firstE (c.commands.getD i default).effects.length fun j => effE c (c.commands.getD i default).param ((c.commands.getD i default).effects.getD j default) := by simp_all [cmdE, -List.getD_eq_getElem?_getD]
    rw [e0]
    clear hinv hkn
    refine loop_k (ι := Nat) [2, 5, 51, 52] [2, 5] (fun k2 => k2 ≤ (c.commands.getD i default).effects.length ∧ (∀ j, j < k2 → effE c (c.commands.getD i default).param ((c.commands.getD i default).effects.getD j default) = 0)) (fun k2 => (c.commands.getD i default).effects.length - k2) 0 (fun k2 => [(53, .pv (vint k2))]) (fun _ => []) [] ⟨Nat.zero_le _, fun j h => absurd h (by omega)⟩ ?_ (fun k2 hk => ?_)
    · (repeat' (first | exact PSub.rfl | exact rfl | exact PSubs.rfl | exact trivial | refine And.intro ?_ ?_))
    obtain ⟨hkn, hinv⟩ := hk
    conv => whnf
    repeat (any_goals (first
      | (refine ⟨fun (h : (_ : Bool) = true) => ?_, fun (h : (_ : Bool) = false) => ?_⟩ <;> (try simp only [decide_eq_true_eq, decide_eq_false_iff_not, Bool.not_eq_true', Bool.not_eq_false', Int.toNat_natCast, beq_iff_eq, decide_eq_decide, beq_eq_false_iff_ne, ne_eq, reduceCtorEq] at h) <;> (conv => whnf))
      | (refine .inl ⟨_, ac_cluster_effect c (c.commands.getD i default).param ((c.commands.getD i default).effects.getD k2 default) hc, ?_⟩; conv => whnf)
      | (refine And.intro (by (try simp only [Int.toNat_natCast]); omega) ?_; conv => whnf)
      | (refine And.intro (show (_ : Bool) = true from by kernel_rfl) ?_; conv => whnf)
      | (refine .inl ⟨wrap64 (by omega), ?_⟩; conv => whnf)))
    · exact PSub.int (by rw [firstE_at (k := k2) (by omega) h hinv])
    · refine ⟨k2 + 1, [], ⟨by omega, ?_⟩, by first | omega | (dsimp only; omega), ?_⟩
      rotate_left
      · (repeat' (first | exact PSub.rfl | exact rfl | exact PSubs.rfl | exact trivial | refine And.intro ?_ ?_))
      intro j hj
      by_cases e : j = k2
      · subst e; first | exact h | simpa [-List.getD_eq_getElem?_getD] using h | simp_all [-List.getD_eq_getElem?_getD]
      · exact hinv j (by omega)
    · exact PSub.int (by rw [firstE_none fun j hj => hinv j (by omega)])

end Go.Abs
