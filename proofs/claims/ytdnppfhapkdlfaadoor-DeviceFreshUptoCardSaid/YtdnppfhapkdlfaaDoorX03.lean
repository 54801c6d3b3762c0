/- Code on abstract states: a condition by recursion on the code, and that it implies the model's. -/
import Derived.Test.YtdnppfhapkdlfaaDoorX02
import Derived.IntWalk
import Derived.ChangeArms
import Derived.ChangeOld
import Derived.DataReads
import Derived.Carry
import Derived.ProofKit
import Derived.OpenShut
import Derived.Deep.DeepHandedRow
import Derived.Lib.LaidTab

set_option linter.unusedVariables false
set_option linter.unusedSimpArgs false
set_option linter.unusedSectionVars false

namespace Go.Abs
open Go.RowKit
variable [Globals]

inductive AExit where
  | normal
  | exit (id : Nat)
  | ret

def thenK (next : AState → Prop) (Q : AExit → AState → Prop) : AExit → AState → Prop
  | .normal, s => next s
  | .exit i, s => Q (.exit i) s
  | .ret, s => Q .ret s
def blockK (id : Nat) (Q : AExit → AState → Prop) : AExit → AState → Prop
  | .normal, s => Q .normal s
  | .exit i, s => match Nat.beq i id with
    | true => Q .normal s
    | false => Q (.exit i) s
  | .ret, s => Q .ret s

/-- s is at least what I says (of every frame and world). -/
def AEnt (P : Program) (s I : AState) : Prop := ∀ (E : FEnv) (σ : Sig) (a : Act) (w : World), E.ok → Rel P E s σ a w → ∃ σ', Rel P E I σ' a w

def ren : List (Nat × Nat) → Nat → Nat
  | [], l => l
  | (i, j) :: r, l => match Nat.beq i l with
    | true => j
    | false => ren r l

def entV (r : List (Nat × Nat)) (ob : List (Nat × AObj)) (x y : AV) : Prop :=
  match y with
  | .junk => True
  | .pv q => match x with
    | .pv p => PSub p q
    | _ => False
  | .ptr l off => match x with
    | .ptr l' off' => chk (Nat.beq (ren r l) l') (off' = off)
    | _ => False
  | .own l => match x with
    | .own l' => chk (Nat.beq (ren r l) l') True
    | .pv (.val (.slice none 0 0)) => chk (getO ob (ren r l)).isNone True
    | _ => False
  | .ref l => match x with
    | .ref l' => chk (Nat.beq (ren r l) l') True
    | _ => False
  | y => x = y ∧ refs y = []

def entO (x : Option AObj) (y : AObj) : Prop :=
  match y with
  | .gone => True
  | .pbox cs => match x with
    | some (.pbox ds) => PSubs ds cs
    | _ => False
  | .row size n f => match x with
    | some (.row size' n' f') => chk (Nat.beq size size') (n' = n ∧ ∀ i, i < n → PSubs (f' i) (f i))
    | none => n = 0
    | _ => False
  | .map kk look => match x with
    | some (.map kk' look') => kk' = kk ∧ ∀ k, kk.has k → look' k = look k
    | _ => False
  | .siter s p => match x with
    | some (.siter s' p') => s' = s ∧ p' = p
    | _ => False
  | .box _ => False

def entTs (r : List (Nat × Nat)) (ob : List (Nat × AObj)) (tm : List (Nat × AV)) : List (Nat × AV) → Prop
  | [] => True
  | [(t, y)] => entV r ob (getT tm t) y
  | (t, y) :: l => entV r ob (getT tm t) y ∧ entTs r ob tm l

def entOs (r : List (Nat × Nat)) (ob : List (Nat × AObj)) : List (Nat × AObj) → Prop
  | [] => True
  | (l, y) :: k => entO (getO ob (ren r l)) y ∧ entOs r ob k

/-- every reference in I has its object in I; no two objects of I are one; none is told twice. -/
def wsT (ob : List (Nat × AObj)) : List (Nat × AV) → Bool
  | [] => true
  | (_, v) :: l => (refs v).all (fun i => (getO ob i).isSome) && wsT ob l

def injO (r : List (Nat × Nat)) : List (Nat × AObj) → Bool
  | [] => true
  | (l, _) :: k => k.all (fun x => !Nat.beq l x.1 && !Nat.beq (ren r l) (ren r x.1)) && injO r k

def entS (r : List (Nat × Nat)) (s I : AState) : Prop :=
  match s, I with
  | ⟨tm, ob⟩, ⟨tm', ob'⟩ => chk (wsT ob' tm') (chk (injO r ob') (match ob' with
    | [] => entTs r ob tm tm'
    | ob' => entOs r ob ob' ∧ entTs r ob tm tm'))

theorem getT_mem : ∀ {l : List (Nat × AV)} {t : Nat}, getT l t = .junk ∨ ∃ v, (t, v) ∈ l ∧ getT l t = v
  | [], t => .inl rfl
  | (i, v) :: l, t => by
    rw [getT_cons]
    by_cases h : i = t
    · subst h; rw [if_pos rfl]; exact .inr ⟨v, by simp, rfl⟩
    · rw [if_neg h]
      rcases getT_mem (l := l) (t := t) with h1 | ⟨u, h1, h2⟩
      · exact .inl h1
      · exact .inr ⟨u, by simp [h1], h2⟩

theorem getO_mem : ∀ {l : List (Nat × AObj)} {t : Nat} {o : AObj}, getO l t = some o → (t, o) ∈ l
  | [], t, o, h => by simp [getO] at h
  | (i, x) :: l, t, o, h => by
    rw [getO_cons] at h
    split at h
    · rename_i e; subst e; cases h; simp
    · simp [getO_mem h]

theorem entTs_mem {r : List (Nat × Nat)} {ob : List (Nat × AObj)} {tm : List (Nat × AV)} : ∀ {l : List (Nat × AV)}, entTs r ob tm l → ∀ t v, (t, v) ∈ l → entV r ob (getT tm t) v
  | [(i, x)], h, t, v, hm => by simp at hm; obtain ⟨rfl, rfl⟩ := hm; exact h
  | (i, x) :: y :: l, h, t, v, hm => by
    rcases List.mem_cons.1 hm with e | hm
    · cases e; exact h.1
    · exact entTs_mem h.2 t v hm

theorem entOs_mem {r : List (Nat × Nat)} {ob : List (Nat × AObj)} : ∀ {l : List (Nat × AObj)}, entOs r ob l → ∀ i o, (i, o) ∈ l → entO (getO ob (ren r i)) o
  | (j, x) :: l, h, i, o, hm => by
    rcases List.mem_cons.1 hm with e | hm
    · cases e; exact h.1
    · exact entOs_mem h.2 i o hm

theorem wsT_mem {ob : List (Nat × AObj)} : ∀ {l : List (Nat × AV)}, wsT ob l = true → ∀ t v, (t, v) ∈ l → ∀ i ∈ refs v, getO ob i ≠ none
  | (j, x) :: l, h, t, v, hm => by
    simp only [wsT, Bool.and_eq_true] at h
    rcases List.mem_cons.1 hm with e | hm
    · cases e
      intro i hi hn
      have := List.all_eq_true.1 h.1 i hi
      rw [hn] at this; cases this
    · exact wsT_mem h.2 t v hm

theorem injO_mem {r : List (Nat × Nat)} : ∀ {l : List (Nat × AObj)}, injO r l = true → ∀ i o j p, (i, o) ∈ l → (j, p) ∈ l → ren r i = ren r j → i = j
  | (k, x) :: l, h, i, o, j, p, hi, hj, e => by
    simp only [injO, Bool.and_eq_true] at h
    have key : ∀ (m : Nat) (q : AObj), (m, q) ∈ l → ren r k ≠ ren r m := by
      intro m q hm hh
      have := List.all_eq_true.1 h.1 (m, q) hm
      simp only [Bool.and_eq_true, Bool.not_eq_true'] at this
      rw [hh] at this; simp at this
    rcases List.mem_cons.1 hi with e1 | hi <;> rcases List.mem_cons.1 hj with e2 | hj
    · cases e1; cases e2; rfl
    · cases e1; exact absurd e (key j p hj)
    · cases e2; exact absurd e.symm (key i o hi)
    · exact injO_mem h.2 i o j p hi hj e

theorem entS_sound {P : Program} {r : List (Nat × Nat)} {s I : AState} (h : entS r s I) : AEnt P s I := by
  obtain ⟨tm, ob⟩ := s
  obtain ⟨tm', ob'⟩ := I
  intro E σ a w hE hR
  unfold entS at h
  obtain ⟨hws, h⟩ := chk_true h
  obtain ⟨hinj, h⟩ := chk_true h
  have hO : entOs r ob ob' ∧ entTs r ob tm tm' := by
    cases ob' with
    | nil => exact ⟨trivial, h⟩
    | cons x l => exact h
  obtain ⟨hO, hT⟩ := hO
  -- the new places
  let σ' : Sig := fun l => match getO ob' l with
    | some .gone => none
    | some _ => match getO ob (ren r l) with
      | none => some ⟨.slice none 0 0, none⟩
      | some _ => σ (ren r l)
    | none => none
  have hsub0 : ∀ l loc, σ' l = some loc → ∃ o, getO ob' l = some o ∧ o ≠ .gone ∧ (σ (ren r l) = some loc ∨ (getO ob (ren r l) = none ∧ loc = ⟨.slice none 0 0, none⟩)) := by
    intro l loc e
    simp only [σ'] at e
    split at e
    · cases e
    · rename_i o hne hg
      split at e
      · rename_i hn; cases e; exact ⟨o, hg, fun hh => hne hh, .inr ⟨hn, rfl⟩⟩
      · exact ⟨o, hg, fun hh => hne hh, .inl e⟩
    · cases e
  have hsub : ∀ l loc, σ' l = some loc → getO ob (ren r l) ≠ none → σ (ren r l) = some loc := by
    intro l loc e hne
    obtain ⟨_, _, _, h1⟩ := hsub0 l loc e
    rcases h1 with h1 | ⟨h1, _⟩
    · exact h1
    · exact absurd h1 hne
  have hown : ∀ b, owned σ' b → owned σ b := fun b ⟨l, loc, e, hb⟩ => by
    obtain ⟨_, _, _, h1⟩ := hsub0 l loc e
    rcases h1 with h1 | ⟨_, h1⟩
    · exact ⟨ren r l, loc, h1, hb⟩
    · subst h1; cases hb
  have hmof : ∀ b, b < w.heap.size → Mof E.M0 σ' b → Mof E.M0 σ b := fun b _ hb => hb.elim .inl (fun h => .inr (hown b h))
  have hpv : ∀ (p : PV) (v : Value), PR w (Mof E.M0 σ) p v → PR w (Mof E.M0 σ') p v := fun p v hp => hp.mono (Same.refl _ w) hmof
  refine ⟨σ', hR.sz, hR.df, fun t => ?_, fun l o e => ?_, fun l e => ?_, fun t l hl => ?_, fun i o e l hl => ?_, ?_, fun b hb => hR.own b (hown b hb), hR.ext⟩
  · rcases getT_mem (l := tm') (t := t) with e | ⟨v, hm, e⟩
    · simp only [e]; exact .junk _
    · simp only [e]
      have hv := entTs_mem hT t v hm
      have hx := hR.tm t
      simp only at hx
      unfold entV at hv
      split at hv
      · exact .junk _
      · split at hv
        · rename_i hp; rw [hp] at hx; exact .pv _ _ (hpv _ _ (hv.to _ _ _ (arg_pv hx)))
        · exact hv.elim
      · rename_i l off
        split at hv
        · rename_i l' off' hp
          obtain ⟨h1, rfl⟩ := chk_true hv
          have h1 := Nat.eq_of_beq_eq_true h1
          rw [hp] at hx
          have hne : getO ob (ren r l) ≠ none := by rw [h1]; exact hR.wt t l' (by simp only [hp]; simp [refs])
          refine .ptr _ _ _ fun loc hloc => ?_
          have h2 := hsub _ _ hloc hne
          rw [h1] at h2
          exact arg_ptr hx h2
        · exact hv.elim
      · rename_i l
        split at hv
        · rename_i l' hp
          obtain ⟨h1, _⟩ := chk_true hv
          have h1 := Nat.eq_of_beq_eq_true h1
          rw [hp] at hx
          have hne : getO ob (ren r l) ≠ none := by rw [h1]; exact hR.wt t l' (by simp only [hp]; simp [refs])
          refine .own _ _ fun loc hloc => ?_
          have h2 := hsub _ _ hloc hne
          rw [h1] at h2
          exact arg_own hx h2
        · rename_i hp
          obtain ⟨h1, _⟩ := chk_true hv
          rw [hp] at hx
          refine .own _ _ fun loc hloc => ?_
          obtain ⟨_, _, _, h2⟩ := hsub0 _ _ hloc
          rcases h2 with h2 | ⟨_, h2⟩
          · rw [hR.nob _ (by simpa using h1)] at h2; cases h2
          · subst h2; exact pr_val (arg_pv hx)
        · exact hv.elim
      · rename_i l
        split at hv
        · rename_i l' hp
          obtain ⟨h1, _⟩ := chk_true hv
          have h1 := Nat.eq_of_beq_eq_true h1
          rw [hp] at hx
          have hne : getO ob (ren r l) ≠ none := by rw [h1]; exact hR.wt t l' (by simp only [hp]; simp [refs])
          refine .ref _ _ fun loc hloc => ?_
          have h2 := hsub _ _ hloc hne
          rw [h1] at h2
          exact arg_ref hx h2
        · exact hv.elim
      · obtain ⟨h1, h2⟩ := hv
        rw [h1] at hx
        exact hx.mono (Same.refl _ w) hmof (fun _ _ _ => rfl) (fun l hl => by rw [h2] at hl; simp at hl)
  · have hm := getO_mem e
    have ho := entOs_mem hO l o hm
    by_cases hg : o = .gone
    · subst hg; show σ' l = none; simp only [σ', e]
    · have hσ : getO ob (ren r l) ≠ none → σ' l = σ (ren r l) := by
        intro hne
        cases hx : getO ob (ren r l) with
        | none => exact absurd hx hne
        | some x => simp only [σ', e, hx]
      have fin : ∀ (x : AObj), getO ob (ren r l) = some x → x ≠ .gone → (∀ loc, OR P w E.St (Mof E.M0 σ) σ x loc → OR P w E.St (Mof E.M0 σ') σ' o loc) → At P w E.St E.M0 σ' l o := by
        intro x hx hxg hor
        obtain ⟨loc, h1, h2⟩ := at_live (hR.ob _ x hx) hxg
        have h3 := hor loc h2
        rw [← hσ (by rw [hx]; simp)] at h1
        cases o <;> first | exact ⟨loc, h1, h3⟩ | exact absurd rfl hg
      unfold entO at ho
      split at ho
      · exact absurd rfl hg
      · rename_i cs
        split at ho
        · rename_i ds hx
          refine fin _ hx (by simp) fun loc hor => ?_
          cases hor with
          | pbox _ b vs t hb hl hh h1 =>
            refine .pbox _ b vs t hb (hl.trans ho.length) (fun i p e' => ?_) h1
            obtain ⟨q, hq, hs⟩ := ho.get i p e'
            exact hpv _ _ (hs.to _ _ _ (hh i q hq))
        · exact ho.elim
      · rename_i size n f
        split at ho
        · rename_i size' n' f' hx
          obtain ⟨h1, rfl, h2⟩ := chk_true ho
          have h1 := Nat.eq_of_beq_eq_true h1
          subst h1
          refine fin _ hx (by simp) fun loc hor => ?_
          cases hor with
          | row0 _ _ a => exact .row0 _ _ a
          | row _ _ _ b cap vs t hb hn hmax hsz hs hh h3 =>
            refine .row _ _ _ b cap vs t hb hn hmax hsz (fun i hi => (h2 i hi).length ▸ hs i hi) (fun i hi j p e' => ?_) h3
            obtain ⟨q, hq, hs'⟩ := (h2 i hi).get j p e'
            exact hpv _ _ (hs'.to _ _ _ (hh i hi j q hq))
        · rename_i hx
          subst ho
          exact ⟨⟨.slice none 0 0, none⟩, by simp only [σ', e, hx], .row0 _ _ none⟩
        · exact ho.elim
      · rename_i kk look
        split at ho
        · rename_i kk' look' hx
          obtain ⟨rfl, ho⟩ := ho
          refine fin _ hx (by simp) fun loc hor => ?_
          cases hor with
          | map _ _ rr es clock em ev hr hk hf hh hn => exact .map _ _ rr es clock em ev hr hk (fun k p h1 h2 => hf k p h1 ((ho k h1).trans h2)) (fun k p h1 h2 => hpv _ _ (hh k p h1 ((ho k h1).trans h2))) (fun k h1 h2 => hn k h1 ((ho k h1).trans h2))
        · exact ho.elim
      · rename_i s p
        split at ho
        · rename_i s' p' hx
          obtain ⟨rfl, rfl⟩ := ho
          refine fin _ hx (by simp) fun loc hor => ?_
          cases hor with
          | siter _ _ rr hr => exact .siter _ _ rr hr
        · exact ho.elim
      · exact ho.elim
  · show σ' l = none
    simp only [σ', show getO ob' l = none from e]
  · rcases getT_mem (l := tm') (t := t) with e | ⟨v, hm, e⟩
    · simp only [e] at hl; simp [refs] at hl
    · simp only [e] at hl; exact wsT_mem hws t v hm l hl
  · have ho := entOs_mem hO i o (getO_mem e)
    cases o with
    | box cs => exact ho.elim
    | _ => simp [refsO] at hl
  · intro l l' loc loc' b e e' hb hb'
    obtain ⟨o, h1, _, h2⟩ := hsub0 l loc e
    obtain ⟨o', h1', _, h2'⟩ := hsub0 l' loc' e'
    rcases h2 with h2 | ⟨_, h2⟩
    case inr => subst h2; cases hb
    rcases h2' with h2' | ⟨_, h2'⟩
    case inr => subst h2'; cases hb'
    exact injO_mem hinj l o l' o' (getO_mem h1) (getO_mem h1') (hR.sep _ _ _ _ b h2 h2' hb hb')

def awp (P : Program) (T : Tab) (nt : Nat) : Code → AState → (AExit → AState → Prop) → Prop
  | .skip, s, Q => Q .normal s
  | .region _ ops false, s, Q => arun P T nt ops.toList ops.toList s (Q .normal)
  | .region _ ops true, s, Q => drawOk ops.toList = true ∧ arunD P T nt ops.toList ops.toList s [] (fun s log => logOk ops.toList log = true ∧ Q .normal s)
  | .seq x y, s, Q => awp P T nt x s (thenK (fun s => awp P T nt y s Q) Q)
  | .cond c x y, s, Q => match s with
    | ⟨tm, ob⟩ => match evO tm c with
      | .pv (.val (.bool b)) => (match b with | true => awp P T nt x ⟨tm, ob⟩ Q | false => awp P T nt y ⟨tm, ob⟩ Q)
      | .pv (.sb b) => (b = true → awp P T nt x ⟨tm, ob⟩ Q) ∧ (b = false → awp P T nt y ⟨tm, ob⟩ Q)
      | _ => False
  | .block id c, s, Q => awp P T nt c s (blockK id Q)
  | .loop c, s, Q => ∃ (ι : Type) (J : ι → Prop) (I : ι → AState) (m : ι → Nat) (i0 : ι) (r : List (Nat × Nat)), J i0 ∧ entS r s (I i0) ∧
      ∀ i, J i → awp P T nt c (I i) (thenK (fun s' => ∃ (j : ι) (r : List (Nat × Nat)), J j ∧ m j < m i ∧ entS r s' (I j)) Q)
  | .exit id, s, Q => Q (.exit id) s
  | .ret, s, Q => Q .ret s
  | _, _, _ => False

section
variable {P : Program} {T : Tab} {E : FEnv}

theorem exists_least (p : Nat → Prop) (h : ∃ n, p n) : ∃ n, p n ∧ ∀ k, p k → n ≤ k := by
  obtain ⟨n, hn⟩ := h
  induction n using Nat.strongRecOn with
  | _ n ih =>
    by_cases hk : ∃ k, k < n ∧ p k
    · obtain ⟨k, hlt, hp⟩ := hk
      exact ih k hlt hp
    · exact ⟨n, hn, fun k hp => Nat.le_of_not_lt fun hlt => hk ⟨k, hlt, hp⟩⟩

open Classical in
noncomputable def leastOf (p : Nat → Prop) : Nat := if h : ∃ n, p n then Classical.choose (exists_least p h) else 0
theorem leastOf_spec {p : Nat → Prop} (h : ∃ n, p n) : p (leastOf p) ∧ ∀ k, p k → leastOf p ≤ k := by
  unfold leastOf
  rw [dif_pos h]
  exact Classical.choose_spec (exists_least p h)

/-- A loop whose measure hangs on an index. -/
theorem wp_loop_ix {ι : Type} {c : Code} {Q : Exit → Act → World → Prop} {a : Act} {w : World} {I : ι → Act → World → Prop} (m : ι → Nat) {i0 : ι} (h0 : I i0 a w)
    (round : ∀ i a w, I i a w → c.wp P (Exit.then (fun a' w' => ∃ j, I j a' w' ∧ m j < m i) Q) a w) : (Code.loop c).wp P Q a w := by
  refine wp_loop (fun a w => ∃ i, I i a w) (fun a w => leastOf fun n => ∃ i, m i = n ∧ I i a w) ⟨i0, h0⟩ (fun a w ⟨i, hi⟩ => ?_)
  obtain ⟨⟨k, hk, hI⟩, hmin⟩ := leastOf_spec (p := fun n => ∃ i, m i = n ∧ I i a w) ⟨m i, i, rfl, hi⟩
  refine wp_mono (round k a w hI) (fun e a' w' he => ?_)
  cases e with
  | normal =>
    obtain ⟨j, hj, hlt⟩ := he
    refine ⟨⟨j, hj⟩, ?_⟩
    have := (leastOf_spec (p := fun n => ∃ i, m i = n ∧ I i a' w') ⟨m j, j, rfl, hj⟩).2 (m j) ⟨j, rfl, hj⟩
    omega
  | exit i => exact he
  | ret => exact he
  | goto l => exact he
  | panic c => exact he
  | outgrown => exact he

/-- The model's exits that go with the abstract ones. -/
def exitQ (P : Program) (E : FEnv) (Q : AExit → AState → Prop) : Exit → Act → World → Prop
  | .normal, a, w => ∃ s σ, Q .normal s ∧ Rel P E s σ a w
  | .exit i, a, w => ∃ s σ, Q (.exit i) s ∧ Rel P E s σ a w
  | .ret, a, w => ∃ s σ, Q .ret s ∧ Rel P E s σ a w
  | _, _, _ => False

theorem RelF.drew {tmf : Nat → AV} {obf : Nat → Option AObj} {σ : Sig} {a : Act} {w : World} (h : RelF P E tmf obf σ a w) (n : Nat) : RelF P E tmf obf σ a { w with drawn := n } := by
  have hs : ∀ M : Nat → Prop, Same M w { w with drawn := n } := fun M => ⟨Nat.le_refl _, fun _ _ _ => rfl⟩
  refine ⟨h.sz, h.df, fun t => (h.tm t).mono (hs _) (fun _ _ h => h) (fun _ _ _ => rfl) (fun _ _ _ e => e), fun l o e => ?_, h.nob, h.wt, h.wo, h.sep, h.own, ⟨h.ext.os, h.ext.tape, h.ext.output, h.ext.size, h.ext.block⟩⟩
  have h1 := h.ob l o e
  by_cases hg : o = .gone
  · subst hg; exact h1
  · obtain ⟨loc, h2, h3⟩ := at_live h1 hg
    have h4 : OR P { w with drawn := n } E.St (Mof E.M0 σ) σ o loc := h3.mono (hs _) (fun _ _ h => h) (fun _ _ _ => rfl) (fun _ _ _ e => e) (fun _ _ => rfl)
    cases o <;> first | exact ⟨loc, h2, h4⟩ | exact absurd rfl hg

theorem awp_sound (hE : E.ok) (hT : T.ok P) (hm : P.follows .mixedOrders = true) : ∀ (c : Code) (s : AState) (Q : AExit → AState → Prop) (σ : Sig) (a : Act) (w : World), Rel P E s σ a w → awp P T E.nt c s Q → c.wp P (exitQ P E Q) a w
  | .skip, s, Q, σ, a, w, hR, h => wp_skip ⟨s, σ, h, hR⟩
  | .region id ops dr, s, Q, σ, a, w, hR, h => by
    cases dr with
    | false =>
      refine wp_region ?_
      have := arun_sound hE hT (Q := exitQ P E Q) (fun s σ a w hs hR => ⟨s, σ, hs, hR⟩) ops.toList 0 s σ a w (fun j => by simp) hR h
      rw [List.range_eq_range']
      simpa using this
    | true =>
      obtain ⟨h1, h2⟩ := h
      exact wp_region_any hm (arunD_sound hE hT h1 (fun s σ a w hs hR => ⟨s, σ, hs, hR⟩) (RelF.drew hR _) h2)
  | .seq x y, s, Q, σ, a, w, hR, h => by
    refine wp_seq (wp_mono (awp_sound hE hT hm x s _ σ a w hR h) (fun e a' w' he => ?_))
    cases e with
    | normal => obtain ⟨s', σ', hq, hR'⟩ := he; exact awp_sound hE hT hm y s' Q σ' a' w' hR' hq
    | exit i => exact he
    | ret => exact he
    | goto l => exact he.elim
    | panic c => exact he.elim
    | outgrown => exact he.elim
  | .cond c x y, s, Q, σ, a, w, hR, h => by
    obtain ⟨tm, ob⟩ := s
    have hc := evO_rel hE hR c
    unfold awp at h
    simp only at h
    split at h
    · rename_i b hb
      rw [show evO tm c = .pv (.val (.bool b)) from hb] at hc
      have hv := pr_val (arg_pv hc)
      refine wp_cond hv ?_
      cases b with
      | true => exact awp_sound hE hT hm x _ Q σ a w hR h
      | false => exact awp_sound hE hT hm y _ Q σ a w hR h
    · rename_i b hb
      rw [show evO tm c = .pv (.sb b) from hb] at hc
      have hv := pr_sb (arg_pv hc)
      refine wp_cond hv ?_
      cases b with
      | true => exact awp_sound hE hT hm x _ Q σ a w hR (h.1 rfl)
      | false => exact awp_sound hE hT hm y _ Q σ a w hR (h.2 rfl)
    · exact h.elim
  | .block id c, s, Q, σ, a, w, hR, h => by
    refine wp_block (wp_mono (awp_sound hE hT hm c s _ σ a w hR h) (fun e a' w' he => ?_))
    cases e with
    | normal => exact he
    | exit i =>
      obtain ⟨s', σ', hq, hR'⟩ := he
      have hq : (match Nat.beq i id with | true => Q .normal s' | false => Q (.exit i) s') := hq
      simp only [Exit.inBlock]
      cases hb : Nat.beq i id with
      | true =>
        rw [hb] at hq
        rw [if_pos (Nat.eq_of_beq_eq_true hb)]
        exact ⟨s', σ', hq, hR'⟩
      | false =>
        rw [hb] at hq
        rw [if_neg (fun e => by rw [e] at hb; simp at hb)]
        exact ⟨s', σ', hq, hR'⟩
    | ret => exact he
    | goto l => exact he.elim
    | panic c => exact he.elim
    | outgrown => exact he.elim
  | .loop c, s, Q, σ, a, w, hR, h => by
    obtain ⟨ι, J, I, m, i0, r0, hJ, hent, hround⟩ := h
    obtain ⟨σ0, hR0⟩ := entS_sound hent E σ a w hE hR
    refine wp_loop_ix (I := fun i a w => J i ∧ ∃ σ, Rel P E (I i) σ a w) m (i0 := i0) ⟨hJ, σ0, hR0⟩ (fun i a w ⟨hj, σ, hr⟩ => ?_)
    refine wp_mono (awp_sound hE hT hm c (I i) _ σ a w hr (hround i hj)) (fun e a' w' he => ?_)
    cases e with
    | normal =>
      obtain ⟨s', σ', ⟨j, r', hj', hlt, hent'⟩, hR'⟩ := he
      obtain ⟨σ2, hR2⟩ := entS_sound hent' E σ' a' w' hE hR'
      exact ⟨j, ⟨hj', σ2, hR2⟩, hlt⟩
    | exit i => exact he
    | ret => exact he
    | goto l => exact he.elim
    | panic c => exact he.elim
    | outgrown => exact he.elim
  | .exit id, s, Q, σ, a, w, hR, h => wp_exit ⟨s, σ, h, hR⟩
  | .ret, s, Q, σ, a, w, hR, h => wp_ret ⟨s, σ, h, hR⟩
  | .rangeFunc .., s, Q, σ, a, w, hR, h => h.elim
  | .scope _, s, Q, σ, a, w, hR, h => h.elim
  | .label _, s, Q, σ, a, w, hR, h => h.elim
  | .goto _, s, Q, σ, a, w, hR, h => h.elim
  | .refuse _, s, Q, σ, a, w, hR, h => h.elim

end

end Go.Abs

namespace Go.Abs
open Go.RowKit
variable [Globals]

def argTm : Nat → List AV → List (Nat × AV)
  | _, [] => []
  | i, a :: l => (i, a) :: argTm (i + 1) l

theorem argTm_get : ∀ {l : List AV} {i t : Nat}, getT (argTm i l) t = if t < i then .junk else (l[t - i]?).getD .junk
  | [], i, t => by simp [argTm, getT]
  | a :: l, i, t => by
    simp only [argTm, getT_cons]
    rw [argTm_get (l := l) (i := i + 1) (t := t)]
    by_cases h : i = t
    · subst h; simp
    · rw [if_neg h]
      by_cases h1 : t < i
      · rw [if_pos (by omega), if_pos h1]
      · rw [if_neg (by omega), if_neg h1]
        have : t - i = (t - (i + 1)) + 1 := by omega
        rw [this, List.getElem?_cons_succ]

/-- The value in hand is, or can be handed over as, p. -/
def resOK (s : AState) (x : AV) (p : PV) : Prop :=
  match s with
  | ⟨_, ob⟩ => match borrowV (getO ob) x with
    | .pv q => PSub q p
    | _ => False

/-- .. of a result, in its slot or in its cell -/
def resV (T : Tab) (s : AState) (rv : ResultVar) (p : PV) : Prop :=
  match rv with
  | .tmp t => match s with
    | ⟨tm, ob⟩ => resOK ⟨tm, ob⟩ (getT tm t) p
  | .cell a ty => match s with
    | ⟨tm, ob⟩ => match T ty with
      | some y => match getT tm a with
        | .ptr l off => match getO ob l with
          | some (.pbox cs) => loadP y cs off fun q => PSub q p
          | _ => False
        | _ => False
      | none => False

def resQ (T : Tab) (rs : List ResultVar) (res : PV) (s : AState) : Prop :=
  match rs with
  | [] => res = .tup []
  | [a] => resV T s a res
  | [a, b] => match res with
    | .tup [p, q] => resV T s a p ∧ resV T s b q
    | _ => False
  | [a, b, c] => match res with
    | .tup [p, q, r] => resV T s a p ∧ resV T s b q ∧ resV T s c r
    | _ => False
  | [a, b, c, d] => match res with
    | .tup [p, q, r, z] => resV T s a p ∧ resV T s b q ∧ resV T s c r ∧ resV T s d z
    | _ => False
  | _ => False

def pureQ (T : Tab) (fn : Func) (res : PV) : AExit → AState → Prop
  | .exit _, _ => False
  | .normal, s => resQ T fn.results.toList res s
  | .ret, s => resQ T fn.results.toList res s

theorem resOK_val {P : Program} {E : FEnv} (hE : E.ok) {s : AState} {σ : Sig} {a : Act} {w : World} (hR : Rel P E s σ a w) {t : Nat} {p : PV} (h : resOK s (getT s.tm t) p) : PR w E.M0 p (a.tmps.getD t undef) := by
  obtain ⟨tm, ob⟩ := s
  unfold resOK at h
  have hA := borrow_rel (ob := getO ob) (L := refs (getT tm t)) (hR.inv hE) (hR.tm t) (fun l hl => hl) (fun l _ obj e => hR.ob l obj e)
  simp only at h
  split at h
  · rename_i q hq
    rw [hq] at hA
    exact h.to _ _ _ ((arg_pv hA).mono (Same.refl _ w) (fun b _ hb => .inl hb))
  · exact h.elim

def rvRun (tmps : Array Value) : ResultVar → Sem Value
  | .tmp t => pure (tmps.getD t undef)
  | .cell a t => do loadVar t (← asAddr (tmps.getD a undef))

theorem results_eq {fn : Func} {tmps : Array Value} {l : List ResultVar} (h : fn.results.toList = l) : results fn tmps = (do let vs ← l.toArray.mapM (rvRun tmps); pure (if h : vs.size = 1 then vs[0] else .tuple vs)) := by
  have : fn.results = l.toArray := by rw [← h]
  unfold results
  rw [this]
  rfl

theorem resV_run {P : Program} {T : Tab} {E : FEnv} (hE : E.ok) (hT : T.ok P) {s : AState} {σ : Sig} {a : Act} {w : World} (hR : Rel P E s σ a w) {rv : ResultVar} {p : PV} (h : resV T s rv p) : ∃ v, (rvRun a.tmps rv).run P w = .ok v w ∧ PR w E.M0 p v := by
  obtain ⟨tm, ob⟩ := s
  cases rv with
  | tmp t => exact ⟨_, rfl, resOK_val hE hR h⟩
  | cell x ty =>
    unfold resV at h
    simp only at h
    split at h
    · rename_i y hy
      split at h
      · rename_i l off hx
        split at h
        · rename_i cs hob
          obtain ⟨q, hs, hq⟩ := loadP_split h
          obtain ⟨b, vs, t', hl, hb, hsz, hp, hone⟩ := at_pbox (hR.ob l _ hob)
          have hA := hR.tm x
          rw [show getT tm x = .ptr l off from hx] at hA
          obtain ⟨b', hb', hv⟩ := arg_ptr hA hl
          cases hb'
          obtain ⟨v, hr, hpv⟩ := run_loadP hT hy (Cells.pbox hb hsz hp hone) hq
          rw [add_block0] at hr
          refine ⟨v, ?_, hs.to _ _ _ (hpv.mono (Same.refl _ w) (fun b _ hb => .inl hb))⟩
          have hv' : a.tmps[x]?.getD undef = .pointer (some ⟨b, off, none⟩) := by rw [← hv]; simp [Array.getD_eq_getD_getElem?]
          simp [rvRun, asAddr, hv', hr]
        · exact h.elim
      · exact h.elim
    · exact h.elim

theorem results_run {P : Program} {T : Tab} {E : FEnv} (hE : E.ok) (hT : T.ok P) {s : AState} {σ : Sig} {a : Act} {w : World} (hR : Rel P E s σ a w) {fn : Func} {res : PV} (h : resQ T fn.results.toList res s) :
    ∃ v, (results fn a.tmps).run P w = .ok v w ∧ PR w E.M0 res v := by
  unfold resQ at h
  split at h
  · rename_i hr
    exact ⟨.tuple #[], by rw [results_eq hr]; simp, by rw [h]; exact .tup [] #[] rfl (fun i p e => by simp at e)⟩
  · rename_i x hr
    obtain ⟨v, h1, h2⟩ := resV_run hE hT hR h
    exact ⟨v, by rw [results_eq hr]; simp [h1], h2⟩
  · rename_i x y hr
    split at h
    · rename_i p q
      obtain ⟨h1, h2⟩ := h
      obtain ⟨v1, r1, p1⟩ := resV_run hE hT hR h1
      obtain ⟨v2, r2, p2⟩ := resV_run hE hT hR h2
      refine ⟨.tuple #[v1, v2], by rw [results_eq hr]; simp [r1, r2], .tup _ _ rfl (fun i x e => ?_)⟩
      match i, e with
      | 0, e => simp at e; subst e; exact p1
      | 1, e => simp at e; subst e; exact p2
      | i + 2, e => simp at e
    · exact h.elim
  · rename_i x y z hr
    split at h
    · rename_i p q r
      obtain ⟨h1, h2, h3⟩ := h
      obtain ⟨v1, r1, p1⟩ := resV_run hE hT hR h1
      obtain ⟨v2, r2, p2⟩ := resV_run hE hT hR h2
      obtain ⟨v3, r3, p3⟩ := resV_run hE hT hR h3
      refine ⟨.tuple #[v1, v2, v3], by rw [results_eq hr]; simp [r1, r2, r3], .tup _ _ rfl (fun i x e => ?_)⟩
      match i, e with
      | 0, e => simp at e; subst e; exact p1
      | 1, e => simp at e; subst e; exact p2
      | 2, e => simp at e; subst e; exact p3
      | i + 3, e => simp at e
    · exact h.elim
  · rename_i x y z u hr
    split at h
    · rename_i p q r pz
      obtain ⟨h1, h2, h3, h4⟩ := h
      obtain ⟨v1, r1, p1⟩ := resV_run hE hT hR h1
      obtain ⟨v2, r2, p2⟩ := resV_run hE hT hR h2
      obtain ⟨v3, r3, p3⟩ := resV_run hE hT hR h3
      obtain ⟨v4, r4, p4⟩ := resV_run hE hT hR h4
      refine ⟨.tuple #[v1, v2, v3, v4], by rw [results_eq hr]; simp [r1, r2, r3, r4], .tup _ _ rfl (fun i x e => ?_)⟩
      match i, e with
      | 0, e => simp at e; subst e; exact p1
      | 1, e => simp at e; subst e; exact p2
      | 2, e => simp at e; subst e; exact p3
      | 3, e => simp at e; subst e; exact p4
      | i + 4, e => simp at e
    · exact h.elim
  · exact h.elim

def noRefs : List AV → Bool
  | [] => true
  | .pv _ :: l => noRefs l
  | .clo _ _ _ _ :: l => noRefs l
  | _ :: _ => false

theorem noRefs_spec : ∀ {l : List AV}, noRefs l = true → ∀ (i : Nat) (x : AV), l[i]? = some x → refs x = []
  | .pv _ :: l, h, 0, x, e => by simp at e; subst e; rfl
  | .clo _ _ _ _ :: l, h, 0, x, e => by simp at e; subst e; rfl
  | .pv _ :: l, h, i + 1, x, e => noRefs_spec (l := l) (by simpa [noRefs] using h) i x (by simpa using e)
  | .clo _ _ _ _ :: l, h, i + 1, x, e => noRefs_spec (l := l) (by simpa [noRefs] using h) i x (by simpa using e)

/-- A function that is handed pure data (and functions) and hands back pure data. -/
theorem AC.of_awp {P : Program} {T : Tab} {f : FuncId} {fn : Func} {c : Code} {args : List AV} {res : PV} (hT : T.ok P) (hm : P.follows .mixedOrders = true) (hcall : ∀ (vals : Array Value) (w : World), (callFunc f vals).run P w = .ok (.enter f vals) w)
    (hf : P.funcs[f]? = some fn) (hb : fn.body = some c) (hn : Nat.ble args.length fn.ntmps = true) (hp : noRefs args = true) (h : awp P T fn.ntmps c ⟨argTm 0 args, []⟩ (pureQ T fn res)) : AC P f args [] (.pv res) [] := by
  refine ⟨hcall, fun St M0 σ w vals hi hσ _ hl hA => ?_⟩
  have hσ' : σ = fun _ => none := funext fun l => hσ l rfl
  subst hσ'
  have hown : ∀ b, ¬ owned (fun _ => none) b := fun b ⟨l, loc, h, _⟩ => by cases h
  have hle := Nat.le_of_ble_eq_true hn
  have hE : FEnv.ok ⟨fn.ntmps, St, M0, fun _ => False, w⟩ := ⟨fun b hb => ⟨(hi.m0 b hb).1, id⟩, fun b hb => ⟨(hi.st b hb).1, id⟩, hi.gl.mono (Same.refl _ w) (fun b _ hb => .inl (hb.elim id False.elim))⟩
  have hget : ∀ t x, getT (argTm 0 args) t = x → x = .junk ∨ args[t]? = some x := by
    intro t x e
    rw [argTm_get, if_neg (by omega)] at e
    cases ha : args[t - 0]? with
    | none => rw [ha] at e; exact .inl e.symm
    | some y => rw [ha] at e; simp at e ha; subst e; exact .inr rfl
  have hR : Rel P ⟨fn.ntmps, St, M0, fun _ => False, w⟩ ⟨argTm 0 args, []⟩ (fun _ => none) { tmps := vals ++ Array.replicate (fn.ntmps - vals.size) undef, defers := [] } w := by
    refine ⟨by simp; omega, rfl, fun t => ?_, fun l o e => by simp [getO] at e, fun _ _ => rfl, fun t l hl' => ?_, fun i o e => by simp [getO] at e, fun l l' loc loc' b e => (by cases e), fun b hb => absurd hb (hown b), FExt.refl _ w⟩
    · rcases hget t _ rfl with e | e
      · rw [e]; exact .junk _
      · have := hA t _ e
        have hlt : t < args.length := (List.getElem?_eq_some_iff.1 e).1
        rw [getD_append_left (by omega)]
        exact this
    · rcases hget t _ rfl with e | e
      · rw [e] at hl'; simp [refs] at hl'
      · rw [noRefs_spec hp t _ e] at hl'; simp at hl'
  refine calls_of_wp hf hb (wp_mono (awp_sound hE hT hm c _ _ _ _ w hR h) (fun e a' w' he => ?_))
  have fin : (∃ s σ, resQ T fn.results.toList res s ∧ Rel P ⟨fn.ntmps, St, M0, fun _ => False, w⟩ s σ a' w') → a'.defers = [] ∧ ∃ v, (results fn a'.tmps).run P w' = .ok v w' ∧ ∃ v_1 σ', Ending.returned v = .returned v_1 ∧ Post P St M0 (fun _ => none) w [] (.pv res) σ' v_1 w' := by
    rintro ⟨s, σ, hq, hR'⟩
    obtain ⟨v, hr, hpv⟩ := results_run hE hT hR' hq
    refine ⟨hR'.df, v, hr, v, fun _ => none, rfl, ?_⟩
    refine ⟨.pv _ _ (hpv.mono (Same.refl _ w') (fun b _ hb => ?_)), fun l o e => by simp [getO] at e, fun _ _ => rfl, fun l loc loc' e => (by cases e), fun l l' loc loc' b e => (by cases e), fun b hb => absurd hb (hown b), hR'.ext.mono (fun _ _ h => h.elim)⟩
    rcases hb with hb | hb
    · exact hb
    · exact absurd hb (hown b)
  cases e with
  | normal => exact fin he
  | ret => exact fin he
  | exit i => obtain ⟨s, σ, hq, _⟩ := he; exact hq.elim
  | goto l => exact he.elim
  | panic c => exact he.elim
  | outgrown => exact he.elim

/-- .. and what it gives of a call in the model's words. -/
theorem AC.calls {P : Program} {f : FuncId} {args : List AV} {res : PV} (h : AC P f args [] (.pv res) []) {w : World} {vals : Array Value} (hg : Glob w (fun _ => False)) (hl : vals.size = args.length)
    (hA : ∀ i x, args[i]? = some x → AR P w (fun b => b < w.heap.size) (fun _ => False) (fun _ => none) x (vals.getD i undef)) :
    Calls P f vals w (fun e w' => ∃ v, e = .returned v ∧ PR w' (fun _ => False) res v ∧ Below w.heap.size w w') := by
  have hown : ∀ b, ¬ owned (fun _ => none) b := fun b ⟨l, loc, h, _⟩ => by cases h
  have hM : Mof (fun _ => False) (fun _ => none) = fun _ => False := funext fun b => propext ⟨fun h => h.elim id (hown b), False.elim⟩
  refine (h.2 (fun b => b < w.heap.size) (fun _ => False) (fun _ => none) w vals ⟨fun l l' loc loc' b e => (by cases e), fun b h => absurd h (hown b), fun b h => h.elim, fun b h => ⟨h, hown b⟩, by rw [hM]; exact hg⟩ (fun _ _ => rfl) (fun l o e => by simp [getO] at e) hl (by rw [hM]; exact hA)).mono ?_
  rintro e w' ⟨v, σ', rfl, hp⟩
  have hσ : σ' = fun _ => none := funext fun l => hp.old l rfl
  subst hσ
  have hv := arg_pv hp.val
  rw [hM] at hv
  exact ⟨v, rfl, hv, hp.ext.os, hp.ext.tape, hp.ext.output, hp.ext.size, fun b hb => hp.ext.block b hb (fun ⟨l, loc, h, _⟩ => (h rfl).elim)⟩

/-- A function that hands back a new row. -/
def ownQ (fn : Func) (size n : Nat) (g : Nat → List PV) (s : AState) : Prop :=
  match s with
  | ⟨tm, ob⟩ => match fn.results.toList with
    | [.tmp t] => match getT tm t with
      | .own l => match getO ob l with
        | some (.row s' n' f') => chk (Nat.beq s' size) (n' = n ∧ ∀ i, i < n → PSubs (f' i) (g i))
        | _ => False
      | .pv (.val (.slice none 0 0)) => n = 0
      | _ => False
    | _ => False

def ownE (fn : Func) (size n : Nat) (g : Nat → List PV) : AExit → AState → Prop
  | .exit _, _ => False
  | .normal, s => ownQ fn size n g s
  | .ret, s => ownQ fn size n g s

theorem AC.of_awp_own {P : Program} {T : Tab} {f : FuncId} {fn : Func} {c : Code} {args : List AV} {size n : Nat} {g : Nat → List PV} (hT : T.ok P) (hm : P.follows .mixedOrders = true) (hcall : ∀ (vals : Array Value) (w : World), (callFunc f vals).run P w = .ok (.enter f vals) w)
    (hf : P.funcs[f]? = some fn) (hb : fn.body = some c) (hn : Nat.ble args.length fn.ntmps = true) (hp : noRefs args = true) (h : awp P T fn.ntmps c ⟨argTm 0 args, []⟩ (ownE fn size n g)) : AC P f args [] (.own 0) [(0, .row size n g)] := by
  refine ⟨hcall, fun St M0 σ w vals hi hσ _ hl hA => ?_⟩
  have hσ' : σ = fun _ => none := funext fun l => hσ l rfl
  subst hσ'
  have hown : ∀ b, ¬ owned (fun _ => none) b := fun b ⟨l, loc, h, _⟩ => by cases h
  have hle := Nat.le_of_ble_eq_true hn
  have hE : FEnv.ok ⟨fn.ntmps, St, M0, fun _ => False, w⟩ := ⟨fun b hb => ⟨(hi.m0 b hb).1, id⟩, fun b hb => ⟨(hi.st b hb).1, id⟩, hi.gl.mono (Same.refl _ w) (fun b _ hb => .inl (hb.elim id False.elim))⟩
  have hget : ∀ t x, getT (argTm 0 args) t = x → x = .junk ∨ args[t]? = some x := by
    intro t x e
    rw [argTm_get, if_neg (by omega)] at e
    cases ha : args[t - 0]? with
    | none => rw [ha] at e; exact .inl e.symm
    | some y => rw [ha] at e; simp at e ha; subst e; exact .inr rfl
  have hR : Rel P ⟨fn.ntmps, St, M0, fun _ => False, w⟩ ⟨argTm 0 args, []⟩ (fun _ => none) { tmps := vals ++ Array.replicate (fn.ntmps - vals.size) undef, defers := [] } w := by
    refine ⟨by simp; omega, rfl, fun t => ?_, fun l o e => by simp [getO] at e, fun _ _ => rfl, fun t l hl' => ?_, fun i o e => by simp [getO] at e, fun l l' loc loc' b e => (by cases e), fun b hb => absurd hb (hown b), FExt.refl _ w⟩
    · rcases hget t _ rfl with e | e
      · rw [e]; exact .junk _
      · have := hA t _ e
        have hlt : t < args.length := (List.getElem?_eq_some_iff.1 e).1
        rw [getD_append_left (by omega)]
        exact this
    · rcases hget t _ rfl with e | e
      · rw [e] at hl'; simp [refs] at hl'
      · rw [noRefs_spec hp t _ e] at hl'; simp at hl'
  refine calls_of_wp hf hb (wp_mono (awp_sound hE hT hm c _ _ _ _ w hR h) (fun e a' w' he => ?_))
  have fin : (∃ s σ, ownQ fn size n g s ∧ Rel P ⟨fn.ntmps, St, M0, fun _ => False, w⟩ s σ a' w') → a'.defers = [] ∧ ∃ v, (results fn a'.tmps).run P w' = .ok v w' ∧ ∃ v_1 σ', Ending.returned v = .returned v_1 ∧ Post P St M0 (fun _ => none) w [(0, .row size n g)] (.own 0) σ' v_1 w' := by
    rintro ⟨⟨tm, ob⟩, σ, hq, hR'⟩
    have hc : ∀ l : List ResultVar, fn.results.toList = l → fn.results = l.toArray := fun l e => by rw [← e]
    have mk : ∀ (loc : Loc), (∀ b, loc.blk = some b → Mof M0 σ b ∧ w.heap.size ≤ b) → OR P w' St (Mof M0 σ) σ (.row size n g) loc → Post P St M0 (fun _ => none) w [(0, .row size n g)] (.own 0) (upd1 (fun _ => none) 0 loc) loc.ref w' := by
      intro loc hlb hor
      have hMM : ∀ b, b < w'.heap.size → Mof M0 (upd1 (fun _ => none) 0 loc) b → Mof M0 σ b := by
        intro b _ hb
        rcases hb with hb | hb
        · exact .inl hb
        · rcases owned_upd1 hb with h | h
          · exact absurd h (hown b)
          · exact (hlb b h).1
      refine ⟨.own _ _ fun lc h => by simp [upd1] at h; rw [h], fun k x e => ?_, fun k e => ?_, fun k lc lc' e => (by cases e), ?_, fun b h => ?_, hR'.ext.mono (fun _ _ h => h.elim)⟩
      · rw [getO_one] at e
        split at e
        · rename_i h; cases e; subst h
          refine ⟨loc, by simp [upd1], ?_⟩
          cases hor with
          | row0 _ _ a => exact .row0 _ _ a
          | row _ _ _ b cap vs t hb hn hmax hsz hs hh h1 => exact .row _ _ _ b cap vs t hb hn hmax hsz hs (fun i hi j p e => (hh i hi j p e).mono (Same.refl _ w') hMM) h1
        · cases e
      · rw [getO_one] at e
        split at e
        · cases e
        · rename_i h; simp [upd1, show ¬ k = 0 from fun x => h x.symm]
      · intro k k' lc lc' b e e' _ _
        unfold upd1 at e e'
        split at e <;> split at e'
        · rename_i h h'; rw [h, h']
        · cases e'
        · cases e
        · cases e
      · rcases owned_upd1 h with h | h
        · exact absurd h (hown b)
        · exact .inr (hlb b h).2
    unfold ownQ at hq
    simp only at hq
    split at hq
    · rename_i t hr
      have htm := hR'.tm t
      simp only at htm
      split at hq
      · rename_i l hv
        split at hq
        · rename_i s' n' f' hob
          obtain ⟨h1, h2, h3⟩ := chk_true hq
          have h1 := Nat.eq_of_beq_eq_true h1
          subst h1; subst h2
          obtain ⟨loc, hloc, hor⟩ := hR'.ob l _ hob
          rw [hv] at htm
          have hval := arg_own htm hloc
          have hlb : ∀ b, loc.blk = some b → Mof M0 σ b ∧ w.heap.size ≤ b := fun b hb => ⟨.inr ⟨l, loc, hloc, hb⟩, by
            rcases hR'.own b ⟨l, loc, hloc, hb⟩ with h | h
            · exact h.elim
            · exact h⟩
          refine ⟨hR'.df, _, by simp [results, hc _ hr]; rfl, _, upd1 (fun _ => none) 0 loc, rfl, ?_⟩
          have h4 : a'.tmps.getD t undef = loc.ref := hval
          have h5 : a'.tmps[t]?.getD undef = loc.ref := by rw [← h4]; simp [Array.getD_eq_getD_getElem?]
          rw [h5]
          refine mk loc hlb ?_
          cases hor with
          | row0 _ _ a => exact .row0 _ _ a
          | row _ _ _ b cap vs t hb hn hmax hsz hs hh h6 =>
            refine .row _ _ _ b cap vs t hb hn hmax hsz (fun i hi => (h3 i hi).length ▸ hs i hi) (fun i hi j p e => ?_) h6
            obtain ⟨q, hq, hs'⟩ := (h3 i hi).get j p e
            exact hs'.to _ _ _ (hh i hi j q hq)
        · exact hq.elim
      · rename_i hv
        subst hq
        rw [hv] at htm
        have h4 : a'.tmps.getD t undef = .slice none 0 0 := pr_val (arg_pv htm)
        have h5 : a'.tmps[t]?.getD undef = .slice none 0 0 := by rw [← h4]; simp [Array.getD_eq_getD_getElem?]
        refine ⟨hR'.df, _, by simp [results, hc _ hr]; rfl, _, upd1 (fun _ => none) 0 ⟨.slice none 0 0, none⟩, rfl, ?_⟩
        rw [h5]
        exact mk ⟨.slice none 0 0, none⟩ (fun b hb => by cases hb) (.row0 _ _ none)
      · exact hq.elim
    · exact hq.elim
  cases e with
  | normal => exact fin he
  | ret => exact fin he
  | exit i => obtain ⟨s, σ, hq, _⟩ := he; exact hq.elim
  | goto l => exact he.elim
  | panic c => exact he.elim
  | outgrown => exact he.elim

/-- A function that is handed a function: from what it does with any that answers so, to what it does with this one. -/
theorem AC.with_fn {P : Program} {g f : FuncId} {pre post caps : List AV} {dom : List PV → Prop} {isB : Bool} {gb : List PV → Bool} {gi : List PV → Int} {res : PV} (h : AC P g (pre ++ .clo dom isB gb gi :: post) [] (.pv res) [])
    (hcall : ∀ (vals : Array Value) (w : World), (callFunc f vals).run P w = .ok (.enter f vals) w) (hpre : noRefs pre = true) (hpost : noRefs post = true) (hcaps : noRefs caps = true)
    (hf : ∀ xs, dom xs → AC P f (xs.map .pv ++ caps) [] (.pv (cloRes isB gb gi xs)) []) : AC P g (pre ++ .fn f caps :: post) [] (.pv res) [] := by
  refine ⟨h.1, fun St M0 σ w vals hi hσ hos hl hA => ?_⟩
  have hσ' : σ = fun _ => none := funext fun l => hσ l rfl
  subst hσ'
  have hown : ∀ b, ¬ owned (fun _ => none) b := fun b ⟨l, loc, h, _⟩ => by cases h
  have hmono : ∀ (x : AV) (v : Value), refs x = [] → AR P w St (Mof M0 fun _ => none) (fun _ => none) x v → AR P w (fun b => b < w.heap.size) (Mof M0 fun _ => none) (fun _ => none) x v := by
    intro x v _ hx
    induction hx with
    | pv p v h => exact .pv p v h
    | junk v => exact .junk v
    | ptr l off v h => exact .ptr l off v h
    | eptr l s i j v h => exact .eptr l s i j v h
    | own l v h => exact .own l v h
    | ref l v h => exact .ref l v h
    | fn f caps vs hl _ ih => exact .fn f caps vs hl (fun i c e => ih i c e (by
        rename_i hr
        have := refs_sub e
        cases hc : refs c with
        | nil => rfl
        | cons a b => have := this a (by simp [hc]); simp [refs] at hr; rw [hr] at this; simp at this))
    | clo dom isB gb gi f caps C hC h => exact .clo dom isB gb gi f caps C (fun b hb => ⟨(hC b hb).2, (hC b hb).2⟩) h
  have hinv : Inv (fun b => b < w.heap.size) M0 (fun _ => none) w := ⟨hi.sep, hi.lt, hi.m0, fun b h => ⟨h, hown b⟩, hi.gl⟩
  refine (h.2 (fun b => b < w.heap.size) M0 (fun _ => none) w vals hinv (fun _ _ => rfl) (fun l o e => by simp [getO] at e) (by simpa using hl) (fun i x hx => ?_)).mono ?_
  · by_cases h1 : i = pre.length
    · subst h1
      simp at hx
      subst hx
      have hfv := hA pre.length (.fn f caps) (by simp)
      cases hv : vals.getD pre.length undef with
      | func fn first vs => _
      | _ => rw [hv] at hfv; cases hfv
      rw [hv] at hfv
      cases hfv with
      | fn _ _ _ hlc hcap =>
        refine .clo _ _ _ _ f vs (fun b => b < w.heap.size) (fun b hb => ⟨hb, hb⟩) ⟨hcall, ?_⟩
        intro w' M xs vs' hd hsz hblk hlen hx
        obtain ⟨_, hrun⟩ := hf xs hd
        have hsame : ∀ M, Same M w w' := fun M => ⟨hsz, fun b hb _ => hblk b hb⟩
        have hM0 : Mof M0 (fun _ => none) = M0 := funext fun b => propext ⟨fun h => h.elim id (fun h => absurd h (hown b)), .inl⟩
        have hMF : Mof (fun b => M b ∧ w'.heap.size ≤ b ∧ False) (fun _ => none) = fun _ => False := funext fun b => propext ⟨fun h => h.elim (fun h => h.2.2) (fun h => absurd h (hown b)), False.elim⟩
        refine (hrun (fun b => b < w'.heap.size) (fun b => M b ∧ w'.heap.size ≤ b ∧ False) (fun _ => none) w' (vs' ++ vs) ⟨fun l l' loc loc' b e => (by cases e), fun b h => absurd h (hown b), fun b h => h.2.2.elim, fun b h => ⟨h, hown b⟩, ?_⟩ (fun _ _ => rfl) (fun l o e => by simp [getO] at e) (by simp [hlen, hlc]) (fun j y hy => ?_)).mono ?_
        · rw [hMF]; exact hi.gl.mono (hsame _) (fun b _ h => h.elim)
        · rw [hMF]
          rw [List.getElem?_append] at hy
          split at hy
          · rename_i hlt
            have hlt' : j < xs.length := by simpa using hlt
            rw [getD_append_left (by omega)]
            simp at hy
            obtain ⟨q, hq, rfl⟩ := hy
            exact .pv _ _ ((hx j q hq).mono (Same.refl _ w') (fun b _ h => h.elim))
          · rename_i hge
            have hge' : xs.length ≤ j := by simpa using hge
            rw [getD_append_right (by omega)]
            have h2 := hcap (j - xs.length) y (by simpa using hy)
            rw [hlen]
            have hr := noRefs_spec hcaps (j - xs.length) y (by simpa using hy)
            have h3 : AR P w' (fun b => b < w.heap.size) (fun _ => False) (fun _ => none) y (vs.getD (j - xs.length) undef) := (hmono y _ hr h2).mono (hsame _) (fun b _ h => h.elim) (fun b hb hb' => hblk b hb) (fun l hl => by rw [hr] at hl; simp at hl)
            cases y with
            | pv p => exact .pv _ _ (arg_pv h3)
            | clo d b1 gb1 gi1 =>
              generalize vs.getD (j - xs.length) undef = vv at h3
              cases h3 with
              | clo _ _ _ _ f2 c2 C hC h4 => exact .clo _ _ _ _ f2 c2 C (fun b hb => ⟨(hC b hb).2, (hC b hb).2⟩) h4
            | junk => exact .junk _
            | ptr l o => simp [refs] at hr
            | eptr l s i j => simp [refs] at hr
            | own l => simp [refs] at hr
            | ref l => simp [refs] at hr
            | fn f2 c2 =>
              exfalso
              have hc2 : caps[j - xs.length]? = some (.fn f2 c2) := by simpa using hy
              have : ∀ (l : List AV) (i : Nat), noRefs l = true → l[i]? ≠ some (.fn f2 c2) := by
                intro l
                induction l with
                | nil => intro i _; simp
                | cons z l ih =>
                  intro i hz
                  cases z <;> simp [noRefs] at hz
                  all_goals
                    cases i with
                    | zero => simp
                    | succ i => simpa using ih i hz
              exact this caps _ hcaps hc2
        · rintro e w'' ⟨v, σ', rfl, hp⟩
          have hσ : σ' = fun _ => none := funext fun l => hp.old l rfl
          subst hσ
          have hv2 := arg_pv hp.val
          rw [hMF] at hv2
          have hext : FExt (fun _ => False) w' w'' := hp.ext.mono (fun i _ ⟨l, loc, h, _⟩ => (h rfl).elim)
          refine ⟨v, rfl, ?_, hext⟩
          cases isB with
          | true =>
            cases hv2
            exact .sb _
          | false =>
            cases hv2
            exact .val _
    · have h2 : (pre ++ AV.fn f caps :: post)[i]? = some x := by
        rw [List.getElem?_append] at hx ⊢
        split at hx
        · rename_i hlt; rw [if_pos hlt]; exact hx
        · rename_i hge
          rw [if_neg hge]
          have : i - pre.length ≠ 0 := by omega
          cases hk : i - pre.length with
          | zero => omega
          | succ k => rw [hk] at hx; simpa using hx
      have hr : refs x = [] := by
        rw [List.getElem?_append] at hx
        split at hx
        · exact noRefs_spec hpre i x hx
        · rename_i hge
          cases hk : i - pre.length with
          | zero => omega
          | succ k => rw [hk] at hx; exact noRefs_spec hpost k x (by simpa using hx)
      exact hmono x _ hr (hA i x h2)
  · rintro e w' ⟨v, σ', rfl, hp⟩
    have hσ : σ' = fun _ => none := funext fun l => hp.old l rfl
    subst hσ
    exact ⟨v, _, rfl, .pv _ _ (arg_pv hp.val), fun l o e => by simp [getO] at e, hp.old, hp.stay, hp.sep, hp.blk, hp.ext⟩

/-- A slice in hand is nil, or it is not. -/
theorem AC.nil_split {P : Program} {g : FuncId} {pre post : List AV} {size n : Nat} {f : Nat → List PV} {os os' : Upd} {res : AV} (h1 : AC P g (pre ++ .pv (.nn (.ro size n f)) :: post) os res os') (h2 : n = 0 → AC P g (pre ++ .pv (.val (.slice none 0 0)) :: post) os res os') :
    AC P g (pre ++ .pv (.ro size n f) :: post) os res os' := by
  refine ⟨h1.1, fun St M0 σ w vals hi hσ hos hl hA => ?_⟩
  have hv := hA pre.length (.pv (.ro size n f)) (by simp)
  have hp := arg_pv hv
  have go : ∀ (q : PV), PR w (Mof M0 σ) q (vals.getD pre.length undef) → ∀ (i : Nat) (x : AV), (pre ++ AV.pv q :: post)[i]? = some x → AR P w St (Mof M0 σ) σ x (vals.getD i undef) := by
    intro q hq i x hx
    by_cases h3 : i = pre.length
    · subst h3; simp at hx; subst hx; exact .pv _ _ hq
    · refine hA i x ?_
      rw [List.getElem?_append] at hx ⊢
      split at hx
      · rename_i hlt; rw [if_pos hlt]; exact hx
      · rename_i hge
        rw [if_neg hge]
        cases hk : i - pre.length with
        | zero => omega
        | succ k => rw [hk] at hx; simpa using hx
  generalize vals.getD pre.length undef = v at hp go
  cases hp with
  | ro _ _ _ a cap u hcap hmax hz hs ha hh =>
    cases a with
    | some ad => exact h1.2 St M0 σ w vals hi hσ hos (by simpa using hl) (go _ (.nn _ ad n cap (.ro size n f (some ad) cap u hcap hmax hz hs ha hh)))
    | none =>
      have hc := hz rfl
      subst hc
      have hn : n = 0 := by omega
      subst hn
      exact (h2 rfl).2 St M0 σ w vals hi hσ hos (by simpa using hl) (go _ (.val _))

end Go.Abs

namespace Go.Abs
open Go.RowKit
variable [Globals]

def EqAt (P : Program) (d : Nat) (t : TypeId) (ls : List Leaf) : Prop :=
  ∀ (xs ys : Array Value) (w : World), xs.size = ls.length → ys.size = ls.length → (∀ (i : Nat) (l : Leaf), ls[i]? = some l → l.has (xs.getD i undef) ∧ l.has (ys.getD i undef)) →
    (Op.equalIn d t (.agg xs) (.agg ys)).run P w = .ok (eqvs xs.toList ys.toList) w

inductive FieldsEq (P : Program) (d : Nat) : Nat → List Field → List Leaf → Prop where
  | nil (off : Nat) : FieldsEq P d off [] []
  | one (off : Nat) (f : Field) (fs : List Field) (l : Leaf) (ls : List Leaf) (hn : f.name ≠ "_") (ho : f.offset = off) (hu : P.underlying f.type = some l.desc) (h : FieldsEq P d (off + 1) fs ls) : FieldsEq P d off (f :: fs) (l :: ls)
  | many (off : Nat) (f : Field) (fs : List Field) (l1 ls : List Leaf) (hn : f.name ≠ "_") (ho : f.offset = off) (i : TypeInfo) (gs : Array Field) (hu : P.underlying f.type = some (.struct gs)) (hi : P.info? f.type = some i) (hs : i.size = l1.length) (he : EqAt P d f.type l1)
      (h : FieldsEq P d (off + l1.length) fs ls) : FieldsEq P d off (f :: fs) (l1 ++ ls)

theorem eqvs_append : ∀ {a b c d : List Value}, a.length = b.length → eqvs (a ++ c) (b ++ d) = (eqvs a b && eqvs c d)
  | [], [], c, d, _ => by simp [eqvs]
  | x :: a, y :: b, c, d, h => by
    simp only [List.cons_append, eqvs, eqvs_append (a := a) (b := b) (c := c) (d := d) (by simpa using h), Bool.and_assoc]
  | [], _ :: _, _, _, h => by simp at h
  | _ :: _, [], _, _, h => by simp at h

theorem run_equalIn_leaf {P : Program} {w : World} {d : Nat} {t : TypeId} {l : Leaf} {x y : Value} (hu : P.underlying t = some l.desc) (hx : l.has x) (hy : l.has y) : (Op.equalIn (d + 1) t x y).run P w = .ok (Leaf.eqv x y) w := by
  cases l with
  | int k =>
    obtain ⟨a, rfl⟩ := hx; obtain ⟨b, rfl⟩ := hy
    simp [Op.equalIn, run_underlying (show P.underlying t = some (.int k) from hu), Leaf.eqv]
  | str =>
    obtain ⟨a, rfl⟩ := hx; obtain ⟨b, rfl⟩ := hy
    simp [Op.equalIn, run_underlying (show P.underlying t = some .string from hu), Leaf.eqv]
  | bool =>
    obtain ⟨a, rfl⟩ := hx; obtain ⟨b, rfl⟩ := hy
    simp [Op.equalIn, run_underlying (show P.underlying t = some .bool from hu), Leaf.eqv]

theorem run_part_leaf {P : Program} {w : World} {t : TypeId} {l : Leaf} {xs : Array Value} {off : Nat} (hu : P.underlying t = some l.desc) (h : off < xs.size) : (part t xs off).run P w = .ok (xs.getD off undef) w := by
  have : (isAgg t).run P w = .ok false w := by
    cases l <;> simp [isAgg, run_underlying hu, Leaf.desc]
  simp [part, this, Array.getD, h]

theorem eqFields_run {P : Program} {d : Nat} {off : Nat} {fs : List Field} {ls : List Leaf} (hF : FieldsEq P (d + 1) off fs ls) :
    ∀ (xs ys : Array Value) (w : World), xs.size = off + ls.length → ys.size = off + ls.length → (∀ (i : Nat) (l : Leaf), ls[i]? = some l → l.has (xs.getD (off + i) undef) ∧ l.has (ys.getD (off + i) undef)) →
      (Op.eqFields (d + 1) xs ys fs).run P w = .ok (eqvs (xs.toList.drop off) (ys.toList.drop off)) w := by
  induction hF with
  | nil off =>
    intro xs ys w hx hy _
    have : xs.toList.drop off = [] := List.drop_eq_nil_of_le (by simp; simpa using Nat.le_of_eq hx)
    simp [Op.eqFields, this, eqvs]
  | one off f fs l ls hn ho hu _ ih =>
    intro xs ys w hx hy hl
    obtain ⟨h1, h2⟩ := hl 0 l (by simp)
    have hx' : off < xs.size := by simp at hx; omega
    have hy' : off < ys.size := by simp at hy; omega
    have ih' := ih xs ys w (by simp at hx ⊢; omega) (by simp at hy ⊢; omega) (fun i l' e => by have := hl (i + 1) l' (by simpa using e); simpa [Nat.add_assoc, Nat.add_comm 1 i] using this)
    have d1 : xs.toList.drop off = xs.getD off undef :: xs.toList.drop (off + 1) := by
      rw [List.drop_eq_getElem_cons (by simpa using hx')]; simp [Array.getD, hx']
    have d2 : ys.toList.drop off = ys.getD off undef :: ys.toList.drop (off + 1) := by
      rw [List.drop_eq_getElem_cons (by simpa using hy')]; simp [Array.getD, hy']
    have hr : (Op.equalIn (d + 1) f.type (xs.getD off undef) (ys.getD off undef)).run P w = _ := run_equalIn_leaf hu h1 h2
    unfold Op.eqFields
    rw [d1, d2]
    simp only [hn, ne_eq, not_false_eq_true, if_true, ho, Sem.run_bind, run_part_leaf hu hx', run_part_leaf hu hy', Result.andThen_ok, eqvs]
    rw [hr]
    cases Leaf.eqv (xs.getD off undef) (ys.getD off undef)
    · simp
    · simpa using ih'
  | many off f fs l1 ls hn ho i gs hu hi hs he _ ih =>
    intro xs ys w hx hy hl
    simp only [List.length_append] at hx hy
    have ih' := ih xs ys w (by omega) (by omega) (fun j l' e => by
      have := hl (l1.length + j) l' (by rw [List.getElem?_append_right (by omega)]; simpa using e)
      simpa [Nat.add_assoc] using this)
    have hag : (isAgg f.type).run P w = .ok true w := by simp [isAgg, run_underlying hu]
    have hsz : (sizeOf f.type).run P w = .ok l1.length w := by simp [sizeOf, run_typeInfo_some hi, hs]
    have px : (part f.type xs off).run P w = .ok (.agg (xs.extract off (off + l1.length))) w := by simp [part, hag, hsz]
    have py : (part f.type ys off).run P w = .ok (.agg (ys.extract off (off + l1.length))) w := by simp [part, hag, hsz]
    have gx : ∀ (zs : Array Value), zs.size = off + (l1.length + ls.length) → ∀ j, j < l1.length → (zs.extract off (off + l1.length)).getD j undef = zs.getD (off + j) undef := by
      intro zs hz j hj
      simp [Array.getD_eq_getD_getElem?, show j < min (off + l1.length) zs.size - off from by omega, show off + j < zs.size from by omega]
    have hr := he (xs.extract off (off + l1.length)) (ys.extract off (off + l1.length)) w (by simp; omega) (by simp; omega) (fun j l' e => by
      have hj : j < l1.length := (List.getElem?_eq_some_iff.1 e).1
      rw [gx xs hx j hj, gx ys hy j hj]
      exact hl j l' (by rw [List.getElem?_append_left hj]; exact e))
    have tx : ∀ (zs : Array Value), zs.toList.drop off = (zs.extract off (off + l1.length)).toList ++ zs.toList.drop (off + l1.length) := by
      intro zs
      rw [Array.toList_extract, List.extract_eq_take_drop]
      rw [show off + l1.length - off = l1.length from by omega, ← List.drop_drop, List.take_append_drop]
    unfold Op.eqFields
    rw [tx xs, tx ys, eqvs_append (by simp; omega)]
    simp only [hn, ne_eq, not_false_eq_true, if_true, ho, Sem.run_bind, px, py, Result.andThen_ok, hr]
    cases eqvs (xs.extract off (off + l1.length)).toList (ys.extract off (off + l1.length)).toList
    · simp
    · simpa using ih'

theorem EqAt.struct {P : Program} {d : Nat} {t : TypeId} {fs : Array Field} {ls : List Leaf} (hu : P.underlying t = some (.struct fs)) (hs : P.stoodInHeld t = false) (hF : FieldsEq P (d + 1) 0 fs.toList ls) : EqAt P (d + 2) t ls := by
  intro xs ys w hx hy hl
  have hfo : P.fieldsOf t = fs := by simp [Program.fieldsOf, hu]
  rw [run_equalIn_struct w (d + 1) t xs ys (by rw [hfo]; exact hu) hs, hfo]
  have := eqFields_run hF xs ys w (by simpa using hx) (by simpa using hy) (by simpa using hl)
  simpa using this

/-- A table as a tree over the binary digits of the number. -/
inductive TT where
  | leaf
  | node (l : TT) (v : Option TY) (r : TT)

def TT.get : Nat → TT → Nat → Option TY
  | 0, _, _ => none
  | f + 1, t, n => match t with
    | .leaf => none
    | .node l v r => match Nat.beq n 0 with
      | true => v
      | false => match Nat.beq (n % 2) 0 with
        | true => TT.get f l (n / 2)
        | false => TT.get f r (n / 2)

def TT.all (p : Nat → TY → Prop) : TT → Nat → Nat → Prop
  | .leaf, _, _ => True
  | .node l v r, m, b => (match v with | some ty => p b ty | none => True) ∧ TT.all p l (2 * m) b ∧ TT.all p r (2 * m) (b + m)

theorem TT.all_get {p : Nat → TY → Prop} : ∀ {f : Nat} {t : TT} {m b n : Nat} {ty : TY}, TT.all p t m b → TT.get f t n = some ty → p (b + m * n) ty
  | 0, t, m, b, n, ty, _, h => by simp [TT.get] at h
  | f + 1, .leaf, m, b, n, ty, _, h => by simp [TT.get] at h
  | f + 1, .node l v r, m, b, n, ty, hp, h => by
    obtain ⟨h1, h2, h3⟩ := hp
    have h : (match Nat.beq n 0 with
      | true => v
      | false => match Nat.beq (n % 2) 0 with
        | true => TT.get f l (n / 2)
        | false => TT.get f r (n / 2)) = some ty := h
    split at h
    · rename_i e
      have : n = 0 := Nat.eq_of_beq_eq_true e
      subst this
      have h : v = some ty := ‹v = some ty›
      rw [h] at h1
      simpa using h1
    · split at h
      · rename_i e
        have e := Nat.eq_of_beq_eq_true e
        have := TT.all_get h2 h
        have hn : 2 * m * (n / 2) = m * n := by
          have : n = 2 * (n / 2) := by omega
          rw [Nat.mul_comm 2 m, Nat.mul_assoc, ← this]
        rw [hn] at this
        exact this
      · rename_i e
        have e : n % 2 = 1 := by
          have : Nat.beq (n % 2) 0 = false := by cases hh : Nat.beq (n % 2) 0 <;> simp_all
          have h0 : n % 2 ≠ 0 := fun hh => by rw [hh] at this; simp at this
          omega
        have := TT.all_get h3 h
        have hn : b + m + 2 * m * (n / 2) = b + m * n := by
          have : n = 2 * (n / 2) + 1 := by omega
          conv => rhs; rw [this]
          rw [Nat.mul_add, Nat.mul_one, ← Nat.mul_assoc, Nat.mul_comm m 2]
          omega
        rw [hn] at this
        exact this

end Go.Abs

namespace Go.Abs
open Go.RowKit
variable [Globals]

instance : Inhabited ByteArray := ⟨ByteArray.empty⟩

abbrev vint (n : Int) : PV := .val (.int .i64 n)
abbrev vstr (s : ByteArray) : PV := .val (.string s)
abbrev vbool (b : Bool) : PV := .sb b

/-- a slice of l, each element as enc says, 'size' cells each -/
def roL {α : Type} [Inhabited α] (size : Nat) (enc : α → List PV) (l : List α) : PV := .ro size l.length (fun i => enc (l.getD i default))
def cstr (s : ByteArray) : List PV := [.val (.string s)]
def cint (n : Int) : List PV := [.val (.int .i64 n)]

theorem wrap64 {n : Int} (h : -9223372036854775808 ≤ n ∧ n ≤ 9223372036854775807) : inR .i64 n := IntWalk.i64_in n h

theorem PSub.lst {α : Type} [Inhabited α] {size : Nat} {enc : α → List PV} {l k : List α} (h : l = k) : PSub (roL size enc l) (roL size enc k) := h ▸ PSub.rfl
theorem PSub.nilL {α : Type} [Inhabited α] {size : Nat} {enc : α → List PV} {l : List α} (h : l = []) : PSub (.val (.slice none 0 0)) (roL size enc l) := by
  subst h; exact PSub.nil_ro _ _

/-- a row built so far, as a slice of a list -/
theorem PSub.rows {α : Type} [Inhabited α] {size n : Nat} {f : Nat → List PV} {enc : α → List PV} {l : List α} (hn : n = l.length) (h : ∀ i, i < n → f i = enc (l.getD i default)) : PSub (.ro size n f) (roL size enc l) :=
  PSub.ro hn (fun i hi => by rw [h i hi]; exact PSubs.rfl)

end Go.Abs

namespace Go.Abs
variable [Globals]

def keepT (tm : List (Nat × AV)) : List Nat → List (Nat × AV)
  | [] => []
  | t :: l => (t, getT tm t) :: keepT tm l

def keepO (ob : List (Nat × AObj)) : List Nat → List (Nat × AObj)
  | [] => []
  | l :: r => match getO ob l with
    | some o => (l, o) :: keepO ob r
    | none => keepO ob r

/-- A loop whose slots 'kt' and objects 'ko' stay as they are. -/
theorem loop_k {P : Program} {T : Tab} {nt : Nat} {c : Code} {Q : AExit → AState → Prop} {tm : List (Nat × AV)} {ob : List (Nat × AObj)} {ι : Type} (kt ko : List Nat) (J : ι → Prop) (m : ι → Nat) (i0 : ι)
    (δ : ι → List (Nat × AV)) (δo : ι → List (Nat × AObj)) (r : List (Nat × Nat)) (h0 : J i0) (he : entS r ⟨tm, ob⟩ ⟨δ i0 ++ keepT tm kt, δo i0 ++ keepO ob ko⟩)
    (hs : ∀ i, J i → awp P T nt c ⟨δ i ++ keepT tm kt, δo i ++ keepO ob ko⟩ (thenK (fun s' => ∃ (j : ι) (r : List (Nat × Nat)), J j ∧ m j < m i ∧ entS r s' ⟨δ j ++ keepT tm kt, δo j ++ keepO ob ko⟩) Q)) :
    ∃ (ι : Type) (J : ι → Prop) (I : ι → AState) (m : ι → Nat) (i0 : ι) (r : List (Nat × Nat)), J i0 ∧ entS r ⟨tm, ob⟩ (I i0) ∧
      ∀ i, J i → awp P T nt c (I i) (thenK (fun s' => ∃ (j : ι) (r : List (Nat × Nat)), J j ∧ m j < m i ∧ entS r s' (I j)) Q) :=
  ⟨ι, J, fun i => ⟨δ i ++ keepT tm kt, δo i ++ keepO ob ko⟩, m, i0, r, h0, he, hs⟩

/-- for i := k; i < n; i++: from state s; a round goes on with a state or ends all with an answer. -/
def forI {ρ σ : Type} (step : Nat → σ → ρ ⊕ σ) : Nat → Nat → σ → ρ ⊕ σ
  | 0, _, s => .inr s
  | m + 1, k, s => match step k s with
    | .inl r => .inl r
    | .inr s' => forI step m (k + 1) s'

theorem forI_stop {ρ σ : Type} {step : Nat → σ → ρ ⊕ σ} {n k : Nat} {s : σ} {r : ρ} {t : ρ ⊕ σ} (h : forI step (n - k) k s = t) (hk : k < n) (hs : step k s = .inl r) : t = .inl r := by
  rw [← h, show n - k = (n - (k + 1)) + 1 from by omega, forI, hs]

theorem forI_next {ρ σ : Type} {step : Nat → σ → ρ ⊕ σ} {n k : Nat} {s s' : σ} {t : ρ ⊕ σ} (h : forI step (n - k) k s = t) (hk : k < n) (hs : step k s = .inr s') : forI step (n - (k + 1)) (k + 1) s' = t := by
  rw [← h, show n - k = (n - (k + 1)) + 1 from by omega, forI, hs]

theorem forI_end {ρ σ : Type} {step : Nat → σ → ρ ⊕ σ} {n k : Nat} {s : σ} {t : ρ ⊕ σ} (h : forI step (n - k) k s = t) (hk : n ≤ k) : t = .inr s := by
  rw [← h, show n - k = 0 from by omega, forI]

/-- Two loops whose rounds agree agree. -/
theorem forI_congr {ρ σ : Type} {f g : Nat → σ → ρ ⊕ σ} : ∀ (n k : Nat) (s : σ), (∀ i s, k ≤ i → i < k + n → f i s = g i s) → forI f n k s = forI g n k s
  | 0, _, _, _ => rfl
  | n + 1, k, s, h => by
    simp only [forI, h k s (Nat.le_refl _) (by omega)]
    cases g k s with
    | inl r => rfl
    | inr s' => exact forI_congr n (k + 1) s' (fun i t h1 h2 => h i t (by omega) (by omega))

/-- .. and what holds of states and answers all along. -/
theorem forI_inv {ρ σ : Type} {f : Nat → σ → ρ ⊕ σ} (p : Nat → σ → Prop) : ∀ (n k : Nat) (s : σ), p k s → (∀ i s s', k ≤ i → i < k + n → p i s → f i s = .inr s' → p (i + 1) s') → ∀ s', forI f n k s = .inr s' → p (k + n) s'
  | 0, k, s, h0, _, s', e => by simp only [forI, Sum.inr.injEq] at e; subst e; exact h0
  | n + 1, k, s, h0, h, s', e => by
    simp only [forI] at e
    cases hf : f k s with
    | inl r => rw [hf] at e; cases e
    | inr t =>
      rw [hf] at e
      have := forI_inv p n (k + 1) t (h k s t (Nat.le_refl _) (by omega) h0 hf) (fun i s s' h1 h2 => h i s s' (by omega) (by omega)) s' e
      rwa [show k + (n + 1) = k + 1 + n from by omega]

/-- Arguments that say more will do. -/
theorem AC.sub {P : Program} {f : FuncId} {ps qs : List PV} {os os' : Upd} {res : AV} (h : AC P f (qs.map .pv) os res os') (hs : PSubs ps qs) : AC P f (ps.map .pv) os res os' := by
  refine ⟨h.1, fun St M0 σ w vals hi hn ho hl ha => h.2 St M0 σ w vals hi hn ho (by rw [hl]; simp [hs.length]) fun i x e => ?_⟩
  rw [List.getElem?_map] at e
  cases hq : qs[i]? with
  | none => rw [hq] at e; cases e
  | some q =>
    rw [hq] at e
    simp only [Option.map_some, Option.some.injEq] at e
    subst e
    obtain ⟨p, hp, hpq⟩ := hs.get i q hq
    have := ha i (.pv p) (by rw [List.getElem?_map, hp]; rfl)
    exact .pv _ _ (hpq.to _ _ _ (arg_pv this))

theorem AC.sub1 {P : Program} {f : FuncId} {p q : PV} {os os' : Upd} {res : AV} (h : AC P f [.pv q] os res os') (h1 : PSub p q) : AC P f [.pv p] os res os' :=
  AC.sub (qs := [q]) (ps := [p]) h ⟨h1, trivial⟩
theorem AC.sub2 {P : Program} {f : FuncId} {p q p2 q2 : PV} {os os' : Upd} {res : AV} (h : AC P f [.pv q, .pv q2] os res os') (h1 : PSub p q) (h2 : PSub p2 q2) : AC P f [.pv p, .pv p2] os res os' :=
  AC.sub (qs := [q, q2]) (ps := [p, p2]) h ⟨h1, h2, trivial⟩
theorem AC.sub3 {P : Program} {f : FuncId} {p q p2 q2 p3 q3 : PV} {os os' : Upd} {res : AV} (h : AC P f [.pv q, .pv q2, .pv q3] os res os') (h1 : PSub p q) (h2 : PSub p2 q2) (h3 : PSub p3 q3) : AC P f [.pv p, .pv p2, .pv p3] os res os' :=
  AC.sub (qs := [q, q2, q3]) (ps := [p, p2, p3]) h ⟨h1, h2, h3, trivial⟩
theorem AC.sub4 {P : Program} {f : FuncId} {p q p2 q2 p3 q3 p4 q4 : PV} {os os' : Upd} {res : AV} (h : AC P f [.pv q, .pv q2, .pv q3, .pv q4] os res os') (h1 : PSub p q) (h2 : PSub p2 q2) (h3 : PSub p3 q3) (h4 : PSub p4 q4) : AC P f [.pv p, .pv p2, .pv p3, .pv p4] os res os' :=
  AC.sub (qs := [q, q2, q3, q4]) (ps := [p, p2, p3, p4]) h ⟨h1, h2, h3, h4, trivial⟩

/-- A result may be told in fewer words. -/
theorem AC.weak {P : Program} {f : FuncId} {args : List AV} {p q : PV} (h : AC P f args [] (.pv p) []) (hs : PSub p q) : AC P f args [] (.pv q) [] := by
  refine ⟨h.1, fun St M0 σ w vals hi hn ho hl ha => (h.2 St M0 σ w vals hi hn ho hl ha).mono ?_⟩
  rintro e w' ⟨v, σ', he, hp⟩
  exact ⟨v, σ', he, ⟨.pv _ _ (hs.to _ _ _ (arg_pv hp.val)), hp.obj, hp.old, hp.stay, hp.sep, hp.blk, hp.ext⟩⟩

/-- a row of the function's own that holds the list l -/
def rowL {α : Type} [Inhabited α] (size : Nat) (enc : α → List PV) (l : List α) : AObj := .row size l.length (fun i => enc (l.getD i default))

theorem rows_app {α : Type} [Inhabited α] {enc : α → List PV} {acc xs : List α} {g : Nat → List PV} (hg : ∀ i, i < xs.length → PSubs (g i) (enc (xs.getD i default))) :
    ∀ i, i < (acc ++ xs).length → PSubs (if i < acc.length then enc (acc.getD i default) else g (i - acc.length)) (enc ((acc ++ xs).getD i default)) := by
  intro i hi
  rw [List.length_append] at hi
  by_cases h : i < acc.length
  · rw [if_pos h]
    have : (acc ++ xs).getD i default = acc.getD i default := by simp [List.getD, List.getElem?_append_left h]
    rw [this]; exact PSubs.rfl
  · rw [if_neg h]
    have : (acc ++ xs).getD i default = xs.getD (i - acc.length) default := by simp [List.getD, List.getElem?_append_right (Nat.le_of_not_lt h)]
    rw [this]; exact hg _ (by omega)

theorem rows_snoc {α : Type} [Inhabited α] {enc : α → List PV} {acc : List α} {x : α} {g : Nat → List PV} (hg : PSubs (g 0) (enc x)) :
    ∀ i, i < (acc ++ [x]).length → PSubs (if i < acc.length then enc (acc.getD i default) else g (i - acc.length)) (enc ((acc ++ [x]).getD i default)) :=
  rows_app fun i hi => by
    have : i = 0 := by simpa using hi
    subst this; exact hg

theorem take_succ_getD {α : Type} [Inhabited α] {l : List α} {k : Nat} (h : k < l.length) : l.take (k + 1) = l.take k ++ [l.getD k default] := by
  rw [List.take_add_one, List.getElem?_eq_getElem h]; simp [List.getD, h]

theorem rows_snocF {α : Type} [Inhabited α] {enc : α → List PV} {acc : List α} {x : α} {F : Nat → List PV} (h1 : ∀ i, i < acc.length → PSubs (F i) (enc (acc.getD i default))) (h2 : PSubs (F acc.length) (enc x)) :
    ∀ i, i < (acc ++ [x]).length → PSubs (F i) (enc ((acc ++ [x]).getD i default)) := by
  intro i hi
  rw [List.length_append] at hi
  by_cases h : i < acc.length
  · have : (acc ++ [x]).getD i default = acc.getD i default := by simp [List.getD, List.getElem?_append_left h]
    rw [this]; exact h1 i h
  · have e : i = acc.length := by simp at hi; omega
    subst e
    have : (acc ++ [x]).getD acc.length default = x := by simp [List.getD]
    rw [this]; exact h2

theorem updAt_same {f : Nat → List PV} {i j : Nat} {cs : List PV} : updAt f i j cs i = splice (f i) j cs := by simp [updAt, putAt]
theorem updAt_ne {f : Nat → List PV} {i j k : Nat} {cs : List PV} (h : k ≠ i) : updAt f i j cs k = f k := by
  unfold updAt putAt
  rw [show Nat.beq k i = false from by rw [← Bool.not_eq_true]; simpa [Nat.beq_eq] using h]

end Go.Abs

namespace Go.Abs

theorem bytesLess_iff : ∀ (x y : List UInt8), Op.bytesLess x y = true ↔ x < y
  | [], [] => by simp [Op.bytesLess]
  | [], _ :: _ => by simp [Op.bytesLess]
  | _ :: _, [] => by simp [Op.bytesLess]
  | a :: x, b :: y => by
    have ih := bytesLess_iff x y
    simp only [Op.bytesLess, List.cons_lt_cons_iff]
    by_cases h1 : a < b
    · simp [h1]
    · by_cases h2 : a = b
      · subst h2; simp [ih]
      · simp [h1, h2, ih]
        try (intro h3; exact h2 (UInt8.le_antisymm (UInt8.not_lt.1 h3) (UInt8.not_lt.1 h1)))

/-- < of strings -/
def sLt (a b : ByteArray) : Bool := Op.bytesLess a.toList b.toList

theorem sLt_iff {a b : ByteArray} : sLt a b = true ↔ a.data.toList < b.data.toList := by
  unfold sLt
  rw [bytesLess_iff, ByteArray.toList_eq, ByteArray.toList_eq]

theorem sLt_irrefl (a : ByteArray) : sLt a a = false := by
  rw [← Bool.not_eq_true, sLt_iff]
  exact List.lt_irrefl _

theorem sLt_trans {a b c : ByteArray} (h : sLt a b = true) (k : sLt b c = true) : sLt a c = true := by
  rw [sLt_iff] at *
  exact List.lt_trans h k

theorem sLt_asymm {a b : ByteArray} (h : sLt a b = true) : sLt b a = false := by
  rw [← Bool.not_eq_true]
  intro k
  have := sLt_trans h k
  rw [sLt_irrefl] at this; cases this

theorem sLt_total {a b : ByteArray} (h : a ≠ b) : sLt a b = true ∨ sLt b a = true := by
  rw [sLt_iff, sLt_iff]
  rcases Classical.em (a.data.toList < b.data.toList) with h1 | h1
  · exact .inl h1
  · rcases Classical.em (b.data.toList < a.data.toList) with h2 | h2
    · exact .inr h2
    · exfalso
      apply h
      have := List.le_antisymm (List.not_lt.1 h1) (List.not_lt.1 h2)
      cases a; cases b
      congr 1
      exact (Array.toList_inj.1 this).symm

end Go.Abs

namespace Go.Abs
open Go.RowKit

/-- cells that read as these data -/
structure Reads (w : World) (cs : List Value) (ps : List PV) : Prop where
  len : cs.length = ps.length
  pr : ∀ i p, ps[i]? = some p → PR w (fun _ => False) p (cs.getD i undef)
  one : ∀ i, i < cs.length → (cs.getD i undef).oneCell' = true

theorem Reads.nil {w : World} : Reads w [] [] := ⟨rfl, fun i p h => by simp at h, fun i h => by simp at h⟩

theorem Reads.append {w : World} {a b : List Value} {p q : List PV} (h : Reads w a p) (k : Reads w b q) : Reads w (a ++ b) (p ++ q) := by
  have e1 : ∀ i, i < a.length → (a ++ b).getD i undef = a.getD i undef := fun i hi => by simp [List.getD, List.getElem?_append_left hi]
  have e2 : ∀ i, a.length ≤ i → (a ++ b).getD i undef = b.getD (i - a.length) undef := fun i hi => by simp [List.getD, List.getElem?_append_right hi]
  refine ⟨by simp [h.len, k.len], fun i x hx => ?_, fun i hi => ?_⟩
  · by_cases hlt : i < a.length
    · rw [e1 i hlt]
      rw [List.getElem?_append_left (by rw [← h.len]; exact hlt)] at hx
      exact h.pr i x hx
    · rw [e2 i (by omega)]
      rw [List.getElem?_append_right (by rw [← h.len]; omega)] at hx
      rw [h.len]
      exact k.pr _ x hx
  · by_cases hlt : i < a.length
    · rw [e1 i hlt]; exact h.one i hlt
    · rw [e2 i (by omega)]
      rw [List.length_append] at hi
      exact k.one _ (by omega)

theorem Reads.single {w : World} {v : Value} {p : PV} (h : PR w (fun _ => False) p v) (h1 : v.oneCell' = true) : Reads w [v] [p] := by
  refine ⟨rfl, fun i q hq => ?_, fun i hi => ?_⟩
  · cases i with
    | zero => simp at hq; subst hq; exact h
    | succ i => simp at hq
  · cases i with
    | zero => exact h1
    | succ i => simp at hi

structure BulkOk {H : Type} (bulk : DataW H → Nat) : Prop where
  str : ∀ bytes, bytes.length ≤ bulk (.lit (.string bytes))
  len : ∀ e s, e.length ≤ bulk (.slice e s)
  elem : ∀ e s d, d ∈ e → bulk d ≤ bulk (.slice e s)
  part : ∀ l d, d ∈ l → bulk d ≤ bulk (.agg l)

section
variable {H : Type} (enc : TypeId × Value → H) (P : Program) (w : World) (bulk : DataW H → Nat) (B : Nat)

/-- What reads at the type t reads as data of α. -/
def Opens (t : TypeId) {α : Type} (cs : α → List PV) (good : α → Prop) : Prop :=
  ∀ (sp : Nat → Bool) (fuel : Nat) (vs : List Value) (x : DataW H × List MemPlace), DataW.trod enc P w 0 sp true fuel t vs = some x → bulk x.1 ≤ B → ∃ a : α, good a ∧ Reads w vs (cs a)

/-- .. of the fields of a struct, from the cell off on. -/
def FOpens (fs : List Field) (off : Nat) {α : Type} (cs : α → List PV) (good : α → Prop) : Prop :=
  ∀ (sp : Nat → Bool) (n : Nat) (vs : List Value) (xs : List (DataW H × List MemPlace)), xs.length = fs.length → (∀ (i : Nat) (f : Field), fs[i]? = some f → DataW.trod enc P w 0 sp true n f.type ((vs.drop f.offset).take (P.cellsOf f.type)) = xs[i]?) →
    (∀ y ∈ xs, bulk y.1 ≤ B) → off ≤ vs.length → vs.length = off + (fs.map fun f => P.cellsOf f.type).sum → ∃ a : α, good a ∧ Reads w (vs.drop off) (cs a)
end

section
variable {H : Type} {enc : TypeId × Value → H} {P : Program} {w : World} {bulk : DataW H → Nat} {B : Nat}

theorem Opens.imp {t : TypeId} {α β : Type} {cs : α → List PV} {good : α → Prop} {cs' : β → List PV} {good' : β → Prop} (h : Opens enc P w bulk B t cs good) (f : α → β) (he : ∀ a, cs' (f a) = cs a) (hg : ∀ a, good a → good' (f a)) : Opens enc P w bulk B t cs' good' := by
  intro sp fuel vs x hx hb
  obtain ⟨a, h1, h2⟩ := h sp fuel vs x hx hb
  exact ⟨f a, hg a h1, by rw [he]; exact h2⟩

theorem Opens.int {t : TypeId} {k : IntKind} (ht : P.underlying t = some (.int k)) : Opens enc P w bulk B t (fun n : Int => [.val (.int k n)]) (fun n => (Lit.int k n).wf = true) := by
  intro sp fuel vs x hx hb
  obtain ⟨n, rfl, rfl, hw⟩ := DataW.trod_int ht hx
  exact ⟨n, hw, Reads.single (.val _) rfl⟩

theorem Opens.bool {t : TypeId} (ht : P.underlying t = some .bool) : Opens enc P w bulk B t (fun b : Bool => [.sb b]) (fun _ => True) := by
  intro sp fuel vs x hx hb
  obtain ⟨n, rfl, rfl⟩ := DataW.trod_bool ht hx
  exact ⟨n, trivial, Reads.single (.sb _) rfl⟩

theorem Opens.str (hB : BulkOk bulk) {t : TypeId} (ht : P.underlying t = some .string) : Opens enc P w bulk B t (fun s : ByteArray => [.val (.string s)]) (fun s => s.size ≤ B) := by
  intro sp fuel vs x hx hb
  obtain ⟨s, rfl, rfl, _⟩ := DataW.trod_string ht hx
  refine ⟨s, ?_, Reads.single (.val _) rfl⟩
  have := hB.str s.data.toList
  simp only at hb
  have e : s.data.toList.length = s.size := by show s.data.toList.length = s.data.size; exact Array.length_toList
  omega

theorem Opens.slice (hB : BulkOk bulk) {t e : TypeId} {α : Type} [Inhabited α] {cs : α → List PV} {good : α → Prop} {size : Nat} (ht : P.underlying t = some (.slice e)) (hsz : P.cellsOf e = size) (hpos : 0 < size) (he : Opens enc P w bulk B e cs good) :
    Opens enc P w bulk B t (fun l : List α => [roL size cs l]) (fun l => l.length ≤ B ∧ ∀ i, i < l.length → good (l.getD i default)) := by
  intro sp fuel vs x hx hb
  rcases DataW.trod_slice ht hx with ⟨rfl, rfl⟩ | ⟨a, len, cap, elems, rest, n, rfl, rfl, rfl, _, hlc, hcm, hel, hcell, _, _⟩
  · exact ⟨[], ⟨Nat.zero_le _, fun i h => absurd h (by simp)⟩, Reads.single ((PSub.nil_ro size _).to _ _ _ (.val _)) rfl⟩
  · simp only at hb
    have hlen : len ≤ B := by
      have := hB.len (elems.map (·.1)) (rest.map (·.1))
      simp only [List.length_map] at this
      omega
    have hone : ∀ i, i < len → ∃ y, good y ∧ ∃ cl, w.cells? 0 (a.add (i * size)) size = some cl ∧ Reads w cl (cs y) := by
      intro i hi
      have h1 := hcell i hi
      rw [hsz] at h1
      have hi2 : i < elems.length := by omega
      rw [List.getElem?_eq_getElem hi2] at h1
      cases hc : w.cells? 0 (a.add (i * size)) size with
      | none => rw [hc] at h1; cases h1
      | some cl =>
        rw [hc] at h1
        simp only [Option.bind_some] at h1
        have hb2 : bulk (elems[i]).1 ≤ B := Nat.le_trans (hB.elem (elems.map (·.1)) (rest.map (·.1)) _ (List.mem_map_of_mem (List.getElem_mem hi2))) hb
        obtain ⟨y, hg, hr⟩ := he sp n cl _ h1 hb2
        exact ⟨y, hg, cl, rfl, hr⟩
    have hex : ∃ f : Nat → α, ∀ i, i < len → good (f i) ∧ ∃ cl, w.cells? 0 (a.add (i * size)) size = some cl ∧ Reads w cl (cs (f i)) :=
      ⟨fun i => if h : i < len then Classical.choose (hone i h) else default, fun i hi => by simp only [dif_pos hi]; exact Classical.choose_spec (hone i hi)⟩
    obtain ⟨f, hf⟩ := hex
    have hget : ∀ i, i < len → ((List.range len).map f).getD i default = f i := fun i hi => by simp [List.getD, hi]
    refine ⟨(List.range len).map f, ⟨by simpa using hlen, fun i hi => ?_⟩, Reads.single ?_ rfl⟩
    · have hi : i < len := by simpa using hi
      rw [hget i hi]; exact (hf i hi).1
    · have key : ∀ i, i < len → ∀ j, j < size → ∃ v, w.cell? (a.add (i * size + j)) = some v ∧ v.oneCell' = true ∧ (a.add (i * size + j)).block < w.heap.size ∧ ∀ p, (cs (f i))[j]? = some p → PR w (fun _ => False) p v := by
        intro i hi j hj
        obtain ⟨_, cl, hc, hr⟩ := hf i hi
        obtain ⟨_, hl, hall⟩ := World.cells?_some hc
        have hj2 : j < cl.length := by omega
        have h1 := hall j hj
        rw [add_add, List.getElem?_eq_getElem hj2] at h1
        have hg : cl.getD j undef = cl[j] := by simp [List.getD, hj2]
        refine ⟨cl[j], h1, by rw [← hg]; exact hr.one j hj2, ?_, fun p hp => by rw [← hg]; exact hr.pr j p hp⟩
        have hb := World.cells?_block hc hpos
        simpa [block_add] using hb
      have hn : ((List.range len).map f).length = len := by simp
      unfold roL
      rw [hn]
      refine .ro size len _ (some a) cap (fun i j => (w.cell? (a.add (i * size + j))).getD undef) hlc hcm (fun h => by cases h) (fun i hi => ?_) (fun h0 => ⟨a, rfl, ?_, fun h => h.elim, fun i hi j hj => ?_⟩) (fun i hi j p hp => ?_)
      · rw [hget i hi]
        obtain ⟨_, cl, hc, hr⟩ := hf i hi
        obtain ⟨_, hl, _⟩ := World.cells?_some hc
        rw [← hr.len]; exact hl
      · obtain ⟨v, _, _, hb, _⟩ := key 0 h0 0 hpos
        simpa [block_add] using hb
      · obtain ⟨v, e, h1, _, _⟩ := key i hi j hj
        rw [e]; exact ⟨rfl, h1⟩
      · rw [hget i hi] at hp
        have hj : j < size := by
          obtain ⟨_, cl, hc, hr⟩ := hf i hi
          obtain ⟨_, hl, _⟩ := World.cells?_some hc
          have := (List.getElem?_eq_some_iff.1 hp).1
          rw [← hr.len, hl] at this; exact this
        obtain ⟨v, e, _, _, hpv⟩ := key i hi j hj
        simp only [e, Option.getD_some]
        exact hpv p hp

theorem FOpens.nil {off : Nat} : FOpens enc P w bulk B [] off (fun _ : Unit => []) (fun _ => True) := by
  intro sp n vs xs _ _ _ _ hl
  simp at hl
  exact ⟨(), trivial, by rw [List.drop_of_length_le (by omega)]; exact Reads.nil⟩

theorem FOpens.cons {f : Field} {fs : List Field} {off : Nat} {α β : Type} {cs : α → List PV} {good : α → Prop} {cs' : β → List PV} {good' : β → Prop} {size : Nat} (ho : f.offset = off) (hsz : P.cellsOf f.type = size) (h : Opens enc P w bulk B f.type cs good) (k : FOpens enc P w bulk B fs (off + size) cs' good') :
    FOpens enc P w bulk B (f :: fs) off (fun x : α × β => cs x.1 ++ cs' x.2) (fun x => good x.1 ∧ good' x.2) := by
  subst ho; subst hsz
  intro sp n vs xs hxl hx hb hoff hl
  cases xs with
  | nil => simp at hxl
  | cons y ys =>
    have h0 := hx 0 f rfl
    simp only [List.getElem?_cons_zero] at h0
    obtain ⟨a, ha, ra⟩ := h sp n _ _ h0 (hb y (by simp))
    simp only [List.map_cons, List.sum_cons] at hl
    obtain ⟨b, hb2, rb⟩ := k sp n vs ys (by simpa using hxl) (fun i g hg => by simpa using hx (i + 1) g (by simpa using hg)) (fun z hz => hb z (by simp [hz])) (by omega) (by omega)
    refine ⟨(a, b), ⟨ha, hb2⟩, ?_⟩
    have e : vs.drop f.offset = (vs.drop f.offset).take (P.cellsOf f.type) ++ vs.drop (f.offset + P.cellsOf f.type) := by
      rw [← List.drop_drop, List.take_append_drop]
    rw [e]
    exact ra.append rb

theorem Opens.struct (hB : BulkOk bulk) {t : TypeId} {fs : Array Field} {α : Type} {cs : α → List PV} {good : α → Prop} (ht : P.underlying t = some (.struct fs)) (hc : P.cellsOf t = (fs.toList.map fun f => P.cellsOf f.type).sum) (h : FOpens enc P w bulk B fs.toList 0 cs good) :
    Opens enc P w bulk B t cs good := by
  intro sp fuel vs x hx hb
  obtain ⟨xs, n, rfl, rfl, hl, hxl, hall⟩ := DataW.trod_struct ht hx
  obtain ⟨a, ha, hr⟩ := h sp n vs xs (by simpa using hxl) (fun i f hf => hall i f (by simpa using hf)) (fun y hy => Nat.le_trans (hB.part _ _ (List.mem_map_of_mem hy)) hb) (Nat.zero_le _) (by rw [hl, hc]; simp)
  exact ⟨a, ha, by simpa using hr⟩

/-- An argument whose type is a struct. -/
theorem Opens.arg_struct {t : TypeId} {fs : Array Field} {α : Type} {cs : α → List PV} {good : α → Prop} {r : Reach} {base : Nat} {v : Value} {d : DataW H} {ps : List MemPlace} (h : Opens enc P w bulk B t cs good) (ht : P.underlying t = some (.struct fs))
    (hok : Value.okWide P w r base t v) (hd : DataW.Trod enc P w 0 (fun _ => true) true t v d ps) (hb : bulk d ≤ B) : ∃ a : α, good a ∧ PR w (fun _ => False) (.agg (cs a)) v := by
  unfold Value.okWide at hok
  rw [ht] at hok
  obtain ⟨vs, rfl, _, _⟩ := hok
  obtain ⟨n, hn⟩ := hd
  have ec : (Value.agg vs).cells = vs := rfl
  rw [ec] at hn
  obtain ⟨a, ha, hr⟩ := h _ _ _ _ hn hb
  refine ⟨a, ha, .agg _ vs (by simpa using hr.len) (fun i p hp => by simpa [Array.getD_eq_getD_getElem?, List.getD] using hr.pr i p hp) (fun i hi => by simpa [Array.getD_eq_getD_getElem?, List.getD, hi] using hr.one i (by simpa using hi))⟩

/-- .. is one cell. -/
theorem Opens.arg_cell {t : TypeId} {α : Type} {cs : α → PV} {good : α → Prop} {v : Value} {d : DataW H} {ps : List MemPlace} (h : Opens enc P w bulk B t (fun a => [cs a]) good) (hc : v.cells.toList = [v])
    (hd : DataW.Trod enc P w 0 (fun _ => true) true t v d ps) (hb : bulk d ≤ B) : ∃ a : α, good a ∧ PR w (fun _ => False) (cs a) v := by
  obtain ⟨n, hn⟩ := hd
  rw [hc] at hn
  obtain ⟨a, ha, hr⟩ := h _ _ _ _ hn hb
  exact ⟨a, ha, by simpa using hr.pr 0 _ rfl⟩
end

end Go.Abs

namespace Go.Abs
open Go.RowKit Go.ChangeShapes

def strData {H : Type} (ss : List ByteArray) : DataW H := .agg (ss.map fun s => .lit (.string s.data.toList))

theorem cells_of_strs {H : Type} {enc : TypeId × Value → H} {P : Program} {w : World} {base : Nat} {sp : Nat → Bool} {held : Bool} {fuel : Nat} {t e : TypeId} {n : Nat} {cs : List Value} {ss : List ByteArray} {p : List MemPlace}
    (ht : P.underlying t = some (.array n e)) (he : P.underlying e = some .string) (hce : P.cellsOf e = 1) (hct : P.cellsOf t = n)
    (h : DataW.trod enc P w base sp held fuel t cs = some (strData ss, p)) : cs = ss.map fun s => Value.string s := by
  cases fuel with
  | zero => simp [DataW.trod] at h
  | succ fuel =>
    simp only [DataW.trod, ht, hce, hct, Nat.mul_one] at h
    split at h
    · rename_i hl
      obtain ⟨xs, hm, hx⟩ := Option.map_eq_some_iff.1 h
      have hxs : xs.map (·.1) = ss.map fun s => (DataW.lit (.string s.data.toList) : DataW H) := by
        have := congrArg Prod.fst hx
        simpa [strData] using this
      have hxl : xs.length = n := by simpa using Lib.mapM_length hm
      have hzl : ss.length = n := by
        have := congrArg List.length hxs
        simp at this
        omega
      apply List.ext_getElem?
      intro i
      by_cases hi : i < n
      · obtain ⟨b, hb, hf⟩ := Lib.mapM_at hm i i (by simp [hi])
        obtain ⟨z, hc, rfl, _⟩ := DataW.trod_string he hf
        have h1 : cs[i]? = some (.string z) := by
          have := congrArg (·[0]?) hc
          simpa [List.getElem?_take, List.getElem?_drop] using this
        have h2 : (xs.map (·.1))[i]? = some (DataW.lit (.string z.data.toList) : DataW H) := by simp [hb]
        rw [hxs] at h2
        simp only [List.getElem?_map, Option.map_eq_some_iff, DataW.lit.injEq, Lit.string.injEq] at h2
        obtain ⟨z', hz', e⟩ := h2
        have ez : z' = z := by
          cases z'; cases z
          congr 1
          exact Array.toList_inj.1 e
        subst ez
        simp [h1, hz']
      · rw [List.getElem?_eq_none (by omega), List.getElem?_eq_none (by simp; omega)]
    · cases h

/-- A listed table of strings reads as pure data. -/
theorem strTab {P : Program} {W : World} {name : String} {ss : List ByteArray} {rest : List (String × DataW Unit)} {g : Nat} {t e : TypeId} {n : Nat}
    (hg : P.globalNamed name = some g) (hty : (P.globals[g]?).map (·.type) = some t) (ht : P.underlying t = some (.array n e)) (he : P.underlying e = some .string) (hce : P.cellsOf e = 1) (hct : P.cellsOf t = n) (hpos : 0 < ss.length)
    (h : laidMet P ((name, strData ss) :: rest) W) : PR W (fun _ => False) (.cell (ss.map fun s => .val (.string s))) (.pointer (some ⟨g, 0, none⟩)) := by
  obtain ⟨ps, ⟨g', t', cs, fuel, p, q, hg', ht', hvar, hd, _, _⟩, _⟩ := h
  obtain rfl := Option.some.inj (hg.symm.trans hg')
  obtain rfl := Option.some.inj (hty.symm.trans ht')
  have hcs := cells_of_strs ht he hce hct hd
  have hcell : ∀ j, j < ss.length → W.cell? ⟨g, j, none⟩ = some (.string (ss.getD j default)) := fun j hj => by
    rw [World.var?_cell hg hvar j]
    have : cs.toList[j]? = some (.string (ss.getD j default)) := by rw [hcs]; simp [List.getD, hj]
    simpa using this
  have hadd : ∀ j, (⟨g, 0, none⟩ : Addr).add j = ⟨g, j, none⟩ := fun j => by unfold Addr.add; split <;> simp_all
  refine .cell _ ⟨g, 0, none⟩ (fun j => .string (ss.getD j default)) ?_ (fun h => h) (fun j hj => ?_) (fun j p hp => ?_)
  · have := hcell 0 hpos
    unfold World.cell? at this
    split at this
    · rename_i hb; exact lt_of_block hb
    · cases this
  · rw [hadd, hcell j (by simpa using hj)]; exact ⟨rfl, rfl⟩
  · simp only [List.getElem?_map, Option.map_eq_some_iff] at hp
    obtain ⟨s, hs, rfl⟩ := hp
    have : ss.getD j default = s := by simp [List.getD, hs]
    rw [this]; exact .val _

section
variable {H : Type} {enc : TypeId × Value → H} {P : Program}

theorem trodAll_stays (hl : laidOutB P = true) {W W' : World} (hb : Below W.heap.size W W') : ∀ {ts : List TypeId} {vs : List Value} {ds : List (DataW H)} {ps : List MemPlace}, (∀ t ∈ ts, P.readableRec t = true ∧ t < P.types.size) →
    DataW.TrodAll enc P W 0 (fun _ => true) true ts vs ds ps → DataW.TrodAll enc P W' 0 (fun b => decide (b < W.heap.size)) true ts vs ds ps
  | [], [], [], ps, _, h => h
  | t :: ts, v :: vs, d :: ds, ps, ht, h => by
    obtain ⟨p, q, h1, h2, rfl⟩ := h
    exact ⟨p, q, Below.trod hl (ht t (by simp)).1 (ht t (by simp)).2 h1 hb (fun x hx => DataW.TrodAll.lt (ts := [t]) (vs := [v]) (ds := [d]) (ps := p) ⟨p, [], h1, rfl, by simp⟩ x hx), trodAll_stays hl hb (fun t' h' => ht t' (by simp [h'])) h2, rfl⟩
  | [], _ :: _, _, _, _, h => h.elim
  | [], [], _ :: _, _, _, h => h.elim
  | _ :: _, [], _, _, _, h => h.elim
  | _ :: _, _ :: _, [], _, _, h => h.elim

/-- The answer true, all as it was: what a law's specification asks of the call's end. -/
theorem law_post {f : Func} {s : ChangeSpec} {W W' : World} {args : Array Value} {ds gs : List (DataW H)} {before : List MemPlace} {tb : TypeId} (hl : laidOutB P = true) (hr : ∀ t ∈ f.params.toList, P.readableRec t = true ∧ t < P.types.size)
    (hres : f.resultTypes = #[tb]) (htb : P.underlying tb = some .bool) (hv : s.vars = []) (hfn : s.fn H ds = { results := [.lit (.bool true)], args := ds }) (hb : Below W.heap.size W W')
    (hW : DataW.Whole enc P f.params.toList s.vars false W args.toList ds gs before) : s.post enc P f false true false false W args (.bool true) W' := by
  have hW2 := hW
  obtain ⟨p, q, h1, h2, rfl, _, _⟩ := hW
  rw [hv] at h2
  have hgs : gs = [] ∧ q = [] := by
    cases gs with
    | nil => exact ⟨rfl, h2⟩
    | cons g gs => exact h2.elim
  obtain ⟨rfl, rfl⟩ := hgs
  refine ⟨ds, [], p ++ [], [], p, [], hW2, ?_, ?_, ?_, hb.frame _, fun h => by cases h⟩
  · rw [List.append_nil, hfn, hres]
    exact ⟨[], [], ⟨1, by show DataW.trod enc P W' _ _ _ 1 tb [.bool true] = _; simp [DataW.trod, htb]⟩, rfl, rfl⟩
  · rw [List.append_nil, hfn]
    exact trodAll_stays hl hb hr h1
  · rw [List.append_nil, hfn, hv]; exact rfl
end

end Go.Abs

namespace Go.Abs
open Go.RowKit

theorem cells_slice {P : Program} {w : World} {r : Reach} {base : Nat} {t e : TypeId} {v : Value} (ht : P.underlying t = some (.slice e)) (h : Value.okWide P w r base t v) : v.cells.toList = [v] := by
  cases v <;> first | rfl | simp [Value.okWide, ht, Cell.okWide, Cell.ok] at h
theorem cells_int {P : Program} {w : World} {r : Reach} {base : Nat} {t : TypeId} {k : IntKind} {v : Value} (ht : P.underlying t = some (.int k)) (h : Value.okWide P w r base t v) : v.cells.toList = [v] := by
  cases v <;> first | rfl | simp [Value.okWide, ht, Cell.okWide, Cell.ok] at h
theorem cells_bool {P : Program} {w : World} {r : Reach} {base : Nat} {t : TypeId} {v : Value} (ht : P.underlying t = some .bool) (h : Value.okWide P w r base t v) : v.cells.toList = [v] := by
  cases v <;> first | rfl | simp [Value.okWide, ht, Cell.okWide, Cell.ok] at h
theorem cells_string {P : Program} {w : World} {r : Reach} {base : Nat} {t : TypeId} {v : Value} (ht : P.underlying t = some .string) (h : Value.okWide P w r base t v) : v.cells.toList = [v] := by
  cases v <;> first | rfl | simp [Value.okWide, ht, Cell.okWide, Cell.ok] at h

end Go.Abs
