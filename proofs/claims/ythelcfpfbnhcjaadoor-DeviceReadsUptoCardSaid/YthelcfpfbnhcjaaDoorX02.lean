/- More operations: variables that hold references, parts of a function's own rows, maps that are ranged over. -/
import Derived.Test.YthelcfpfbnhcjaaDoorX01
import Derived.Maps.RangeRun

set_option linter.unusedVariables false
set_option linter.unusedSimpArgs false
set_option linter.unusedSectionVars false

namespace Go.Abs
open Go.RowKit
variable [Globals]

section
variable {P : Program} {T : Tab} {o : Oper} {ev : Operand → AV} {ob : Nat → Option AObj} {K : AV → Upd → Prop}

theorem near_op {x : Operand} {k : Nat} (hx : x ∈ o.op.operands) (h : k ∈ refs (ev x)) : near o ev ob k := .inl ⟨x, hx, h⟩
theorem near_obj {x : Operand} {k l : Nat} {obj : AObj} (hx : x ∈ o.op.operands) (h : l ∈ refs (ev x)) (ho : ob l = some obj) (hk : k ∈ refsO obj) : near o ev ob k := .inr ⟨x, hx, l, h, obj, ho, hk⟩

theorem at_box {St M0 : Nat → Prop} {σ : Sig} {w : World} {l : Nat} {cs : List AV} (h : At P w St M0 σ l (.box cs)) : ∃ b vs t, σ l = some ⟨.pointer (some ⟨b, 0, none⟩), some b⟩ ∧ w.heap[b]? = some (.cells vs t (0, 0)) ∧ vs.size = cs.length ∧
    (∀ i p, cs[i]? = some p → AR P w St (Mof M0 σ) σ p (vs.getD i undef)) ∧ ∀ i, i < vs.size → (vs.getD i undef).oneCell' = true := by
  obtain ⟨loc, hl, ho⟩ := h
  cases ho with
  | box cs b vs t hb hs hp h1 => exact ⟨b, vs, t, hl, hb, hs, hp, h1⟩

theorem refsL_get : ∀ {cs : List AV} {l : Nat}, l ∈ refs.refsL cs → ∃ (i : Nat) (c : AV), cs[i]? = some c ∧ l ∈ refs c
  | c :: cs, l, h => by
    simp only [refs.refsL, List.mem_append] at h
    rcases h with h | h
    · exact ⟨0, c, by simp, h⟩
    · obtain ⟨i, x, h1, h2⟩ := refsL_get h
      exact ⟨i + 1, x, by simpa using h1, h2⟩

/-- one cell of a variable -/
theorem step_load_box {t : TypeId} {x : Operand} {l off : Nat} {cs : List AV} {ty : TY} {v : AV} (hT : T.ok P) (ho : o.op = .load t x) (ht : T t = some ty) (hx : ev x = .ptr l off) (hob : ob l = some (.box cs)) (hd : aggD ty.und = false) (hv : cs[off]? = some v) :
    StepN P o ev ob [] v := by
  have hxm : x ∈ o.op.operands := by simp [ho, Op.operands]
  refine ⟨fun St M0 σ w ρ hi ha hobj hn hf => ?_, fun k hk => .inl (near_obj hxm (by simp [hx, refs]) hob (by simp only [refsO]; exact refs_sub hv k hk)), fun i obj e => by simp [getO] at e, fun k obj e => by simp [getO] at e⟩
  obtain ⟨b, vs, t', hl, hb, hs, hq, h1⟩ := at_box (hobj l (near_op hxm (by simp [hx, refs])) _ hob)
  obtain ⟨b', hb', hp⟩ := arg_ptr (hx ▸ ha x hxm) hl
  cases hb'
  obtain ⟨_, hu, _⟩ := hT t ty ht
  have hlt : off < vs.size := by rw [hs]; exact (List.getElem?_eq_some_iff.1 hv).1
  have hagg : (isAgg t).run P w = .ok false w := by
    unfold aggD at hd
    split at hd
    · cases hd
    · cases hd
    · simp only [isAgg, Sem.run_bind, run_underlying hu, Result.andThen_ok]; rfl
  have hz : w.cell? ⟨b, off, none⟩ = some (vs.getD off undef) := by simp [World.cell?, hb, Array.getD, hlt]
  unfold OpRuns
  rw [show (execOp ρ o).run P w = .ok (.value (vs.getD off undef)) w from by simp [execOp, ho, hp, Instr.loadAt, Instr.sureAddr, loadVar, hagg, hz]]
  exact ⟨σ, Post.still hi.sep (hq off v hv)⟩

/-- A value, read behind that the rows and maps in it are given up. -/
theorem frz_rel {St M0 : Nat → Prop} {σ : Sig} {w : World} (hi : Inv St M0 σ w) {x : AV} {v : Value} {L : List Nat} (hA : AR P w St (Mof M0 σ) σ x v) (hobj : ∀ l ∈ refs x, ∀ obj, ob l = some obj → At P w St M0 σ l obj)
    (hL : ∀ l ∈ refs x, l ∉ refs (frzV ob x) → l ∈ L) : AR P w St (Mof M0 (dropL σ L)) (dropL σ L) (frzV ob x) v := by
  have hM : ∀ b, b < w.heap.size → Mof M0 (dropL σ L) b → Mof M0 σ b := fun b _ hb => hb.imp id owned_dropL
  have hmono : ∀ (x : AV) (vx : Value), AR P w St (Mof M0 σ) σ x vx → AR P w St (Mof M0 (dropL σ L)) (dropL σ L) x vx := fun x vx hx => hx.mono (Same.refl _ w) hM (fun _ _ _ => rfl) (fun l _ loc hh => (dropL_some hh).1)
  cases x with
  | own l =>
    unfold frzV
    simp only
    split
    · rename_i size n f hob
      obtain ⟨loc, hl, hor⟩ := hobj l (by simp [refs]) _ hob
      have hv := arg_own hA hl
      have hlL := hL l (by simp [refs]) (by simp [frzV, hob, refs])
      refine .pv _ _ ?_
      rw [hv]
      cases hor with
      | row0 size f a => exact .ro size 0 f a 0 (fun _ _ => undef) (Nat.le_refl _) (Nat.zero_le _) (fun _ => Eq.refl _) (fun i h => absurd h (by omega)) (fun h => absurd h (by omega)) (fun i h => absurd h (by omega))
      | row size n f b cap vs t hb hn hmax hsz hs hh h1 =>
        refine .ro size n f (some ⟨b, 0, none⟩) cap (fun i j => vs.getD (i * size + j) undef) hn hmax (fun h => by cases h) hs (fun _ => ⟨_, rfl, lt_of_block hb, not_mof_dropL hi hl rfl hlL, fun i hi' j hj => ?_⟩) (fun i hi' j p e => (hh i hi' j p e).mono (Same.refl _ w) hM)
        have hlt : i * size + j < vs.size := by
          have := idx_lt hi' hj
          have h2 : n * size ≤ cap * size := Nat.mul_le_mul_right _ hn
          omega
        refine ⟨?_, h1 _ hlt⟩
        rw [add_block0]
        simp only [World.cell?, hb]
        simp [Array.getD, hlt]
    · exact hmono _ _ hA
  | ref l =>
    unfold frzV
    simp only
    split
    · rename_i kk look hob
      obtain ⟨loc, hl, hor⟩ := hobj l (by simp [refs]) _ hob
      have hv := arg_ref hA hl
      have hlL := hL l (by simp [refs]) (by simp [frzV, hob, refs])
      refine .pv _ _ ?_
      rw [hv]
      cases hor with
      | map _ _ r es clock em ev' hr hk hf' hp hn =>
        exact .map _ _ r es clock em ev' hr (not_mof_dropL hi hl rfl hlL) hk hf' (fun k p e e' => (hp k p e e').mono (Same.refl _ w) hM) hn
    · exact hmono _ _ hA
  | _ => exact hmono _ _ hA

/-- the cells as pure data, the rows and maps among them given up -/
def frzCells (ob : Nat → Option AObj) : List AV → Option (List PV)
  | [] => some []
  | c :: cs => match frzV ob c with
    | .pv p => match frzCells ob cs with
      | some ps => some (p :: ps)
      | none => none
    | _ => none

theorem frzCells_get : ∀ {cs : List AV} {ps : List PV}, frzCells ob cs = some ps → ps.length = cs.length ∧ ∀ (i : Nat) (p : PV), ps[i]? = some p → ∃ c, cs[i]? = some c ∧ frzV ob c = .pv p
  | [], ps, h => by simp only [frzCells, Option.some.injEq] at h; subst h; exact ⟨rfl, fun i p e => by simp at e⟩
  | c :: cs, ps, h => by
    unfold frzCells at h
    split at h
    · rename_i p hp
      split at h
      · rename_i qs hq
        cases h
        obtain ⟨h1, h2⟩ := frzCells_get hq
        refine ⟨by simp [h1], fun i r e => ?_⟩
        cases i with
        | zero => simp at e; subst e; exact ⟨c, by simp, hp⟩
        | succ i => obtain ⟨d, h3, h4⟩ := h2 i r (by simpa using e); exact ⟨d, by simpa using h3, h4⟩
      · cases h
    · cases h

theorem frzL_sub : ∀ {xs : List AV} {l : Nat}, l ∈ frzL ob xs → l ∈ refs.refsL xs
  | xs, l, h => by
    obtain ⟨x, hx, hl⟩ := frzL_refs h
    obtain ⟨i, hi⟩ := List.getElem?_of_mem hx
    exact refs_sub hi l hl

theorem refsL_take_drop {cs : List AV} {off n l : Nat} (h : l ∈ refs.refsL ((cs.drop off).take n)) : l ∈ refs.refsL cs := by
  obtain ⟨i, c, h1, h2⟩ := refsL_get h
  rw [List.getElem?_take] at h1
  split at h1
  · rw [List.getElem?_drop] at h1
    exact refs_sub h1 l h2
  · cases h1

theorem goneL_get {L : List Nat} {l : Nat} {x : AObj} (h : getO (goneL L) l = some x) : l ∈ L ∧ x = .gone := by
  rw [getO_gone] at h
  split at h
  · cases h; exact ⟨‹_›, rfl⟩
  · cases h

/-- a struct, out of a variable that holds references: what it holds is given up -/
theorem step_load_box_agg {t : TypeId} {x : Operand} {l off : Nat} {cs : List AV} {ty : TY} {ps : List PV} (hT : T.ok P) (ho : o.op = .load t x) (ht : T t = some ty) (hx : ev x = .ptr l off) (hob : ob l = some (.box cs)) (hd : aggD ty.und = true) (hfit : off + ty.info.size ≤ cs.length)
    (hp : frzCells ob ((cs.drop off).take ty.info.size) = some ps) (hlv : ∀ k ∈ frzL ob ((cs.drop off).take ty.info.size), liveO (ob k) = true) : StepN P o ev ob (goneL (frzL ob ((cs.drop off).take ty.info.size))) (.pv (.agg ps)) := by
  have hxm : x ∈ o.op.operands := by simp [ho, Op.operands]
  have hnear : ∀ k ∈ frzL ob ((cs.drop off).take ty.info.size), near o ev ob k := fun k hk => near_obj hxm (by simp [hx, refs]) hob (by simp only [refsO]; exact refsL_take_drop (frzL_sub hk))
  generalize hL : frzL ob ((cs.drop off).take ty.info.size) = L at *
  refine ⟨fun St M0 σ w ρ hi ha hobj hn hf => ?_, fun k hk => by simp [refs] at hk, fun i obj e k hk => by obtain ⟨_, rfl⟩ := goneL_get e; simp [refsO] at hk, fun k obj e => by obtain ⟨h1, rfl⟩ := goneL_get e; exact ⟨.inl (hnear k h1), .inr (.inr rfl)⟩⟩
  obtain ⟨b, vs, t', hl, hb, hs, hq, h1⟩ := at_box (hobj l (near_op hxm (by simp [hx, refs])) _ hob)
  obtain ⟨b', hb', hpt⟩ := arg_ptr (hx ▸ ha x hxm) hl
  cases hb'
  obtain ⟨hin, hu, _⟩ := hT t ty ht
  have hagg : (isAgg t).run P w = .ok true w := by
    unfold aggD at hd
    split at hd
    · rename_i e; simp [isAgg, run_underlying (e ▸ hu)]
    · rename_i e; simp [isAgg, run_underlying (e ▸ hu)]
    · cases hd
  have hsz : (sizeOf t).run P w = .ok ty.info.size w := by simp [sizeOf, run_typeInfo_some hin]
  have hload := run_loadCells (P := P) w ⟨b, off, none⟩ ty.info.size (fun j => vs.getD (off + j) undef) (fun j hj => by
    have hlt : off + j < vs.size := by omega
    have hadd : (⟨b, off, none⟩ : Addr).add j = ⟨b, off + j, none⟩ := by unfold Addr.add; split <;> simp_all
    rw [hadd]
    simp [World.cell?, hb, Array.getD, hlt])
  unfold OpRuns
  rw [show (execOp ρ o).run P w = .ok (.value (.agg ((List.range ty.info.size).map fun j => vs.getD (off + j) undef).toArray)) w from by simp [execOp, ho, hpt, Instr.loadAt, Instr.sureAddr, loadVar, hagg, hsz, hload]]
  obtain ⟨hpl, hpg⟩ := frzCells_get hp
  have hlen : ((cs.drop off).take ty.info.size).length = ty.info.size := by simp; omega
  refine ⟨dropL σ L, ⟨.pv _ _ (.agg _ _ (by simp [hpl]; omega) (fun i p e => ?_) (fun i hi' => ?_)), fun k y e => ?_, fun k e => ?_, fun k lc lc' e e' => ?_, (hi.dropL L).sep, fun b hb => .inl (owned_dropL hb), FExt.refl _ w⟩⟩
  · obtain ⟨c, hc, hfz⟩ := hpg i p e
    have hi2 : i < ty.info.size := by rw [← hlen]; exact (List.getElem?_eq_some_iff.1 hc).1
    have hc2 : cs[off + i]? = some c := by
      rw [List.getElem?_take, if_pos hi2, List.getElem?_drop] at hc
      exact hc
    have : (((List.range ty.info.size).map fun j => vs.getD (off + j) undef).toArray.getD i undef) = vs.getD (off + i) undef := by simp [Array.getD, hi2]
    rw [this]
    have hA := frz_rel (L := L) hi (hq _ c hc2) (fun k hk obj e => hobj k (near_obj hxm (by simp [hx, refs]) hob (by simp only [refsO]; exact refs_sub hc2 k hk)) obj e)
      (fun k hk hn => by rw [← hL]; exact frzL_nil _ (List.mem_of_getElem? hc) k hk hn)
    rw [hfz] at hA
    exact arg_pv hA
  · have hi2 : i < ty.info.size := by simpa using hi'
    have : (((List.range ty.info.size).map fun j => vs.getD (off + j) undef).toArray.getD i undef) = vs.getD (off + i) undef := by simp [Array.getD, hi2]
    rw [this]
    exact h1 _ (by omega)
  · obtain ⟨h2, rfl⟩ := goneL_get e
    show dropL σ L k = none
    simp [dropL, h2]
  · rw [getO_gone] at e
    split at e
    · cases e
    · rename_i h2; simp [dropL, h2]
  · have := (dropL_some e').1
    rw [e] at this; exact (Option.some.inj this).symm

/-- what is stored in a variable that may hold references -/
def putCells (ob : Nat → Option AObj) : AV → Option (List AV)
  | .pv p => match pone p with
    | true => some ((pcells p).map .pv)
    | false => none
  | .own l => match ob l with
    | some (.row _ _ _) => some [.own l]
    | _ => none
  | .ref l => match ob l with
    | some (.map _ _) => some [.ref l]
    | _ => none
  | _ => none

theorem putCells_rel {St M0 : Nat → Prop} {σ : Sig} {w : World} {x : AV} {v : Value} {qs : List AV} (h : putCells ob x = some qs) (hA : AR P w St (Mof M0 σ) σ x v) (hobj : ∀ l ∈ refs x, ∀ obj, ob l = some obj → At P w St M0 σ l obj) :
    v.cells.size = qs.length ∧ (∀ (i : Nat) (q : AV), qs[i]? = some q → AR P w St (Mof M0 σ) σ q (v.cells.getD i undef)) ∧ ∀ i, i < v.cells.size → (v.cells.getD i undef).oneCell' = true := by
  have one : ∀ (x : AV) (v : Value), AR P w St (Mof M0 σ) σ x v → v.oneCell' = true → v.cells.size = [x].length ∧ (∀ (i : Nat) (q : AV), [x][i]? = some q → AR P w St (Mof M0 σ) σ q (v.cells.getD i undef)) ∧ ∀ i, i < v.cells.size → (v.cells.getD i undef).oneCell' = true := by
    intro x v hx hv
    have hc : v.cells = #[v] := by cases v <;> first | rfl | cases hv
    rw [hc]
    refine ⟨rfl, fun i q e => ?_, fun i hi => ?_⟩
    · cases i with
      | zero => simp at e; subst e; exact hx
      | succ i => simp at e
    · have : i = 0 := by simpa using hi
      subst this; exact hv
  unfold putCells at h
  split at h
  · split at h
    · rename_i hp
      cases h
      obtain ⟨h1, h2, h3⟩ := pcells_rel (arg_pv hA) hp
      refine ⟨by simp [h1], fun i q e => ?_, h3⟩
      rw [List.getElem?_map] at e
      cases hq : (pcells _)[i]? with
      | none => rw [hq] at e; cases e
      | some y => rw [hq] at e; cases e; exact .pv _ _ (h2 i y hq)
    · cases h
  · rename_i l
    split at h
    · rename_i s n f hob
      cases h
      obtain ⟨loc, hl, hor⟩ := hobj l (by simp [refs]) _ hob
      have hv := arg_own hA hl
      refine one _ _ hA ?_
      rw [hv]
      cases hor <;> rfl
    · cases h
  · rename_i l
    split at h
    · rename_i kk look hob
      cases h
      obtain ⟨loc, hl, hor⟩ := hobj l (by simp [refs]) _ hob
      have hv := arg_ref hA hl
      refine one _ _ hA ?_
      rw [hv]
      cases hor <;> rfl
    · cases h
  · cases h

theorem putCells_refs {x : AV} {qs : List AV} (h : putCells ob x = some qs) : ∀ l ∈ refs.refsL qs, l ∈ refs x := by
  intro l hl
  unfold putCells at h
  split at h
  · split at h
    · cases h
      obtain ⟨i, c, h1, h2⟩ := refsL_get hl
      rw [List.getElem?_map] at h1
      cases hq : (pcells _)[i]? with
      | none => rw [hq] at h1; cases h1
      | some y => rw [hq] at h1; cases h1; simp [refs] at h2
    · cases h
  · split at h
    · cases h; simpa [refs.refsL] using hl
    · cases h
  · split at h
    · cases h; simpa [refs.refsL] using hl
    · cases h
  · cases h

theorem splice_refs {cs qs : List AV} {off l : Nat} (hfit : off + qs.length ≤ cs.length) (h : l ∈ refs.refsL (splice cs off qs)) : l ∈ refs.refsL cs ∨ l ∈ refs.refsL qs := by
  obtain ⟨i, c, h1, h2⟩ := refsL_get h
  rw [splice_get off cs qs i hfit] at h1
  split at h1
  · exact .inr (refs_sub h1 l h2)
  · exact .inl (refs_sub h1 l h2)

theorem step_store_box {t : TypeId} {x y : Operand} {l off : Nat} {cs qs : List AV} {ty : TY} (hT : T.ok P) (ho : o.op = .store t x y) (ht : T t = some ty) (hx : ev x = .ptr l off) (hob : ob l = some (.box cs)) (hq : putCells ob (ev y) = some qs)
    (hsz : qs.length = ty.info.size) (hfit : off + qs.length ≤ cs.length) : StepN P o ev ob [(l, .box (splice cs off qs))] .junk := by
  have hxm : x ∈ o.op.operands := by simp [ho, Op.operands]
  have hym : y ∈ o.op.operands := by simp [ho, Op.operands]
  refine ⟨fun St M0 σ w ρ hi ha hobj hn hf => ?_, fun k hk => by simp [refs] at hk, fun i obj e k hk => ?_, fun k obj e => ?_⟩
  · obtain ⟨b, vs, t', hl, hb, hs, hc, hone⟩ := at_box (hobj l (near_op hxm (by simp [hx, refs])) _ hob)
    obtain ⟨b', hb', hv⟩ := arg_ptr (hx ▸ ha x hxm) hl
    cases hb'
    obtain ⟨hcs, hcp, hc1⟩ := putCells_rel hq (ha y hym) (fun k hk obj e => hobj k (near_op hym hk) obj e)
    have hr := run_store_row (w := w) (off := off) hT ht hb (by rw [hcs, hsz]) (by rw [hcs, hs]; exact hfit) hc1
    unfold OpRuns
    rw [show (execOp ρ o).run P w = .ok .skip (w.setRow b (cut vs off (ρ y).cells.toList)) from by simp [execOp, ho, hv, Instr.storeAt, Instr.sureAddr, hr]]
    have hx' := fext_setRow w b (cut vs off (ρ y).cells.toList)
    have hsame := same_of_fext (M0 := M0) hl rfl hx'
    have hst := st_of_fext hi hl rfl hx'
    have hfit' : off + (ρ y).cells.toList.length ≤ vs.size := by simp [hcs, hs]; exact hfit
    refine ⟨σ, Post.upd hi hl rfl hx' (by simp) (.box _ b _ t' (setRow_heap w b vs _ t' _ hb) (by rw [cut_size hfit', hs, splice_length]) (fun i q e => ?_) (fun i hi' => ?_)) (.junk _)⟩
    · have hlt : i < vs.size := by
        have := (List.getElem?_eq_some_iff.1 e).1
        rw [splice_length] at this; omega
      rw [splice_get off cs _ i hfit] at e
      rw [cut_get hfit' i]
      have e1 : (ρ y).cells.toList.length = qs.length := by simp [hcs]
      rw [e1]
      split at e
      · rename_i hc
        rw [if_pos hc]
        have := (hcp _ q e).mono hsame (fun _ _ h => h) hst (fun _ _ _ h => h)
        simpa [Array.getD_eq_getD_getElem?, List.getD] using this
      · rename_i hc'
        rw [if_neg hc']
        exact (hc i q e).mono hsame (fun _ _ h => h) hst (fun _ _ _ h => h)
    · rw [cut_size hfit'] at hi'
      rw [cut_get hfit' i]
      by_cases hc : off ≤ i ∧ i < off + (ρ y).cells.toList.length
      · rw [if_pos hc]
        have := hc1 (i - off) (by simp at hc; omega)
        simpa [Array.getD_eq_getD_getElem?, List.getD] using this
      · rw [if_neg hc]; exact hone i hi'
  · rw [getO_one] at e
    split at e
    · cases e
      simp only [refsO] at hk
      rcases splice_refs hfit hk with h | h
      · exact .inl (near_obj hxm (by simp [hx, refs]) hob (by simpa [refsO] using h))
      · exact .inl (near_op hym (putCells_refs hq k h))
    · cases e
  · rw [getO_one] at e
    split at e
    · rename_i h; subst h
      exact ⟨.inl (near_op hxm (by simp [hx, refs])), .inr (.inl (by rw [hob]; rfl))⟩
    · cases e

/-! Maps that are ranged over. -/

def isMapT (T : Tab) (t : TypeId) : Bool :=
  match T t with
  | some ty => match ty.und with
    | .map _ _ => true
    | _ => false
  | none => false

theorem isMapT_spec (hT : T.ok P) {t : TypeId} (ht : isMapT T t = true) : ∃ k e, P.underlying t = some (.map k e) := by
  unfold isMapT at ht
  split at ht
  · rename_i ty hty
    obtain ⟨_, hu, _⟩ := hT _ _ hty
    split at ht
    · rename_i k e he; exact ⟨k, e, by rw [hu, he]⟩
    · cases ht
  · cases ht

theorem step_range_map {t : TypeId} {x : Operand} {kk : KK} {look : Value → Option PV} {d : Nat} (hT : T.ok P) (ho : o.op = .range t x) (hx : ev x = .pv (.map kk look)) (hs : isMapT T t = true) : Step P o ev ob [(d, .miter kk look [])] (.ref d) := by
  have hxm : x ∈ o.op.operands := by simp [ho, Op.operands]
  have hback : ∀ u ∈ o.op.operands, refs (ev u) = [] := by
    intro u hu
    simp [ho, Op.operands] at hu
    subst hu; rw [hx]; rfl
  refine ⟨?_, fun l hl => .inr (by simp [refs] at hl; subst hl; simp [getO]), fun i obj e' l hl => by rw [getO_one] at e'; split at e' <;> cases e'; simp [refsO] at hl, fun l obj e' ⟨x, hx, hl⟩ => by rw [hback x hx] at hl; simp at hl⟩
  intro St M0 σ w ρ hi ha hobj hf
  have hfr : σ d = none := by
    rcases hf d (by simp [getO]) with ⟨x, hx, hl⟩ | ⟨h, _⟩
    · rw [hback x hx] at hl; simp at hl
    · exact h
  have hp := arg_pv (hx ▸ ha x hxm)
  obtain ⟨m, es, clock, hv, hm, hM, hat⟩ := pr_map hp
  obtain ⟨k, e, hu⟩ := isMapT_spec hT hs
  unfold OpRuns
  rw [show (execOp ρ o).run P w = .ok (.value (.pointer (some ⟨w.heap.size, 0, none⟩))) (w.alloc (.mapIter (some m) clock #[] clock)) from by
    simp only [execOp, ho, Instr.range, Sem.run_bind, run_underlying hu, hv, MapKept.run_getObj_map hm, Result.andThen]; rfl]
  have hsame := same_alloc (Mof M0 σ) w (.mapIter (some m) clock #[] clock)
  have hmof := mof_upd1 (M0 := M0) (σ := σ) (id := d) (loc := ⟨.pointer (some ⟨w.heap.size, 0, none⟩), some w.heap.size⟩) (n := w.heap.size) (fun b hb => by cases hb; exact Nat.le_refl _)
  have hlt := lt_of_block hm
  rw [hv] at hp
  refine ⟨_, Post.new (loc := ⟨.pointer (some ⟨w.heap.size, 0, none⟩), some w.heap.size⟩) hi hfr (fun b hb => by cases hb; rfl) (by simp)
    (.miter kk look [] _ m es clock #[] (alloc_new w _) (hp.mono hsame hmof) ((alloc_old w _ m hlt).trans hm) (fun h => hM (hmof m hlt h)) (fun i e _ => by simp) (fun k s e => by cases e)) (.ref _ _ fun lc h => by simp [upd1] at h; rw [← h])⟩

theorem fext_iter {w w1 : World} {r : Nat} (h : w1 = w ∨ w1 = w.drew) (x : Obj) (hr : r < w.heap.size) : FExt (fun b => b = r) w (ChangeMaps.setBlock w1 r x) := by
  have hh : w1.heap = w.heap := by rcases h with rfl | rfl <;> rfl
  refine ⟨?_, ?_, ?_, ?_, fun b hb hne => ?_, ?_⟩
  · rcases h with rfl | rfl <;> rfl
  · rcases h with rfl | rfl <;> rfl
  · rcases h with rfl | rfl <;> rfl
  · show w.heap.size ≤ (w1.heap.setIfInBounds r x).size
    rw [hh]; simp
  · show (w1.heap.setIfInBounds r x)[b]? = _
    rw [hh]; simp [Ne.symm hne]
  · rcases h with rfl | rfl
    · exact Nat.le_refl _
    · exact Nat.le_succ _

/-- the next entry of a map: one whose key has not been seen -/
theorem next_map_runs {x : Operand} {kk : KK} {look : Value → Option PV} {seen : List Value} {l : Nat} (ho : o.op = .next x false) (hx : ev x = .ref l)
    (h1 : ∀ k p, kk.has k → look k = some p → k ∉ seen → K (.pv (.tup [.val (.bool true), ofConst k, p])) [(l, .miter kk look (k :: seen))]) (h2 : (∀ k p, kk.has k → look k = some p → k ∈ seen) → K (.pv (.tup [.val (.bool false)])) [])
    {St M0 : Nat → Prop} {σ : Sig} {w : World} {ρ : Operand → Value} (hi : Inv St M0 σ w) (ha : AR P w St (Mof M0 σ) σ (ev x) (ρ x)) (hob : At P w St M0 σ l (.miter kk look seen)) :
    OpRuns P o ρ w (fun v' w' => ∃ p u σ', K (.pv p) u ∧ Post P St M0 σ w u (.pv p) σ' v' w' ∧ (u = [] ∨ ∃ k, u = [(l, .miter kk look (k :: seen))])) := by
  obtain ⟨loc, hl, hor⟩ := hob
  have hv := arg_ref (hx ▸ ha) hl
  cases hor with
  | miter _ _ _ r m es clock sb hr hp hm hM hs _ =>
    obtain ⟨m', es', clock', e1, hm', _, hat⟩ := pr_map hp
    cases e1
    rw [hm] at hm'
    cases hm'
    have hborn : ∀ x ∈ es.toList, x.born < clock := fun x hx => by
      obtain ⟨i, hi⟩ := List.getElem?_of_mem hx
      exact hat.keys.2.born i x (by simpa using hi)
    have hleft : ∀ e, e ∈ (leftOf es sb).toList ↔ (∃ i : Nat, es[i]? = some e) ∧ e.born ∉ sb := fun e => by
      unfold leftOf
      rw [Array.mem_toList_iff, Array.mem_filter, Array.mem_iff_getElem? (xs := es)]
      simp
    have fin : ∀ (p : PV) (v' : Value) (w' : World), (Instr.next (.pointer (some ⟨r, 0, none⟩)) false o.type).run P w = .ok v' w' → (execOp ρ o).run P w = .ok (.value v') w' := by
      intro p v' w' hrun
      simp only [execOp, ho, hv, Sem.run_bind, hrun]; simp
    rcases run_next_at (P := P) w o.type r m clock clock sb es clock hr hm hborn (Nat.le_refl _) with ⟨h0, hrun⟩ | ⟨e, he, w1, hw1, hrun⟩
    · unfold OpRuns
      rw [fin (.tup []) _ _ hrun]
      refine ⟨_, _, σ, h2 fun k p hk hlk => ?_, Post.still hi.sep (.pv _ _ (.tup _ _ rfl fun i q e => ?_)), .inl rfl⟩
      · obtain ⟨i, e, h3, h4, _⟩ := hat.som k p hk hlk
        have hnl : e ∉ (leftOf es sb).toList := by
          have : (leftOf es sb).toList = [] := by rw [← List.length_eq_zero_iff]; simpa using h0
          rw [this]; simp
        rw [hleft] at hnl
        have h5 : e.born ∈ sb := Classical.not_not.1 fun h => hnl ⟨⟨i, h3⟩, h⟩
        rw [← h4]
        exact (hs i e h3).1 h5
      · match i, e with
        | 0, e => simp at e; subst e; exact .val _
        | i + 1, e => simp at e
    · obtain ⟨⟨i, hi'⟩, hnb⟩ := (hleft e).1 he
      have hkey := hat.keys.1 i e hi'
      have hns : e.key ∉ seen := fun h => hnb ((hs i e hi').2 h)
      have hlt : r < w.heap.size := lt_of_block hr
      have hx2 := fext_iter (w := w) hw1 (.mapIter (some m) clock (sb.push e.born) clock) hlt
      have hsame := same_of_fext (M0 := M0) hl rfl hx2
      have hh : w1.heap = w.heap := by rcases hw1 with rfl | rfl <;> rfl
      have hmr : m ≠ r := fun h => by rw [h, hr] at hm; cases hm
      cases hlk : look e.key with
      | none => exact absurd rfl (hat.non e.key hkey hlk i e hi')
      | some p =>
        obtain ⟨j, e', h3, h4, h5, _⟩ := hat.som e.key p hkey hlk
        have hij := hat.keys.2.key j i e' e h3 hi' h4
        subst hij
        rw [hi'] at h3
        cases h3
        unfold OpRuns
        rw [fin p _ _ hrun]
        refine ⟨_, _, σ, h1 e.key p hkey hlk hns, Post.upd hi hl rfl hx2 (by simp) (.miter kk look (e.key :: seen) r m es clock (sb.push e.born) ?_ (hp.mono hsame (fun _ _ h => h)) ?_ hM (fun k x hk => ?_) (fun k s hk => by cases hk; exact ⟨j, e, hi', rfl, by simp⟩)) (.pv _ _ (.tup _ _ rfl fun q y hq => ?_)), .inr ⟨_, rfl⟩⟩
        · show (w1.heap.setIfInBounds r _)[r]? = _
          rw [hh]; simp [hlt]
        · exact (hsame.2 m (lt_of_block hm) hM).trans hm
        · rw [Array.mem_push, List.mem_cons, hs k x hk]
          constructor
          · rintro (h | h)
            · exact .inr h
            · have := hat.keys.2.inj k j x e hk hi' h
              subst this
              rw [hk] at hi'; cases hi'
              exact .inl rfl
          · rintro (h | h)
            · have := hat.keys.2.key k j x e hk hi' h
              subst this
              rw [hk] at hi'; cases hi'
              exact .inr rfl
            · exact .inl h
        · match q, hq with
          | 0, hq => simp at hq; subst hq; exact .val _
          | 1, hq => simp at hq; subst hq; exact ofConst_rel _
          | 2, hq => simp at hq; subst hq; exact h5.mono hsame (fun _ _ h => h)
          | q + 3, hq => simp at hq

/-- the entry that the last step handed out -/
theorem step_entry {x : Operand} {kk : KK} {look : Value → Option PV} {k : Value} {seen : List Value} {l : Nat} {p : PV} (ho : o.op = .entry x) (hx : ev x = .ref l) (hob : ob l = some (.miter kk look (k :: seen))) (hp : look k = some p) :
    Step P o ev ob [] (.pv (.tup [ofConst k, p])) := by
  have hxm : x ∈ o.op.operands := by simp [ho, Op.operands]
  refine .of_pure (fun l hl => by simp [refs] at hl) fun St M0 σ w ρ hin ha hobj => ?_
  obtain ⟨loc, hl, hor⟩ := hobj x hxm l (by simp [hx, refs]) _ hob
  have hv := arg_ref (hx ▸ ha x hxm) hl
  cases hor with
  | miter _ _ _ r m es clock sb hr hpm hm hM hs hlast =>
    obtain ⟨m', es', clock', e1, hm', _, hat⟩ := pr_map hpm
    cases e1
    rw [hm] at hm'
    cases hm'
    obtain ⟨i, e, hi, hk, hback⟩ := hlast k seen rfl
    have hsb : sb = sb.pop.push e.born := by
      have hne : sb.size ≠ 0 := fun h => by
        have : sb = #[] := Array.eq_empty_of_size_eq_zero h
        subst this; simp at hback
      rw [Array.back?_eq_getElem?] at hback
      have hlt : sb.size - 1 < sb.size := by omega
      rw [Array.getElem?_eq_getElem hlt] at hback
      have hb := Option.some.inj hback
      rw [← hb]
      apply Array.ext
      · simp; omega
      · intro j h1 h2
        rw [Array.getElem_push]
        split
        · simp
        · have : j = sb.size - 1 := by simp at *; omega
          subst this; rfl
    rw [hsb] at hr
    have hnd : (es.toList.map (·.born)).Nodup := by
      rw [List.nodup_iff_pairwise_ne, List.pairwise_map, List.pairwise_iff_getElem]
      intro a b ha hb hab hne
      have := hat.keys.2.inj a b es.toList[a] es.toList[b] (by simp) (by simp) hne
      omega
    have hrun := run_entry_at (P := P) w r m clock sb.pop es clock e hr hm (Array.mem_toList_iff.2 (Array.mem_of_getElem? hi)) hnd
    have hkey := hat.keys.1 i e hi
    rw [hk] at hkey
    obtain ⟨j, e', h3, h4, h5, _⟩ := hat.som k p hkey hp
    have hij := hat.keys.2.key j i e' e h3 hi (by rw [h4, hk])
    subst hij
    rw [hi] at h3
    cases h3
    refine ⟨.tuple #[e.key, e.val], by simp only [execOp, ho, hv, Sem.run_bind, hrun]; simp, .pv _ _ (.tup _ _ rfl fun q y hq => ?_)⟩
    match q, hq with
    | 0, hq => simp at hq; subst hq; simp only [hk]; exact ofConst_rel _
    | 1, hq => simp at hq; subst hq; exact h5
    | q + 2, hq => simp at hq

/-! Parts of a function's own rows. -/

theorem arg_part {w : World} {St M : Nat → Prop} {σ : Sig} {l size i n : Nat} {v : Value} (h : AR P w St M σ (.part l size i n) v) {loc : Loc} (hl : σ l = some loc) : ∃ a c, v = .slice a n c ∧ n ≤ c ∧ c ≤ maxLen ∧ (0 < n → ∃ b, loc.blk = some b ∧ a = some ⟨b, i * size, none⟩) := by
  cases h with | part _ _ _ _ _ h => exact h _ hl

theorem at_rowV {St M0 : Nat → Prop} {σ : Sig} {w : World} {l size n : Nat} {f : Nat → List PV} (h : At P w St M0 σ l (.row size n f)) : ∃ loc a cap, σ l = some loc ∧ loc.ref = .slice a n cap ∧ n ≤ cap ∧ cap ≤ maxLen ∧ (0 < cap → ∃ b, loc.blk = some b ∧ a = some ⟨b, 0, none⟩) := by
  obtain ⟨loc, hl, ho⟩ := h
  cases ho with
  | row0 size f a => exact ⟨_, a, 0, hl, rfl, Nat.le_refl _, Nat.zero_le _, fun h => absurd h (by omega)⟩
  | row size n f b cap vs t hb hn hmax hsz hs hp h1 => exact ⟨_, _, cap, hl, rfl, hn, hmax, fun _ => ⟨b, rfl, rfl⟩⟩

theorem step_slice_from {t : TypeId} {x i : Operand} {l size n : Nat} {f : Nat → List PV} {k : IntKind} {h : Int} (hT : T.ok P) (ho : o.op = .slice t x (some i) none none) (hx : ev x = .own l) (hob : ob l = some (.row size n f)) (hi : ev i = .pv (.val (.int k h))) (hs : SliceOf T t size) (h0 : 0 ≤ h) (h1 : h ≤ n) :
    Step P o ev ob [] (.part l size h.toNat (n - h.toNat)) := by
  have hxm : x ∈ o.op.operands := by simp [ho, Op.operands]
  have him : i ∈ o.op.operands := by simp [ho, Op.operands]
  refine .of_pure (fun k hk => ⟨x, hxm, by simpa [hx, refs] using hk⟩) fun St M0 σ w ρ hin ha hobj => ?_
  have hq := pr_val (arg_pv (hi ▸ ha i him))
  obtain ⟨loc, a, cap, hl, href, hcap, hmax, hb⟩ := at_rowV (hobj x hxm l (by simp [hx, refs]) _ hob)
  have hv := arg_own (hx ▸ ha x hxm) hl
  rw [href] at hv
  obtain ⟨ty, e, ety, h2, h3, h4, h5⟩ := hs
  obtain ⟨_, hu, _⟩ := hT _ _ h2
  obtain ⟨hie, _, _⟩ := hT _ _ h4
  rw [h3] at hu
  have hsz : (sizeOf e).run P w = .ok ety.info.size w := by simp [sizeOf, run_typeInfo_some hie]
  refine ⟨.slice (if cap = h.toNat then a else a.map (·.add (h.toNat * size))) (n - h.toNat) (cap - h.toNat), ?_, .part _ _ _ _ _ fun loc' hl' => ⟨_, _, rfl, by omega, by omega, fun hp => ?_⟩⟩
  · simp [execOp, ho, hv, hq, Instr.sliceAt, Instr.slice, Instr.sliceBounds, Instr.sliceBound, asIntOf, run_underlying hu, h0, h1, hsz, h5]
  · rw [hl] at hl'; cases hl'
    obtain ⟨b, hb1, rfl⟩ := hb (by omega)
    refine ⟨b, hb1, ?_⟩
    rw [if_neg (by omega)]
    simp [add_block0]

theorem step_slice_own {t : TypeId} {x i : Operand} {l d size n : Nat} {f : Nat → List PV} {k : IntKind} {h : Int} (hT : T.ok P) (ho : o.op = .slice t x none (some i) none) (hx : ev x = .own l) (hob : ob l = some (.row size n f)) (hi : ev i = .pv (.val (.int k h))) (hs : SliceOf T t size) (h0 : 0 ≤ h) (h1 : h ≤ n) (hd : ob d = none) :
    Step P o ev ob [(d, .row size h.toNat f), (l, .gone)] (.own d) := by
  have hxm : x ∈ o.op.operands := by simp [ho, Op.operands]
  have him : i ∈ o.op.operands := by simp [ho, Op.operands]
  have hdl : d ≠ l := fun e => by rw [e, hob] at hd; cases hd
  have hgo : ∀ k, getO [(d, AObj.row size h.toNat f), (l, AObj.gone)] k = if d = k then some (AObj.row size h.toNat f) else if l = k then some .gone else none := fun k => by
    rw [getO_cons']
    split
    · rfl
    · exact getO_one
  refine ⟨?_, fun k hk => .inr (by simp [refs] at hk; subst hk; rw [hgo]; simp), fun i obj e k hk => ?_, fun k obj e ⟨y, hy, hk⟩ => ?_⟩
  · intro St M0 σ w ρ hin ha hobj hf
    have hq := pr_val (arg_pv (hi ▸ ha i him))
    obtain ⟨loc, hl, hor⟩ := hobj x hxm l (by simp [hx, refs]) _ hob
    have hfr : σ d = none := by
      rcases hf d (by rw [hgo]; simp) with ⟨y, hy, hl'⟩ | ⟨h, _⟩
      · have : y = x ∨ y = i := by simpa [ho, Op.operands] using hy
        rcases this with rfl | rfl
        · rw [hx] at hl'; simp [refs] at hl'; exact absurd hl' hdl
        · rw [hi] at hl'; simp [refs] at hl'
      · exact h
    have hv := arg_own (hx ▸ ha x hxm) hl
    obtain ⟨ty, e, ety, h2, h3, h4, h5⟩ := hs
    obtain ⟨_, hu, _⟩ := hT _ _ h2
    obtain ⟨hie, _, _⟩ := hT _ _ h4
    rw [h3] at hu
    have hsz : (sizeOf e).run P w = .ok ety.info.size w := by simp [sizeOf, run_typeInfo_some hie]
    have hadd : ∀ (a : Option Addr) (cap : Nat), (if cap = 0 then a else Option.map (fun x => x.add 0) a) = a := fun a cap => by cases a <;> simp [add_zero]
    have hMM : ∀ (lc : Loc), lc.blk = loc.blk → ∀ b, b < w.heap.size → Mof M0 (upd1 (drop1 σ l) d lc) b → Mof M0 σ b := by
      intro lc hlc b _ hb
      rcases hb with hb | hb
      · exact .inl hb
      · rcases owned_upd1 hb with h | h
        · exact .inr (owned_drop1 h)
        · exact .inr ⟨l, loc, hl, by rw [← hlc]; exact h⟩
    unfold OpRuns
    cases hor with
    | row0 _ _ a =>
      have e0 : h = 0 := by omega
      subst e0
      rw [show (execOp ρ o).run P w = .ok (.value (.slice a 0 0)) w from by
        simp [execOp, ho, hv, hq, Instr.sliceAt, Instr.slice, Instr.sliceBounds, Instr.sliceBound, asIntOf, run_underlying hu, hsz]]
      exact ⟨_, Post.moved (loc := ⟨.slice a 0 0, none⟩) hin hfr hl (fun b hb => by cases hb) ((FExt.refl (fun _ => False) w).mono (fun _ _ h => h.elim)) (by simp) (.row0 _ _ a)⟩
    | row _ _ _ b cap vs t' hb hn hmax hsz' hs' hh hone =>
      have hle : h ≤ cap := by omega
      rw [show (execOp ρ o).run P w = .ok (.value (.slice (some ⟨b, 0, none⟩) h.toNat cap)) w from by
        simp [execOp, ho, hv, hq, Instr.sliceAt, Instr.slice, Instr.sliceBounds, Instr.sliceBound, asIntOf, run_underlying hu, h0, hle, hsz, hadd, add_zero]]
      exact ⟨_, Post.moved (loc := ⟨.slice (some ⟨b, 0, none⟩) h.toNat cap, some b⟩) hin hfr hl (fun b hb => .inl hb) ((FExt.refl (fun _ => False) w).mono (fun _ _ h => h.elim)) (by simp)
        (.row _ _ _ b cap vs t' hb (by omega) hmax hsz' (fun i hi' => hs' i (by omega)) (fun i hi' j p e => (hh i (by omega) j p e).mono (Same.refl _ w) (hMM _ rfl)) hone)⟩
  · rw [hgo] at e
    split at e
    · cases e; simp [refsO] at hk
    · split at e
      · cases e; simp [refsO] at hk
      · cases e
  · have : y = x ∨ y = i := by simpa [ho, Op.operands] using hy
    rcases this with rfl | rfl
    · rw [hx] at hk; simp [refs] at hk; subst hk
      rw [hgo, if_neg hdl, if_pos rfl] at e
      cases e; exact .inr rfl
    · rw [hi] at hk; simp [refs] at hk

theorem step_len_part {t : TypeId} {x : Operand} {l size i n : Nat} (hT : T.ok P) (ho : o.op = .call { callee := .builtin .len, args := #[x], argTypes := #[t] }) (hx : ev x = .part l size i n) (hl : liveO (ob l) = true) (hs : SliceOf T t size) : Step P o ev ob [] (.pv (.val (.int .i64 n))) := by
  have hxm : x ∈ o.op.operands := by simp [ho, Op.operands, Call.operands]
  refine .of_pure (fun l hl => by simp [refs] at hl) fun St M0 σ w ρ hi ha hobj => ?_
  obtain ⟨obj, h1, h2⟩ := liveO_some hl
  obtain ⟨loc, h3, _⟩ := at_live (hobj x hxm l (by simp [hx, refs]) _ h1) h2
  obtain ⟨a, c, hv, _⟩ := arg_part (hx ▸ ha x hxm) h3
  obtain ⟨ty, e, ety, h2, h3, h4, h5⟩ := hs
  obtain ⟨_, hu, _⟩ := hT _ _ h2
  rw [h3] at hu
  exact ⟨.int .i64 n, by simp [execOp, ho, resolve, invoke, builtin, Builtin.len_, hv, run_underlying hu, goInt], .pv _ _ (.val _)⟩

theorem step_index_part {t : TypeId} {x i : Operand} {l size a n : Nat} {k : IntKind} {ix : Int} (hT : T.ok P) (ho : o.op = .indexAddr t x i) (hx : ev x = .part l size a n) (hl : liveO (ob l) = true) (hi : ev i = .pv (.val (.int k ix)))
    (hs : SliceOf T t size) (h0 : 0 ≤ ix) (h1 : ix < n) : Step P o ev ob [] (.eptr l size (a + ix.toNat) 0) := by
  have hxm : x ∈ o.op.operands := by simp [ho, Op.operands]
  have him : i ∈ o.op.operands := by simp [ho, Op.operands]
  refine .of_pure (fun k hk => ⟨x, hxm, by simpa [hx, refs] using hk⟩) fun St M0 σ w ρ hin ha hobj => ?_
  have hq := pr_val (arg_pv (hi ▸ ha i him))
  obtain ⟨obj, h2, h3⟩ := liveO_some hl
  obtain ⟨loc, h4, _⟩ := at_live (hobj x hxm l (by simp [hx, refs]) _ h2) h3
  obtain ⟨ad, c, hv, _, _, hb⟩ := arg_part (hx ▸ ha x hxm) h4
  obtain ⟨b, hb1, rfl⟩ := hb (by omega)
  have hadd : (⟨b, a * size, none⟩ : Addr).add (ix.toNat * size) = ⟨b, (a + ix.toNat) * size, none⟩ := by
    rw [Nat.add_mul]; unfold Addr.add; split <;> simp_all
  refine ⟨.pointer (some ⟨b, (a + ix.toNat) * size, none⟩), by simp [execOp, ho, hv, hq, run_indexAt hT hs h0 h1, hadd], .eptr _ _ _ _ _ fun loc' hloc => ⟨b, ?_, by simp⟩⟩
  rw [h4] at hloc; cases hloc; exact hb1

/-! A part of a row, cleared. -/

/-- the elements from a on, m of them, all of cells zs -/
def fillF (f : Nat → List PV) (a m : Nat) (zs : List PV) : Nat → List PV := fun k => match Nat.ble a k with
  | true => match Nat.blt k (a + m) with
    | true => zs
    | false => f k
  | false => f k

theorem fillF_eq {f : Nat → List PV} {a m k : Nat} {zs : List PV} : fillF f a m zs k = if a ≤ k ∧ k < a + m then zs else f k := by
  unfold fillF
  split
  · rename_i h
    have h := Nat.le_of_ble_eq_true h
    split
    · rename_i h2
      have h2 : k < a + m := Nat.le_of_ble_eq_true h2
      rw [if_pos ⟨h, h2⟩]
    · rename_i h2
      have h2 : ¬ k < a + m := fun hh => by have : Nat.blt k (a + m) = true := Nat.ble_eq_true_of_le hh; rw [this] at h2; cases h2
      rw [if_neg (fun hh => h2 hh.2)]
  · rename_i h
    have h2 : ¬ a ≤ k := fun hh => by rw [Nat.ble_eq_true_of_le hh] at h; cases h
    rw [if_neg (fun hh => h2 hh.1)]

theorem zeroCells_at {z : Array Value} {n i : Nat} (h : i < n * z.size) : ((Builtin.zeroCells z n).getD i undef) = z.getD (i % z.size) undef := by
  have hz : 0 < z.size := by rcases Nat.eq_zero_or_pos z.size with e | e; · rw [e] at h; simp at h
                             · exact e
  have hlt : i % z.size < z.size := Nat.mod_lt _ hz
  unfold Builtin.zeroCells
  simp only [Array.getD, Array.size_map, Array.size_range, h, dif_pos, Array.getInternal_eq_getElem, Array.getElem_map, Array.getElem_range]
  rw [getElem!_pos z (i % z.size) hlt]
  simp [hlt]

theorem zcellsOf_eq (hT : T.ok P) {t e : TypeId} {i : TypeInfo} {z : Value} {zs : List PV} (hE : ElemOf P t e i z) (hz : zcellsOf T t = some zs) : zs = z.cells.toList.map .val := by
  unfold zcellsOf at hz
  split at hz
  · rename_i ty hty
    obtain ⟨_, hu, _⟩ := hT _ _ hty
    split at hz
    · rename_i e' he'
      rw [he', hE.ht] at hu; cases hu
      split at hz
      · rename_i ety hety
        obtain ⟨hie, _, _⟩ := hT _ _ hety
        rw [hE.hi] at hie; cases hie
        split at hz
        · rename_i z' hz'
          rw [hE.hz] at hz'; cases hz'; cases hz; rfl
        · cases hz
      · cases hz
    · cases hz
  · cases hz

/-- the same object in other words -/
theorem Post.redo {St M0 : Nat → Prop} {σ : Sig} {w : World} {l : Nat} {o' : AObj} {v : AV} {v' : Value} (hi : Inv St M0 σ w) (ho : At P w St M0 σ l o') (hv : AR P w St (Mof M0 σ) σ v v') : Post P St M0 σ w [(l, o')] v σ v' w := by
  refine ⟨hv, fun k x e => ?_, fun _ _ => rfl, fun _ _ _ e e' => Option.some.inj (e'.symm.trans e), hi.sep, fun _ h => .inl h, FExt.refl _ w⟩
  rw [getO_one] at e
  split at e
  · rename_i h; cases e; subst h; exact ho
  · cases e

theorem step_clear {t : TypeId} {x : Operand} {l size a m n : Nat} {f : Nat → List PV} {zs : List PV} (hT : T.ok P) (ho : o.op = .call { callee := .builtin .clear, args := #[x], argTypes := #[t] }) (hx : ev x = .part l size a m) (hob : ob l = some (.row size n f))
    (he : elemOf T t size = true) (hz : zcellsOf T t = some zs) (hfit : a + m ≤ n) : Step P o ev ob [(l, .row size n (fillF f a m zs))] (.pv (.tup [])) := by
  have hxm : x ∈ o.op.operands := by simp [ho, Op.operands, Call.operands]
  refine ⟨?_, fun k hk => by simp [refs] at hk, fun i obj e k hk => by rw [getO_one] at e; split at e <;> cases e; simp [refsO] at hk, fun k obj e _ => by
    rw [getO_one] at e
    split at e
    · rename_i h; subst h; exact .inl (by rw [hob]; rfl)
    · cases e⟩
  intro St M0 σ w ρ hin ha hobj _
  obtain ⟨e, i, z, hE, hsize⟩ := elemOf_spec hT he
  have hzs := zcellsOf_eq hT hE hz
  have hAt := hobj x hxm l (by simp [hx, refs]) _ hob
  obtain ⟨loc, hloc, hor⟩ := hAt
  obtain ⟨ad, c, hv, _, _, hb⟩ := arg_part (hx ▸ ha x hxm) hloc
  unfold OpRuns
  by_cases hm : m = 0
  · subst hm
    rw [show (execOp ρ o).run P w = .ok (.value (.tuple #[])) w from by cases ad <;> simp [execOp, ho, resolve, invoke, builtin, Builtin.clear_, hv, run_underlying hE.ht]]
    refine ⟨σ, Post.redo hin ⟨loc, hloc, ?_⟩ (.pv _ _ (.tup _ _ rfl fun i p e => by simp at e))⟩
    have : fillF f a 0 zs = f := funext fun k => by rw [fillF_eq, if_neg (by omega)]
    rw [this]; exact hor
  · obtain ⟨b, hb1, rfl⟩ := hb (by omega)
    obtain ⟨b', cap, vs, t', hl, hb', hcap, hmax, hs, hf, hq, hone⟩ := at_row ⟨loc, hloc, hor⟩ (by omega : 0 < n)
    rw [hloc] at hl
    cases hl
    cases hb1
    have hzl : (Builtin.zeroCells z.cells m).toList.length = m * size := by simp [Builtin.zeroCells, hE.zs, hsize]
    have hmul : a * size + m * size ≤ cap * size := by rw [← Nat.add_mul]; exact Nat.mul_le_mul_right _ (by omega)
    have hfit' : a * size + (Builtin.zeroCells z.cells m).toList.length ≤ vs.size := by rw [hzl, hs]; exact hmul
    have hst := run_storeCells_at (P := P) b (a * size) t' (Builtin.zeroCells z.cells m).toList 0 vs w hb' (by simpa using hfit') (fun u hu => by
      obtain ⟨k, hk, rfl⟩ := List.mem_iff_getElem.1 hu
      have hk' : k < m * z.cells.size := by rw [hzl] at hk; rw [hE.zs, hsize]; exact hk
      have := zeroCells_get hk' hE.z1
      simpa [Array.getD, show k < (Builtin.zeroCells z.cells m).size from by simpa using hk] using this)
    simp only [Nat.add_zero] at hst
    have hzv : (zeroValue e).run P w = .ok z w := by simp [zeroValue, run_typeInfo_some hE.hi, hE.hz]
    rw [show (execOp ρ o).run P w = .ok (.value (.tuple #[])) (w.setRow b (cut vs (a * size) (Builtin.zeroCells z.cells m).toList)) from by
      simp only [execOp, ho, resolve, invoke, builtin]
      cases m with
      | zero => exact absurd rfl hm
      | succ m => simp [Builtin.clear_, hv, run_underlying hE.ht, hzv, hst, cut]]
    have hx' := fext_setRow w b (cut vs (a * size) (Builtin.zeroCells z.cells m).toList)
    have hsame := same_of_fext (M0 := M0) hloc rfl hx'
    have hsz : size = z.cells.size := by rw [hE.zs, hsize]
    have hpos : 0 < size := by rw [← hsize]; exact hE.pos
    refine ⟨σ, Post.upd hin hloc rfl hx' (by simp) (.row _ _ _ b cap _ t' (setRow_heap w b vs _ t' _ hb') hcap hmax (by rw [cut_size hfit', hs]) (fun k hk => ?_) (fun k hk j p e => ?_) (fun k hk => ?_)) (.pv _ _ (.tup _ _ rfl fun i p e => by simp at e))⟩
    · rw [fillF_eq]
      split
      · rw [hzs]; simp [hsz]
      · exact hf k hk
    · rw [fillF_eq] at e
      rw [cut_get hfit' _, hzl]
      split at e
      · rename_i hc
        have hj : j < size := by have := (List.getElem?_eq_some_iff.1 e).1; rw [hzs] at this; simpa [hsz] using this
        have h1 : a * size ≤ k * size + j := Nat.le_trans (Nat.mul_le_mul_right _ hc.1) (Nat.le_add_right _ _)
        have h2 : k * size + j < a * size + m * size := by
          have : (k + 1) * size ≤ (a + m) * size := Nat.mul_le_mul_right _ (by omega)
          rw [Nat.add_mul, Nat.add_mul] at this; omega
        rw [if_pos ⟨h1, h2⟩]
        have e1 : k * size + j - a * size = (k - a) * size + j := by rw [Nat.sub_mul]; have := Nat.mul_le_mul_right size hc.1; omega
        have hlt : (k - a) * size + j < m * size := idx_lt (by omega) hj
        rw [e1]
        have hg := zeroCells_at (z := z.cells) (n := m) (i := (k - a) * size + j) (by rw [← hsz]; exact hlt)
        have e2 : ((k - a) * size + j) % z.cells.size = j := by rw [← hsz, Nat.add_comm, Nat.add_mul_mod_self_right, Nat.mod_eq_of_lt hj]
        rw [e2] at hg
        have hg2 : (Builtin.zeroCells z.cells m).toList.getD ((k - a) * size + j) undef = z.cells.getD j undef := by
          rw [← hg]; simp [Array.getD_eq_getD_getElem?, List.getD]
        rw [hg2]
        rw [hzs] at e
        simp at e
        obtain ⟨u, hu, rfl⟩ := e
        have : z.cells.getD j undef = u := by simp [Array.getD_eq_getD_getElem?, hu]
        rw [this]; exact .val u
      · rename_i hc
        have hj : j < size := by rw [← hf k hk]; exact (List.getElem?_eq_some_iff.1 e).1
        rw [if_neg]
        · exact (hq k hk j p e).mono hsame (fun _ _ h => h)
        · rintro ⟨h1, h2⟩
          apply hc
          constructor
          · rcases Nat.lt_or_ge k a with h3 | h3
            · have : (k + 1) * size ≤ a * size := Nat.mul_le_mul_right _ h3
              rw [Nat.add_mul] at this; omega
            · exact h3
          · rcases Nat.lt_or_ge k (a + m) with h3 | h3
            · exact h3
            · have : (a + m) * size ≤ k * size := Nat.mul_le_mul_right _ h3
              rw [Nat.add_mul] at this; omega
    · rw [cut_size hfit'] at hk
      rw [cut_get hfit' _]
      by_cases hc : a * size ≤ k ∧ k < a * size + (Builtin.zeroCells z.cells m).toList.length
      · rw [if_pos hc]
        have := zeroCells_get (z := z.cells) (n := m) (i := k - a * size) (by rw [← hsz]; rw [hzl] at hc; omega) hE.z1
        simpa [Array.getD_eq_getD_getElem?, List.getD] using this
      · rw [if_neg hc]; exact hone k hk

/-! A call that is handed a row and hands one back. -/

theorem step_callMove {fo : Operand} {args : Array Operand} {ts : Array TypeId} {f : FuncId} {caps ys : List AV} {l d size n : Nat} {r : Nat → List PV} {o1 : AObj} (ho : o.op = .call { callee := .value fo, args := args, argTypes := ts }) (hf : ev fo = .fn f caps)
    (hob : ob l = some o1) (hg1 : liveO (some o1) = true) (hr1 : refsO o1 = []) (hys : handL l (args.toList.map ev ++ caps) = some ys) (hl : l ∈ refs.refsL (args.toList.map ev ++ caps)) (hd : ob d = none)
    (hAC : AC P f ys [(0, o1)] (.own 1) [(1, .row size n r), (0, .gone)]) : StepN P o ev ob [(d, .row size n r), (l, .gone)] (.own d) := by
  have hfm : fo ∈ o.op.operands := by simp [ho, Op.operands, Call.operands]
  have ham : ∀ x ∈ args, x ∈ o.op.operands := fun x hx => by simp [ho, Op.operands, Call.operands, hx]
  have href : ∃ x ∈ o.op.operands, l ∈ refs (ev x) := by
    obtain ⟨i, x, hx, hlx⟩ := refsL_get hl
    have hx := List.mem_of_getElem? hx
    simp only [List.mem_append, List.mem_map] at hx
    rcases hx with ⟨y, hy, rfl⟩ | hx
    · exact ⟨y, ham y (by simpa using hy), hlx⟩
    · obtain ⟨i, hi⟩ := List.getElem?_of_mem hx
      exact ⟨fo, hfm, by rw [hf]; simp only [refs]; exact refs_sub hi l hlx⟩
  have hne1 : o1 ≠ .gone := fun h => by subst h; simp [liveO] at hg1
  have hdl : d ≠ l := fun e => by rw [e, hob] at hd; cases hd
  have hgo : ∀ k, getO [(d, AObj.row size n r), (l, AObj.gone)] k = if d = k then some (AObj.row size n r) else if l = k then some .gone else none := fun k => by
    rw [getO_cons']
    split
    · rfl
    · exact getO_one
  refine ⟨fun St M0 σ w ρ hi ha hobj hn hfree => ?_, fun k hk => .inr (by simp [refs] at hk; subst hk; rw [hgo]; simp), fun i obj e k hk => ?_, fun k obj e => ?_⟩
  · obtain ⟨hfn, hcall⟩ := hAC
    have hfv := ha fo hfm
    rw [hf] at hfv
    cases hfv' : ρ fo with
    | func fn first vs => _
    | _ => rw [hfv'] at hfv; cases hfv
    rw [hfv'] at hfv
    cases hfv with
    | fn _ _ _ hlc hcap =>
      unfold OpRuns
      rw [resolve_fn ho hfv' hfn]
      obtain ⟨x0, hx0, hlx0⟩ := href
      obtain ⟨loc, hloc, hor⟩ := at_live (hobj l (near_op hx0 hlx0) o1 hob) hne1
      have hfr : σ d = none := hfree d (by rw [hgo]; simp) hd
      have hrel : ∀ (i : Nat) (x : AV), (args.toList.map ev ++ caps)[i]? = some x → AR P w St (Mof M0 σ) σ x ((args.map ρ ++ vs).getD i undef) := by
        intro i x hx
        rw [List.getElem?_append] at hx
        split at hx
        · rename_i hlt
          have hlt' : i < args.size := by simpa using hlt
          have hxe : x = ev args[i] := by
            simp [hlt'] at hx
            exact hx.symm
          have hm : args[i] ∈ o.op.operands := ham _ (by simp)
          rw [getD_append_left (by simpa using hlt'), hxe]
          have := ha _ hm
          simpa [Array.getD, hlt'] using this
        · rename_i hge
          rw [getD_append_right (by simp at hge ⊢; exact hge)]
          have := hcap _ x hx
          simpa using this
      obtain ⟨hyl, hyg⟩ := handL_get hys
      have hblt : ∀ b, loc.blk = some b → b < w.heap.size := fun b hb => hi.lt b ⟨l, loc, hloc, hb⟩
      have hsig : ∀ b, owned (sig1 σ l) b → loc.blk = some b := fun b hb => by
        obtain ⟨lc, h1, h2⟩ := sig1_owned.1 hb
        rw [hloc] at h1; cases h1; exact h2
      have hinv : Inv St (hidden M0 σ l) (sig1 σ l) w := by
        refine ⟨fun k k' lc lc' b e e' _ _ => ?_, fun b h => hblt b (hsig b h), fun b h => ⟨?_, fun h2 => h.2 (sig1_owned.1 h2)⟩, fun b h => ⟨(hi.st b h).1, fun h2 => (hi.st b h).2 ⟨l, loc, hloc, hsig b h2⟩⟩, hi.gl.mono (Same.refl _ w) (fun b _ hb => hidden_mof hb)⟩
        · unfold sig1 at e e'
          split at e
          · split at e'
            · rename_i h h'; rw [h, h']
            · cases e'
          · cases e
        · rcases h.1 with h1 | h1
          · exact (hi.m0 b h1).1
          · exact hi.lt b h1
      refine (hcall St (hidden M0 σ l) (sig1 σ l) w (args.map ρ ++ vs) hinv (fun k hk => ?_) (fun k obj e => ?_) ?_ ?_).mono ?_
      · rw [getO_one] at hk
        split at hk
        · cases hk
        · rename_i h; simp [sig1, show ¬ k = 0 from fun x => h x.symm]
      · rw [getO_one] at e
        split at e
        · rename_i h; cases e; subst h
          have hor' : OR P w St (Mof (hidden M0 σ l) (sig1 σ l)) (sig1 σ l) o1 loc := or_mono0 hor (fun b _ hb => hidden_mof hb) hr1
          have hs0 : sig1 σ l 0 = some loc := by simp [sig1, hloc]
          cases o1 <;> first | exact ⟨loc, hs0, hor'⟩ | exact absurd rfl hne1
        · cases e
      · have : (args.map ρ ++ vs).size = (args.toList.map ev ++ caps).length := by simp [hlc]
        rw [this, hyl]
      · intro i y hy
        obtain ⟨x, hx, hxy⟩ := hyg i y hy
        exact hand_rel (hrel i x hx) hxy
      · rintro e w' ⟨v, σ1, rfl, hp⟩
        refine ⟨v, rfl, ?_⟩
        obtain ⟨loc2, hloc2, hor2⟩ := at_live (hp.obj 1 (.row size n r) (by simp [getO])) (by simp)
        have hv := arg_own hp.val hloc2
        subst hv
        have hblk : ∀ b, loc2.blk = some b → loc.blk = some b ∨ w.heap.size ≤ b := fun b hb => by
          rcases hp.blk b ⟨1, loc2, hloc2, hb⟩ with h | h
          · exact .inl (hsig b h)
          · exact .inr h
        have hMM : ∀ b, Mof M0 (upd1 (drop1 σ l) d loc2) b → Mof (hidden M0 σ l) σ1 b := by
          rintro b (hb | hb)
          · exact .inl ⟨.inl hb, fun ⟨lc, h3, h4⟩ => (hi.m0 b hb).2 ⟨l, lc, h3, h4⟩⟩
          · rcases owned_upd1 hb with h | h
            · obtain ⟨k, lc, h1, h2⟩ := h
              unfold drop1 at h1
              split at h1
              · cases h1
              · rename_i hk
                exact .inl ⟨.inr ⟨k, lc, h1, h2⟩, fun ⟨lc', h3, h4⟩ => hk (hi.sep k l lc lc' b h1 h3 h2 h4)⟩
            · exact .inr ⟨1, loc2, hloc2, h⟩
        refine ⟨_, Post.moved (loc := loc2) hi hfr hloc hblk (hp.ext.mono fun b _ ⟨k, lc, _, h2, h3⟩ => ?_) (by simp) (or_mono0 hor2 (fun b _ hb => hMM b hb) rfl)⟩
        unfold sig1 at h2
        split at h2
        · rw [hloc] at h2; cases h2; exact h3
        · cases h2
  · rw [hgo] at e
    split at e
    · cases e; simp [refsO] at hk
    · split at e
      · cases e; simp [refsO] at hk
      · cases e
  · rw [hgo] at e
    split at e
    · rename_i h; subst h; exact ⟨.inr hd, .inl hd⟩
    · split at e
      · rename_i h; subst h; cases e
        obtain ⟨x0, hx0, hlx0⟩ := href
        exact ⟨.inl (near_op hx0 hlx0), .inr (.inr rfl)⟩
      · cases e

/-- handed a row, it hands one back -/
def callMoveK (P : Program) (ev : Operand → AV) (ob : Nat → Option AObj) (args : List Operand) (g : FuncId) (caps : List AV) (id : Nat) (K : AV → Upd → Prop) : Prop :=
  match lentRefs ev args caps with
  | l :: _ => match ob l with
    | some o1 => chk (liveO (some o1)) (chk (refsO o1).isEmpty (chk (ob id).isNone (match handL l (args.map ev ++ caps) with
      | some ys => ∃ (size n : Nat) (r : Nat → List PV), AC P g ys [(0, o1)] (.own 1) [(1, .row size n r), (0, .gone)] ∧ K (.own id) [(id, .row size n r), (l, .gone)]
      | none => False)))
    | none => False
  | [] => False

theorem callMoveK_sound {d : Nat} {fo : Operand} {args : Array Operand} {ts : Array TypeId} {g : FuncId} {caps : List AV} (ho : o.op = .call { callee := .value fo, args := args, argTypes := ts }) (hf : ev fo = .fn g caps) (h : callMoveK P ev ob args.toList g caps d K) :
    ∃ v u, K v u ∧ StepN P o ev ob u v := by
  unfold callMoveK at h
  split at h
  · rename_i l r hl
    split at h
    · rename_i o1 hob
      obtain ⟨h1, h⟩ := chk_true h
      obtain ⟨h2, h⟩ := chk_true h
      obtain ⟨h3, h⟩ := chk_true h
      split at h
      · rename_i ys hys
        obtain ⟨size, n, rr, hAC, hK⟩ := h
        exact ⟨_, _, hK, step_callMove ho hf hob h1 (by simpa using h2) hys (by unfold lentRefs at hl; rw [hl]; simp) (by simpa using h3) hAC⟩
      · exact h.elim
    · exact h.elim
  · exact h.elim

/-! The operations, these among them. -/

def nthA : List AV → Nat → (AV → Prop) → Prop
  | [], _, _ => False
  | p :: l, n, K => match n with
    | 0 => force p K
    | n + 1 => nthA l n K

theorem nthA_some : ∀ {cs : List AV} {n : Nat} {K : AV → Prop}, nthA cs n K → ∃ p, cs[n]? = some p ∧ K p
  | [], _, _, h => h.elim
  | p :: _, 0, _, h => ⟨p, by simp, by simpa [nthA, force_eq] using h⟩
  | _ :: l, n + 1, _, h => by simpa using nthA_some (cs := l) h

/-- the operations that yield one thing -/
def aopcN (P : Program) (T : Tab) (o : Oper) (id : Nat) (ev : Operand → AV) (ob : Nat → Option AObj) (K : AV → Upd → Prop) : Prop :=
  match o.op with
  | .load t x => match ev x with
    | .ptr l off => match ob l with
      | some (.box cs) => match T t with
        | some ty => match aggD ty.und with
          | true => chk (Nat.ble (off + ty.info.size) cs.length) (chk ((frzL ob ((cs.drop off).take ty.info.size)).all fun k => liveO (ob k)) (match frzCells ob ((cs.drop off).take ty.info.size) with
            | some ps => forceL (frzL ob ((cs.drop off).take ty.info.size)) fun L => K (.pv (.agg ps)) (goneL L)
            | none => False))
          | false => nthA cs off fun v => K v []
        | none => False
      | _ => aopc P T o id ev ob K
    | _ => aopc P T o id ev ob K
  | .store t x y => match ev x with
    | .ptr l off => match ob l with
      | some (.box cs) => match T t with
        | some ty => match putCells ob (ev y) with
          | some qs => chk (Nat.beq qs.length ty.info.size) (chk (Nat.ble (off + qs.length) cs.length) (K .junk [(l, .box (splice cs off qs))]))
          | none => False
        | none => False
      | _ => aopc P T o id ev ob K
    | _ => aopc P T o id ev ob K
  | .range t x => match ev x with
    | .pv (.map kk look) => chk (isMapT T t) (chk (ob id).isNone (K (.ref id) [(id, .miter kk look [])]))
    | .ref l => match ob l with
      | some (.map kk look) => chk (isMapT T t) (chk (ob id).isNone (frzK ob [.ref l] K fun K => match frzV ob (.ref l) with
        | .pv (.map kk look) => K (.ref id) [(id, .miter kk look [])]
        | _ => False))
      | _ => False
    | _ => aopc P T o id ev ob K
  | .entry x => match ev x with
    | .ref l => match ob l with
      | some (.miter _ look (k :: _)) => ∃ p, look k = some p ∧ K (.pv (.tup [ofConst k, p])) []
      | _ => False
    | _ => False
  | .slice t x (some i) none none => match ev x with
    | .own l => match ob l with
      | some (.row size n _) => match ev i with
        | .pv (.val (.int _ h)) => chk (sliceOf T t size) ((0 ≤ h ∧ h ≤ n) ∧ K (.part l size h.toNat (n - h.toNat)) [])
        | _ => False
      | _ => False
    | _ => False
  | .slice t x none (some i) none => match ev x with
    | .own l => match ob l with
      | some (.row size n f) => match ev i with
        | .pv (.val (.int _ h)) => chk (sliceOf T t size) (chk (ob id).isNone ((0 ≤ h ∧ h ≤ n) ∧ K (.own id) [(id, .row size h.toNat f), (l, .gone)]))
        | _ => False
      | _ => False
    | _ => aopc P T o id ev ob K
  | .indexAddr t x i => match ev x with
    | .part l size a n => match ev i with
      | .pv (.val (.int _ ix)) => chk (liveO (ob l)) (chk (sliceOf T t size) ((0 ≤ ix ∧ ix < n) ∧ K (.eptr l size (a + ix.toNat) 0) []))
      | _ => False
    | _ => aopc P T o id ev ob K
  | .call c => match c.callee with
    | .value fo => match ev fo with
      | .fn g caps => callK P ev ob c.args.toList g caps K ∨ callOwnK P ev ob c.args.toList g caps id K ∨ callObjK P ev ob c.args.toList g caps K ∨ callMoveK P ev ob c.args.toList g caps id K
      | _ => aopc P T o id ev ob K
    | .builtin b => match b, c.args, c.argTypes with
      | .len, ⟨[x]⟩, ⟨[t]⟩ => match ev x with
        | .part l size _ n => chk (liveO (ob l)) (chk (sliceOf T t size) (K (.pv (.val (.int .i64 n))) []))
        | _ => aopc P T o id ev ob K
      | .clear, ⟨[x]⟩, ⟨[t]⟩ => match ev x with
        | .part l size a m => match ob l with
          | some (.row s n f) => chk (Nat.beq s size) (chk (elemOf T t size) (match zcellsOf T t with
            | some zs => a + m ≤ n ∧ K (.pv (.tup [])) [(l, .row s n (fillF f a m zs))]
            | none => False))
          | _ => False
        | _ => False
      | _, _, _ => aopc P T o id ev ob K
    | _ => aopc P T o id ev ob K
  | _ => aopc P T o id ev ob K

theorem aopcN_sound (hT : T.ok P) {d : Nat} (h : aopcN P T o d ev ob K) : ∃ v u, K v u ∧ StepN P o ev ob u v := by
  have old : aopc P T o d ev ob K → ∃ v u, K v u ∧ StepN P o ev ob u v := fun h => by
    obtain ⟨v, u, h1, h2, h3⟩ := aopc_sound hT h
    exact ⟨v, u, h1, h2.toN h3⟩
  unfold aopcN at h
  split at h
  · rename_i t x ho
    split at h
    · rename_i l off hx
      split at h
      · rename_i cs hob
        split at h
        · rename_i ty ht
          split at h
          · rename_i hd
            obtain ⟨h1, h⟩ := chk_true h
            obtain ⟨h2, h⟩ := chk_true h
            split at h
            · rename_i ps hps
              rw [forceL_eq] at h
              exact ⟨_, _, h, step_load_box_agg hT ho ht hx hob hd (Nat.le_of_ble_eq_true h1) hps fun k hk => List.all_eq_true.1 h2 k hk⟩
            · exact h.elim
          · rename_i hd
            obtain ⟨p, h1, h2⟩ := nthA_some h
            exact ⟨_, _, h2, step_load_box hT ho ht hx hob hd h1⟩
        · exact h.elim
      · exact old h
    · exact old h
  · rename_i t x y ho
    split at h
    · rename_i l off hx
      split at h
      · rename_i cs hob
        split at h
        · rename_i ty ht
          split at h
          · rename_i qs hq
            obtain ⟨h1, h⟩ := chk_true h
            obtain ⟨h2, h⟩ := chk_true h
            exact ⟨_, _, h, step_store_box hT ho ht hx hob hq (Nat.eq_of_beq_eq_true h1) (Nat.le_of_ble_eq_true h2)⟩
          · exact h.elim
        · exact h.elim
      · exact old h
    · exact old h
  · rename_i t x ho
    split at h
    · rename_i kk look hx
      obtain ⟨h1, h⟩ := chk_true h
      obtain ⟨h2, h⟩ := chk_true h
      exact ⟨_, _, h, (step_range_map hT ho hx h1).toN (Fresh.new h2)⟩
    · rename_i l hx
      split at h
      · rename_i kk look hob
        obtain ⟨h1, h⟩ := chk_true h
        obtain ⟨h2, h⟩ := chk_true h
        obtain ⟨v, u, hK, hS, hF⟩ := frzK_sound (o := o) (ev := ev) h (fun z hz => by simp [ho, Op.operands] at hz; subst hz; simp [hx]) (fun z hz => by simp at hz; subst hz; exact ⟨x, by simp [ho, Op.operands], hx⟩) fun K h => by
          split at h
          · rename_i kk' look' hfz
            exact ⟨_, _, h, step_range_map (ev := fun x => frzV ob (ev x)) hT ho (by simp only [hx]; exact hfz) h1, Fresh.new h2⟩
          · exact h.elim
        exact ⟨v, u, hK, hS.toN hF⟩
      · exact h.elim
    · exact old h
  · rename_i x ho
    split at h
    · rename_i l hx
      split at h
      · rename_i kk look k seen hob
        obtain ⟨p, h1, h2⟩ := h
        exact ⟨_, _, h2, (step_entry ho hx hob h1).toN Fresh.nil⟩
      · exact h.elim
    · exact h.elim
  · rename_i t x i ho
    split at h
    · rename_i l hx
      split at h
      · rename_i size n f hob
        split at h
        · rename_i k ix hi
          obtain ⟨h1, ⟨h2, h3⟩, h⟩ := chk_true h
          exact ⟨_, _, h, (step_slice_from hT ho hx hob hi (sliceOf_spec h1) h2 h3).toN Fresh.nil⟩
        · exact h.elim
      · exact h.elim
    · exact h.elim
  · rename_i t x i ho
    split at h
    · rename_i l hx
      split at h
      · rename_i size n f hob
        split at h
        · rename_i k ix hi
          obtain ⟨h1, h⟩ := chk_true h
          obtain ⟨h0, ⟨h2, h3⟩, h⟩ := chk_true h
          refine ⟨_, _, h, (step_slice_own hT ho hx hob hi (sliceOf_spec h1) h2 h3 (by simpa using h0)).toN fun k hk => ?_⟩
          rw [getO_cons'] at hk
          split at hk
          · rename_i e; subst e; exact .inr (by simpa using h0)
          · rw [getO_one] at hk
            split at hk
            · rename_i e; subst e; exact .inl ⟨x, by simp [ho, Op.operands], by simp [hx, refs]⟩
            · exact absurd rfl hk
        · exact h.elim
      · exact h.elim
    · exact old h
  · rename_i t x i ho
    split at h
    · rename_i l size a n hx
      split at h
      · rename_i k ix hi
        obtain ⟨h0, h⟩ := chk_true h
        obtain ⟨h1, ⟨h2, h3⟩, h⟩ := chk_true h
        exact ⟨_, _, h, (step_index_part hT ho hx h0 hi (sliceOf_spec h1) h2 h3).toN Fresh.nil⟩
      · exact h.elim
    · exact old h
  · rename_i c ho
    obtain ⟨callee, args, ats⟩ := c
    simp only at h
    split at h
    · rename_i fo
      split at h
      · rename_i g caps hf
        rcases h with h | h | h | h
        · obtain ⟨v, u, h1, h2, h3⟩ := callK_sound ho hf h; exact ⟨v, u, h1, h2.toN h3⟩
        · obtain ⟨v, u, h1, h2, h3⟩ := callOwnK_sound ho hf h; exact ⟨v, u, h1, h2.toN h3⟩
        · obtain ⟨v, u, h1, h2, h3⟩ := callObjK_sound ho hf h; exact ⟨v, u, h1, h2.toN h3⟩
        · exact callMoveK_sound ho hf h
      · exact old h
    · rename_i b
      split at h
      · rename_i x t
        split at h
        · rename_i l size a n hx
          obtain ⟨h0, h⟩ := chk_true h
          obtain ⟨h1, h⟩ := chk_true h
          exact ⟨_, _, h, (step_len_part hT ho hx h0 (sliceOf_spec h1)).toN Fresh.nil⟩
        · exact old h
      · rename_i x t
        split at h
        · rename_i l size a m hx
          split at h
          · rename_i s n f hob
            obtain ⟨h0, k1⟩ := chk_true h
            obtain ⟨h1, k2⟩ := chk_true k1
            have h0 := Nat.eq_of_beq_eq_true h0
            subst h0
            clear h k1
            split at k2
            · rename_i zs hz
              exact ⟨_, _, k2.2, (step_clear hT ho hx hob h1 hz k2.1).toN (Fresh.old (y := x) (by simp [ho, Op.operands, Call.operands]) (by simp [hx, refs]))⟩
            · exact k2.elim
          · exact h.elim
        · exact h.elim
      · exact old h
    · exact old h
  · exact old h

end

end Go.Abs

namespace Go.Abs
open Go.RowKit
variable [Globals]

/-! States and code. -/

/-- what a skipped operation leaves -/
abbrev skipV : AV := .pv (.val undef)

def guardK (ops : List Oper) (g : Option (Nat × Bool)) (s : AState) (K : Bool → AState → Prop) : Prop :=
  match g with
  | none => K true s
  | some (j, want) => match ops[j]? with
    | some o => match o.dst with
      | some t => match s with
        | ⟨tm, ob⟩ => match getT tm t with
          | .pv (.val (.tuple _)) => K false ⟨tm, ob⟩
          | .pv (.val (.bool b)) => (match b, want with | true, true => K true ⟨tm, ob⟩ | false, false => K true ⟨tm, ob⟩ | true, false => K false ⟨tm, ob⟩ | false, true => K false ⟨tm, ob⟩)
          | .pv (.sb b) => (b = true → K want ⟨(t, .pv (.val (.bool true))) :: tm, ob⟩) ∧ (b = false → K (!want) ⟨(t, .pv (.val (.bool false))) :: tm, ob⟩)
          | _ => False
      | none => False
    | none => False

/-- the operations, a map's next entry among them: whichever comes -/
def aopcX (P : Program) (T : Tab) (o : Oper) (id : Nat) (ev : Operand → AV) (ob : Nat → Option AObj) (K : AV → Upd → Prop) : Prop :=
  match o.op with
  | .next x false => match ev x with
    | .ref l => match ob l with
      | some (.miter kk look seen) => (∀ k p, kk.has k → look k = some p → k ∉ seen → K (.pv (.tup [.val (.bool true), ofConst k, p])) [(l, .miter kk look (k :: seen))]) ∧ ((∀ k p, kk.has k → look k = some p → k ∈ seen) → K (.pv (.tup [.val (.bool false)])) [])
      | _ => False
    | _ => False
  | _ => aopcN P T o id ev ob K

/-- What follows a step. -/
def nextS (nt : Nat) (d : Option Nat) (s : AState) (v : AV) (u : Upd) (K : AState → Prop) : Prop :=
  match s with
  | ⟨tm, ob⟩ => match d with
    | some t => chk (Nat.blt t nt) (match u with
      | [] => K ⟨(t, v) :: tm, ob⟩
      | [x] => K ⟨(t, v) :: tm, x :: ob⟩
      | u => K ⟨(t, v) :: tm, u ++ ob⟩)
    | none => match u with
      | [] => K ⟨tm, ob⟩
      | [x] => K ⟨tm, x :: ob⟩
      | u => K ⟨tm, u ++ ob⟩

def idOf (d : Option Nat) : Nat := match d with | some t => t | none => 0

def opS (P : Program) (T : Tab) (nt : Nat) (o : Oper) (s : AState) (K : AState → Prop) : Prop :=
  match s with
  | ⟨tm, ob⟩ => match o with
    | ⟨none, op, ty, pos, after, guard⟩ => aopcX P T ⟨none, op, ty, pos, after, guard⟩ 0 (evO tm) (getO ob) fun v u => nextS nt none ⟨tm, ob⟩ v u K
    | ⟨some d, op, ty, pos, after, guard⟩ => aopcX P T ⟨some d, op, ty, pos, after, guard⟩ d (evO tm) (getO ob) fun v u => nextS nt (some d) ⟨tm, ob⟩ v u K

def arun (P : Program) (T : Tab) (nt : Nat) (ops : List Oper) : List Oper → AState → (AState → Prop) → Prop
  | [], s, K => K s
  | o :: r, s, K => guardK ops o.guard s fun b s => match b with
    | true => opS P T nt o s fun s => arun P T nt ops r s K
    | false => nextS nt o.dst s skipV [] fun s => arun P T nt ops r s K

section
variable {P : Program} {T : Tab} {E : FEnv}

theorem opS_sound (hE : E.ok) (hT : T.ok P) {o : Oper} {s : AState} {K : AState → Prop} {σ : Sig} {a : Act} {w : World} {Q : Exit → Act → World → Prop} (hR : Rel P E s σ a w) (h : opS P T E.nt o s K) :
    o.wp P a w (fun a' w' => ∃ s' σ', K s' ∧ Rel P E s' σ' a' w') Q := by
  obtain ⟨tm, ob⟩ := s
  have h2 : aopcX P T o (idOf o.dst) (evO tm) (getO ob) fun v u => nextS E.nt o.dst ⟨tm, ob⟩ v u K := by
    obtain ⟨d, op, ty, pos, after, guard⟩ := o
    cases d <;> exact h
  have hi := hR.inv hE
  have wrap : ∀ (v : AV) (u : Upd), nextS E.nt o.dst ⟨tm, ob⟩ v u K → K ⟨putT tm o.dst v, u ++ ob⟩ ∧ ∀ t, o.dst = some t → t < E.nt := by
    intro v u hK
    refine ⟨?_, fun t ht => ?_⟩
    · cases hd' : o.dst with
      | none =>
        rw [hd'] at hK
        unfold nextS at hK
        simp only at hK
        match u, hK with
        | [], hK => exact hK
        | [x], hK => exact hK
        | x :: y :: r, hK => exact hK
      | some t =>
        rw [hd'] at hK
        unfold nextS at hK
        have hK := (chk_true hK).2
        match u, hK with
        | [], hK => exact hK
        | [x], hK => exact hK
        | x :: y :: r, hK => exact hK
    · rw [ht] at hK
      unfold nextS at hK
      exact Nat.le_of_ble_eq_true (chk_true hK).1
  have one : aopcN P T o (idOf o.dst) (evO tm) (getO ob) (fun v u => nextS E.nt o.dst ⟨tm, ob⟩ v u K) → o.wp P a w (fun a' w' => ∃ s' σ', K s' ∧ Rel P E s' σ' a' w') Q := by
    intro h3
    obtain ⟨v, u, hK, hS⟩ := aopcN_sound hT h3
    have hnear : ∀ k, near o (evO tm) (getO ob) k → getO ob k ≠ none := by
      rintro k (⟨x, hx, hk⟩ | ⟨x, hx, l, hl, obj, hob, hk⟩)
      · exact evO_refs hR x k hk
      · exact hR.wo l obj hob k hk
    obtain ⟨hK', hd⟩ := wrap v u hK
    refine (hS.runs E.St E.M0 σ w a.eval hi (fun x _ => evO_rel hE hR x) (fun k _ obj e => hR.ob k obj e) hnear (fun l _ h1 => hR.nob l h1)).wp (fun v' w' ⟨σ', hp⟩ => ?_)
    refine ⟨_, σ', hK', RelF.post (tmf' := getT (putT tm o.dst v)) (obf' := getO (u ++ ob)) hE hR hp hd (fun l obj e => (hS.lv l obj e).2) (fun l hl => (hS.rv l hl).imp (hnear l) id) (fun i obj e l hl => (hS.ro i obj e l hl).imp (hnear l) id) (fun t => ?_) (fun l => ?_)⟩
    · cases hd' : o.dst with
      | none => exact .inr ⟨by simp, by simp [putT]⟩
      | some d =>
        simp only [putT, getT_cons, Option.some.injEq]
        by_cases e : d = t
        · exact .inl ⟨e, by rw [if_pos e]⟩
        · exact .inr ⟨fun h => e (Option.some.inj h), by rw [if_neg e]⟩
    · simp only [getO_append]
      cases e : getO u l with
      | none => exact .inr ⟨rfl, rfl⟩
      | some x => exact .inl ⟨x, rfl, rfl⟩
  unfold aopcX at h2
  split at h2
  · rename_i x ho
    split at h2
    · rename_i l hx
      split at h2
      · rename_i kk look seen hob
        obtain ⟨h3, h4⟩ := h2
        refine (next_map_runs (K := fun v u => nextS E.nt o.dst ⟨tm, ob⟩ v u K) ho hx h3 h4 hi (evO_rel hE hR x) (hR.ob l _ hob)).wp (fun v' w' ⟨p, u, σ', hK, hp, hu⟩ => ?_)
        obtain ⟨hK', hd⟩ := wrap _ u hK
        have hul : ∀ k obj, getO u k = some obj → k = l ∧ refsO obj = [] := by
          intro k obj e
          rcases hu with rfl | ⟨ky, rfl⟩
          · simp [getO] at e
          · rw [getO_one] at e
            split at e
            · rename_i h5; cases e; exact ⟨h5.symm, rfl⟩
            · cases e
        refine ⟨_, σ', hK', RelF.post (tmf' := getT (putT tm o.dst (.pv p))) (obf' := getO (u ++ ob)) hE hR hp hd (fun k obj e => ?_) (fun k hk => by simp [refs] at hk) (fun i obj e k hk => by rw [(hul i obj e).2] at hk; simp at hk) (fun t => ?_) (fun k => ?_)⟩
        · rw [(hul k obj e).1]
          exact .inr (.inl (by show liveO (getO ob l) = true; rw [hob]; rfl))
        · cases hd' : o.dst with
          | none => exact .inr ⟨by simp, by simp [putT]⟩
          | some d =>
            simp only [putT, getT_cons, Option.some.injEq]
            by_cases e : d = t
            · exact .inl ⟨e, by rw [if_pos e]⟩
            · exact .inr ⟨fun h => e (Option.some.inj h), by rw [if_neg e]⟩
        · simp only [getO_append]
          cases e : getO u k with
          | none => exact .inr ⟨rfl, rfl⟩
          | some x => exact .inl ⟨x, rfl, rfl⟩
      · exact h2.elim
    · exact h2.elim
  · exact one h2

/-- A slot that is overwritten by something that is known of it, or forgotten. -/
theorem Rel.setT {s : AState} {σ : Sig} {a : Act} {w : World} (hR : Rel P E s σ a w) (t : Nat) (p : PV) (h : PR w (Mof E.M0 σ) p (a.tmps.getD t undef)) : Rel P E ⟨(t, .pv p) :: s.tm, s.ob⟩ σ a w :=
  { hR with
    tm := fun t' => by
      simp only [getT_cons]
      by_cases e : t = t'
      · subst e; rw [if_pos rfl]; exact .pv _ _ h
      · rw [if_neg e]; exact hR.tm t'
    wt := fun t' l hl => by
      simp only [getT_cons] at hl
      split at hl
      · simp [refs] at hl
      · exact hR.wt t' l hl }

theorem Rel.skip {s : AState} {σ : Sig} {a : Act} {w : World} (hR : Rel P E s σ a w) (d : Option Nat) (hd : ∀ t, d = some t → t < E.nt) : Rel P E ⟨putT s.tm d skipV, s.ob⟩ σ (a.put d undef) w := by
  cases d with
  | none => exact hR
  | some d =>
    have hlt : d < a.tmps.size := by rw [hR.sz]; exact hd d rfl
    refine ⟨by simp [Act.put, hR.sz], hR.df, fun t => ?_, hR.ob, hR.nob, fun t l hl => ?_, hR.wo, hR.sep, hR.own, hR.ext⟩
    · simp only [putT, Act.put, getT_cons]
      by_cases e : d = t
      · rw [if_pos e]
        subst e
        simp [Array.getD_eq_getD_getElem?, hlt]
        exact .pv _ _ (.val _)
      · rw [if_neg e]
        have := hR.tm t
        simpa [Array.getD_eq_getD_getElem?, Array.getElem?_setIfInBounds_ne e] using this
    · simp only [putT, getT_cons] at hl
      split at hl
      · simp [refs] at hl
      · exact hR.wt t l hl

theorem guardK_sound {ops : Array Oper} {o : Oper} {s : AState} {K : Bool → AState → Prop} {σ : Sig} {a : Act} {w : World} (hR : Rel P E s σ a w) (h : guardK ops.toList o.guard s K) :
    ∃ s', K (Region.wanted o (yielded ops a.tmps)) s' ∧ Rel P E s' σ a w := by
  unfold guardK at h
  unfold Region.wanted
  split at h
  · rename_i hg; rw [hg]; exact ⟨s, h, hR⟩
  · rename_i j want hg
    rw [hg]
    split at h
    · rename_i oj hj
      split at h
      · rename_i t ht
        obtain ⟨tm, ob⟩ := s
        simp only at h
        have hj' : ops[j]? = some oj := by simpa using hj
        have hy : ∀ b, a.tmps.getD t undef = .bool b → yielded ops a.tmps j = some b := by
          intro b hb
          have hlt : t < a.tmps.size := by
            rcases Nat.lt_or_ge t a.tmps.size with h1 | h1
            · exact h1
            · simp [Array.getD, Nat.not_lt.2 h1, undef] at hb
          have : a.tmps[t]? = some (.bool b) := by
            simp [Array.getD, hlt] at hb
            simp [hlt, hb]
          simp [yielded, hj', ht, this]
        split at h
        · rename_i vs hb
          have h1 := hR.tm t
          rw [show getT tm t = .pv (.val (.tuple vs)) from hb] at h1
          have hv := pr_val (arg_pv h1)
          have h2 : yielded ops a.tmps j = none := by
            have h3 : a.tmps[t]? = none ∨ a.tmps[t]? = some (.tuple vs) := by
              rcases Nat.lt_or_ge t a.tmps.size with h4 | h4
              · right
                simp [Array.getD, h4] at hv
                simp [h4, hv]
              · left; simp [h4]
            rcases h3 with h3 | h3 <;> simp [yielded, hj', ht, h3]
          simp only [h2]
          cases want <;> exact ⟨_, h, hR⟩
        · rename_i b hb
          have h1 := hR.tm t
          rw [show getT tm t = .pv (.val (.bool b)) from hb] at h1
          have h2 := hy b (pr_val (arg_pv h1))
          simp only [h2]
          cases b <;> cases want <;> exact ⟨_, h, hR⟩
        · rename_i b hb
          have h1 := hR.tm t
          rw [show getT tm t = .pv (.sb b) from hb] at h1
          have hv := pr_sb (arg_pv h1)
          have h2 := hy b hv
          simp only [h2]
          cases b with
          | true =>
            refine ⟨_, ?_, hR.setT t (.val (.bool true)) (by rw [hv]; exact .val _)⟩
            have := h.1 rfl
            cases want <;> exact this
          | false =>
            refine ⟨_, ?_, hR.setT t (.val (.bool false)) (by rw [hv]; exact .val _)⟩
            have := h.2 rfl
            cases want <;> exact this
        · exact h.elim
      · exact h.elim
    · exact h.elim

theorem arun_sound (hE : E.ok) (hT : T.ok P) {ops : Array Oper} {K : AState → Prop} {Q : Exit → Act → World → Prop} (hQ : ∀ s σ a w, K s → Rel P E s σ a w → Q .normal a w) :
    ∀ (l : List Oper) (i : Nat) (s : AState) (σ : Sig) (a : Act) (w : World), (∀ j, l[j]? = ops[i + j]?) → Rel P E s σ a w → arun P T E.nt ops.toList l s K → wpOps P ops Q (List.range' i l.length) a w
  | [], i, s, σ, a, w, _, hR, h => by simpa [wpOps] using hQ s σ a w h hR
  | o :: l, i, s, σ, a, w, hl, hR, h => by
    have ho : ops[i]? = some o := by simpa using (hl 0).symm
    have hl' : ∀ j, l[j]? = ops[i + 1 + j]? := fun j => by have := hl (j + 1); simpa [Nat.add_assoc, Nat.add_comm 1 j] using this
    simp only [List.length_cons, List.range'_succ, wpOps, ho]
    unfold arun at h
    obtain ⟨s', hK, hR'⟩ := guardK_sound (ops := ops) hR h
    cases hw : Region.wanted o (yielded ops a.tmps) with
    | true =>
      rw [hw] at hK
      simp only [if_true]
      exact .inl (Oper.wp_mono (fun a' w' ⟨s2, σ2, hs2, hR2⟩ => arun_sound hE hT hQ l (i + 1) s2 σ2 a' w' hl' hR2 hs2) (opS_sound hE hT hR' hK))
    | false =>
      rw [hw] at hK
      simp only [Bool.false_eq_true, if_false]
      obtain ⟨tm, ob⟩ := s'
      have hd : ∀ t, o.dst = some t → t < E.nt := by
        intro t ht
        simp only [ht] at hK
        unfold nextS at hK
        exact Nat.le_of_ble_eq_true (chk_true hK).1
      have h2 := hR'.skip o.dst hd
      refine arun_sound hE hT hQ l (i + 1) _ σ _ w hl' h2 ?_
      cases hd' : o.dst with
      | none => rw [hd'] at hK; exact hK
      | some t => rw [hd'] at hK; exact (chk_true hK).2

end

end Go.Abs

namespace Go.Abs
open Go.RowKit
variable [Globals]

/-- what op number i comes behind, as the digits of a number -/
def maskOf (acc : List Nat) : List Edge → Nat
  | [] => 0
  | e :: es => match Region.binds .any e with
    | true => (2 ^ e.on ||| acc.getD e.on 0) ||| maskOf acc es
    | false => maskOf acc es

def befL : List Oper → List Nat → List Nat
  | [], acc => acc
  | o :: os, acc => befL os (acc ++ [maskOf acc o.after.toList])

def opTmps (ops : List Oper) (o : Oper) : List Nat :=
  (o.op.operands.toList.filterMap fun | .tmp t => some t | _ => none) ++
  (match o.guard with
   | some (g, _) => ((ops[g]?).bind (·.dst)).toList
   | none => [])

def backEdges : Nat → List Oper → Bool
  | _, [] => true
  | i, o :: os => (o.after.toList.all fun e => !Region.binds .any e || Nat.blt e.on i) && backEdges (i + 1) os

/-- do two operations touch a slot that one of them writes? -/
def tmpConf (ops : List Oper) (x y : Oper) : Bool :=
  (match x.dst with
   | some d => (opTmps ops y).contains d || (match y.dst with | some e => Nat.beq d e | none => false)
   | none => false) ||
  (match y.dst with
   | some d => (opTmps ops x).contains d
   | none => false)

/-- each pair (i, j), i < j, that conflicts is ordered -/
def pairsOk {α : Type} (conf : α → α → Bool) (bef : List Nat) : Nat → List α → List α → Bool
  | _, _, [] => true
  | j, pre, y :: ys => ((pre.zipIdx).all fun x => !conf x.1 y || (bef.getD j 0).testBit x.2) && pairsOk conf bef (j + 1) (pre ++ [y]) ys

def drawOk (ops : List Oper) : Bool := backEdges 0 ops && pairsOk (tmpConf ops) (befL ops []) 0 [] ops

/-- the objects that an operation looks at, and those that it changes -/
structure Touch where
  looks : List Nat
  writes : List Nat

def objConf (x y : Touch) : Bool := x.writes.any (fun l => y.looks.contains l || y.writes.contains l) || y.writes.any (fun l => x.looks.contains l)

def logOk (ops : List Oper) (log : List Touch) : Bool := pairsOk objConf (befL ops []) 0 [] log

theorem pairsOk_spec {α : Type} {conf : α → α → Bool} {bef : List Nat} : ∀ {ys : List α} {j : Nat} {pre : List α}, pre.length = j → pairsOk conf bef j pre ys = true →
    ∀ (i k : Nat) (x y : α), i < k → (pre ++ ys)[i]? = some x → (pre ++ ys)[k]? = some y → j ≤ k → conf x y = true → (bef.getD k 0).testBit i = true
  | [], j, pre, hj, _, i, k, x, y, hik, hx, hy, hk, _ => by
    have := (List.getElem?_eq_some_iff.1 hy).1
    simp at this; omega
  | z :: ys, j, pre, hj, h, i, k, x, y, hik, hx, hy, hk, hc => by
    simp only [pairsOk, Bool.and_eq_true] at h
    by_cases e : k = j
    · subst e
      have hz : y = z := by
        rw [List.getElem?_append_right (by omega)] at hy
        simp [hj] at hy; exact hy.symm
      subst hz
      have hx' : pre[i]? = some x := by rwa [List.getElem?_append_left (by omega)] at hx
      have := List.all_eq_true.1 h.1 (x, i) (by rw [List.mem_zipIdx_iff_getElem?]; exact hx')
      simpa [hc] using this
    · have := pairsOk_spec (pre := pre ++ [z]) (ys := ys) (j := j + 1) (by simp [hj]) h.2 i k x y hik (by simpa using hx) (by simpa using hy) (by omega) hc
      exact this

theorem maskOf_bit {acc : List Nat} : ∀ {es : List Edge} {k : Nat}, (maskOf acc es).testBit k = true → ∃ e ∈ es, Region.binds .any e = true ∧ (e.on = k ∨ (acc.getD e.on 0).testBit k = true)
  | [], k, h => by simp [maskOf] at h
  | e :: es, k, h => by
    unfold maskOf at h
    split at h
    · rename_i hb
      simp only [Nat.testBit_or, Bool.or_eq_true, Nat.testBit_two_pow] at h
      rcases h with (h | h) | h
      · exact ⟨e, by simp, hb, .inl (by simpa using h)⟩
      · exact ⟨e, by simp, hb, .inr h⟩
      · obtain ⟨e', h1, h2, h3⟩ := maskOf_bit h
        exact ⟨e', by simp [h1], h2, h3⟩
    · obtain ⟨e', h1, h2, h3⟩ := maskOf_bit h
      exact ⟨e', by simp [h1], h2, h3⟩

theorem befL_length : ∀ {os : List Oper} {acc : List Nat}, (befL os acc).length = acc.length + os.length
  | [], acc => by simp [befL]
  | o :: os, acc => by rw [befL, befL_length]; simp; omega

theorem befL_get : ∀ {os : List Oper} {acc : List Nat} {i : Nat}, i < acc.length → (befL os acc).getD i 0 = acc.getD i 0
  | [], acc, i, h => rfl
  | o :: os, acc, i, h => by
    rw [befL, befL_get (by simp; omega)]
    simp only [List.getD_eq_getElem?_getD]
    rw [List.getElem?_append_left h]

/-- what lies behind op number i lies in every set that holds its edges and is closed -/
theorem befL_closed {ops : List Oper} {D : Nat → Prop} (hD : ∀ j o, D j → ops[j]? = some o → ∀ e ∈ o.after.toList, Region.binds .any e = true → D e.on) :
    ∀ (os : List Oper) (pre : List Oper) (acc : List Nat), ops = pre ++ os → acc.length = pre.length → (∀ j, j < pre.length → (∀ o, ops[j]? = some o → ∀ e ∈ o.after.toList, Region.binds .any e = true → D e.on) → ∀ k, (acc.getD j 0).testBit k = true → D k) →
      ∀ i o, ops[i]? = some o → (∀ e ∈ o.after.toList, Region.binds .any e = true → D e.on) → ∀ k, ((befL os acc).getD i 0).testBit k = true → D k
  | [], pre, acc, he, hl, hacc, i, o, ho, hi, k, hk => by
    have hlt := (List.getElem?_eq_some_iff.1 ho).1
    rw [he] at hlt
    exact hacc i (by simpa using hlt) (fun o' ho' => by rw [ho] at ho'; cases ho'; exact hi) k hk
  | x :: os, pre, acc, he, hl, hacc, i, o, ho, hi, k, hk => by
    refine befL_closed hD os (pre ++ [x]) (acc ++ [maskOf acc x.after.toList]) (by rw [he]; simp) (by simp [hl]) (fun j hj hjo k hk => ?_) i o ho hi k hk
    by_cases e : j = pre.length
    · subst e
      have hx : ops[pre.length]? = some x := by rw [he]; simp
      rw [List.getD_eq_getElem?_getD, List.getElem?_append_right (by omega)] at hk
      simp [hl] at hk
      obtain ⟨ed, h1, h2, h3⟩ := maskOf_bit hk
      have hon := hjo x hx ed h1 h2
      rcases h3 with h3 | h3
      · exact h3 ▸ hon
      · rcases Nat.lt_or_ge ed.on pre.length with hlt | hge
        · exact hacc ed.on hlt (fun o' ho' => hD ed.on o' hon ho') k h3
        · simp [List.getD_eq_getElem?_getD, List.getElem?_eq_none (show acc.length ≤ ed.on by omega)] at h3
    · have hj' : j < pre.length := by simp at hj; omega
      rw [List.getD_eq_getElem?_getD, List.getElem?_append_left (by omega), ← List.getD_eq_getElem?_getD] at hk
      exact hacc j hj' hjo k hk

/-! What a slot or an object is after those operations below n that are chosen. -/

def vT (dst : Nat → Option Nat) (V : Nat → AV) (t : Nat) (x0 : AV) (sel : Nat → Bool) : Nat → AV
  | 0 => x0
  | n + 1 => if sel n = true ∧ dst n = some t then V n else vT dst V t x0 sel n

def vO (U : Nat → Upd) (l : Nat) (x0 : Option AObj) (sel : Nat → Bool) : Nat → Option AObj
  | 0 => x0
  | n + 1 => if sel n = true ∧ getO (U n) l ≠ none then getO (U n) l else vO U l x0 sel n

theorem vT_eq {dst : Nat → Option Nat} {V : Nat → AV} {t : Nat} {x0 : AV} {sel sel' : Nat → Bool} {i : Nat} : ∀ {n : Nat}, i ≤ n → (∀ j, j < n → dst j = some t → (sel j = true ↔ (j < i ∧ sel' j = true))) → vT dst V t x0 sel n = vT dst V t x0 sel' i
  | 0, hi, _ => by
    have : i = 0 := by omega
    subst this; rfl
  | n + 1, hi, h => by
    by_cases e : i = n + 1
    · subst e
      simp only [vT]
      by_cases hd : dst n = some t
      · have := h n (by omega) hd
        by_cases hs : sel n = true
        · rw [if_pos ⟨hs, hd⟩, if_pos ⟨(this.1 hs).2, hd⟩]
        · rw [if_neg (fun hh => hs hh.1), if_neg (fun hh => hs (this.2 ⟨by omega, hh.1⟩))]
          exact vT_eq (Nat.le_refl n) (fun j hj hdj => by have := h j (by omega) hdj; constructor
                                                          · intro hh; exact ⟨hj, (this.1 hh).2⟩
                                                          · intro hh; exact this.2 ⟨by omega, hh.2⟩)
      · rw [if_neg (fun hh => hd hh.2), if_neg (fun hh => hd hh.2)]
        exact vT_eq (Nat.le_refl n) (fun j hj hdj => by have := h j (by omega) hdj; constructor
                                                        · intro hh; exact ⟨hj, (this.1 hh).2⟩
                                                        · intro hh; exact this.2 ⟨by omega, hh.2⟩)
    · simp only [vT]
      rw [if_neg]
      · exact vT_eq (by omega) (fun j hj hdj => h j (by omega) hdj)
      · rintro ⟨hs, hd⟩
        have := (h n (by omega) hd).1 hs
        omega

theorem vO_eq {U : Nat → Upd} {l : Nat} {x0 : Option AObj} {sel sel' : Nat → Bool} {i : Nat} : ∀ {n : Nat}, i ≤ n → (∀ j, j < n → getO (U j) l ≠ none → (sel j = true ↔ (j < i ∧ sel' j = true))) → vO U l x0 sel n = vO U l x0 sel' i
  | 0, hi, _ => by
    have : i = 0 := by omega
    subst this; rfl
  | n + 1, hi, h => by
    by_cases e : i = n + 1
    · subst e
      simp only [vO]
      by_cases hd : getO (U n) l ≠ none
      · have := h n (by omega) hd
        by_cases hs : sel n = true
        · rw [if_pos ⟨hs, hd⟩, if_pos ⟨(this.1 hs).2, hd⟩]
        · rw [if_neg (fun hh => hs hh.1), if_neg (fun hh => hs (this.2 ⟨by omega, hh.1⟩))]
          exact vO_eq (Nat.le_refl n) (fun j hj hdj => by have := h j (by omega) hdj; constructor
                                                          · intro hh; exact ⟨hj, (this.1 hh).2⟩
                                                          · intro hh; exact this.2 ⟨by omega, hh.2⟩)
      · rw [if_neg (fun hh => hd hh.2), if_neg (fun hh => hd hh.2)]
        exact vO_eq (Nat.le_refl n) (fun j hj hdj => by have := h j (by omega) hdj; constructor
                                                        · intro hh; exact ⟨hj, (this.1 hh).2⟩
                                                        · intro hh; exact this.2 ⟨by omega, hh.2⟩)
    · simp only [vO]
      rw [if_neg]
      · exact vO_eq (by omega) (fun j hj hdj => h j (by omega) hdj)
      · rintro ⟨hs, hd⟩
        have := (h n (by omega) hd).1 hs
        omega

/-- one more operation, behind which none that writes the same has been chosen -/
theorem vT_add {dst : Nat → Option Nat} {V : Nat → AV} {t : Nat} {x0 : AV} {sel sel' : Nat → Bool} {i : Nat} (hsel : ∀ j, sel' j = (sel j || j == i)) (hi : sel i = false) :
    ∀ {n : Nat}, (∀ j, j < n → i < j → dst i = some t → dst j = some t → sel j = false) → vT dst V t x0 sel' n = if i < n ∧ dst i = some t then V i else vT dst V t x0 sel n
  | 0, _ => by simp [vT]
  | n + 1, h => by
    have ih := vT_add (V := V) (x0 := x0) hsel hi (n := n) (fun j hj => h j (by omega))
    simp only [vT, hsel]
    by_cases e : n = i
    · subst e
      by_cases hd : dst n = some t
      · simp [hd]
      · simp [hd, ih]
    · have e' : (n == i) = false := by simpa using e
      rw [e', Bool.or_false]
      by_cases hs : sel n = true ∧ dst n = some t
      · rw [if_pos hs]
        by_cases hlt : i < n + 1 ∧ dst i = some t
        · have := h n (by omega) (by omega) hlt.2 hs.2
          rw [this] at hs; simp at hs
        · rw [if_neg hlt, if_pos hs]
      · rw [if_neg hs, ih]
        by_cases hlt : i < n ∧ dst i = some t
        · rw [if_pos hlt, if_pos ⟨by omega, hlt.2⟩]
        · rw [if_neg hlt, if_neg (fun hh => hlt ⟨by omega, hh.2⟩), if_neg hs]

theorem vO_add {U : Nat → Upd} {l : Nat} {x0 : Option AObj} {sel sel' : Nat → Bool} {i : Nat} (hsel : ∀ j, sel' j = (sel j || j == i)) (hi : sel i = false) :
    ∀ {n : Nat}, (∀ j, j < n → i < j → getO (U i) l ≠ none → getO (U j) l ≠ none → sel j = false) → vO U l x0 sel' n = if i < n ∧ getO (U i) l ≠ none then getO (U i) l else vO U l x0 sel n
  | 0, _ => by simp [vO]
  | n + 1, h => by
    have ih := vO_add (x0 := x0) hsel hi (n := n) (fun j hj => h j (by omega))
    simp only [vO, hsel]
    by_cases e : n = i
    · subst e
      by_cases hd : getO (U n) l ≠ none
      · rw [if_pos ⟨by simp, hd⟩, if_pos ⟨by omega, hd⟩]
      · rw [if_neg (fun hh => hd hh.2), if_neg (fun hh => hd hh.2), if_neg (fun hh => hd hh.2), ih, if_neg (fun hh => hd hh.2)]
    · have e' : (n == i) = false := by simpa using e
      rw [e', Bool.or_false]
      by_cases hs : sel n = true ∧ getO (U n) l ≠ none
      · rw [if_pos hs]
        by_cases hlt : i < n + 1 ∧ getO (U i) l ≠ none
        · have := h n (by omega) (by omega) hlt.2 hs.2
          rw [this] at hs; simp at hs
        · rw [if_neg hlt, if_pos hs]
      · rw [if_neg hs, ih]
        by_cases hlt : i < n ∧ getO (U i) l ≠ none
        · rw [if_pos hlt, if_pos ⟨by omega, hlt.2⟩]
        · rw [if_neg hlt, if_neg (fun hh => hlt ⟨by omega, hh.2⟩), if_neg hs]

theorem vT_shift {dst : Nat → Option Nat} {V : Nat → AV} {t : Nat} {x0 : AV} : ∀ {n : Nat}, vT dst V t x0 (fun _ => true) (n + 1) = vT (fun j => dst (j + 1)) (fun j => V (j + 1)) t (if dst 0 = some t then V 0 else x0) (fun _ => true) n
  | 0 => by simp [vT]
  | n + 1 => by rw [vT, vT_shift (n := n)]; rfl
theorem vO_shift {U : Nat → Upd} {l : Nat} {x0 : Option AObj} : ∀ {n : Nat}, vO U l x0 (fun _ => true) (n + 1) = vO (fun j => U (j + 1)) l (if getO (U 0) l ≠ none then getO (U 0) l else x0) (fun _ => true) n
  | 0 => by simp [vO]
  | n + 1 => by rw [vO, vO_shift (n := n)]; rfl

/-- y says no more than x. -/
structure AVs (x y : AV) : Prop where
  to : ∀ (P : Program) (w : World) (St M : Nat → Prop) (σ : Sig) (v : Value), AR P w St M σ x v → AR P w St M σ y v
  rf : ∀ l, l ∈ refs y → l ∈ refs x
theorem AVs.rfl {x : AV} : AVs x x := ⟨fun _ _ _ _ _ _ h => h, fun _ h => h⟩

def looksL (tm : List (Nat × AV)) : List Operand → List Nat
  | [] => []
  | x :: xs => refs (evO tm x) ++ looksL tm xs
/-- .. and those that these name -/
def deepL (ob : Nat → Option AObj) : List Nat → List Nat
  | [] => []
  | l :: ls => match ob l with
    | some (.box cs) => l :: (refs.refsL cs ++ deepL ob ls)
    | _ => l :: deepL ob ls
def looksOf (tm : List (Nat × AV)) (ob : List (Nat × AObj)) (op : Op) : List Nat := deepL (getO ob) (looksL tm op.operands.toList)
def keysOf (u : Upd) : List Nat := u.map (·.1)

/-- A new row, given up at once: a slice that stays. -/
theorem StepN.ice {P : Program} {o : Oper} {ev : Operand → AV} {ob : Nat → Option AObj} {l size n : Nat} {f : Nat → List PV} (h : StepN P o ev ob [(l, .row size n f)] (.own l)) : StepN P o ev ob [(l, .gone)] (.pv (.ro size n f)) := by
  have hg : ∀ k (x : AObj), getO [(l, AObj.gone)] k = some x → k = l ∧ x = .gone := by
    intro k x e
    rw [getO_one] at e
    split at e
    · rename_i h1; cases e; exact ⟨h1.symm, rfl⟩
    · cases e
  have hl0 : getO [(l, AObj.row size n f)] l = some (.row size n f) := by rw [getO_one, if_pos rfl]
  refine ⟨fun St M0 σ w ρ hi ha hobj hn hf => ?_, fun k hk => by simp [refs] at hk, fun i obj e k hk => by obtain ⟨_, rfl⟩ := hg _ _ e; simp [refsO] at hk, fun k obj e => by
    obtain ⟨rfl, rfl⟩ := hg _ _ e
    exact ⟨(h.lv k _ hl0).1, .inr (.inr rfl)⟩⟩
  have key : ∀ v' w', (∃ σ', Post P St M0 σ w [(l, .row size n f)] (.own l) σ' v' w') → ∃ σ', Post P St M0 σ w [(l, .gone)] (.pv (.ro size n f)) σ' v' w' := by
    rintro v' w' ⟨σ', p⟩
    have hF : ∀ b, b < w.heap.size → ¬ Mof M0 σ b → w'.heap[b]? = w.heap[b]? := fun b hb hm => p.ext.block b hb (by rintro ⟨k, loc, _, e, eb⟩; exact hm (.inr ⟨k, loc, e, eb⟩))
    have hob : σ' l ≠ none → True := fun _ => trivial
    obtain ⟨loc, hloc, hor⟩ := p.obj l _ hl0
    have hi' : Inv St M0 σ' w' := by
      refine ⟨p.sep, ?_, fun b hb => ⟨Nat.lt_of_lt_of_le (hi.m0 b hb).1 p.ext.size, fun ho => ?_⟩, fun b hb => ⟨Nat.lt_of_lt_of_le (hi.st b hb).1 p.ext.size, fun ho => ?_⟩, hi.gl.mono ⟨p.ext.size, hF⟩ fun b hb hm => ?_⟩
      · rintro b ⟨k, lc, e, eb⟩
        by_cases hk : k = l
        · subst hk
          rw [hloc] at e; cases e
          cases hor with
          | row0 => simp [Loc.blk] at eb
          | row size n f b2 cap vs t hb => simp only [Loc.blk, Option.some.injEq] at eb; subst eb; exact lt_of_block hb
        · rw [p.old k (by rw [getO_one, if_neg (fun x => hk x.symm)])] at e
          exact Nat.lt_of_lt_of_le (hi.lt b ⟨k, lc, e, eb⟩) p.ext.size
      · rcases p.blk b ho with h1 | h1
        · exact (hi.m0 b hb).2 h1
        · have := (hi.m0 b hb).1; omega
      · rcases p.blk b ho with h1 | h1
        · exact (hi.st b hb).2 h1
        · have := (hi.st b hb).1; omega
      · rcases hm with hm | hm
        · exact .inl hm
        · rcases p.blk b hm with h1 | h1
          · exact .inr h1
          · omega
    refine ⟨dropL σ' [l], ?_, fun k x e => ?_, fun k e => ?_, fun k lc lc' e e' => ?_, (hi'.dropL [l]).sep, fun b hb => p.blk b (owned_dropL hb), ⟨p.ext.os, p.ext.tape, p.ext.output, p.ext.size, fun b hb hnf => p.ext.block b hb ?_, p.ext.drawn⟩⟩
    · have := frz_rel (ob := fun k => if k = l then some (.row size n f) else none) (L := [l]) hi' p.val (fun k hk obj e => by
        simp only [refs, List.mem_singleton] at hk
        subst hk
        rw [if_pos rfl] at e; cases e
        exact ⟨loc, hloc, hor⟩) (fun k hk _ => by simpa [refs] using hk)
      simpa [frzV] using this
    · obtain ⟨rfl, rfl⟩ := hg _ _ e
      show dropL σ' [k] k = none
      simp [dropL]
    · have hk : k ≠ l := by
        intro hk; subst hk
        rw [getO_one, if_pos rfl] at e; cases e
      simp only [dropL, List.mem_singleton, if_neg hk]
      exact p.old k (by rw [getO_one, if_neg (fun x => hk x.symm)])
    · exact p.stay k lc lc' e (dropL_some e').1
    · rintro ⟨k, lc, e1, e2, e3⟩
      refine hnf ⟨k, lc, ?_, e2, e3⟩
      rw [getO_one] at e1 ⊢
      split at e1
      · rename_i hk; rw [if_pos hk]; simp
      · exact absurd rfl e1
  have hr := h.runs St M0 σ w ρ hi ha hobj hn (fun k hk => hf k (by
    rw [getO_one] at hk ⊢
    split at hk
    · rename_i h1; rw [if_pos h1]; simp
    · exact absurd rfl hk))
  unfold OpRuns at hr ⊢
  split at hr
  · exact key _ _ hr
  · exact key _ _ hr
  · exact hr.mono (by rintro e w2 ⟨v, he, hp⟩; exact ⟨v, he, key _ _ hp⟩)
  all_goals exact hr

def forceN (n : Nat) (K : Nat → Prop) : Prop := match n with
  | 0 => K 0
  | k + 1 => K (k + 1)
theorem forceN_eq {n : Nat} {K : Nat → Prop} : forceN n K = K n := by cases n <;> rfl
def forceLN : List Nat → (List Nat → Prop) → Prop
  | [], K => K []
  | x :: r, K => forceN x fun x' => forceLN r fun r' => K (x' :: r')
theorem forceLN_eq : ∀ {l : List Nat} {K : List Nat → Prop}, forceLN l K = K l
  | [], _ => rfl
  | x :: r, K => by rw [forceLN, forceN_eq, forceLN_eq]

/-- in a region, a slice built of parts stays as it is built -/
def iceB (op : Op) (v : AV) (u : Upd) (K : AV → Upd → Prop) : Prop := match op with
  | .buildSlice _ n _ => match Nat.beq n 0 with
    | true => K v u
    | false => match v with
      | .own l => match u with
        | [(l', .row size n' f)] => match Nat.beq l l' with
          | true => K (.pv (.ro size n' f)) [(l', .gone)]
          | false => K v u
        | _ => K v u
      | _ => K v u
  | _ => K v u
theorem iceB_sound {P : Program} {o : Oper} {ev : Operand → AV} {ob : Nat → Option AObj} {op : Op} {v : AV} {u : Upd} {K : AV → Upd → Prop} (h : iceB op v u K) (hs : StepN P o ev ob u v) : ∃ v u, K v u ∧ StepN P o ev ob u v := by
  unfold iceB at h
  repeat' split at h
  all_goals first
    | exact ⟨_, _, h, hs⟩
    | (rename_i hb
       cases Nat.eq_of_beq_eq_true hb
       exact ⟨_, _, h, hs.ice⟩)

def opSD (P : Program) (T : Tab) (nt : Nat) (o : Oper) (s : AState) (K : AState → Touch → Prop) : Prop :=
  match s with
  | ⟨tm, ob⟩ => match o with
    | ⟨none, op, ty, pos, after, guard⟩ => aopcN P T ⟨none, op, ty, pos, after, guard⟩ 0 (evO tm) (getO ob) fun v u => iceB op v u fun v u => forceLN (looksOf tm ob op) fun ls => forceLN (keysOf u) fun ks => nextS nt none ⟨tm, ob⟩ v u fun s' => K s' ⟨ls, ks⟩
    | ⟨some d, op, ty, pos, after, guard⟩ => aopcN P T ⟨some d, op, ty, pos, after, guard⟩ d (evO tm) (getO ob) fun v u => iceB op v u fun v u => forceLN (looksOf tm ob op) fun ls => forceLN (keysOf u) fun ks => nextS nt (some d) ⟨tm, ob⟩ v u fun s' => K s' ⟨ls, ks⟩

def arunD (P : Program) (T : Tab) (nt : Nat) (ops : List Oper) : List Oper → AState → List Touch → (AState → List Touch → Prop) → Prop
  | [], s, log, K => K s log
  | o :: r, s, log, K => guardK ops o.guard s fun b s => match b with
    | true => opSD P T nt o s fun s to => arunD P T nt ops r s (log ++ [to]) K
    | false => nextS nt o.dst s skipV [] fun s => arunD P T nt ops r s (log ++ [⟨[], []⟩]) K

/-- What the walk in the order of the text has shown of one operation. -/
structure LexAt (P : Program) (nt : Nat) (ops : Array Oper) (o : Oper) (x : Nat → AV) (ob : Nat → Option AObj) (W : Bool) (V : AV) (U : Upd) (S : AState) (to : Touch) : Prop where
  tm : ∀ t, AVs (x t) (getT S.tm t)
  ob : ∀ l, getO S.ob l = ob l
  run : W = true → StepN P o (evO S.tm) (getO S.ob) U V
  looks : W = true → to.looks = looksOf S.tm S.ob o.op ∧ to.writes = keysOf U
  skip : W = false → V = skipV ∧ U = []
  guard : ∀ tmps : Array Value, (∀ t, t ∈ opTmps ops.toList o → ∃ P w St M σ, AR P w St M σ (getT S.tm t) (tmps.getD t undef)) → Region.wanted o (yielded ops tmps) = W
  dst : ∀ t, o.dst = some t → t < nt

theorem guardK_split {ops : Array Oper} {o : Oper} {s : AState} {K : Bool → AState → Prop} (h : guardK ops.toList o.guard s K) :
    ∃ W S, K W S ∧ (∀ t, AVs (getT s.tm t) (getT S.tm t)) ∧ S.ob = s.ob ∧
      (∀ tmps : Array Value, (∀ t, t ∈ opTmps ops.toList o → ∃ P w St M σ, AR P w St M σ (getT S.tm t) (tmps.getD t undef)) → Region.wanted o (yielded ops tmps) = W) := by
  unfold guardK at h
  split at h
  · rename_i hg
    exact ⟨true, s, h, fun t => .rfl, rfl, fun tmps _ => by simp [Region.wanted, hg]⟩
  · rename_i j want hg
    split at h
    · rename_i oj hj
      split at h
      · rename_i t ht
        obtain ⟨tm, ob⟩ := s
        simp only at h
        have hj' : ops[j]? = some oj := by simpa using hj
        have hmem : t ∈ opTmps ops.toList o := by simp [opTmps, hg, hj', ht]
        have hy : ∀ (tmps : Array Value) b, tmps.getD t undef = .bool b → yielded ops tmps j = some b := by
          intro tmps b hb
          have hlt : t < tmps.size := by
            rcases Nat.lt_or_ge t tmps.size with h1 | h1
            · exact h1
            · simp [Array.getD, Nat.not_lt.2 h1, undef] at hb
          have : tmps[t]? = some (.bool b) := by
            simp [Array.getD, hlt] at hb
            simp [hlt, hb]
          simp [yielded, hj', ht, this]
        have lit : ∀ (b : Bool) (tm' : List (Nat × AV)) (W : Bool), getT tm' t = .pv (.val (.bool b)) → W = (b == want) → ∀ tmps : Array Value, (∀ t, t ∈ opTmps ops.toList o → ∃ P w St M σ, AR P w St M σ (getT tm' t) (tmps.getD t undef)) → Region.wanted o (yielded ops tmps) = W := by
          intro b tm' W hb hW tmps hA
          obtain ⟨P, w, St, M, σ, h1⟩ := hA t hmem
          rw [hb] at h1
          have h2 := hy tmps b (pr_val (arg_pv h1))
          simp only [Region.wanted, hg, h2, hW]
          cases b <;> cases want <;> rfl
        have sbv : ∀ (b : Bool), getT tm t = .pv (.sb b) → ∀ t', AVs (getT tm t') (getT ((t, .pv (.val (.bool b))) :: tm) t') := by
          intro b hb t'
          rw [getT_cons]
          by_cases e : t = t'
          · subst e
            rw [if_pos rfl, hb]
            exact ⟨fun P w St M σ v hv => by have := pr_sb (arg_pv hv); subst this; exact .pv _ _ (.val _), fun l hl => by simp [refs] at hl⟩
          · rw [if_neg e]; exact .rfl
        split at h
        · rename_i vs hb
          refine ⟨false, ⟨tm, ob⟩, h, fun t => .rfl, rfl, fun tmps hA => ?_⟩
          obtain ⟨P, w, St, M, σ, h1⟩ := hA t hmem
          rw [show getT tm t = .pv (.val (.tuple vs)) from hb] at h1
          have hv := pr_val (arg_pv h1)
          have h2 : yielded ops tmps j = none := by
            have h3 : tmps[t]? = none ∨ tmps[t]? = some (.tuple vs) := by
              rcases Nat.lt_or_ge t tmps.size with h4 | h4
              · right
                simp [Array.getD, h4] at hv
                simp [h4, hv]
              · left; simp [h4]
            rcases h3 with h3 | h3 <;> simp [yielded, hj', ht, h3]
          simp only [Region.wanted, hg, h2]
          cases want <;> rfl
        · rename_i b hb
          cases b <;> cases want <;> exact ⟨_, ⟨tm, ob⟩, h, fun t => .rfl, rfl, lit _ tm _ hb rfl⟩
        · rename_i b hb
          cases b with
          | true =>
            have := h.1 rfl
            cases want <;> exact ⟨_, _, this, sbv true hb, rfl, lit true _ _ (by rw [getT_cons, if_pos rfl]) rfl⟩
          | false =>
            have := h.2 rfl
            cases want <;> exact ⟨_, _, this, sbv false hb, rfl, lit false _ _ (by rw [getT_cons, if_pos rfl]) rfl⟩
        · exact h.elim
      · exact h.elim
    · exact h.elim

theorem nextS_split {nt : Nat} {d : Option Nat} {s : AState} {v : AV} {u : Upd} {K : AState → Prop} (h : nextS nt d s v u K) : K ⟨putT s.tm d v, u ++ s.ob⟩ ∧ ∀ t, d = some t → t < nt := by
  obtain ⟨tm, ob⟩ := s
  unfold nextS at h
  cases d with
  | none =>
    simp only at h
    refine ⟨?_, fun t e => by cases e⟩
    match u, h with
    | [], h => exact h
    | [x], h => exact h
    | x :: y :: r, h => exact h
  | some t =>
    obtain ⟨h1, h⟩ := chk_true h
    refine ⟨?_, fun t' e => by cases e; exact Nat.le_of_ble_eq_true h1⟩
    match u, h with
    | [], h => exact h
    | [x], h => exact h
    | x :: y :: r, h => exact h

theorem getT_putT {tm : List (Nat × AV)} {d : Option Nat} {v : AV} {t : Nat} : getT (putT tm d v) t = if d = some t then v else getT tm t := by
  cases d with
  | none => simp [putT]
  | some d => simp only [putT, getT_cons, Option.some.injEq]

/-- The walk in the order of the text, as functions of the operation's number. -/
theorem arunD_split {P : Program} {T : Tab} {nt : Nat} (hT : T.ok P) {ops : Array Oper} : ∀ (r : List Oper) (s : AState) (log : List Touch) (K : AState → List Touch → Prop) (x0 : Nat → AV) (o0 : Nat → Option AObj),
    (∀ t, AVs (x0 t) (getT s.tm t)) → (∀ l, getO s.ob l = o0 l) → arunD P T nt ops.toList r s log K →
    ∃ (W : Nat → Bool) (V : Nat → AV) (U : Nat → Upd) (S : Nat → AState) (to : Nat → Touch) (sN : AState), K sN (log ++ (List.range r.length).map to) ∧
      (∀ i o, r[i]? = some o → LexAt P nt ops o (fun t => vT (fun j => (r[j]?).bind (·.dst)) V t (x0 t) (fun _ => true) i) (fun l => vO U l (o0 l) (fun _ => true) i) (W i) (V i) (U i) (S i) (to i)) ∧
      (∀ t, AVs (vT (fun j => (r[j]?).bind (·.dst)) V t (x0 t) (fun _ => true) r.length) (getT sN.tm t)) ∧ (∀ l, getO sN.ob l = vO U l (o0 l) (fun _ => true) r.length)
  | [], s, log, K, x0, o0, hx, ho, h => ⟨fun _ => true, fun _ => .junk, fun _ => [], fun _ => s, fun _ => ⟨[], []⟩, s, by simpa using (show K s log from h), fun i o e => by simp at e, fun t => hx t, fun l => ho l⟩
  | o :: r, s, log, K, x0, o0, hx, ho, h => by
    unfold arunD at h
    obtain ⟨W0, S0, hK, hS, hSo, hg⟩ := guardK_split h
    have hx0 : ∀ t, AVs (x0 t) (getT S0.tm t) := fun t => ⟨fun P w St M σ v hv => (hS t).to P w St M σ v ((hx t).to P w St M σ v hv), fun l hl => (hx t).rf l ((hS t).rf l hl)⟩
    have ho0 : ∀ l, getO S0.ob l = o0 l := fun l => by rw [hSo]; exact ho l
    -- the first operation
    have first : ∃ (V0 : AV) (U0 : Upd) (to0 : Touch), arunD P T nt ops.toList r ⟨putT S0.tm o.dst V0, U0 ++ S0.ob⟩ (log ++ [to0]) K ∧ LexAt P nt ops o x0 o0 W0 V0 U0 S0 to0 := by
      cases W0 with
      | true =>
        simp only at hK
        have hK' : aopcN P T o (idOf o.dst) (evO S0.tm) (getO S0.ob) fun v u => iceB o.op v u fun v u => nextS nt o.dst S0 v u fun s' => arunD P T nt ops.toList r s' (log ++ [⟨looksOf S0.tm S0.ob o.op, keysOf u⟩]) K := by
          obtain ⟨tm, ob⟩ := S0
          obtain ⟨d, op, ty, pos, after, guard⟩ := o
          cases d <;> (simp only [opSD, forceLN_eq] at hK; exact hK)
        obtain ⟨v0, u0, hn0, hs0⟩ := aopcN_sound hT hK'
        obtain ⟨v, u, hn, hs⟩ := iceB_sound hn0 hs0
        obtain ⟨h1, h2⟩ := nextS_split hn
        exact ⟨v, u, _, h1, hx0, ho0, fun _ => hs, fun _ => ⟨rfl, rfl⟩, fun e => (by cases e), hg, h2⟩
      | false =>
        simp only at hK
        obtain ⟨h1, h2⟩ := nextS_split hK
        exact ⟨skipV, [], _, h1, hx0, ho0, fun e => (by cases e), fun e => (by cases e), fun _ => ⟨rfl, rfl⟩, hg, h2⟩
    obtain ⟨V0, U0, to0, hrest, hlex⟩ := first
    obtain ⟨W, V, U, S, to, sN, hKN, hall, hfinT, hfinO⟩ := arunD_split hT r _ _ K (fun t => if o.dst = some t then V0 else x0 t) (fun l => if getO U0 l ≠ none then getO U0 l else o0 l)
      (fun t => by
        rw [getT_putT]
        by_cases e : o.dst = some t
        · rw [if_pos e, if_pos e]; exact .rfl
        · rw [if_neg e, if_neg e]; exact hx0 t)
      (fun l => by
        simp only [getO_append]
        cases e : getO U0 l with
        | some ob => simp
        | none => simp [ho0 l]) hrest
    refine ⟨fun | 0 => W0 | j + 1 => W j, fun | 0 => V0 | j + 1 => V j, fun | 0 => U0 | j + 1 => U j, fun | 0 => S0 | j + 1 => S j, fun | 0 => to0 | j + 1 => to j, sN, ?_, ?_, ?_, ?_⟩
    · have : (List.range (o :: r).length).map (fun | 0 => to0 | j + 1 => to j) = to0 :: (List.range r.length).map to := by
        rw [List.length_cons, List.range_succ_eq_map]; simp [Function.comp_def]
      rw [this]
      simpa using hKN
    · intro i o' e
      cases i with
      | zero => simp at e; subst e; simpa [vT, vO] using hlex
      | succ i =>
        have h1 := hall i o' (by simpa using e)
        have e1 : (fun t => vT (fun j => ((o :: r)[j]?).bind (·.dst)) (fun | 0 => V0 | j + 1 => V j) t (x0 t) (fun _ => true) (i + 1)) = fun t => vT (fun j => (r[j]?).bind (·.dst)) V t (if o.dst = some t then V0 else x0 t) (fun _ => true) i := by
          funext t; rw [vT_shift]; simp
        have e2 : (fun l => vO (fun | 0 => U0 | j + 1 => U j) l (o0 l) (fun _ => true) (i + 1)) = fun l => vO U l (if getO U0 l ≠ none then getO U0 l else o0 l) (fun _ => true) i := by
          funext l; rw [vO_shift]
        rw [e1, e2]
        exact h1
    · intro t
      rw [List.length_cons, vT_shift]
      simpa using hfinT t
    · intro l
      rw [List.length_cons, vO_shift]
      exact hfinO l

theorem keysOf_get {u : Upd} {l : Nat} (h : getO u l ≠ none) : l ∈ keysOf u := by
  induction u with
  | nil => exact absurd rfl h
  | cons x u ih =>
    obtain ⟨i, o⟩ := x
    rw [getO_cons] at h
    by_cases e : i = l
    · subst e; simp [keysOf]
    · rw [if_neg e] at h
      have := ih h
      simp only [keysOf, List.map_cons, List.mem_cons]
      exact .inr this

theorem looksL_mem {tm : List (Nat × AV)} {x : Operand} {l : Nat} (hl : l ∈ refs (evO tm x)) : ∀ {xs : List Operand}, x ∈ xs → l ∈ looksL tm xs
  | y :: xs, hx => by
    simp only [looksL, List.mem_append]
    rcases List.mem_cons.1 hx with e | hx
    · subst e; exact .inl hl
    · exact .inr (looksL_mem hl hx)

theorem deepL_mem {ob : Nat → Option AObj} {l : Nat} : ∀ {ls : List Nat}, l ∈ ls → l ∈ deepL ob ls
  | k :: ls, h => by
    have ih : l ∈ ls → l ∈ deepL ob ls := deepL_mem
    unfold deepL
    rcases List.mem_cons.1 h with rfl | h
    · split <;> simp
    · split <;> simp [ih h]
theorem deepL_obj {ob : Nat → Option AObj} {l k : Nat} {obj : AObj} (ho : ob l = some obj) (hk : k ∈ refsO obj) : ∀ {ls : List Nat}, l ∈ ls → k ∈ deepL ob ls
  | m :: ls, h => by
    have ih : l ∈ ls → k ∈ deepL ob ls := deepL_obj ho hk
    unfold deepL
    rcases List.mem_cons.1 h with rfl | h
    · rw [ho]
      cases obj with
      | box cs => simp only [refsO] at hk; simp [hk]
      | _ => simp [refsO] at hk
    · split <;> simp [ih h]
theorem looksOf_mem {tm : List (Nat × AV)} {ob : List (Nat × AObj)} {o : Oper} {k : Nat} (h : near o (evO tm) (getO ob) k) : k ∈ looksOf tm ob o.op := by
  rcases h with ⟨x, hx, hk⟩ | ⟨x, hx, l, hl, obj, ho, hk⟩
  · exact deepL_mem (looksL_mem hk (Array.mem_toList_iff.2 hx))
  · exact deepL_obj ho hk (looksL_mem hl (Array.mem_toList_iff.2 hx))

theorem backEdges_spec {os : List Oper} : ∀ {i : Nat}, backEdges i os = true → ∀ (j : Nat) (o : Oper), os[j]? = some o → ∀ e ∈ o.after.toList, Region.binds .any e = true → e.on < i + j := by
  induction os with
  | nil => intro i _ j o e; simp at e
  | cons x os ih =>
    intro i h j o e ed hm hb
    simp only [backEdges, Bool.and_eq_true] at h
    cases j with
    | zero =>
      simp only [List.getElem?_cons_zero, Option.some.injEq] at e
      subst e
      have := List.all_eq_true.1 h.1 ed hm
      rw [hb] at this
      exact Nat.le_of_ble_eq_true this
    | succ j =>
      have := ih h.2 j o (by simpa using e) ed hm hb
      omega

/-- A frame whose slots are told anew. -/
theorem RelF.sub {P : Program} {E : FEnv} {tmf tmf' : Nat → AV} {obf obf' : Nat → Option AObj} {σ : Sig} {a : Act} {w : World} (h : RelF P E tmf obf σ a w) (ht : ∀ t, AVs (tmf t) (tmf' t)) (ho : ∀ l, obf' l = obf l) : RelF P E tmf' obf' σ a w := by
  have : obf' = obf := funext ho
  subst this
  exact { h with
    tm := fun t => (ht t).to P w E.St _ σ _ (h.tm t)
    wt := fun t l hl => h.wt t l ((ht t).rf l hl) }

theorem RelF.skip {P : Program} {E : FEnv} {tmf tmf' : Nat → AV} {obf obf' : Nat → Option AObj} {σ : Sig} {a : Act} {w : World} (h : RelF P E tmf obf σ a w) {d : Option Nat} (hd : ∀ t, d = some t → t < E.nt)
    (ht : ∀ t, (d = some t ∧ tmf' t = skipV) ∨ (d ≠ some t ∧ tmf' t = tmf t)) (ho : ∀ l, obf' l = obf l) : RelF P E tmf' obf' σ (a.put d undef) w := by
  have : obf' = obf := funext ho
  subst this
  refine ⟨?_, ?_, fun t => ?_, h.ob, h.nob, fun t l hl => ?_, h.wo, h.sep, h.own, h.ext⟩
  · cases d <;> simp [Act.put, h.sz]
  · cases d <;> simp [Act.put, h.df]
  · rcases ht t with ⟨ed, e⟩ | ⟨e, e'⟩
    · rw [e]; subst ed
      have hlt : t < a.tmps.size := by rw [h.sz]; exact hd t rfl
      simp [Act.put, Array.getD_eq_getD_getElem?, hlt]
      exact .pv _ _ (.val _)
    · rw [e']
      have := h.tm t
      cases d with
      | none => exact this
      | some d =>
        have hne : d ≠ t := fun hh => e (by rw [hh])
        simpa [Act.put, Array.getD_eq_getD_getElem?, Array.getElem?_setIfInBounds_ne hne] using this
  · rcases ht t with ⟨_, e⟩ | ⟨_, e⟩
    · rw [e] at hl; simp [refs] at hl
    · rw [e] at hl; exact h.wt t l hl

theorem countP_flip {i : Nat} {p q : Nat → Bool} (hp : p i = true) (hq : q i = false) (h : ∀ j, j ≠ i → p j = q j) : ∀ {n : Nat}, (List.range n).countP p = (List.range n).countP q + if i < n then 1 else 0
  | 0 => by simp
  | n + 1 => by
    have ih := countP_flip hp hq h (n := n)
    rw [List.range_succ, List.countP_append, List.countP_append, ih]
    by_cases e : n = i
    · subst e
      simp [hp, hq]
    · have hn := h n e
      by_cases hlt : i < n
      · rw [if_pos hlt, if_pos (by omega)]
        simp only [List.countP_cons, List.countP_nil, hn]; omega
      · rw [if_neg hlt, if_neg (by omega)]
        simp only [List.countP_cons, List.countP_nil, hn]; omega

/-- A region whose order is open. -/
theorem arunD_sound {P : Program} {T : Tab} {E : FEnv} (hE : E.ok) (hT : T.ok P) {ops : Array Oper} (hok : drawOk ops.toList = true) {K : AState → Prop} {Q : Exit → Act → World → Prop} (hQ : ∀ s σ a w, K s → Rel P E s σ a w → Q .normal a w)
    {s : AState} {σ : Sig} {a : Act} {w : World} (hR : Rel P E s σ a w) (h : arunD P T E.nt ops.toList ops.toList s [] (fun s log => logOk ops.toList log = true ∧ K s)) :
    wpAny P .any ops Q ops.size (Array.replicate ops.size false) a w := by
  obtain ⟨W, V, U, S, to, sN, ⟨hlog, hK⟩, hall, hfT, hfO⟩ := arunD_split hT ops.toList s [] _ (getT s.tm) (getO s.ob) (fun t => .rfl) (fun l => rfl) h
  simp only [List.nil_append] at hlog
  have hN : ops.toList.length = ops.size := by simp
  simp only [drawOk, Bool.and_eq_true] at hok
  obtain ⟨hback, hpair⟩ := hok
  let dst : Nat → Option Nat := fun j => (ops.toList[j]?).bind (·.dst)
  -- the order of what touches in common
  have htc : ∀ (i k : Nat) (oi ok : Oper), ops[i]? = some oi → ops[k]? = some ok → i < k → tmpConf ops.toList oi ok = true → ((befL ops.toList []).getD k 0).testBit i = true :=
    fun i k oi ok hi hk hik hc => pairsOk_spec (pre := []) rfl hpair i k oi ok hik (by simpa using hi) (by simpa using hk) (Nat.zero_le _) hc
  have hoc : ∀ i k, i < k → k < ops.size → objConf (to i) (to k) = true → ((befL ops.toList []).getD k 0).testBit i = true := by
    intro i k hik hk hc
    refine pairsOk_spec (pre := []) rfl hlog i k (to i) (to k) hik ?_ ?_ (Nat.zero_le _) hc
    · simp [show i < ops.size from by omega]
    · simp [hk]
  have hobj : ∀ i, i < ops.size → ∃ o, ops[i]? = some o := fun i hi => ⟨ops[i], by simp [hi]⟩
  have hlex : ∀ i o, ops[i]? = some o → LexAt P E.nt ops o (fun t => vT dst V t (getT s.tm t) (fun _ => true) i) (fun l => vO U l (getO s.ob l) (fun _ => true) i) (W i) (V i) (U i) (S i) (to i) := fun i o ho => hall i o (by simpa using ho)
  have hwr : ∀ i o l, ops[i]? = some o → getO (U i) l ≠ none → l ∈ (to i).writes := by
    intro i o l ho hl
    have hx := hlex i o ho
    cases hW : W i with
    | true => rw [(hx.looks hW).2]; exact keysOf_get hl
    | false => rw [(hx.skip hW).2] at hl; exact absurd rfl hl
  have hconfT : ∀ (i k : Nat) (oi ok : Oper) (t : Nat), ops[i]? = some oi → ops[k]? = some ok → i ≠ k → (t ∈ opTmps ops.toList oi ∨ oi.dst = some t) → ok.dst = some t → tmpConf ops.toList oi ok = true ∧ tmpConf ops.toList ok oi = true := by
    intro i k oi ok t _ _ _ ht hk
    constructor
    · unfold tmpConf
      rw [hk]
      rcases ht with ht | ht
      · simp [ht]
      · simp [ht]
    · unfold tmpConf
      rw [hk]
      rcases ht with ht | ht
      · simp [ht]
      · simp [ht]
  have hconfO : ∀ (x y : Touch) (l : Nat), (l ∈ x.looks ∨ l ∈ x.writes) → l ∈ y.writes → objConf x y = true ∧ objConf y x = true := by
    intro x y l hx hy
    constructor
    · unfold objConf
      rcases hx with hx | hx
      · simp only [Bool.or_eq_true, List.any_eq_true, List.contains_iff_mem]; exact .inr ⟨l, hy, hx⟩
      · simp only [Bool.or_eq_true, List.any_eq_true, List.contains_iff_mem]; exact .inl ⟨l, hx, .inr hy⟩
    · unfold objConf
      rcases hx with hx | hx
      · simp only [Bool.or_eq_true, List.any_eq_true, List.contains_iff_mem]; exact .inl ⟨l, hy, .inl hx⟩
      · simp only [Bool.or_eq_true, List.any_eq_true, List.contains_iff_mem]; exact .inl ⟨l, hy, .inr hx⟩
  have main : ∀ (fuel : Nat) (listed : Array Bool) (a : Act) (w : World), listed.size = ops.size → (List.range ops.size).countP (fun i => !listed.getD i true) = fuel →
      (∀ j o, listed.getD j false = true → ops[j]? = some o → ∀ e ∈ o.after.toList, Region.binds .any e = true → listed.getD e.on false = true) →
      (∃ σ, RelF P E (fun t => vT dst V t (getT s.tm t) (fun j => listed.getD j false) ops.size) (fun l => vO U l (getO s.ob l) (fun j => listed.getD j false) ops.size) σ a w) →
      wpAny P .any ops Q fuel listed a w := by
    intro fuel
    have hgd : ∀ (listed : Array Bool) (j : Nat), listed.size = ops.size → j < ops.size → listed.getD j true = listed.getD j false := by
      intro listed j hsz hj
      simp [Array.getD, hsz, hj]
    have done : ∀ (listed : Array Bool) (a : Act) (w : World), listed.size = ops.size → (∀ j, j < ops.size → listed.getD j false = true) →
        (∃ σ, RelF P E (fun t => vT dst V t (getT s.tm t) (fun j => listed.getD j false) ops.size) (fun l => vO U l (getO s.ob l) (fun j => listed.getD j false) ops.size) σ a w) → Q .normal a w := by
      intro listed a w hsz hl ⟨σ, hF⟩
      refine hQ sN σ a w hK (hF.sub (fun t => ?_) (fun l => ?_))
      · have e : vT dst V t (getT s.tm t) (fun j => listed.getD j false) ops.size = vT dst V t (getT s.tm t) (fun _ => true) ops.size := vT_eq (Nat.le_refl _) (fun j hj _ => by simp [hl j hj, hj])
        show AVs (vT dst V t (getT s.tm t) (fun j => listed.getD j false) ops.size) _
        rw [e]
        have := hfT t
        rw [hN] at this
        exact this
      · have e : vO U l (getO s.ob l) (fun j => listed.getD j false) ops.size = vO U l (getO s.ob l) (fun _ => true) ops.size := vO_eq (Nat.le_refl _) (fun j hj _ => by simp [hl j hj, hj])
        show getO sN.ob l = vO U l (getO s.ob l) (fun j => listed.getD j false) ops.size
        rw [e]
        have := hfO l
        rw [hN] at this
        exact this
    have allOf : ∀ (listed : Array Bool), listed.size = ops.size → Region.ready .any ops listed = [] → ∀ j, j < ops.size → listed.getD j false = true := by
      intro listed hsz hr
      intro j
      induction j using Nat.strongRecOn with
      | _ j ihj =>
        intro hj
        cases hb : listed.getD j false with
        | true => rfl
        | false =>
          obtain ⟨o, ho⟩ := hobj j hj
          have : j ∈ Region.ready .any ops listed := by
            rw [mem_ready]
            refine ⟨by rw [hgd listed j hsz hj]; exact hb, o, ho, fun e he hbd => ?_⟩
            have hlt := backEdges_spec hback j o (by simpa using ho) e (by simpa using he) hbd
            exact ihj e.on (by omega) (by omega)
          rw [hr] at this; simp at this
    induction fuel with
    | zero =>
      intro listed a w hsz hcnt hcl hF
      have hall' : ∀ j, j < ops.size → listed.getD j false = true := by
        intro j hj
        have := List.countP_eq_zero.1 hcnt j (by simpa using hj)
        rw [hgd listed j hsz hj] at this
        simpa using this
      refine ⟨?_, done listed a w hsz hall' hF⟩
      rw [List.eq_nil_iff_forall_not_mem]
      intro j hj
      rw [mem_ready] at hj
      obtain ⟨h0, o, ho, _⟩ := hj
      have hlt : j < ops.size := (Array.getElem?_eq_some_iff.1 ho).1
      rw [hgd listed j hsz hlt, hall' j hlt] at h0
      cases h0
    | succ fuel ih =>
      intro listed a w hsz hcnt hcl hF
      refine ⟨fun hr => done listed a w hsz (allOf listed hsz hr) hF, fun i hi => ?_⟩
      rw [mem_ready] at hi
      obtain ⟨h0, o, ho, hed⟩ := hi
      have hlt : i < ops.size := (Array.getElem?_eq_some_iff.1 ho).1
      have hun : listed.getD i false = false := by rw [← hgd listed i hsz hlt]; exact h0
      have hx := hlex i o ho
      -- what has been done, of all that touches what i touches, is what stands before i
      have hbefore : ∀ k, ((befL ops.toList []).getD i 0).testBit k = true → listed.getD k false = true :=
        befL_closed (ops := ops.toList) (D := fun j => listed.getD j false = true) (fun j o' hj ho' => hcl j o' hj (by simpa using ho')) ops.toList [] [] rfl rfl (fun j hj => by simp at hj) i o (by simpa using ho) (fun e he hb => hed e (by simpa using he) hb)
      have hafter : ∀ j oj, ops[j]? = some oj → listed.getD j false = true → ((befL ops.toList []).getD j 0).testBit i = true → False := by
        intro j oj hoj hj hbit
        have : listed.getD i false = true := befL_closed (ops := ops.toList) (D := fun j => listed.getD j false = true) (fun j o' hj ho' => hcl j o' hj (by simpa using ho')) ops.toList [] [] rfl rfl (fun j hj => by simp at hj) j oj (by simpa using hoj) (fun e he hb => hcl j oj hj hoj e (by simpa using he) hb) i hbit
        rw [hun] at this; cases this
      have ordT : ∀ t, (t ∈ opTmps ops.toList o ∨ o.dst = some t) → ∀ j, j < ops.size → dst j = some t → (listed.getD j false = true ↔ (j < i ∧ true = true)) := by
        intro t ht j hj hd
        by_cases e : j = i
        · subst e; simp [hun]
        obtain ⟨oj, hoj⟩ := hobj j hj
        have hdj : oj.dst = some t := by
          have : (ops.toList[j]?).bind (·.dst) = some t := hd
          simpa [hoj] using this
        obtain ⟨c1, c2⟩ := hconfT i j o oj t ho hoj (Ne.symm e) ht hdj
        constructor
        · intro hl
          refine ⟨?_, rfl⟩
          rcases Nat.lt_or_ge j i with h1 | h1
          · exact h1
          · exact (hafter j oj hoj hl (htc i j o oj ho hoj (by omega) c1)).elim
        · rintro ⟨h1, _⟩
          exact hbefore j (htc j i oj o hoj ho h1 c2)
      have ordO : ∀ l, (l ∈ (to i).looks ∨ l ∈ (to i).writes) → ∀ j, j < ops.size → getO (U j) l ≠ none → (listed.getD j false = true ↔ (j < i ∧ true = true)) := by
        intro l hl j hj hd
        by_cases e : j = i
        · subst e; simp [hun]
        obtain ⟨oj, hoj⟩ := hobj j hj
        obtain ⟨c1, c2⟩ := hconfO (to i) (to j) l hl (hwr j oj l hoj hd)
        constructor
        · intro hl
          refine ⟨?_, rfl⟩
          rcases Nat.lt_or_ge j i with h1 | h1
          · exact h1
          · exact (hafter j oj hoj hl (hoc i j (by omega) hj c1)).elim
        · rintro ⟨h1, _⟩
          exact hbefore j (hoc j i h1 hlt c2)
      have eqT : ∀ t, (t ∈ opTmps ops.toList o ∨ o.dst = some t) → vT dst V t (getT s.tm t) (fun j => listed.getD j false) ops.size = vT dst V t (getT s.tm t) (fun _ => true) i :=
        fun t ht => vT_eq (Nat.le_of_lt hlt) (fun j hj hd => ordT t ht j hj hd)
      have eqO : ∀ l, (l ∈ (to i).looks ∨ l ∈ (to i).writes) → vO U l (getO s.ob l) (fun j => listed.getD j false) ops.size = vO U l (getO s.ob l) (fun _ => true) i :=
        fun l hl => vO_eq (Nat.le_of_lt hlt) (fun j hj hd => ordO l hl j hj hd)
      obtain ⟨σ, hF⟩ := hF
      have hAt : ∀ t, t ∈ opTmps ops.toList o → AR P w E.St (Mof E.M0 σ) σ (getT (S i).tm t) (a.tmps.getD t undef) := by
        intro t ht
        have h1 : AR P w E.St (Mof E.M0 σ) σ (vT dst V t (getT s.tm t) (fun j => listed.getD j false) ops.size) (a.tmps.getD t undef) := hF.tm t
        rw [eqT t (.inl ht)] at h1
        exact (hx.tm t).to P w E.St _ σ _ h1
      have hwant := hx.guard a.tmps (fun t ht => ⟨P, w, _, _, σ, hAt t ht⟩)
      -- the next state
      have hsel : ∀ j, (listed.setIfInBounds i true).getD j false = (listed.getD j false || j == i) := by
        intro j
        by_cases e : j = i
        · subst e; simp [Array.getD_eq_getD_getElem?, hsz, hlt]
        · have : (j == i) = false := by simpa using e
          rw [this, Bool.or_false, getD_set_ne false (Ne.symm e)]
      have hnT : ∀ t, vT dst V t (getT s.tm t) (fun j => (listed.setIfInBounds i true).getD j false) ops.size = if o.dst = some t then V i else vT dst V t (getT s.tm t) (fun j => listed.getD j false) ops.size := by
        intro t
        rw [vT_add (sel := fun j => listed.getD j false) (i := i) hsel hun (fun j hj hij hdi hdj => by
          have hdi' : o.dst = some t := by
            have : (ops.toList[i]?).bind (·.dst) = some t := hdi
            simpa [ho] using this
          have := ordT t (.inr hdi') j hj hdj
          cases hb : listed.getD j false with
          | false => rfl
          | true => have := (this.1 hb).1; omega)]
        have : dst i = o.dst := by show (ops.toList[i]?).bind (·.dst) = o.dst; simp [ho]
        rw [this]
        simp [hlt]
      have hnO : ∀ l, vO U l (getO s.ob l) (fun j => (listed.setIfInBounds i true).getD j false) ops.size = if getO (U i) l ≠ none then getO (U i) l else vO U l (getO s.ob l) (fun j => listed.getD j false) ops.size := by
        intro l
        rw [vO_add (sel := fun j => listed.getD j false) (i := i) hsel hun (fun j hj hij hdi hdj => by
          have := ordO l (.inr (hwr i o l ho hdi)) j hj hdj
          cases hb : listed.getD j false with
          | false => rfl
          | true => have := (this.1 hb).1; omega)]
        simp [hlt]
      have hnext : ∀ (a' : Act) (w' : World), (∃ σ, RelF P E (fun t => vT dst V t (getT s.tm t) (fun j => (listed.setIfInBounds i true).getD j false) ops.size) (fun l => vO U l (getO s.ob l) (fun j => (listed.setIfInBounds i true).getD j false) ops.size) σ a' w') → wpAny P .any ops Q fuel (listed.setIfInBounds i true) a' w' := by
        intro a' w' hF'
        refine ih (listed.setIfInBounds i true) a' w' (by simp [hsz]) ?_ (fun j oj hj hoj e he hb => ?_) hF'
        · have hnd : (List.range ops.size).Nodup := List.nodup_range
          have : (List.range ops.size).countP (fun j => !listed.getD j true) = (List.range ops.size).countP (fun j => !(listed.setIfInBounds i true).getD j true) + 1 := by
            rw [countP_flip (i := i) (p := fun j => !listed.getD j true) (q := fun j => !(listed.setIfInBounds i true).getD j true) (by show (!listed.getD i true) = true; rw [h0]; rfl) (by simp [Array.getD_eq_getD_getElem?, hsz, hlt]) (fun j hj => by show (!listed.getD j true) = (!(listed.setIfInBounds i true).getD j true); rw [getD_set_ne true (Ne.symm hj)]), if_pos hlt]
          omega
        · rw [hsel] at hj ⊢
          rw [Bool.or_eq_true] at hj ⊢
          rcases hj with hj | hj
          · exact .inl (hcl j oj hj hoj e he hb)
          · have : j = i := by simpa using hj
            subst this
            rw [ho] at hoj; cases hoj
            exact .inl (hed e (by simpa using he) hb)
      unfold wpOp
      rw [ho]
      simp only
      rw [hwant]
      cases hW : W i with
      | false =>
        simp only [Bool.false_eq_true, if_false]
        obtain ⟨hv, hu⟩ := hx.skip hW
        refine hnext _ _ ⟨σ, hF.skip hx.dst (fun t => ?_) (fun l => ?_)⟩
        · simp only [hnT, hv]
          by_cases e : o.dst = some t
          · exact .inl ⟨e, by rw [if_pos e]⟩
          · exact .inr ⟨e, by rw [if_neg e]⟩
        · simp only [hnO, hu]
          simp [getO]
      | true =>
        simp only [if_true]
        refine .inl ?_
        have hstep := hx.run hW
        obtain ⟨hlk, hwk⟩ := hx.looks hW
        have hin : ∀ k, near o (evO (S i).tm) (getO (S i).ob) k → k ∈ (to i).looks := fun k hk => by rw [hlk]; exact looksOf_mem hk
        have hobS : ∀ l, (l ∈ (to i).looks ∨ l ∈ (to i).writes) → getO (S i).ob l = vO U l (getO s.ob l) (fun j => listed.getD j false) ops.size := fun l hl => by rw [eqO l hl]; exact hx.ob l
        have hev : ∀ x ∈ o.op.operands, AR P w E.St (Mof E.M0 σ) σ (evO (S i).tm x) (a.eval x) := by
          intro x hxm
          cases x with
          | tmp t =>
            refine hAt t ?_
            unfold opTmps
            exact List.mem_append_left _ (List.mem_filterMap.2 ⟨.tmp t, Array.mem_toList_iff.2 hxm, rfl⟩)
          | const v => exact .pv _ _ (ofConst_rel v)
          | func f => exact .fn f [] #[] rfl (fun i c e => by simp at e)
          | global g => exact evO_global hE hF _ g
        have hrf : ∀ x ∈ o.op.operands, ∀ l ∈ refs (evO (S i).tm x), vO U l (getO s.ob l) (fun j => listed.getD j false) ops.size ≠ none := by
          intro x hxm l hl
          cases x with
          | tmp t =>
            have hm : t ∈ opTmps ops.toList o := by
              unfold opTmps
              exact List.mem_append_left _ (List.mem_filterMap.2 ⟨.tmp t, Array.mem_toList_iff.2 hxm, rfl⟩)
            have h1 : l ∈ refs (vT dst V t (getT s.tm t) (fun _ => true) i) := (hx.tm t).rf l hl
            rw [← eqT t (.inl hm)] at h1
            exact hF.wt t l h1
          | const v => simp [evO, refs] at hl
          | func f => simp [evO, refs, refs.refsL] at hl
          | global g => rw [refs_global] at hl; simp at hl
        have hnr : ∀ k, near o (evO (S i).tm) (getO (S i).ob) k → vO U k (getO s.ob k) (fun j => listed.getD j false) ops.size ≠ none := by
          intro k hk
          rcases hk with ⟨x, hxm, hk⟩ | ⟨x, hxm, l, hl, obj, ho', hk⟩
          · exact hrf x hxm k hk
          · rw [hobS l (.inl (hin l (.inl ⟨x, hxm, hl⟩)))] at ho'
            exact hF.wo l obj ho' k hk
        have hUw : ∀ l, getO (U i) l ≠ none → l ∈ (to i).writes := fun l hl => hwr i o l ho hl
        refine (hstep.runs E.St E.M0 σ w a.eval (hF.inv hE) hev (fun k hk obj e => ?_) (fun k hk => ?_) (fun l hl h1 => ?_)).wp (fun v' w' ⟨σ', hp⟩ => hnext _ _ ⟨σ', hF.post hE hp hx.dst (fun l obj e => ?_) (fun l hl => ?_) (fun k obj e l hl => ?_) (fun t => ?_) (fun l => ?_)⟩)
        · refine hF.ob k obj ?_
          rw [← hobS k (.inl (hin k hk))]; exact e
        · rw [hobS k (.inl (hin k hk))]; exact hnr k hk
        · rw [hobS l (.inr (hUw l hl))] at h1
          exact hF.nob l h1
        · have hl : getO (U i) l ≠ none := by rw [e]; simp
          show vO U l (getO s.ob l) (fun j => listed.getD j false) ops.size = none ∨ liveO (vO U l (getO s.ob l) (fun j => listed.getD j false) ops.size) = true ∨ obj = .gone
          rw [← hobS l (.inr (hUw l hl))]
          exact (hstep.lv l obj e).2
        · exact (hstep.rv l hl).imp (hnr l) id
        · exact (hstep.ro k obj e l hl).imp (hnr l) id
        · simp only [hnT]
          by_cases e : o.dst = some t
          · exact .inl ⟨e, by rw [if_pos e]⟩
          · exact .inr ⟨e, by rw [if_neg e]⟩
        · simp only [hnO]
          cases e : getO (U i) l with
          | none => exact .inr ⟨rfl, by simp⟩
          | some ob => exact .inl ⟨ob, rfl, by simp⟩
  refine main ops.size (Array.replicate ops.size false) a w (by simp) ?_ (fun j o hj => ?_) ⟨σ, ?_⟩
  · have : (List.range ops.size).countP (fun i => !(Array.replicate ops.size false).getD i true) = (List.range ops.size).length := by
      rw [List.countP_eq_length]
      intro j hj
      have hj' : j < ops.size := by simpa using hj
      simp [Array.getD, hj']
    rw [this]; simp
  · have : (Array.replicate ops.size false).getD j false = false := by
      by_cases h : j < ops.size <;> simp [Array.getD, h]
    rw [this] at hj; cases hj
  · have hf : ∀ j, (Array.replicate ops.size false).getD j false = false := by
      intro j
      by_cases h : j < ops.size <;> simp [Array.getD, h]
    have e1 : ∀ t, vT dst V t (getT s.tm t) (fun j => (Array.replicate ops.size false).getD j false) ops.size = getT s.tm t := fun t => vT_eq (sel' := fun _ => true) (i := 0) (Nat.zero_le _) (fun j _ _ => by simp [hf])
    have e2 : ∀ l, vO U l (getO s.ob l) (fun j => (Array.replicate ops.size false).getD j false) ops.size = getO s.ob l := fun l => vO_eq (sel' := fun _ => true) (i := 0) (Nat.zero_le _) (fun j _ _ => by simp [hf])
    exact hR.sub (fun t => by simp only [e1]; exact .rfl) (fun l => e2 l)

end Go.Abs

namespace Go.Abs
open Go.RowKit
variable [Globals]

inductive AExit where
  | normal
  | exit (id : Nat)
  | ret

def thenK (next : AState → Prop) (Q : AExit → AState → Prop) : AExit → AState → Prop
  | .normal, s => next s
  | .exit i, s => Q (.exit i) s
  | .ret, s => Q .ret s
def blockK (id : Nat) (Q : AExit → AState → Prop) : AExit → AState → Prop
  | .normal, s => Q .normal s
  | .exit i, s => match Nat.beq i id with
    | true => Q .normal s
    | false => Q (.exit i) s
  | .ret, s => Q .ret s

/-- s is at least what I says (of every frame and world). -/
def AEnt (P : Program) (s I : AState) : Prop := ∀ (E : FEnv) (σ : Sig) (a : Act) (w : World), E.ok → Rel P E s σ a w → ∃ σ', Rel P E I σ' a w

def ren : List (Nat × Nat) → Nat → Nat
  | [], l => l
  | (i, j) :: r, l => match Nat.beq i l with
    | true => j
    | false => ren r l

def entV (r : List (Nat × Nat)) (ob : List (Nat × AObj)) (x y : AV) : Prop :=
  match y with
  | .junk => True
  | .pv q => match x with
    | .pv p => PSub p q
    | _ => False
  | .ptr l off => match x with
    | .ptr l' off' => chk (Nat.beq (ren r l) l') (off' = off)
    | _ => False
  | .own l => match x with
    | .own l' => chk (Nat.beq (ren r l) l') True
    | .pv (.val (.slice none 0 0)) => chk (getO ob (ren r l)).isNone True
    | _ => False
  | .part l size i n => match x with
    | .part l' size' i' n' => chk (Nat.beq (ren r l) l') (chk (Nat.beq size' size) (i' = i ∧ n' = n))
    | _ => False
  | .ref l => match x with
    | .ref l' => chk (Nat.beq (ren r l) l') True
    | _ => False
  | y => x = y ∧ refs y = []

def entVs (r : List (Nat × Nat)) (ob : List (Nat × AObj)) : List AV → List AV → Prop
  | [], [] => True
  | d :: ds, c :: cs => entV r ob d c ∧ entVs r ob ds cs
  | _, _ => False

def entO (r : List (Nat × Nat)) (ob : List (Nat × AObj)) (x : Option AObj) (y : AObj) : Prop :=
  match y with
  | .gone => True
  | .pbox cs => match x with
    | some (.pbox ds) => PSubs ds cs
    | _ => False
  | .row size n f => match x with
    | some (.row size' n' f') => chk (Nat.beq size size') (n' = n ∧ ∀ i, i < n → PSubs (f' i) (f i))
    | none => n = 0
    | _ => False
  | .map kk look => match x with
    | some (.map kk' look') => kk' = kk ∧ ∀ k, kk.has k → look' k = look k
    | _ => False
  | .siter s p => match x with
    | some (.siter s' p') => s' = s ∧ p' = p
    | _ => False
  | .miter kk look seen => match x with
    | some (.miter kk' look' seen') => kk' = kk ∧ look' = look ∧ seen' = seen
    | _ => False
  | .box cs => match x with
    | some (.pbox ds) => entVs r ob (ds.map .pv) cs
    | some (.box ds) => entVs r ob ds cs
    | _ => False

def entTs (r : List (Nat × Nat)) (ob : List (Nat × AObj)) (tm : List (Nat × AV)) : List (Nat × AV) → Prop
  | [] => True
  | [(t, y)] => entV r ob (getT tm t) y
  | (t, y) :: l => entV r ob (getT tm t) y ∧ entTs r ob tm l

def entOs (r : List (Nat × Nat)) (ob : List (Nat × AObj)) : List (Nat × AObj) → Prop
  | [] => True
  | (l, y) :: k => entO r ob (getO ob (ren r l)) y ∧ entOs r ob k

/-- every reference in I has its object in I; no two objects of I are one; none is told twice. -/
def wsT (ob : List (Nat × AObj)) : List (Nat × AV) → Bool
  | [] => true
  | (_, v) :: l => (refs v).all (fun i => (getO ob i).isSome) && wsT ob l

/-- .. of an object in I too -/
def wsO (ob : List (Nat × AObj)) : List (Nat × AObj) → Bool
  | [] => true
  | (_, o) :: l => (refsO o).all (fun i => (getO ob i).isSome) && wsO ob l

def injO (r : List (Nat × Nat)) : List (Nat × AObj) → Bool
  | [] => true
  | (l, _) :: k => k.all (fun x => !Nat.beq l x.1 && !Nat.beq (ren r l) (ren r x.1)) && injO r k

def entS (r : List (Nat × Nat)) (s I : AState) : Prop :=
  match s, I with
  | ⟨tm, ob⟩, ⟨tm', ob'⟩ => chk (wsT ob' tm' && wsO ob' ob') (chk (injO r ob') (match ob' with
    | [] => entTs r ob tm tm'
    | ob' => entOs r ob ob' ∧ entTs r ob tm tm'))

theorem getT_mem : ∀ {l : List (Nat × AV)} {t : Nat}, getT l t = .junk ∨ ∃ v, (t, v) ∈ l ∧ getT l t = v
  | [], t => .inl rfl
  | (i, v) :: l, t => by
    rw [getT_cons]
    by_cases h : i = t
    · subst h; rw [if_pos rfl]; exact .inr ⟨v, by simp, rfl⟩
    · rw [if_neg h]
      rcases getT_mem (l := l) (t := t) with h1 | ⟨u, h1, h2⟩
      · exact .inl h1
      · exact .inr ⟨u, by simp [h1], h2⟩

theorem getO_mem : ∀ {l : List (Nat × AObj)} {t : Nat} {o : AObj}, getO l t = some o → (t, o) ∈ l
  | [], t, o, h => by simp [getO] at h
  | (i, x) :: l, t, o, h => by
    rw [getO_cons] at h
    split at h
    · rename_i e; subst e; cases h; simp
    · simp [getO_mem h]

theorem entTs_mem {r : List (Nat × Nat)} {ob : List (Nat × AObj)} {tm : List (Nat × AV)} : ∀ {l : List (Nat × AV)}, entTs r ob tm l → ∀ t v, (t, v) ∈ l → entV r ob (getT tm t) v
  | [(i, x)], h, t, v, hm => by simp at hm; obtain ⟨rfl, rfl⟩ := hm; exact h
  | (i, x) :: y :: l, h, t, v, hm => by
    rcases List.mem_cons.1 hm with e | hm
    · cases e; exact h.1
    · exact entTs_mem h.2 t v hm

theorem entOs_mem {r : List (Nat × Nat)} {ob : List (Nat × AObj)} : ∀ {l : List (Nat × AObj)}, entOs r ob l → ∀ i o, (i, o) ∈ l → entO r ob (getO ob (ren r i)) o
  | (j, x) :: l, h, i, o, hm => by
    rcases List.mem_cons.1 hm with e | hm
    · cases e; exact h.1
    · exact entOs_mem h.2 i o hm

theorem wsT_mem {ob : List (Nat × AObj)} : ∀ {l : List (Nat × AV)}, wsT ob l = true → ∀ t v, (t, v) ∈ l → ∀ i ∈ refs v, getO ob i ≠ none
  | (j, x) :: l, h, t, v, hm => by
    simp only [wsT, Bool.and_eq_true] at h
    rcases List.mem_cons.1 hm with e | hm
    · cases e
      intro i hi hn
      have := List.all_eq_true.1 h.1 i hi
      rw [hn] at this; cases this
    · exact wsT_mem h.2 t v hm

theorem wsO_mem {ob : List (Nat × AObj)} : ∀ {l : List (Nat × AObj)}, wsO ob l = true → ∀ t o, (t, o) ∈ l → ∀ i ∈ refsO o, getO ob i ≠ none
  | (j, x) :: l, h, t, v, hm => by
    simp only [wsO, Bool.and_eq_true] at h
    rcases List.mem_cons.1 hm with e | hm
    · cases e
      intro i hi hn
      have := List.all_eq_true.1 h.1 i hi
      rw [hn] at this; cases this
    · exact wsO_mem h.2 t v hm

theorem entVs_get {r : List (Nat × Nat)} {ob : List (Nat × AObj)} : ∀ {ds cs : List AV}, entVs r ob ds cs → ds.length = cs.length ∧ ∀ (i : Nat) (c : AV), cs[i]? = some c → ∃ d, ds[i]? = some d ∧ entV r ob d c
  | [], [], _ => ⟨rfl, fun i c e => by simp at e⟩
  | d :: ds, c :: cs, h => by
    obtain ⟨h1, h2⟩ := entVs_get h.2
    refine ⟨by simp [h1], fun i x e => ?_⟩
    cases i with
    | zero => simp at e; subst e; exact ⟨d, by simp, h.1⟩
    | succ i => obtain ⟨y, h3, h4⟩ := h2 i x (by simpa using e); exact ⟨y, by simpa using h3, h4⟩
  | [], _ :: _, h => h.elim
  | _ :: _, [], h => h.elim

theorem injO_mem {r : List (Nat × Nat)} : ∀ {l : List (Nat × AObj)}, injO r l = true → ∀ i o j p, (i, o) ∈ l → (j, p) ∈ l → ren r i = ren r j → i = j
  | (k, x) :: l, h, i, o, j, p, hi, hj, e => by
    simp only [injO, Bool.and_eq_true] at h
    have key : ∀ (m : Nat) (q : AObj), (m, q) ∈ l → ren r k ≠ ren r m := by
      intro m q hm hh
      have := List.all_eq_true.1 h.1 (m, q) hm
      simp only [Bool.and_eq_true, Bool.not_eq_true'] at this
      rw [hh] at this; simp at this
    rcases List.mem_cons.1 hi with e1 | hi <;> rcases List.mem_cons.1 hj with e2 | hj
    · cases e1; cases e2; rfl
    · cases e1; exact absurd e (key j p hj)
    · cases e2; exact absurd e.symm (key i o hi)
    · exact injO_mem h.2 i o j p hi hj e

theorem entS_sound {P : Program} {r : List (Nat × Nat)} {s I : AState} (h : entS r s I) : AEnt P s I := by
  obtain ⟨tm, ob⟩ := s
  obtain ⟨tm', ob'⟩ := I
  intro E σ a w hE hR
  unfold entS at h
  obtain ⟨hws, h⟩ := chk_true h
  rw [Bool.and_eq_true] at hws
  obtain ⟨hws, hwo⟩ := hws
  obtain ⟨hinj, h⟩ := chk_true h
  have hO : entOs r ob ob' ∧ entTs r ob tm tm' := by
    cases ob' with
    | nil => exact ⟨trivial, h⟩
    | cons x l => exact h
  obtain ⟨hO, hT⟩ := hO
  -- the new places
  let σ' : Sig := fun l => match getO ob' l with
    | some .gone => none
    | some _ => match getO ob (ren r l) with
      | none => some ⟨.slice none 0 0, none⟩
      | some _ => σ (ren r l)
    | none => none
  have hsub0 : ∀ l loc, σ' l = some loc → ∃ o, getO ob' l = some o ∧ o ≠ .gone ∧ (σ (ren r l) = some loc ∨ (getO ob (ren r l) = none ∧ loc = ⟨.slice none 0 0, none⟩)) := by
    intro l loc e
    simp only [σ'] at e
    split at e
    · cases e
    · rename_i o hne hg
      split at e
      · rename_i hn; cases e; exact ⟨o, hg, fun hh => hne hh, .inr ⟨hn, rfl⟩⟩
      · exact ⟨o, hg, fun hh => hne hh, .inl e⟩
    · cases e
  have hsub : ∀ l loc, σ' l = some loc → getO ob (ren r l) ≠ none → σ (ren r l) = some loc := by
    intro l loc e hne
    obtain ⟨_, _, _, h1⟩ := hsub0 l loc e
    rcases h1 with h1 | ⟨h1, _⟩
    · exact h1
    · exact absurd h1 hne
  have hown : ∀ b, owned σ' b → owned σ b := fun b ⟨l, loc, e, hb⟩ => by
    obtain ⟨_, _, _, h1⟩ := hsub0 l loc e
    rcases h1 with h1 | ⟨_, h1⟩
    · exact ⟨ren r l, loc, h1, hb⟩
    · subst h1; cases hb
  have hmof : ∀ b, b < w.heap.size → Mof E.M0 σ' b → Mof E.M0 σ b := fun b _ hb => hb.elim .inl (fun h => .inr (hown b h))
  have hpv : ∀ (p : PV) (v : Value), PR w (Mof E.M0 σ) p v → PR w (Mof E.M0 σ') p v := fun p v hp => hp.mono (Same.refl _ w) hmof
  have relV : ∀ (x y : AV) (v : Value), entV r ob x y → AR P w E.St (Mof E.M0 σ) σ x v → (∀ l ∈ refs x, getO ob l ≠ none) → AR P w E.St (Mof E.M0 σ') σ' y v := by
    intro x y v hv hx hwt
    unfold entV at hv
    split at hv
    · exact .junk _
    · split at hv
      · exact .pv _ _ (hpv _ _ (hv.to _ _ _ (arg_pv hx)))
      · exact hv.elim
    · rename_i l off
      split at hv
      · rename_i l' off'
        obtain ⟨h1, rfl⟩ := chk_true hv
        have h1 := Nat.eq_of_beq_eq_true h1
        have hne : getO ob (ren r l) ≠ none := by rw [h1]; exact hwt l' (by simp [refs])
        refine .ptr _ _ _ fun loc hloc => ?_
        have h2 := hsub _ _ hloc hne
        rw [h1] at h2
        exact arg_ptr hx h2
      · exact hv.elim
    · rename_i l
      split at hv
      · rename_i l'
        obtain ⟨h1, _⟩ := chk_true hv
        have h1 := Nat.eq_of_beq_eq_true h1
        have hne : getO ob (ren r l) ≠ none := by rw [h1]; exact hwt l' (by simp [refs])
        refine .own _ _ fun loc hloc => ?_
        have h2 := hsub _ _ hloc hne
        rw [h1] at h2
        exact arg_own hx h2
      · obtain ⟨h1, _⟩ := chk_true hv
        refine .own _ _ fun loc hloc => ?_
        obtain ⟨_, _, _, h2⟩ := hsub0 _ _ hloc
        rcases h2 with h2 | ⟨_, h2⟩
        · rw [hR.nob _ (by simpa using h1)] at h2; cases h2
        · subst h2; exact pr_val (arg_pv hx)
      · exact hv.elim
    · rename_i l size i n
      split at hv
      · rename_i l' size' i' n'
        obtain ⟨h1, h3⟩ := chk_true hv
        obtain ⟨h4, h5, h6⟩ := chk_true h3
        have h4 := Nat.eq_of_beq_eq_true h4
        subst h4; subst h5; subst h6
        have h1 := Nat.eq_of_beq_eq_true h1
        have hne : getO ob (ren r l) ≠ none := by rw [h1]; exact hwt l' (by simp [refs])
        refine .part _ _ _ _ _ fun loc hloc => ?_
        have h2 := hsub _ _ hloc hne
        rw [h1] at h2
        exact arg_part hx h2
      · exact hv.elim
    · rename_i l
      split at hv
      · rename_i l'
        obtain ⟨h1, _⟩ := chk_true hv
        have h1 := Nat.eq_of_beq_eq_true h1
        have hne : getO ob (ren r l) ≠ none := by rw [h1]; exact hwt l' (by simp [refs])
        refine .ref _ _ fun loc hloc => ?_
        have h2 := hsub _ _ hloc hne
        rw [h1] at h2
        exact arg_ref hx h2
      · exact hv.elim
    · obtain ⟨h1, h2⟩ := hv
      rw [h1] at hx
      exact hx.mono (Same.refl _ w) hmof (fun _ _ _ => rfl) (fun l hl => by rw [h2] at hl; simp at hl)
  refine ⟨σ', hR.sz, hR.df, fun t => ?_, fun l o e => ?_, fun l e => ?_, fun t l hl => ?_, fun i o e l hl => ?_, ?_, fun b hb => hR.own b (hown b hb), hR.ext⟩
  · rcases getT_mem (l := tm') (t := t) with e | ⟨v, hm, e⟩
    · simp only [e]; exact .junk _
    · simp only [e]
      exact relV _ _ _ (entTs_mem hT t v hm) (hR.tm t) (hR.wt t)
  · have hm := getO_mem e
    have ho := entOs_mem hO l o hm
    by_cases hg : o = .gone
    · subst hg; show σ' l = none; simp only [σ', e]
    · have hσ : getO ob (ren r l) ≠ none → σ' l = σ (ren r l) := by
        intro hne
        cases hx : getO ob (ren r l) with
        | none => exact absurd hx hne
        | some x => simp only [σ', e, hx]
      have fin : ∀ (x : AObj), getO ob (ren r l) = some x → x ≠ .gone → (∀ loc, OR P w E.St (Mof E.M0 σ) σ x loc → OR P w E.St (Mof E.M0 σ') σ' o loc) → At P w E.St E.M0 σ' l o := by
        intro x hx hxg hor
        obtain ⟨loc, h1, h2⟩ := at_live (hR.ob _ x hx) hxg
        have h3 := hor loc h2
        rw [← hσ (by rw [hx]; simp)] at h1
        cases o <;> first | exact ⟨loc, h1, h3⟩ | exact absurd rfl hg
      unfold entO at ho
      split at ho
      · exact absurd rfl hg
      · rename_i cs
        split at ho
        · rename_i ds hx
          refine fin _ hx (by simp) fun loc hor => ?_
          cases hor with
          | pbox _ b vs t hb hl hh h1 =>
            refine .pbox _ b vs t hb (hl.trans ho.length) (fun i p e' => ?_) h1
            obtain ⟨q, hq, hs⟩ := ho.get i p e'
            exact hpv _ _ (hs.to _ _ _ (hh i q hq))
        · exact ho.elim
      · rename_i size n f
        split at ho
        · rename_i size' n' f' hx
          obtain ⟨h1, rfl, h2⟩ := chk_true ho
          have h1 := Nat.eq_of_beq_eq_true h1
          subst h1
          refine fin _ hx (by simp) fun loc hor => ?_
          cases hor with
          | row0 _ _ a => exact .row0 _ _ a
          | row _ _ _ b cap vs t hb hn hmax hsz hs hh h3 =>
            refine .row _ _ _ b cap vs t hb hn hmax hsz (fun i hi => (h2 i hi).length ▸ hs i hi) (fun i hi j p e' => ?_) h3
            obtain ⟨q, hq, hs'⟩ := (h2 i hi).get j p e'
            exact hpv _ _ (hs'.to _ _ _ (hh i hi j q hq))
        · rename_i hx
          subst ho
          exact ⟨⟨.slice none 0 0, none⟩, by simp only [σ', e, hx], .row0 _ _ none⟩
        · exact ho.elim
      · rename_i kk look
        split at ho
        · rename_i kk' look' hx
          obtain ⟨rfl, ho⟩ := ho
          refine fin _ hx (by simp) fun loc hor => ?_
          cases hor with
          | map _ _ rr es clock em ev hr hk hf hh hn => exact .map _ _ rr es clock em ev hr hk (fun k p h1 h2 => hf k p h1 ((ho k h1).trans h2)) (fun k p h1 h2 => hpv _ _ (hh k p h1 ((ho k h1).trans h2))) (fun k h1 h2 => hn k h1 ((ho k h1).trans h2))
        · exact ho.elim
      · rename_i s p
        split at ho
        · rename_i s' p' hx
          obtain ⟨rfl, rfl⟩ := ho
          refine fin _ hx (by simp) fun loc hor => ?_
          cases hor with
          | siter _ _ rr hr => exact .siter _ _ rr hr
        · exact ho.elim
      · rename_i kk look seen
        split at ho
        · rename_i kk' look' seen' hx
          obtain ⟨rfl, rfl, rfl⟩ := ho
          refine fin _ hx (by simp) fun loc hor => ?_
          cases hor with
          | miter _ _ _ rr m es clock sb hr hp hmm hM hs hl => exact .miter _ _ _ rr m es clock sb hr (hpv _ _ hp) hmm (fun h => hM (hmof m (lt_of_block hmm) h)) hs hl
        · exact ho.elim
      · rename_i cs
        split at ho
        · rename_i ds hx
          obtain ⟨h1, h2⟩ := entVs_get ho
          refine fin _ hx (by simp) fun loc hor => ?_
          cases hor with
          | pbox _ b vs t hb hl hh h3 =>
            refine .box _ b vs t hb (by rw [hl, ← h1]; simp) (fun i c e' => ?_) h3
            obtain ⟨d, hd, hv⟩ := h2 i c e'
            rw [List.getElem?_map] at hd
            cases hq : ds[i]? with
            | none => rw [hq] at hd; cases hd
            | some q => rw [hq] at hd; cases hd; exact relV _ _ _ hv (.pv _ _ (hh i q hq)) (fun l hl => by simp [refs] at hl)
        · rename_i ds hx
          obtain ⟨h1, h2⟩ := entVs_get ho
          refine fin _ hx (by simp) fun loc hor => ?_
          cases hor with
          | box _ b vs t hb hl hh h3 =>
            refine .box _ b vs t hb (by rw [hl, ← h1]) (fun i c e' => ?_) h3
            obtain ⟨d, hd, hv⟩ := h2 i c e'
            exact relV _ _ _ hv (hh i d hd) (fun l hl => hR.wo _ _ hx l (by simp only [refsO]; exact refs_sub hd l hl))
        · exact ho.elim
  · show σ' l = none
    simp only [σ', show getO ob' l = none from e]
  · rcases getT_mem (l := tm') (t := t) with e | ⟨v, hm, e⟩
    · simp only [e] at hl; simp [refs] at hl
    · simp only [e] at hl; exact wsT_mem hws t v hm l hl
  · exact wsO_mem hwo i o (getO_mem e) l hl
  · intro l l' loc loc' b e e' hb hb'
    obtain ⟨o, h1, _, h2⟩ := hsub0 l loc e
    obtain ⟨o', h1', _, h2'⟩ := hsub0 l' loc' e'
    rcases h2 with h2 | ⟨_, h2⟩
    case inr => subst h2; cases hb
    rcases h2' with h2' | ⟨_, h2'⟩
    case inr => subst h2'; cases hb'
    exact injO_mem hinj l o l' o' (getO_mem h1) (getO_mem h1') (hR.sep _ _ _ _ b h2 h2' hb hb')

def awp (P : Program) (T : Tab) (nt : Nat) : Code → AState → (AExit → AState → Prop) → Prop
  | .skip, s, Q => Q .normal s
  | .region _ ops false, s, Q => arun P T nt ops.toList ops.toList s (Q .normal)
  | .region _ ops true, s, Q => drawOk ops.toList = true ∧ arunD P T nt ops.toList ops.toList s [] (fun s log => logOk ops.toList log = true ∧ Q .normal s)
  | .seq x y, s, Q => awp P T nt x s (thenK (fun s => awp P T nt y s Q) Q)
  | .cond c x y, s, Q => match s with
    | ⟨tm, ob⟩ => match evO tm c with
      | .pv (.val (.bool b)) => (match b with | true => awp P T nt x ⟨tm, ob⟩ Q | false => awp P T nt y ⟨tm, ob⟩ Q)
      | .pv (.sb b) => (b = true → awp P T nt x ⟨tm, ob⟩ Q) ∧ (b = false → awp P T nt y ⟨tm, ob⟩ Q)
      | _ => False
  | .block id c, s, Q => awp P T nt c s (blockK id Q)
  | .loop c, s, Q => ∃ (ι : Type) (J : ι → Prop) (I : ι → AState) (m : ι → Nat) (i0 : ι) (r : List (Nat × Nat)), J i0 ∧ entS r s (I i0) ∧
      ∀ i, J i → awp P T nt c (I i) (thenK (fun s' => ∃ (j : ι) (r : List (Nat × Nat)), J j ∧ m j < m i ∧ entS r s' (I j)) Q)
  | .exit id, s, Q => Q (.exit id) s
  | .ret, s, Q => Q .ret s
  | _, _, _ => False

section
variable {P : Program} {T : Tab} {E : FEnv}

theorem exists_least (p : Nat → Prop) (h : ∃ n, p n) : ∃ n, p n ∧ ∀ k, p k → n ≤ k := by
  obtain ⟨n, hn⟩ := h
  induction n using Nat.strongRecOn with
  | _ n ih =>
    by_cases hk : ∃ k, k < n ∧ p k
    · obtain ⟨k, hlt, hp⟩ := hk
      exact ih k hlt hp
    · exact ⟨n, hn, fun k hp => Nat.le_of_not_lt fun hlt => hk ⟨k, hlt, hp⟩⟩

open Classical in
noncomputable def leastOf (p : Nat → Prop) : Nat := if h : ∃ n, p n then Classical.choose (exists_least p h) else 0
theorem leastOf_spec {p : Nat → Prop} (h : ∃ n, p n) : p (leastOf p) ∧ ∀ k, p k → leastOf p ≤ k := by
  unfold leastOf
  rw [dif_pos h]
  exact Classical.choose_spec (exists_least p h)

/-- A loop whose measure hangs on an index. -/
theorem wp_loop_ix {ι : Type} {c : Code} {Q : Exit → Act → World → Prop} {a : Act} {w : World} {I : ι → Act → World → Prop} (m : ι → Nat) {i0 : ι} (h0 : I i0 a w)
    (round : ∀ i a w, I i a w → c.wp P (Exit.then (fun a' w' => ∃ j, I j a' w' ∧ m j < m i) Q) a w) : (Code.loop c).wp P Q a w := by
  refine wp_loop (fun a w => ∃ i, I i a w) (fun a w => leastOf fun n => ∃ i, m i = n ∧ I i a w) ⟨i0, h0⟩ (fun a w ⟨i, hi⟩ => ?_)
  obtain ⟨⟨k, hk, hI⟩, hmin⟩ := leastOf_spec (p := fun n => ∃ i, m i = n ∧ I i a w) ⟨m i, i, rfl, hi⟩
  refine wp_mono (round k a w hI) (fun e a' w' he => ?_)
  cases e with
  | normal =>
    obtain ⟨j, hj, hlt⟩ := he
    refine ⟨⟨j, hj⟩, ?_⟩
    have := (leastOf_spec (p := fun n => ∃ i, m i = n ∧ I i a' w') ⟨m j, j, rfl, hj⟩).2 (m j) ⟨j, rfl, hj⟩
    omega
  | exit i => exact he
  | ret => exact he
  | goto l => exact he
  | panic c => exact he
  | outgrown => exact he

/-- The model's exits that go with the abstract ones. -/
def exitQ (P : Program) (E : FEnv) (Q : AExit → AState → Prop) : Exit → Act → World → Prop
  | .normal, a, w => ∃ s σ, Q .normal s ∧ Rel P E s σ a w
  | .exit i, a, w => ∃ s σ, Q (.exit i) s ∧ Rel P E s σ a w
  | .ret, a, w => ∃ s σ, Q .ret s ∧ Rel P E s σ a w
  | _, _, _ => False

theorem RelF.drew {tmf : Nat → AV} {obf : Nat → Option AObj} {σ : Sig} {a : Act} {w : World} (h : RelF P E tmf obf σ a w) (n : Nat) (hn : w.drawn ≤ n) : RelF P E tmf obf σ a { w with drawn := n } := by
  have hs : ∀ M : Nat → Prop, Same M w { w with drawn := n } := fun M => ⟨Nat.le_refl _, fun _ _ _ => rfl⟩
  refine ⟨h.sz, h.df, fun t => (h.tm t).mono (hs _) (fun _ _ h => h) (fun _ _ _ => rfl) (fun _ _ _ e => e), fun l o e => ?_, h.nob, h.wt, h.wo, h.sep, h.own, ⟨h.ext.os, h.ext.tape, h.ext.output, h.ext.size, h.ext.block, Nat.le_trans h.ext.drawn hn⟩⟩
  have h1 := h.ob l o e
  by_cases hg : o = .gone
  · subst hg; exact h1
  · obtain ⟨loc, h2, h3⟩ := at_live h1 hg
    have h4 : OR P { w with drawn := n } E.St (Mof E.M0 σ) σ o loc := h3.mono (hs _) (fun _ _ h => h) (fun _ _ _ => rfl) (fun _ _ _ e => e) (fun _ _ => rfl)
    cases o <;> first | exact ⟨loc, h2, h4⟩ | exact absurd rfl hg

theorem awp_sound (hE : E.ok) (hT : T.ok P) (hm : P.follows .mixedOrders = true) : ∀ (c : Code) (s : AState) (Q : AExit → AState → Prop) (σ : Sig) (a : Act) (w : World), Rel P E s σ a w → awp P T E.nt c s Q → c.wp P (exitQ P E Q) a w
  | .skip, s, Q, σ, a, w, hR, h => wp_skip ⟨s, σ, h, hR⟩
  | .region id ops dr, s, Q, σ, a, w, hR, h => by
    cases dr with
    | false =>
      refine wp_region ?_
      have := arun_sound hE hT (Q := exitQ P E Q) (fun s σ a w hs hR => ⟨s, σ, hs, hR⟩) ops.toList 0 s σ a w (fun j => by simp) hR h
      rw [List.range_eq_range']
      simpa using this
    | true =>
      obtain ⟨h1, h2⟩ := h
      exact wp_region_any hm (arunD_sound hE hT h1 (fun s σ a w hs hR => ⟨s, σ, hs, hR⟩) (RelF.drew hR _ (Nat.le_succ _)) h2)
  | .seq x y, s, Q, σ, a, w, hR, h => by
    refine wp_seq (wp_mono (awp_sound hE hT hm x s _ σ a w hR h) (fun e a' w' he => ?_))
    cases e with
    | normal => obtain ⟨s', σ', hq, hR'⟩ := he; exact awp_sound hE hT hm y s' Q σ' a' w' hR' hq
    | exit i => exact he
    | ret => exact he
    | goto l => exact he.elim
    | panic c => exact he.elim
    | outgrown => exact he.elim
  | .cond c x y, s, Q, σ, a, w, hR, h => by
    obtain ⟨tm, ob⟩ := s
    have hc := evO_rel hE hR c
    unfold awp at h
    simp only at h
    split at h
    · rename_i b hb
      rw [show evO tm c = .pv (.val (.bool b)) from hb] at hc
      have hv := pr_val (arg_pv hc)
      refine wp_cond hv ?_
      cases b with
      | true => exact awp_sound hE hT hm x _ Q σ a w hR h
      | false => exact awp_sound hE hT hm y _ Q σ a w hR h
    · rename_i b hb
      rw [show evO tm c = .pv (.sb b) from hb] at hc
      have hv := pr_sb (arg_pv hc)
      refine wp_cond hv ?_
      cases b with
      | true => exact awp_sound hE hT hm x _ Q σ a w hR (h.1 rfl)
      | false => exact awp_sound hE hT hm y _ Q σ a w hR (h.2 rfl)
    · exact h.elim
  | .block id c, s, Q, σ, a, w, hR, h => by
    refine wp_block (wp_mono (awp_sound hE hT hm c s _ σ a w hR h) (fun e a' w' he => ?_))
    cases e with
    | normal => exact he
    | exit i =>
      obtain ⟨s', σ', hq, hR'⟩ := he
      have hq : (match Nat.beq i id with | true => Q .normal s' | false => Q (.exit i) s') := hq
      simp only [Exit.inBlock]
      cases hb : Nat.beq i id with
      | true =>
        rw [hb] at hq
        rw [if_pos (Nat.eq_of_beq_eq_true hb)]
        exact ⟨s', σ', hq, hR'⟩
      | false =>
        rw [hb] at hq
        rw [if_neg (fun e => by rw [e] at hb; simp at hb)]
        exact ⟨s', σ', hq, hR'⟩
    | ret => exact he
    | goto l => exact he.elim
    | panic c => exact he.elim
    | outgrown => exact he.elim
  | .loop c, s, Q, σ, a, w, hR, h => by
    obtain ⟨ι, J, I, m, i0, r0, hJ, hent, hround⟩ := h
    obtain ⟨σ0, hR0⟩ := entS_sound hent E σ a w hE hR
    refine wp_loop_ix (I := fun i a w => J i ∧ ∃ σ, Rel P E (I i) σ a w) m (i0 := i0) ⟨hJ, σ0, hR0⟩ (fun i a w ⟨hj, σ, hr⟩ => ?_)
    refine wp_mono (awp_sound hE hT hm c (I i) _ σ a w hr (hround i hj)) (fun e a' w' he => ?_)
    cases e with
    | normal =>
      obtain ⟨s', σ', ⟨j, r', hj', hlt, hent'⟩, hR'⟩ := he
      obtain ⟨σ2, hR2⟩ := entS_sound hent' E σ' a' w' hE hR'
      exact ⟨j, ⟨hj', σ2, hR2⟩, hlt⟩
    | exit i => exact he
    | ret => exact he
    | goto l => exact he.elim
    | panic c => exact he.elim
    | outgrown => exact he.elim
  | .exit id, s, Q, σ, a, w, hR, h => wp_exit ⟨s, σ, h, hR⟩
  | .ret, s, Q, σ, a, w, hR, h => wp_ret ⟨s, σ, h, hR⟩
  | .rangeFunc .., s, Q, σ, a, w, hR, h => h.elim
  | .scope _, s, Q, σ, a, w, hR, h => h.elim
  | .label _, s, Q, σ, a, w, hR, h => h.elim
  | .goto _, s, Q, σ, a, w, hR, h => h.elim
  | .refuse _, s, Q, σ, a, w, hR, h => h.elim

end

end Go.Abs
