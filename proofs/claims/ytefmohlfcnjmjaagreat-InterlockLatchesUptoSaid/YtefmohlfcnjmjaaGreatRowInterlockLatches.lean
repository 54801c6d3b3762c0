/- YtefmohlfcnjmjaaGreatRowInterlockLatches: walks and contracts. -/
import Derived.Test.YtefmohlfcnjmjaaGreatY00

set_option linter.unusedVariables false
set_option linter.unusedSimpArgs false
set_option linter.unusedSectionVars false

namespace Go.Proofs.YtefmohlfcnjmjaaGreat
open Go.ChangeShapes Go.WideShapes Go.ChangeAt Go.RowKit Go.Abs
set_option maxRecDepth 100000

theorem readable_interlockLatches : ∀ t ∈ Tryz.f6.params.toList, Tryz.prog.readableRec t = true ∧ t < Tryz.prog.types.size := by
  rw [Tryz.params6]
  intro t ht
  have hmem : t = 29 ∨ t = 50 ∨ t = 50 ∨ t = 3 := by simpa using ht
  rcases hmem with rfl | rfl | rfl | rfl
  all_goals exact ⟨by kernel_rfl, of_decide_eq_true (by kernel_rfl)⟩

theorem contract_interlockLatches {H : Type} (enc : TypeId × Value → H) {W : World} {base : Nat} {args : Array Value} {ds gs : List (DataW H)} {before : List MemPlace}
    (hval : ∀ (j : Nat) t v, Tryz.f6.params[j]? = some t → args[j]? = some v → Value.okWide Tryz.prog W .any base t v)
    (hW : DataW.Whole enc Tryz.prog Tryz.f6.params.toList Rows.interlockLatchesSpec.vars false W args.toList ds gs before) (hk : Rows.uptoSmall H (ds ++ gs) = true) :
    Calls Tryz.prog 6 args W fun e W' => ∃ v, e = .returned v ∧ Rows.interlockLatchesSpec.post enc Tryz.prog Tryz.f6 false true false false W args v W' := by
  have hW' := hW
  obtain ⟨p, q, hA0, hV, rfl, hfz, hnd⟩ := hW
  have hA : DataW.TrodAll enc Tryz.prog W 0 (fun _ => true) true Tryz.f6.params.toList args.toList ds p := hA0
  rw [Tryz.params6] at hA hval
  obtain ⟨v0, vs0, d0, ds0, p0, q0, hargs0, rfl, rfl, h0, r0⟩ := trodAll_cons hA
  obtain ⟨v1, vs1, d1, ds1, p1, q1, hargs1, rfl, rfl, h1, r1⟩ := trodAll_cons r0
  obtain ⟨v2, vs2, d2, ds2, p2, q2, hargs2, rfl, rfl, h2, r2⟩ := trodAll_cons r1
  obtain ⟨v3, vs3, d3, ds3, p3, q3, hargs3, rfl, rfl, h3, r3⟩ := trodAll_cons r2
  obtain ⟨rfl, rfl, rfl⟩ := trodAll_nil r3
  obtain rfl : args = #[v0, v1, v2, v3] := by cases args; simp_all
  obtain ⟨rfl, rfl⟩ := trodVars_none hV
  have hb := bulk_le hk
  simp only [List.cons_append, List.nil_append, Rows.uptoBulkAll] at hb
  obtain ⟨x0, g0, e0⟩ := Opens.arg_cell (bulk := Rows.uptoBulk) (cs := fun x => roL 16 cLck x) (op_l_Lock bulkOk bulkSum) (cells_slice Tryz.underlying29 (hval 0 29 v0 rfl rfl)) h0 (by show _ ≤ 1048576; omega)
  obtain ⟨x1, g1, e1⟩ := (op_View bulkOk).arg_struct Tryz.underlying50 (hval 1 50 v1 rfl rfl) h1 (by show _ ≤ 1048576; omega)
  obtain ⟨x2, g2, e2⟩ := (op_View bulkOk).arg_struct Tryz.underlying50 (hval 2 50 v2 rfl rfl) h2 (by show _ ≤ 1048576; omega)
  obtain ⟨x3, g3, e3⟩ := Opens.arg_cell (bulk := Rows.uptoBulk) (cs := fun x => vint x) (op_int) (cells_int Tryz.underlying3 (hval 3 3 v3 rfl rfl)) h3 (by show _ ≤ 1048576; omega)
  refine law_calls (xs := [roL 16 cLck x0, .agg (cVw x1), .agg (cVw x2), vint x3]) (tb := 4) (ac_law45_InterlockLatches x0 x1 x2 x3 g0 g1 g2 g3) rfl (fun i p e => ?_) readable_interlockLatches (by kernel_rfl) Tryz.underlying4 rfl rfl hW' glob
  match i with
  | 0 => cases e; exact e0
  | 1 => cases e; exact e1
  | 2 => cases e; exact e2
  | 3 => cases e; exact e3
  | i + 4 => simp at e
end Go.Proofs.YtefmohlfcnjmjaaGreat

namespace Go.Proofs.YtefmohlfcnjmjaaGreat.interlockLatchesUpto
open Go.ChangeShapes Go.WideShapes Go.ChangeAt Go.RowKit Go.Abs

set_option maxRecDepth 100000 in
theorem lifted (os : Os) (started : os.Started) (H : Type) (enc : TypeId × Value → H) (F : Stop.Interp) :
    ReturnsInHanded {} Tryz.checked os 6 .any ((Rows.OpenSpec.upto Rows.interlockLatchesSpec).pre6 enc Tryz.prog Tryz.f6 Rows.interlockLatchesUptoRow.domain false) (((Rows.OpenSpec.upto Rows.interlockLatchesSpec).at F).post enc Tryz.prog Tryz.f6 false true false false) := by
  refine returnsInHanded_of_cond (C := Tryz.checked) (s := Rows.OpenSpec.upto Rows.interlockLatchesSpec) (k := Rows.uptoSmall) rfl own started (by kernel_rfl) Tryz.func6
    (OpenSpec.witness (enc := enc) (C := Tryz.checked) (s := Rows.OpenSpec.upto Rows.interlockLatchesSpec) (k := Rows.uptoSmall) rfl false ⟨#[], #[.slice none 0 0, .agg #[.slice none 0 0, .string ⟨#[]⟩, .int .i64 0, .slice none 0 0], .agg #[.slice none 0 0, .string ⟨#[]⟩, .int .i64 0, .slice none 0 0], .int .i64 0], []⟩ 8 (by kernel_rfl) (by kernel_rfl) (by kernel_rfl)
      (x := ([.nil, .agg [.nil, .lit (.string []), .lit (.int .i64 0), .nil], .agg [.nil, .lit (.string []), .lit (.int .i64 0), .nil], .lit (.int .i64 0)], [], [])) (by kernel_rfl) rfl (by kernel_rfl)) ?_
  intro W base args ds gs before hval hW _ hk _
  exact contract_interlockLatches enc hval hW hk

theorem said : Rows.InterlockLatchesUptoSaid :=
  OpenClaim.holds_of_cond 6 Tryz.f6 rfl rfl rfl rfl rfl rfl rfl ⟨rfl, rfl, rfl, rfl, rfl⟩ rfl rfl rfl rfl rfl (by kernel_rfl) Tryz.func6 (by kernel_rfl)
    (of_decide_eq_true (by kernel_rfl)) (by unfold Func.isWrapper; first | (rw [if_pos (by decide +kernel)]; kernel_rfl) | (rw [if_neg (by decide +kernel)]; exact ⟨rfl, rfl⟩))
    (fun os started H enc _ F => lifted os started H enc F)
end Go.Proofs.YtefmohlfcnjmjaaGreat.interlockLatchesUpto
