/- SceneRestores returns true, where what it reads is of bulk at most 1048576. -/
import Derived.Test.YthelcfpfbnhcjaaX05
import Derived.Test.YthelcfpfbnhcjaaX06

set_option linter.unusedVariables false
set_option linter.unusedSimpArgs false
set_option linter.unusedSectionVars false

namespace Go.Proofs.Ythelcfpfbnhcjaa
open Go.ChangeShapes Go.WideShapes Go.ChangeAt Go.RowKit Go.Abs
set_option maxRecDepth 100000

theorem readable_sceneRestores : ∀ t ∈ Try.f9.params.toList, Try.prog.readableRec t = true ∧ t < Try.prog.types.size := by
  rw [Try.params9]
  intro t ht
  have hmem : t = 25 ∨ t = 3 ∨ t = 28 ∨ t = 28 := by simpa using ht
  rcases hmem with rfl | rfl | rfl | rfl
  all_goals exact ⟨by kernel_rfl, of_decide_eq_true (by kernel_rfl)⟩

theorem contract_sceneRestores {H : Type} (enc : TypeId × Value → H) {W : World} {base : Nat} {args : Array Value} {ds gs : List (DataW H)} {before : List MemPlace}
    (hval : ∀ (j : Nat) t v, Try.f9.params[j]? = some t → args[j]? = some v → Value.okWide Try.prog W .any base t v)
    (hW : DataW.Whole enc Try.prog Try.f9.params.toList Rows.sceneRestoresSpec.vars false W args.toList ds gs before) (hk : Rows.uptoSmall H (ds ++ gs) = true) :
    Calls Try.prog 9 args W fun e W' => ∃ v, e = .returned v ∧ Rows.sceneRestoresSpec.post enc Try.prog Try.f9 false true false false W args v W' := by
  have hW' := hW
  obtain ⟨p, q, hA0, hV, rfl, hfz, hnd⟩ := hW
  have hA : DataW.TrodAll enc Try.prog W 0 (fun _ => true) true Try.f9.params.toList args.toList ds p := hA0
  rw [Try.params9] at hA hval
  obtain ⟨v0, vs0, d0, ds0, p0, q0, hargs0, rfl, rfl, h0, r0⟩ := trodAll_cons hA
  obtain ⟨v1, vs1, d1, ds1, p1, q1, hargs1, rfl, rfl, h1, r1⟩ := trodAll_cons r0
  obtain ⟨v2, vs2, d2, ds2, p2, q2, hargs2, rfl, rfl, h2, r2⟩ := trodAll_cons r1
  obtain ⟨v3, vs3, d3, ds3, p3, q3, hargs3, rfl, rfl, h3, r3⟩ := trodAll_cons r2
  obtain ⟨rfl, rfl, rfl⟩ := trodAll_nil r3
  obtain rfl : args = #[v0, v1, v2, v3] := by cases args; simp_all
  obtain ⟨rfl, rfl⟩ := trodVars_none hV
  have hb := bulk_le hk
  simp only [List.cons_append, List.nil_append, Rows.uptoBulkAll] at hb
  obtain ⟨x0, g0, e0⟩ := (op_Home bulkOk).arg_struct Try.underlying25 (hval 0 25 v0 rfl rfl) h0 (by show _ ≤ 1048576; omega)
  obtain ⟨x1, g1, e1⟩ := Opens.arg_cell (bulk := Rows.uptoBulk) (cs := fun x => vint x) (op_int) (cells_int Try.underlying3 (hval 1 3 v1 rfl rfl)) h1 (by show _ ≤ 1048576; omega)
  obtain ⟨x2, g2, e2⟩ := (op_Scene bulkOk).arg_struct Try.underlying28 (hval 2 28 v2 rfl rfl) h2 (by show _ ≤ 1048576; omega)
  obtain ⟨x3, g3, e3⟩ := (op_Scene bulkOk).arg_struct Try.underlying28 (hval 3 28 v3 rfl rfl) h3 (by show _ ≤ 1048576; omega)
  refine law_calls (xs := [.agg (cHom x0), vint x1, .agg (cSce x2), .agg (cSce x3)]) (tb := 4) (ac_law36_SceneRestores x0 x1 x2 x3 g0 g2.1 g3.1) rfl (fun i p e => ?_) readable_sceneRestores (by kernel_rfl) Try.underlying4 rfl rfl hW' glob
  match i with
  | 0 => cases e; exact e0
  | 1 => cases e; exact e1
  | 2 => cases e; exact e2
  | 3 => cases e; exact e3
  | i + 4 => simp at e
end Go.Proofs.Ythelcfpfbnhcjaa

namespace Go.Proofs.Ythelcfpfbnhcjaa.sceneRestoresUpto
open Go.ChangeShapes Go.WideShapes Go.ChangeAt Go.RowKit Go.Abs

set_option maxRecDepth 100000 in
theorem lifted (os : Os) (started : os.Started) (H : Type) (enc : TypeId × Value → H) (F : Stop.Interp) :
    ReturnsInHanded {} Try.checked os 9 .any ((Rows.OpenSpec.upto Rows.sceneRestoresSpec).pre6 enc Try.prog Try.f9 Rows.sceneRestoresUptoRow.domain false) (((Rows.OpenSpec.upto Rows.sceneRestoresSpec).at F).post enc Try.prog Try.f9 false true false false) := by
  refine returnsInHanded_of_cond (C := Try.checked) (s := Rows.OpenSpec.upto Rows.sceneRestoresSpec) (k := Rows.uptoSmall) rfl own started (by kernel_rfl) Try.func9
    (OpenSpec.witness (enc := enc) (C := Try.checked) (s := Rows.OpenSpec.upto Rows.sceneRestoresSpec) (k := Rows.uptoSmall) rfl false ⟨#[], #[.agg #[.slice none 0 0, .slice none 0 0], .int .i64 0, .agg #[.string ⟨#[]⟩, .slice none 0 0], .agg #[.string ⟨#[]⟩, .slice none 0 0]], []⟩ 8 (by kernel_rfl) (by kernel_rfl) (by kernel_rfl)
      (x := ([.agg [.nil, .nil], .lit (.int .i64 0), .agg [.lit (.string []), .nil], .agg [.lit (.string []), .nil]], [], [])) (by kernel_rfl) rfl (by kernel_rfl)) ?_
  intro W base args ds gs before hval hW _ hk _
  exact contract_sceneRestores enc hval hW hk

theorem said : Rows.SceneRestoresUptoSaid :=
  OpenClaim.holds_of_cond 9 Try.f9 rfl rfl rfl rfl rfl rfl rfl ⟨rfl, rfl, rfl, rfl, rfl⟩ rfl rfl rfl rfl rfl (by kernel_rfl) Try.func9 (by kernel_rfl)
    (of_decide_eq_true (by kernel_rfl)) (by unfold Func.isWrapper; first | (rw [if_pos (by decide +kernel)]; kernel_rfl) | (rw [if_neg (by decide +kernel)]; exact ⟨rfl, rfl⟩))
    (fun os started H enc _ F => lifted os started H enc F)
end Go.Proofs.Ythelcfpfbnhcjaa.sceneRestoresUpto
