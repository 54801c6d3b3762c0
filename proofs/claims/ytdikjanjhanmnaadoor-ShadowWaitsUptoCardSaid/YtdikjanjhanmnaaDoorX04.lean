/- YtdikjanjhanmnaaDoorX04: walks and contracts. -/
import Derived.Test.YtdikjanjhanmnaaDoorX03
import Derived.Test.YtdikjanjhanmnaaDoorProg
import Derived.KernelRfl
import Derived.Laws.RangeString

set_option linter.unusedVariables false
set_option linter.unusedSimpArgs false
set_option linter.unusedSectionVars false

namespace Go.Abs
open Go.Proofs
def glob0 : List ByteArray := [⟨#[111, 110, 111, 102, 102]⟩, ⟨#[108, 101, 118, 101, 108]⟩, ⟨#[108, 111, 99, 107]⟩, ⟨#[116, 104, 101, 114, 109, 111, 115, 116, 97, 116]⟩, ⟨#[115, 109, 111, 107, 101]⟩, ⟨#[108, 101, 97, 107]⟩, ⟨#[118, 97, 108, 118, 101]⟩, ⟨#[109, 101, 116, 101, 114]⟩]
instance : Globals := ⟨fun g => match Nat.beq g 0 with | true => some (glob0.map fun s => .val (.string s)) | false => none⟩
theorem eqt31 (e : Nat) : EqAt Tryd.prog (e + 2) 31 [.int .i64, .str, .str] := EqAt.struct Tryd.underlying31 (by kernel_rfl) (.one 0 _ _ (.int .i64) _ (by decide) rfl Tryd.underlying3 (.one 1 _ _ (.str) _ (by decide) rfl Tryd.underlying9 (.one 2 _ _ (.str) _ (by decide) rfl Tryd.underlying9 (.nil _))))
theorem eqt32 (e : Nat) : EqAt Tryd.prog (e + 2) 32 [.int .i64, .str, .str] := EqAt.struct Tryd.underlying32 (by kernel_rfl) (.one 0 _ _ (.int .i64) _ (by decide) rfl Tryd.underlying3 (.one 1 _ _ (.str) _ (by decide) rfl Tryd.underlying9 (.one 2 _ _ (.str) _ (by decide) rfl Tryd.underlying9 (.nil _))))
theorem eqt43 (e : Nat) : EqAt Tryd.prog (e + 2) 43 [.int .i64, .int .i64, .str] := EqAt.struct Tryd.underlying43 (by kernel_rfl) (.one 0 _ _ (.int .i64) _ (by decide) rfl Tryd.underlying3 (.one 1 _ _ (.int .i64) _ (by decide) rfl Tryd.underlying3 (.one 2 _ _ (.str) _ (by decide) rfl Tryd.underlying9 (.nil _))))
theorem eqt44 (e : Nat) : EqAt Tryd.prog (e + 2) 44 [.int .i64, .int .i64, .str] := EqAt.struct Tryd.underlying44 (by kernel_rfl) (.one 0 _ _ (.int .i64) _ (by decide) rfl Tryd.underlying3 (.one 1 _ _ (.int .i64) _ (by decide) rfl Tryd.underlying3 (.one 2 _ _ (.str) _ (by decide) rfl Tryd.underlying9 (.nil _))))
theorem eqt50 (e : Nat) : EqAt Tryd.prog (e + 3) 50 [.int .i64, .str, .str, .int .i64, .int .i64, .str, .int .i64] := EqAt.struct Tryd.underlying50 (by kernel_rfl) (.many 0 _ _ [.int .i64, .str, .str] _ (by decide) rfl Tryd.t32 _ Tryd.underlying32 (by kernel_rfl) rfl (eqt32 e) (.many 3 _ _ [.int .i64, .int .i64, .str] _ (by decide) rfl Tryd.t44 _ Tryd.underlying44 (by kernel_rfl) rfl (eqt44 e) (.one 6 _ _ (.int .i64) _ (by decide) rfl Tryd.underlying3 (.nil _))))
theorem eqt51 (e : Nat) : EqAt Tryd.prog (e + 3) 51 [.int .i64, .str, .str, .int .i64, .int .i64, .str, .int .i64] := EqAt.struct Tryd.underlying51 (by kernel_rfl) (.many 0 _ _ [.int .i64, .str, .str] _ (by decide) rfl Tryd.t32 _ Tryd.underlying32 (by kernel_rfl) rfl (eqt32 e) (.many 3 _ _ [.int .i64, .int .i64, .str] _ (by decide) rfl Tryd.t44 _ Tryd.underlying44 (by kernel_rfl) rfl (eqt44 e) (.one 6 _ _ (.int .i64) _ (by decide) rfl Tryd.underlying3 (.nil _))))
theorem eqt93 (e : Nat) : EqAt Tryd.prog (e + 2) 93 [.int .i64, .str, .int .i64] := EqAt.struct Tryd.underlying93 (by kernel_rfl) (.one 0 _ _ (.int .i64) _ (by decide) rfl Tryd.underlying3 (.one 1 _ _ (.str) _ (by decide) rfl Tryd.underlying9 (.one 2 _ _ (.int .i64) _ (by decide) rfl Tryd.underlying3 (.nil _))))
theorem eqt94 (e : Nat) : EqAt Tryd.prog (e + 2) 94 [.int .i64, .str, .int .i64] := EqAt.struct Tryd.underlying94 (by kernel_rfl) (.one 0 _ _ (.int .i64) _ (by decide) rfl Tryd.underlying3 (.one 1 _ _ (.str) _ (by decide) rfl Tryd.underlying9 (.one 2 _ _ (.int .i64) _ (by decide) rfl Tryd.underlying3 (.nil _))))
def TYok (t : Nat) (ty : TY) : Prop := Tryd.prog.info? t = some ty.info ∧ Tryd.prog.underlying t = some ty.und ∧ (ty.leaves = [] ∨ EqOK Tryd.prog t ty.leaves)
noncomputable abbrev ty0 : TY := ⟨Tryd.t0, Tryd.t0.desc, []⟩
theorem ok0 : TYok 0 ty0 := ⟨by kernel_rfl, by kernel_rfl, .inl rfl⟩
noncomputable abbrev ty1 : TY := ⟨Tryd.t1, Tryd.t1.desc, []⟩
theorem ok1 : TYok 1 ty1 := ⟨by kernel_rfl, by kernel_rfl, .inl rfl⟩
noncomputable abbrev ty2 : TY := ⟨Tryd.t2, Tryd.t2.desc, []⟩
theorem ok2 : TYok 2 ty2 := ⟨by kernel_rfl, by kernel_rfl, .inl rfl⟩
noncomputable abbrev ty3 : TY := ⟨Tryd.t3, Tryd.t3.desc, []⟩
theorem ok3 : TYok 3 ty3 := ⟨by kernel_rfl, by kernel_rfl, .inl rfl⟩
noncomputable abbrev ty4 : TY := ⟨Tryd.t4, Tryd.t4.desc, []⟩
theorem ok4 : TYok 4 ty4 := ⟨by kernel_rfl, by kernel_rfl, .inl rfl⟩
noncomputable abbrev ty5 : TY := ⟨Tryd.t5, Tryd.t5.desc, []⟩
theorem ok5 : TYok 5 ty5 := ⟨by kernel_rfl, by kernel_rfl, .inl rfl⟩
noncomputable abbrev ty6 : TY := ⟨Tryd.t6, Tryd.t5.desc, []⟩
theorem ok6 : TYok 6 ty6 := ⟨by kernel_rfl, by kernel_rfl, .inl rfl⟩
noncomputable abbrev ty7 : TY := ⟨Tryd.t7, Tryd.t7.desc, []⟩
theorem ok7 : TYok 7 ty7 := ⟨by kernel_rfl, by kernel_rfl, .inl rfl⟩
noncomputable abbrev ty8 : TY := ⟨Tryd.t8, Tryd.t7.desc, []⟩
theorem ok8 : TYok 8 ty8 := ⟨by kernel_rfl, by kernel_rfl, .inl rfl⟩
noncomputable abbrev ty9 : TY := ⟨Tryd.t9, Tryd.t9.desc, []⟩
theorem ok9 : TYok 9 ty9 := ⟨by kernel_rfl, by kernel_rfl, .inl rfl⟩
noncomputable abbrev ty10 : TY := ⟨Tryd.t10, Tryd.t9.desc, []⟩
theorem ok10 : TYok 10 ty10 := ⟨by kernel_rfl, by kernel_rfl, .inl rfl⟩
noncomputable abbrev ty11 : TY := ⟨Tryd.t11, Tryd.t9.desc, []⟩
theorem ok11 : TYok 11 ty11 := ⟨by kernel_rfl, by kernel_rfl, .inl rfl⟩
noncomputable abbrev ty12 : TY := ⟨Tryd.t12, Tryd.t12.desc, []⟩
theorem ok12 : TYok 12 ty12 := ⟨by kernel_rfl, by kernel_rfl, .inl rfl⟩
noncomputable abbrev ty13 : TY := ⟨Tryd.t13, Tryd.t13.desc, []⟩
theorem ok13 : TYok 13 ty13 := ⟨by kernel_rfl, by kernel_rfl, .inl rfl⟩
noncomputable abbrev ty14 : TY := ⟨Tryd.t14, Tryd.t13.desc, []⟩
theorem ok14 : TYok 14 ty14 := ⟨by kernel_rfl, by kernel_rfl, .inl rfl⟩
noncomputable abbrev ty15 : TY := ⟨Tryd.t15, Tryd.t15.desc, []⟩
theorem ok15 : TYok 15 ty15 := ⟨by kernel_rfl, by kernel_rfl, .inl rfl⟩
noncomputable abbrev ty16 : TY := ⟨Tryd.t16, Tryd.t16.desc, []⟩
theorem ok16 : TYok 16 ty16 := ⟨by kernel_rfl, by kernel_rfl, .inl rfl⟩
noncomputable abbrev ty17 : TY := ⟨Tryd.t17, Tryd.t17.desc, []⟩
theorem ok17 : TYok 17 ty17 := ⟨by kernel_rfl, by kernel_rfl, .inl rfl⟩
noncomputable abbrev ty18 : TY := ⟨Tryd.t18, Tryd.t18.desc, []⟩
theorem ok18 : TYok 18 ty18 := ⟨by kernel_rfl, by kernel_rfl, .inl rfl⟩
noncomputable abbrev ty19 : TY := ⟨Tryd.t19, Tryd.t18.desc, []⟩
theorem ok19 : TYok 19 ty19 := ⟨by kernel_rfl, by kernel_rfl, .inl rfl⟩
noncomputable abbrev ty20 : TY := ⟨Tryd.t20, Tryd.t20.desc, []⟩
theorem ok20 : TYok 20 ty20 := ⟨by kernel_rfl, by kernel_rfl, .inl rfl⟩
noncomputable abbrev ty21 : TY := ⟨Tryd.t21, Tryd.t21.desc, []⟩
theorem ok21 : TYok 21 ty21 := ⟨by kernel_rfl, by kernel_rfl, .inl rfl⟩
noncomputable abbrev ty22 : TY := ⟨Tryd.t22, Tryd.t22.desc, []⟩
theorem ok22 : TYok 22 ty22 := ⟨by kernel_rfl, by kernel_rfl, .inl rfl⟩
noncomputable abbrev ty23 : TY := ⟨Tryd.t23, Tryd.t23.desc, []⟩
theorem ok23 : TYok 23 ty23 := ⟨by kernel_rfl, by kernel_rfl, .inl rfl⟩
noncomputable abbrev ty24 : TY := ⟨Tryd.t24, Tryd.t24.desc, []⟩
theorem ok24 : TYok 24 ty24 := ⟨by kernel_rfl, by kernel_rfl, .inl rfl⟩
noncomputable abbrev ty25 : TY := ⟨Tryd.t25, Tryd.t24.desc, []⟩
theorem ok25 : TYok 25 ty25 := ⟨by kernel_rfl, by kernel_rfl, .inl rfl⟩
noncomputable abbrev ty26 : TY := ⟨Tryd.t26, Tryd.t26.desc, []⟩
theorem ok26 : TYok 26 ty26 := ⟨by kernel_rfl, by kernel_rfl, .inl rfl⟩
noncomputable abbrev ty27 : TY := ⟨Tryd.t27, Tryd.t27.desc, []⟩
theorem ok27 : TYok 27 ty27 := ⟨by kernel_rfl, by kernel_rfl, .inl rfl⟩
noncomputable abbrev ty28 : TY := ⟨Tryd.t28, Tryd.t27.desc, []⟩
theorem ok28 : TYok 28 ty28 := ⟨by kernel_rfl, by kernel_rfl, .inl rfl⟩
noncomputable abbrev ty29 : TY := ⟨Tryd.t29, Tryd.t29.desc, []⟩
theorem ok29 : TYok 29 ty29 := ⟨by kernel_rfl, by kernel_rfl, .inl rfl⟩
noncomputable abbrev ty30 : TY := ⟨Tryd.t30, Tryd.t29.desc, []⟩
theorem ok30 : TYok 30 ty30 := ⟨by kernel_rfl, by kernel_rfl, .inl rfl⟩
noncomputable abbrev ty31 : TY := ⟨Tryd.t31, Tryd.t31.desc, [.int .i64, .str, .str]⟩
theorem ok31 : TYok 31 ty31 := ⟨by kernel_rfl, by kernel_rfl, .inr ⟨by kernel_rfl, eqt31 9998⟩⟩
noncomputable abbrev ty32 : TY := ⟨Tryd.t32, Tryd.t31.desc, [.int .i64, .str, .str]⟩
theorem ok32 : TYok 32 ty32 := ⟨by kernel_rfl, by kernel_rfl, .inr ⟨by kernel_rfl, eqt32 9998⟩⟩
noncomputable abbrev ty33 : TY := ⟨Tryd.t33, Tryd.t33.desc, []⟩
theorem ok33 : TYok 33 ty33 := ⟨by kernel_rfl, by kernel_rfl, .inl rfl⟩
noncomputable abbrev ty34 : TY := ⟨Tryd.t34, Tryd.t34.desc, []⟩
theorem ok34 : TYok 34 ty34 := ⟨by kernel_rfl, by kernel_rfl, .inl rfl⟩
noncomputable abbrev ty35 : TY := ⟨Tryd.t35, Tryd.t35.desc, []⟩
theorem ok35 : TYok 35 ty35 := ⟨by kernel_rfl, by kernel_rfl, .inl rfl⟩
noncomputable abbrev ty36 : TY := ⟨Tryd.t36, Tryd.t36.desc, []⟩
theorem ok36 : TYok 36 ty36 := ⟨by kernel_rfl, by kernel_rfl, .inl rfl⟩
noncomputable abbrev ty37 : TY := ⟨Tryd.t37, Tryd.t37.desc, []⟩
theorem ok37 : TYok 37 ty37 := ⟨by kernel_rfl, by kernel_rfl, .inl rfl⟩
noncomputable abbrev ty38 : TY := ⟨Tryd.t38, Tryd.t38.desc, []⟩
theorem ok38 : TYok 38 ty38 := ⟨by kernel_rfl, by kernel_rfl, .inl rfl⟩
noncomputable abbrev ty39 : TY := ⟨Tryd.t39, Tryd.t39.desc, []⟩
theorem ok39 : TYok 39 ty39 := ⟨by kernel_rfl, by kernel_rfl, .inl rfl⟩
noncomputable abbrev ty40 : TY := ⟨Tryd.t40, Tryd.t40.desc, []⟩
theorem ok40 : TYok 40 ty40 := ⟨by kernel_rfl, by kernel_rfl, .inl rfl⟩
noncomputable abbrev ty41 : TY := ⟨Tryd.t41, Tryd.t41.desc, []⟩
theorem ok41 : TYok 41 ty41 := ⟨by kernel_rfl, by kernel_rfl, .inl rfl⟩
noncomputable abbrev ty42 : TY := ⟨Tryd.t42, Tryd.t42.desc, []⟩
theorem ok42 : TYok 42 ty42 := ⟨by kernel_rfl, by kernel_rfl, .inl rfl⟩
noncomputable abbrev ty43 : TY := ⟨Tryd.t43, Tryd.t43.desc, [.int .i64, .int .i64, .str]⟩
theorem ok43 : TYok 43 ty43 := ⟨by kernel_rfl, by kernel_rfl, .inr ⟨by kernel_rfl, eqt43 9998⟩⟩
noncomputable abbrev ty44 : TY := ⟨Tryd.t44, Tryd.t43.desc, [.int .i64, .int .i64, .str]⟩
theorem ok44 : TYok 44 ty44 := ⟨by kernel_rfl, by kernel_rfl, .inr ⟨by kernel_rfl, eqt44 9998⟩⟩
noncomputable abbrev ty45 : TY := ⟨Tryd.t45, Tryd.t45.desc, []⟩
theorem ok45 : TYok 45 ty45 := ⟨by kernel_rfl, by kernel_rfl, .inl rfl⟩
noncomputable abbrev ty46 : TY := ⟨Tryd.t46, Tryd.t45.desc, []⟩
theorem ok46 : TYok 46 ty46 := ⟨by kernel_rfl, by kernel_rfl, .inl rfl⟩
noncomputable abbrev ty47 : TY := ⟨Tryd.t47, Tryd.t3.desc, []⟩
theorem ok47 : TYok 47 ty47 := ⟨by kernel_rfl, by kernel_rfl, .inl rfl⟩
noncomputable abbrev ty48 : TY := ⟨Tryd.t48, Tryd.t48.desc, []⟩
theorem ok48 : TYok 48 ty48 := ⟨by kernel_rfl, by kernel_rfl, .inl rfl⟩
noncomputable abbrev ty49 : TY := ⟨Tryd.t49, Tryd.t49.desc, []⟩
theorem ok49 : TYok 49 ty49 := ⟨by kernel_rfl, by kernel_rfl, .inl rfl⟩
noncomputable abbrev ty50 : TY := ⟨Tryd.t50, Tryd.t50.desc, [.int .i64, .str, .str, .int .i64, .int .i64, .str, .int .i64]⟩
theorem ok50 : TYok 50 ty50 := ⟨by kernel_rfl, by kernel_rfl, .inr ⟨by kernel_rfl, eqt50 9997⟩⟩
noncomputable abbrev ty51 : TY := ⟨Tryd.t51, Tryd.t50.desc, [.int .i64, .str, .str, .int .i64, .int .i64, .str, .int .i64]⟩
theorem ok51 : TYok 51 ty51 := ⟨by kernel_rfl, by kernel_rfl, .inr ⟨by kernel_rfl, eqt51 9997⟩⟩
noncomputable abbrev ty52 : TY := ⟨Tryd.t52, Tryd.t52.desc, []⟩
theorem ok52 : TYok 52 ty52 := ⟨by kernel_rfl, by kernel_rfl, .inl rfl⟩
noncomputable abbrev ty53 : TY := ⟨Tryd.t53, Tryd.t53.desc, []⟩
theorem ok53 : TYok 53 ty53 := ⟨by kernel_rfl, by kernel_rfl, .inl rfl⟩
noncomputable abbrev ty54 : TY := ⟨Tryd.t54, Tryd.t54.desc, []⟩
theorem ok54 : TYok 54 ty54 := ⟨by kernel_rfl, by kernel_rfl, .inl rfl⟩
noncomputable abbrev ty55 : TY := ⟨Tryd.t55, Tryd.t55.desc, []⟩
theorem ok55 : TYok 55 ty55 := ⟨by kernel_rfl, by kernel_rfl, .inl rfl⟩
noncomputable abbrev ty56 : TY := ⟨Tryd.t56, Tryd.t56.desc, []⟩
theorem ok56 : TYok 56 ty56 := ⟨by kernel_rfl, by kernel_rfl, .inl rfl⟩
noncomputable abbrev ty57 : TY := ⟨Tryd.t57, Tryd.t57.desc, []⟩
theorem ok57 : TYok 57 ty57 := ⟨by kernel_rfl, by kernel_rfl, .inl rfl⟩
noncomputable abbrev ty58 : TY := ⟨Tryd.t58, Tryd.t58.desc, []⟩
theorem ok58 : TYok 58 ty58 := ⟨by kernel_rfl, by kernel_rfl, .inl rfl⟩
noncomputable abbrev ty59 : TY := ⟨Tryd.t59, Tryd.t59.desc, []⟩
theorem ok59 : TYok 59 ty59 := ⟨by kernel_rfl, by kernel_rfl, .inl rfl⟩
noncomputable abbrev ty60 : TY := ⟨Tryd.t60, Tryd.t60.desc, []⟩
theorem ok60 : TYok 60 ty60 := ⟨by kernel_rfl, by kernel_rfl, .inl rfl⟩
noncomputable abbrev ty61 : TY := ⟨Tryd.t61, Tryd.t61.desc, []⟩
theorem ok61 : TYok 61 ty61 := ⟨by kernel_rfl, by kernel_rfl, .inl rfl⟩
noncomputable abbrev ty62 : TY := ⟨Tryd.t62, Tryd.t61.desc, []⟩
theorem ok62 : TYok 62 ty62 := ⟨by kernel_rfl, by kernel_rfl, .inl rfl⟩
noncomputable abbrev ty63 : TY := ⟨Tryd.t63, Tryd.t63.desc, []⟩
theorem ok63 : TYok 63 ty63 := ⟨by kernel_rfl, by kernel_rfl, .inl rfl⟩
noncomputable abbrev ty64 : TY := ⟨Tryd.t64, Tryd.t64.desc, []⟩
theorem ok64 : TYok 64 ty64 := ⟨by kernel_rfl, by kernel_rfl, .inl rfl⟩
noncomputable abbrev ty65 : TY := ⟨Tryd.t65, Tryd.t65.desc, []⟩
theorem ok65 : TYok 65 ty65 := ⟨by kernel_rfl, by kernel_rfl, .inl rfl⟩
noncomputable abbrev ty66 : TY := ⟨Tryd.t66, Tryd.t66.desc, []⟩
theorem ok66 : TYok 66 ty66 := ⟨by kernel_rfl, by kernel_rfl, .inl rfl⟩
noncomputable abbrev ty67 : TY := ⟨Tryd.t67, Tryd.t67.desc, []⟩
theorem ok67 : TYok 67 ty67 := ⟨by kernel_rfl, by kernel_rfl, .inl rfl⟩
noncomputable abbrev ty68 : TY := ⟨Tryd.t68, Tryd.t68.desc, []⟩
theorem ok68 : TYok 68 ty68 := ⟨by kernel_rfl, by kernel_rfl, .inl rfl⟩
noncomputable abbrev ty69 : TY := ⟨Tryd.t69, Tryd.t69.desc, []⟩
theorem ok69 : TYok 69 ty69 := ⟨by kernel_rfl, by kernel_rfl, .inl rfl⟩
noncomputable abbrev ty70 : TY := ⟨Tryd.t70, Tryd.t70.desc, []⟩
theorem ok70 : TYok 70 ty70 := ⟨by kernel_rfl, by kernel_rfl, .inl rfl⟩
noncomputable abbrev ty71 : TY := ⟨Tryd.t71, Tryd.t71.desc, []⟩
theorem ok71 : TYok 71 ty71 := ⟨by kernel_rfl, by kernel_rfl, .inl rfl⟩
noncomputable abbrev ty72 : TY := ⟨Tryd.t72, Tryd.t71.desc, []⟩
theorem ok72 : TYok 72 ty72 := ⟨by kernel_rfl, by kernel_rfl, .inl rfl⟩
noncomputable abbrev ty73 : TY := ⟨Tryd.t73, Tryd.t73.desc, []⟩
theorem ok73 : TYok 73 ty73 := ⟨by kernel_rfl, by kernel_rfl, .inl rfl⟩
noncomputable abbrev ty74 : TY := ⟨Tryd.t74, Tryd.t74.desc, []⟩
theorem ok74 : TYok 74 ty74 := ⟨by kernel_rfl, by kernel_rfl, .inl rfl⟩
noncomputable abbrev ty75 : TY := ⟨Tryd.t75, Tryd.t75.desc, []⟩
theorem ok75 : TYok 75 ty75 := ⟨by kernel_rfl, by kernel_rfl, .inl rfl⟩
noncomputable abbrev ty76 : TY := ⟨Tryd.t76, Tryd.t76.desc, []⟩
theorem ok76 : TYok 76 ty76 := ⟨by kernel_rfl, by kernel_rfl, .inl rfl⟩
noncomputable abbrev ty77 : TY := ⟨Tryd.t77, Tryd.t77.desc, []⟩
theorem ok77 : TYok 77 ty77 := ⟨by kernel_rfl, by kernel_rfl, .inl rfl⟩
noncomputable abbrev ty78 : TY := ⟨Tryd.t78, Tryd.t78.desc, []⟩
theorem ok78 : TYok 78 ty78 := ⟨by kernel_rfl, by kernel_rfl, .inl rfl⟩
noncomputable abbrev ty79 : TY := ⟨Tryd.t79, Tryd.t79.desc, []⟩
theorem ok79 : TYok 79 ty79 := ⟨by kernel_rfl, by kernel_rfl, .inl rfl⟩
noncomputable abbrev ty80 : TY := ⟨Tryd.t80, Tryd.t80.desc, []⟩
theorem ok80 : TYok 80 ty80 := ⟨by kernel_rfl, by kernel_rfl, .inl rfl⟩
noncomputable abbrev ty81 : TY := ⟨Tryd.t81, Tryd.t81.desc, []⟩
theorem ok81 : TYok 81 ty81 := ⟨by kernel_rfl, by kernel_rfl, .inl rfl⟩
noncomputable abbrev ty82 : TY := ⟨Tryd.t82, Tryd.t82.desc, []⟩
theorem ok82 : TYok 82 ty82 := ⟨by kernel_rfl, by kernel_rfl, .inl rfl⟩
noncomputable abbrev ty83 : TY := ⟨Tryd.t83, Tryd.t83.desc, []⟩
theorem ok83 : TYok 83 ty83 := ⟨by kernel_rfl, by kernel_rfl, .inl rfl⟩
noncomputable abbrev ty84 : TY := ⟨Tryd.t84, Tryd.t84.desc, []⟩
theorem ok84 : TYok 84 ty84 := ⟨by kernel_rfl, by kernel_rfl, .inl rfl⟩
noncomputable abbrev ty85 : TY := ⟨Tryd.t85, Tryd.t85.desc, []⟩
theorem ok85 : TYok 85 ty85 := ⟨by kernel_rfl, by kernel_rfl, .inl rfl⟩
noncomputable abbrev ty86 : TY := ⟨Tryd.t86, Tryd.t86.desc, []⟩
theorem ok86 : TYok 86 ty86 := ⟨by kernel_rfl, by kernel_rfl, .inl rfl⟩
noncomputable abbrev ty87 : TY := ⟨Tryd.t87, Tryd.t86.desc, []⟩
theorem ok87 : TYok 87 ty87 := ⟨by kernel_rfl, by kernel_rfl, .inl rfl⟩
noncomputable abbrev ty88 : TY := ⟨Tryd.t88, Tryd.t88.desc, []⟩
theorem ok88 : TYok 88 ty88 := ⟨by kernel_rfl, by kernel_rfl, .inl rfl⟩
noncomputable abbrev ty89 : TY := ⟨Tryd.t89, Tryd.t89.desc, []⟩
theorem ok89 : TYok 89 ty89 := ⟨by kernel_rfl, by kernel_rfl, .inl rfl⟩
noncomputable abbrev ty90 : TY := ⟨Tryd.t90, Tryd.t90.desc, []⟩
theorem ok90 : TYok 90 ty90 := ⟨by kernel_rfl, by kernel_rfl, .inl rfl⟩
noncomputable abbrev ty91 : TY := ⟨Tryd.t91, Tryd.t90.desc, []⟩
theorem ok91 : TYok 91 ty91 := ⟨by kernel_rfl, by kernel_rfl, .inl rfl⟩
noncomputable abbrev ty92 : TY := ⟨Tryd.t92, Tryd.t92.desc, []⟩
theorem ok92 : TYok 92 ty92 := ⟨by kernel_rfl, by kernel_rfl, .inl rfl⟩
noncomputable abbrev ty93 : TY := ⟨Tryd.t93, Tryd.t93.desc, [.int .i64, .str, .int .i64]⟩
theorem ok93 : TYok 93 ty93 := ⟨by kernel_rfl, by kernel_rfl, .inr ⟨by kernel_rfl, eqt93 9998⟩⟩
noncomputable abbrev ty94 : TY := ⟨Tryd.t94, Tryd.t93.desc, [.int .i64, .str, .int .i64]⟩
theorem ok94 : TYok 94 ty94 := ⟨by kernel_rfl, by kernel_rfl, .inr ⟨by kernel_rfl, eqt94 9998⟩⟩
noncomputable abbrev ty95 : TY := ⟨Tryd.t95, Tryd.t95.desc, []⟩
theorem ok95 : TYok 95 ty95 := ⟨by kernel_rfl, by kernel_rfl, .inl rfl⟩
noncomputable abbrev ty96 : TY := ⟨Tryd.t96, Tryd.t96.desc, []⟩
theorem ok96 : TYok 96 ty96 := ⟨by kernel_rfl, by kernel_rfl, .inl rfl⟩
noncomputable abbrev ty97 : TY := ⟨Tryd.t97, Tryd.t97.desc, []⟩
theorem ok97 : TYok 97 ty97 := ⟨by kernel_rfl, by kernel_rfl, .inl rfl⟩
noncomputable abbrev ty98 : TY := ⟨Tryd.t98, Tryd.t98.desc, []⟩
theorem ok98 : TYok 98 ty98 := ⟨by kernel_rfl, by kernel_rfl, .inl rfl⟩
noncomputable abbrev ty99 : TY := ⟨Tryd.t99, Tryd.t99.desc, []⟩
theorem ok99 : TYok 99 ty99 := ⟨by kernel_rfl, by kernel_rfl, .inl rfl⟩
noncomputable abbrev ty100 : TY := ⟨Tryd.t100, Tryd.t100.desc, []⟩
theorem ok100 : TYok 100 ty100 := ⟨by kernel_rfl, by kernel_rfl, .inl rfl⟩
noncomputable abbrev ty101 : TY := ⟨Tryd.t101, Tryd.t101.desc, []⟩
theorem ok101 : TYok 101 ty101 := ⟨by kernel_rfl, by kernel_rfl, .inl rfl⟩
noncomputable abbrev ty102 : TY := ⟨Tryd.t102, Tryd.t102.desc, []⟩
theorem ok102 : TYok 102 ty102 := ⟨by kernel_rfl, by kernel_rfl, .inl rfl⟩
noncomputable abbrev ty103 : TY := ⟨Tryd.t103, Tryd.t103.desc, []⟩
theorem ok103 : TYok 103 ty103 := ⟨by kernel_rfl, by kernel_rfl, .inl rfl⟩
noncomputable abbrev ty104 : TY := ⟨Tryd.t104, Tryd.t104.desc, []⟩
theorem ok104 : TYok 104 ty104 := ⟨by kernel_rfl, by kernel_rfl, .inl rfl⟩
noncomputable abbrev ty105 : TY := ⟨Tryd.t105, Tryd.t105.desc, []⟩
theorem ok105 : TYok 105 ty105 := ⟨by kernel_rfl, by kernel_rfl, .inl rfl⟩
noncomputable abbrev ty106 : TY := ⟨Tryd.t106, Tryd.t106.desc, []⟩
theorem ok106 : TYok 106 ty106 := ⟨by kernel_rfl, by kernel_rfl, .inl rfl⟩
noncomputable abbrev ty107 : TY := ⟨Tryd.t107, Tryd.t107.desc, []⟩
theorem ok107 : TYok 107 ty107 := ⟨by kernel_rfl, by kernel_rfl, .inl rfl⟩
noncomputable abbrev ty108 : TY := ⟨Tryd.t108, Tryd.t108.desc, []⟩
theorem ok108 : TYok 108 ty108 := ⟨by kernel_rfl, by kernel_rfl, .inl rfl⟩
noncomputable abbrev ty109 : TY := ⟨Tryd.t109, Tryd.t109.desc, []⟩
theorem ok109 : TYok 109 ty109 := ⟨by kernel_rfl, by kernel_rfl, .inl rfl⟩
noncomputable abbrev ty110 : TY := ⟨Tryd.t110, Tryd.t110.desc, []⟩
theorem ok110 : TYok 110 ty110 := ⟨by kernel_rfl, by kernel_rfl, .inl rfl⟩
noncomputable abbrev ty111 : TY := ⟨Tryd.t111, Tryd.t111.desc, []⟩
theorem ok111 : TYok 111 ty111 := ⟨by kernel_rfl, by kernel_rfl, .inl rfl⟩
noncomputable abbrev ty112 : TY := ⟨Tryd.t112, Tryd.t112.desc, []⟩
theorem ok112 : TYok 112 ty112 := ⟨by kernel_rfl, by kernel_rfl, .inl rfl⟩
noncomputable abbrev ty113 : TY := ⟨Tryd.t113, Tryd.t113.desc, []⟩
theorem ok113 : TYok 113 ty113 := ⟨by kernel_rfl, by kernel_rfl, .inl rfl⟩
noncomputable abbrev ty114 : TY := ⟨Tryd.t114, Tryd.t114.desc, []⟩
theorem ok114 : TYok 114 ty114 := ⟨by kernel_rfl, by kernel_rfl, .inl rfl⟩
noncomputable abbrev ty115 : TY := ⟨Tryd.t115, Tryd.t115.desc, []⟩
theorem ok115 : TYok 115 ty115 := ⟨by kernel_rfl, by kernel_rfl, .inl rfl⟩
noncomputable abbrev ty116 : TY := ⟨Tryd.t116, Tryd.t116.desc, []⟩
theorem ok116 : TYok 116 ty116 := ⟨by kernel_rfl, by kernel_rfl, .inl rfl⟩
noncomputable abbrev ty117 : TY := ⟨Tryd.t117, Tryd.t117.desc, []⟩
theorem ok117 : TYok 117 ty117 := ⟨by kernel_rfl, by kernel_rfl, .inl rfl⟩
noncomputable abbrev ty118 : TY := ⟨Tryd.t118, Tryd.t118.desc, []⟩
theorem ok118 : TYok 118 ty118 := ⟨by kernel_rfl, by kernel_rfl, .inl rfl⟩
noncomputable abbrev ty119 : TY := ⟨Tryd.t119, Tryd.t119.desc, []⟩
theorem ok119 : TYok 119 ty119 := ⟨by kernel_rfl, by kernel_rfl, .inl rfl⟩
noncomputable abbrev ty120 : TY := ⟨Tryd.t120, Tryd.t120.desc, []⟩
theorem ok120 : TYok 120 ty120 := ⟨by kernel_rfl, by kernel_rfl, .inl rfl⟩
noncomputable abbrev ty121 : TY := ⟨Tryd.t121, Tryd.t121.desc, []⟩
theorem ok121 : TYok 121 ty121 := ⟨by kernel_rfl, by kernel_rfl, .inl rfl⟩
noncomputable abbrev ty122 : TY := ⟨Tryd.t122, Tryd.t122.desc, []⟩
theorem ok122 : TYok 122 ty122 := ⟨by kernel_rfl, by kernel_rfl, .inl rfl⟩
noncomputable abbrev ty123 : TY := ⟨Tryd.t123, Tryd.t123.desc, []⟩
theorem ok123 : TYok 123 ty123 := ⟨by kernel_rfl, by kernel_rfl, .inl rfl⟩
noncomputable abbrev ty124 : TY := ⟨Tryd.t124, Tryd.t124.desc, []⟩
theorem ok124 : TYok 124 ty124 := ⟨by kernel_rfl, by kernel_rfl, .inl rfl⟩
noncomputable abbrev ty125 : TY := ⟨Tryd.t125, Tryd.t125.desc, []⟩
theorem ok125 : TYok 125 ty125 := ⟨by kernel_rfl, by kernel_rfl, .inl rfl⟩
noncomputable abbrev ty126 : TY := ⟨Tryd.t126, Tryd.t126.desc, []⟩
theorem ok126 : TYok 126 ty126 := ⟨by kernel_rfl, by kernel_rfl, .inl rfl⟩
noncomputable abbrev ty127 : TY := ⟨Tryd.t127, Tryd.t127.desc, []⟩
theorem ok127 : TYok 127 ty127 := ⟨by kernel_rfl, by kernel_rfl, .inl rfl⟩
noncomputable abbrev ty128 : TY := ⟨Tryd.t128, Tryd.t128.desc, []⟩
theorem ok128 : TYok 128 ty128 := ⟨by kernel_rfl, by kernel_rfl, .inl rfl⟩
noncomputable abbrev ty129 : TY := ⟨Tryd.t129, Tryd.t129.desc, []⟩
theorem ok129 : TYok 129 ty129 := ⟨by kernel_rfl, by kernel_rfl, .inl rfl⟩
noncomputable abbrev ty130 : TY := ⟨Tryd.t130, Tryd.t130.desc, []⟩
theorem ok130 : TYok 130 ty130 := ⟨by kernel_rfl, by kernel_rfl, .inl rfl⟩
noncomputable abbrev ty131 : TY := ⟨Tryd.t131, Tryd.t131.desc, []⟩
theorem ok131 : TYok 131 ty131 := ⟨by kernel_rfl, by kernel_rfl, .inl rfl⟩
noncomputable abbrev ty132 : TY := ⟨Tryd.t132, Tryd.t132.desc, []⟩
theorem ok132 : TYok 132 ty132 := ⟨by kernel_rfl, by kernel_rfl, .inl rfl⟩
noncomputable abbrev ty133 : TY := ⟨Tryd.t133, Tryd.t133.desc, []⟩
theorem ok133 : TYok 133 ty133 := ⟨by kernel_rfl, by kernel_rfl, .inl rfl⟩
noncomputable abbrev ty134 : TY := ⟨Tryd.t134, Tryd.t3.desc, []⟩
theorem ok134 : TYok 134 ty134 := ⟨by kernel_rfl, by kernel_rfl, .inl rfl⟩
noncomputable abbrev ty135 : TY := ⟨Tryd.t135, Tryd.t135.desc, []⟩
theorem ok135 : TYok 135 ty135 := ⟨by kernel_rfl, by kernel_rfl, .inl rfl⟩
noncomputable abbrev ty136 : TY := ⟨Tryd.t136, Tryd.t136.desc, []⟩
theorem ok136 : TYok 136 ty136 := ⟨by kernel_rfl, by kernel_rfl, .inl rfl⟩
noncomputable abbrev ty137 : TY := ⟨Tryd.t137, Tryd.t137.desc, []⟩
theorem ok137 : TYok 137 ty137 := ⟨by kernel_rfl, by kernel_rfl, .inl rfl⟩
noncomputable abbrev ty138 : TY := ⟨Tryd.t138, Tryd.t138.desc, []⟩
theorem ok138 : TYok 138 ty138 := ⟨by kernel_rfl, by kernel_rfl, .inl rfl⟩
noncomputable abbrev ty139 : TY := ⟨Tryd.t139, Tryd.t139.desc, []⟩
theorem ok139 : TYok 139 ty139 := ⟨by kernel_rfl, by kernel_rfl, .inl rfl⟩
noncomputable abbrev ty140 : TY := ⟨Tryd.t140, Tryd.t140.desc, []⟩
theorem ok140 : TYok 140 ty140 := ⟨by kernel_rfl, by kernel_rfl, .inl rfl⟩
noncomputable abbrev ty141 : TY := ⟨Tryd.t141, Tryd.t141.desc, []⟩
theorem ok141 : TYok 141 ty141 := ⟨by kernel_rfl, by kernel_rfl, .inl rfl⟩
noncomputable abbrev ty142 : TY := ⟨Tryd.t142, Tryd.t142.desc, []⟩
theorem ok142 : TYok 142 ty142 := ⟨by kernel_rfl, by kernel_rfl, .inl rfl⟩
noncomputable abbrev ty143 : TY := ⟨Tryd.t143, Tryd.t143.desc, []⟩
theorem ok143 : TYok 143 ty143 := ⟨by kernel_rfl, by kernel_rfl, .inl rfl⟩
noncomputable abbrev ty144 : TY := ⟨Tryd.t144, Tryd.t144.desc, []⟩
theorem ok144 : TYok 144 ty144 := ⟨by kernel_rfl, by kernel_rfl, .inl rfl⟩
noncomputable abbrev ty145 : TY := ⟨Tryd.t145, Tryd.t145.desc, []⟩
theorem ok145 : TYok 145 ty145 := ⟨by kernel_rfl, by kernel_rfl, .inl rfl⟩
noncomputable abbrev ty146 : TY := ⟨Tryd.t146, Tryd.t146.desc, []⟩
theorem ok146 : TYok 146 ty146 := ⟨by kernel_rfl, by kernel_rfl, .inl rfl⟩
noncomputable abbrev ty147 : TY := ⟨Tryd.t147, Tryd.t60.desc, []⟩
theorem ok147 : TYok 147 ty147 := ⟨by kernel_rfl, by kernel_rfl, .inl rfl⟩
noncomputable abbrev ty148 : TY := ⟨Tryd.t148, Tryd.t148.desc, []⟩
theorem ok148 : TYok 148 ty148 := ⟨by kernel_rfl, by kernel_rfl, .inl rfl⟩
noncomputable abbrev ty149 : TY := ⟨Tryd.t149, Tryd.t149.desc, []⟩
theorem ok149 : TYok 149 ty149 := ⟨by kernel_rfl, by kernel_rfl, .inl rfl⟩
noncomputable abbrev ty150 : TY := ⟨Tryd.t150, Tryd.t150.desc, []⟩
theorem ok150 : TYok 150 ty150 := ⟨by kernel_rfl, by kernel_rfl, .inl rfl⟩
noncomputable abbrev ty151 : TY := ⟨Tryd.t151, Tryd.t151.desc, []⟩
theorem ok151 : TYok 151 ty151 := ⟨by kernel_rfl, by kernel_rfl, .inl rfl⟩
noncomputable abbrev ty152 : TY := ⟨Tryd.t152, Tryd.t152.desc, []⟩
theorem ok152 : TYok 152 ty152 := ⟨by kernel_rfl, by kernel_rfl, .inl rfl⟩
noncomputable abbrev ty153 : TY := ⟨Tryd.t153, Tryd.t153.desc, []⟩
theorem ok153 : TYok 153 ty153 := ⟨by kernel_rfl, by kernel_rfl, .inl rfl⟩
noncomputable abbrev ty154 : TY := ⟨Tryd.t154, Tryd.t154.desc, []⟩
theorem ok154 : TYok 154 ty154 := ⟨by kernel_rfl, by kernel_rfl, .inl rfl⟩
noncomputable abbrev ty155 : TY := ⟨Tryd.t155, Tryd.t155.desc, []⟩
theorem ok155 : TYok 155 ty155 := ⟨by kernel_rfl, by kernel_rfl, .inl rfl⟩
noncomputable abbrev ty156 : TY := ⟨Tryd.t156, Tryd.t156.desc, []⟩
theorem ok156 : TYok 156 ty156 := ⟨by kernel_rfl, by kernel_rfl, .inl rfl⟩
noncomputable abbrev ty157 : TY := ⟨Tryd.t157, Tryd.t157.desc, []⟩
theorem ok157 : TYok 157 ty157 := ⟨by kernel_rfl, by kernel_rfl, .inl rfl⟩
noncomputable abbrev ty158 : TY := ⟨Tryd.t158, Tryd.t158.desc, []⟩
theorem ok158 : TYok 158 ty158 := ⟨by kernel_rfl, by kernel_rfl, .inl rfl⟩
noncomputable abbrev ty159 : TY := ⟨Tryd.t159, Tryd.t159.desc, []⟩
theorem ok159 : TYok 159 ty159 := ⟨by kernel_rfl, by kernel_rfl, .inl rfl⟩
noncomputable abbrev ty160 : TY := ⟨Tryd.t160, Tryd.t160.desc, []⟩
theorem ok160 : TYok 160 ty160 := ⟨by kernel_rfl, by kernel_rfl, .inl rfl⟩
noncomputable abbrev ty161 : TY := ⟨Tryd.t161, Tryd.t161.desc, []⟩
theorem ok161 : TYok 161 ty161 := ⟨by kernel_rfl, by kernel_rfl, .inl rfl⟩
noncomputable abbrev ty162 : TY := ⟨Tryd.t162, Tryd.t162.desc, []⟩
theorem ok162 : TYok 162 ty162 := ⟨by kernel_rfl, by kernel_rfl, .inl rfl⟩
noncomputable abbrev ty163 : TY := ⟨Tryd.t163, Tryd.t163.desc, []⟩
theorem ok163 : TYok 163 ty163 := ⟨by kernel_rfl, by kernel_rfl, .inl rfl⟩
noncomputable abbrev ty164 : TY := ⟨Tryd.t164, Tryd.t164.desc, []⟩
theorem ok164 : TYok 164 ty164 := ⟨by kernel_rfl, by kernel_rfl, .inl rfl⟩
noncomputable abbrev ty165 : TY := ⟨Tryd.t165, Tryd.t165.desc, []⟩
theorem ok165 : TYok 165 ty165 := ⟨by kernel_rfl, by kernel_rfl, .inl rfl⟩
noncomputable abbrev ty166 : TY := ⟨Tryd.t166, Tryd.t166.desc, []⟩
theorem ok166 : TYok 166 ty166 := ⟨by kernel_rfl, by kernel_rfl, .inl rfl⟩
noncomputable abbrev ty167 : TY := ⟨Tryd.t167, Tryd.t166.desc, []⟩
theorem ok167 : TYok 167 ty167 := ⟨by kernel_rfl, by kernel_rfl, .inl rfl⟩
noncomputable abbrev ty168 : TY := ⟨Tryd.t168, Tryd.t168.desc, []⟩
theorem ok168 : TYok 168 ty168 := ⟨by kernel_rfl, by kernel_rfl, .inl rfl⟩
noncomputable abbrev ty169 : TY := ⟨Tryd.t169, Tryd.t169.desc, []⟩
theorem ok169 : TYok 169 ty169 := ⟨by kernel_rfl, by kernel_rfl, .inl rfl⟩
noncomputable abbrev ty170 : TY := ⟨Tryd.t170, Tryd.t169.desc, []⟩
theorem ok170 : TYok 170 ty170 := ⟨by kernel_rfl, by kernel_rfl, .inl rfl⟩
noncomputable abbrev ty171 : TY := ⟨Tryd.t171, Tryd.t171.desc, []⟩
theorem ok171 : TYok 171 ty171 := ⟨by kernel_rfl, by kernel_rfl, .inl rfl⟩
noncomputable abbrev ty172 : TY := ⟨Tryd.t172, Tryd.t5.desc, []⟩
theorem ok172 : TYok 172 ty172 := ⟨by kernel_rfl, by kernel_rfl, .inl rfl⟩
noncomputable abbrev ty173 : TY := ⟨Tryd.t173, Tryd.t5.desc, []⟩
theorem ok173 : TYok 173 ty173 := ⟨by kernel_rfl, by kernel_rfl, .inl rfl⟩
noncomputable abbrev ty174 : TY := ⟨Tryd.t174, Tryd.t174.desc, []⟩
theorem ok174 : TYok 174 ty174 := ⟨by kernel_rfl, by kernel_rfl, .inl rfl⟩
noncomputable abbrev ty175 : TY := ⟨Tryd.t175, Tryd.t175.desc, []⟩
theorem ok175 : TYok 175 ty175 := ⟨by kernel_rfl, by kernel_rfl, .inl rfl⟩
noncomputable abbrev ty176 : TY := ⟨Tryd.t176, Tryd.t21.desc, []⟩
theorem ok176 : TYok 176 ty176 := ⟨by kernel_rfl, by kernel_rfl, .inl rfl⟩
noncomputable abbrev ty177 : TY := ⟨Tryd.t177, Tryd.t21.desc, []⟩
theorem ok177 : TYok 177 ty177 := ⟨by kernel_rfl, by kernel_rfl, .inl rfl⟩
noncomputable abbrev ty178 : TY := ⟨Tryd.t178, Tryd.t178.desc, []⟩
theorem ok178 : TYok 178 ty178 := ⟨by kernel_rfl, by kernel_rfl, .inl rfl⟩
noncomputable abbrev ty179 : TY := ⟨Tryd.t179, Tryd.t178.desc, []⟩
theorem ok179 : TYok 179 ty179 := ⟨by kernel_rfl, by kernel_rfl, .inl rfl⟩
noncomputable abbrev ty180 : TY := ⟨Tryd.t180, Tryd.t180.desc, []⟩
theorem ok180 : TYok 180 ty180 := ⟨by kernel_rfl, by kernel_rfl, .inl rfl⟩
noncomputable def tab : TT := (.node (.node (.node (.node (.node (.node (.node (.node .leaf none (.node .leaf (some ty128) .leaf)) none (.node .leaf (some ty64) .leaf)) none (.node (.node .leaf none (.node .leaf (some ty160) .leaf)) (some ty32) (.node .leaf (some ty96) .leaf))) none (.node (.node (.node .leaf none (.node .leaf (some ty144) .leaf)) none (.node .leaf (some ty80) .leaf)) (some ty16) (.node (.node .leaf none (.node .leaf (some ty176) .leaf)) (some ty48) (.node .leaf (some ty112) .leaf)))) none (.node (.node (.node (.node .leaf none (.node .leaf (some ty136) .leaf)) none (.node .leaf (some ty72) .leaf)) none (.node (.node .leaf none (.node .leaf (some ty168) .leaf)) (some ty40) (.node .leaf (some ty104) .leaf))) (some ty8) (.node (.node (.node .leaf none (.node .leaf (some ty152) .leaf)) none (.node .leaf (some ty88) .leaf)) (some ty24) (.node .leaf (some ty56) (.node .leaf (some ty120) .leaf))))) none (.node (.node (.node (.node (.node .leaf none (.node .leaf (some ty132) .leaf)) none (.node .leaf (some ty68) .leaf)) none (.node (.node .leaf none (.node .leaf (some ty164) .leaf)) (some ty36) (.node .leaf (some ty100) .leaf))) none (.node (.node (.node .leaf none (.node .leaf (some ty148) .leaf)) none (.node .leaf (some ty84) .leaf)) (some ty20) (.node (.node .leaf none (.node .leaf (some ty180) .leaf)) (some ty52) (.node .leaf (some ty116) .leaf)))) (some ty4) (.node (.node (.node (.node .leaf none (.node .leaf (some ty140) .leaf)) none (.node .leaf (some ty76) .leaf)) none (.node (.node .leaf none (.node .leaf (some ty172) .leaf)) (some ty44) (.node .leaf (some ty108) .leaf))) (some ty12) (.node (.node (.node .leaf none (.node .leaf (some ty156) .leaf)) none (.node .leaf (some ty92) .leaf)) (some ty28) (.node .leaf (some ty60) (.node .leaf (some ty124) .leaf)))))) none (.node (.node (.node (.node (.node (.node .leaf none (.node .leaf (some ty130) .leaf)) none (.node .leaf (some ty66) .leaf)) none (.node (.node .leaf none (.node .leaf (some ty162) .leaf)) (some ty34) (.node .leaf (some ty98) .leaf))) none (.node (.node (.node .leaf none (.node .leaf (some ty146) .leaf)) none (.node .leaf (some ty82) .leaf)) (some ty18) (.node (.node .leaf none (.node .leaf (some ty178) .leaf)) (some ty50) (.node .leaf (some ty114) .leaf)))) none (.node (.node (.node (.node .leaf none (.node .leaf (some ty138) .leaf)) none (.node .leaf (some ty74) .leaf)) none (.node (.node .leaf none (.node .leaf (some ty170) .leaf)) (some ty42) (.node .leaf (some ty106) .leaf))) (some ty10) (.node (.node (.node .leaf none (.node .leaf (some ty154) .leaf)) none (.node .leaf (some ty90) .leaf)) (some ty26) (.node .leaf (some ty58) (.node .leaf (some ty122) .leaf))))) (some ty2) (.node (.node (.node (.node (.node .leaf none (.node .leaf (some ty134) .leaf)) none (.node .leaf (some ty70) .leaf)) none (.node (.node .leaf none (.node .leaf (some ty166) .leaf)) (some ty38) (.node .leaf (some ty102) .leaf))) none (.node (.node (.node .leaf none (.node .leaf (some ty150) .leaf)) none (.node .leaf (some ty86) .leaf)) (some ty22) (.node .leaf (some ty54) (.node .leaf (some ty118) .leaf)))) (some ty6) (.node (.node (.node (.node .leaf none (.node .leaf (some ty142) .leaf)) none (.node .leaf (some ty78) .leaf)) none (.node (.node .leaf none (.node .leaf (some ty174) .leaf)) (some ty46) (.node .leaf (some ty110) .leaf))) (some ty14) (.node (.node (.node .leaf none (.node .leaf (some ty158) .leaf)) none (.node .leaf (some ty94) .leaf)) (some ty30) (.node .leaf (some ty62) (.node .leaf (some ty126) .leaf))))))) (some ty0) (.node (.node (.node (.node (.node (.node (.node .leaf none (.node .leaf (some ty129) .leaf)) none (.node .leaf (some ty65) .leaf)) none (.node (.node .leaf none (.node .leaf (some ty161) .leaf)) (some ty33) (.node .leaf (some ty97) .leaf))) none (.node (.node (.node .leaf none (.node .leaf (some ty145) .leaf)) none (.node .leaf (some ty81) .leaf)) (some ty17) (.node (.node .leaf none (.node .leaf (some ty177) .leaf)) (some ty49) (.node .leaf (some ty113) .leaf)))) none (.node (.node (.node (.node .leaf none (.node .leaf (some ty137) .leaf)) none (.node .leaf (some ty73) .leaf)) none (.node (.node .leaf none (.node .leaf (some ty169) .leaf)) (some ty41) (.node .leaf (some ty105) .leaf))) (some ty9) (.node (.node (.node .leaf none (.node .leaf (some ty153) .leaf)) none (.node .leaf (some ty89) .leaf)) (some ty25) (.node .leaf (some ty57) (.node .leaf (some ty121) .leaf))))) none (.node (.node (.node (.node (.node .leaf none (.node .leaf (some ty133) .leaf)) none (.node .leaf (some ty69) .leaf)) none (.node (.node .leaf none (.node .leaf (some ty165) .leaf)) (some ty37) (.node .leaf (some ty101) .leaf))) none (.node (.node (.node .leaf none (.node .leaf (some ty149) .leaf)) none (.node .leaf (some ty85) .leaf)) (some ty21) (.node .leaf (some ty53) (.node .leaf (some ty117) .leaf)))) (some ty5) (.node (.node (.node (.node .leaf none (.node .leaf (some ty141) .leaf)) none (.node .leaf (some ty77) .leaf)) none (.node (.node .leaf none (.node .leaf (some ty173) .leaf)) (some ty45) (.node .leaf (some ty109) .leaf))) (some ty13) (.node (.node (.node .leaf none (.node .leaf (some ty157) .leaf)) none (.node .leaf (some ty93) .leaf)) (some ty29) (.node .leaf (some ty61) (.node .leaf (some ty125) .leaf)))))) (some ty1) (.node (.node (.node (.node (.node (.node .leaf none (.node .leaf (some ty131) .leaf)) none (.node .leaf (some ty67) .leaf)) none (.node (.node .leaf none (.node .leaf (some ty163) .leaf)) (some ty35) (.node .leaf (some ty99) .leaf))) none (.node (.node (.node .leaf none (.node .leaf (some ty147) .leaf)) none (.node .leaf (some ty83) .leaf)) (some ty19) (.node (.node .leaf none (.node .leaf (some ty179) .leaf)) (some ty51) (.node .leaf (some ty115) .leaf)))) none (.node (.node (.node (.node .leaf none (.node .leaf (some ty139) .leaf)) none (.node .leaf (some ty75) .leaf)) none (.node (.node .leaf none (.node .leaf (some ty171) .leaf)) (some ty43) (.node .leaf (some ty107) .leaf))) (some ty11) (.node (.node (.node .leaf none (.node .leaf (some ty155) .leaf)) none (.node .leaf (some ty91) .leaf)) (some ty27) (.node .leaf (some ty59) (.node .leaf (some ty123) .leaf))))) (some ty3) (.node (.node (.node (.node (.node .leaf none (.node .leaf (some ty135) .leaf)) none (.node .leaf (some ty71) .leaf)) none (.node (.node .leaf none (.node .leaf (some ty167) .leaf)) (some ty39) (.node .leaf (some ty103) .leaf))) none (.node (.node (.node .leaf none (.node .leaf (some ty151) .leaf)) none (.node .leaf (some ty87) .leaf)) (some ty23) (.node .leaf (some ty55) (.node .leaf (some ty119) .leaf)))) (some ty7) (.node (.node (.node (.node .leaf none (.node .leaf (some ty143) .leaf)) none (.node .leaf (some ty79) .leaf)) none (.node (.node .leaf none (.node .leaf (some ty175) .leaf)) (some ty47) (.node .leaf (some ty111) .leaf))) (some ty15) (.node (.node (.node .leaf none (.node .leaf (some ty159) .leaf)) none (.node .leaf (some ty95) .leaf)) (some ty31) (.node .leaf (some ty63) (.node .leaf (some ty127) .leaf))))))))
noncomputable def T : Tab := fun t => TT.get 20 tab t
theorem T_ok : T.ok Tryd.prog := fun _ _ h => by
  have := TT.all_get (p := TYok) (m := 1) (b := 0) (t := tab) ⟨ok0, ⟨trivial, ⟨trivial, ⟨trivial, ⟨trivial, ⟨trivial, ⟨trivial, ⟨trivial, trivial, ⟨ok128, trivial, trivial⟩⟩, ⟨ok64, trivial, trivial⟩⟩, ⟨ok32, ⟨trivial, trivial, ⟨ok160, trivial, trivial⟩⟩, ⟨ok96, trivial, trivial⟩⟩⟩, ⟨ok16, ⟨trivial, ⟨trivial, trivial, ⟨ok144, trivial, trivial⟩⟩, ⟨ok80, trivial, trivial⟩⟩, ⟨ok48, ⟨trivial, trivial, ⟨ok176, trivial, trivial⟩⟩, ⟨ok112, trivial, trivial⟩⟩⟩⟩, ⟨ok8, ⟨trivial, ⟨trivial, ⟨trivial, trivial, ⟨ok136, trivial, trivial⟩⟩, ⟨ok72, trivial, trivial⟩⟩, ⟨ok40, ⟨trivial, trivial, ⟨ok168, trivial, trivial⟩⟩, ⟨ok104, trivial, trivial⟩⟩⟩, ⟨ok24, ⟨trivial, ⟨trivial, trivial, ⟨ok152, trivial, trivial⟩⟩, ⟨ok88, trivial, trivial⟩⟩, ⟨ok56, trivial, ⟨ok120, trivial, trivial⟩⟩⟩⟩⟩, ⟨ok4, ⟨trivial, ⟨trivial, ⟨trivial, ⟨trivial, trivial, ⟨ok132, trivial, trivial⟩⟩, ⟨ok68, trivial, trivial⟩⟩, ⟨ok36, ⟨trivial, trivial, ⟨ok164, trivial, trivial⟩⟩, ⟨ok100, trivial, trivial⟩⟩⟩, ⟨ok20, ⟨trivial, ⟨trivial, trivial, ⟨ok148, trivial, trivial⟩⟩, ⟨ok84, trivial, trivial⟩⟩, ⟨ok52, ⟨trivial, trivial, ⟨ok180, trivial, trivial⟩⟩, ⟨ok116, trivial, trivial⟩⟩⟩⟩, ⟨ok12, ⟨trivial, ⟨trivial, ⟨trivial, trivial, ⟨ok140, trivial, trivial⟩⟩, ⟨ok76, trivial, trivial⟩⟩, ⟨ok44, ⟨trivial, trivial, ⟨ok172, trivial, trivial⟩⟩, ⟨ok108, trivial, trivial⟩⟩⟩, ⟨ok28, ⟨trivial, ⟨trivial, trivial, ⟨ok156, trivial, trivial⟩⟩, ⟨ok92, trivial, trivial⟩⟩, ⟨ok60, trivial, ⟨ok124, trivial, trivial⟩⟩⟩⟩⟩⟩, ⟨ok2, ⟨trivial, ⟨trivial, ⟨trivial, ⟨trivial, ⟨trivial, trivial, ⟨ok130, trivial, trivial⟩⟩, ⟨ok66, trivial, trivial⟩⟩, ⟨ok34, ⟨trivial, trivial, ⟨ok162, trivial, trivial⟩⟩, ⟨ok98, trivial, trivial⟩⟩⟩, ⟨ok18, ⟨trivial, ⟨trivial, trivial, ⟨ok146, trivial, trivial⟩⟩, ⟨ok82, trivial, trivial⟩⟩, ⟨ok50, ⟨trivial, trivial, ⟨ok178, trivial, trivial⟩⟩, ⟨ok114, trivial, trivial⟩⟩⟩⟩, ⟨ok10, ⟨trivial, ⟨trivial, ⟨trivial, trivial, ⟨ok138, trivial, trivial⟩⟩, ⟨ok74, trivial, trivial⟩⟩, ⟨ok42, ⟨trivial, trivial, ⟨ok170, trivial, trivial⟩⟩, ⟨ok106, trivial, trivial⟩⟩⟩, ⟨ok26, ⟨trivial, ⟨trivial, trivial, ⟨ok154, trivial, trivial⟩⟩, ⟨ok90, trivial, trivial⟩⟩, ⟨ok58, trivial, ⟨ok122, trivial, trivial⟩⟩⟩⟩⟩, ⟨ok6, ⟨trivial, ⟨trivial, ⟨trivial, ⟨trivial, trivial, ⟨ok134, trivial, trivial⟩⟩, ⟨ok70, trivial, trivial⟩⟩, ⟨ok38, ⟨trivial, trivial, ⟨ok166, trivial, trivial⟩⟩, ⟨ok102, trivial, trivial⟩⟩⟩, ⟨ok22, ⟨trivial, ⟨trivial, trivial, ⟨ok150, trivial, trivial⟩⟩, ⟨ok86, trivial, trivial⟩⟩, ⟨ok54, trivial, ⟨ok118, trivial, trivial⟩⟩⟩⟩, ⟨ok14, ⟨trivial, ⟨trivial, ⟨trivial, trivial, ⟨ok142, trivial, trivial⟩⟩, ⟨ok78, trivial, trivial⟩⟩, ⟨ok46, ⟨trivial, trivial, ⟨ok174, trivial, trivial⟩⟩, ⟨ok110, trivial, trivial⟩⟩⟩, ⟨ok30, ⟨trivial, ⟨trivial, trivial, ⟨ok158, trivial, trivial⟩⟩, ⟨ok94, trivial, trivial⟩⟩, ⟨ok62, trivial, ⟨ok126, trivial, trivial⟩⟩⟩⟩⟩⟩⟩, ⟨ok1, ⟨trivial, ⟨trivial, ⟨trivial, ⟨trivial, ⟨trivial, ⟨trivial, trivial, ⟨ok129, trivial, trivial⟩⟩, ⟨ok65, trivial, trivial⟩⟩, ⟨ok33, ⟨trivial, trivial, ⟨ok161, trivial, trivial⟩⟩, ⟨ok97, trivial, trivial⟩⟩⟩, ⟨ok17, ⟨trivial, ⟨trivial, trivial, ⟨ok145, trivial, trivial⟩⟩, ⟨ok81, trivial, trivial⟩⟩, ⟨ok49, ⟨trivial, trivial, ⟨ok177, trivial, trivial⟩⟩, ⟨ok113, trivial, trivial⟩⟩⟩⟩, ⟨ok9, ⟨trivial, ⟨trivial, ⟨trivial, trivial, ⟨ok137, trivial, trivial⟩⟩, ⟨ok73, trivial, trivial⟩⟩, ⟨ok41, ⟨trivial, trivial, ⟨ok169, trivial, trivial⟩⟩, ⟨ok105, trivial, trivial⟩⟩⟩, ⟨ok25, ⟨trivial, ⟨trivial, trivial, ⟨ok153, trivial, trivial⟩⟩, ⟨ok89, trivial, trivial⟩⟩, ⟨ok57, trivial, ⟨ok121, trivial, trivial⟩⟩⟩⟩⟩, ⟨ok5, ⟨trivial, ⟨trivial, ⟨trivial, ⟨trivial, trivial, ⟨ok133, trivial, trivial⟩⟩, ⟨ok69, trivial, trivial⟩⟩, ⟨ok37, ⟨trivial, trivial, ⟨ok165, trivial, trivial⟩⟩, ⟨ok101, trivial, trivial⟩⟩⟩, ⟨ok21, ⟨trivial, ⟨trivial, trivial, ⟨ok149, trivial, trivial⟩⟩, ⟨ok85, trivial, trivial⟩⟩, ⟨ok53, trivial, ⟨ok117, trivial, trivial⟩⟩⟩⟩, ⟨ok13, ⟨trivial, ⟨trivial, ⟨trivial, trivial, ⟨ok141, trivial, trivial⟩⟩, ⟨ok77, trivial, trivial⟩⟩, ⟨ok45, ⟨trivial, trivial, ⟨ok173, trivial, trivial⟩⟩, ⟨ok109, trivial, trivial⟩⟩⟩, ⟨ok29, ⟨trivial, ⟨trivial, trivial, ⟨ok157, trivial, trivial⟩⟩, ⟨ok93, trivial, trivial⟩⟩, ⟨ok61, trivial, ⟨ok125, trivial, trivial⟩⟩⟩⟩⟩⟩, ⟨ok3, ⟨trivial, ⟨trivial, ⟨trivial, ⟨trivial, ⟨trivial, trivial, ⟨ok131, trivial, trivial⟩⟩, ⟨ok67, trivial, trivial⟩⟩, ⟨ok35, ⟨trivial, trivial, ⟨ok163, trivial, trivial⟩⟩, ⟨ok99, trivial, trivial⟩⟩⟩, ⟨ok19, ⟨trivial, ⟨trivial, trivial, ⟨ok147, trivial, trivial⟩⟩, ⟨ok83, trivial, trivial⟩⟩, ⟨ok51, ⟨trivial, trivial, ⟨ok179, trivial, trivial⟩⟩, ⟨ok115, trivial, trivial⟩⟩⟩⟩, ⟨ok11, ⟨trivial, ⟨trivial, ⟨trivial, trivial, ⟨ok139, trivial, trivial⟩⟩, ⟨ok75, trivial, trivial⟩⟩, ⟨ok43, ⟨trivial, trivial, ⟨ok171, trivial, trivial⟩⟩, ⟨ok107, trivial, trivial⟩⟩⟩, ⟨ok27, ⟨trivial, ⟨trivial, trivial, ⟨ok155, trivial, trivial⟩⟩, ⟨ok91, trivial, trivial⟩⟩, ⟨ok59, trivial, ⟨ok123, trivial, trivial⟩⟩⟩⟩⟩, ⟨ok7, ⟨trivial, ⟨trivial, ⟨trivial, ⟨trivial, trivial, ⟨ok135, trivial, trivial⟩⟩, ⟨ok71, trivial, trivial⟩⟩, ⟨ok39, ⟨trivial, trivial, ⟨ok167, trivial, trivial⟩⟩, ⟨ok103, trivial, trivial⟩⟩⟩, ⟨ok23, ⟨trivial, ⟨trivial, trivial, ⟨ok151, trivial, trivial⟩⟩, ⟨ok87, trivial, trivial⟩⟩, ⟨ok55, trivial, ⟨ok119, trivial, trivial⟩⟩⟩⟩, ⟨ok15, ⟨trivial, ⟨trivial, ⟨trivial, trivial, ⟨ok143, trivial, trivial⟩⟩, ⟨ok79, trivial, trivial⟩⟩, ⟨ok47, ⟨trivial, trivial, ⟨ok175, trivial, trivial⟩⟩, ⟨ok111, trivial, trivial⟩⟩⟩, ⟨ok31, ⟨trivial, ⟨trivial, trivial, ⟨ok159, trivial, trivial⟩⟩, ⟨ok95, trivial, trivial⟩⟩, ⟨ok63, trivial, ⟨ok127, trivial, trivial⟩⟩⟩⟩⟩⟩⟩⟩ h
  have h2 := this; simp at h2; exact h2
end Go.Abs

namespace Go.Abs
variable [Globals]
structure Val where
  kind : Int
  n : Int
  s : ByteArray
  deriving Inhabited, DecidableEq
structure Attr where
  name : ByteArray
  kind : Int
  min : Int
  max : Int
  enum : List ByteArray
  writable : Bool
  safety : Bool
  deriving Inhabited, DecidableEq
structure Eff where
  kind : Int
  attr : ByteArray
  n : Int
  deriving Inhabited, DecidableEq
structure Cmd where
  name : ByteArray
  param : Attr
  effects : List Eff
  deriving Inhabited, DecidableEq
structure Clu where
  name : ByteArray
  attrs : List Attr
  commands : List Cmd
  events : List ByteArray
  deriving Inhabited, DecidableEq
structure Dev where
  id : Int
  eui : Int
  vendor : Int
  sleepy : Bool
  poll : Int
  room : ByteArray
  clusters : List ByteArray
  deriving Inhabited, DecidableEq
structure Hom where
  clusters : List Clu
  devices : List Dev
  deriving Inhabited, DecidableEq
structure Key where
  dev : Int
  cluster : ByteArray
  attr : ByteArray
  deriving Inhabited, DecidableEq
structure Item where
  key : Key
  value : Val
  version : Int
  deriving Inhabited, DecidableEq
def cVal (v : Val) : List PV := [vint v.kind, vint v.n, vstr v.s]
def cAttr (a : Attr) : List PV := [vstr a.name, vint a.kind, vint a.min, vint a.max, roL 1 cstr a.enum, vbool a.writable, vbool a.safety]
def cEff (e : Eff) : List PV := [vint e.kind, vstr e.attr, vint e.n]
def cCmd (c : Cmd) : List PV := vstr c.name :: (cAttr c.param ++ [roL 3 cEff c.effects])
def cClu (c : Clu) : List PV := [vstr c.name, roL 7 cAttr c.attrs, roL 9 cCmd c.commands, roL 1 cstr c.events]
def cDev (d : Dev) : List PV := [vint d.id, .val (.int .u64 d.eui), vint d.vendor, vbool d.sleepy, vint d.poll, vstr d.room, roL 1 cstr d.clusters]
def cHom (h : Hom) : List PV := [roL 4 cClu h.clusters, roL 7 cDev h.devices]
def cKey (k : Key) : List PV := [vint k.dev, vstr k.cluster, vstr k.attr]
def cItem (x : Item) : List PV := cKey x.key ++ (cVal x.value ++ [vint x.version])
def idxOf (l : List ByteArray) (s : ByteArray) : Int := match l.findIdx? (· = s) with | some i => i | none => -1
theorem idxOf_some {l : List ByteArray} {x : ByteArray} {k : Nat} (hk : k < l.length) (h : l.getD k default = x) (hf : ∀ j, j < k → l.getD j default ≠ x) : idxOf l x = k := by
  have : l.findIdx? (· = x) = some k := by
    rw [List.findIdx?_eq_some_iff_getElem]
    refine ⟨hk, by simpa [List.getD, hk] using h, fun j hj => ?_⟩
    have := hf j hj
    simpa [List.getD, show j < l.length from by omega] using this
  simp [idxOf, this]
theorem idxOf_none {l : List ByteArray} {x : ByteArray} (hf : ∀ j, j < l.length → l.getD j default ≠ x) : idxOf l x = -1 := by
  have : l.findIdx? (· = x) = none := by
    rw [List.findIdx?_eq_none_iff]
    intro y hy
    obtain ⟨j, hj, rfl⟩ := List.getElem_of_mem hy
    simpa [List.getD, hj] using hf j hj
  simp [idxOf, this]
def letterOk (i : Nat) (c : Int) : Bool := (decide (97 ≤ c) && decide (c ≤ 122)) || (decide (i ≠ 0) && (decide (c = 95) || decide (c = 45) || (decide (48 ≤ c) && decide (c ≤ 57))))
def validName (s : ByteArray) : Bool := decide (1 ≤ s.size) && decide (s.size ≤ 24) && (List.range s.size).all fun i => letterOk i (byteAt s i)
theorem validName_iff {s : ByteArray} : validName s = true ↔ (1 ≤ s.size ∧ s.size ≤ 24 ∧ ∀ i, i < s.size → letterOk i (byteAt s i) = true) := by
  simp [validName, and_assoc]
def firstE (n : Nat) (f : Nat → Int) : Int := match (List.range n).find? (fun i => decide (f i ≠ 0)) with | some i => f i | none => 0
theorem firstE_at {n k : Nat} {f : Nat → Int} (hk : k < n) (h : f k ≠ 0) (hf : ∀ j, j < k → f j = 0) : firstE n f = f k := by
  have : (List.range n).find? (fun i => decide (f i ≠ 0)) = some k := by
    rw [List.find?_range_eq_some]
    exact ⟨by simpa using h, by simpa using hk, fun j hj => by simpa using hf j hj⟩
  simp only [firstE, this]
theorem firstE_none {n : Nat} {f : Nat → Int} (hf : ∀ j, j < n → f j = 0) : firstE n f = 0 := by
  have : (List.range n).find? (fun i => decide (f i ≠ 0)) = none := by
    rw [List.find?_eq_none]
    intro x hx
    simpa using hf x (by simpa using hx)
  simp only [firstE, this]
def inRange (n : Int) : Bool := decide (-1099511627776 ≤ n) && decide (n ≤ 1099511627776)
def membersE (l : List ByteArray) : Int := if l.length < 1 ∨ 64 < l.length then 3 else firstE l.length fun i => if validName (l.getD i default) = false then 10 else if idxOf l (l.getD i default) < i then 9 else 0
def defE (a : Attr) : Int :=
  if validName a.name = false then 10 else if a.kind < 1 ∨ 4 < a.kind then 7
  else if a.kind = 2 ∧ (inRange a.min = false ∨ inRange a.max = false ∨ a.max < a.min) then 2
  else if a.kind ≠ 2 ∧ (a.min ≠ 0 ∨ a.max ≠ 0) then 2
  else if a.kind = 3 then membersE a.enum else if 0 < a.enum.length then 4 else 0
def valE (v : Val) : Int :=
  if v.kind < 0 ∨ 4 < v.kind then 7
  else if ((v.kind = 0 ∨ v.kind = 4) ∧ v.n ≠ 0) ∨ (v.kind = 1 ∧ v.n ≠ 0 ∧ v.n ≠ 1) ∨ (v.kind = 2 ∧ inRange v.n = false) ∨ (v.kind = 3 ∧ (v.n < 0 ∨ 63 < v.n)) then 2
  else if 60 < v.s.size then 3 else if v.s ≠ ⟨#[]⟩ ∧ v.kind ≠ 4 then 4 else 0
def fitsE (a : Attr) (v : Val) : Int :=
  if defE a ≠ 0 then defE a else if valE v ≠ 0 then valE v else if v.kind ≠ a.kind then 11
  else if (v.kind = 2 ∧ (v.n < a.min ∨ a.max < v.n)) ∨ (v.kind = 3 ∧ (a.enum.length : Int) ≤ v.n) then 2 else 0
def clampI (n lo hi : Int) : Int := if hi < lo ∨ hi < n then hi else if n < lo then lo else n
def noVal : Val := ⟨0, 0, ⟨#[]⟩⟩
def zeroV (a : Attr) : Val := if defE a ≠ 0 then noVal else if a.kind = 2 then ⟨a.kind, clampI 0 a.min a.max, ⟨#[]⟩⟩ else ⟨a.kind, 0, ⟨#[]⟩⟩
end Go.Abs

namespace Go.Abs
open Go.Proofs
theorem hm : Tryd.prog.follows .mixedOrders = true := by kernel_rfl
theorem ac_slices_Index_string (l : List ByteArray) (x : ByteArray) (hl : l.length ≤ 1048576) : AC Tryd.prog 59 [.pv (roL 1 cstr l), .pv (vstr x)] [] (.pv (vint (idxOf l x))) [] := by
  refine AC.of_awp (T := T) T_ok hm Tryd.call59 Tryd.func59 rfl rfl rfl ?_
  conv => whnf
  refine ⟨Nat, fun k => k ≤ l.length ∧ ∀ j, j < k → l.getD j default ≠ x, fun k => ⟨[(0, .pv (roL 1 cstr l)), (1, .pv (vstr x)), (7, .pv (vint l.length)), (8, .pv (vint k))], []⟩, fun k => l.length - k, 0, [], ⟨Nat.zero_le _, fun j h => absurd h (by omega)⟩, ⟨.rfl, .rfl, .rfl, .rfl⟩, fun k hk => ?_⟩
  conv => whnf
  refine ⟨fun h => ?_, fun h => ?_⟩
  · simp only [decide_eq_true_eq] at h
    refine ⟨by omega, ?_⟩
    conv => whnf
    refine ⟨fun h2 => ?_, fun h2 => ?_⟩
    · conv => whnf
      simp only [decide_eq_true_eq] at h2
      exact PSub.int (by rw [idxOf_some (k := k) (by omega) (by simpa [eq_comm] using h2) hk.2])
    · conv => whnf
      refine .inl ⟨wrap64 (by omega), ?_⟩
      conv => whnf
      simp only [decide_eq_false_iff_not] at h2
      refine ⟨k + 1, [], ⟨by omega, fun j hj => ?_⟩, by dsimp only; omega, .rfl, .rfl, .rfl, .rfl⟩
      by_cases e : j = k
      · subst e; simpa [eq_comm] using h2
      · exact hk.2 j (by omega)
  · conv => whnf
    simp only [decide_eq_false_iff_not] at h
    exact PSub.int (by rw [idxOf_none fun j hj => hk.2 j (by omega)])
theorem ac_names_Index (l : List ByteArray) (x : ByteArray) (hl : l.length ≤ 1048576) : AC Tryd.prog 44 [.pv (roL 1 cstr l), .pv (vstr x)] [] (.pv (vint (idxOf l x))) [] := by
  refine AC.of_awp (T := T) T_ok hm Tryd.call44 Tryd.func44 rfl rfl rfl ?_
  conv => whnf
  refine .inl ⟨_, ac_slices_Index_string l x hl, ?_⟩
  conv => whnf
  exact PSub.rfl
theorem ac_names_letter (c : Int) : AC Tryd.prog 75 [.pv (.val (.int .i32 c))] [] (.pv (vbool (decide (97 ≤ c) && decide (c ≤ 122)))) [] := by
  refine AC.of_awp (T := T) T_ok hm Tryd.call75 Tryd.func75 rfl rfl rfl ?_
  conv => whnf
  refine ⟨fun h => ?_, fun h => ?_⟩
  · conv => whnf
    simp only [decide_eq_true_eq] at h
    exact PSub.sb (by simp [h])
  · conv => whnf
    simp only [decide_eq_false_iff_not] at h
    exact PSub.lit_sb (by simp [h])
theorem letterOk_iff {i : Nat} {c : Int} : letterOk i c = true ↔ ((97 ≤ c ∧ c ≤ 122) ∨ (i ≠ 0 ∧ (c = 95 ∨ c = 45 ∨ (48 ≤ c ∧ c ≤ 57)))) := by
  simp [letterOk, or_assoc]
theorem validName_bad {s : ByteArray} {k : Nat} (hk : k < s.size) (h : ¬ ((97 ≤ byteAt s k ∧ byteAt s k ≤ 122) ∨ (k ≠ 0 ∧ (byteAt s k = 95 ∨ byteAt s k = 45 ∨ (48 ≤ byteAt s k ∧ byteAt s k ≤ 57))))) : false = validName s := by
  symm
  rw [← Bool.not_eq_true, validName_iff]
  intro ⟨_, _, h2⟩
  exact h (letterOk_iff.1 (h2 k hk))
theorem decode_rune {s : ByteArray} {k : Nat} (hk : k < s.size) : (byteAt s k < 128 ∧ ((Utf8.decode s k).1 : Int) = byteAt s k ∧ (Utf8.decode s k).2 = 1) ∨ (128 ≤ byteAt s k ∧ 128 ≤ (Utf8.decode s k).1) := by
  have hlt : k < s.data.size := hk
  have hb : byteAt s k = ((s[k]'hk).toNat : Int) := by simp only [byteAt, Array.getD, dif_pos hlt]; rfl
  rw [hb]
  by_cases h : (s[k]'hk).toNat < 128
  · left
    rw [decode_ascii s k hk h]
    exact ⟨by omega, rfl, rfl⟩
  · right
    exact ⟨by omega, (decode_high s k hk (by omega)).1⟩
theorem ac_names_Valid (s : ByteArray) : AC Tryd.prog 61 [.pv (vstr s)] [] (.pv (vbool (validName s))) [] := by
  refine AC.of_awp (T := T) T_ok hm Tryd.call61 Tryd.func61 rfl rfl rfl ?_
  conv => whnf
  refine ⟨fun h => ?_, fun h => ?_⟩
  · conv => whnf
    simp only [decide_eq_true_eq] at h
    exact PSub.lit_sb (by symm; simp [validName]; omega)
  conv => whnf
  refine ⟨fun h2 => ?_, fun h2 => ?_⟩
  · conv => whnf
    simp only [decide_eq_true_eq] at h2
    exact PSub.lit_sb (by symm; simp [validName]; omega)
  conv => whnf
  simp only [decide_eq_false_iff_not] at h h2
  refine ⟨Nat, fun k => k ≤ s.size ∧ ∀ j, j < k → letterOk j (byteAt s j) = true, fun k => ⟨[(0, .pv (vstr s)), (14, .ref 500)], [(500, .siter s k)]⟩, fun k => s.size - k, 0, [(500, 14)], ⟨Nat.zero_le _, fun j h => absurd h (by omega)⟩, ⟨⟨⟨rfl, rfl⟩, trivial⟩, .rfl, trivial⟩, fun k hk => ?_⟩
  conv => whnf
  refine ⟨fun h3 => ?_, fun h3 => ?_⟩
  · conv => whnf
    refine .inl ⟨_, ac_names_letter _, ?_⟩
    conv => whnf
    have hb : ∀ j, j < k → letterOk j (byteAt s j) = true := hk.2
    have hkl := hk.1
    clear hk
    have hd := decode_rune h3
    iterate 9 (all_goals first | (refine ⟨fun h => ?_, fun h => ?_⟩ <;> (conv => whnf)) | skip)
    all_goals simp only [decide_eq_true_eq, decide_eq_false_iff_not, Bool.not_eq_true', Bool.not_eq_false', Bool.and_eq_true, Bool.and_eq_false_iff] at *
    all_goals first
      | contradiction
      | exact PSub.lit_sb (validName_bad (k := k) h3 (by omega))
      | (refine ⟨k + 1, [], ⟨by omega, fun j hj => ?_⟩, by omega, ⟨⟨rfl, by omega⟩, trivial⟩, .rfl, trivial⟩
         by_cases e : j = k
         · subst e; exact letterOk_iff.2 (by omega)
         · exact hb j (by omega))
  · conv => whnf
    exact PSub.lit_sb (by symm; rw [validName_iff]; exact ⟨by omega, by omega, fun i hi => hk.2 i (by have := hk.1; omega)⟩)
end Go.Abs

namespace Go.Abs
open Go.Proofs
set_option maxRecDepth 10000
theorem ac_value_inRange (n : Int) : AC Tryd.prog 62 [.pv (vint n)] [] (.pv (vbool (inRange n))) [] := by
  refine AC.of_awp (T := T) T_ok hm Tryd.call62 Tryd.func62 rfl rfl rfl ?_
  conv => whnf
  refine ⟨fun h => ?_, fun h => ?_⟩
  · conv => whnf
    simp only [decide_eq_true_eq] at h
    exact PSub.sb (by simp [inRange, h])
  · conv => whnf
    simp only [decide_eq_false_iff_not] at h
    exact PSub.lit_sb (by simp [inRange, h])
theorem ac_value_members (l : List ByteArray) (hl : l.length ≤ 1048576) : AC Tryd.prog 63 [.pv (roL 1 cstr l)] [] (.pv (vint (membersE l))) [] := by
  refine AC.of_awp (T := T) T_ok hm Tryd.call63 Tryd.func63 rfl rfl rfl ?_
  conv => whnf
  refine ⟨fun h => ?_, fun h => ?_⟩
  · conv => whnf
    simp only [decide_eq_true_eq] at h
    exact PSub.int (by rw [membersE, if_pos (by omega)])
  conv => whnf
  refine ⟨fun h2 => ?_, fun h2 => ?_⟩
  · conv => whnf
    simp only [decide_eq_true_eq] at h2
    exact PSub.int (by rw [membersE, if_pos (by omega)])
  conv => whnf
  simp only [decide_eq_false_iff_not] at h h2
  have e0 : membersE l = firstE l.length fun i => if validName (l.getD i default) = false then 10 else if idxOf l (l.getD i default) < i then 9 else 0 := by rw [membersE, if_neg (by omega)]
  rw [e0]
  generalize hf : (fun i => if validName (l.getD i default) = false then (10 : Int) else if idxOf l (l.getD i default) < (i : Int) then 9 else 0) = f
  have hfi : ∀ i, f i = if validName (l.getD i default) = false then (10 : Int) else if idxOf l (l.getD i default) < (i : Int) then 9 else 0 := fun i => by rw [← hf]
  refine ⟨Nat, fun k => k ≤ l.length ∧ ∀ j, j < k → f j = 0, fun k => ⟨[(0, .pv (roL 1 cstr l)), (13, .pv (roL 1 cstr l)), (14, .pv (vint l.length)), (15, .pv (vint k))], []⟩, fun k => l.length - k, 0, [], ⟨Nat.zero_le _, fun j h => absurd h (by omega)⟩, ⟨.rfl, .rfl, .rfl, .rfl⟩, fun k hk => ?_⟩
  conv => whnf
  refine ⟨fun h3 => ?_, fun h3 => ?_⟩
  · conv => whnf
    simp only [decide_eq_true_eq] at h3
    refine ⟨by omega, ?_⟩
    conv => whnf
    refine .inl ⟨_, ac_names_Valid _, ?_⟩
    conv => whnf
    have hfk := hfi k
    refine ⟨fun h4 => ?_, fun h4 => ?_⟩
    · conv => whnf
      simp only [Bool.not_eq_true', Int.toNat_natCast] at h4
      rw [if_pos h4] at hfk
      exact PSub.int (by rw [firstE_at (k := k) (by omega) (by rw [hfk]; decide) hk.2, hfk])
    · conv => whnf
      refine .inl ⟨_, ac_names_Index l _ hl, ?_⟩
      conv => whnf
      simp only [Bool.not_eq_false', Int.toNat_natCast] at h4
      rw [if_neg (by rw [h4]; decide)] at hfk
      refine ⟨fun h5 => ?_, fun h5 => ?_⟩
      · conv => whnf
        simp only [decide_eq_true_eq, Int.toNat_natCast] at h5
        rw [if_pos h5] at hfk
        exact PSub.int (by rw [firstE_at (k := k) (by omega) (by rw [hfk]; decide) hk.2, hfk])
      · conv => whnf
        simp only [decide_eq_false_iff_not, Int.toNat_natCast] at h5
        rw [if_neg h5] at hfk
        refine .inl ⟨wrap64 (by omega), ?_⟩
        conv => whnf
        refine ⟨k + 1, [], ⟨by omega, fun j hj => ?_⟩, by dsimp only; omega, .rfl, .rfl, .rfl, .rfl⟩
        by_cases e : j = k
        · subst e; exact hfk
        · exact hk.2 j (by omega)
  · conv => whnf
    simp only [decide_eq_false_iff_not] at h3
    exact PSub.int (by rw [firstE_none fun j hj => hk.2 j (by omega)])
theorem ac_value_Def (a : Attr) (hl : a.enum.length ≤ 1048576) : AC Tryd.prog 47 [.pv (.agg (cAttr a))] [] (.pv (vint (defE a))) [] := by
  refine AC.of_awp (T := T) T_ok hm Tryd.call47 Tryd.func47 rfl rfl rfl ?_
  conv => whnf
  refine .inl ⟨_, ac_names_Valid _, ?_⟩
  conv => whnf
  refine ⟨fun h => ?_, fun h => ?_⟩
  · conv => whnf
    simp only [Bool.not_eq_true'] at h
    exact PSub.int (by rw [defE, if_pos h])
  conv => whnf
  simp only [Bool.not_eq_false'] at h
  have h : ¬ validName a.name = false := by rw [h]; decide
  have hk : a.kind < 1 ∨ 4 < a.kind → PSub (ofConst (.int .i64 7)) (vint (defE a)) := fun hh => PSub.int (by rw [defE, if_neg h, if_pos hh])
  refine ⟨fun h2 => ?_, fun h2 => ?_⟩
  · conv => whnf
    simp only [decide_eq_true_eq] at h2
    exact hk (.inl h2)
  conv => whnf
  refine ⟨fun h3 => ?_, fun h3 => ?_⟩
  · conv => whnf
    simp only [decide_eq_true_eq] at h3
    exact hk (.inr h3)
  conv => whnf
  simp only [decide_eq_false_iff_not] at h2 h3
  have hk2 : ¬ (a.kind < 1 ∨ 4 < a.kind) := by omega
  have tail : ∀ (hq : ¬ (a.kind = 2 ∧ (inRange a.min = false ∨ inRange a.max = false ∨ a.max < a.min))) (hq2 : ¬ (a.kind ≠ 2 ∧ (a.min ≠ 0 ∨ a.max ≠ 0))), defE a = if a.kind = 3 then membersE a.enum else if 0 < a.enum.length then 4 else 0 := fun hq hq2 => by
    rw [defE, if_neg h, if_neg hk2, if_neg hq, if_neg hq2]
  refine ⟨fun h4 => ?_, fun h4 => ?_⟩
  · conv => whnf
    simp only [decide_eq_true_eq] at h4
    have bad : (inRange a.min = false ∨ inRange a.max = false ∨ a.max < a.min) → PSub (ofConst (.int .i64 2)) (vint (defE a)) := fun hh => PSub.int (by rw [defE, if_neg h, if_neg hk2, if_pos ⟨h4, hh⟩])
    refine .inl ⟨_, ac_value_inRange _, ?_⟩
    conv => whnf
    refine ⟨fun h5 => ?_, fun h5 => ?_⟩
    · conv => whnf
      simp only [Bool.not_eq_true'] at h5
      exact bad (.inl h5)
    conv => whnf
    refine .inl ⟨_, ac_value_inRange _, ?_⟩
    conv => whnf
    refine ⟨fun h6 => ?_, fun h6 => ?_⟩
    · conv => whnf
      simp only [Bool.not_eq_true'] at h6
      exact bad (.inr (.inl h6))
    conv => whnf
    refine ⟨fun h7 => ?_, fun h7 => ?_⟩
    · conv => whnf
      simp only [decide_eq_true_eq] at h7
      exact bad (.inr (.inr h7))
    conv => whnf
    simp only [decide_eq_false_iff_not, Bool.not_eq_false'] at h5 h6 h7
    have hd := tail (by rw [h5, h6]; simp; omega) (by omega)
    rw [if_neg (by omega)] at hd
    rw [hd]
    refine ⟨fun h8 => ?_, fun h8 => ?_⟩
    · simp only [decide_eq_true_eq] at h8
      omega
    conv => whnf
    refine ⟨fun h9 => ?_, fun h9 => ?_⟩
    · conv => whnf
      simp only [decide_eq_true_eq] at h9
      exact PSub.int (by rw [if_pos (by omega)])
    · conv => whnf
      simp only [decide_eq_false_iff_not] at h9
      exact PSub.int (by rw [if_neg (by omega)])
  · conv => whnf
    simp only [decide_eq_false_iff_not] at h4
    have bad : (a.min ≠ 0 ∨ a.max ≠ 0) → PSub (ofConst (.int .i64 2)) (vint (defE a)) := fun hh => PSub.int (by rw [defE, if_neg h, if_neg hk2, if_neg (fun x => h4 x.1), if_pos ⟨h4, hh⟩])
    refine ⟨fun h5 => ?_, fun h5 => ?_⟩
    · conv => whnf
      simp only [Bool.not_eq_true', decide_eq_false_iff_not] at h5
      exact bad (.inl h5)
    conv => whnf
    refine ⟨fun h6 => ?_, fun h6 => ?_⟩
    · conv => whnf
      simp only [Bool.not_eq_true', decide_eq_false_iff_not] at h6
      exact bad (.inr h6)
    conv => whnf
    simp only [Bool.not_eq_false', decide_eq_true_eq] at h5 h6
    have hd := tail (fun x => h4 x.1) (by omega)
    rw [hd]
    refine ⟨fun h8 => ?_, fun h8 => ?_⟩
    · conv => whnf
      simp only [decide_eq_true_eq] at h8
      rw [if_pos h8]
      refine .inl ⟨_, ac_value_members _ hl, ?_⟩
      conv => whnf
      exact PSub.rfl
    conv => whnf
    simp only [decide_eq_false_iff_not] at h8
    rw [if_neg h8]
    refine ⟨fun h9 => ?_, fun h9 => ?_⟩
    · conv => whnf
      simp only [decide_eq_true_eq] at h9
      exact PSub.int (by rw [if_pos (by omega)])
    · conv => whnf
      simp only [decide_eq_false_iff_not] at h9
      exact PSub.int (by rw [if_neg (by omega)])
theorem ac_value_Check (v : Val) : AC Tryd.prog 48 [.pv (.agg (cVal v))] [] (.pv (vint (valE v))) [] := by
  refine AC.of_awp (T := T) T_ok hm Tryd.call48 Tryd.func48 rfl rfl rfl ?_
  conv => whnf
  iterate 14 (all_goals first | (refine ⟨fun h => ?_, fun h => ?_⟩ <;> (conv => whnf)) | (refine .inl ⟨_, ac_value_inRange _, ?_⟩; conv => whnf) | skip)
  all_goals simp only [decide_eq_true_eq, decide_eq_false_iff_not, Bool.not_eq_true', Bool.not_eq_false'] at *
  all_goals first
    | contradiction
    | exact PSub.int (by simp only [valE]; (repeat' split) <;> first | rfl | omega | (simp_all; done) | (simp_all; omega))
    | trace_state
theorem ac_value_Fits (a : Attr) (v : Val) (hl : a.enum.length ≤ 1048576) : AC Tryd.prog 26 [.pv (.agg (cAttr a)), .pv (.agg (cVal v))] [] (.pv (vint (fitsE a v))) [] := by
  refine AC.of_awp (T := T) T_ok hm Tryd.call26 Tryd.func26 rfl rfl rfl ?_
  conv => whnf
  iterate 14 (all_goals first | (refine ⟨fun h => ?_, fun h => ?_⟩ <;> (conv => whnf)) | (refine .inl ⟨_, ac_value_Def a hl, ?_⟩; conv => whnf) | (refine .inl ⟨_, ac_value_Check v, ?_⟩; conv => whnf) | skip)
  all_goals simp only [decide_eq_true_eq, decide_eq_false_iff_not, Bool.not_eq_true', Bool.not_eq_false'] at *
  all_goals first
    | contradiction
    | exact PSub.int (by simp only [fitsE]; (repeat' split) <;> first | rfl | omega | (simp_all; done) | (simp_all; omega))
    | trace_state
theorem ac_num_Clamp (n lo hi : Int) : AC Tryd.prog 71 [.pv (vint n), .pv (vint lo), .pv (vint hi)] [] (.pv (vint (clampI n lo hi))) [] := by
  refine AC.of_awp (T := T) T_ok hm Tryd.call71 Tryd.func71 rfl rfl rfl ?_
  conv => whnf
  iterate 5 (all_goals first | (refine ⟨fun h => ?_, fun h => ?_⟩ <;> (conv => whnf)) | skip)
  all_goals simp only [decide_eq_true_eq, decide_eq_false_iff_not, Bool.not_eq_true', Bool.not_eq_false'] at *
  all_goals first
    | contradiction
    | exact PSub.int (by simp only [clampI]; (repeat' split) <;> first | rfl | omega)
    | trace_state
theorem ac_value_Zero (a : Attr) (hl : a.enum.length ≤ 1048576) : AC Tryd.prog 57 [.pv (.agg (cAttr a))] [] (.pv (.agg (cVal (zeroV a)))) [] := by
  refine AC.of_awp (T := T) T_ok hm Tryd.call57 Tryd.func57 rfl rfl rfl ?_
  conv => whnf
  iterate 6 (all_goals first | (refine ⟨fun h => ?_, fun h => ?_⟩ <;> (conv => whnf)) | (refine .inl ⟨_, ac_value_Def a hl, ?_⟩; conv => whnf) | (refine .inl ⟨_, ac_num_Clamp _ _ _, ?_⟩; conv => whnf) | skip)
  all_goals simp only [decide_eq_true_eq, decide_eq_false_iff_not, Bool.not_eq_true', Bool.not_eq_false'] at *
  all_goals first
    | contradiction
    | exact PSub.of_eq (by simp only [zeroV]; (repeat' split) <;> first | rfl | omega | contradiction | (simp_all; done))
    | trace_state
end Go.Abs

namespace Go.Abs
open Go.Proofs
set_option maxRecDepth 10000
def memN (l : List ByteArray) (n : Nat) (s : ByteArray) : Bool := (List.range n).any fun j => decide (l.getD j default = s)
theorem memN_true {l : List ByteArray} {n k : Nat} {s : ByteArray} (hk : k < n) (h : l.getD k default = s) : memN l n s = true := by
  simp only [memN, List.any_eq_true, List.mem_range, decide_eq_true_eq]
  exact ⟨k, hk, h⟩
theorem memN_false {l : List ByteArray} {n : Nat} {s : ByteArray} (h : ∀ j, j < n → l.getD j default ≠ s) : memN l n s = false := by
  rw [← Bool.not_eq_true]
  simp only [memN, List.any_eq_true, List.mem_range, decide_eq_true_eq]
  rintro ⟨j, hj, e⟩
  exact h j hj e
end Go.Abs

namespace Go.Abs
open Go.Proofs
set_option maxRecDepth 10000
theorem ac_slices_Clone_string (n : Nat) (g : Nat → List PV) (hn : n ≤ 1048576) : AC Tryd.prog 60 [.pv (.ro 1 n g)] [] (.own 0) [(0, .row 1 n g)] := by
  refine AC.nil_split (pre := []) (post := []) ?_ (fun h => ?_)
  · refine AC.of_awp_own (T := T) T_ok hm Tryd.call60 Tryd.func60 rfl rfl rfl ?_
    conv => whnf
    refine ⟨by omega, ?_⟩
    conv => whnf
    exact ⟨by omega, fun i hi => by simpa using PSubs.rfl⟩
  · refine AC.of_awp_own (T := T) T_ok hm Tryd.call60 Tryd.func60 rfl rfl rfl ?_
    conv => whnf
    exact h
theorem ac_slices_Clone_Item (n : Nat) (g : Nat → List PV) (hn : n ≤ 1048576) : AC Tryd.prog 39 [.pv (.ro 7 n g)] [] (.own 0) [(0, .row 7 n g)] := by
  refine AC.nil_split (pre := []) (post := []) ?_ (fun h => ?_)
  · refine AC.of_awp_own (T := T) T_ok hm Tryd.call39 Tryd.func39 rfl rfl rfl ?_
    conv => whnf
    refine ⟨by omega, ?_⟩
    conv => whnf
    exact ⟨by omega, fun i hi => by simpa using PSubs.rfl⟩
  · refine AC.of_awp_own (T := T) T_ok hm Tryd.call39 Tryd.func39 rfl rfl rfl ?_
    conv => whnf
    exact h
end Go.Abs

namespace Go.Abs
open Go.Proofs
set_option maxRecDepth 10000
def noAttr : Attr := ⟨⟨#[]⟩, 0, 0, 0, [], false, false⟩
def smallL {α : Type} (l : List α) : Prop := l.length ≤ 1048576
def smallA (a : Attr) : Prop := smallL a.enum
def smallC (c : Cmd) : Prop := smallA c.param ∧ smallL c.effects
def smallK (c : Clu) : Prop := smallL c.attrs ∧ (∀ i, smallA (c.attrs.getD i default)) ∧ smallL c.commands ∧ (∀ i, smallC (c.commands.getD i default)) ∧ smallL c.events
def firstI (n : Nat) (p : Nat → Bool) : Nat := match (List.range n).find? p with | some i => i | none => n
theorem firstI_at {n k : Nat} {p : Nat → Bool} (hk : k < n) (h : p k = true) (hf : ∀ j, j < k → p j = false) : firstI n p = k := by
  have : (List.range n).find? p = some k := by
    rw [List.find?_range_eq_some]
    exact ⟨h, by simpa using hk, fun j hj => by simpa using hf j hj⟩
  simp only [firstI, this]
theorem firstI_none {n : Nat} {p : Nat → Bool} (hf : ∀ j, j < n → p j = false) : firstI n p = n := by
  have : (List.range n).find? p = none := by
    rw [List.find?_eq_none]
    intro x hx
    simpa using hf x (by simpa using hx)
  simp only [firstI, this]
def attrAt (l : List Attr) (s : ByteArray) : Nat := firstI l.length fun i => decide ((l.getD i default).name = s)
def attrOf (l : List Attr) (s : ByteArray) : Attr := if attrAt l s < l.length then l.getD (attrAt l s) default else noAttr
theorem ac_cluster_Attr (c : Clu) (s : ByteArray) (hc : smallK c) : AC Tryd.prog 45 [.pv (.agg (cClu c)), .pv (vstr s)] [] (.pv (.tup [.agg (cAttr (attrOf c.attrs s)), vbool (decide (attrAt c.attrs s < c.attrs.length))])) [] := by
  have hl : c.attrs.length ≤ 1048576 := hc.1
  refine AC.of_awp (T := T) T_ok hm Tryd.call45 Tryd.func45 rfl rfl rfl ?_
  conv => whnf
  refine ⟨Nat, fun k => k ≤ c.attrs.length ∧ ∀ j, j < k → decide ((c.attrs.getD j default).name = s) = false, fun k => ⟨[(1, .pv (vstr s)), (4, .ptr 4 0), (9, .pv (roL 7 cAttr c.attrs)), (10, .pv (vint c.attrs.length)), (11, .pv (vint k))], [(4, .pbox (cAttr noAttr))]⟩, fun k => c.attrs.length - k, 0, [], ⟨Nat.zero_le _, fun j h => absurd h (by omega)⟩, ?_, fun k hk => ?_⟩
  · exact ⟨⟨⟨.rfl, .rfl, .rfl, .rfl, PSub.nil_ro _ _, PSub.lit_sb rfl, PSub.lit_sb rfl, trivial⟩, trivial⟩, .rfl, rfl, .rfl, .rfl, .rfl⟩
  conv => whnf
  refine ⟨fun h => ?_, fun h => ?_⟩
  · simp only [decide_eq_true_eq] at h
    conv => whnf
    refine ⟨by omega, ?_⟩
    conv => whnf
    refine ⟨fun h2 => ?_, fun h2 => ?_⟩
    · conv => whnf
      refine .inr (.inl ⟨_, _, _, ac_slices_Clone_string _ _ (hc.2.1 k), ?_⟩)
      conv => whnf
      have ea : attrAt c.attrs s = k := firstI_at (by omega) h2 hk.2
      have hlt : k < c.attrs.length := by omega
      refine ⟨?_, ?_⟩
      · conv => whnf
        exact PSub.of_eq (by rw [attrOf, ea, if_pos hlt]; rfl)
      · conv => whnf
        exact PSub.lit_sb (by rw [ea]; simp [hlt])
    · conv => whnf
      refine .inl ⟨wrap64 (by omega), ?_⟩
      conv => whnf
      refine ⟨k + 1, [], ⟨by omega, fun j hj => ?_⟩, by dsimp only; omega, ⟨PSubs.rfl, trivial⟩, .rfl, rfl, .rfl, .rfl, .rfl⟩
      by_cases e : j = k
      · subst e; exact h2
      · exact hk.2 j (by omega)
  · conv => whnf
    simp only [decide_eq_false_iff_not] at h
    have ea : attrAt c.attrs s = c.attrs.length := firstI_none fun j hj => hk.2 j (by omega)
    refine ⟨?_, ?_⟩
    · conv => whnf
      rw [attrOf, ea, if_neg (by omega)]
      exact PSub.agg ⟨.rfl, .rfl, .rfl, .rfl, PSub.nil_ro _ _, PSub.lit_sb rfl, PSub.lit_sb rfl, trivial⟩
    · conv => whnf
      exact PSub.lit_sb (by rw [ea]; simp)
def manyE (l : List Cmd) : Bool := (List.range l.length).any fun i => decide (12 < (l.getD i default).effects.length)
theorem manyE_true {l : List Cmd} {k : Nat} (hk : k < l.length) (h : 12 < (l.getD k default).effects.length) : manyE l = true := by
  simp only [manyE, List.any_eq_true, List.mem_range, decide_eq_true_eq]
  exact ⟨k, hk, h⟩
theorem manyE_false {l : List Cmd} (h : ∀ j, j < l.length → ¬ 12 < (l.getD j default).effects.length) : manyE l = false := by
  rw [← Bool.not_eq_true]
  simp only [manyE, List.any_eq_true, List.mem_range, decide_eq_true_eq]
  rintro ⟨j, hj, e⟩
  exact h j hj e
def wideB (c : Clu) : Bool := decide (12 < c.attrs.length) || decide (12 < c.commands.length) || decide (12 < c.events.length) || manyE c.commands
theorem ac_cluster_wide (c : Clu) (hc : smallK c) : AC Tryd.prog 96 [.pv (.agg (cClu c))] [] (.pv (vbool (wideB c))) [] := by
  have hl : c.commands.length ≤ 1048576 := hc.2.2.1
  refine AC.of_awp (T := T) T_ok hm Tryd.call96 Tryd.func96 rfl rfl rfl ?_
  conv => whnf
  refine ⟨Nat, fun k => k ≤ c.commands.length ∧ ∀ j, j < k → ¬ 12 < (c.commands.getD j default).effects.length, fun k => ⟨[(1, .ptr 1 0), (6, .pv (roL 9 cCmd c.commands)), (7, .pv (vint c.commands.length)), (8, .pv (vint k))], [(1, .pbox (cClu c))]⟩, fun k => c.commands.length - k, 0, [], ⟨Nat.zero_le _, fun j h => absurd h (by omega)⟩, ⟨⟨PSubs.rfl, trivial⟩, rfl, .rfl, .rfl, .rfl⟩, fun k hk => ?_⟩
  conv => whnf
  refine ⟨fun h => ?_, fun h => ?_⟩
  · simp only [decide_eq_true_eq] at h
    conv => whnf
    refine ⟨by omega, ?_⟩
    conv => whnf
    refine ⟨fun h2 => ?_, fun h2 => ?_⟩
    · conv => whnf
      simp only [decide_eq_true_eq, Int.toNat_natCast] at h2
      exact PSub.lit_sb (by rw [wideB, manyE_true (k := k) (by omega) (by omega)]; simp)
    · conv => whnf
      simp only [decide_eq_false_iff_not, Int.toNat_natCast] at h2
      refine .inl ⟨wrap64 (by omega), ?_⟩
      conv => whnf
      refine ⟨k + 1, [], ⟨by omega, fun j hj => ?_⟩, by dsimp only; omega, ⟨PSubs.rfl, trivial⟩, rfl, .rfl, .rfl, .rfl⟩
      by_cases e : j = k
      · subst e; omega
      · exact hk.2 j (by omega)
  · simp only [decide_eq_false_iff_not] at h
    have em : manyE c.commands = false := manyE_false fun j hj => hk.2 j (by omega)
    have e0 : wideB c = (decide (12 < c.attrs.length) || decide (12 < c.commands.length) || decide (12 < c.events.length)) := by rw [wideB, em]; simp
    rw [e0]
    conv => whnf
    iterate 3 (all_goals first | (refine ⟨fun h => ?_, fun h => ?_⟩ <;> (conv => whnf)) | skip)
    all_goals simp only [decide_eq_true_eq, decide_eq_false_iff_not] at *
    all_goals first
      | exact PSub.lit_sb (by symm; simp; omega)
      | exact PSub.sb (by rw [Bool.eq_iff_iff]; simp; omega)
      | trace_state
end Go.Abs

namespace Go.Abs
open Go.Proofs
set_option maxRecDepth 10000
theorem list_eq {α : Type} [Inhabited α] {a b : List α} (hl : a.length = b.length) (h : ∀ i, i < a.length → a.getD i default = b.getD i default) : a = b := by
  apply List.ext_getElem hl
  intro i h1 h2
  have := h i h1
  simpa [List.getD, h1, h2] using this
theorem ac_slices_Equal_string (a b : List ByteArray) (ha : a.length ≤ 1048576) : AC Tryd.prog 105 [.pv (roL 1 cstr a), .pv (roL 1 cstr b)] [] (.pv (vbool (decide (a = b)))) [] := by
  refine AC.of_awp (T := T) T_ok hm Tryd.call105 Tryd.func105 rfl rfl rfl ?_
  conv => whnf
  refine ⟨fun h => ?_, fun h => ?_⟩
  · conv => whnf
    simp only [Bool.not_eq_true', decide_eq_false_iff_not] at h
    exact PSub.lit_sb (by symm; simp only [decide_eq_false_iff_not]; intro e; exact h (by rw [e]))
  conv => whnf
  simp only [Bool.not_eq_false', decide_eq_true_eq] at h
  refine ⟨Nat, fun k => k ≤ a.length ∧ ∀ j, j < k → a.getD j default = b.getD j default, fun k => ⟨[(0, .pv (roL 1 cstr a)), (1, .pv (roL 1 cstr b)), (12, .pv (vint a.length)), (13, .pv (vint k))], []⟩, fun k => a.length - k, 0, [], ⟨Nat.zero_le _, fun j h => absurd h (by omega)⟩, ⟨.rfl, .rfl, .rfl, .rfl⟩, fun k hk => ?_⟩
  conv => whnf
  refine ⟨fun h2 => ?_, fun h2 => ?_⟩
  · simp only [decide_eq_true_eq] at h2
    conv => whnf
    refine ⟨by kernel_rfl, ?_⟩
    conv => whnf
    refine ⟨by omega, ?_⟩
    conv => whnf
    refine ⟨by omega, ?_⟩
    conv => whnf
    refine ⟨by kernel_rfl, ?_⟩
    conv => whnf
    refine ⟨fun h3 => ?_, fun h3 => ?_⟩
    · conv => whnf
      simp only [Bool.not_eq_true', decide_eq_false_iff_not] at h3
      exact PSub.lit_sb (by symm; simp only [decide_eq_false_iff_not]; intro e; exact h3 (by rw [e]))
    · conv => whnf
      simp only [Bool.not_eq_false', decide_eq_true_eq, Int.toNat_natCast] at h3
      refine .inl ⟨wrap64 (by omega), ?_⟩
      conv => whnf
      refine ⟨k + 1, [], ⟨by omega, fun j hj => ?_⟩, by dsimp only; omega, .rfl, .rfl, .rfl, .rfl⟩
      by_cases e : j = k
      · subst e; exact h3
      · exact hk.2 j (by omega)
  · conv => whnf
    simp only [decide_eq_false_iff_not] at h2
    exact PSub.lit_sb (by symm; simp only [decide_eq_true_eq]; exact list_eq (by omega) fun i hi => hk.2 i (by omega))
end Go.Abs

namespace Go.Abs
open Go.Proofs
set_option maxRecDepth 10000
def idxN (l : List ByteArray) (n : Nat) (x : ByteArray) : Int := if firstI n (fun i => decide (l.getD i default = x)) < n then (firstI n (fun i => decide (l.getD i default = x)) : Int) else -1
theorem ac_slices_Index_string_n (l : List ByteArray) (n : Nat) (x : ByteArray) (hl : n ≤ 1048576) : AC Tryd.prog 59 [.pv (.ro 1 n fun i => cstr (l.getD i default)), .pv (vstr x)] [] (.pv (vint (idxN l n x))) [] := by
  refine AC.of_awp (T := T) T_ok hm Tryd.call59 Tryd.func59 rfl rfl rfl ?_
  conv => whnf
  refine ⟨Nat, fun k => k ≤ n ∧ ∀ j, j < k → decide (l.getD j default = x) = false, fun k => ⟨[(0, .pv (.ro 1 n fun i => cstr (l.getD i default))), (1, .pv (vstr x)), (7, .pv (vint n)), (8, .pv (vint k))], []⟩, fun k => n - k, 0, [], ⟨Nat.zero_le _, fun j h => absurd h (by omega)⟩, ⟨.rfl, .rfl, .rfl, .rfl⟩, fun k hk => ?_⟩
  conv => whnf
  refine ⟨fun h => ?_, fun h => ?_⟩
  · simp only [decide_eq_true_eq] at h
    refine ⟨by omega, ?_⟩
    conv => whnf
    refine ⟨fun h2 => ?_, fun h2 => ?_⟩
    · conv => whnf
      simp only [decide_eq_true_eq, Int.toNat_natCast] at h2
      have e : firstI n (fun i => decide (l.getD i default = x)) = k := firstI_at (by omega) (by simpa using h2.symm) hk.2
      exact PSub.int (by rw [idxN, e, if_pos (by omega)])
    · conv => whnf
      refine .inl ⟨wrap64 (by omega), ?_⟩
      conv => whnf
      simp only [decide_eq_false_iff_not, Int.toNat_natCast] at h2
      refine ⟨k + 1, [], ⟨by omega, fun j hj => ?_⟩, by dsimp only; omega, .rfl, .rfl, .rfl, .rfl⟩
      by_cases e : j = k
      · subst e; simpa using fun e => h2 e.symm
      · exact hk.2 j (by omega)
  · conv => whnf
    simp only [decide_eq_false_iff_not] at h
    have e : firstI n (fun i => decide (l.getD i default = x)) = n := firstI_none fun j hj => hk.2 j (by omega)
    exact PSub.int (by rw [idxN, e, if_neg (by omega)])
theorem idxN_mem {l : List ByteArray} {n : Nat} {x : ByteArray} : decide (0 ≤ idxN l n x) = memN l n x := by
  by_cases h : ∃ j, j < n ∧ l.getD j default = x
  · obtain ⟨j, hj, e⟩ := h
    rw [memN_true hj e]
    unfold idxN
    split
    · simp
    · rename_i hn
      exfalso
      have hnone : (List.range n).find? (fun i => decide (l.getD i default = x)) = none := by
        cases hf : (List.range n).find? (fun i => decide (l.getD i default = x)) with
        | none => rfl
        | some i =>
          exfalso
          apply hn
          simp only [firstI, hf]
          have := List.mem_of_find?_eq_some hf
          simpa using this
      rw [List.find?_eq_none] at hnone
      exact hnone j (by simpa using hj) (by simpa using e)
  · rw [memN_false fun j hj e => h ⟨j, hj, e⟩]
    have e : firstI n (fun i => decide (l.getD i default = x)) = n := firstI_none fun j hj => by simpa using fun e => h ⟨j, hj, e⟩
    unfold idxN
    rw [e, if_neg (by omega)]
    simp
theorem ac_slices_Contains_string_n (l : List ByteArray) (n : Nat) (x : ByteArray) (hl : n ≤ 1048576) : AC Tryd.prog 98 [.pv (.ro 1 n fun i => cstr (l.getD i default)), .pv (vstr x)] [] (.pv (vbool (memN l n x))) [] := by
  refine AC.of_awp (T := T) T_ok hm Tryd.call98 Tryd.func98 rfl rfl rfl ?_
  conv => whnf
  refine .inl ⟨_, ac_slices_Index_string_n l n x hl, ?_⟩
  conv => whnf
  exact PSub.sb idxN_mem
end Go.Abs

namespace Go.Abs
open Go.Proofs
set_option maxRecDepth 10000
def alikeB (a b : Attr) : Bool := decide (a.kind = b.kind) && decide (a.enum = b.enum)
theorem ac_cluster_alike (a b : Attr) (ha : smallA a) : AC Tryd.prog 104 [.pv (.agg (cAttr a)), .pv (.agg (cAttr b))] [] (.pv (vbool (alikeB a b))) [] := by
  refine AC.of_awp (T := T) T_ok hm Tryd.call104 Tryd.func104 rfl rfl rfl ?_
  conv => whnf
  refine ⟨fun h => ?_, fun h => ?_⟩
  · conv => whnf
    refine .inl ⟨_, ac_slices_Equal_string a.enum b.enum ha, ?_⟩
    conv => whnf
    exact PSub.sb (by simp [alikeB, h])
  · conv => whnf
    exact PSub.lit_sb (by simp [alikeB, h])
end Go.Abs

namespace Go.Abs
open Go.Proofs
set_option maxRecDepth 10000
def satI (n : Int) : Int := min (max n (-1099511627776)) 1099511627776
theorem ac_num_Sat (n : Int) : AC Tryd.prog 103 [.pv (vint n)] [] (.pv (vint (satI n))) [] := by
  refine AC.of_awp (T := T) T_ok hm Tryd.call103 Tryd.func103 rfl rfl rfl ?_
  conv => whnf
  exact PSub.int (by simp only [satI]; (repeat' split) <;> omega)
def suitsB (x : Eff) (a p : Attr) : Bool := if x.kind = 1 then decide (a.kind ≠ 4) && decide (fitsE a ⟨a.kind, x.n, ⟨#[]⟩⟩ = 0) else if x.kind = 2 then alikeB a p else if x.kind = 3 then decide (a.kind = 2) else decide (a.kind = 1)
theorem ac_cluster_suits (x : Eff) (a p : Attr) (ha : smallA a) : AC Tryd.prog 102 [.pv (.agg (cEff x)), .pv (.agg (cAttr a)), .pv (.agg (cAttr p))] [] (.pv (vbool (suitsB x a p))) [] := by
  refine AC.of_awp (T := T) T_ok hm Tryd.call102 Tryd.func102 rfl rfl rfl ?_
  conv => whnf
  repeat (any_goals (first
    | (refine ⟨fun (h : (_ : Bool) = true) => ?_, fun (h : (_ : Bool) = false) => ?_⟩ <;> (try simp only [decide_eq_true_eq, decide_eq_false_iff_not, Bool.not_eq_true', Bool.not_eq_false', Int.toNat_natCast, beq_iff_eq, decide_eq_decide, beq_eq_false_iff_ne, ne_eq, reduceCtorEq] at h) <;> (conv => whnf))
    | (refine .inl ⟨_, ac_value_Fits a ⟨a.kind, x.n, ⟨#[]⟩⟩ ha, ?_⟩; conv => whnf)
    | (refine .inl ⟨_, ac_cluster_alike a p ha, ?_⟩; conv => whnf)
    | (refine And.intro (by (try simp only [Int.toNat_natCast]); omega) ?_; conv => whnf)
    | (refine And.intro (show (_ : Bool) = true from by kernel_rfl) ?_; conv => whnf)
    | (refine .inl ⟨wrap64 (by omega), ?_⟩; conv => whnf)))
  all_goals (try simp only [decide_eq_true_eq, decide_eq_false_iff_not, Bool.not_eq_true', Bool.not_eq_false', Int.toNat_natCast, beq_iff_eq, decide_eq_decide, beq_eq_false_iff_ne, ne_eq, reduceCtorEq] at *)
  all_goals first
    | contradiction
    | (exfalso; omega)
    | exact PSub.rfl
    | (refine PSub.int ?_; simp only [suitsB]; (repeat' split) <;> first | rfl | omega | (simp_all [-List.getD_eq_getElem?_getD]; done) | (simp_all [-List.getD_eq_getElem?_getD]; omega))
    | (refine PSub.sb ?_; simp_all [suitsB, -List.getD_eq_getElem?_getD]; done)
    | (refine PSub.lit_sb ?_; simp_all [suitsB, -List.getD_eq_getElem?_getD]; done)
    | (refine PSub.sb_lit ?_; simp_all [suitsB, -List.getD_eq_getElem?_getD]; done)
    | (refine PSub.sb ?_; rw [Bool.eq_iff_iff]; simp_all [suitsB, -List.getD_eq_getElem?_getD]; done)
    | (refine PSub.lit_sb ?_; rw [Bool.eq_iff_iff]; simp_all [suitsB, -List.getD_eq_getElem?_getD]; done)
    | (refine PSub.sb_lit ?_; rw [Bool.eq_iff_iff]; simp_all [suitsB, -List.getD_eq_getElem?_getD]; done)
    | skip
def effE (c : Clu) (p : Attr) (x : Eff) : Int :=
  if x.kind < 1 ∨ 4 < x.kind then 7 else if ¬ attrAt c.attrs x.attr < c.attrs.length then 8 else if (attrOf c.attrs x.attr).writable = false then 24
  else if suitsB x (attrOf c.attrs x.attr) p = false then 11 else if x.kind = 3 ∧ satI x.n ≠ x.n then 2 else if (x.kind = 2 ∨ x.kind = 4) ∧ x.n ≠ 0 then 4 else 0
theorem small_attrOf {c : Clu} {s : ByteArray} (hc : smallK c) : smallA (attrOf c.attrs s) := by
  unfold attrOf
  split
  · exact hc.2.1 _
  · exact Nat.zero_le _
theorem ac_cluster_effect (c : Clu) (p : Attr) (x : Eff) (hc : smallK c) : AC Tryd.prog 101 [.pv (.agg (cClu c)), .pv (.agg (cAttr p)), .pv (.agg (cEff x))] [] (.pv (vint (effE c p x))) [] := by
  refine AC.of_awp (T := T) T_ok hm Tryd.call101 Tryd.func101 rfl rfl rfl ?_
  conv => whnf
  repeat (any_goals (first
    | (refine ⟨fun (h : (_ : Bool) = true) => ?_, fun (h : (_ : Bool) = false) => ?_⟩ <;> (try simp only [decide_eq_true_eq, decide_eq_false_iff_not, Bool.not_eq_true', Bool.not_eq_false', Int.toNat_natCast, beq_iff_eq, decide_eq_decide, beq_eq_false_iff_ne, ne_eq, reduceCtorEq] at h) <;> (conv => whnf))
    | (refine .inl ⟨_, ac_cluster_Attr c x.attr hc, ?_⟩; conv => whnf)
    | (refine .inl ⟨_, ac_cluster_suits x (attrOf c.attrs x.attr) p (small_attrOf hc), ?_⟩; conv => whnf)
    | (refine .inl ⟨_, ac_num_Sat x.n, ?_⟩; conv => whnf)
    | (refine And.intro (by (try simp only [Int.toNat_natCast]); omega) ?_; conv => whnf)
    | (refine And.intro (show (_ : Bool) = true from by kernel_rfl) ?_; conv => whnf)
    | (refine .inl ⟨wrap64 (by omega), ?_⟩; conv => whnf)))
  all_goals (try simp only [decide_eq_true_eq, decide_eq_false_iff_not, Bool.not_eq_true', Bool.not_eq_false', Int.toNat_natCast, beq_iff_eq, decide_eq_decide, beq_eq_false_iff_ne, ne_eq, reduceCtorEq] at *)
  all_goals first
    | contradiction
    | (exfalso; omega)
    | exact PSub.rfl
    | (refine PSub.int ?_; simp only [effE]; (repeat' split) <;> first | rfl | omega | (simp_all [-List.getD_eq_getElem?_getD]; done) | (simp_all [-List.getD_eq_getElem?_getD]; omega))
    | (refine PSub.sb ?_; simp_all [effE, -List.getD_eq_getElem?_getD]; done)
    | (refine PSub.lit_sb ?_; simp_all [effE, -List.getD_eq_getElem?_getD]; done)
    | (refine PSub.sb_lit ?_; simp_all [effE, -List.getD_eq_getElem?_getD]; done)
    | (refine PSub.sb ?_; rw [Bool.eq_iff_iff]; simp_all [effE, -List.getD_eq_getElem?_getD]; done)
    | (refine PSub.lit_sb ?_; rw [Bool.eq_iff_iff]; simp_all [effE, -List.getD_eq_getElem?_getD]; done)
    | (refine PSub.sb_lit ?_; rw [Bool.eq_iff_iff]; simp_all [effE, -List.getD_eq_getElem?_getD]; done)
    | skip
def zeroA (a : Attr) : Bool := decide (a = noAttr)
theorem zeroA_iff {a : Attr} : zeroA a = true ↔ (a.name = ⟨#[]⟩ ∧ a.kind = 0 ∧ a.min = 0 ∧ a.max = 0 ∧ a.enum.length = 0 ∧ a.writable = false ∧ a.safety = false) := by
  obtain ⟨a1, a2, a3, a4, a5, a6, a7⟩ := a
  simp [zeroA, noAttr]
theorem ac_cluster_zero (a : Attr) : AC Tryd.prog 100 [.pv (.agg (cAttr a))] [] (.pv (vbool (zeroA a))) [] := by
  refine AC.of_awp (T := T) T_ok hm Tryd.call100 Tryd.func100 rfl rfl rfl ?_
  conv => whnf
  repeat (any_goals (first
    | (refine ⟨fun (h : (_ : Bool) = true) => ?_, fun (h : (_ : Bool) = false) => ?_⟩ <;> (try simp only [decide_eq_true_eq, decide_eq_false_iff_not, Bool.not_eq_true', Bool.not_eq_false', Int.toNat_natCast, beq_iff_eq, decide_eq_decide, beq_eq_false_iff_ne, ne_eq, reduceCtorEq] at h) <;> (conv => whnf))
    | (refine And.intro (by (try simp only [Int.toNat_natCast]); omega) ?_; conv => whnf)
    | (refine And.intro (show (_ : Bool) = true from by kernel_rfl) ?_; conv => whnf)
    | (refine .inl ⟨wrap64 (by omega), ?_⟩; conv => whnf)))
  all_goals first | (refine PSub.sb ?_ ; rw [Bool.eq_iff_iff, zeroA_iff]; simp_all; done) | (refine PSub.lit_sb ?_ ; rw [Bool.eq_iff_iff, zeroA_iff]; simp_all; done) | skip
end Go.Abs

namespace Go.Abs
open Go.Proofs
set_option maxRecDepth 10000
def anyN (n : Nat) (p : Nat → Bool) : Bool := (List.range n).any p
theorem anyN_true {n k : Nat} {p : Nat → Bool} (hk : k < n) (h : p k = true) : anyN n p = true := by
  simp only [anyN, List.any_eq_true, List.mem_range]
  exact ⟨k, hk, h⟩
theorem anyN_false {n : Nat} {p : Nat → Bool} (h : ∀ j, j < n → p j = false) : anyN n p = false := by
  rw [← Bool.not_eq_true]
  simp only [anyN, List.any_eq_true, List.mem_range]
  rintro ⟨j, hj, e⟩
  rw [h j hj] at e; cases e
def cmdE (c : Clu) (i : Nat) : Int :=
  if validName (c.commands.getD i default).name = false then 10 else if anyN i (fun j => decide ((c.commands.getD j default).name = (c.commands.getD i default).name)) = true then 9
  else if (c.commands.getD i default).param.kind = 0 ∧ zeroA (c.commands.getD i default).param = false then 4
  else if (c.commands.getD i default).param.kind ≠ 0 ∧ defE (c.commands.getD i default).param ≠ 0 then defE (c.commands.getD i default).param
  else firstE (c.commands.getD i default).effects.length fun j => effE c (c.commands.getD i default).param ((c.commands.getD i default).effects.getD j default)
def zAttr : List PV := [vstr ⟨#[]⟩, vint 0, vint 0, vint 0, .val (.slice none 0 0), .val (.bool false), .val (.bool false)]
theorem noAttr_cells : PSubs zAttr (cAttr noAttr) := ⟨.rfl, .rfl, .rfl, .rfl, PSub.nil_ro _ _, PSub.lit_sb rfl, PSub.lit_sb rfl, trivial⟩
theorem ac_cluster_numbered (c : Clu) (i : Nat) (hc : smallK c) (hi : i < c.commands.length) : AC Tryd.prog 97 [.pv (.agg (cClu c)), .pv (vint i)] [] (.pv (vint (cmdE c i))) [] := by
  have hl : c.commands.length ≤ 1048576 := hc.2.2.1
  have hd := hc.2.2.2.1 i
  have hd2 : (c.commands.getD i default).effects.length ≤ 1048576 := hd.2
  refine AC.of_awp (T := T) T_ok hm Tryd.call97 Tryd.func97 rfl rfl rfl ?_
  conv => whnf
  refine And.intro (by omega) ?_
  conv => whnf
  refine .inl ⟨_, ac_names_Valid (c.commands.getD i default).name, ?_⟩
  conv => whnf
  refine ⟨fun h => ?_, fun h => ?_⟩ <;> (try simp only [decide_eq_true_eq, decide_eq_false_iff_not, Bool.not_eq_true', Bool.not_eq_false', Int.toNat_natCast, beq_iff_eq, decide_eq_decide, beq_eq_false_iff_ne, ne_eq, reduceCtorEq] at h) <;> (conv => whnf)
  · exact PSub.int (by simp [cmdE, h, -List.getD_eq_getElem?_getD])
  refine And.intro (by omega) ?_
  conv => whnf
  have hv := h
  refine loop_k (ι := Nat) [2, 5, 24, 25] [2, 5] (fun k => k ≤ i ∧ (∀ j, j < k → decide ((c.commands.getD j default).name = (c.commands.getD i default).name) = false)) (fun k => i - k) 0 (fun k => [(26, .pv (vint k))]) (fun _ => []) [] ⟨Nat.zero_le _, fun j h => absurd h (by omega)⟩ ?_ (fun k hk => ?_)
  · (repeat' (first | exact PSub.rfl | exact rfl | exact PSubs.rfl | exact trivial | exact PSub.lit_sb rfl | refine And.intro ?_ ?_))
  obtain ⟨hkn, hinv⟩ := hk
  conv => whnf
  repeat (any_goals (first
    | (refine ⟨fun (h : (_ : Bool) = true) => ?_, fun (h : (_ : Bool) = false) => ?_⟩ <;> (try simp only [decide_eq_true_eq, decide_eq_false_iff_not, Bool.not_eq_true', Bool.not_eq_false', Int.toNat_natCast, beq_iff_eq, decide_eq_decide, beq_eq_false_iff_ne, ne_eq, reduceCtorEq] at h) <;> (conv => whnf))
    | (refine .inl ⟨_, ac_cluster_zero (c.commands.getD i default).param, ?_⟩; conv => whnf)
    | (refine .inl ⟨_, ac_value_Def (c.commands.getD i default).param hd.1, ?_⟩; conv => whnf)
    | (refine And.intro (by (try simp only [Int.toNat_natCast]); omega) ?_; conv => whnf)
    | (refine And.intro (show (_ : Bool) = true from by kernel_rfl) ?_; conv => whnf)
    | (refine .inl ⟨wrap64 (by omega), ?_⟩; conv => whnf)))
  case' refine_2.refine_2.refine_1.refine_2 =>
    refine ⟨k + 1, [], ⟨by omega, ?_⟩, by first | omega | (dsimp only; omega), ?_⟩
    rotate_left
    · (repeat' (first | exact PSub.rfl | exact rfl | exact PSubs.rfl | exact trivial | exact PSub.lit_sb rfl | refine And.intro ?_ ?_))
    intro j hj
    by_cases e : j = k
    · subst e; first | exact h | simpa [-List.getD_eq_getElem?_getD] using h | simp_all [-List.getD_eq_getElem?_getD]
    · exact hinv j (by omega)
  · have e := anyN_true (n := i) (p := fun j => decide ((c.commands.getD j default).name = (c.commands.getD i default).name)) (k := k) (by omega) (by simpa [-List.getD_eq_getElem?_getD] using h)
    exact PSub.int (by simp [cmdE, hv, e, -List.getD_eq_getElem?_getD])
  all_goals have ef : anyN i (fun j => decide ((c.commands.getD j default).name = (c.commands.getD i default).name)) = false := anyN_false fun j hj => hinv j (by omega)
  all_goals try (exact PSub.int (by simp_all [cmdE, -List.getD_eq_getElem?_getD]; done))
  all_goals
    have e0 : cmdE c i = firstE (c.commands.getD i default).effects.length fun j => effE c (c.commands.getD i default).param ((c.commands.getD i default).effects.getD j default) := by simp_all [cmdE, -List.getD_eq_getElem?_getD]
    rw [e0]
    clear hinv hkn
    refine loop_k (ι := Nat) [2, 5, 51, 52] [2, 5] (fun k2 => k2 ≤ (c.commands.getD i default).effects.length ∧ (∀ j, j < k2 → effE c (c.commands.getD i default).param ((c.commands.getD i default).effects.getD j default) = 0)) (fun k2 => (c.commands.getD i default).effects.length - k2) 0 (fun k2 => [(53, .pv (vint k2))]) (fun _ => []) [] ⟨Nat.zero_le _, fun j h => absurd h (by omega)⟩ ?_ (fun k2 hk => ?_)
    · (repeat' (first | exact PSub.rfl | exact rfl | exact PSubs.rfl | exact trivial | exact PSub.lit_sb rfl | refine And.intro ?_ ?_))
    obtain ⟨hkn, hinv⟩ := hk
    conv => whnf
    repeat (any_goals (first
      | (refine ⟨fun (h : (_ : Bool) = true) => ?_, fun (h : (_ : Bool) = false) => ?_⟩ <;> (try simp only [decide_eq_true_eq, decide_eq_false_iff_not, Bool.not_eq_true', Bool.not_eq_false', Int.toNat_natCast, beq_iff_eq, decide_eq_decide, beq_eq_false_iff_ne, ne_eq, reduceCtorEq] at h) <;> (conv => whnf))
      | (refine .inl ⟨_, ac_cluster_effect c (c.commands.getD i default).param ((c.commands.getD i default).effects.getD k2 default) hc, ?_⟩; conv => whnf)
      | (refine And.intro (by (try simp only [Int.toNat_natCast]); omega) ?_; conv => whnf)
      | (refine And.intro (show (_ : Bool) = true from by kernel_rfl) ?_; conv => whnf)
      | (refine .inl ⟨wrap64 (by omega), ?_⟩; conv => whnf)))
    · exact PSub.int (by rw [firstE_at (k := k2) (by omega) h hinv])
    · refine ⟨k2 + 1, [], ⟨by omega, ?_⟩, by first | omega | (dsimp only; omega), ?_⟩
      rotate_left
      · (repeat' (first | exact PSub.rfl | exact rfl | exact PSubs.rfl | exact trivial | exact PSub.lit_sb rfl | refine And.intro ?_ ?_))
      intro j hj
      by_cases e : j = k2
      · subst e; first | exact h | simpa [-List.getD_eq_getElem?_getD] using h | simp_all [-List.getD_eq_getElem?_getD]
      · exact hinv j (by omega)
    · exact PSub.int (by rw [firstE_none fun j hj => hinv j (by omega)])
end Go.Abs

namespace Go.Abs
open Go.Proofs
set_option maxRecDepth 10000
def attrE (l : List Attr) (i : Nat) : Int := if defE (l.getD i default) ≠ 0 then defE (l.getD i default) else if anyN i (fun j => decide ((l.getD j default).name = (l.getD i default).name)) = true then 9 else 0
def evE (l : List ByteArray) (i : Nat) : Int := if validName (l.getD i default) = false then 10 else if memN l i (l.getD i default) = true then 9 else 0
def checkE (c : Clu) : Int :=
  if validName c.name = false then 10 else if wideB c = true then 3
  else if firstE c.attrs.length (attrE c.attrs) ≠ 0 then firstE c.attrs.length (attrE c.attrs)
  else if firstE c.commands.length (cmdE c) ≠ 0 then firstE c.commands.length (cmdE c)
  else firstE c.events.length (evE c.events)
theorem ac_cluster_Check (c : Clu) (hc : smallK c) : AC Tryd.prog 89 [.pv (.agg (cClu c))] [] (.pv (vint (checkE c))) [] := by
  have hl1 : c.attrs.length ≤ 1048576 := hc.1
  have hl2 : c.commands.length ≤ 1048576 := hc.2.2.1
  have hl3 : c.events.length ≤ 1048576 := hc.2.2.2.2
  refine AC.of_awp (T := T) T_ok hm Tryd.call89 Tryd.func89 rfl rfl rfl ?_
  conv => whnf
  refine .inl ⟨_, ac_names_Valid c.name, ?_⟩
  conv => whnf
  refine ⟨fun h => ?_, fun h => ?_⟩ <;> (try simp only [decide_eq_true_eq, decide_eq_false_iff_not, Bool.not_eq_true', Bool.not_eq_false', Int.toNat_natCast, beq_iff_eq, decide_eq_decide, beq_eq_false_iff_ne, ne_eq, reduceCtorEq] at h) <;> (conv => whnf)
  · exact PSub.int (by simp [checkE, h, -List.getD_eq_getElem?_getD])
  have hv := h
  refine .inl ⟨_, ac_cluster_wide c hc, ?_⟩
  conv => whnf
  refine ⟨fun h => ?_, fun h => ?_⟩ <;> (try simp only [decide_eq_true_eq, decide_eq_false_iff_not, Bool.not_eq_true', Bool.not_eq_false', Int.toNat_natCast, beq_iff_eq, decide_eq_decide, beq_eq_false_iff_ne, ne_eq, reduceCtorEq] at h) <;> (conv => whnf)
  · exact PSub.int (by simp [checkE, h, hv, -List.getD_eq_getElem?_getD])
  have hw := h
  refine loop_k (ι := Nat) [1, 19, 20] [1] (fun k => k ≤ c.attrs.length ∧ (∀ j, j < k → attrE c.attrs j = 0)) (fun k => c.attrs.length - k) 0 (fun k => [(21, .pv (vint k))]) (fun _ => []) [] ⟨Nat.zero_le _, fun j h => absurd h (by omega)⟩ ?_ (fun k hk => ?_)
  · (repeat' (first | exact PSub.rfl | exact rfl | exact PSubs.rfl | exact trivial | exact PSub.lit_sb rfl | refine And.intro ?_ ?_))
  obtain ⟨hkn, hinv⟩ := hk
  conv => whnf
  refine ⟨fun h => ?_, fun h => ?_⟩ <;> (try simp only [decide_eq_true_eq, decide_eq_false_iff_not, Bool.not_eq_true', Bool.not_eq_false', Int.toNat_natCast, beq_iff_eq, decide_eq_decide, beq_eq_false_iff_ne, ne_eq, reduceCtorEq] at h) <;> (conv => whnf)
  · refine And.intro (by omega) ?_
    conv => whnf
    refine .inl ⟨_, ac_value_Def (c.attrs.getD k default) (hc.2.1 k), ?_⟩
    conv => whnf
    refine ⟨fun h => ?_, fun h => ?_⟩ <;> (try simp only [decide_eq_true_eq, decide_eq_false_iff_not, Bool.not_eq_true', Bool.not_eq_false', Int.toNat_natCast, beq_iff_eq, decide_eq_decide, beq_eq_false_iff_ne, ne_eq, reduceCtorEq] at h) <;> (conv => whnf)
    · have e : attrE c.attrs k = defE (c.attrs.getD k default) := by simp [attrE, h, -List.getD_eq_getElem?_getD]
      have e2 := firstE_at (n := c.attrs.length) (k := k) (f := attrE c.attrs) (by omega) (by rw [e]; exact h) hinv
      rw [e] at e2
      exact PSub.int (by simp [checkE, e2, h, hv, hw, -List.getD_eq_getElem?_getD])
    have hd := h
    refine And.intro (by omega) ?_
    conv => whnf
    have hinv1 := hinv
    refine loop_k (ι := Nat) [1, 4, 19, 20, 21, 34, 35] [1, 4] (fun k2 => k2 ≤ k ∧ (∀ j, j < k2 → decide ((c.attrs.getD j default).name = (c.attrs.getD k default).name) = false)) (fun k2 => k - k2) 0 (fun k2 => [(36, .pv (vint k2))]) (fun _ => []) [] ⟨Nat.zero_le _, fun j h => absurd h (by omega)⟩ ?_ (fun k2 hk => ?_)
    · (repeat' (first | exact PSub.rfl | exact rfl | exact PSubs.rfl | exact trivial | exact PSub.lit_sb rfl | refine And.intro ?_ ?_))
    obtain ⟨hkn, hinv⟩ := hk
    conv => whnf
    repeat (any_goals (first
      | (refine ⟨fun (h : (_ : Bool) = true) => ?_, fun (h : (_ : Bool) = false) => ?_⟩ <;> (try simp only [decide_eq_true_eq, decide_eq_false_iff_not, Bool.not_eq_true', Bool.not_eq_false', Int.toNat_natCast, beq_iff_eq, decide_eq_decide, beq_eq_false_iff_ne, ne_eq, reduceCtorEq] at h) <;> (conv => whnf))
      | (refine And.intro (by (try simp only [Int.toNat_natCast]); omega) ?_; conv => whnf)
      | (refine And.intro (show (_ : Bool) = true from by kernel_rfl) ?_; conv => whnf)
      | (refine .inl ⟨wrap64 (by omega), ?_⟩; conv => whnf)))
    · have e0 := anyN_true (n := k) (k := k2) (p := fun j => decide ((c.attrs.getD j default).name = (c.attrs.getD k default).name)) (by omega) (by simpa [-List.getD_eq_getElem?_getD] using h)
      have e : attrE c.attrs k = 9 := by simp [attrE, hd, e0, -List.getD_eq_getElem?_getD]
      have e2 := firstE_at (n := c.attrs.length) (k := k) (f := attrE c.attrs) (by omega) (by rw [e]; decide) hinv1
      rw [e] at e2
      exact PSub.int (by simp [checkE, e2, hv, hw, -List.getD_eq_getElem?_getD])
    · refine ⟨k2 + 1, [], ⟨by omega, ?_⟩, by first | omega | (dsimp only; omega), ?_⟩
      rotate_left
      · (repeat' (first | exact PSub.rfl | exact rfl | exact PSubs.rfl | exact trivial | exact PSub.lit_sb rfl | refine And.intro ?_ ?_))
      intro j hj
      by_cases e : j = k2
      · subst e; first | exact h | simpa [-List.getD_eq_getElem?_getD] using h | simp_all [-List.getD_eq_getElem?_getD]
      · exact hinv j (by omega)
    · have e0 := anyN_false (n := k) (p := fun j => decide ((c.attrs.getD j default).name = (c.attrs.getD k default).name)) (fun j hj => hinv j (by omega))
      have e : attrE c.attrs k = 0 := by simp [attrE, hd, e0, -List.getD_eq_getElem?_getD]
      refine ⟨k + 1, [], ⟨by omega, ?_⟩, by first | omega | (dsimp only; omega), ?_⟩
      rotate_left
      · (repeat' (first | exact PSub.rfl | exact rfl | exact PSubs.rfl | exact trivial | exact PSub.lit_sb rfl | refine And.intro ?_ ?_))
      intro j hj
      by_cases ee : j = k
      · subst ee; exact e
      · exact hinv1 j (by omega)
  have e1 : firstE c.attrs.length (attrE c.attrs) = 0 := firstE_none fun j hj => hinv j (by omega)
  clear hinv hkn h
  refine loop_k (ι := Nat) [1, 49] [1] (fun k => k ≤ c.commands.length ∧ (∀ j, j < k → cmdE c j = 0)) (fun k => c.commands.length - k) 0 (fun k => [(50, .pv (vint k))]) (fun _ => []) [] ⟨Nat.zero_le _, fun j h => absurd h (by omega)⟩ ?_ (fun k hk => ?_)
  · (repeat' (first | exact PSub.rfl | exact rfl | exact PSubs.rfl | exact trivial | exact PSub.lit_sb rfl | refine And.intro ?_ ?_))
  obtain ⟨hkn, hinv⟩ := hk
  conv => whnf
  refine ⟨fun h => ?_, fun h => ?_⟩ <;> (try simp only [decide_eq_true_eq, decide_eq_false_iff_not, Bool.not_eq_true', Bool.not_eq_false', Int.toNat_natCast, beq_iff_eq, decide_eq_decide, beq_eq_false_iff_ne, ne_eq, reduceCtorEq] at h) <;> (conv => whnf)
  · refine .inl ⟨_, ac_cluster_numbered c k hc (by omega), ?_⟩
    conv => whnf
    refine ⟨fun h => ?_, fun h => ?_⟩ <;> (try simp only [decide_eq_true_eq, decide_eq_false_iff_not, Bool.not_eq_true', Bool.not_eq_false', Int.toNat_natCast, beq_iff_eq, decide_eq_decide, beq_eq_false_iff_ne, ne_eq, reduceCtorEq] at h) <;> (conv => whnf)
    · have e2 := firstE_at (n := c.commands.length) (k := k) (f := cmdE c) (by omega) h hinv
      exact PSub.int (by simp [checkE, e1, e2, h, hv, hw, -List.getD_eq_getElem?_getD])
    refine .inl ⟨wrap64 (by omega), ?_⟩
    conv => whnf
    refine ⟨k + 1, [], ⟨by omega, ?_⟩, by first | omega | (dsimp only; omega), ?_⟩
    rotate_left
    · (repeat' (first | exact PSub.rfl | exact rfl | exact PSubs.rfl | exact trivial | exact PSub.lit_sb rfl | refine And.intro ?_ ?_))
    intro j hj
    by_cases e : j = k
    · subst e; first | exact h | simpa [-List.getD_eq_getElem?_getD] using h | simp_all [-List.getD_eq_getElem?_getD]
    · exact hinv j (by omega)
  have e2 : firstE c.commands.length (cmdE c) = 0 := firstE_none fun j hj => hinv j (by omega)
  have e0 : checkE c = firstE c.events.length (evE c.events) := by simp [checkE, e1, e2, hv, hw, -List.getD_eq_getElem?_getD]
  rw [e0]
  clear hinv hkn h
  refine loop_k (ι := Nat) [1, 61, 62] [1] (fun k => k ≤ c.events.length ∧ (∀ j, j < k → evE c.events j = 0)) (fun k => c.events.length - k) 0 (fun k => [(63, .pv (vint k))]) (fun _ => []) [] ⟨Nat.zero_le _, fun j h => absurd h (by omega)⟩ ?_ (fun k hk => ?_)
  · (repeat' (first | exact PSub.rfl | exact rfl | exact PSubs.rfl | exact trivial | exact PSub.lit_sb rfl | refine And.intro ?_ ?_))
  obtain ⟨hkn, hinv⟩ := hk
  conv => whnf
  repeat (any_goals (first
    | (refine ⟨fun (h : (_ : Bool) = true) => ?_, fun (h : (_ : Bool) = false) => ?_⟩ <;> (try simp only [decide_eq_true_eq, decide_eq_false_iff_not, Bool.not_eq_true', Bool.not_eq_false', Int.toNat_natCast, beq_iff_eq, decide_eq_decide, beq_eq_false_iff_ne, ne_eq, reduceCtorEq] at h) <;> (conv => whnf))
    | (refine .inl ⟨_, ac_names_Valid (c.events.getD k default), ?_⟩; conv => whnf)
    | (refine .inl ⟨_, ac_slices_Contains_string_n c.events k (c.events.getD k default) (by omega), ?_⟩; conv => whnf)
    | (refine And.intro (by (try simp only [Int.toNat_natCast]); omega) ?_; conv => whnf)
    | (refine And.intro (show (_ : Bool) = true from by kernel_rfl) ?_; conv => whnf)
    | (refine .inl ⟨wrap64 (by omega), ?_⟩; conv => whnf)))
  · have e : evE c.events k = 10 := by simp [evE, h, -List.getD_eq_getElem?_getD]
    exact PSub.int (by rw [firstE_at (k := k) (by omega) (by rw [e]; decide) hinv, e])
  · rename_i h'
    have e : evE c.events k = 9 := by simp [evE, h, h', -List.getD_eq_getElem?_getD]
    exact PSub.int (by rw [firstE_at (k := k) (by omega) (by rw [e]; decide) hinv, e])
  · rename_i h'
    refine ⟨k + 1, [], ⟨by omega, ?_⟩, by first | omega | (dsimp only; omega), ?_⟩
    rotate_left
    · (repeat' (first | exact PSub.rfl | exact rfl | exact PSubs.rfl | exact trivial | exact PSub.lit_sb rfl | refine And.intro ?_ ?_))
    intro j hj
    by_cases ee : j = k
    · subst ee; simp [evE, h, h', -List.getD_eq_getElem?_getD]
    · exact hinv j (by omega)
  · exact PSub.int (by rw [firstE_none fun j hj => hinv j (by omega)])
end Go.Abs

namespace Go.Abs
open Go.Proofs
set_option maxRecDepth 10000
def smallKs (l : List Clu) : Prop := smallL l ∧ ∀ i, smallK (l.getD i default)
def cluE (l : List Clu) (i : Nat) : Int := if checkE (l.getD i default) ≠ 0 then checkE (l.getD i default) else if anyN i (fun j => decide ((l.getD j default).name = (l.getD i default).name)) = true then 9 else 0
def allE (l : List Clu) : Int := if 256 < l.length then 3 else firstE l.length (cluE l)
theorem ac_cluster_All (l : List Clu) (hl : smallKs l) : AC Tryd.prog 72 [.pv (roL 4 cClu l)] [] (.pv (vint (allE l))) [] := by
  have hl1 : l.length ≤ 1048576 := hl.1
  refine AC.of_awp (T := T) T_ok hm Tryd.call72 Tryd.func72 rfl rfl rfl ?_
  conv => whnf
  refine ⟨fun h => ?_, fun h => ?_⟩ <;> (try simp only [decide_eq_true_eq, decide_eq_false_iff_not, Bool.not_eq_true', Bool.not_eq_false', Int.toNat_natCast, beq_iff_eq, decide_eq_decide, beq_eq_false_iff_ne, ne_eq, reduceCtorEq] at h) <;> (conv => whnf)
  · exact PSub.int (by rw [allE, if_pos (by omega)])
  rw [allE, if_neg (by omega)]
  clear h
  refine loop_k (ι := Nat) [0, 11, 12] [] (fun k => k ≤ l.length ∧ (∀ j, j < k → cluE l j = 0)) (fun k => l.length - k) 0 (fun k => [(13, .pv (vint k))]) (fun _ => []) [] ⟨Nat.zero_le _, fun j h => absurd h (by omega)⟩ ?_ (fun k hk => ?_)
  · (repeat' (first | exact PSub.rfl | exact rfl | exact PSubs.rfl | exact trivial | exact PSub.lit_sb rfl | refine And.intro ?_ ?_))
  obtain ⟨hkn, hinv⟩ := hk
  conv => whnf
  repeat (any_goals (first
    | (refine ⟨fun (h : (_ : Bool) = true) => ?_, fun (h : (_ : Bool) = false) => ?_⟩ <;> (try simp only [decide_eq_true_eq, decide_eq_false_iff_not, Bool.not_eq_true', Bool.not_eq_false', Int.toNat_natCast, beq_iff_eq, decide_eq_decide, beq_eq_false_iff_ne, ne_eq, reduceCtorEq] at h) <;> (conv => whnf))
    | (refine .inl ⟨_, ac_cluster_Check (l.getD k default) (hl.2 k), ?_⟩; conv => whnf)
    | (refine And.intro (by (try simp only [Int.toNat_natCast]); omega) ?_; conv => whnf)
    | (refine And.intro (show (_ : Bool) = true from by kernel_rfl) ?_; conv => whnf)
    | (refine .inl ⟨wrap64 (by omega), ?_⟩; conv => whnf)))
  · have e : cluE l k = checkE (l.getD k default) := by simp [cluE, h, -List.getD_eq_getElem?_getD]
    exact PSub.int (by rw [firstE_at (k := k) (by omega) (by rw [e]; exact h) hinv, e])
  · have hd := h
    have hinv1 := hinv
    refine loop_k (ι := Nat) [0, 4, 11, 12, 13, 25, 26] [4] (fun k2 => k2 ≤ k ∧ (∀ j, j < k2 → decide ((l.getD j default).name = (l.getD k default).name) = false)) (fun k2 => k - k2) 0 (fun k2 => [(27, .pv (vint k2))]) (fun _ => []) [] ⟨Nat.zero_le _, fun j h => absurd h (by omega)⟩ ?_ (fun k2 hk => ?_)
    · (repeat' (first | exact PSub.rfl | exact rfl | exact PSubs.rfl | exact trivial | exact PSub.lit_sb rfl | refine And.intro ?_ ?_))
    obtain ⟨hkn, hinv⟩ := hk
    conv => whnf
    repeat (any_goals (first
      | (refine ⟨fun (h : (_ : Bool) = true) => ?_, fun (h : (_ : Bool) = false) => ?_⟩ <;> (try simp only [decide_eq_true_eq, decide_eq_false_iff_not, Bool.not_eq_true', Bool.not_eq_false', Int.toNat_natCast, beq_iff_eq, decide_eq_decide, beq_eq_false_iff_ne, ne_eq, reduceCtorEq] at h) <;> (conv => whnf))
      | (refine And.intro (by (try simp only [Int.toNat_natCast]); omega) ?_; conv => whnf)
      | (refine And.intro (show (_ : Bool) = true from by kernel_rfl) ?_; conv => whnf)
      | (refine .inl ⟨wrap64 (by omega), ?_⟩; conv => whnf)))
    · have e := anyN_true (n := k) (k := k2) (p := fun j => decide ((l.getD j default).name = (l.getD k default).name)) (by omega) (by simpa [-List.getD_eq_getElem?_getD] using h)
      have e : cluE l k = 9 := by simp [cluE, hd, e, -List.getD_eq_getElem?_getD]
      exact PSub.int (by rw [firstE_at (k := k) (by omega) (by rw [e]; decide) hinv1, e])
    · refine ⟨k2 + 1, [], ⟨by omega, ?_⟩, by first | omega | (dsimp only; omega), ?_⟩
      rotate_left
      · (repeat' (first | exact PSub.rfl | exact rfl | exact PSubs.rfl | exact trivial | exact PSub.lit_sb rfl | refine And.intro ?_ ?_))
      intro j hj
      by_cases e : j = k2
      · subst e; first | exact h | simpa [-List.getD_eq_getElem?_getD] using h | simp_all [-List.getD_eq_getElem?_getD]
      · exact hinv j (by omega)
    · have e := anyN_false (n := k) (p := fun j => decide ((l.getD j default).name = (l.getD k default).name)) fun j hj => hinv j (by omega)
      refine ⟨k + 1, [], ⟨by omega, ?_⟩, by first | omega | (dsimp only; omega), ?_⟩
      rotate_left
      · (repeat' (first | exact PSub.rfl | exact rfl | exact PSubs.rfl | exact trivial | exact PSub.lit_sb rfl | refine And.intro ?_ ?_))
      intro j hj
      by_cases ee : j = k
      · subst ee; simp [cluE, hd, e, -List.getD_eq_getElem?_getD]
      · exact hinv1 j (by omega)
  · exact PSub.int (by rw [firstE_none fun j hj => hinv j (by omega)])
end Go.Abs

namespace Go.Abs
open Go.Proofs
set_option maxRecDepth 10000
def lastC (l : List Clu) : Nat → ByteArray → Option Clu
  | 0, _ => none
  | k + 1, s => if (l.getD k default).name = s then some (l.getD k default) else lastC l k s
def cluLook (f : ByteArray → Option Clu) : Value → Option PV
  | .string s => (f s).map fun c => .agg (cClu c)
  | _ => none
theorem ac_device_clusters (H : Hom) (hh : smallL H.clusters) : AC Tryd.prog 46 [.pv (.agg (cHom H))] [] (.pv (.map (.one .str) (cluLook (lastC H.clusters H.clusters.length)))) [] := by
  have hl : H.clusters.length ≤ 1048576 := hh
  refine AC.of_awp (T := T) T_ok hm Tryd.call46 Tryd.func46 rfl rfl rfl ?_
  conv => whnf
  refine loop_k (ι := Nat) [3, 8, 9] [] (fun k => k ≤ H.clusters.length ∧ True) (fun k => H.clusters.length - k) 0 (fun k => [(10, .pv (vint k))]) (fun k => [(6, .map (.one .str) (cluLook (lastC H.clusters k)))]) [] ⟨Nat.zero_le _, trivial⟩ ?_ (fun k hk => ?_)
  · (repeat' (first | exact PSub.rfl | exact rfl | exact PSubs.rfl | exact trivial | exact PSub.lit_sb rfl | refine And.intro ?_ ?_)); all_goals (rintro _ ⟨s, rfl⟩; rfl)
  obtain ⟨hkn, hinv⟩ := hk
  conv => whnf
  repeat (any_goals (first
    | (refine ⟨fun (h : (_ : Bool) = true) => ?_, fun (h : (_ : Bool) = false) => ?_⟩ <;> (try simp only [decide_eq_true_eq, decide_eq_false_iff_not, Bool.not_eq_true', Bool.not_eq_false', Int.toNat_natCast, beq_iff_eq, decide_eq_decide, beq_eq_false_iff_ne, ne_eq, reduceCtorEq] at h) <;> (conv => whnf))
    | (refine And.intro (by (try simp only [Int.toNat_natCast]); omega) ?_; conv => whnf)
    | (refine And.intro (show (_ : Bool) = true from by kernel_rfl) ?_; conv => whnf)
    | (refine .inl ⟨wrap64 (by omega), ?_⟩; conv => whnf)))
  · refine ⟨k + 1, [], ⟨by omega, trivial⟩, by omega, ?_⟩
    (repeat' (first | exact PSub.rfl | exact rfl | exact PSubs.rfl | exact trivial | exact PSub.lit_sb rfl | refine And.intro ?_ ?_))
    rintro _ ⟨s, rfl⟩
    simp only [Int.toNat_natCast, lookPut, cluLook, lastC, Value.string.injEq]
    by_cases e : s = (H.clusters.getD k default).name
    · simp [e, -List.getD_eq_getElem?_getD]; rfl
    · rw [if_neg e, if_neg (fun x => e x.symm)]
  · have e : k = H.clusters.length := by omega
    subst e
    exact PSub.rfl
def numB (d : Dev) : Bool := !(decide (d.id < 1) || decide (250 < d.id) || decide (d.vendor < 0) || decide (255 < d.vendor)) && (if d.sleepy then decide (4 ≤ d.poll) && decide (d.poll ≤ 3600) else decide (d.poll = 0))
theorem ac_device_numbers (d : Dev) : AC Tryd.prog 73 [.pv (.agg (cDev d))] [] (.pv (vbool (numB d))) [] := by
  refine AC.of_awp (T := T) T_ok hm Tryd.call73 Tryd.func73 rfl rfl rfl ?_
  conv => whnf
  repeat (any_goals (first
    | (refine ⟨fun (h : (_ : Bool) = true) => ?_, fun (h : (_ : Bool) = false) => ?_⟩ <;> (try simp only [decide_eq_true_eq, decide_eq_false_iff_not, Bool.not_eq_true', Bool.not_eq_false', Int.toNat_natCast, beq_iff_eq, decide_eq_decide, beq_eq_false_iff_ne, ne_eq, reduceCtorEq] at h) <;> (conv => whnf))
    | (refine And.intro (by (try simp only [Int.toNat_natCast]); omega) ?_; conv => whnf)
    | (refine And.intro (show (_ : Bool) = true from by kernel_rfl) ?_; conv => whnf)
    | (refine .inl ⟨wrap64 (by omega), ?_⟩; conv => whnf)))
  all_goals first | (refine PSub.sb ?_; rw [numB, Bool.eq_iff_iff]; simp_all; done) | (refine PSub.lit_sb ?_; rw [numB, Bool.eq_iff_iff]; simp_all; omega) | (refine PSub.lit_sb ?_; rw [numB, Bool.eq_iff_iff]; simp_all; done) | skip
def firstC (l : List Clu) (s : ByteArray) : Option Clu := l.find? fun c => decide (c.name = s)
def capStep (f : ByteArray → Option Clu) (d : Dev) (i : Nat) (n : Int) : Int ⊕ Int :=
  match f (d.clusters.getD i default) with
  | none => .inl 8
  | some c => if idxOf d.clusters (d.clusters.getD i default) < i then .inl 9 else .inr (n + c.attrs.length)
def capE (f : ByteArray → Option Clu) (d : Dev) : Int :=
  if d.clusters.length < 1 ∨ 4 < d.clusters.length then 3 else match forI (capStep f d) d.clusters.length 0 0 with
  | .inl e => e
  | .inr n => if 24 < n then 3 else 0
theorem ac_device_capabilities (d : Dev) (f : ByteArray → Option Clu) (hf : ∀ s c, f s = some c → smallK c) : AC Tryd.prog 74 [.pv (.agg (cDev d)), .pv (.map (.one .str) (cluLook f))] [] (.pv (vint (capE f d))) [] := by
  refine AC.of_awp (T := T) T_ok hm Tryd.call74 Tryd.func74 rfl rfl rfl ?_
  conv => whnf
  refine ⟨fun h => ?_, fun h => ?_⟩
  · conv => whnf
    simp only [decide_eq_true_eq] at h
    exact PSub.int (by rw [capE, if_pos (by omega)])
  conv => whnf
  refine ⟨fun h => ?_, fun h => ?_⟩ <;> (try simp only [decide_eq_true_eq, decide_eq_false_iff_not, Bool.not_eq_true', Bool.not_eq_false', Int.toNat_natCast, beq_iff_eq, decide_eq_decide, beq_eq_false_iff_ne, ne_eq, reduceCtorEq] at h) <;> (conv => whnf)
  · exact PSub.int (by rw [capE, if_pos (by omega)])
  rename_i h0
  simp only [decide_eq_false_iff_not] at h0
  rw [capE, if_neg (by omega)]
  refine loop_k (ι := Nat × Int) [1, 2, 21, 22] [2] (fun i => i.1 ≤ d.clusters.length ∧ (0 ≤ i.2 ∧ i.2 ≤ i.1 * 1048576) ∧ forI (capStep f d) (d.clusters.length - i.1) i.1 i.2 = forI (capStep f d) d.clusters.length 0 0) (fun i => d.clusters.length - i.1) (0, 0) (fun i => [(5, .pv (vint i.2)), (23, .pv (vint i.1))]) (fun _ => []) [] ⟨Nat.zero_le _, by simp, rfl⟩ ?_ (fun i hk => ?_)
  · (repeat' (first | exact PSub.rfl | exact rfl | exact PSubs.rfl | exact trivial | exact PSub.lit_sb rfl | refine And.intro ?_ ?_))
  obtain ⟨k, n⟩ := i
  obtain ⟨hkn, hn, hfor⟩ := hk
  simp only at hkn hn hfor
  conv => whnf
  refine ⟨fun h => ?_, fun h => ?_⟩ <;> (try simp only [decide_eq_true_eq, decide_eq_false_iff_not, Bool.not_eq_true', Bool.not_eq_false', Int.toNat_natCast, beq_iff_eq, decide_eq_decide, beq_eq_false_iff_ne, ne_eq, reduceCtorEq] at h) <;> (conv => whnf)
  · refine And.intro (by omega) ?_
    conv => whnf
    refine ⟨fun p hp => ?_, fun hp => ?_⟩
    · simp only [cluLook, Int.toNat_natCast] at hp
      cases hf0 : f (d.clusters.getD k default) with
      | none => rw [hf0] at hp; cases hp
      | some c =>
        rw [hf0] at hp
        cases hp
        have hcl : c.attrs.length ≤ 1048576 := (hf _ _ hf0).1
        conv => whnf
        repeat (any_goals (first
          | (refine ⟨fun (h : (_ : Bool) = true) => ?_, fun (h : (_ : Bool) = false) => ?_⟩ <;> (try simp only [decide_eq_true_eq, decide_eq_false_iff_not, Bool.not_eq_true', Bool.not_eq_false', Int.toNat_natCast, beq_iff_eq, decide_eq_decide, beq_eq_false_iff_ne, ne_eq, reduceCtorEq] at h) <;> (conv => whnf))
          | (refine .inl ⟨_, ac_names_Index d.clusters (d.clusters.getD k default) (by omega), ?_⟩; conv => whnf)
          | (refine And.intro (by (try simp only [Int.toNat_natCast]); omega) ?_; conv => whnf)
          | (refine And.intro (show (_ : Bool) = true from by kernel_rfl) ?_; conv => whnf)
          | (refine .inl ⟨wrap64 (by omega), ?_⟩; conv => whnf)))
        · rw [forI_stop hfor (by omega) (r := 9) (by rw [capStep, hf0]; simp only; rw [if_pos h])]
          exact PSub.rfl
        · refine ⟨(k + 1, n + c.attrs.length), [], ⟨by dsimp only; omega, ⟨by dsimp only; omega, by dsimp only; omega⟩, forI_next hfor (by omega) (by rw [capStep, hf0]; simp only; rw [if_neg h])⟩, by dsimp only; omega, ?_⟩
          (repeat' (first | exact PSub.rfl | exact rfl | exact PSubs.rfl | exact trivial | exact PSub.lit_sb rfl | refine And.intro ?_ ?_))
    · simp only [cluLook, Int.toNat_natCast] at hp
      have hf0 : f (d.clusters.getD k default) = none := by simpa using hp
      conv => whnf
      repeat (any_goals (first
        | (refine ⟨fun (h : (_ : Bool) = true) => ?_, fun (h : (_ : Bool) = false) => ?_⟩ <;> (try simp only [decide_eq_true_eq, decide_eq_false_iff_not, Bool.not_eq_true', Bool.not_eq_false', Int.toNat_natCast, beq_iff_eq, decide_eq_decide, beq_eq_false_iff_ne, ne_eq, reduceCtorEq] at h) <;> (conv => whnf))
        | (refine And.intro (by (try simp only [Int.toNat_natCast]); omega) ?_; conv => whnf)
        | (refine And.intro (show (_ : Bool) = true from by kernel_rfl) ?_; conv => whnf)
        | (refine .inl ⟨wrap64 (by omega), ?_⟩; conv => whnf)))
      rw [forI_stop hfor (by omega) (r := 8) (by rw [capStep, hf0])]
      exact PSub.rfl
  · rw [forI_end hfor (by omega)]
    repeat (any_goals (first
      | (refine ⟨fun (h : (_ : Bool) = true) => ?_, fun (h : (_ : Bool) = false) => ?_⟩ <;> (try simp only [decide_eq_true_eq, decide_eq_false_iff_not, Bool.not_eq_true', Bool.not_eq_false', Int.toNat_natCast, beq_iff_eq, decide_eq_decide, beq_eq_false_iff_ne, ne_eq, reduceCtorEq] at h) <;> (conv => whnf))
      | (refine And.intro (by (try simp only [Int.toNat_natCast]); omega) ?_; conv => whnf)
      | (refine And.intro (show (_ : Bool) = true from by kernel_rfl) ?_; conv => whnf)
      | (refine .inl ⟨wrap64 (by omega), ?_⟩; conv => whnf)))
    · exact PSub.int (by simp only; rw [if_pos h])
    · exact PSub.int (by simp only; rw [if_neg h])
def devE (f : ByteArray → Option Clu) (l : List Dev) (i : Nat) : Int :=
  if numB (l.getD i default) = false then 2 else if 0 < i ∧ (l.getD i default).id ≤ (l.getD (i - 1) default).id then 14
  else if anyN i (fun j => decide ((l.getD j default).eui = (l.getD i default).eui)) = true then 9 else if validName (l.getD i default).room = false then 10
  else capE f (l.getD i default)
def homE (H : Hom) : Int := if allE H.clusters ≠ 0 then allE H.clusters else if 20 < H.devices.length then 3 else firstE H.devices.length (devE (firstC H.clusters) H.devices)
theorem cluE_distinct {l : List Clu} {k : Nat} (h : ∀ i, i < k → cluE l i = 0) {i j : Nat} (hi : i < j) (hj : j < k) : (l.getD i default).name ≠ (l.getD j default).name := by
  intro e
  have := h j hj
  unfold cluE at this
  split at this
  · contradiction
  · rw [if_pos (anyN_true hi (by simpa [-List.getD_eq_getElem?_getD] using e))] at this
    cases this
theorem firstE_zero {n : Nat} {f : Nat → Int} (h : firstE n f = 0) : ∀ i, i < n → f i = 0 := by
  intro i hi
  unfold firstE at h
  split at h
  · rename_i j e
    rw [List.find?_range_eq_some] at e
    exact absurd h (by simpa using e.1)
  · rename_i e
    rw [List.find?_eq_none] at e
    simpa using e i (by simpa using hi)
theorem lastC_first {l : List Clu} (h : ∀ i, i < l.length → cluE l i = 0) (s : ByteArray) : lastC l l.length s = firstC l s := by
  have hnone : ∀ k, k ≤ l.length → (∀ i, i < k → (l.getD i default).name ≠ s) → lastC l k s = none := by
    intro k
    induction k with
    | zero => intro _ _; rfl
    | succ k ih => intro hk hn; rw [lastC, if_neg (hn k (by omega)), ih (by omega) fun i hi => hn i (by omega)]
  have hsome : ∀ k, k ≤ l.length → ∀ i, i < k → (l.getD i default).name = s → lastC l k s = some (l.getD i default) := by
    intro k
    induction k with
    | zero => intro _ i hi; omega
    | succ k ih =>
      intro hk i hi e
      rw [lastC]
      by_cases e2 : i = k
      · subst e2; rw [if_pos e]
      · rw [if_neg fun e3 => cluE_distinct (k := l.length) h (i := i) (j := k) (by omega) (by omega) (e.trans e3.symm)]
        exact ih (by omega) i (by omega) e
  unfold firstC
  cases hf : l.find? fun c => decide (c.name = s) with
  | none =>
    rw [List.find?_eq_none] at hf
    refine hnone _ (Nat.le_refl _) fun i hi => ?_
    have := hf l[i] (List.getElem_mem hi)
    simpa [List.getD, hi] using this
  | some c =>
    obtain ⟨h1, xs, ys, h2, h3⟩ := List.find?_eq_some_iff_append.1 hf
    have hi : xs.length < l.length := by rw [h2]; simp
    have e : l.getD xs.length default = c := by simp [h2]
    rw [← e]
    exact hsome _ (Nat.le_refl _) _ hi (by rw [e]; simpa using h1)
theorem firstC_small {l : List Clu} (hl : smallKs l) {s : ByteArray} {c : Clu} (h : firstC l s = some c) : smallK c := by
  have := List.mem_of_find?_eq_some h
  obtain ⟨i, hi, rfl⟩ := List.getElem_of_mem this
  have := hl.2 i
  simpa [List.getD, hi] using this
def smallD (d : Dev) : Prop := smallL d.clusters ∧ -9223372036854775808 ≤ d.id ∧ d.id ≤ 9223372036854775807
def smallH (H : Hom) : Prop := smallKs H.clusters ∧ smallL H.devices ∧ ∀ i, smallD (H.devices.getD i default)
def euiLook (l : List Dev) (k : Nat) : Value → Option PV
  | .int .u64 n => if anyN k (fun j => decide ((l.getD j default).eui = n)) = true then some (.val (.bool true)) else none
  | _ => none
theorem anyN_succ {n : Nat} {p : Nat → Bool} : anyN (n + 1) p = (anyN n p || p n) := by simp [anyN, List.range_succ]
theorem euiLook_put (l : List Dev) (k : Nat) (s : Int) : lookPut (euiLook l k) (.int .u64 (l.getD k default).eui) (.val (.bool true)) (.int .u64 s) = euiLook l (k + 1) (.int .u64 s) := by
  simp only [lookPut, euiLook, anyN_succ, Value.int.injEq, true_and]
  by_cases e : s = (l.getD k default).eui
  · rw [if_pos e, if_pos (by simp [e, -List.getD_eq_getElem?_getD])]
  · rw [if_neg e]
    have e2 : decide ((l.getD k default).eui = s) = false := by simpa [-List.getD_eq_getElem?_getD] using fun x => e x.symm
    rw [e2, Bool.or_false]
theorem ac_device_Check (H : Hom) (hH : smallH H) : AC Tryd.prog 58 [.pv (.agg (cHom H))] [] (.pv (vint (homE H))) [] := by
  have hl : H.devices.length ≤ 1048576 := hH.2.1
  refine AC.of_awp (T := T) T_ok hm Tryd.call58 Tryd.func58 rfl rfl rfl ?_
  conv => whnf
  refine .inl ⟨_, ac_cluster_All H.clusters hH.1, ?_⟩
  conv => whnf
  refine ⟨fun h => ?_, fun h => ?_⟩ <;> (try simp only [decide_eq_true_eq, decide_eq_false_iff_not, Bool.not_eq_true', Bool.not_eq_false', Int.toNat_natCast, beq_iff_eq, decide_eq_decide, beq_eq_false_iff_ne, ne_eq, reduceCtorEq] at h) <;> (conv => whnf)
  · exact PSub.int (by rw [homE, if_pos h])
  rw [homE, if_neg (by simpa using h)]
  have ha := h
  refine ⟨fun h => ?_, fun h => ?_⟩ <;> (try simp only [decide_eq_true_eq, decide_eq_false_iff_not, Bool.not_eq_true', Bool.not_eq_false', Int.toNat_natCast, beq_iff_eq, decide_eq_decide, beq_eq_false_iff_ne, ne_eq, reduceCtorEq] at h) <;> (conv => whnf)
  · exact PSub.int (by rw [if_pos (by omega)])
  rw [if_neg (by omega)]
  refine .inl ⟨_, ac_device_clusters H hH.1.1, ?_⟩
  conv => whnf
  clear h
  have hu : ∀ i, i < H.clusters.length → cluE H.clusters i = 0 := firstE_zero (by
    unfold allE at ha
    split at ha
    · cases ha
    · exact ha)
  have hm : PSub (.map (.one .str) (cluLook (lastC H.clusters H.clusters.length))) (.map (.one .str) (cluLook (firstC H.clusters))) := PSub.map (by
    rintro _ ⟨s, rfl⟩
    simp only [cluLook, lastC_first hu])
  refine loop_k (ι := Nat) [1, 4, 5, 23, 24] [1] (fun k => k ≤ H.devices.length ∧ (∀ j, j < k → devE (firstC H.clusters) H.devices j = 0)) (fun k => H.devices.length - k) 0 (fun k => [(25, .pv (vint k))]) (fun k => [(21, .map (.one (.int .u64)) (euiLook H.devices k))]) [] ⟨Nat.zero_le _, fun j h => absurd h (by omega)⟩ ?_ (fun k hk => ?_)
  · (repeat' (first | exact PSub.rfl | exact rfl | exact PSubs.rfl | exact trivial | exact PSub.lit_sb rfl | refine And.intro ?_ ?_)); all_goals (rintro _ ⟨s, rfl⟩; rfl)
  obtain ⟨hkn, hinv⟩ := hk
  conv => whnf
  repeat (any_goals (first
    | (refine ⟨fun (h : (_ : Bool) = true) => ?_, fun (h : (_ : Bool) = false) => ?_⟩ <;> (try simp only [decide_eq_true_eq, decide_eq_false_iff_not, Bool.not_eq_true', Bool.not_eq_false', Int.toNat_natCast, beq_iff_eq, decide_eq_decide, beq_eq_false_iff_ne, ne_eq, reduceCtorEq] at h) <;> (conv => whnf))
    | (refine .inl ⟨_, ac_device_numbers (H.devices.getD k default), ?_⟩; conv => whnf)
    | (refine And.intro (by (try simp only [Int.toNat_natCast]); omega) ?_; conv => whnf)
    | (refine And.intro (show (_ : Bool) = true from by kernel_rfl) ?_; conv => whnf)
    | (refine .inl ⟨wrap64 (by omega), ?_⟩; conv => whnf)))
  · have e : devE (firstC H.clusters) H.devices k = 2 := by simp [devE, h, -List.getD_eq_getElem?_getD]
    exact PSub.int (by rw [firstE_at (k := k) (by omega) (by rw [e]; decide) hinv, e])
  · rename_i h0 h1
    rw [show (↑k - 1 : Int).toNat = k - 1 from by omega] at h
    have e : devE (firstC H.clusters) H.devices k = 14 := by simp [devE, h0, h, -List.getD_eq_getElem?_getD]; omega
    exact PSub.int (by rw [firstE_at (k := k) (by omega) (by rw [e]; decide) hinv, e])
  · rw [show (↑k - 1 : Int).toNat = k - 1 from by omega] at h
    refine ⟨fun p => ?_, fun h => ?_⟩
    · intro hp
      rename_i h0 h1
      have hnum : numB (H.devices.getD k default) = true := by assumption
      rw [Int.toNat_natCast] at hp
      simp only [euiLook] at hp
      split at hp
      · rename_i hany
        cases hp
        conv => whnf
        have e : devE (firstC H.clusters) H.devices k = 9 := by simp [devE, hnum, h0, h1, hany, -List.getD_eq_getElem?_getD]; try omega
        exact PSub.int (by rw [firstE_at (k := k) (by omega) (by rw [e]; decide) hinv, e])
      · cases hp
    · rw [Int.toNat_natCast] at h
      conv => whnf
      have hany : anyN k (fun j => decide ((H.devices.getD j default).eui = (H.devices.getD k default).eui)) = false := by
        simp only [euiLook] at h
        split at h
        · cases h
        · rename_i hx; simpa using hx
      rename_i h0 h1
      have hnum : numB (H.devices.getD k default) = true := by assumption
      repeat (any_goals (first
        | (refine ⟨fun (h : (_ : Bool) = true) => ?_, fun (h : (_ : Bool) = false) => ?_⟩ <;> (try simp only [decide_eq_true_eq, decide_eq_false_iff_not, Bool.not_eq_true', Bool.not_eq_false', Int.toNat_natCast, beq_iff_eq, decide_eq_decide, beq_eq_false_iff_ne, ne_eq, reduceCtorEq] at h) <;> (conv => whnf))
        | (refine .inl ⟨_, ac_names_Valid (H.devices.getD k default).room, ?_⟩; conv => whnf)
        | (refine .inl ⟨_, AC.sub2 (ac_device_capabilities (H.devices.getD k default) (firstC H.clusters) (fun _ _ => firstC_small hH.1)) .rfl hm, ?_⟩; conv => whnf)
        | (refine And.intro (by (try simp only [Int.toNat_natCast]); omega) ?_; conv => whnf)
        | (refine And.intro (show (_ : Bool) = true from by kernel_rfl) ?_; conv => whnf)
        | (refine .inl ⟨wrap64 (by omega), ?_⟩; conv => whnf)))
      · have e : devE (firstC H.clusters) H.devices k = 10 := by simp [devE, hnum, h0, h1, hany, h, -List.getD_eq_getElem?_getD]; try omega
        exact PSub.int (by rw [firstE_at (k := k) (by omega) (by rw [e]; decide) hinv, e])
      · rename_i h2
        have e : devE (firstC H.clusters) H.devices k = capE (firstC H.clusters) (H.devices.getD k default) := by simp [devE, hnum, h0, h1, hany, h2, -List.getD_eq_getElem?_getD]; try omega
        exact PSub.int (by rw [firstE_at (k := k) (by omega) (by rw [e]; exact h) hinv, e])
      · rename_i h2
        have e : devE (firstC H.clusters) H.devices k = 0 := by simp [devE, hnum, h0, h1, hany, h2, h, -List.getD_eq_getElem?_getD]; try omega
        refine ⟨k + 1, [], ⟨by omega, ?_⟩, by omega, ?_⟩
        · intro j hj
          by_cases ee : j = k
          · subst ee; exact e
          · exact hinv j (by omega)
        · (repeat' (first | exact PSub.rfl | exact rfl | exact PSubs.rfl | exact trivial | exact PSub.lit_sb rfl | refine And.intro ?_ ?_))
          rintro _ ⟨s, rfl⟩
          exact euiLook_put H.devices k s
  · refine ⟨fun p => ?_, fun h => ?_⟩
    · intro hp
      rename_i h0 h1
      have hnum : numB (H.devices.getD k default) = true := by assumption
      rw [Int.toNat_natCast] at hp
      simp only [euiLook] at hp
      split at hp
      · rename_i hany
        cases hp
        conv => whnf
        have e : devE (firstC H.clusters) H.devices k = 9 := by simp [devE, hnum, h0, h1, hany, -List.getD_eq_getElem?_getD]; try omega
        exact PSub.int (by rw [firstE_at (k := k) (by omega) (by rw [e]; decide) hinv, e])
      · cases hp
    · rw [Int.toNat_natCast] at h
      conv => whnf
      have hany : anyN k (fun j => decide ((H.devices.getD j default).eui = (H.devices.getD k default).eui)) = false := by
        simp only [euiLook] at h
        split at h
        · cases h
        · rename_i hx; simpa using hx
      rename_i h0 h1
      have hnum : numB (H.devices.getD k default) = true := by assumption
      repeat (any_goals (first
        | (refine ⟨fun (h : (_ : Bool) = true) => ?_, fun (h : (_ : Bool) = false) => ?_⟩ <;> (try simp only [decide_eq_true_eq, decide_eq_false_iff_not, Bool.not_eq_true', Bool.not_eq_false', Int.toNat_natCast, beq_iff_eq, decide_eq_decide, beq_eq_false_iff_ne, ne_eq, reduceCtorEq] at h) <;> (conv => whnf))
        | (refine .inl ⟨_, ac_names_Valid (H.devices.getD k default).room, ?_⟩; conv => whnf)
        | (refine .inl ⟨_, AC.sub2 (ac_device_capabilities (H.devices.getD k default) (firstC H.clusters) (fun _ _ => firstC_small hH.1)) .rfl hm, ?_⟩; conv => whnf)
        | (refine And.intro (by (try simp only [Int.toNat_natCast]); omega) ?_; conv => whnf)
        | (refine And.intro (show (_ : Bool) = true from by kernel_rfl) ?_; conv => whnf)
        | (refine .inl ⟨wrap64 (by omega), ?_⟩; conv => whnf)))
      · have e : devE (firstC H.clusters) H.devices k = 10 := by simp [devE, hnum, h0, h1, hany, h, -List.getD_eq_getElem?_getD]; try omega
        exact PSub.int (by rw [firstE_at (k := k) (by omega) (by rw [e]; decide) hinv, e])
      · rename_i h2
        have e : devE (firstC H.clusters) H.devices k = capE (firstC H.clusters) (H.devices.getD k default) := by simp [devE, hnum, h0, h1, hany, h2, -List.getD_eq_getElem?_getD]; try omega
        exact PSub.int (by rw [firstE_at (k := k) (by omega) (by rw [e]; exact h) hinv, e])
      · rename_i h2
        have e : devE (firstC H.clusters) H.devices k = 0 := by simp [devE, hnum, h0, h1, hany, h2, h, -List.getD_eq_getElem?_getD]; try omega
        refine ⟨k + 1, [], ⟨by omega, ?_⟩, by omega, ?_⟩
        · intro j hj
          by_cases ee : j = k
          · subst ee; exact e
          · exact hinv j (by omega)
        · (repeat' (first | exact PSub.rfl | exact rfl | exact PSubs.rfl | exact trivial | exact PSub.lit_sb rfl | refine And.intro ?_ ?_))
          rintro _ ⟨s, rfl⟩
          exact euiLook_put H.devices k s
  · exact PSub.int (by rw [firstE_none fun j hj => hinv j (by omega)])
end Go.Abs

namespace Go.Abs
open Go.Proofs
set_option maxRecDepth 10000
def devAt (l : List Dev) (id : Int) : Nat := firstI l.length fun i => decide ((l.getD i default).id = id)
end Go.Abs

namespace Go.Abs
open Go.Proofs
set_option maxRecDepth 10000
def keyLess (a b : Key) : Bool := if a.dev ≠ b.dev then decide (a.dev < b.dev) else if a.cluster ≠ b.cluster then Op.bytesLess a.cluster.toList b.cluster.toList else Op.bytesLess a.attr.toList b.attr.toList
theorem ac_device_Less (a b : Key) : AC Tryd.prog 28 [.pv (.agg (cKey a)), .pv (.agg (cKey b))] [] (.pv (vbool (keyLess a b))) [] := by
  refine AC.of_awp (T := T) T_ok hm Tryd.call28 Tryd.func28 rfl rfl rfl ?_
  conv => whnf
  repeat (any_goals (first
    | (refine ⟨fun (h : (_ : Bool) = true) => ?_, fun (h : (_ : Bool) = false) => ?_⟩ <;> (try simp only [decide_eq_true_eq, decide_eq_false_iff_not, Bool.not_eq_true', Bool.not_eq_false', Int.toNat_natCast, beq_iff_eq, decide_eq_decide, beq_eq_false_iff_ne, ne_eq, reduceCtorEq] at h) <;> (conv => whnf))
    | (refine And.intro (by (try simp only [Int.toNat_natCast]); omega) ?_; conv => whnf)
    | (refine And.intro (show (_ : Bool) = true from by kernel_rfl) ?_; conv => whnf)
    | (refine .inl ⟨wrap64 (by omega), ?_⟩; conv => whnf)))
  all_goals (try simp only [decide_eq_true_eq, decide_eq_false_iff_not, Bool.not_eq_true', Bool.not_eq_false', Int.toNat_natCast, beq_iff_eq, decide_eq_decide, beq_eq_false_iff_ne, ne_eq, reduceCtorEq] at *)
  all_goals first
    | contradiction
    | (exfalso; omega)
    | exact PSub.rfl
    | (refine PSub.int ?_; simp only [keyLess]; (repeat' split) <;> first | rfl | omega | (simp_all [-List.getD_eq_getElem?_getD]; done) | (simp_all [-List.getD_eq_getElem?_getD]; omega))
    | (refine PSub.sb ?_; simp_all [keyLess, -List.getD_eq_getElem?_getD]; done)
    | (refine PSub.lit_sb ?_; simp_all [keyLess, -List.getD_eq_getElem?_getD]; done)
    | (refine PSub.sb_lit ?_; simp_all [keyLess, -List.getD_eq_getElem?_getD]; done)
    | (refine PSub.sb ?_; rw [Bool.eq_iff_iff]; simp_all [keyLess, -List.getD_eq_getElem?_getD]; done)
    | (refine PSub.lit_sb ?_; rw [Bool.eq_iff_iff]; simp_all [keyLess, -List.getD_eq_getElem?_getD]; done)
    | (refine PSub.sb_lit ?_; rw [Bool.eq_iff_iff]; simp_all [keyLess, -List.getD_eq_getElem?_getD]; done)
    | skip
def noDev : Dev := ⟨0, 0, 0, false, 0, ⟨#[]⟩, []⟩
def findB (H : Hom) (id : Int) : Bool := decide (homE H = 0) && decide (devAt H.devices id < H.devices.length)
def findD (H : Hom) (id : Int) : Dev := if findB H id = true then H.devices.getD (devAt H.devices id) default else noDev
theorem noDev_cells : PSub (.agg [vint 0, .val (.int .u64 0), vint 0, .val (.bool false), vint 0, vstr ⟨#[]⟩, .val (.slice none 0 0)]) (.agg (cDev noDev)) := PSub.agg ⟨.rfl, .rfl, .rfl, PSub.lit_sb rfl, .rfl, .rfl, PSub.nil_ro _ _, trivial⟩
theorem ac_device_find (H : Hom) (id : Int) (hH : smallH H) : AC Tryd.prog 43 [.pv (.agg (cHom H)), .pv (vint id)] [] (.pv (.tup [.agg (cDev (findD H id)), vbool (findB H id)])) [] := by
  have hl : H.devices.length ≤ 1048576 := hH.2.1
  refine AC.of_awp (T := T) T_ok hm Tryd.call43 Tryd.func43 rfl rfl rfl ?_
  conv => whnf
  refine .inl ⟨_, ac_device_Check H hH, ?_⟩
  conv => whnf
  refine ⟨fun h => ?_, fun h => ?_⟩ <;> (try simp only [decide_eq_true_eq, decide_eq_false_iff_not, Bool.not_eq_true', Bool.not_eq_false', Int.toNat_natCast, beq_iff_eq, decide_eq_decide, beq_eq_false_iff_ne, ne_eq, reduceCtorEq] at h) <;> (conv => whnf)
  · have e : findB H id = false := by simp [findB, h]
    rw [findD, e]
    refine ⟨?_, ?_⟩ <;> (conv => whnf)
    · exact noDev_cells
    · exact PSub.lit_sb rfl
  have h0 := h
  refine loop_k (ι := Nat) [1, 4, 13, 14] [4] (fun k => k ≤ H.devices.length ∧ (∀ j, j < k → decide ((H.devices.getD j default).id = id) = false)) (fun k => H.devices.length - k) 0 (fun k => [(15, .pv (vint k))]) (fun _ => []) [] ⟨Nat.zero_le _, fun j h => absurd h (by omega)⟩ ?_ (fun k hk => ?_)
  · (repeat' (first | exact PSub.rfl | exact rfl | exact PSubs.rfl | exact trivial | exact PSub.lit_sb rfl | refine And.intro ?_ ?_))
  obtain ⟨hkn, hinv⟩ := hk
  conv => whnf
  repeat (any_goals (first
    | (refine ⟨fun (h : (_ : Bool) = true) => ?_, fun (h : (_ : Bool) = false) => ?_⟩ <;> (try simp only [decide_eq_true_eq, decide_eq_false_iff_not, Bool.not_eq_true', Bool.not_eq_false', Int.toNat_natCast, beq_iff_eq, decide_eq_decide, beq_eq_false_iff_ne, ne_eq, reduceCtorEq] at h) <;> (conv => whnf))
    | (refine And.intro (by (try simp only [Int.toNat_natCast]); omega) ?_; conv => whnf)
    | (refine And.intro (show (_ : Bool) = true from by kernel_rfl) ?_; conv => whnf)
    | (refine .inl ⟨wrap64 (by omega), ?_⟩; conv => whnf)))
  · have e : devAt H.devices id = k := firstI_at (by omega) (by simpa [-List.getD_eq_getElem?_getD] using h) hinv
    have e2 : findB H id = true := by simp [findB, h0, e]; omega
    rw [findD, e2, e, if_pos rfl]
    refine ⟨?_, ?_⟩ <;> (conv => whnf)
    · exact .rfl
    · exact PSub.lit_sb rfl
  · refine ⟨k + 1, [], ⟨by omega, ?_⟩, by first | omega | (dsimp only; omega), ?_⟩
    rotate_left
    · (repeat' (first | exact PSub.rfl | exact rfl | exact PSubs.rfl | exact trivial | exact PSub.lit_sb rfl | refine And.intro ?_ ?_))
    intro j hj
    by_cases e : j = k
    · subst e; first | exact h | simpa [-List.getD_eq_getElem?_getD] using h | simp_all [-List.getD_eq_getElem?_getD]
    · exact hinv j (by omega)
  · have e : devAt H.devices id = H.devices.length := firstI_none fun j hj => hinv j (by omega)
    have e2 : findB H id = false := by simp [findB, e]
    rw [findD, e2]
    refine ⟨?_, ?_⟩ <;> (conv => whnf)
    · exact noDev_cells
    · exact PSub.lit_sb rfl
theorem ac_device_Room (H : Hom) (id : Int) (hH : smallH H) : AC Tryd.prog 38 [.pv (.agg (cHom H)), .pv (vint id)] [] (.pv (vstr (findD H id).room)) [] := by
  refine AC.of_awp (T := T) T_ok hm Tryd.call38 Tryd.func38 rfl rfl rfl ?_
  conv => whnf
  refine .inl ⟨_, ac_device_find H id hH, ?_⟩
  conv => whnf
  exact .rfl
end Go.Abs

namespace Go.Abs
open Go.Proofs
set_option maxRecDepth 10000
def attrsOf (o : Option Clu) : List Attr := match o with | some c => c.attrs | none => []
def keysOf1 (f : ByteArray → Option Clu) (id : Int) (s : ByteArray) : List Key := (attrsOf (f s)).map fun a => ⟨id, s, a.name⟩
def keysL (H : Hom) (id : Int) : List Key := (findD H id).clusters.flatMap (keysOf1 (firstC H.clusters) id)
theorem allE_distinct {l : List Clu} (ha : allE l = 0) : ∀ i, i < l.length → cluE l i = 0 := firstE_zero (by
    unfold allE at ha
    split at ha
    · cases ha
    · exact ha)
theorem homE_all {H : Hom} (h : homE H = 0) : allE H.clusters = 0 := by
  unfold homE at h
  split at h
  · contradiction
  · omega
theorem capE_clusters {f : ByteArray → Option Clu} {d : Dev} (h : capE f d = 0) : 1 ≤ d.clusters.length ∧ d.clusters.length ≤ 4 := by
  unfold capE at h
  split at h
  · cases h
  · omega
theorem homE_dev {H : Hom} (h : homE H = 0) {i : Nat} (hi : i < H.devices.length) : devE (firstC H.clusters) H.devices i = 0 := by
  unfold homE at h
  split at h
  · contradiction
  · split at h
    · cases h
    · exact firstE_zero h i hi
theorem devE_cap {f : ByteArray → Option Clu} {l : List Dev} {i : Nat} (h : devE f l i = 0) : capE f (l.getD i default) = 0 := by
  unfold devE at h
  split at h
  · cases h
  · split at h
    · cases h
    · split at h
      · cases h
      · split at h
        · cases h
        · exact h
theorem findD_cap {H : Hom} {id : Int} (h : findB H id = true) : capE (firstC H.clusters) (findD H id) = 0 := by
  rw [findD, if_pos h]
  simp only [findB, Bool.and_eq_true, decide_eq_true_eq] at h
  exact devE_cap (homE_dev h.1 h.2)
theorem findD_none {H : Hom} {id : Int} (h : findB H id = false) : findD H id = noDev := by rw [findD, h]; rfl
theorem findD_length {H : Hom} {id : Int} : (findD H id).clusters.length ≤ 4 := by
  cases h : findB H id with
  | true => exact (capE_clusters (findD_cap h)).2
  | false => rw [findD_none h]; decide
theorem lookRes_clu {f : ByteArray → Option Clu} (s : ByteArray) : (∃ c, f s = some c ∧ cluLook f (.string s) = some (.agg (cClu c))) ∨ (f s = none ∧ cluLook f (.string s) = none) := by
  simp only [cluLook]
  cases f s with
  | none => exact .inr ⟨rfl, rfl⟩
  | some c => exact .inl ⟨c, rfl, rfl⟩
def keysTo (f : ByteArray → Option Clu) (id : Int) (l : List ByteArray) (k : Nat) : List Key := (l.take k).flatMap (keysOf1 f id)
theorem keysTo_succ {f : ByteArray → Option Clu} {id : Int} {l : List ByteArray} {k : Nat} (h : k < l.length) : keysTo f id l (k + 1) = keysTo f id l k ++ keysOf1 f id (l.getD k default) := by
  simp only [keysTo, take_succ_getD h, List.flatMap_append, List.flatMap_cons, List.flatMap_nil, List.append_nil]
theorem keysTo_len {f : ByteArray → Option Clu} (hf : ∀ s c, f s = some c → smallK c) {id : Int} {l : List ByteArray} {k : Nat} (h : k ≤ l.length) : (keysTo f id l k).length ≤ k * 1048576 := by
  induction k with
  | zero => simp [keysTo]
  | succ k ih =>
    rw [keysTo_succ h, List.length_append]
    have := ih (by omega)
    have : (keysOf1 f id (l.getD k default)).length ≤ 1048576 := by
      simp only [keysOf1, attrsOf, List.length_map]
      split
      · rename_i c e; exact (hf _ _ e).1
      · exact Nat.zero_le _
    omega
theorem ac_device_Keys (H : Hom) (id : Int) (hH : smallH H) : AC Tryd.prog 56 [.pv (.agg (cHom H)), .pv (vint id)] [] (.pv (roL 3 cKey (keysL H id))) [] := by
  have hl : H.clusters.length ≤ 1048576 := hH.1.1
  have hd4 := @findD_length H id
  -- the map: of the first clusters if the home is valid, of some small ones else
  obtain ⟨f, hf, hmap, hk⟩ : ∃ f : ByteArray → Option Clu, (∀ s c, f s = some c → smallK c) ∧ PSub (.map (.one .str) (cluLook (lastC H.clusters H.clusters.length))) (.map (.one .str) (cluLook f)) ∧ keysL H id = keysTo f id (findD H id).clusters (findD H id).clusters.length := by
    cases h : findB H id with
    | true =>
      refine ⟨firstC H.clusters, fun _ _ => firstC_small hH.1, PSub.map ?_, by rw [keysL, keysTo, List.take_length]⟩
      rintro _ ⟨s, rfl⟩
      simp only [findB, Bool.and_eq_true, decide_eq_true_eq] at h
      simp only [cluLook, lastC_first (allE_distinct (homE_all h.1))]
    | false =>
      refine ⟨lastC H.clusters H.clusters.length, ?_, .rfl, by rw [keysL, findD_none h]; rfl⟩
      intro s c
      have : ∀ k, lastC H.clusters k s = some c → smallK c := by
        intro k
        induction k with
        | zero => intro e; cases e
        | succ k ih =>
          intro e
          rw [lastC] at e
          split at e
          · cases e; exact hH.1.2 k
          · exact ih e
      exact this _
  rw [hk]
  clear hk
  refine AC.of_awp (T := T) T_ok hm Tryd.call56 Tryd.func56 rfl rfl rfl ?_
  conv => whnf
  refine .inl ⟨_, ac_device_find H id hH, ?_⟩
  conv => whnf
  refine .inl ⟨_, (ac_device_clusters H hl).weak hmap, ?_⟩
  conv => whnf
  generalize findD H id = d at *
  refine loop_k (ι := Nat) [1, 7, 22, 23] [] (fun k => k ≤ d.clusters.length ∧ True) (fun k => d.clusters.length - k) 0 (fun k => [(8, .own 500), (24, .pv (vint k))]) (fun k => [(500, rowL 3 cKey (keysTo f id d.clusters k))]) [] ⟨Nat.zero_le _, trivial⟩ ?_ (fun k hk => ?_)
  · (repeat' (first | exact PSub.rfl | exact rfl | exact PSubs.rfl | exact trivial | exact PSub.lit_sb rfl | refine And.intro ?_ ?_))
  obtain ⟨hkn, hinv⟩ := hk
  conv => whnf
  refine ⟨fun h => ?_, fun h => ?_⟩ <;> (try simp only [decide_eq_true_eq, decide_eq_false_iff_not, Bool.not_eq_true', Bool.not_eq_false', Int.toNat_natCast, beq_iff_eq, decide_eq_decide, beq_eq_false_iff_ne, ne_eq, reduceCtorEq] at h) <;> (conv => whnf)
  · repeat (any_goals (first
      | (refine ⟨fun (h : (_ : Bool) = true) => ?_, fun (h : (_ : Bool) = false) => ?_⟩ <;> (try simp only [decide_eq_true_eq, decide_eq_false_iff_not, Bool.not_eq_true', Bool.not_eq_false', Int.toNat_natCast, beq_iff_eq, decide_eq_decide, beq_eq_false_iff_ne, ne_eq, reduceCtorEq] at h) <;> (conv => whnf))
      | (refine And.intro (by (try simp only [Int.toNat_natCast]); omega) ?_; conv => whnf)
      | (refine And.intro (show (_ : Bool) = true from by kernel_rfl) ?_; conv => whnf)
      | (refine .inl ⟨wrap64 (by omega), ?_⟩; conv => whnf)))
    have hkl := keysTo_len hf (id := id) (l := d.clusters) (k := k) (by omega)
    have hn := keysTo_succ (f := f) (id := id) (l := d.clusters) (k := k) (by omega)
    simp only [Int.toNat_natCast]
    rcases lookRes_clu (f := f) (d.clusters.getD k default) with ⟨c, h1, h2⟩ | ⟨h1, h2⟩
    · rw [h2]
      have hcl : c.attrs.length ≤ 1048576 := (hf _ _ h1).1
      have hk1 : keysOf1 f id (d.clusters.getD k default) = c.attrs.map fun a => ⟨id, d.clusters.getD k default, a.name⟩ := by rw [keysOf1, h1]; rfl
      refine ⟨fun p hp => ?_, fun hp => by cases hp⟩
      cases hp
      conv => whnf
      refine loop_k (ι := Nat) [1, 7, 10, 22, 23, 24, 31, 32] [] (fun j => j ≤ c.attrs.length ∧ True) (fun j => c.attrs.length - j) 0 (fun j => [(8, .own 500), (33, .pv (vint j))]) (fun j => [(500, rowL 3 cKey (keysTo f id d.clusters k ++ (c.attrs.take j).map fun a => ⟨id, d.clusters.getD k default, a.name⟩))]) [] ⟨Nat.zero_le _, trivial⟩ ?_ (fun j hk => ?_)
      · (repeat' (first | exact PSub.rfl | exact rfl | exact PSubs.rfl | exact trivial | exact PSub.lit_sb rfl | refine And.intro ?_ ?_)); all_goals (first | (simp; done) | (intro i hi; simp [-List.getD_eq_getElem?_getD]; exact PSubs.rfl))
      obtain ⟨hkn, hinv⟩ := hk
      conv => whnf
      have hj : (keysTo f id d.clusters k ++ (c.attrs.take j).map fun a => (⟨id, d.clusters.getD k default, a.name⟩ : Key)).length ≤ 8388608 := by
        simp only [List.length_append, List.length_map, List.length_take]; omega
      repeat (any_goals (first
        | (refine ⟨fun (h : (_ : Bool) = true) => ?_, fun (h : (_ : Bool) = false) => ?_⟩ <;> (try simp only [decide_eq_true_eq, decide_eq_false_iff_not, Bool.not_eq_true', Bool.not_eq_false', Int.toNat_natCast, beq_iff_eq, decide_eq_decide, beq_eq_false_iff_ne, ne_eq, reduceCtorEq] at h) <;> (conv => whnf))
        | (refine And.intro (by (try simp only [Int.toNat_natCast]); omega) ?_; conv => whnf)
        | (refine And.intro (show (_ : Bool) = true from by kernel_rfl) ?_; conv => whnf)
        | (refine .inl ⟨wrap64 (by omega), ?_⟩; conv => whnf)))
      · have e : (c.attrs.take (j + 1)).map (fun a => (⟨id, d.clusters.getD k default, a.name⟩ : Key)) = (c.attrs.take j).map (fun a => (⟨id, d.clusters.getD k default, a.name⟩ : Key)) ++ [⟨id, d.clusters.getD k default, (c.attrs.getD j default).name⟩] := by
          rw [take_succ_getD (by omega)]; simp only [List.map_append, List.map_cons, List.map_nil]
        refine ⟨j + 1, [(500, 44)], ⟨by omega, trivial⟩, by omega, ?_⟩
        rw [e, ← List.append_assoc]
        (repeat' (first | exact PSub.rfl | exact rfl | exact PSubs.rfl | exact trivial | exact PSub.lit_sb rfl | refine And.intro ?_ ?_))
        · simp; omega
        · refine rows_snocF (fun i hi => by simp only [if_pos hi]; exact PSubs.rfl) (by simp only [if_neg (Nat.lt_irrefl _), Nat.sub_self]; exact PSubs.rfl)
      · refine ⟨k + 1, [], ⟨by omega, trivial⟩, by omega, ?_⟩
        rw [hn, hk1]
        (repeat' (first | exact PSub.rfl | exact rfl | exact PSubs.rfl | exact trivial | exact PSub.lit_sb rfl | refine And.intro ?_ ?_))
        · rw [List.take_of_length_le (by omega)]
        · rw [List.take_of_length_le (by omega)]; intro i hi; exact PSubs.rfl
    · rw [h2]
      refine ⟨fun p hp => (by cases hp), fun hp => ?_⟩
      have hk1 : keysOf1 f id (d.clusters.getD k default) = [] := by rw [keysOf1, h1]; rfl
      conv => whnf
      refine loop_k (ι := Nat) [1, 7, 10, 22, 23, 24, 31, 32] [] (fun j => j ≤ 0 ∧ True) (fun j => 0 - j) 0 (fun j => [(8, .own 500), (33, .pv (vint j))]) (fun j => [(500, rowL 3 cKey (keysTo f id d.clusters k))]) [] ⟨Nat.zero_le _, trivial⟩ ?_ (fun j hk => ?_)
      · (repeat' (first | exact PSub.rfl | exact rfl | exact PSubs.rfl | exact trivial | exact PSub.lit_sb rfl | refine And.intro ?_ ?_)); all_goals (first | (simp; done) | (intro i hi; simp [-List.getD_eq_getElem?_getD]; exact PSubs.rfl))
      obtain ⟨hkn, hinv⟩ := hk
      conv => whnf
      repeat (any_goals (first
        | (refine ⟨fun (h : (_ : Bool) = true) => ?_, fun (h : (_ : Bool) = false) => ?_⟩ <;> (try simp only [decide_eq_true_eq, decide_eq_false_iff_not, Bool.not_eq_true', Bool.not_eq_false', Int.toNat_natCast, beq_iff_eq, decide_eq_decide, beq_eq_false_iff_ne, ne_eq, reduceCtorEq] at h) <;> (conv => whnf))
        | (refine And.intro (by (try simp only [Int.toNat_natCast]); omega) ?_; conv => whnf)
        | (refine And.intro (show (_ : Bool) = true from by kernel_rfl) ?_; conv => whnf)
        | (refine .inl ⟨wrap64 (by omega), ?_⟩; conv => whnf)))
      · exfalso; omega
      refine ⟨k + 1, [], ⟨by omega, trivial⟩, by omega, ?_⟩
      rw [hn, hk1, List.append_nil]
      (repeat' (first | exact PSub.rfl | exact rfl | exact PSubs.rfl | exact trivial | exact PSub.lit_sb rfl | refine And.intro ?_ ?_))
      intro i hi; exact PSubs.rfl
  · have e : k = d.clusters.length := by omega
    subst e
    repeat (any_goals (first
      | (refine ⟨fun (h : (_ : Bool) = true) => ?_, fun (h : (_ : Bool) = false) => ?_⟩ <;> (try simp only [decide_eq_true_eq, decide_eq_false_iff_not, Bool.not_eq_true', Bool.not_eq_false', Int.toNat_natCast, beq_iff_eq, decide_eq_decide, beq_eq_false_iff_ne, ne_eq, reduceCtorEq] at h) <;> (conv => whnf))
      | (refine And.intro (by (try simp only [Int.toNat_natCast]); omega) ?_; conv => whnf)
      | (refine And.intro (show (_ : Bool) = true from by kernel_rfl) ?_; conv => whnf)
      | (refine .inl ⟨wrap64 (by omega), ?_⟩; conv => whnf)))
    exact .rfl
end Go.Abs

namespace Go.Abs
open Go.Proofs
set_option maxRecDepth 10000
def noClu : Clu := ⟨⟨#[]⟩, [], [], []⟩
def partO (H : Hom) (id : Int) (s : ByteArray) : Option Clu := if findB H id = true ∧ 0 ≤ idxOf (findD H id).clusters s then firstC H.clusters s else none
def attrO (o : Option Clu) (s : ByteArray) : Option Attr := match o with
  | some c => if attrAt c.attrs s < c.attrs.length then some (c.attrs.getD (attrAt c.attrs s) default) else none
  | none => none
def findA (H : Hom) (k : Key) : Option Attr := attrO (partO H k.dev k.cluster) k.attr
theorem noAttr_cells2 : PSub (.agg zAttr) (.agg (cAttr noAttr)) := PSub.agg noAttr_cells
theorem noClu_cells : PSub (.agg [vstr ⟨#[]⟩, .val (.slice none 0 0), .val (.slice none 0 0), .val (.slice none 0 0)]) (.agg (cClu noClu)) := PSub.agg ⟨.rfl, PSub.nil_ro _ _, PSub.nil_ro _ _, PSub.nil_ro _ _, trivial⟩
theorem smallK_noClu : smallK noClu := ⟨Nat.zero_le _, fun _ => Nat.zero_le _, Nat.zero_le _, fun _ => ⟨Nat.zero_le _, Nat.zero_le _⟩, Nat.zero_le _⟩
theorem ac_device_Find (H : Hom) (k : Key) (hH : smallH H) : AC Tryd.prog 25 [.pv (.agg (cHom H)), .pv (.agg (cKey k))] [] (.pv (.tup [.agg (cAttr ((findA H k).getD noAttr)), vbool (findA H k).isSome])) [] := by
  have hl : H.clusters.length ≤ 1048576 := hH.1.1
  have hd4 := @findD_length H k.dev
  refine AC.of_awp (T := T) T_ok hm Tryd.call25 Tryd.func25 rfl rfl rfl ?_
  conv => whnf
  refine .inl ⟨_, ac_device_find H k.dev hH, ?_⟩
  conv => whnf
  repeat (any_goals (first
    | (refine ⟨fun (h : (_ : Bool) = true) => ?_, fun (h : (_ : Bool) = false) => ?_⟩ <;> (try simp only [decide_eq_true_eq, decide_eq_false_iff_not, Bool.not_eq_true', Bool.not_eq_false', Int.toNat_natCast, beq_iff_eq, decide_eq_decide, beq_eq_false_iff_ne, ne_eq, reduceCtorEq] at h) <;> (conv => whnf))
    | (refine .inl ⟨_, ac_names_Index (findD H k.dev).clusters k.cluster (by omega), ?_⟩; conv => whnf)
    | (refine .inl ⟨_, ac_device_clusters H hl, ?_⟩; conv => whnf)
    | (refine And.intro (by (try simp only [Int.toNat_natCast]); omega) ?_; conv => whnf)
    | (refine And.intro (show (_ : Bool) = true from by kernel_rfl) ?_; conv => whnf)
    | (refine .inl ⟨wrap64 (by omega), ?_⟩; conv => whnf)))
  · have e : findA H k = none := by simp [findA, partO, h, attrO]
    rw [e]
    refine ⟨?_, ?_⟩ <;> (conv => whnf)
    · exact noAttr_cells2
    · exact PSub.lit_sb rfl
  · have e : findA H k = none := by rw [findA, partO, if_neg (by omega)]; rfl
    rw [e]
    refine ⟨?_, ?_⟩ <;> (conv => whnf)
    · exact noAttr_cells2
    · exact PSub.lit_sb rfl
  · rename_i hb
    have hpart : partO H k.dev k.cluster = firstC H.clusters k.cluster := by rw [partO, if_pos ⟨hb, by omega⟩]
    have hv : homE H = 0 := by simp only [findB, Bool.and_eq_true, decide_eq_true_eq] at hb; exact hb.1
    have hla := lastC_first (allE_distinct (homE_all hv)) k.cluster
    rw [show cluLook (lastC H.clusters H.clusters.length) (.string k.cluster) = cluLook (firstC H.clusters) (.string k.cluster) from by simp only [cluLook, hla]]
    rcases lookRes_clu (f := firstC H.clusters) k.cluster with ⟨c, h1, h2⟩ | ⟨h1, h2⟩
    · rw [h2]
      refine ⟨fun p hp => ?_, fun hp => by cases hp⟩
      cases hp
      conv => whnf
      repeat (any_goals (first
        | (refine ⟨fun (h : (_ : Bool) = true) => ?_, fun (h : (_ : Bool) = false) => ?_⟩ <;> (try simp only [decide_eq_true_eq, decide_eq_false_iff_not, Bool.not_eq_true', Bool.not_eq_false', Int.toNat_natCast, beq_iff_eq, decide_eq_decide, beq_eq_false_iff_ne, ne_eq, reduceCtorEq] at h) <;> (conv => whnf))
        | (refine .inl ⟨_, ac_cluster_Attr c k.attr (firstC_small hH.1 h1), ?_⟩; conv => whnf)
        | (refine And.intro (by (try simp only [Int.toNat_natCast]); omega) ?_; conv => whnf)
        | (refine And.intro (show (_ : Bool) = true from by kernel_rfl) ?_; conv => whnf)
        | (refine .inl ⟨wrap64 (by omega), ?_⟩; conv => whnf)))
      · have e : findA H k = none := by rw [findA, hpart, h1, attrO]; rw [if_neg h]
        rw [e]
        refine ⟨?_, ?_⟩ <;> (conv => whnf)
        · exact noAttr_cells2
        · exact PSub.lit_sb rfl
      · have e : findA H k = some (attrOf c.attrs k.attr) := by rw [findA, hpart, h1, attrO, attrOf]; rw [if_pos h, if_pos h]
        rw [e]
        refine ⟨?_, ?_⟩ <;> (conv => whnf)
        · exact .rfl
        · exact PSub.lit_sb rfl
    · rw [h2]
      refine ⟨fun p hp => (by cases hp), fun hp => ?_⟩
      conv => whnf
      repeat (any_goals (first
        | (refine ⟨fun (h : (_ : Bool) = true) => ?_, fun (h : (_ : Bool) = false) => ?_⟩ <;> (try simp only [decide_eq_true_eq, decide_eq_false_iff_not, Bool.not_eq_true', Bool.not_eq_false', Int.toNat_natCast, beq_iff_eq, decide_eq_decide, beq_eq_false_iff_ne, ne_eq, reduceCtorEq] at h) <;> (conv => whnf))
        | (refine .inl ⟨_, AC.sub2 (ac_cluster_Attr noClu k.attr smallK_noClu) noClu_cells .rfl, ?_⟩; conv => whnf)
        | (refine And.intro (by (try simp only [Int.toNat_natCast]); omega) ?_; conv => whnf)
        | (refine And.intro (show (_ : Bool) = true from by kernel_rfl) ?_; conv => whnf)
        | (refine .inl ⟨wrap64 (by omega), ?_⟩; conv => whnf)))
      · have e : findA H k = none := by rw [findA, hpart, h1, attrO]
        rw [e]
        refine ⟨?_, ?_⟩ <;> (conv => whnf)
        · exact noAttr_cells2
        · exact PSub.lit_sb rfl
      · exact absurd h (by simp [noClu])
end Go.Abs

namespace Go.Abs
open Go.Proofs
set_option maxRecDepth 10000
def ixI (n k : Nat) : Int := if k < n then (k : Int) else -1
theorem ac_slices_IndexFunc_Item (l : List Item) (gb : List PV → Bool) (gi : List PV → Int) (hl : smallL l) : AC Tryd.prog 41 [.pv (roL 7 cItem l), .clo (fun xs => ∃ x : Item, xs = [.agg (cItem x)]) true gb gi] [] (.pv (vint (ixI l.length (firstI l.length fun i => gb [.agg (cItem (l.getD i default))])))) [] := by
  have hl : l.length ≤ 1048576 := hl
  refine AC.of_awp (T := T) T_ok hm Tryd.call41 Tryd.func41 rfl rfl rfl ?_
  conv => whnf
  refine loop_k (ι := Nat) [0, 1, 7] [] (fun k => k ≤ l.length ∧ (∀ j, j < k → gb [.agg (cItem (l.getD j default))] = false)) (fun k => l.length - k) 0 (fun k => [(8, .pv (vint k))]) (fun _ => []) [] ⟨Nat.zero_le _, fun j h => absurd h (by omega)⟩ ?_ (fun k hk => ?_)
  · (repeat' (first | exact PSub.rfl | exact rfl | exact PSubs.rfl | exact trivial | exact PSub.lit_sb rfl | refine And.intro ?_ ?_))
  obtain ⟨hkn, hinv⟩ := hk
  conv => whnf
  repeat (any_goals (first
    | (refine ⟨fun (h : (_ : Bool) = true) => ?_, fun (h : (_ : Bool) = false) => ?_⟩ <;> (try simp only [decide_eq_true_eq, decide_eq_false_iff_not, Bool.not_eq_true', Bool.not_eq_false', Int.toNat_natCast, beq_iff_eq, decide_eq_decide, beq_eq_false_iff_ne, ne_eq, reduceCtorEq] at h) <;> (conv => whnf))
    | (refine And.intro (by (try simp only [Int.toNat_natCast]); omega) ?_; conv => whnf)
    | (refine And.intro (show (_ : Bool) = true from by kernel_rfl) ?_; conv => whnf)
    | (refine .inl ⟨wrap64 (by omega), ?_⟩; conv => whnf)))
  refine And.intro ⟨l.getD k default, rfl⟩ ?_
  conv => whnf
  repeat (any_goals (first
    | (refine ⟨fun (h : (_ : Bool) = true) => ?_, fun (h : (_ : Bool) = false) => ?_⟩ <;> (try simp only [decide_eq_true_eq, decide_eq_false_iff_not, Bool.not_eq_true', Bool.not_eq_false', Int.toNat_natCast, beq_iff_eq, decide_eq_decide, beq_eq_false_iff_ne, ne_eq, reduceCtorEq] at h) <;> (conv => whnf))
    | (refine And.intro (by (try simp only [Int.toNat_natCast]); omega) ?_; conv => whnf)
    | (refine And.intro (show (_ : Bool) = true from by kernel_rfl) ?_; conv => whnf)
    | (refine .inl ⟨wrap64 (by omega), ?_⟩; conv => whnf)))
  · have e : firstI l.length (fun i => gb [.agg (cItem (l.getD i default))]) = k := firstI_at (by omega) h hinv
    exact PSub.int (by rw [e, ixI, if_pos (by omega)])
  · refine ⟨k + 1, [], ⟨by omega, ?_⟩, by first | omega | (dsimp only; omega), ?_⟩
    rotate_left
    · (repeat' (first | exact PSub.rfl | exact rfl | exact PSubs.rfl | exact trivial | exact PSub.lit_sb rfl | refine And.intro ?_ ?_))
    intro j hj
    by_cases e : j = k
    · subst e; first | exact h | simpa [-List.getD_eq_getElem?_getD] using h | simp_all [-List.getD_eq_getElem?_getD]
    · exact hinv j (by omega)
  · have e : firstI l.length (fun i => gb [.agg (cItem (l.getD i default))]) = l.length := firstI_none fun j hj => hinv j (by omega)
    exact PSub.int (by rw [e, ixI, if_neg (by omega)])
def keyB (k : Key) : List PV → Bool
  | [.agg (.val (.int .i64 d) :: .val (.string c) :: .val (.string a) :: _)] => decide ((⟨d, c, a⟩ : Key) = k)
  | _ => false
theorem keyB_item (k : Key) (x : Item) : keyB k [.agg (cItem x)] = decide (x.key = k) := rfl
theorem ac_device_index_1 (x : Item) (k : Key) : AC Tryd.prog 76 [.pv (.agg (cItem x)), .pv (.cell (cKey k))] [] (.pv (vbool (decide (x.key = k)))) [] := by
  refine AC.of_awp (T := T) T_ok hm Tryd.call76 Tryd.func76 rfl rfl rfl ?_
  conv => whnf
  repeat (any_goals (first
    | (refine ⟨fun (h : (_ : Bool) = true) => ?_, fun (h : (_ : Bool) = false) => ?_⟩ <;> (try simp only [decide_eq_true_eq, decide_eq_false_iff_not, Bool.not_eq_true', Bool.not_eq_false', Int.toNat_natCast, beq_iff_eq, decide_eq_decide, beq_eq_false_iff_ne, ne_eq, reduceCtorEq] at h) <;> (conv => whnf))
    | (refine And.intro (by (try simp only [Int.toNat_natCast]); omega) ?_; conv => whnf)
    | (refine And.intro (show (_ : Bool) = true from by kernel_rfl) ?_; conv => whnf)
    | (refine .inl ⟨wrap64 (by omega), ?_⟩; conv => whnf)))
  refine PSub.sb ?_
  obtain ⟨⟨a, b, c⟩, v, n⟩ := x
  obtain ⟨d, e, f⟩ := k
  rw [Bool.eq_iff_iff]; simp
def itemAt (l : List Item) (k : Key) : Nat := firstI l.length fun i => decide ((l.getD i default).key = k)
theorem ac_slices_IndexFunc_Item_f (l : List Item) (k : Key) (hl : smallL l) : AC Tryd.prog 41 [.pv (roL 7 cItem l), .fn 76 [.pv (.cell (cKey k))]] [] (.pv (vint (ixI l.length (itemAt l k)))) [] := by
  refine AC.with_fn (pre := [.pv (roL 7 cItem l)]) (post := []) (ac_slices_IndexFunc_Item l (keyB k) (fun _ => 0) hl) Tryd.call76 rfl rfl rfl ?_
  rintro xs ⟨x, rfl⟩
  exact ac_device_index_1 x k
theorem ac_device_index (l : List Item) (k : Key) (hl : smallL l) : AC Tryd.prog 65 [.pv (roL 7 cItem l), .pv (.agg (cKey k))] [] (.pv (vint (ixI l.length (itemAt l k)))) [] := by
  refine AC.of_awp (T := T) T_ok hm Tryd.call65 Tryd.func65 rfl rfl rfl ?_
  conv => whnf
  refine .inl ⟨_, ac_slices_IndexFunc_Item_f l k hl, ?_⟩
  conv => whnf
  exact .rfl
def noItem : Item := ⟨⟨0, ⟨#[]⟩, ⟨#[]⟩⟩, noVal, 0⟩
def getI (l : List Item) (k : Key) : Item := if itemAt l k < l.length then l.getD (itemAt l k) default else noItem
theorem ac_device_Get (l : List Item) (k : Key) (hl : smallL l) : AC Tryd.prog 50 [.pv (roL 7 cItem l), .pv (.agg (cKey k))] [] (.pv (.tup [.agg (cItem (getI l k)), vbool (decide (itemAt l k < l.length))])) [] := by
  refine AC.of_awp (T := T) T_ok hm Tryd.call50 Tryd.func50 rfl rfl rfl ?_
  conv => whnf
  refine .inl ⟨_, ac_device_index l k hl, ?_⟩
  conv => whnf
  unfold ixI
  by_cases hlt : itemAt l k < l.length
  · rw [if_pos hlt]
    repeat (any_goals (first
      | (refine ⟨fun (h : (_ : Bool) = true) => ?_, fun (h : (_ : Bool) = false) => ?_⟩ <;> (try simp only [decide_eq_true_eq, decide_eq_false_iff_not, Bool.not_eq_true', Bool.not_eq_false', Int.toNat_natCast, beq_iff_eq, decide_eq_decide, beq_eq_false_iff_ne, ne_eq, reduceCtorEq] at h) <;> (conv => whnf))
      | (refine And.intro (by (try simp only [Int.toNat_natCast]); omega) ?_; conv => whnf)
      | (refine And.intro (show (_ : Bool) = true from by kernel_rfl) ?_; conv => whnf)
      | (refine .inl ⟨wrap64 (by omega), ?_⟩; conv => whnf)))
    · refine ⟨?_, ?_⟩ <;> (conv => whnf)
      · exact PSub.of_eq (by rw [getI, if_pos hlt]; rfl)
      · exact PSub.lit_sb (by simp [hlt])
    · exfalso; omega
  · rw [if_neg hlt]
    repeat (any_goals (first
      | (refine ⟨fun (h : (_ : Bool) = true) => ?_, fun (h : (_ : Bool) = false) => ?_⟩ <;> (try simp only [decide_eq_true_eq, decide_eq_false_iff_not, Bool.not_eq_true', Bool.not_eq_false', Int.toNat_natCast, beq_iff_eq, decide_eq_decide, beq_eq_false_iff_ne, ne_eq, reduceCtorEq] at h) <;> (conv => whnf))
      | (refine And.intro (by (try simp only [Int.toNat_natCast]); omega) ?_; conv => whnf)
      | (refine And.intro (show (_ : Bool) = true from by kernel_rfl) ?_; conv => whnf)
      | (refine .inl ⟨wrap64 (by omega), ?_⟩; conv => whnf)))
    · exfalso; omega
    · refine ⟨?_, ?_⟩ <;> (conv => whnf)
      · exact PSub.of_eq (by rw [getI, if_neg hlt]; rfl)
      · exact PSub.lit_sb (by simp [hlt])
end Go.Abs

namespace Go.Abs
open Go.Proofs
set_option maxRecDepth 10000
theorem val_eq (a b : Val) : (decide (a.kind = b.kind) && (decide (a.n = b.n) && (decide (a.s = b.s) && true))) = decide (a = b) := by
  obtain ⟨a1, a2, a3⟩ := a
  obtain ⟨b1, b2, b3⟩ := b
  rw [Bool.eq_iff_iff]; simp
theorem rows_set {α : Type} [Inhabited α] {enc : α → List PV} {l : List α} {i : Nat} {x : α} {F : Nat → List PV} (h1 : ∀ j, j < l.length → j ≠ i → PSubs (F j) (enc (l.getD j default))) (h2 : i < l.length → PSubs (F i) (enc x)) :
    ∀ j, j < (l.set i x).length → PSubs (F j) (enc ((l.set i x).getD j default)) := by
  intro j hj
  rw [List.length_set] at hj
  by_cases e : j = i
  · subst e
    have : (l.set j x).getD j default = x := by simp [List.getD, hj]
    rw [this]; exact h2 hj
  · have : (l.set i x).getD j default = l.getD j default := by simp [List.getD, List.getElem?_set_ne (Ne.symm e)]
    rw [this]; exact h1 j hj e
def initL (H : Hom) (id : Int) : List Item := (List.range (keysL H id).length).map fun i => ⟨(keysL H id).getD i default, zeroV ((findA H ((keysL H id).getD i default)).getD noAttr), (i : Int) + 1⟩
def initTo (H : Hom) (id : Int) (k : Nat) : List Item := (List.range k).map fun i => ⟨(keysL H id).getD i default, zeroV ((findA H ((keysL H id).getD i default)).getD noAttr), (i : Int) + 1⟩
theorem initTo_succ {H : Hom} {id : Int} {k : Nat} : initTo H id (k + 1) = initTo H id k ++ [⟨(keysL H id).getD k default, zeroV ((findA H ((keysL H id).getD k default)).getD noAttr), (k : Int) + 1⟩] := by
  simp [initTo, List.range_succ, -List.getD_eq_getElem?_getD]
theorem initTo_length {H : Hom} {id : Int} {k : Nat} : (initTo H id k).length = k := by simp [initTo]
theorem keysL_length {H : Hom} (hH : smallH H) {id : Int} : (keysL H id).length ≤ 4194304 := by
  have h4 := @findD_length H id
  have := keysTo_len (f := firstC H.clusters) (fun _ _ => firstC_small hH.1) (id := id) (l := (findD H id).clusters) (k := (findD H id).clusters.length) (Nat.le_refl _)
  rw [keysTo, List.take_length] at this
  have e : keysL H id = (findD H id).clusters.flatMap (keysOf1 (firstC H.clusters) id) := rfl
  rw [← e] at this
  omega
theorem small_findA {H : Hom} (hH : smallH H) {k : Key} : smallA ((findA H k).getD noAttr) := by
  unfold findA
  cases h : partO H k.dev k.cluster with
  | none => exact Nat.zero_le _
  | some c =>
    unfold attrO
    simp only
    have hc : smallK c := by
      unfold partO at h
      split at h
      · exact firstC_small hH.1 h
      · cases h
    split
    · exact hc.2.1 _
    · exact Nat.zero_le _
end Go.Abs
