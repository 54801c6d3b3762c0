/- The seat's table of types, by program, and that it fits. -/
import Derived.Test.YtdnppfhapkdlfaaDoorX03
import Derived.Test.YtdnppfhapkdlfaaDoorProg
import Derived.KernelRfl
import Derived.Laws.RangeString

set_option linter.unusedVariables false
set_option linter.unusedSimpArgs false
set_option linter.unusedSectionVars false

namespace Go.Abs
open Go.Proofs

/-- the string tables of the program -/
def glob0 : List ByteArray := [⟨#[111, 110, 111, 102, 102]⟩, ⟨#[108, 101, 118, 101, 108]⟩, ⟨#[108, 111, 99, 107]⟩, ⟨#[116, 104, 101, 114, 109, 111, 115, 116, 97, 116]⟩, ⟨#[115, 109, 111, 107, 101]⟩, ⟨#[108, 101, 97, 107]⟩, ⟨#[118, 97, 108, 118, 101]⟩, ⟨#[109, 101, 116, 101, 114]⟩]
instance : Globals := ⟨fun g => match Nat.beq g 0 with | true => some (glob0.map fun s => .val (.string s)) | false => none⟩

theorem eqt31 (e : Nat) : EqAt Tryd.prog (e + 2) 31 [.int .i64, .str, .str] := EqAt.struct Tryd.underlying31 (by kernel_rfl) (.one 0 _ _ (.int .i64) _ (by decide) rfl Tryd.underlying3 (.one 1 _ _ (.str) _ (by decide) rfl Tryd.underlying9 (.one 2 _ _ (.str) _ (by decide) rfl Tryd.underlying9 (.nil _))))
theorem eqt32 (e : Nat) : EqAt Tryd.prog (e + 2) 32 [.int .i64, .str, .str] := EqAt.struct Tryd.underlying32 (by kernel_rfl) (.one 0 _ _ (.int .i64) _ (by decide) rfl Tryd.underlying3 (.one 1 _ _ (.str) _ (by decide) rfl Tryd.underlying9 (.one 2 _ _ (.str) _ (by decide) rfl Tryd.underlying9 (.nil _))))
theorem eqt33 (e : Nat) : EqAt Tryd.prog (e + 2) 33 [.int .i64, .int .i64, .str] := EqAt.struct Tryd.underlying33 (by kernel_rfl) (.one 0 _ _ (.int .i64) _ (by decide) rfl Tryd.underlying3 (.one 1 _ _ (.int .i64) _ (by decide) rfl Tryd.underlying3 (.one 2 _ _ (.str) _ (by decide) rfl Tryd.underlying9 (.nil _))))
theorem eqt34 (e : Nat) : EqAt Tryd.prog (e + 2) 34 [.int .i64, .int .i64, .str] := EqAt.struct Tryd.underlying34 (by kernel_rfl) (.one 0 _ _ (.int .i64) _ (by decide) rfl Tryd.underlying3 (.one 1 _ _ (.int .i64) _ (by decide) rfl Tryd.underlying3 (.one 2 _ _ (.str) _ (by decide) rfl Tryd.underlying9 (.nil _))))
theorem eqt37 (e : Nat) : EqAt Tryd.prog (e + 3) 37 [.int .i64, .str, .str, .int .i64, .int .i64, .str, .int .i64] := EqAt.struct Tryd.underlying37 (by kernel_rfl) (.many 0 _ _ [.int .i64, .str, .str] _ (by decide) rfl Tryd.t32 _ Tryd.underlying32 (by kernel_rfl) rfl (eqt32 e) (.many 3 _ _ [.int .i64, .int .i64, .str] _ (by decide) rfl Tryd.t34 _ Tryd.underlying34 (by kernel_rfl) rfl (eqt34 e) (.one 6 _ _ (.int .i64) _ (by decide) rfl Tryd.underlying3 (.nil _))))
theorem eqt38 (e : Nat) : EqAt Tryd.prog (e + 3) 38 [.int .i64, .str, .str, .int .i64, .int .i64, .str, .int .i64] := EqAt.struct Tryd.underlying38 (by kernel_rfl) (.many 0 _ _ [.int .i64, .str, .str] _ (by decide) rfl Tryd.t32 _ Tryd.underlying32 (by kernel_rfl) rfl (eqt32 e) (.many 3 _ _ [.int .i64, .int .i64, .str] _ (by decide) rfl Tryd.t34 _ Tryd.underlying34 (by kernel_rfl) rfl (eqt34 e) (.one 6 _ _ (.int .i64) _ (by decide) rfl Tryd.underlying3 (.nil _))))
theorem eqt128 (e : Nat) : EqAt Tryd.prog (e + 2) 128 [.int .i64, .str, .int .i64] := EqAt.struct Tryd.underlying128 (by kernel_rfl) (.one 0 _ _ (.int .i64) _ (by decide) rfl Tryd.underlying3 (.one 1 _ _ (.str) _ (by decide) rfl Tryd.underlying9 (.one 2 _ _ (.int .i64) _ (by decide) rfl Tryd.underlying3 (.nil _))))
theorem eqt129 (e : Nat) : EqAt Tryd.prog (e + 2) 129 [.int .i64, .str, .int .i64] := EqAt.struct Tryd.underlying129 (by kernel_rfl) (.one 0 _ _ (.int .i64) _ (by decide) rfl Tryd.underlying3 (.one 1 _ _ (.str) _ (by decide) rfl Tryd.underlying9 (.one 2 _ _ (.int .i64) _ (by decide) rfl Tryd.underlying3 (.nil _))))

def TYok (t : Nat) (ty : TY) : Prop := Tryd.prog.info? t = some ty.info ∧ Tryd.prog.underlying t = some ty.und ∧ (ty.leaves = [] ∨ EqOK Tryd.prog t ty.leaves)
noncomputable abbrev ty0 : TY := ⟨Tryd.t0, Tryd.t0.desc, []⟩
theorem ok0 : TYok 0 ty0 := ⟨by kernel_rfl, by kernel_rfl, .inl rfl⟩
noncomputable abbrev ty1 : TY := ⟨Tryd.t1, Tryd.t1.desc, []⟩
theorem ok1 : TYok 1 ty1 := ⟨by kernel_rfl, by kernel_rfl, .inl rfl⟩
noncomputable abbrev ty2 : TY := ⟨Tryd.t2, Tryd.t2.desc, []⟩
theorem ok2 : TYok 2 ty2 := ⟨by kernel_rfl, by kernel_rfl, .inl rfl⟩
noncomputable abbrev ty3 : TY := ⟨Tryd.t3, Tryd.t3.desc, []⟩
theorem ok3 : TYok 3 ty3 := ⟨by kernel_rfl, by kernel_rfl, .inl rfl⟩
noncomputable abbrev ty4 : TY := ⟨Tryd.t4, Tryd.t4.desc, []⟩
theorem ok4 : TYok 4 ty4 := ⟨by kernel_rfl, by kernel_rfl, .inl rfl⟩
noncomputable abbrev ty5 : TY := ⟨Tryd.t5, Tryd.t5.desc, []⟩
theorem ok5 : TYok 5 ty5 := ⟨by kernel_rfl, by kernel_rfl, .inl rfl⟩
noncomputable abbrev ty6 : TY := ⟨Tryd.t6, Tryd.t5.desc, []⟩
theorem ok6 : TYok 6 ty6 := ⟨by kernel_rfl, by kernel_rfl, .inl rfl⟩
noncomputable abbrev ty7 : TY := ⟨Tryd.t7, Tryd.t7.desc, []⟩
theorem ok7 : TYok 7 ty7 := ⟨by kernel_rfl, by kernel_rfl, .inl rfl⟩
noncomputable abbrev ty8 : TY := ⟨Tryd.t8, Tryd.t7.desc, []⟩
theorem ok8 : TYok 8 ty8 := ⟨by kernel_rfl, by kernel_rfl, .inl rfl⟩
noncomputable abbrev ty9 : TY := ⟨Tryd.t9, Tryd.t9.desc, []⟩
theorem ok9 : TYok 9 ty9 := ⟨by kernel_rfl, by kernel_rfl, .inl rfl⟩
noncomputable abbrev ty10 : TY := ⟨Tryd.t10, Tryd.t9.desc, []⟩
theorem ok10 : TYok 10 ty10 := ⟨by kernel_rfl, by kernel_rfl, .inl rfl⟩
noncomputable abbrev ty11 : TY := ⟨Tryd.t11, Tryd.t9.desc, []⟩
theorem ok11 : TYok 11 ty11 := ⟨by kernel_rfl, by kernel_rfl, .inl rfl⟩
noncomputable abbrev ty12 : TY := ⟨Tryd.t12, Tryd.t12.desc, []⟩
theorem ok12 : TYok 12 ty12 := ⟨by kernel_rfl, by kernel_rfl, .inl rfl⟩
noncomputable abbrev ty13 : TY := ⟨Tryd.t13, Tryd.t13.desc, []⟩
theorem ok13 : TYok 13 ty13 := ⟨by kernel_rfl, by kernel_rfl, .inl rfl⟩
noncomputable abbrev ty14 : TY := ⟨Tryd.t14, Tryd.t13.desc, []⟩
theorem ok14 : TYok 14 ty14 := ⟨by kernel_rfl, by kernel_rfl, .inl rfl⟩
noncomputable abbrev ty15 : TY := ⟨Tryd.t15, Tryd.t15.desc, []⟩
theorem ok15 : TYok 15 ty15 := ⟨by kernel_rfl, by kernel_rfl, .inl rfl⟩
noncomputable abbrev ty16 : TY := ⟨Tryd.t16, Tryd.t16.desc, []⟩
theorem ok16 : TYok 16 ty16 := ⟨by kernel_rfl, by kernel_rfl, .inl rfl⟩
noncomputable abbrev ty17 : TY := ⟨Tryd.t17, Tryd.t17.desc, []⟩
theorem ok17 : TYok 17 ty17 := ⟨by kernel_rfl, by kernel_rfl, .inl rfl⟩
noncomputable abbrev ty18 : TY := ⟨Tryd.t18, Tryd.t18.desc, []⟩
theorem ok18 : TYok 18 ty18 := ⟨by kernel_rfl, by kernel_rfl, .inl rfl⟩
noncomputable abbrev ty19 : TY := ⟨Tryd.t19, Tryd.t18.desc, []⟩
theorem ok19 : TYok 19 ty19 := ⟨by kernel_rfl, by kernel_rfl, .inl rfl⟩
noncomputable abbrev ty20 : TY := ⟨Tryd.t20, Tryd.t20.desc, []⟩
theorem ok20 : TYok 20 ty20 := ⟨by kernel_rfl, by kernel_rfl, .inl rfl⟩
noncomputable abbrev ty21 : TY := ⟨Tryd.t21, Tryd.t21.desc, []⟩
theorem ok21 : TYok 21 ty21 := ⟨by kernel_rfl, by kernel_rfl, .inl rfl⟩
noncomputable abbrev ty22 : TY := ⟨Tryd.t22, Tryd.t22.desc, []⟩
theorem ok22 : TYok 22 ty22 := ⟨by kernel_rfl, by kernel_rfl, .inl rfl⟩
noncomputable abbrev ty23 : TY := ⟨Tryd.t23, Tryd.t23.desc, []⟩
theorem ok23 : TYok 23 ty23 := ⟨by kernel_rfl, by kernel_rfl, .inl rfl⟩
noncomputable abbrev ty24 : TY := ⟨Tryd.t24, Tryd.t24.desc, []⟩
theorem ok24 : TYok 24 ty24 := ⟨by kernel_rfl, by kernel_rfl, .inl rfl⟩
noncomputable abbrev ty25 : TY := ⟨Tryd.t25, Tryd.t24.desc, []⟩
theorem ok25 : TYok 25 ty25 := ⟨by kernel_rfl, by kernel_rfl, .inl rfl⟩
noncomputable abbrev ty26 : TY := ⟨Tryd.t26, Tryd.t26.desc, []⟩
theorem ok26 : TYok 26 ty26 := ⟨by kernel_rfl, by kernel_rfl, .inl rfl⟩
noncomputable abbrev ty27 : TY := ⟨Tryd.t27, Tryd.t3.desc, []⟩
theorem ok27 : TYok 27 ty27 := ⟨by kernel_rfl, by kernel_rfl, .inl rfl⟩
noncomputable abbrev ty28 : TY := ⟨Tryd.t28, Tryd.t28.desc, []⟩
theorem ok28 : TYok 28 ty28 := ⟨by kernel_rfl, by kernel_rfl, .inl rfl⟩
noncomputable abbrev ty29 : TY := ⟨Tryd.t29, Tryd.t29.desc, []⟩
theorem ok29 : TYok 29 ty29 := ⟨by kernel_rfl, by kernel_rfl, .inl rfl⟩
noncomputable abbrev ty30 : TY := ⟨Tryd.t30, Tryd.t30.desc, []⟩
theorem ok30 : TYok 30 ty30 := ⟨by kernel_rfl, by kernel_rfl, .inl rfl⟩
noncomputable abbrev ty31 : TY := ⟨Tryd.t31, Tryd.t31.desc, [.int .i64, .str, .str]⟩
theorem ok31 : TYok 31 ty31 := ⟨by kernel_rfl, by kernel_rfl, .inr ⟨by kernel_rfl, eqt31 9998⟩⟩
noncomputable abbrev ty32 : TY := ⟨Tryd.t32, Tryd.t31.desc, [.int .i64, .str, .str]⟩
theorem ok32 : TYok 32 ty32 := ⟨by kernel_rfl, by kernel_rfl, .inr ⟨by kernel_rfl, eqt32 9998⟩⟩
noncomputable abbrev ty33 : TY := ⟨Tryd.t33, Tryd.t33.desc, [.int .i64, .int .i64, .str]⟩
theorem ok33 : TYok 33 ty33 := ⟨by kernel_rfl, by kernel_rfl, .inr ⟨by kernel_rfl, eqt33 9998⟩⟩
noncomputable abbrev ty34 : TY := ⟨Tryd.t34, Tryd.t33.desc, [.int .i64, .int .i64, .str]⟩
theorem ok34 : TYok 34 ty34 := ⟨by kernel_rfl, by kernel_rfl, .inr ⟨by kernel_rfl, eqt34 9998⟩⟩
noncomputable abbrev ty35 : TY := ⟨Tryd.t35, Tryd.t35.desc, []⟩
theorem ok35 : TYok 35 ty35 := ⟨by kernel_rfl, by kernel_rfl, .inl rfl⟩
noncomputable abbrev ty36 : TY := ⟨Tryd.t36, Tryd.t35.desc, []⟩
theorem ok36 : TYok 36 ty36 := ⟨by kernel_rfl, by kernel_rfl, .inl rfl⟩
noncomputable abbrev ty37 : TY := ⟨Tryd.t37, Tryd.t37.desc, [.int .i64, .str, .str, .int .i64, .int .i64, .str, .int .i64]⟩
theorem ok37 : TYok 37 ty37 := ⟨by kernel_rfl, by kernel_rfl, .inr ⟨by kernel_rfl, eqt37 9997⟩⟩
noncomputable abbrev ty38 : TY := ⟨Tryd.t38, Tryd.t37.desc, [.int .i64, .str, .str, .int .i64, .int .i64, .str, .int .i64]⟩
theorem ok38 : TYok 38 ty38 := ⟨by kernel_rfl, by kernel_rfl, .inr ⟨by kernel_rfl, eqt38 9997⟩⟩
noncomputable abbrev ty39 : TY := ⟨Tryd.t39, Tryd.t39.desc, []⟩
theorem ok39 : TYok 39 ty39 := ⟨by kernel_rfl, by kernel_rfl, .inl rfl⟩
noncomputable abbrev ty40 : TY := ⟨Tryd.t40, Tryd.t40.desc, []⟩
theorem ok40 : TYok 40 ty40 := ⟨by kernel_rfl, by kernel_rfl, .inl rfl⟩
noncomputable abbrev ty41 : TY := ⟨Tryd.t41, Tryd.t41.desc, []⟩
theorem ok41 : TYok 41 ty41 := ⟨by kernel_rfl, by kernel_rfl, .inl rfl⟩
noncomputable abbrev ty42 : TY := ⟨Tryd.t42, Tryd.t42.desc, []⟩
theorem ok42 : TYok 42 ty42 := ⟨by kernel_rfl, by kernel_rfl, .inl rfl⟩
noncomputable abbrev ty43 : TY := ⟨Tryd.t43, Tryd.t43.desc, []⟩
theorem ok43 : TYok 43 ty43 := ⟨by kernel_rfl, by kernel_rfl, .inl rfl⟩
noncomputable abbrev ty44 : TY := ⟨Tryd.t44, Tryd.t44.desc, []⟩
theorem ok44 : TYok 44 ty44 := ⟨by kernel_rfl, by kernel_rfl, .inl rfl⟩
noncomputable abbrev ty45 : TY := ⟨Tryd.t45, Tryd.t45.desc, []⟩
theorem ok45 : TYok 45 ty45 := ⟨by kernel_rfl, by kernel_rfl, .inl rfl⟩
noncomputable abbrev ty46 : TY := ⟨Tryd.t46, Tryd.t46.desc, []⟩
theorem ok46 : TYok 46 ty46 := ⟨by kernel_rfl, by kernel_rfl, .inl rfl⟩
noncomputable abbrev ty47 : TY := ⟨Tryd.t47, Tryd.t47.desc, []⟩
theorem ok47 : TYok 47 ty47 := ⟨by kernel_rfl, by kernel_rfl, .inl rfl⟩
noncomputable abbrev ty48 : TY := ⟨Tryd.t48, Tryd.t48.desc, []⟩
theorem ok48 : TYok 48 ty48 := ⟨by kernel_rfl, by kernel_rfl, .inl rfl⟩
noncomputable abbrev ty49 : TY := ⟨Tryd.t49, Tryd.t48.desc, []⟩
theorem ok49 : TYok 49 ty49 := ⟨by kernel_rfl, by kernel_rfl, .inl rfl⟩
noncomputable abbrev ty50 : TY := ⟨Tryd.t50, Tryd.t50.desc, []⟩
theorem ok50 : TYok 50 ty50 := ⟨by kernel_rfl, by kernel_rfl, .inl rfl⟩
noncomputable abbrev ty51 : TY := ⟨Tryd.t51, Tryd.t51.desc, []⟩
theorem ok51 : TYok 51 ty51 := ⟨by kernel_rfl, by kernel_rfl, .inl rfl⟩
noncomputable abbrev ty52 : TY := ⟨Tryd.t52, Tryd.t52.desc, []⟩
theorem ok52 : TYok 52 ty52 := ⟨by kernel_rfl, by kernel_rfl, .inl rfl⟩
noncomputable abbrev ty53 : TY := ⟨Tryd.t53, Tryd.t53.desc, []⟩
theorem ok53 : TYok 53 ty53 := ⟨by kernel_rfl, by kernel_rfl, .inl rfl⟩
noncomputable abbrev ty54 : TY := ⟨Tryd.t54, Tryd.t54.desc, []⟩
theorem ok54 : TYok 54 ty54 := ⟨by kernel_rfl, by kernel_rfl, .inl rfl⟩
noncomputable abbrev ty55 : TY := ⟨Tryd.t55, Tryd.t55.desc, []⟩
theorem ok55 : TYok 55 ty55 := ⟨by kernel_rfl, by kernel_rfl, .inl rfl⟩
noncomputable abbrev ty56 : TY := ⟨Tryd.t56, Tryd.t56.desc, []⟩
theorem ok56 : TYok 56 ty56 := ⟨by kernel_rfl, by kernel_rfl, .inl rfl⟩
noncomputable abbrev ty57 : TY := ⟨Tryd.t57, Tryd.t57.desc, []⟩
theorem ok57 : TYok 57 ty57 := ⟨by kernel_rfl, by kernel_rfl, .inl rfl⟩
noncomputable abbrev ty58 : TY := ⟨Tryd.t58, Tryd.t58.desc, []⟩
theorem ok58 : TYok 58 ty58 := ⟨by kernel_rfl, by kernel_rfl, .inl rfl⟩
noncomputable abbrev ty59 : TY := ⟨Tryd.t59, Tryd.t59.desc, []⟩
theorem ok59 : TYok 59 ty59 := ⟨by kernel_rfl, by kernel_rfl, .inl rfl⟩
noncomputable abbrev ty60 : TY := ⟨Tryd.t60, Tryd.t60.desc, []⟩
theorem ok60 : TYok 60 ty60 := ⟨by kernel_rfl, by kernel_rfl, .inl rfl⟩
noncomputable abbrev ty61 : TY := ⟨Tryd.t61, Tryd.t61.desc, []⟩
theorem ok61 : TYok 61 ty61 := ⟨by kernel_rfl, by kernel_rfl, .inl rfl⟩
noncomputable abbrev ty62 : TY := ⟨Tryd.t62, Tryd.t61.desc, []⟩
theorem ok62 : TYok 62 ty62 := ⟨by kernel_rfl, by kernel_rfl, .inl rfl⟩
noncomputable abbrev ty63 : TY := ⟨Tryd.t63, Tryd.t63.desc, []⟩
theorem ok63 : TYok 63 ty63 := ⟨by kernel_rfl, by kernel_rfl, .inl rfl⟩
noncomputable abbrev ty64 : TY := ⟨Tryd.t64, Tryd.t64.desc, []⟩
theorem ok64 : TYok 64 ty64 := ⟨by kernel_rfl, by kernel_rfl, .inl rfl⟩
noncomputable abbrev ty65 : TY := ⟨Tryd.t65, Tryd.t65.desc, []⟩
theorem ok65 : TYok 65 ty65 := ⟨by kernel_rfl, by kernel_rfl, .inl rfl⟩
noncomputable abbrev ty66 : TY := ⟨Tryd.t66, Tryd.t66.desc, []⟩
theorem ok66 : TYok 66 ty66 := ⟨by kernel_rfl, by kernel_rfl, .inl rfl⟩
noncomputable abbrev ty67 : TY := ⟨Tryd.t67, Tryd.t67.desc, []⟩
theorem ok67 : TYok 67 ty67 := ⟨by kernel_rfl, by kernel_rfl, .inl rfl⟩
noncomputable abbrev ty68 : TY := ⟨Tryd.t68, Tryd.t68.desc, []⟩
theorem ok68 : TYok 68 ty68 := ⟨by kernel_rfl, by kernel_rfl, .inl rfl⟩
noncomputable abbrev ty69 : TY := ⟨Tryd.t69, Tryd.t69.desc, []⟩
theorem ok69 : TYok 69 ty69 := ⟨by kernel_rfl, by kernel_rfl, .inl rfl⟩
noncomputable abbrev ty70 : TY := ⟨Tryd.t70, Tryd.t70.desc, []⟩
theorem ok70 : TYok 70 ty70 := ⟨by kernel_rfl, by kernel_rfl, .inl rfl⟩
noncomputable abbrev ty71 : TY := ⟨Tryd.t71, Tryd.t71.desc, []⟩
theorem ok71 : TYok 71 ty71 := ⟨by kernel_rfl, by kernel_rfl, .inl rfl⟩
noncomputable abbrev ty72 : TY := ⟨Tryd.t72, Tryd.t72.desc, []⟩
theorem ok72 : TYok 72 ty72 := ⟨by kernel_rfl, by kernel_rfl, .inl rfl⟩
noncomputable abbrev ty73 : TY := ⟨Tryd.t73, Tryd.t72.desc, []⟩
theorem ok73 : TYok 73 ty73 := ⟨by kernel_rfl, by kernel_rfl, .inl rfl⟩
noncomputable abbrev ty74 : TY := ⟨Tryd.t74, Tryd.t74.desc, []⟩
theorem ok74 : TYok 74 ty74 := ⟨by kernel_rfl, by kernel_rfl, .inl rfl⟩
noncomputable abbrev ty75 : TY := ⟨Tryd.t75, Tryd.t75.desc, []⟩
theorem ok75 : TYok 75 ty75 := ⟨by kernel_rfl, by kernel_rfl, .inl rfl⟩
noncomputable abbrev ty76 : TY := ⟨Tryd.t76, Tryd.t76.desc, []⟩
theorem ok76 : TYok 76 ty76 := ⟨by kernel_rfl, by kernel_rfl, .inl rfl⟩
noncomputable abbrev ty77 : TY := ⟨Tryd.t77, Tryd.t77.desc, []⟩
theorem ok77 : TYok 77 ty77 := ⟨by kernel_rfl, by kernel_rfl, .inl rfl⟩
noncomputable abbrev ty78 : TY := ⟨Tryd.t78, Tryd.t78.desc, []⟩
theorem ok78 : TYok 78 ty78 := ⟨by kernel_rfl, by kernel_rfl, .inl rfl⟩
noncomputable abbrev ty79 : TY := ⟨Tryd.t79, Tryd.t79.desc, []⟩
theorem ok79 : TYok 79 ty79 := ⟨by kernel_rfl, by kernel_rfl, .inl rfl⟩
noncomputable abbrev ty80 : TY := ⟨Tryd.t80, Tryd.t80.desc, []⟩
theorem ok80 : TYok 80 ty80 := ⟨by kernel_rfl, by kernel_rfl, .inl rfl⟩
noncomputable abbrev ty81 : TY := ⟨Tryd.t81, Tryd.t81.desc, []⟩
theorem ok81 : TYok 81 ty81 := ⟨by kernel_rfl, by kernel_rfl, .inl rfl⟩
noncomputable abbrev ty82 : TY := ⟨Tryd.t82, Tryd.t82.desc, []⟩
theorem ok82 : TYok 82 ty82 := ⟨by kernel_rfl, by kernel_rfl, .inl rfl⟩
noncomputable abbrev ty83 : TY := ⟨Tryd.t83, Tryd.t83.desc, []⟩
theorem ok83 : TYok 83 ty83 := ⟨by kernel_rfl, by kernel_rfl, .inl rfl⟩
noncomputable abbrev ty84 : TY := ⟨Tryd.t84, Tryd.t84.desc, []⟩
theorem ok84 : TYok 84 ty84 := ⟨by kernel_rfl, by kernel_rfl, .inl rfl⟩
noncomputable abbrev ty85 : TY := ⟨Tryd.t85, Tryd.t85.desc, []⟩
theorem ok85 : TYok 85 ty85 := ⟨by kernel_rfl, by kernel_rfl, .inl rfl⟩
noncomputable abbrev ty86 : TY := ⟨Tryd.t86, Tryd.t86.desc, []⟩
theorem ok86 : TYok 86 ty86 := ⟨by kernel_rfl, by kernel_rfl, .inl rfl⟩
noncomputable abbrev ty87 : TY := ⟨Tryd.t87, Tryd.t87.desc, []⟩
theorem ok87 : TYok 87 ty87 := ⟨by kernel_rfl, by kernel_rfl, .inl rfl⟩
noncomputable abbrev ty88 : TY := ⟨Tryd.t88, Tryd.t88.desc, []⟩
theorem ok88 : TYok 88 ty88 := ⟨by kernel_rfl, by kernel_rfl, .inl rfl⟩
noncomputable abbrev ty89 : TY := ⟨Tryd.t89, Tryd.t89.desc, []⟩
theorem ok89 : TYok 89 ty89 := ⟨by kernel_rfl, by kernel_rfl, .inl rfl⟩
noncomputable abbrev ty90 : TY := ⟨Tryd.t90, Tryd.t90.desc, []⟩
theorem ok90 : TYok 90 ty90 := ⟨by kernel_rfl, by kernel_rfl, .inl rfl⟩
noncomputable abbrev ty91 : TY := ⟨Tryd.t91, Tryd.t90.desc, []⟩
theorem ok91 : TYok 91 ty91 := ⟨by kernel_rfl, by kernel_rfl, .inl rfl⟩
noncomputable abbrev ty92 : TY := ⟨Tryd.t92, Tryd.t92.desc, []⟩
theorem ok92 : TYok 92 ty92 := ⟨by kernel_rfl, by kernel_rfl, .inl rfl⟩
noncomputable abbrev ty93 : TY := ⟨Tryd.t93, Tryd.t93.desc, []⟩
theorem ok93 : TYok 93 ty93 := ⟨by kernel_rfl, by kernel_rfl, .inl rfl⟩
noncomputable abbrev ty94 : TY := ⟨Tryd.t94, Tryd.t94.desc, []⟩
theorem ok94 : TYok 94 ty94 := ⟨by kernel_rfl, by kernel_rfl, .inl rfl⟩
noncomputable abbrev ty95 : TY := ⟨Tryd.t95, Tryd.t95.desc, []⟩
theorem ok95 : TYok 95 ty95 := ⟨by kernel_rfl, by kernel_rfl, .inl rfl⟩
noncomputable abbrev ty96 : TY := ⟨Tryd.t96, Tryd.t96.desc, []⟩
theorem ok96 : TYok 96 ty96 := ⟨by kernel_rfl, by kernel_rfl, .inl rfl⟩
noncomputable abbrev ty97 : TY := ⟨Tryd.t97, Tryd.t97.desc, []⟩
theorem ok97 : TYok 97 ty97 := ⟨by kernel_rfl, by kernel_rfl, .inl rfl⟩
noncomputable abbrev ty98 : TY := ⟨Tryd.t98, Tryd.t98.desc, []⟩
theorem ok98 : TYok 98 ty98 := ⟨by kernel_rfl, by kernel_rfl, .inl rfl⟩
noncomputable abbrev ty99 : TY := ⟨Tryd.t99, Tryd.t99.desc, []⟩
theorem ok99 : TYok 99 ty99 := ⟨by kernel_rfl, by kernel_rfl, .inl rfl⟩
noncomputable abbrev ty100 : TY := ⟨Tryd.t100, Tryd.t100.desc, []⟩
theorem ok100 : TYok 100 ty100 := ⟨by kernel_rfl, by kernel_rfl, .inl rfl⟩
noncomputable abbrev ty101 : TY := ⟨Tryd.t101, Tryd.t101.desc, []⟩
theorem ok101 : TYok 101 ty101 := ⟨by kernel_rfl, by kernel_rfl, .inl rfl⟩
noncomputable abbrev ty102 : TY := ⟨Tryd.t102, Tryd.t102.desc, []⟩
theorem ok102 : TYok 102 ty102 := ⟨by kernel_rfl, by kernel_rfl, .inl rfl⟩
noncomputable abbrev ty103 : TY := ⟨Tryd.t103, Tryd.t103.desc, []⟩
theorem ok103 : TYok 103 ty103 := ⟨by kernel_rfl, by kernel_rfl, .inl rfl⟩
noncomputable abbrev ty104 : TY := ⟨Tryd.t104, Tryd.t104.desc, []⟩
theorem ok104 : TYok 104 ty104 := ⟨by kernel_rfl, by kernel_rfl, .inl rfl⟩
noncomputable abbrev ty105 : TY := ⟨Tryd.t105, Tryd.t105.desc, []⟩
theorem ok105 : TYok 105 ty105 := ⟨by kernel_rfl, by kernel_rfl, .inl rfl⟩
noncomputable abbrev ty106 : TY := ⟨Tryd.t106, Tryd.t106.desc, []⟩
theorem ok106 : TYok 106 ty106 := ⟨by kernel_rfl, by kernel_rfl, .inl rfl⟩
noncomputable abbrev ty107 : TY := ⟨Tryd.t107, Tryd.t107.desc, []⟩
theorem ok107 : TYok 107 ty107 := ⟨by kernel_rfl, by kernel_rfl, .inl rfl⟩
noncomputable abbrev ty108 : TY := ⟨Tryd.t108, Tryd.t108.desc, []⟩
theorem ok108 : TYok 108 ty108 := ⟨by kernel_rfl, by kernel_rfl, .inl rfl⟩
noncomputable abbrev ty109 : TY := ⟨Tryd.t109, Tryd.t109.desc, []⟩
theorem ok109 : TYok 109 ty109 := ⟨by kernel_rfl, by kernel_rfl, .inl rfl⟩
noncomputable abbrev ty110 : TY := ⟨Tryd.t110, Tryd.t110.desc, []⟩
theorem ok110 : TYok 110 ty110 := ⟨by kernel_rfl, by kernel_rfl, .inl rfl⟩
noncomputable abbrev ty111 : TY := ⟨Tryd.t111, Tryd.t111.desc, []⟩
theorem ok111 : TYok 111 ty111 := ⟨by kernel_rfl, by kernel_rfl, .inl rfl⟩
noncomputable abbrev ty112 : TY := ⟨Tryd.t112, Tryd.t112.desc, []⟩
theorem ok112 : TYok 112 ty112 := ⟨by kernel_rfl, by kernel_rfl, .inl rfl⟩
noncomputable abbrev ty113 : TY := ⟨Tryd.t113, Tryd.t113.desc, []⟩
theorem ok113 : TYok 113 ty113 := ⟨by kernel_rfl, by kernel_rfl, .inl rfl⟩
noncomputable abbrev ty114 : TY := ⟨Tryd.t114, Tryd.t114.desc, []⟩
theorem ok114 : TYok 114 ty114 := ⟨by kernel_rfl, by kernel_rfl, .inl rfl⟩
noncomputable abbrev ty115 : TY := ⟨Tryd.t115, Tryd.t115.desc, []⟩
theorem ok115 : TYok 115 ty115 := ⟨by kernel_rfl, by kernel_rfl, .inl rfl⟩
noncomputable abbrev ty116 : TY := ⟨Tryd.t116, Tryd.t116.desc, []⟩
theorem ok116 : TYok 116 ty116 := ⟨by kernel_rfl, by kernel_rfl, .inl rfl⟩
noncomputable abbrev ty117 : TY := ⟨Tryd.t117, Tryd.t117.desc, []⟩
theorem ok117 : TYok 117 ty117 := ⟨by kernel_rfl, by kernel_rfl, .inl rfl⟩
noncomputable abbrev ty118 : TY := ⟨Tryd.t118, Tryd.t118.desc, []⟩
theorem ok118 : TYok 118 ty118 := ⟨by kernel_rfl, by kernel_rfl, .inl rfl⟩
noncomputable abbrev ty119 : TY := ⟨Tryd.t119, Tryd.t119.desc, []⟩
theorem ok119 : TYok 119 ty119 := ⟨by kernel_rfl, by kernel_rfl, .inl rfl⟩
noncomputable abbrev ty120 : TY := ⟨Tryd.t120, Tryd.t120.desc, []⟩
theorem ok120 : TYok 120 ty120 := ⟨by kernel_rfl, by kernel_rfl, .inl rfl⟩
noncomputable abbrev ty121 : TY := ⟨Tryd.t121, Tryd.t121.desc, []⟩
theorem ok121 : TYok 121 ty121 := ⟨by kernel_rfl, by kernel_rfl, .inl rfl⟩
noncomputable abbrev ty122 : TY := ⟨Tryd.t122, Tryd.t122.desc, []⟩
theorem ok122 : TYok 122 ty122 := ⟨by kernel_rfl, by kernel_rfl, .inl rfl⟩
noncomputable abbrev ty123 : TY := ⟨Tryd.t123, Tryd.t122.desc, []⟩
theorem ok123 : TYok 123 ty123 := ⟨by kernel_rfl, by kernel_rfl, .inl rfl⟩
noncomputable abbrev ty124 : TY := ⟨Tryd.t124, Tryd.t124.desc, []⟩
theorem ok124 : TYok 124 ty124 := ⟨by kernel_rfl, by kernel_rfl, .inl rfl⟩
noncomputable abbrev ty125 : TY := ⟨Tryd.t125, Tryd.t125.desc, []⟩
theorem ok125 : TYok 125 ty125 := ⟨by kernel_rfl, by kernel_rfl, .inl rfl⟩
noncomputable abbrev ty126 : TY := ⟨Tryd.t126, Tryd.t126.desc, []⟩
theorem ok126 : TYok 126 ty126 := ⟨by kernel_rfl, by kernel_rfl, .inl rfl⟩
noncomputable abbrev ty127 : TY := ⟨Tryd.t127, Tryd.t127.desc, []⟩
theorem ok127 : TYok 127 ty127 := ⟨by kernel_rfl, by kernel_rfl, .inl rfl⟩
noncomputable abbrev ty128 : TY := ⟨Tryd.t128, Tryd.t128.desc, [.int .i64, .str, .int .i64]⟩
theorem ok128 : TYok 128 ty128 := ⟨by kernel_rfl, by kernel_rfl, .inr ⟨by kernel_rfl, eqt128 9998⟩⟩
noncomputable abbrev ty129 : TY := ⟨Tryd.t129, Tryd.t128.desc, [.int .i64, .str, .int .i64]⟩
theorem ok129 : TYok 129 ty129 := ⟨by kernel_rfl, by kernel_rfl, .inr ⟨by kernel_rfl, eqt129 9998⟩⟩
noncomputable abbrev ty130 : TY := ⟨Tryd.t130, Tryd.t130.desc, []⟩
theorem ok130 : TYok 130 ty130 := ⟨by kernel_rfl, by kernel_rfl, .inl rfl⟩
noncomputable abbrev ty131 : TY := ⟨Tryd.t131, Tryd.t131.desc, []⟩
theorem ok131 : TYok 131 ty131 := ⟨by kernel_rfl, by kernel_rfl, .inl rfl⟩
noncomputable abbrev ty132 : TY := ⟨Tryd.t132, Tryd.t132.desc, []⟩
theorem ok132 : TYok 132 ty132 := ⟨by kernel_rfl, by kernel_rfl, .inl rfl⟩
noncomputable abbrev ty133 : TY := ⟨Tryd.t133, Tryd.t133.desc, []⟩
theorem ok133 : TYok 133 ty133 := ⟨by kernel_rfl, by kernel_rfl, .inl rfl⟩
noncomputable abbrev ty134 : TY := ⟨Tryd.t134, Tryd.t134.desc, []⟩
theorem ok134 : TYok 134 ty134 := ⟨by kernel_rfl, by kernel_rfl, .inl rfl⟩
noncomputable abbrev ty135 : TY := ⟨Tryd.t135, Tryd.t135.desc, []⟩
theorem ok135 : TYok 135 ty135 := ⟨by kernel_rfl, by kernel_rfl, .inl rfl⟩
noncomputable abbrev ty136 : TY := ⟨Tryd.t136, Tryd.t136.desc, []⟩
theorem ok136 : TYok 136 ty136 := ⟨by kernel_rfl, by kernel_rfl, .inl rfl⟩
noncomputable abbrev ty137 : TY := ⟨Tryd.t137, Tryd.t137.desc, []⟩
theorem ok137 : TYok 137 ty137 := ⟨by kernel_rfl, by kernel_rfl, .inl rfl⟩
noncomputable abbrev ty138 : TY := ⟨Tryd.t138, Tryd.t138.desc, []⟩
theorem ok138 : TYok 138 ty138 := ⟨by kernel_rfl, by kernel_rfl, .inl rfl⟩
noncomputable abbrev ty139 : TY := ⟨Tryd.t139, Tryd.t139.desc, []⟩
theorem ok139 : TYok 139 ty139 := ⟨by kernel_rfl, by kernel_rfl, .inl rfl⟩
noncomputable abbrev ty140 : TY := ⟨Tryd.t140, Tryd.t140.desc, []⟩
theorem ok140 : TYok 140 ty140 := ⟨by kernel_rfl, by kernel_rfl, .inl rfl⟩
noncomputable abbrev ty141 : TY := ⟨Tryd.t141, Tryd.t141.desc, []⟩
theorem ok141 : TYok 141 ty141 := ⟨by kernel_rfl, by kernel_rfl, .inl rfl⟩
noncomputable abbrev ty142 : TY := ⟨Tryd.t142, Tryd.t142.desc, []⟩
theorem ok142 : TYok 142 ty142 := ⟨by kernel_rfl, by kernel_rfl, .inl rfl⟩
noncomputable abbrev ty143 : TY := ⟨Tryd.t143, Tryd.t143.desc, []⟩
theorem ok143 : TYok 143 ty143 := ⟨by kernel_rfl, by kernel_rfl, .inl rfl⟩
noncomputable abbrev ty144 : TY := ⟨Tryd.t144, Tryd.t144.desc, []⟩
theorem ok144 : TYok 144 ty144 := ⟨by kernel_rfl, by kernel_rfl, .inl rfl⟩
noncomputable abbrev ty145 : TY := ⟨Tryd.t145, Tryd.t145.desc, []⟩
theorem ok145 : TYok 145 ty145 := ⟨by kernel_rfl, by kernel_rfl, .inl rfl⟩
noncomputable abbrev ty146 : TY := ⟨Tryd.t146, Tryd.t146.desc, []⟩
theorem ok146 : TYok 146 ty146 := ⟨by kernel_rfl, by kernel_rfl, .inl rfl⟩
noncomputable abbrev ty147 : TY := ⟨Tryd.t147, Tryd.t147.desc, []⟩
theorem ok147 : TYok 147 ty147 := ⟨by kernel_rfl, by kernel_rfl, .inl rfl⟩
noncomputable abbrev ty148 : TY := ⟨Tryd.t148, Tryd.t3.desc, []⟩
theorem ok148 : TYok 148 ty148 := ⟨by kernel_rfl, by kernel_rfl, .inl rfl⟩
noncomputable abbrev ty149 : TY := ⟨Tryd.t149, Tryd.t149.desc, []⟩
theorem ok149 : TYok 149 ty149 := ⟨by kernel_rfl, by kernel_rfl, .inl rfl⟩
noncomputable abbrev ty150 : TY := ⟨Tryd.t150, Tryd.t150.desc, []⟩
theorem ok150 : TYok 150 ty150 := ⟨by kernel_rfl, by kernel_rfl, .inl rfl⟩
noncomputable abbrev ty151 : TY := ⟨Tryd.t151, Tryd.t151.desc, []⟩
theorem ok151 : TYok 151 ty151 := ⟨by kernel_rfl, by kernel_rfl, .inl rfl⟩
noncomputable abbrev ty152 : TY := ⟨Tryd.t152, Tryd.t152.desc, []⟩
theorem ok152 : TYok 152 ty152 := ⟨by kernel_rfl, by kernel_rfl, .inl rfl⟩
noncomputable abbrev ty153 : TY := ⟨Tryd.t153, Tryd.t153.desc, []⟩
theorem ok153 : TYok 153 ty153 := ⟨by kernel_rfl, by kernel_rfl, .inl rfl⟩
noncomputable abbrev ty154 : TY := ⟨Tryd.t154, Tryd.t154.desc, []⟩
theorem ok154 : TYok 154 ty154 := ⟨by kernel_rfl, by kernel_rfl, .inl rfl⟩
noncomputable abbrev ty155 : TY := ⟨Tryd.t155, Tryd.t155.desc, []⟩
theorem ok155 : TYok 155 ty155 := ⟨by kernel_rfl, by kernel_rfl, .inl rfl⟩
noncomputable abbrev ty156 : TY := ⟨Tryd.t156, Tryd.t156.desc, []⟩
theorem ok156 : TYok 156 ty156 := ⟨by kernel_rfl, by kernel_rfl, .inl rfl⟩
noncomputable abbrev ty157 : TY := ⟨Tryd.t157, Tryd.t157.desc, []⟩
theorem ok157 : TYok 157 ty157 := ⟨by kernel_rfl, by kernel_rfl, .inl rfl⟩
noncomputable abbrev ty158 : TY := ⟨Tryd.t158, Tryd.t158.desc, []⟩
theorem ok158 : TYok 158 ty158 := ⟨by kernel_rfl, by kernel_rfl, .inl rfl⟩
noncomputable abbrev ty159 : TY := ⟨Tryd.t159, Tryd.t159.desc, []⟩
theorem ok159 : TYok 159 ty159 := ⟨by kernel_rfl, by kernel_rfl, .inl rfl⟩
noncomputable abbrev ty160 : TY := ⟨Tryd.t160, Tryd.t160.desc, []⟩
theorem ok160 : TYok 160 ty160 := ⟨by kernel_rfl, by kernel_rfl, .inl rfl⟩
noncomputable abbrev ty161 : TY := ⟨Tryd.t161, Tryd.t161.desc, []⟩
theorem ok161 : TYok 161 ty161 := ⟨by kernel_rfl, by kernel_rfl, .inl rfl⟩
noncomputable abbrev ty162 : TY := ⟨Tryd.t162, Tryd.t71.desc, []⟩
theorem ok162 : TYok 162 ty162 := ⟨by kernel_rfl, by kernel_rfl, .inl rfl⟩
noncomputable abbrev ty163 : TY := ⟨Tryd.t163, Tryd.t163.desc, []⟩
theorem ok163 : TYok 163 ty163 := ⟨by kernel_rfl, by kernel_rfl, .inl rfl⟩
noncomputable abbrev ty164 : TY := ⟨Tryd.t164, Tryd.t164.desc, []⟩
theorem ok164 : TYok 164 ty164 := ⟨by kernel_rfl, by kernel_rfl, .inl rfl⟩
noncomputable abbrev ty165 : TY := ⟨Tryd.t165, Tryd.t165.desc, []⟩
theorem ok165 : TYok 165 ty165 := ⟨by kernel_rfl, by kernel_rfl, .inl rfl⟩
noncomputable abbrev ty166 : TY := ⟨Tryd.t166, Tryd.t166.desc, []⟩
theorem ok166 : TYok 166 ty166 := ⟨by kernel_rfl, by kernel_rfl, .inl rfl⟩
noncomputable abbrev ty167 : TY := ⟨Tryd.t167, Tryd.t167.desc, []⟩
theorem ok167 : TYok 167 ty167 := ⟨by kernel_rfl, by kernel_rfl, .inl rfl⟩
noncomputable abbrev ty168 : TY := ⟨Tryd.t168, Tryd.t168.desc, []⟩
theorem ok168 : TYok 168 ty168 := ⟨by kernel_rfl, by kernel_rfl, .inl rfl⟩
noncomputable abbrev ty169 : TY := ⟨Tryd.t169, Tryd.t169.desc, []⟩
theorem ok169 : TYok 169 ty169 := ⟨by kernel_rfl, by kernel_rfl, .inl rfl⟩
noncomputable abbrev ty170 : TY := ⟨Tryd.t170, Tryd.t170.desc, []⟩
theorem ok170 : TYok 170 ty170 := ⟨by kernel_rfl, by kernel_rfl, .inl rfl⟩
noncomputable abbrev ty171 : TY := ⟨Tryd.t171, Tryd.t171.desc, []⟩
theorem ok171 : TYok 171 ty171 := ⟨by kernel_rfl, by kernel_rfl, .inl rfl⟩
noncomputable abbrev ty172 : TY := ⟨Tryd.t172, Tryd.t172.desc, []⟩
theorem ok172 : TYok 172 ty172 := ⟨by kernel_rfl, by kernel_rfl, .inl rfl⟩
noncomputable abbrev ty173 : TY := ⟨Tryd.t173, Tryd.t173.desc, []⟩
theorem ok173 : TYok 173 ty173 := ⟨by kernel_rfl, by kernel_rfl, .inl rfl⟩
noncomputable abbrev ty174 : TY := ⟨Tryd.t174, Tryd.t173.desc, []⟩
theorem ok174 : TYok 174 ty174 := ⟨by kernel_rfl, by kernel_rfl, .inl rfl⟩
noncomputable abbrev ty175 : TY := ⟨Tryd.t175, Tryd.t175.desc, []⟩
theorem ok175 : TYok 175 ty175 := ⟨by kernel_rfl, by kernel_rfl, .inl rfl⟩
noncomputable abbrev ty176 : TY := ⟨Tryd.t176, Tryd.t176.desc, []⟩
theorem ok176 : TYok 176 ty176 := ⟨by kernel_rfl, by kernel_rfl, .inl rfl⟩
noncomputable abbrev ty177 : TY := ⟨Tryd.t177, Tryd.t176.desc, []⟩
theorem ok177 : TYok 177 ty177 := ⟨by kernel_rfl, by kernel_rfl, .inl rfl⟩
noncomputable abbrev ty178 : TY := ⟨Tryd.t178, Tryd.t178.desc, []⟩
theorem ok178 : TYok 178 ty178 := ⟨by kernel_rfl, by kernel_rfl, .inl rfl⟩
noncomputable abbrev ty179 : TY := ⟨Tryd.t179, Tryd.t5.desc, []⟩
theorem ok179 : TYok 179 ty179 := ⟨by kernel_rfl, by kernel_rfl, .inl rfl⟩
noncomputable abbrev ty180 : TY := ⟨Tryd.t180, Tryd.t5.desc, []⟩
theorem ok180 : TYok 180 ty180 := ⟨by kernel_rfl, by kernel_rfl, .inl rfl⟩
noncomputable abbrev ty181 : TY := ⟨Tryd.t181, Tryd.t181.desc, []⟩
theorem ok181 : TYok 181 ty181 := ⟨by kernel_rfl, by kernel_rfl, .inl rfl⟩
noncomputable abbrev ty182 : TY := ⟨Tryd.t182, Tryd.t182.desc, []⟩
theorem ok182 : TYok 182 ty182 := ⟨by kernel_rfl, by kernel_rfl, .inl rfl⟩
noncomputable abbrev ty183 : TY := ⟨Tryd.t183, Tryd.t21.desc, []⟩
theorem ok183 : TYok 183 ty183 := ⟨by kernel_rfl, by kernel_rfl, .inl rfl⟩
noncomputable abbrev ty184 : TY := ⟨Tryd.t184, Tryd.t21.desc, []⟩
theorem ok184 : TYok 184 ty184 := ⟨by kernel_rfl, by kernel_rfl, .inl rfl⟩
noncomputable abbrev ty185 : TY := ⟨Tryd.t185, Tryd.t185.desc, []⟩
theorem ok185 : TYok 185 ty185 := ⟨by kernel_rfl, by kernel_rfl, .inl rfl⟩
noncomputable abbrev ty186 : TY := ⟨Tryd.t186, Tryd.t185.desc, []⟩
theorem ok186 : TYok 186 ty186 := ⟨by kernel_rfl, by kernel_rfl, .inl rfl⟩
noncomputable abbrev ty187 : TY := ⟨Tryd.t187, Tryd.t187.desc, []⟩
theorem ok187 : TYok 187 ty187 := ⟨by kernel_rfl, by kernel_rfl, .inl rfl⟩
noncomputable def tab : TT := (.node (.node (.node (.node (.node (.node (.node (.node .leaf none (.node .leaf (some ty128) .leaf)) none (.node .leaf (some ty64) .leaf)) none (.node (.node .leaf none (.node .leaf (some ty160) .leaf)) (some ty32) (.node .leaf (some ty96) .leaf))) none (.node (.node (.node .leaf none (.node .leaf (some ty144) .leaf)) none (.node .leaf (some ty80) .leaf)) (some ty16) (.node (.node .leaf none (.node .leaf (some ty176) .leaf)) (some ty48) (.node .leaf (some ty112) .leaf)))) none (.node (.node (.node (.node .leaf none (.node .leaf (some ty136) .leaf)) none (.node .leaf (some ty72) .leaf)) none (.node (.node .leaf none (.node .leaf (some ty168) .leaf)) (some ty40) (.node .leaf (some ty104) .leaf))) (some ty8) (.node (.node (.node .leaf none (.node .leaf (some ty152) .leaf)) none (.node .leaf (some ty88) .leaf)) (some ty24) (.node (.node .leaf none (.node .leaf (some ty184) .leaf)) (some ty56) (.node .leaf (some ty120) .leaf))))) none (.node (.node (.node (.node (.node .leaf none (.node .leaf (some ty132) .leaf)) none (.node .leaf (some ty68) .leaf)) none (.node (.node .leaf none (.node .leaf (some ty164) .leaf)) (some ty36) (.node .leaf (some ty100) .leaf))) none (.node (.node (.node .leaf none (.node .leaf (some ty148) .leaf)) none (.node .leaf (some ty84) .leaf)) (some ty20) (.node (.node .leaf none (.node .leaf (some ty180) .leaf)) (some ty52) (.node .leaf (some ty116) .leaf)))) (some ty4) (.node (.node (.node (.node .leaf none (.node .leaf (some ty140) .leaf)) none (.node .leaf (some ty76) .leaf)) none (.node (.node .leaf none (.node .leaf (some ty172) .leaf)) (some ty44) (.node .leaf (some ty108) .leaf))) (some ty12) (.node (.node (.node .leaf none (.node .leaf (some ty156) .leaf)) none (.node .leaf (some ty92) .leaf)) (some ty28) (.node .leaf (some ty60) (.node .leaf (some ty124) .leaf)))))) none (.node (.node (.node (.node (.node (.node .leaf none (.node .leaf (some ty130) .leaf)) none (.node .leaf (some ty66) .leaf)) none (.node (.node .leaf none (.node .leaf (some ty162) .leaf)) (some ty34) (.node .leaf (some ty98) .leaf))) none (.node (.node (.node .leaf none (.node .leaf (some ty146) .leaf)) none (.node .leaf (some ty82) .leaf)) (some ty18) (.node (.node .leaf none (.node .leaf (some ty178) .leaf)) (some ty50) (.node .leaf (some ty114) .leaf)))) none (.node (.node (.node (.node .leaf none (.node .leaf (some ty138) .leaf)) none (.node .leaf (some ty74) .leaf)) none (.node (.node .leaf none (.node .leaf (some ty170) .leaf)) (some ty42) (.node .leaf (some ty106) .leaf))) (some ty10) (.node (.node (.node .leaf none (.node .leaf (some ty154) .leaf)) none (.node .leaf (some ty90) .leaf)) (some ty26) (.node (.node .leaf none (.node .leaf (some ty186) .leaf)) (some ty58) (.node .leaf (some ty122) .leaf))))) (some ty2) (.node (.node (.node (.node (.node .leaf none (.node .leaf (some ty134) .leaf)) none (.node .leaf (some ty70) .leaf)) none (.node (.node .leaf none (.node .leaf (some ty166) .leaf)) (some ty38) (.node .leaf (some ty102) .leaf))) none (.node (.node (.node .leaf none (.node .leaf (some ty150) .leaf)) none (.node .leaf (some ty86) .leaf)) (some ty22) (.node (.node .leaf none (.node .leaf (some ty182) .leaf)) (some ty54) (.node .leaf (some ty118) .leaf)))) (some ty6) (.node (.node (.node (.node .leaf none (.node .leaf (some ty142) .leaf)) none (.node .leaf (some ty78) .leaf)) none (.node (.node .leaf none (.node .leaf (some ty174) .leaf)) (some ty46) (.node .leaf (some ty110) .leaf))) (some ty14) (.node (.node (.node .leaf none (.node .leaf (some ty158) .leaf)) none (.node .leaf (some ty94) .leaf)) (some ty30) (.node .leaf (some ty62) (.node .leaf (some ty126) .leaf))))))) (some ty0) (.node (.node (.node (.node (.node (.node (.node .leaf none (.node .leaf (some ty129) .leaf)) none (.node .leaf (some ty65) .leaf)) none (.node (.node .leaf none (.node .leaf (some ty161) .leaf)) (some ty33) (.node .leaf (some ty97) .leaf))) none (.node (.node (.node .leaf none (.node .leaf (some ty145) .leaf)) none (.node .leaf (some ty81) .leaf)) (some ty17) (.node (.node .leaf none (.node .leaf (some ty177) .leaf)) (some ty49) (.node .leaf (some ty113) .leaf)))) none (.node (.node (.node (.node .leaf none (.node .leaf (some ty137) .leaf)) none (.node .leaf (some ty73) .leaf)) none (.node (.node .leaf none (.node .leaf (some ty169) .leaf)) (some ty41) (.node .leaf (some ty105) .leaf))) (some ty9) (.node (.node (.node .leaf none (.node .leaf (some ty153) .leaf)) none (.node .leaf (some ty89) .leaf)) (some ty25) (.node (.node .leaf none (.node .leaf (some ty185) .leaf)) (some ty57) (.node .leaf (some ty121) .leaf))))) none (.node (.node (.node (.node (.node .leaf none (.node .leaf (some ty133) .leaf)) none (.node .leaf (some ty69) .leaf)) none (.node (.node .leaf none (.node .leaf (some ty165) .leaf)) (some ty37) (.node .leaf (some ty101) .leaf))) none (.node (.node (.node .leaf none (.node .leaf (some ty149) .leaf)) none (.node .leaf (some ty85) .leaf)) (some ty21) (.node (.node .leaf none (.node .leaf (some ty181) .leaf)) (some ty53) (.node .leaf (some ty117) .leaf)))) (some ty5) (.node (.node (.node (.node .leaf none (.node .leaf (some ty141) .leaf)) none (.node .leaf (some ty77) .leaf)) none (.node (.node .leaf none (.node .leaf (some ty173) .leaf)) (some ty45) (.node .leaf (some ty109) .leaf))) (some ty13) (.node (.node (.node .leaf none (.node .leaf (some ty157) .leaf)) none (.node .leaf (some ty93) .leaf)) (some ty29) (.node .leaf (some ty61) (.node .leaf (some ty125) .leaf)))))) (some ty1) (.node (.node (.node (.node (.node (.node .leaf none (.node .leaf (some ty131) .leaf)) none (.node .leaf (some ty67) .leaf)) none (.node (.node .leaf none (.node .leaf (some ty163) .leaf)) (some ty35) (.node .leaf (some ty99) .leaf))) none (.node (.node (.node .leaf none (.node .leaf (some ty147) .leaf)) none (.node .leaf (some ty83) .leaf)) (some ty19) (.node (.node .leaf none (.node .leaf (some ty179) .leaf)) (some ty51) (.node .leaf (some ty115) .leaf)))) none (.node (.node (.node (.node .leaf none (.node .leaf (some ty139) .leaf)) none (.node .leaf (some ty75) .leaf)) none (.node (.node .leaf none (.node .leaf (some ty171) .leaf)) (some ty43) (.node .leaf (some ty107) .leaf))) (some ty11) (.node (.node (.node .leaf none (.node .leaf (some ty155) .leaf)) none (.node .leaf (some ty91) .leaf)) (some ty27) (.node (.node .leaf none (.node .leaf (some ty187) .leaf)) (some ty59) (.node .leaf (some ty123) .leaf))))) (some ty3) (.node (.node (.node (.node (.node .leaf none (.node .leaf (some ty135) .leaf)) none (.node .leaf (some ty71) .leaf)) none (.node (.node .leaf none (.node .leaf (some ty167) .leaf)) (some ty39) (.node .leaf (some ty103) .leaf))) none (.node (.node (.node .leaf none (.node .leaf (some ty151) .leaf)) none (.node .leaf (some ty87) .leaf)) (some ty23) (.node (.node .leaf none (.node .leaf (some ty183) .leaf)) (some ty55) (.node .leaf (some ty119) .leaf)))) (some ty7) (.node (.node (.node (.node .leaf none (.node .leaf (some ty143) .leaf)) none (.node .leaf (some ty79) .leaf)) none (.node (.node .leaf none (.node .leaf (some ty175) .leaf)) (some ty47) (.node .leaf (some ty111) .leaf))) (some ty15) (.node (.node (.node .leaf none (.node .leaf (some ty159) .leaf)) none (.node .leaf (some ty95) .leaf)) (some ty31) (.node .leaf (some ty63) (.node .leaf (some ty127) .leaf))))))))
noncomputable def T : Tab := fun t => TT.get 20 tab t
theorem T_ok : T.ok Tryd.prog := fun _ _ h => by
  have := TT.all_get (p := TYok) (m := 1) (b := 0) (t := tab) ⟨ok0, ⟨trivial, ⟨trivial, ⟨trivial, ⟨trivial, ⟨trivial, ⟨trivial, ⟨trivial, trivial, ⟨ok128, trivial, trivial⟩⟩, ⟨ok64, trivial, trivial⟩⟩, ⟨ok32, ⟨trivial, trivial, ⟨ok160, trivial, trivial⟩⟩, ⟨ok96, trivial, trivial⟩⟩⟩, ⟨ok16, ⟨trivial, ⟨trivial, trivial, ⟨ok144, trivial, trivial⟩⟩, ⟨ok80, trivial, trivial⟩⟩, ⟨ok48, ⟨trivial, trivial, ⟨ok176, trivial, trivial⟩⟩, ⟨ok112, trivial, trivial⟩⟩⟩⟩, ⟨ok8, ⟨trivial, ⟨trivial, ⟨trivial, trivial, ⟨ok136, trivial, trivial⟩⟩, ⟨ok72, trivial, trivial⟩⟩, ⟨ok40, ⟨trivial, trivial, ⟨ok168, trivial, trivial⟩⟩, ⟨ok104, trivial, trivial⟩⟩⟩, ⟨ok24, ⟨trivial, ⟨trivial, trivial, ⟨ok152, trivial, trivial⟩⟩, ⟨ok88, trivial, trivial⟩⟩, ⟨ok56, ⟨trivial, trivial, ⟨ok184, trivial, trivial⟩⟩, ⟨ok120, trivial, trivial⟩⟩⟩⟩⟩, ⟨ok4, ⟨trivial, ⟨trivial, ⟨trivial, ⟨trivial, trivial, ⟨ok132, trivial, trivial⟩⟩, ⟨ok68, trivial, trivial⟩⟩, ⟨ok36, ⟨trivial, trivial, ⟨ok164, trivial, trivial⟩⟩, ⟨ok100, trivial, trivial⟩⟩⟩, ⟨ok20, ⟨trivial, ⟨trivial, trivial, ⟨ok148, trivial, trivial⟩⟩, ⟨ok84, trivial, trivial⟩⟩, ⟨ok52, ⟨trivial, trivial, ⟨ok180, trivial, trivial⟩⟩, ⟨ok116, trivial, trivial⟩⟩⟩⟩, ⟨ok12, ⟨trivial, ⟨trivial, ⟨trivial, trivial, ⟨ok140, trivial, trivial⟩⟩, ⟨ok76, trivial, trivial⟩⟩, ⟨ok44, ⟨trivial, trivial, ⟨ok172, trivial, trivial⟩⟩, ⟨ok108, trivial, trivial⟩⟩⟩, ⟨ok28, ⟨trivial, ⟨trivial, trivial, ⟨ok156, trivial, trivial⟩⟩, ⟨ok92, trivial, trivial⟩⟩, ⟨ok60, trivial, ⟨ok124, trivial, trivial⟩⟩⟩⟩⟩⟩, ⟨ok2, ⟨trivial, ⟨trivial, ⟨trivial, ⟨trivial, ⟨trivial, trivial, ⟨ok130, trivial, trivial⟩⟩, ⟨ok66, trivial, trivial⟩⟩, ⟨ok34, ⟨trivial, trivial, ⟨ok162, trivial, trivial⟩⟩, ⟨ok98, trivial, trivial⟩⟩⟩, ⟨ok18, ⟨trivial, ⟨trivial, trivial, ⟨ok146, trivial, trivial⟩⟩, ⟨ok82, trivial, trivial⟩⟩, ⟨ok50, ⟨trivial, trivial, ⟨ok178, trivial, trivial⟩⟩, ⟨ok114, trivial, trivial⟩⟩⟩⟩, ⟨ok10, ⟨trivial, ⟨trivial, ⟨trivial, trivial, ⟨ok138, trivial, trivial⟩⟩, ⟨ok74, trivial, trivial⟩⟩, ⟨ok42, ⟨trivial, trivial, ⟨ok170, trivial, trivial⟩⟩, ⟨ok106, trivial, trivial⟩⟩⟩, ⟨ok26, ⟨trivial, ⟨trivial, trivial, ⟨ok154, trivial, trivial⟩⟩, ⟨ok90, trivial, trivial⟩⟩, ⟨ok58, ⟨trivial, trivial, ⟨ok186, trivial, trivial⟩⟩, ⟨ok122, trivial, trivial⟩⟩⟩⟩⟩, ⟨ok6, ⟨trivial, ⟨trivial, ⟨trivial, ⟨trivial, trivial, ⟨ok134, trivial, trivial⟩⟩, ⟨ok70, trivial, trivial⟩⟩, ⟨ok38, ⟨trivial, trivial, ⟨ok166, trivial, trivial⟩⟩, ⟨ok102, trivial, trivial⟩⟩⟩, ⟨ok22, ⟨trivial, ⟨trivial, trivial, ⟨ok150, trivial, trivial⟩⟩, ⟨ok86, trivial, trivial⟩⟩, ⟨ok54, ⟨trivial, trivial, ⟨ok182, trivial, trivial⟩⟩, ⟨ok118, trivial, trivial⟩⟩⟩⟩, ⟨ok14, ⟨trivial, ⟨trivial, ⟨trivial, trivial, ⟨ok142, trivial, trivial⟩⟩, ⟨ok78, trivial, trivial⟩⟩, ⟨ok46, ⟨trivial, trivial, ⟨ok174, trivial, trivial⟩⟩, ⟨ok110, trivial, trivial⟩⟩⟩, ⟨ok30, ⟨trivial, ⟨trivial, trivial, ⟨ok158, trivial, trivial⟩⟩, ⟨ok94, trivial, trivial⟩⟩, ⟨ok62, trivial, ⟨ok126, trivial, trivial⟩⟩⟩⟩⟩⟩⟩, ⟨ok1, ⟨trivial, ⟨trivial, ⟨trivial, ⟨trivial, ⟨trivial, ⟨trivial, trivial, ⟨ok129, trivial, trivial⟩⟩, ⟨ok65, trivial, trivial⟩⟩, ⟨ok33, ⟨trivial, trivial, ⟨ok161, trivial, trivial⟩⟩, ⟨ok97, trivial, trivial⟩⟩⟩, ⟨ok17, ⟨trivial, ⟨trivial, trivial, ⟨ok145, trivial, trivial⟩⟩, ⟨ok81, trivial, trivial⟩⟩, ⟨ok49, ⟨trivial, trivial, ⟨ok177, trivial, trivial⟩⟩, ⟨ok113, trivial, trivial⟩⟩⟩⟩, ⟨ok9, ⟨trivial, ⟨trivial, ⟨trivial, trivial, ⟨ok137, trivial, trivial⟩⟩, ⟨ok73, trivial, trivial⟩⟩, ⟨ok41, ⟨trivial, trivial, ⟨ok169, trivial, trivial⟩⟩, ⟨ok105, trivial, trivial⟩⟩⟩, ⟨ok25, ⟨trivial, ⟨trivial, trivial, ⟨ok153, trivial, trivial⟩⟩, ⟨ok89, trivial, trivial⟩⟩, ⟨ok57, ⟨trivial, trivial, ⟨ok185, trivial, trivial⟩⟩, ⟨ok121, trivial, trivial⟩⟩⟩⟩⟩, ⟨ok5, ⟨trivial, ⟨trivial, ⟨trivial, ⟨trivial, trivial, ⟨ok133, trivial, trivial⟩⟩, ⟨ok69, trivial, trivial⟩⟩, ⟨ok37, ⟨trivial, trivial, ⟨ok165, trivial, trivial⟩⟩, ⟨ok101, trivial, trivial⟩⟩⟩, ⟨ok21, ⟨trivial, ⟨trivial, trivial, ⟨ok149, trivial, trivial⟩⟩, ⟨ok85, trivial, trivial⟩⟩, ⟨ok53, ⟨trivial, trivial, ⟨ok181, trivial, trivial⟩⟩, ⟨ok117, trivial, trivial⟩⟩⟩⟩, ⟨ok13, ⟨trivial, ⟨trivial, ⟨trivial, trivial, ⟨ok141, trivial, trivial⟩⟩, ⟨ok77, trivial, trivial⟩⟩, ⟨ok45, ⟨trivial, trivial, ⟨ok173, trivial, trivial⟩⟩, ⟨ok109, trivial, trivial⟩⟩⟩, ⟨ok29, ⟨trivial, ⟨trivial, trivial, ⟨ok157, trivial, trivial⟩⟩, ⟨ok93, trivial, trivial⟩⟩, ⟨ok61, trivial, ⟨ok125, trivial, trivial⟩⟩⟩⟩⟩⟩, ⟨ok3, ⟨trivial, ⟨trivial, ⟨trivial, ⟨trivial, ⟨trivial, trivial, ⟨ok131, trivial, trivial⟩⟩, ⟨ok67, trivial, trivial⟩⟩, ⟨ok35, ⟨trivial, trivial, ⟨ok163, trivial, trivial⟩⟩, ⟨ok99, trivial, trivial⟩⟩⟩, ⟨ok19, ⟨trivial, ⟨trivial, trivial, ⟨ok147, trivial, trivial⟩⟩, ⟨ok83, trivial, trivial⟩⟩, ⟨ok51, ⟨trivial, trivial, ⟨ok179, trivial, trivial⟩⟩, ⟨ok115, trivial, trivial⟩⟩⟩⟩, ⟨ok11, ⟨trivial, ⟨trivial, ⟨trivial, trivial, ⟨ok139, trivial, trivial⟩⟩, ⟨ok75, trivial, trivial⟩⟩, ⟨ok43, ⟨trivial, trivial, ⟨ok171, trivial, trivial⟩⟩, ⟨ok107, trivial, trivial⟩⟩⟩, ⟨ok27, ⟨trivial, ⟨trivial, trivial, ⟨ok155, trivial, trivial⟩⟩, ⟨ok91, trivial, trivial⟩⟩, ⟨ok59, ⟨trivial, trivial, ⟨ok187, trivial, trivial⟩⟩, ⟨ok123, trivial, trivial⟩⟩⟩⟩⟩, ⟨ok7, ⟨trivial, ⟨trivial, ⟨trivial, ⟨trivial, trivial, ⟨ok135, trivial, trivial⟩⟩, ⟨ok71, trivial, trivial⟩⟩, ⟨ok39, ⟨trivial, trivial, ⟨ok167, trivial, trivial⟩⟩, ⟨ok103, trivial, trivial⟩⟩⟩, ⟨ok23, ⟨trivial, ⟨trivial, trivial, ⟨ok151, trivial, trivial⟩⟩, ⟨ok87, trivial, trivial⟩⟩, ⟨ok55, ⟨trivial, trivial, ⟨ok183, trivial, trivial⟩⟩, ⟨ok119, trivial, trivial⟩⟩⟩⟩, ⟨ok15, ⟨trivial, ⟨trivial, ⟨trivial, trivial, ⟨ok143, trivial, trivial⟩⟩, ⟨ok79, trivial, trivial⟩⟩, ⟨ok47, ⟨trivial, trivial, ⟨ok175, trivial, trivial⟩⟩, ⟨ok111, trivial, trivial⟩⟩⟩, ⟨ok31, ⟨trivial, ⟨trivial, trivial, ⟨ok159, trivial, trivial⟩⟩, ⟨ok95, trivial, trivial⟩⟩, ⟨ok63, trivial, ⟨ok127, trivial, trivial⟩⟩⟩⟩⟩⟩⟩⟩ h
  have h2 := this; simp at h2; exact h2
end Go.Abs

namespace Go.Abs
variable [Globals]

structure Val where
  kind : Int
  n : Int
  s : ByteArray
  deriving Inhabited, DecidableEq
structure Attr where
  name : ByteArray
  kind : Int
  min : Int
  max : Int
  enum : List ByteArray
  writable : Bool
  safety : Bool
  deriving Inhabited, DecidableEq
structure Eff where
  kind : Int
  attr : ByteArray
  n : Int
  deriving Inhabited, DecidableEq
structure Cmd where
  name : ByteArray
  param : Attr
  effects : List Eff
  deriving Inhabited, DecidableEq
structure Clu where
  name : ByteArray
  attrs : List Attr
  commands : List Cmd
  events : List ByteArray
  deriving Inhabited, DecidableEq
structure Dev where
  id : Int
  eui : Int
  vendor : Int
  sleepy : Bool
  poll : Int
  room : ByteArray
  clusters : List ByteArray
  deriving Inhabited, DecidableEq
structure Hom where
  clusters : List Clu
  devices : List Dev
  deriving Inhabited, DecidableEq
structure Key where
  dev : Int
  cluster : ByteArray
  attr : ByteArray
  deriving Inhabited, DecidableEq
structure Item where
  key : Key
  value : Val
  version : Int
  deriving Inhabited, DecidableEq

def cVal (v : Val) : List PV := [vint v.kind, vint v.n, vstr v.s]
def cAttr (a : Attr) : List PV := [vstr a.name, vint a.kind, vint a.min, vint a.max, roL 1 cstr a.enum, vbool a.writable, vbool a.safety]
def cEff (e : Eff) : List PV := [vint e.kind, vstr e.attr, vint e.n]
def cCmd (c : Cmd) : List PV := vstr c.name :: (cAttr c.param ++ [roL 3 cEff c.effects])
def cClu (c : Clu) : List PV := [vstr c.name, roL 7 cAttr c.attrs, roL 9 cCmd c.commands, roL 1 cstr c.events]
def cDev (d : Dev) : List PV := [vint d.id, .val (.int .u64 d.eui), vint d.vendor, vbool d.sleepy, vint d.poll, vstr d.room, roL 1 cstr d.clusters]
def cHom (h : Hom) : List PV := [roL 4 cClu h.clusters, roL 7 cDev h.devices]
def cKey (k : Key) : List PV := [vint k.dev, vstr k.cluster, vstr k.attr]
def cItem (x : Item) : List PV := cKey x.key ++ (cVal x.value ++ [vint x.version])

/-- the first index of s, or -1 -/
def idxOf (l : List ByteArray) (s : ByteArray) : Int := match l.findIdx? (· = s) with | some i => i | none => -1

theorem idxOf_some {l : List ByteArray} {x : ByteArray} {k : Nat} (hk : k < l.length) (h : l.getD k default = x) (hf : ∀ j, j < k → l.getD j default ≠ x) : idxOf l x = k := by
  have : l.findIdx? (· = x) = some k := by
    rw [List.findIdx?_eq_some_iff_getElem]
    refine ⟨hk, by simpa [List.getD, hk] using h, fun j hj => ?_⟩
    have := hf j hj
    simpa [List.getD, show j < l.length from by omega] using this
  simp [idxOf, this]

theorem idxOf_none {l : List ByteArray} {x : ByteArray} (hf : ∀ j, j < l.length → l.getD j default ≠ x) : idxOf l x = -1 := by
  have : l.findIdx? (· = x) = none := by
    rw [List.findIdx?_eq_none_iff]
    intro y hy
    obtain ⟨j, hj, rfl⟩ := List.getElem_of_mem hy
    simpa [List.getD, hj] using hf j hj
  simp [idxOf, this]

/-- a letter of a name, at an index -/
def letterOk (i : Nat) (c : Int) : Bool := (decide (97 ≤ c) && decide (c ≤ 122)) || (decide (i ≠ 0) && (decide (c = 95) || decide (c = 45) || (decide (48 ≤ c) && decide (c ≤ 57))))

/-- names.Valid -/
def validName (s : ByteArray) : Bool := decide (1 ≤ s.size) && decide (s.size ≤ 24) && (List.range s.size).all fun i => letterOk i (byteAt s i)

theorem validName_iff {s : ByteArray} : validName s = true ↔ (1 ≤ s.size ∧ s.size ≤ 24 ∧ ∀ i, i < s.size → letterOk i (byteAt s i) = true) := by
  simp [validName, and_assoc]

/-- the first error of f 0 .. f (n - 1), or 0 -/
def firstE (n : Nat) (f : Nat → Int) : Int := match (List.range n).find? (fun i => decide (f i ≠ 0)) with | some i => f i | none => 0

theorem firstE_at {n k : Nat} {f : Nat → Int} (hk : k < n) (h : f k ≠ 0) (hf : ∀ j, j < k → f j = 0) : firstE n f = f k := by
  have : (List.range n).find? (fun i => decide (f i ≠ 0)) = some k := by
    rw [List.find?_range_eq_some]
    exact ⟨by simpa using h, by simpa using hk, fun j hj => by simpa using hf j hj⟩
  simp only [firstE, this]

theorem firstE_none {n : Nat} {f : Nat → Int} (hf : ∀ j, j < n → f j = 0) : firstE n f = 0 := by
  have : (List.range n).find? (fun i => decide (f i ≠ 0)) = none := by
    rw [List.find?_eq_none]
    intro x hx
    simpa using hf x (by simpa using hx)
  simp only [firstE, this]

def inRange (n : Int) : Bool := decide (-1099511627776 ≤ n) && decide (n ≤ 1099511627776)

def membersE (l : List ByteArray) : Int := if l.length < 1 ∨ 64 < l.length then 3 else firstE l.length fun i => if validName (l.getD i default) = false then 10 else if idxOf l (l.getD i default) < i then 9 else 0

/-- value.Def -/
def defE (a : Attr) : Int :=
  if validName a.name = false then 10 else if a.kind < 1 ∨ 4 < a.kind then 7
  else if a.kind = 2 ∧ (inRange a.min = false ∨ inRange a.max = false ∨ a.max < a.min) then 2
  else if a.kind ≠ 2 ∧ (a.min ≠ 0 ∨ a.max ≠ 0) then 2
  else if a.kind = 3 then membersE a.enum else if 0 < a.enum.length then 4 else 0

/-- value.Check -/
def valE (v : Val) : Int :=
  if v.kind < 0 ∨ 4 < v.kind then 7
  else if ((v.kind = 0 ∨ v.kind = 4) ∧ v.n ≠ 0) ∨ (v.kind = 1 ∧ v.n ≠ 0 ∧ v.n ≠ 1) ∨ (v.kind = 2 ∧ inRange v.n = false) ∨ (v.kind = 3 ∧ (v.n < 0 ∨ 63 < v.n)) then 2
  else if 60 < v.s.size then 3 else if v.s ≠ ⟨#[]⟩ ∧ v.kind ≠ 4 then 4 else 0

/-- value.Fits -/
def fitsE (a : Attr) (v : Val) : Int :=
  if defE a ≠ 0 then defE a else if valE v ≠ 0 then valE v else if v.kind ≠ a.kind then 11
  else if (v.kind = 2 ∧ (v.n < a.min ∨ a.max < v.n)) ∨ (v.kind = 3 ∧ (a.enum.length : Int) ≤ v.n) then 2 else 0

def clampI (n lo hi : Int) : Int := if hi < lo ∨ hi < n then hi else if n < lo then lo else n

def noVal : Val := ⟨0, 0, ⟨#[]⟩⟩

/-- value.Zero -/
def zeroV (a : Attr) : Val := if defE a ≠ 0 then noVal else if a.kind = 2 then ⟨a.kind, clampI 0 a.min a.max, ⟨#[]⟩⟩ else ⟨a.kind, 0, ⟨#[]⟩⟩

/-- value.Limit -/
def limitV (a : Attr) (v : Val) : Val := if defE a = 0 ∧ a.kind = 2 ∧ v.kind = 2 then ⟨v.kind, clampI v.n a.min a.max, v.s⟩ else v

end Go.Abs

namespace Go.Abs
open Go.Proofs

theorem hm : Tryd.prog.follows .mixedOrders = true := by kernel_rfl

theorem ac88 (l : List ByteArray) (x : ByteArray) (hl : l.length ≤ 1048576) : AC Tryd.prog 88 [.pv (roL 1 cstr l), .pv (vstr x)] [] (.pv (vint (idxOf l x))) [] := by
  refine AC.of_awp (T := T) T_ok hm Tryd.call88 Tryd.func88 rfl rfl rfl ?_
  conv => whnf
  refine ⟨Nat, fun k => k ≤ l.length ∧ ∀ j, j < k → l.getD j default ≠ x, fun k => ⟨[(0, .pv (roL 1 cstr l)), (1, .pv (vstr x)), (5, .pv (vint k))], []⟩, fun k => l.length - k, 0, [], ⟨Nat.zero_le _, fun j h => absurd h (by omega)⟩, ⟨.rfl, .rfl, .rfl⟩, fun k hk => ?_⟩
  conv => whnf
  refine ⟨fun h => ?_, fun h => ?_⟩
  · simp only [decide_eq_true_eq] at h
    refine ⟨by omega, ?_⟩
    conv => whnf
    refine ⟨fun h2 => ?_, fun h2 => ?_⟩
    · conv => whnf
      simp only [decide_eq_true_eq] at h2
      exact PSub.int (by rw [idxOf_some (k := k) (by omega) (by simpa using h2) hk.2])
    · conv => whnf
      refine .inl ⟨wrap64 (by omega), ?_⟩
      conv => whnf
      simp only [decide_eq_false_iff_not] at h2
      refine ⟨k + 1, [], ⟨by omega, fun j hj => ?_⟩, by dsimp only; omega, .rfl, .rfl, .rfl⟩
      by_cases e : j = k
      · subst e; simpa using h2
      · exact hk.2 j (by omega)
  · conv => whnf
    simp only [decide_eq_false_iff_not] at h
    exact PSub.int (by rw [idxOf_none fun j hj => hk.2 j (by omega)])

theorem ac86 (l : List ByteArray) (x : ByteArray) (hl : l.length ≤ 1048576) : AC Tryd.prog 86 [.pv (roL 1 cstr l), .pv (vstr x)] [] (.pv (vint (idxOf l x))) [] := by
  refine AC.of_awp (T := T) T_ok hm Tryd.call86 Tryd.func86 rfl rfl rfl ?_
  conv => whnf
  refine ⟨Nat, fun k => k ≤ l.length ∧ ∀ j, j < k → l.getD j default ≠ x, fun k => ⟨[(0, .pv (roL 1 cstr l)), (1, .pv (vstr x)), (7, .pv (vint l.length)), (8, .pv (vint k))], []⟩, fun k => l.length - k, 0, [], ⟨Nat.zero_le _, fun j h => absurd h (by omega)⟩, ⟨.rfl, .rfl, .rfl, .rfl⟩, fun k hk => ?_⟩
  conv => whnf
  refine ⟨fun h => ?_, fun h => ?_⟩
  · simp only [decide_eq_true_eq] at h
    refine ⟨by omega, ?_⟩
    conv => whnf
    refine ⟨fun h2 => ?_, fun h2 => ?_⟩
    · conv => whnf
      simp only [decide_eq_true_eq] at h2
      exact PSub.int (by rw [idxOf_some (k := k) (by omega) (by simpa [eq_comm] using h2) hk.2])
    · conv => whnf
      refine .inl ⟨wrap64 (by omega), ?_⟩
      conv => whnf
      simp only [decide_eq_false_iff_not] at h2
      refine ⟨k + 1, [], ⟨by omega, fun j hj => ?_⟩, by dsimp only; omega, .rfl, .rfl, .rfl, .rfl⟩
      by_cases e : j = k
      · subst e; simpa [eq_comm] using h2
      · exact hk.2 j (by omega)
  · conv => whnf
    simp only [decide_eq_false_iff_not] at h
    exact PSub.int (by rw [idxOf_none fun j hj => hk.2 j (by omega)])

theorem ac56 (l : List ByteArray) (x : ByteArray) (hl : l.length ≤ 1048576) : AC Tryd.prog 56 [.pv (roL 1 cstr l), .pv (vstr x)] [] (.pv (vint (idxOf l x))) [] := by
  refine AC.of_awp (T := T) T_ok hm Tryd.call56 Tryd.func56 rfl rfl rfl ?_
  conv => whnf
  refine .inl ⟨_, ac86 l x hl, ?_⟩
  conv => whnf
  exact PSub.rfl

theorem ac72 (c : Int) : AC Tryd.prog 72 [.pv (.val (.int .i32 c))] [] (.pv (vbool (decide (97 ≤ c) && decide (c ≤ 122)))) [] := by
  refine AC.of_awp (T := T) T_ok hm Tryd.call72 Tryd.func72 rfl rfl rfl ?_
  conv => whnf
  refine ⟨fun h => ?_, fun h => ?_⟩
  · conv => whnf
    simp only [decide_eq_true_eq] at h
    exact PSub.sb (by simp [h])
  · conv => whnf
    simp only [decide_eq_false_iff_not] at h
    exact PSub.lit_sb (by simp [h])

theorem letterOk_iff {i : Nat} {c : Int} : letterOk i c = true ↔ ((97 ≤ c ∧ c ≤ 122) ∨ (i ≠ 0 ∧ (c = 95 ∨ c = 45 ∨ (48 ≤ c ∧ c ≤ 57)))) := by
  simp [letterOk, or_assoc]

theorem validName_bad {s : ByteArray} {k : Nat} (hk : k < s.size) (h : ¬ ((97 ≤ byteAt s k ∧ byteAt s k ≤ 122) ∨ (k ≠ 0 ∧ (byteAt s k = 95 ∨ byteAt s k = 45 ∨ (48 ≤ byteAt s k ∧ byteAt s k ≤ 57))))) : false = validName s := by
  symm
  rw [← Bool.not_eq_true, validName_iff]
  intro ⟨_, _, h2⟩
  exact h (letterOk_iff.1 (h2 k hk))

theorem ac74 (s : ByteArray) : AC Tryd.prog 74 [.pv (vstr s)] [] (.pv (vbool (validName s))) [] := by
  refine AC.of_awp (T := T) T_ok hm Tryd.call74 Tryd.func74 rfl rfl rfl ?_
  conv => whnf
  refine ⟨fun h => ?_, fun h => ?_⟩
  · conv => whnf
    simp only [decide_eq_true_eq] at h
    exact PSub.lit_sb (by symm; simp [validName]; omega)
  conv => whnf
  refine ⟨fun h2 => ?_, fun h2 => ?_⟩
  · conv => whnf
    simp only [decide_eq_true_eq] at h2
    exact PSub.lit_sb (by symm; simp [validName]; omega)
  conv => whnf
  simp only [decide_eq_false_iff_not] at h h2
  refine ⟨Nat, fun k => k ≤ s.size ∧ ∀ j, j < k → letterOk j (byteAt s j) = true, fun k => ⟨[(0, .pv (vstr s)), (3, .pv (vint k))], []⟩, fun k => s.size - k, 0, [], ⟨Nat.zero_le _, fun j h => absurd h (by omega)⟩, ⟨.rfl, .rfl⟩, fun k hk => ?_⟩
  conv => whnf
  refine ⟨fun h3 => ?_, fun h3 => ?_⟩
  · conv => whnf
    simp only [decide_eq_true_eq] at h3
    refine ⟨by omega, ?_⟩
    conv => whnf
    have hb : ∀ j, j < k → letterOk j (byteAt s j) = true := hk.2
    have hkl := hk.1
    clear hk
    have hkn : (k : Int).toNat = k := rfl
    simp only [hkn]
    iterate 9 (all_goals first | (refine ⟨fun h => ?_, fun h => ?_⟩ <;> (conv => whnf)) | skip)
    all_goals simp only [decide_eq_true_eq, decide_eq_false_iff_not, Bool.not_eq_true', Bool.not_eq_false', Int.toNat_natCast] at *
    all_goals first
      | contradiction
      | exact PSub.lit_sb (validName_bad (k := k) (by omega) (by omega))
      | (refine .inl ⟨wrap64 (by omega), ?_⟩
         conv => whnf
         refine ⟨k + 1, [], ⟨by omega, fun j hj => ?_⟩, by omega, .rfl, .rfl⟩
         by_cases e : j = k
         · subst e; exact letterOk_iff.2 (by omega)
         · exact hb j (by omega))
  · conv => whnf
    simp only [decide_eq_false_iff_not] at h3
    exact PSub.lit_sb (by symm; rw [validName_iff]; exact ⟨by omega, by omega, fun i hi => hk.2 i (by omega)⟩)

theorem decode_rune {s : ByteArray} {k : Nat} (hk : k < s.size) : (byteAt s k < 128 ∧ ((Utf8.decode s k).1 : Int) = byteAt s k ∧ (Utf8.decode s k).2 = 1) ∨ (128 ≤ byteAt s k ∧ 128 ≤ (Utf8.decode s k).1) := by
  have hlt : k < s.data.size := hk
  have hb : byteAt s k = ((s[k]'hk).toNat : Int) := by simp only [byteAt, Array.getD, dif_pos hlt]; rfl
  rw [hb]
  by_cases h : (s[k]'hk).toNat < 128
  · left
    rw [decode_ascii s k hk h]
    exact ⟨by omega, rfl, rfl⟩
  · right
    exact ⟨by omega, (decode_high s k hk (by omega)).1⟩

theorem ac43 (s : ByteArray) : AC Tryd.prog 43 [.pv (vstr s)] [] (.pv (vbool (validName s))) [] := by
  refine AC.of_awp (T := T) T_ok hm Tryd.call43 Tryd.func43 rfl rfl rfl ?_
  conv => whnf
  refine ⟨fun h => ?_, fun h => ?_⟩
  · conv => whnf
    simp only [decide_eq_true_eq] at h
    exact PSub.lit_sb (by symm; simp [validName]; omega)
  conv => whnf
  refine ⟨fun h2 => ?_, fun h2 => ?_⟩
  · conv => whnf
    simp only [decide_eq_true_eq] at h2
    exact PSub.lit_sb (by symm; simp [validName]; omega)
  conv => whnf
  simp only [decide_eq_false_iff_not] at h h2
  refine ⟨Nat, fun k => k ≤ s.size ∧ ∀ j, j < k → letterOk j (byteAt s j) = true, fun k => ⟨[(0, .pv (vstr s)), (14, .ref 500)], [(500, .siter s k)]⟩, fun k => s.size - k, 0, [(500, 14)], ⟨Nat.zero_le _, fun j h => absurd h (by omega)⟩, ⟨⟨⟨rfl, rfl⟩, trivial⟩, .rfl, trivial⟩, fun k hk => ?_⟩
  conv => whnf
  refine ⟨fun h3 => ?_, fun h3 => ?_⟩
  · conv => whnf
    refine .inl ⟨_, ac72 _, ?_⟩
    conv => whnf
    have hb : ∀ j, j < k → letterOk j (byteAt s j) = true := hk.2
    have hkl := hk.1
    clear hk
    have hd := decode_rune h3
    iterate 9 (all_goals first | (refine ⟨fun h => ?_, fun h => ?_⟩ <;> (conv => whnf)) | skip)
    all_goals simp only [decide_eq_true_eq, decide_eq_false_iff_not, Bool.not_eq_true', Bool.not_eq_false', Bool.and_eq_true, Bool.and_eq_false_iff] at *
    all_goals first
      | contradiction
      | exact PSub.lit_sb (validName_bad (k := k) h3 (by omega))
      | (refine ⟨k + 1, [], ⟨by omega, fun j hj => ?_⟩, by omega, ⟨⟨rfl, by omega⟩, trivial⟩, .rfl, trivial⟩
         by_cases e : j = k
         · subst e; exact letterOk_iff.2 (by omega)
         · exact hb j (by omega))
  · conv => whnf
    exact PSub.lit_sb (by symm; rw [validName_iff]; exact ⟨by omega, by omega, fun i hi => hk.2 i (by have := hk.1; omega)⟩)

end Go.Abs

namespace Go.Abs
open Go.Proofs
set_option maxRecDepth 10000

theorem ac109 (n : Int) : AC Tryd.prog 109 [.pv (vint n)] [] (.pv (vbool (inRange n))) [] := by
  refine AC.of_awp (T := T) T_ok hm Tryd.call109 Tryd.func109 rfl rfl rfl ?_
  conv => whnf
  refine ⟨fun h => ?_, fun h => ?_⟩
  · conv => whnf
    simp only [decide_eq_true_eq] at h
    exact PSub.sb (by simp [inRange, h])
  · conv => whnf
    simp only [decide_eq_false_iff_not] at h
    exact PSub.lit_sb (by simp [inRange, h])

theorem ac110 (l : List ByteArray) (hl : l.length ≤ 1048576) : AC Tryd.prog 110 [.pv (roL 1 cstr l)] [] (.pv (vint (membersE l))) [] := by
  refine AC.of_awp (T := T) T_ok hm Tryd.call110 Tryd.func110 rfl rfl rfl ?_
  conv => whnf
  refine ⟨fun h => ?_, fun h => ?_⟩
  · conv => whnf
    simp only [decide_eq_true_eq] at h
    exact PSub.int (by rw [membersE, if_pos (by omega)])
  conv => whnf
  refine ⟨fun h2 => ?_, fun h2 => ?_⟩
  · conv => whnf
    simp only [decide_eq_true_eq] at h2
    exact PSub.int (by rw [membersE, if_pos (by omega)])
  conv => whnf
  simp only [decide_eq_false_iff_not] at h h2
  have e0 : membersE l = firstE l.length fun i => if validName (l.getD i default) = false then 10 else if idxOf l (l.getD i default) < i then 9 else 0 := by rw [membersE, if_neg (by omega)]
  rw [e0]
  generalize hf : (fun i => if validName (l.getD i default) = false then (10 : Int) else if idxOf l (l.getD i default) < (i : Int) then 9 else 0) = f
  have hfi : ∀ i, f i = if validName (l.getD i default) = false then (10 : Int) else if idxOf l (l.getD i default) < (i : Int) then 9 else 0 := fun i => by rw [← hf]
  refine ⟨Nat, fun k => k ≤ l.length ∧ ∀ j, j < k → f j = 0, fun k => ⟨[(0, .pv (roL 1 cstr l)), (13, .pv (roL 1 cstr l)), (14, .pv (vint l.length)), (15, .pv (vint k))], []⟩, fun k => l.length - k, 0, [], ⟨Nat.zero_le _, fun j h => absurd h (by omega)⟩, ⟨.rfl, .rfl, .rfl, .rfl⟩, fun k hk => ?_⟩
  conv => whnf
  refine ⟨fun h3 => ?_, fun h3 => ?_⟩
  · conv => whnf
    simp only [decide_eq_true_eq] at h3
    refine ⟨by omega, ?_⟩
    conv => whnf
    refine .inl ⟨_, ac43 _, ?_⟩
    conv => whnf
    have hfk := hfi k
    refine ⟨fun h4 => ?_, fun h4 => ?_⟩
    · conv => whnf
      simp only [Bool.not_eq_true', Int.toNat_natCast] at h4
      rw [if_pos h4] at hfk
      exact PSub.int (by rw [firstE_at (k := k) (by omega) (by rw [hfk]; decide) hk.2, hfk])
    · conv => whnf
      refine .inl ⟨_, ac56 l _ hl, ?_⟩
      conv => whnf
      simp only [Bool.not_eq_false', Int.toNat_natCast] at h4
      rw [if_neg (by rw [h4]; decide)] at hfk
      refine ⟨fun h5 => ?_, fun h5 => ?_⟩
      · conv => whnf
        simp only [decide_eq_true_eq, Int.toNat_natCast] at h5
        rw [if_pos h5] at hfk
        exact PSub.int (by rw [firstE_at (k := k) (by omega) (by rw [hfk]; decide) hk.2, hfk])
      · conv => whnf
        simp only [decide_eq_false_iff_not, Int.toNat_natCast] at h5
        rw [if_neg h5] at hfk
        refine .inl ⟨wrap64 (by omega), ?_⟩
        conv => whnf
        refine ⟨k + 1, [], ⟨by omega, fun j hj => ?_⟩, by dsimp only; omega, .rfl, .rfl, .rfl, .rfl⟩
        by_cases e : j = k
        · subst e; exact hfk
        · exact hk.2 j (by omega)
  · conv => whnf
    simp only [decide_eq_false_iff_not] at h3
    exact PSub.int (by rw [firstE_none fun j hj => hk.2 j (by omega)])

theorem ac79 (a : Attr) (hl : a.enum.length ≤ 1048576) : AC Tryd.prog 79 [.pv (.agg (cAttr a))] [] (.pv (vint (defE a))) [] := by
  refine AC.of_awp (T := T) T_ok hm Tryd.call79 Tryd.func79 rfl rfl rfl ?_
  conv => whnf
  refine .inl ⟨_, ac43 _, ?_⟩
  conv => whnf
  refine ⟨fun h => ?_, fun h => ?_⟩
  · conv => whnf
    simp only [Bool.not_eq_true'] at h
    exact PSub.int (by rw [defE, if_pos h])
  conv => whnf
  simp only [Bool.not_eq_false'] at h
  have h : ¬ validName a.name = false := by rw [h]; decide
  have hk : a.kind < 1 ∨ 4 < a.kind → PSub (ofConst (.int .i64 7)) (vint (defE a)) := fun hh => PSub.int (by rw [defE, if_neg h, if_pos hh])
  refine ⟨fun h2 => ?_, fun h2 => ?_⟩
  · conv => whnf
    simp only [decide_eq_true_eq] at h2
    exact hk (.inl h2)
  conv => whnf
  refine ⟨fun h3 => ?_, fun h3 => ?_⟩
  · conv => whnf
    simp only [decide_eq_true_eq] at h3
    exact hk (.inr h3)
  conv => whnf
  simp only [decide_eq_false_iff_not] at h2 h3
  have hk2 : ¬ (a.kind < 1 ∨ 4 < a.kind) := by omega
  have tail : ∀ (hq : ¬ (a.kind = 2 ∧ (inRange a.min = false ∨ inRange a.max = false ∨ a.max < a.min))) (hq2 : ¬ (a.kind ≠ 2 ∧ (a.min ≠ 0 ∨ a.max ≠ 0))), defE a = if a.kind = 3 then membersE a.enum else if 0 < a.enum.length then 4 else 0 := fun hq hq2 => by
    rw [defE, if_neg h, if_neg hk2, if_neg hq, if_neg hq2]
  refine ⟨fun h4 => ?_, fun h4 => ?_⟩
  · conv => whnf
    simp only [decide_eq_true_eq] at h4
    have bad : (inRange a.min = false ∨ inRange a.max = false ∨ a.max < a.min) → PSub (ofConst (.int .i64 2)) (vint (defE a)) := fun hh => PSub.int (by rw [defE, if_neg h, if_neg hk2, if_pos ⟨h4, hh⟩])
    refine .inl ⟨_, ac109 _, ?_⟩
    conv => whnf
    refine ⟨fun h5 => ?_, fun h5 => ?_⟩
    · conv => whnf
      simp only [Bool.not_eq_true'] at h5
      exact bad (.inl h5)
    conv => whnf
    refine .inl ⟨_, ac109 _, ?_⟩
    conv => whnf
    refine ⟨fun h6 => ?_, fun h6 => ?_⟩
    · conv => whnf
      simp only [Bool.not_eq_true'] at h6
      exact bad (.inr (.inl h6))
    conv => whnf
    refine ⟨fun h7 => ?_, fun h7 => ?_⟩
    · conv => whnf
      simp only [decide_eq_true_eq] at h7
      exact bad (.inr (.inr h7))
    conv => whnf
    simp only [decide_eq_false_iff_not, Bool.not_eq_false'] at h5 h6 h7
    have hd := tail (by rw [h5, h6]; simp; omega) (by omega)
    rw [if_neg (by omega)] at hd
    rw [hd]
    refine ⟨fun h8 => ?_, fun h8 => ?_⟩
    · simp only [decide_eq_true_eq] at h8
      omega
    conv => whnf
    refine ⟨fun h9 => ?_, fun h9 => ?_⟩
    · conv => whnf
      simp only [decide_eq_true_eq] at h9
      exact PSub.int (by rw [if_pos (by omega)])
    · conv => whnf
      simp only [decide_eq_false_iff_not] at h9
      exact PSub.int (by rw [if_neg (by omega)])
  · conv => whnf
    simp only [decide_eq_false_iff_not] at h4
    have bad : (a.min ≠ 0 ∨ a.max ≠ 0) → PSub (ofConst (.int .i64 2)) (vint (defE a)) := fun hh => PSub.int (by rw [defE, if_neg h, if_neg hk2, if_neg (fun x => h4 x.1), if_pos ⟨h4, hh⟩])
    refine ⟨fun h5 => ?_, fun h5 => ?_⟩
    · conv => whnf
      simp only [Bool.not_eq_true', decide_eq_false_iff_not] at h5
      exact bad (.inl h5)
    conv => whnf
    refine ⟨fun h6 => ?_, fun h6 => ?_⟩
    · conv => whnf
      simp only [Bool.not_eq_true', decide_eq_false_iff_not] at h6
      exact bad (.inr h6)
    conv => whnf
    simp only [Bool.not_eq_false', decide_eq_true_eq] at h5 h6
    have hd := tail (fun x => h4 x.1) (by omega)
    rw [hd]
    refine ⟨fun h8 => ?_, fun h8 => ?_⟩
    · conv => whnf
      simp only [decide_eq_true_eq] at h8
      rw [if_pos h8]
      refine .inl ⟨_, ac110 _ hl, ?_⟩
      conv => whnf
      exact PSub.rfl
    conv => whnf
    simp only [decide_eq_false_iff_not] at h8
    rw [if_neg h8]
    refine ⟨fun h9 => ?_, fun h9 => ?_⟩
    · conv => whnf
      simp only [decide_eq_true_eq] at h9
      exact PSub.int (by rw [if_pos (by omega)])
    · conv => whnf
      simp only [decide_eq_false_iff_not] at h9
      exact PSub.int (by rw [if_neg (by omega)])

theorem ac112 (v : Val) : AC Tryd.prog 112 [.pv (.agg (cVal v))] [] (.pv (vint (valE v))) [] := by
  refine AC.of_awp (T := T) T_ok hm Tryd.call112 Tryd.func112 rfl rfl rfl ?_
  conv => whnf
  iterate 14 (all_goals first | (refine ⟨fun h => ?_, fun h => ?_⟩ <;> (conv => whnf)) | (refine .inl ⟨_, ac109 _, ?_⟩; conv => whnf) | skip)
  all_goals simp only [decide_eq_true_eq, decide_eq_false_iff_not, Bool.not_eq_true', Bool.not_eq_false'] at *
  all_goals first
    | contradiction
    | exact PSub.int (by simp only [valE]; (repeat' split) <;> first | rfl | omega | (simp_all; done) | (simp_all; omega))
    | trace_state

theorem ac83 (a : Attr) (v : Val) (hl : a.enum.length ≤ 1048576) : AC Tryd.prog 83 [.pv (.agg (cAttr a)), .pv (.agg (cVal v))] [] (.pv (vint (fitsE a v))) [] := by
  refine AC.of_awp (T := T) T_ok hm Tryd.call83 Tryd.func83 rfl rfl rfl ?_
  conv => whnf
  iterate 14 (all_goals first | (refine ⟨fun h => ?_, fun h => ?_⟩ <;> (conv => whnf)) | (refine .inl ⟨_, ac79 a hl, ?_⟩; conv => whnf) | (refine .inl ⟨_, ac112 v, ?_⟩; conv => whnf) | skip)
  all_goals simp only [decide_eq_true_eq, decide_eq_false_iff_not, Bool.not_eq_true', Bool.not_eq_false'] at *
  all_goals first
    | contradiction
    | exact PSub.int (by simp only [fitsE]; (repeat' split) <;> first | rfl | omega | (simp_all; done) | (simp_all; omega))
    | trace_state

theorem ac80 (n lo hi : Int) : AC Tryd.prog 80 [.pv (vint n), .pv (vint lo), .pv (vint hi)] [] (.pv (vint (clampI n lo hi))) [] := by
  refine AC.of_awp (T := T) T_ok hm Tryd.call80 Tryd.func80 rfl rfl rfl ?_
  conv => whnf
  iterate 5 (all_goals first | (refine ⟨fun h => ?_, fun h => ?_⟩ <;> (conv => whnf)) | skip)
  all_goals simp only [decide_eq_true_eq, decide_eq_false_iff_not, Bool.not_eq_true', Bool.not_eq_false'] at *
  all_goals first
    | contradiction
    | exact PSub.int (by simp only [clampI]; (repeat' split) <;> first | rfl | omega)
    | trace_state

theorem ac50 (a : Attr) (hl : a.enum.length ≤ 1048576) : AC Tryd.prog 50 [.pv (.agg (cAttr a))] [] (.pv (.agg (cVal (zeroV a)))) [] := by
  refine AC.of_awp (T := T) T_ok hm Tryd.call50 Tryd.func50 rfl rfl rfl ?_
  conv => whnf
  iterate 6 (all_goals first | (refine ⟨fun h => ?_, fun h => ?_⟩ <;> (conv => whnf)) | (refine .inl ⟨_, ac79 a hl, ?_⟩; conv => whnf) | (refine .inl ⟨_, ac80 _ _ _, ?_⟩; conv => whnf) | skip)
  all_goals simp only [decide_eq_true_eq, decide_eq_false_iff_not, Bool.not_eq_true', Bool.not_eq_false'] at *
  all_goals first
    | contradiction
    | exact PSub.of_eq (by simp only [zeroV]; (repeat' split) <;> first | rfl | omega | contradiction | (simp_all; done))
    | trace_state

theorem ac115 (a : Attr) (v : Val) (hl : a.enum.length ≤ 1048576) : AC Tryd.prog 115 [.pv (.agg (cAttr a)), .pv (.agg (cVal v))] [] (.pv (.agg (cVal (limitV a v)))) [] := by
  refine AC.of_awp (T := T) T_ok hm Tryd.call115 Tryd.func115 rfl rfl rfl ?_
  conv => whnf
  iterate 8 (all_goals first | (refine ⟨fun h => ?_, fun h => ?_⟩ <;> (conv => whnf)) | (refine .inl ⟨_, ac79 a hl, ?_⟩; conv => whnf) | (refine .inl ⟨_, ac80 _ _ _, ?_⟩; conv => whnf) | skip)
  all_goals simp only [decide_eq_true_eq, decide_eq_false_iff_not, Bool.not_eq_true', Bool.not_eq_false'] at *
  all_goals first
    | contradiction
    | exact PSub.of_eq (by simp only [limitV]; (repeat' split) <;> first | rfl | omega | contradiction | (simp_all; done))
    | trace_state

end Go.Abs

namespace Go.Abs
open Go.Proofs
set_option maxRecDepth 10000

theorem ac84 (v : Val) : AC Tryd.prog 84 [.pv (.agg (cVal v))] [] (.pv (vint (valE v))) [] := by
  refine AC.of_awp (T := T) T_ok hm Tryd.call84 Tryd.func84 rfl rfl rfl ?_
  conv => whnf
  iterate 14 (all_goals first | (refine ⟨fun h => ?_, fun h => ?_⟩ <;> (conv => whnf)) | skip)
  all_goals simp only [decide_eq_true_eq, decide_eq_false_iff_not, Bool.not_eq_true', Bool.not_eq_false'] at *
  all_goals first
    | contradiction
    | exact PSub.int (by simp only [valE, inRange, Bool.and_eq_false_iff, decide_eq_false_iff_not]; (repeat' split) <;> first | rfl | omega | (simp_all; done) | (simp_all; omega))
    | trace_state

/-- s is among the first n of l -/
def memN (l : List ByteArray) (n : Nat) (s : ByteArray) : Bool := (List.range n).any fun j => decide (l.getD j default = s)

theorem memN_true {l : List ByteArray} {n k : Nat} {s : ByteArray} (hk : k < n) (h : l.getD k default = s) : memN l n s = true := by
  simp only [memN, List.any_eq_true, List.mem_range, decide_eq_true_eq]
  exact ⟨k, hk, h⟩

theorem memN_false {l : List ByteArray} {n : Nat} {s : ByteArray} (h : ∀ j, j < n → l.getD j default ≠ s) : memN l n s = false := by
  rw [← Bool.not_eq_true]
  simp only [memN, List.any_eq_true, List.mem_range, decide_eq_true_eq]
  rintro ⟨j, hj, e⟩
  exact h j hj e

theorem ac111 (l : List ByteArray) (n : Nat) (x : ByteArray) (hl : n ≤ 1048576) : AC Tryd.prog 111 [.pv (.ro 1 n fun i => cstr (l.getD i default)), .pv (vstr x)] [] (.pv (vbool (memN l n x))) [] := by
  refine AC.of_awp (T := T) T_ok hm Tryd.call111 Tryd.func111 rfl rfl rfl ?_
  conv => whnf
  refine ⟨Nat, fun k => k ≤ n ∧ ∀ j, j < k → l.getD j default ≠ x, fun k => ⟨[(0, .pv (.ro 1 n fun i => cstr (l.getD i default))), (1, .pv (vstr x)), (5, .pv (vint k))], []⟩, fun k => n - k, 0, [], ⟨Nat.zero_le _, fun j h => absurd h (by omega)⟩, ⟨.rfl, .rfl, .rfl⟩, fun k hk => ?_⟩
  conv => whnf
  refine ⟨fun h => ?_, fun h => ?_⟩
  · simp only [decide_eq_true_eq] at h
    refine ⟨by omega, ?_⟩
    conv => whnf
    refine ⟨fun h2 => ?_, fun h2 => ?_⟩
    · conv => whnf
      simp only [decide_eq_true_eq] at h2
      exact PSub.lit_sb (memN_true (k := k) (by omega) (by simpa using h2)).symm
    · conv => whnf
      refine .inl ⟨wrap64 (by omega), ?_⟩
      conv => whnf
      simp only [decide_eq_false_iff_not] at h2
      refine ⟨k + 1, [], ⟨by omega, fun j hj => ?_⟩, by dsimp only; omega, .rfl, .rfl, .rfl⟩
      by_cases e : j = k
      · subst e; simpa using h2
      · exact hk.2 j (by omega)
  · conv => whnf
    simp only [decide_eq_false_iff_not] at h
    exact PSub.lit_sb (memN_false fun j hj => hk.2 j (by omega)).symm

theorem idxOf_lt {l : List ByteArray} {i : Nat} (hi : i < l.length) : idxOf l (l.getD i default) < (i : Int) ↔ memN l i (l.getD i default) = true := by
  constructor
  · intro h
    by_cases hm : memN l i (l.getD i default) = true
    · exact hm
    · exfalso
      have hn : ∀ j, j < i → l.getD j default ≠ l.getD i default := fun j hj e => hm (memN_true hj e)
      rw [idxOf_some (k := i) hi rfl hn] at h
      omega
  · intro h
    simp only [memN, List.any_eq_true, List.mem_range, decide_eq_true_eq] at h
    have hex : ∃ j, j < i ∧ l.getD j default = l.getD i default := h
    have : ∃ k, k < i ∧ l.getD k default = l.getD i default ∧ ∀ j, j < k → l.getD j default ≠ l.getD i default := by
      obtain ⟨j, hj, e⟩ := hex
      clear h
      induction j using Nat.strongRecOn with
      | _ j ih =>
        by_cases hb : ∃ m, m < j ∧ l.getD m default = l.getD i default
        · obtain ⟨m, hm, e2⟩ := hb
          exact ih m hm (by omega) e2
        · exact ⟨j, hj, e, fun m hm e2 => hb ⟨m, hm, e2⟩⟩
    obtain ⟨k, hk, e, hf⟩ := this
    rw [idxOf_some (k := k) (by omega) e hf]
    omega

theorem ac81 (a : Attr) (hl : a.enum.length ≤ 1048576) : AC Tryd.prog 81 [.pv (.agg (cAttr a))] [] (.pv (vint (defE a))) [] := by
  refine AC.of_awp (T := T) T_ok hm Tryd.call81 Tryd.func81 rfl rfl rfl ?_
  conv => whnf
  refine .inl ⟨_, ac74 _, ?_⟩
  conv => whnf
  refine ⟨fun h => ?_, fun h => ?_⟩
  · conv => whnf
    simp only [Bool.not_eq_true'] at h
    exact PSub.int (by rw [defE, if_pos h])
  conv => whnf
  simp only [Bool.not_eq_false'] at h
  have h : ¬ validName a.name = false := by rw [h]; decide
  have hk : a.kind < 1 ∨ 4 < a.kind → PSub (ofConst (.int .i64 7)) (vint (defE a)) := fun hh => PSub.int (by rw [defE, if_neg h, if_pos hh])
  refine ⟨fun h2 => ?_, fun h2 => ?_⟩
  · conv => whnf
    simp only [decide_eq_true_eq] at h2
    exact hk (.inl h2)
  conv => whnf
  refine ⟨fun h3 => ?_, fun h3 => ?_⟩
  · conv => whnf
    simp only [decide_eq_true_eq] at h3
    exact hk (.inr h3)
  conv => whnf
  simp only [decide_eq_false_iff_not] at h2 h3
  have hk2 : ¬ (a.kind < 1 ∨ 4 < a.kind) := by omega
  have tail : ∀ (hq : ¬ (a.kind = 2 ∧ (inRange a.min = false ∨ inRange a.max = false ∨ a.max < a.min))) (hq2 : ¬ (a.kind ≠ 2 ∧ (a.min ≠ 0 ∨ a.max ≠ 0))), defE a = if a.kind = 3 then membersE a.enum else if 0 < a.enum.length then 4 else 0 := fun hq hq2 => by
    rw [defE, if_neg h, if_neg hk2, if_neg hq, if_neg hq2]
  have hin : ∀ n, inRange n = false ↔ ¬ (-1099511627776 ≤ n ∧ n ≤ 1099511627776) := fun n => by
    rw [← Bool.not_eq_true, inRange, Bool.and_eq_true, decide_eq_true_eq, decide_eq_true_eq]
  refine ⟨fun h4 => ?_, fun h4 => ?_⟩
  · conv => whnf
    simp only [decide_eq_true_eq] at h4
    have bad : (a.min < -1099511627776 ∨ 1099511627776 < a.max ∨ a.max < a.min) → PSub (ofConst (.int .i64 2)) (vint (defE a)) := fun hh => PSub.int (by rw [defE, if_neg h, if_neg hk2, if_pos ⟨h4, by rw [hin, hin]; omega⟩])
    refine ⟨fun h5 => ?_, fun h5 => ?_⟩
    · conv => whnf
      simp only [decide_eq_true_eq] at h5
      exact bad (.inl h5)
    conv => whnf
    refine ⟨fun h6 => ?_, fun h6 => ?_⟩
    · conv => whnf
      simp only [decide_eq_true_eq] at h6
      exact bad (.inr (.inl h6))
    conv => whnf
    refine ⟨fun h7 => ?_, fun h7 => ?_⟩
    · conv => whnf
      simp only [decide_eq_true_eq] at h7
      exact bad (.inr (.inr h7))
    conv => whnf
    simp only [decide_eq_false_iff_not] at h5 h6 h7
    have hd := tail (by rw [hin, hin]; omega) (by omega)
    rw [if_neg (by omega)] at hd
    rw [hd]
    refine ⟨fun h8 => ?_, fun h8 => ?_⟩
    · conv => whnf
      refine ⟨fun h9 => ?_, fun h9 => ?_⟩
      · conv => whnf
        simp only [decide_eq_true_eq] at h9
        exact PSub.int (by rw [if_pos (by omega)])
      · conv => whnf
        simp only [decide_eq_false_iff_not] at h9
        exact PSub.int (by rw [if_neg (by omega)])
    · simp only [Bool.not_eq_false', decide_eq_true_eq] at h8
      omega
  · conv => whnf
    simp only [decide_eq_false_iff_not] at h4
    have bad : (a.min ≠ 0 ∨ a.max ≠ 0) → PSub (ofConst (.int .i64 2)) (vint (defE a)) := fun hh => PSub.int (by rw [defE, if_neg h, if_neg hk2, if_neg (fun x => h4 x.1), if_pos ⟨h4, hh⟩])
    refine ⟨fun h5 => ?_, fun h5 => ?_⟩
    · conv => whnf
      simp only [Bool.not_eq_true', decide_eq_false_iff_not] at h5
      exact bad (.inl h5)
    conv => whnf
    refine ⟨fun h6 => ?_, fun h6 => ?_⟩
    · conv => whnf
      simp only [Bool.not_eq_true', decide_eq_false_iff_not] at h6
      exact bad (.inr h6)
    conv => whnf
    simp only [Bool.not_eq_false', decide_eq_true_eq] at h5 h6
    have hd := tail (fun x => h4 x.1) (by omega)
    rw [hd]
    refine ⟨fun h8 => ?_, fun h8 => ?_⟩
    · conv => whnf
      simp only [Bool.not_eq_true', decide_eq_false_iff_not] at h8
      rw [if_neg h8]
      refine ⟨fun h9 => ?_, fun h9 => ?_⟩
      · conv => whnf
        simp only [decide_eq_true_eq] at h9
        exact PSub.int (by rw [if_pos (by omega)])
      · conv => whnf
        simp only [decide_eq_false_iff_not] at h9
        exact PSub.int (by rw [if_neg (by omega)])
    conv => whnf
    simp only [Bool.not_eq_false', decide_eq_true_eq] at h8
    rw [if_pos h8]
    refine ⟨fun h => ?_, fun h => ?_⟩
    · conv => whnf
      simp only [decide_eq_true_eq] at h
      exact PSub.int (by rw [membersE, if_pos (by omega)])
    conv => whnf
    refine ⟨fun h9 => ?_, fun h9 => ?_⟩
    · conv => whnf
      simp only [decide_eq_true_eq] at h9
      exact PSub.int (by rw [membersE, if_pos (by omega)])
    conv => whnf
    simp only [decide_eq_false_iff_not] at h h9
    have e0 : membersE a.enum = firstE a.enum.length fun i => if validName (a.enum.getD i default) = false then 10 else if idxOf a.enum (a.enum.getD i default) < i then 9 else 0 := by rw [membersE, if_neg (by omega)]
    rw [e0]
    generalize hf : (fun i => if validName (a.enum.getD i default) = false then (10 : Int) else if idxOf a.enum (a.enum.getD i default) < (i : Int) then 9 else 0) = f
    have hfi : ∀ i, f i = if validName (a.enum.getD i default) = false then (10 : Int) else if idxOf a.enum (a.enum.getD i default) < (i : Int) then 9 else 0 := fun i => by rw [← hf]
    refine ⟨Nat, fun k => k ≤ a.enum.length ∧ ∀ j, j < k → f j = 0, fun k => ⟨[(1, .ptr 1 0), (3, .pv (vint k))], [(1, .pbox (cAttr a))]⟩, fun k => a.enum.length - k, 0, [], ⟨Nat.zero_le _, fun j h => absurd h (by omega)⟩, ⟨⟨PSubs.rfl, trivial⟩, rfl, .rfl⟩, fun k hk => ?_⟩
    conv => whnf
    refine ⟨fun h3 => ?_, fun h3 => ?_⟩
    · conv => whnf
      simp only [decide_eq_true_eq] at h3
      refine ⟨by omega, ?_⟩
      conv => whnf
      refine .inl ⟨_, ac74 _, ?_⟩
      conv => whnf
      have hfk := hfi k
      refine ⟨fun h4 => ?_, fun h4 => ?_⟩
      · conv => whnf
        simp only [Bool.not_eq_true', Int.toNat_natCast] at h4
        rw [if_pos h4] at hfk
        exact PSub.int (by rw [firstE_at (k := k) (by omega) (by rw [hfk]; decide) hk.2, hfk])
      · conv => whnf
        simp only [Bool.not_eq_false', Int.toNat_natCast] at h4
        rw [if_neg (by rw [h4]; decide)] at hfk
        refine ⟨by kernel_rfl, ?_⟩
        conv => whnf
        refine ⟨by omega, ?_⟩
        conv => whnf
        refine ⟨by omega, ?_⟩
        conv => whnf
        refine .inl ⟨_, ac111 a.enum k _ (by omega), ?_⟩
        conv => whnf
        refine ⟨by kernel_rfl, ?_⟩
        conv => whnf
        refine ⟨fun h5 => ?_, fun h5 => ?_⟩
        · conv => whnf
          rw [if_pos ((idxOf_lt (by omega)).2 h5)] at hfk
          exact PSub.int (by rw [firstE_at (k := k) (by omega) (by rw [hfk]; decide) hk.2, hfk])
        · conv => whnf
          simp only [Int.toNat_natCast] at h5
          rw [if_neg (fun x => by rw [(idxOf_lt (by omega)).1 x] at h5; cases h5)] at hfk
          refine .inl ⟨wrap64 (by omega), ?_⟩
          conv => whnf
          refine ⟨k + 1, [], ⟨by omega, fun j hj => ?_⟩, by dsimp only; omega, ⟨PSubs.rfl, trivial⟩, rfl, .rfl⟩
          by_cases e : j = k
          · subst e; exact hfk
          · exact hk.2 j (by omega)
    · conv => whnf
      simp only [decide_eq_false_iff_not] at h3
      exact PSub.int (by rw [firstE_none fun j hj => hk.2 j (by omega)])

end Go.Abs

namespace Go.Abs
open Go.Proofs
set_option maxRecDepth 10000

theorem ac53 (a : Attr) (v : Val) (hl : a.enum.length ≤ 1048576) : AC Tryd.prog 53 [.pv (.agg (cAttr a)), .pv (.agg (cVal v))] [] (.pv (vint (fitsE a v))) [] := by
  refine AC.of_awp (T := T) T_ok hm Tryd.call53 Tryd.func53 rfl rfl rfl ?_
  conv => whnf
  iterate 14 (all_goals first | (refine ⟨fun h => ?_, fun h => ?_⟩ <;> (conv => whnf)) | (refine .inl ⟨_, ac81 a hl, ?_⟩; conv => whnf) | (refine .inl ⟨_, ac84 v, ?_⟩; conv => whnf) | skip)
  all_goals simp only [decide_eq_true_eq, decide_eq_false_iff_not, Bool.not_eq_true', Bool.not_eq_false'] at *
  all_goals first
    | contradiction
    | exact PSub.int (by simp only [fitsE]; (repeat' split) <;> first | rfl | omega | (simp_all; done) | (simp_all; omega))
    | trace_state

theorem ac82 (a : Attr) (v : Val) (hl : a.enum.length ≤ 1048576) : AC Tryd.prog 82 [.pv (.agg (cAttr a)), .pv (.agg (cVal v))] [] (.pv (.agg (cVal (limitV a v)))) [] := by
  refine AC.of_awp (T := T) T_ok hm Tryd.call82 Tryd.func82 rfl rfl rfl ?_
  conv => whnf
  iterate 8 (all_goals first | (refine ⟨fun h => ?_, fun h => ?_⟩ <;> (conv => whnf)) | (refine .inl ⟨_, ac81 a hl, ?_⟩; conv => whnf) | skip)
  all_goals simp only [decide_eq_true_eq, decide_eq_false_iff_not, Bool.not_eq_true', Bool.not_eq_false'] at *
  all_goals first
    | contradiction
    | exact PSub.of_eq (by simp only [limitV, clampI]; (repeat' split) <;> first | rfl | omega | contradiction | (simp_all; done))
    | trace_state

theorem ac51 (a : Attr) (hl : a.enum.length ≤ 1048576) : AC Tryd.prog 51 [.pv (.agg (cAttr a))] [] (.pv (.agg (cVal (zeroV a)))) [] := by
  refine AC.of_awp (T := T) T_ok hm Tryd.call51 Tryd.func51 rfl rfl rfl ?_
  conv => whnf
  iterate 6 (all_goals first | (refine ⟨fun h => ?_, fun h => ?_⟩ <;> (conv => whnf)) | (refine .inl ⟨_, ac81 a hl, ?_⟩; conv => whnf) | (refine .inl ⟨_, ac82 a ⟨a.kind, 0, ⟨#[]⟩⟩ hl, ?_⟩; conv => whnf) | skip)
  all_goals simp only [decide_eq_true_eq, decide_eq_false_iff_not, Bool.not_eq_true', Bool.not_eq_false'] at *
  all_goals first
    | contradiction
    | exact PSub.of_eq (by simp only [zeroV, limitV]; (repeat' split) <;> first | rfl | omega | contradiction | (simp_all; done))
    | trace_state

end Go.Abs

namespace Go.Abs
open Go.Proofs
set_option maxRecDepth 10000

theorem ac87 (n : Nat) (g : Nat → List PV) (hn : n ≤ 1048576) : AC Tryd.prog 87 [.pv (.ro 1 n g)] [] (.own 0) [(0, .row 1 n g)] := by
  refine AC.nil_split (pre := []) (post := []) ?_ (fun h => ?_)
  · refine AC.of_awp_own (T := T) T_ok hm Tryd.call87 Tryd.func87 rfl rfl rfl ?_
    conv => whnf
    refine ⟨by omega, ?_⟩
    conv => whnf
    exact ⟨by omega, fun i hi => by simpa using PSubs.rfl⟩
  · refine AC.of_awp_own (T := T) T_ok hm Tryd.call87 Tryd.func87 rfl rfl rfl ?_
    conv => whnf
    exact h

theorem ac64 (n : Nat) (g : Nat → List PV) (hn : n ≤ 1048576) : AC Tryd.prog 64 [.pv (.ro 7 n g)] [] (.own 0) [(0, .row 7 n g)] := by
  refine AC.nil_split (pre := []) (post := []) ?_ (fun h => ?_)
  · refine AC.of_awp_own (T := T) T_ok hm Tryd.call64 Tryd.func64 rfl rfl rfl ?_
    conv => whnf
    refine ⟨by omega, ?_⟩
    conv => whnf
    exact ⟨by omega, fun i hi => by simpa using PSubs.rfl⟩
  · refine AC.of_awp_own (T := T) T_ok hm Tryd.call64 Tryd.func64 rfl rfl rfl ?_
    conv => whnf
    exact h

theorem ac92 (n : Nat) (g : Nat → List PV) (hn : n ≤ 1048576) : AC Tryd.prog 92 [.pv (.ro 3 n g)] [] (.own 0) [(0, .row 3 n g)] := by
  refine AC.nil_split (pre := []) (post := []) ?_ (fun h => ?_)
  · refine AC.of_awp_own (T := T) T_ok hm Tryd.call92 Tryd.func92 rfl rfl rfl ?_
    conv => whnf
    refine ⟨by omega, ?_⟩
    conv => whnf
    exact ⟨by omega, fun i hi => by simpa using PSubs.rfl⟩
  · refine AC.of_awp_own (T := T) T_ok hm Tryd.call92 Tryd.func92 rfl rfl rfl ?_
    conv => whnf
    exact h

theorem ac113 (n : Nat) (g : Nat → List PV) (hn : n ≤ 1048576) : AC Tryd.prog 113 [.pv (.ro 3 n g)] [] (.own 0) [(0, .row 3 n g)] := by
  refine AC.nil_split (pre := []) (post := []) ?_ (fun h => ?_)
  · refine AC.of_awp_own (T := T) T_ok hm Tryd.call113 Tryd.func113 rfl rfl rfl ?_
    conv => whnf
    refine ⟨by omega, ?_⟩
    conv => whnf
    exact ⟨by omega, fun i hi => by simpa using PSubs.rfl⟩
  · refine AC.of_awp_own (T := T) T_ok hm Tryd.call113 Tryd.func113 rfl rfl rfl ?_
    conv => whnf
    exact h

end Go.Abs

namespace Go.Abs
open Go.Proofs
set_option maxRecDepth 10000

def noAttr : Attr := ⟨⟨#[]⟩, 0, 0, 0, [], false, false⟩
def smallL {α : Type} (l : List α) : Prop := l.length ≤ 1048576
def smallA (a : Attr) : Prop := smallL a.enum
def smallC (c : Cmd) : Prop := smallA c.param ∧ smallL c.effects
def smallK (c : Clu) : Prop := smallL c.attrs ∧ (∀ i, smallA (c.attrs.getD i default)) ∧ smallL c.commands ∧ (∀ i, smallC (c.commands.getD i default)) ∧ smallL c.events

/-- the first index whose element is as p says, or the length -/
def firstI (n : Nat) (p : Nat → Bool) : Nat := match (List.range n).find? p with | some i => i | none => n

theorem firstI_at {n k : Nat} {p : Nat → Bool} (hk : k < n) (h : p k = true) (hf : ∀ j, j < k → p j = false) : firstI n p = k := by
  have : (List.range n).find? p = some k := by
    rw [List.find?_range_eq_some]
    exact ⟨h, by simpa using hk, fun j hj => by simpa using hf j hj⟩
  simp only [firstI, this]

theorem firstI_none {n : Nat} {p : Nat → Bool} (hf : ∀ j, j < n → p j = false) : firstI n p = n := by
  have : (List.range n).find? p = none := by
    rw [List.find?_eq_none]
    intro x hx
    simpa using hf x (by simpa using hx)
  simp only [firstI, this]

def attrAt (l : List Attr) (s : ByteArray) : Nat := firstI l.length fun i => decide ((l.getD i default).name = s)

/-- cluster.Attr -/
def attrOf (l : List Attr) (s : ByteArray) : Attr := if attrAt l s < l.length then l.getD (attrAt l s) default else noAttr

theorem ac57 (c : Clu) (s : ByteArray) (hc : smallK c) : AC Tryd.prog 57 [.pv (.agg (cClu c)), .pv (vstr s)] [] (.pv (.tup [.agg (cAttr (attrOf c.attrs s)), vbool (decide (attrAt c.attrs s < c.attrs.length))])) [] := by
  have hl : c.attrs.length ≤ 1048576 := hc.1
  refine AC.of_awp (T := T) T_ok hm Tryd.call57 Tryd.func57 rfl rfl rfl ?_
  conv => whnf
  refine ⟨Nat, fun k => k ≤ c.attrs.length ∧ ∀ j, j < k → decide ((c.attrs.getD j default).name = s) = false, fun k => ⟨[(1, .pv (vstr s)), (4, .ptr 4 0), (9, .pv (roL 7 cAttr c.attrs)), (10, .pv (vint c.attrs.length)), (11, .pv (vint k))], [(4, .pbox (cAttr noAttr))]⟩, fun k => c.attrs.length - k, 0, [], ⟨Nat.zero_le _, fun j h => absurd h (by omega)⟩, ?_, fun k hk => ?_⟩
  · exact ⟨⟨⟨.rfl, .rfl, .rfl, .rfl, PSub.nil_ro _ _, PSub.lit_sb rfl, PSub.lit_sb rfl, trivial⟩, trivial⟩, .rfl, rfl, .rfl, .rfl, .rfl⟩
  conv => whnf
  refine ⟨fun h => ?_, fun h => ?_⟩
  · simp only [decide_eq_true_eq] at h
    conv => whnf
    refine ⟨by omega, ?_⟩
    conv => whnf
    refine ⟨fun h2 => ?_, fun h2 => ?_⟩
    · conv => whnf
      refine .inr ⟨_, _, _, ac87 _ _ (hc.2.1 k), ?_⟩
      conv => whnf
      have ea : attrAt c.attrs s = k := firstI_at (by omega) h2 hk.2
      have hlt : k < c.attrs.length := by omega
      refine ⟨?_, ?_⟩
      · conv => whnf
        exact PSub.of_eq (by rw [attrOf, ea, if_pos hlt]; rfl)
      · conv => whnf
        exact PSub.lit_sb (by rw [ea]; simp [hlt])
    · conv => whnf
      refine .inl ⟨wrap64 (by omega), ?_⟩
      conv => whnf
      refine ⟨k + 1, [], ⟨by omega, fun j hj => ?_⟩, by dsimp only; omega, ⟨PSubs.rfl, trivial⟩, .rfl, rfl, .rfl, .rfl, .rfl⟩
      by_cases e : j = k
      · subst e; exact h2
      · exact hk.2 j (by omega)
  · conv => whnf
    simp only [decide_eq_false_iff_not] at h
    have ea : attrAt c.attrs s = c.attrs.length := firstI_none fun j hj => hk.2 j (by omega)
    refine ⟨?_, ?_⟩
    · conv => whnf
      rw [attrOf, ea, if_neg (by omega)]
      exact PSub.agg ⟨.rfl, .rfl, .rfl, .rfl, PSub.nil_ro _ _, PSub.lit_sb rfl, PSub.lit_sb rfl, trivial⟩
    · conv => whnf
      exact PSub.lit_sb (by rw [ea]; simp)

/-- R21.Place -/
def placeI (l : List Attr) (s : ByteArray) : Int := if attrAt l s < l.length then (attrAt l s : Int) else -1

theorem ac89 (c : Clu) (s : ByteArray) (hc : smallK c) : AC Tryd.prog 89 [.pv (.agg (cClu c)), .pv (vstr s)] [] (.pv (vint (placeI c.attrs s))) [] := by
  have hl : c.attrs.length ≤ 1048576 := hc.1
  refine AC.of_awp (T := T) T_ok hm Tryd.call89 Tryd.func89 rfl rfl rfl ?_
  conv => whnf
  refine ⟨Nat, fun k => k ≤ c.attrs.length ∧ ∀ j, j < k → decide ((c.attrs.getD j default).name = s) = false, fun k => ⟨[(1, .pv (vstr s)), (2, .ptr 2 0), (8, .pv (vint c.attrs.length)), (9, .pv (vint k))], [(2, .pbox (cClu c))]⟩, fun k => c.attrs.length - k, 0, [], ⟨Nat.zero_le _, fun j h => absurd h (by omega)⟩, ⟨⟨PSubs.rfl, trivial⟩, .rfl, rfl, .rfl, .rfl⟩, fun k hk => ?_⟩
  conv => whnf
  refine ⟨fun h => ?_, fun h => ?_⟩
  · simp only [decide_eq_true_eq] at h
    conv => whnf
    refine ⟨by omega, ?_⟩
    conv => whnf
    refine ⟨fun h2 => ?_, fun h2 => ?_⟩
    · conv => whnf
      have ea : attrAt c.attrs s = k := firstI_at (by omega) h2 hk.2
      exact PSub.int (by rw [placeI, ea, if_pos (by omega)])
    · conv => whnf
      refine .inl ⟨wrap64 (by omega), ?_⟩
      conv => whnf
      refine ⟨k + 1, [], ⟨by omega, fun j hj => ?_⟩, by dsimp only; omega, ⟨PSubs.rfl, trivial⟩, .rfl, rfl, .rfl, .rfl⟩
      by_cases e : j = k
      · subst e; exact h2
      · exact hk.2 j (by omega)
  · conv => whnf
    simp only [decide_eq_false_iff_not] at h
    have ea : attrAt c.attrs s = c.attrs.length := firstI_none fun j hj => hk.2 j (by omega)
    exact PSub.int (by rw [placeI, ea, if_neg (by omega)])

theorem ac59 (c : Clu) (s : ByteArray) (hc : smallK c) : AC Tryd.prog 59 [.pv (.agg (cClu c)), .pv (vstr s)] [] (.pv (.tup [.agg (cAttr (attrOf c.attrs s)), vbool (decide (attrAt c.attrs s < c.attrs.length))])) [] := by
  refine AC.of_awp (T := T) T_ok hm Tryd.call59 Tryd.func59 rfl rfl rfl ?_
  conv => whnf
  refine .inl ⟨_, ac89 c s hc, ?_⟩
  conv => whnf
  have hp : placeI c.attrs s < 0 ↔ ¬ attrAt c.attrs s < c.attrs.length := by unfold placeI; split <;> omega
  refine ⟨fun h => ?_, fun h => ?_⟩
  · conv => whnf
    simp only [decide_eq_true_eq] at h
    have h := hp.1 h
    refine ⟨?_, ?_⟩
    · conv => whnf
      rw [attrOf, if_neg h]
      exact PSub.agg ⟨.rfl, .rfl, .rfl, .rfl, PSub.nil_ro _ _, PSub.lit_sb rfl, PSub.lit_sb rfl, trivial⟩
    · conv => whnf
      exact PSub.lit_sb (by simp [h])
  · simp only [decide_eq_false_iff_not] at h
    have h : attrAt c.attrs s < c.attrs.length := Classical.not_not.1 fun x => h (hp.2 x)
    have e : placeI c.attrs s = (attrAt c.attrs s : Int) := by rw [placeI, if_pos h]
    rw [e]
    conv => whnf
    refine ⟨by omega, ?_⟩
    conv => whnf
    refine ⟨?_, ?_⟩
    · conv => whnf
      exact PSub.of_eq (by rw [attrOf, if_pos h]; rfl)
    · conv => whnf
      exact PSub.lit_sb (by simp [h])

def manyE (l : List Cmd) : Bool := (List.range l.length).any fun i => decide (12 < (l.getD i default).effects.length)

theorem manyE_true {l : List Cmd} {k : Nat} (hk : k < l.length) (h : 12 < (l.getD k default).effects.length) : manyE l = true := by
  simp only [manyE, List.any_eq_true, List.mem_range, decide_eq_true_eq]
  exact ⟨k, hk, h⟩

theorem manyE_false {l : List Cmd} (h : ∀ j, j < l.length → ¬ 12 < (l.getD j default).effects.length) : manyE l = false := by
  rw [← Bool.not_eq_true]
  simp only [manyE, List.any_eq_true, List.mem_range, decide_eq_true_eq]
  rintro ⟨j, hj, e⟩
  exact h j hj e

/-- cluster.wide -/
def wideB (c : Clu) : Bool := decide (12 < c.attrs.length) || decide (12 < c.commands.length) || decide (12 < c.events.length) || manyE c.commands

theorem ac104 (c : Clu) (hc : smallK c) : AC Tryd.prog 104 [.pv (.agg (cClu c))] [] (.pv (vbool (wideB c))) [] := by
  have hl : c.commands.length ≤ 1048576 := hc.2.2.1
  refine AC.of_awp (T := T) T_ok hm Tryd.call104 Tryd.func104 rfl rfl rfl ?_
  conv => whnf
  refine ⟨fun h => ?_, fun h => ?_⟩
  · conv => whnf
    simp only [decide_eq_true_eq] at h
    exact PSub.lit_sb (by simp [wideB, show 12 < c.attrs.length from by omega])
  conv => whnf
  refine ⟨fun h1 => ?_, fun h1 => ?_⟩
  · conv => whnf
    simp only [decide_eq_true_eq] at h1
    exact PSub.lit_sb (by simp [wideB, show 12 < c.commands.length from by omega])
  conv => whnf
  refine ⟨fun h2 => ?_, fun h2 => ?_⟩
  · conv => whnf
    simp only [decide_eq_true_eq] at h2
    exact PSub.lit_sb (by simp [wideB, show 12 < c.events.length from by omega])
  conv => whnf
  simp only [decide_eq_false_iff_not] at h h1 h2
  have e0 : wideB c = manyE c.commands := by simp [wideB, show ¬ 12 < c.attrs.length from by omega, show ¬ 12 < c.commands.length from by omega, show ¬ 12 < c.events.length from by omega]
  rw [e0]
  refine ⟨Nat, fun k => k ≤ c.commands.length ∧ ∀ j, j < k → ¬ 12 < (c.commands.getD j default).effects.length, fun k => ⟨[(1, .ptr 1 0), (22, .pv (vint c.commands.length)), (23, .pv (vint k))], [(1, .pbox (cClu c))]⟩, fun k => c.commands.length - k, 0, [], ⟨Nat.zero_le _, fun j h => absurd h (by omega)⟩, ⟨⟨PSubs.rfl, trivial⟩, rfl, .rfl, .rfl⟩, fun k hk => ?_⟩
  conv => whnf
  refine ⟨fun h => ?_, fun h => ?_⟩
  · simp only [decide_eq_true_eq] at h
    conv => whnf
    refine ⟨by omega, ?_⟩
    conv => whnf
    refine ⟨fun h2 => ?_, fun h2 => ?_⟩
    · conv => whnf
      simp only [decide_eq_true_eq, Int.toNat_natCast] at h2
      exact PSub.lit_sb (manyE_true (k := k) (by omega) (by omega)).symm
    · conv => whnf
      simp only [decide_eq_false_iff_not, Int.toNat_natCast] at h2
      refine .inl ⟨wrap64 (by omega), ?_⟩
      conv => whnf
      refine ⟨k + 1, [], ⟨by omega, fun j hj => ?_⟩, by dsimp only; omega, ⟨PSubs.rfl, trivial⟩, rfl, .rfl, .rfl⟩
      by_cases e : j = k
      · subst e; omega
      · exact hk.2 j (by omega)
  · conv => whnf
    simp only [decide_eq_false_iff_not] at h
    exact PSub.lit_sb (manyE_false fun j hj => hk.2 j (by omega)).symm

theorem ac101 (c : Clu) (hc : smallK c) : AC Tryd.prog 101 [.pv (.agg (cClu c))] [] (.pv (vbool (wideB c))) [] := by
  have hl : c.commands.length ≤ 1048576 := hc.2.2.1
  refine AC.of_awp (T := T) T_ok hm Tryd.call101 Tryd.func101 rfl rfl rfl ?_
  conv => whnf
  refine ⟨Nat, fun k => k ≤ c.commands.length ∧ ∀ j, j < k → ¬ 12 < (c.commands.getD j default).effects.length, fun k => ⟨[(1, .ptr 1 0), (6, .pv (roL 9 cCmd c.commands)), (7, .pv (vint c.commands.length)), (8, .pv (vint k))], [(1, .pbox (cClu c))]⟩, fun k => c.commands.length - k, 0, [], ⟨Nat.zero_le _, fun j h => absurd h (by omega)⟩, ⟨⟨PSubs.rfl, trivial⟩, rfl, .rfl, .rfl, .rfl⟩, fun k hk => ?_⟩
  conv => whnf
  refine ⟨fun h => ?_, fun h => ?_⟩
  · simp only [decide_eq_true_eq] at h
    conv => whnf
    refine ⟨by omega, ?_⟩
    conv => whnf
    refine ⟨fun h2 => ?_, fun h2 => ?_⟩
    · conv => whnf
      simp only [decide_eq_true_eq, Int.toNat_natCast] at h2
      exact PSub.lit_sb (by rw [wideB, manyE_true (k := k) (by omega) (by omega)]; simp)
    · conv => whnf
      simp only [decide_eq_false_iff_not, Int.toNat_natCast] at h2
      refine .inl ⟨wrap64 (by omega), ?_⟩
      conv => whnf
      refine ⟨k + 1, [], ⟨by omega, fun j hj => ?_⟩, by dsimp only; omega, ⟨PSubs.rfl, trivial⟩, rfl, .rfl, .rfl, .rfl⟩
      by_cases e : j = k
      · subst e; omega
      · exact hk.2 j (by omega)
  · simp only [decide_eq_false_iff_not] at h
    have em : manyE c.commands = false := manyE_false fun j hj => hk.2 j (by omega)
    have e0 : wideB c = (decide (12 < c.attrs.length) || decide (12 < c.commands.length) || decide (12 < c.events.length)) := by rw [wideB, em]; simp
    rw [e0]
    conv => whnf
    iterate 3 (all_goals first | (refine ⟨fun h => ?_, fun h => ?_⟩ <;> (conv => whnf)) | skip)
    all_goals simp only [decide_eq_true_eq, decide_eq_false_iff_not] at *
    all_goals first
      | exact PSub.lit_sb (by symm; simp; omega)
      | exact PSub.sb (by rw [Bool.eq_iff_iff]; simp; omega)
      | trace_state

end Go.Abs

namespace Go.Abs
open Go.Proofs
set_option maxRecDepth 10000

theorem list_eq {α : Type} [Inhabited α] {a b : List α} (hl : a.length = b.length) (h : ∀ i, i < a.length → a.getD i default = b.getD i default) : a = b := by
  apply List.ext_getElem hl
  intro i h1 h2
  have := h i h1
  simpa [List.getD, h1, h2] using this

theorem ac142 (a b : List ByteArray) (ha : a.length ≤ 1048576) : AC Tryd.prog 142 [.pv (roL 1 cstr a), .pv (roL 1 cstr b)] [] (.pv (vbool (decide (a = b)))) [] := by
  refine AC.of_awp (T := T) T_ok hm Tryd.call142 Tryd.func142 rfl rfl rfl ?_
  conv => whnf
  refine ⟨fun h => ?_, fun h => ?_⟩
  · conv => whnf
    simp only [Bool.not_eq_true', decide_eq_false_iff_not] at h
    exact PSub.lit_sb (by symm; simp only [decide_eq_false_iff_not]; intro e; exact h (by rw [e]))
  conv => whnf
  simp only [Bool.not_eq_false', decide_eq_true_eq] at h
  refine ⟨Nat, fun k => k ≤ a.length ∧ ∀ j, j < k → a.getD j default = b.getD j default, fun k => ⟨[(0, .pv (roL 1 cstr a)), (1, .pv (roL 1 cstr b)), (12, .pv (vint a.length)), (13, .pv (vint k))], []⟩, fun k => a.length - k, 0, [], ⟨Nat.zero_le _, fun j h => absurd h (by omega)⟩, ⟨.rfl, .rfl, .rfl, .rfl⟩, fun k hk => ?_⟩
  conv => whnf
  refine ⟨fun h2 => ?_, fun h2 => ?_⟩
  · simp only [decide_eq_true_eq] at h2
    conv => whnf
    refine ⟨by kernel_rfl, ?_⟩
    conv => whnf
    refine ⟨by omega, ?_⟩
    conv => whnf
    refine ⟨by omega, ?_⟩
    conv => whnf
    refine ⟨by kernel_rfl, ?_⟩
    conv => whnf
    refine ⟨fun h3 => ?_, fun h3 => ?_⟩
    · conv => whnf
      simp only [Bool.not_eq_true', decide_eq_false_iff_not] at h3
      exact PSub.lit_sb (by symm; simp only [decide_eq_false_iff_not]; intro e; exact h3 (by rw [e]))
    · conv => whnf
      simp only [Bool.not_eq_false', decide_eq_true_eq, Int.toNat_natCast] at h3
      refine .inl ⟨wrap64 (by omega), ?_⟩
      conv => whnf
      refine ⟨k + 1, [], ⟨by omega, fun j hj => ?_⟩, by dsimp only; omega, .rfl, .rfl, .rfl, .rfl⟩
      by_cases e : j = k
      · subst e; exact h3
      · exact hk.2 j (by omega)
  · conv => whnf
    simp only [decide_eq_false_iff_not] at h2
    exact PSub.lit_sb (by symm; simp only [decide_eq_true_eq]; exact list_eq (by omega) fun i hi => hk.2 i (by omega))

theorem ac138 (a b : List ByteArray) (ha : a.length ≤ 1048576) : AC Tryd.prog 138 [.pv (roL 1 cstr a), .pv (roL 1 cstr b)] [] (.pv (vbool (decide (a = b)))) [] := by
  refine AC.of_awp (T := T) T_ok hm Tryd.call138 Tryd.func138 rfl rfl rfl ?_
  conv => whnf
  refine ⟨fun h => ?_, fun h => ?_⟩
  · conv => whnf
    simp only [Bool.not_eq_true', decide_eq_false_iff_not] at h
    exact PSub.lit_sb (by symm; simp only [decide_eq_false_iff_not]; intro e; exact h (by rw [e]))
  conv => whnf
  simp only [Bool.not_eq_false', decide_eq_true_eq] at h
  refine ⟨Nat, fun k => k ≤ a.length ∧ ∀ j, j < k → a.getD j default = b.getD j default, fun k => ⟨[(0, .pv (roL 1 cstr a)), (1, .pv (roL 1 cstr b)), (12, .pv (vint a.length)), (13, .pv (vint k))], []⟩, fun k => a.length - k, 0, [], ⟨Nat.zero_le _, fun j h => absurd h (by omega)⟩, ⟨.rfl, .rfl, .rfl, .rfl⟩, fun k hk => ?_⟩
  conv => whnf
  refine ⟨fun h2 => ?_, fun h2 => ?_⟩
  · simp only [decide_eq_true_eq] at h2
    conv => whnf
    refine ⟨by kernel_rfl, ?_⟩
    conv => whnf
    refine ⟨by omega, ?_⟩
    conv => whnf
    refine ⟨by omega, ?_⟩
    conv => whnf
    refine ⟨by kernel_rfl, ?_⟩
    conv => whnf
    refine ⟨fun h3 => ?_, fun h3 => ?_⟩
    · conv => whnf
      simp only [Bool.not_eq_true', decide_eq_false_iff_not] at h3
      exact PSub.lit_sb (by symm; simp only [decide_eq_false_iff_not]; intro e; exact h3 (by rw [e]))
    · conv => whnf
      simp only [Bool.not_eq_false', decide_eq_true_eq, Int.toNat_natCast] at h3
      refine .inl ⟨wrap64 (by omega), ?_⟩
      conv => whnf
      refine ⟨k + 1, [], ⟨by omega, fun j hj => ?_⟩, by dsimp only; omega, .rfl, .rfl, .rfl, .rfl⟩
      by_cases e : j = k
      · subst e; exact h3
      · exact hk.2 j (by omega)
  · conv => whnf
    simp only [decide_eq_false_iff_not] at h2
    exact PSub.lit_sb (by symm; simp only [decide_eq_true_eq]; exact list_eq (by omega) fun i hi => hk.2 i (by omega))

theorem ac60 (a b : List ByteArray) (ha : a.length ≤ 1048576) : AC Tryd.prog 60 [.pv (roL 1 cstr a), .pv (roL 1 cstr b)] [] (.pv (vbool (decide (a = b)))) [] := by
  refine AC.of_awp (T := T) T_ok hm Tryd.call60 Tryd.func60 rfl rfl rfl ?_
  conv => whnf
  refine ⟨fun h => ?_, fun h => ?_⟩
  · conv => whnf
    simp only [Bool.not_eq_true', decide_eq_false_iff_not] at h
    exact PSub.lit_sb (by symm; simp only [decide_eq_false_iff_not]; intro e; exact h (by rw [e]))
  conv => whnf
  simp only [Bool.not_eq_false', decide_eq_true_eq] at h
  refine ⟨Nat, fun k => k ≤ a.length ∧ ∀ j, j < k → a.getD j default = b.getD j default, fun k => ⟨[(0, .pv (roL 1 cstr a)), (1, .pv (roL 1 cstr b)), (5, .pv (vint k))], []⟩, fun k => a.length - k, 0, [], ⟨Nat.zero_le _, fun j h => absurd h (by omega)⟩, ⟨.rfl, .rfl, .rfl⟩, fun k hk => ?_⟩
  conv => whnf
  refine ⟨fun h2 => ?_, fun h2 => ?_⟩
  · simp only [decide_eq_true_eq] at h2
    conv => whnf
    refine ⟨by kernel_rfl, ?_⟩
    conv => whnf
    refine ⟨by omega, ?_⟩
    conv => whnf
    refine ⟨by omega, ?_⟩
    conv => whnf
    refine ⟨by kernel_rfl, ?_⟩
    conv => whnf
    refine ⟨fun h3 => ?_, fun h3 => ?_⟩
    · conv => whnf
      simp only [Bool.not_eq_true', decide_eq_false_iff_not] at h3
      exact PSub.lit_sb (by symm; simp only [decide_eq_false_iff_not]; intro e; exact h3 (by rw [e]))
    · conv => whnf
      simp only [Bool.not_eq_false', decide_eq_true_eq, Int.toNat_natCast] at h3
      refine .inl ⟨wrap64 (by omega), ?_⟩
      conv => whnf
      refine ⟨k + 1, [], ⟨by omega, fun j hj => ?_⟩, by dsimp only; omega, .rfl, .rfl, .rfl⟩
      by_cases e : j = k
      · subst e; exact h3
      · exact hk.2 j (by omega)
  · conv => whnf
    simp only [decide_eq_false_iff_not] at h2
    exact PSub.lit_sb (by symm; simp only [decide_eq_true_eq]; exact list_eq (by omega) fun i hi => hk.2 i (by omega))

theorem ac103 (l : List ByteArray) (n : Nat) (x : ByteArray) (hl : l.length ≤ 1048576) : AC Tryd.prog 103 [.pv (roL 1 cstr l), .pv (vstr x)] [] (.pv (vbool (decide (0 ≤ idxOf l x)))) [] := by
  refine AC.of_awp (T := T) T_ok hm Tryd.call103 Tryd.func103 rfl rfl rfl ?_
  conv => whnf
  refine .inl ⟨_, ac86 l x hl, ?_⟩
  conv => whnf
  exact PSub.rfl

end Go.Abs

namespace Go.Abs
open Go.Proofs
set_option maxRecDepth 10000

def idxN (l : List ByteArray) (n : Nat) (x : ByteArray) : Int := if firstI n (fun i => decide (l.getD i default = x)) < n then (firstI n (fun i => decide (l.getD i default = x)) : Int) else -1

theorem ac86n (l : List ByteArray) (n : Nat) (x : ByteArray) (hl : n ≤ 1048576) : AC Tryd.prog 86 [.pv (.ro 1 n fun i => cstr (l.getD i default)), .pv (vstr x)] [] (.pv (vint (idxN l n x))) [] := by
  refine AC.of_awp (T := T) T_ok hm Tryd.call86 Tryd.func86 rfl rfl rfl ?_
  conv => whnf
  refine ⟨Nat, fun k => k ≤ n ∧ ∀ j, j < k → decide (l.getD j default = x) = false, fun k => ⟨[(0, .pv (.ro 1 n fun i => cstr (l.getD i default))), (1, .pv (vstr x)), (7, .pv (vint n)), (8, .pv (vint k))], []⟩, fun k => n - k, 0, [], ⟨Nat.zero_le _, fun j h => absurd h (by omega)⟩, ⟨.rfl, .rfl, .rfl, .rfl⟩, fun k hk => ?_⟩
  conv => whnf
  refine ⟨fun h => ?_, fun h => ?_⟩
  · simp only [decide_eq_true_eq] at h
    refine ⟨by omega, ?_⟩
    conv => whnf
    refine ⟨fun h2 => ?_, fun h2 => ?_⟩
    · conv => whnf
      simp only [decide_eq_true_eq, Int.toNat_natCast] at h2
      have e : firstI n (fun i => decide (l.getD i default = x)) = k := firstI_at (by omega) (by simpa using h2.symm) hk.2
      exact PSub.int (by rw [idxN, e, if_pos (by omega)])
    · conv => whnf
      refine .inl ⟨wrap64 (by omega), ?_⟩
      conv => whnf
      simp only [decide_eq_false_iff_not, Int.toNat_natCast] at h2
      refine ⟨k + 1, [], ⟨by omega, fun j hj => ?_⟩, by dsimp only; omega, .rfl, .rfl, .rfl, .rfl⟩
      by_cases e : j = k
      · subst e; simpa using fun e => h2 e.symm
      · exact hk.2 j (by omega)
  · conv => whnf
    simp only [decide_eq_false_iff_not] at h
    have e : firstI n (fun i => decide (l.getD i default = x)) = n := firstI_none fun j hj => hk.2 j (by omega)
    exact PSub.int (by rw [idxN, e, if_neg (by omega)])

theorem idxN_mem {l : List ByteArray} {n : Nat} {x : ByteArray} : decide (0 ≤ idxN l n x) = memN l n x := by
  by_cases h : ∃ j, j < n ∧ l.getD j default = x
  · obtain ⟨j, hj, e⟩ := h
    rw [memN_true hj e]
    unfold idxN
    split
    · simp
    · rename_i hn
      exfalso
      have hnone : (List.range n).find? (fun i => decide (l.getD i default = x)) = none := by
        cases hf : (List.range n).find? (fun i => decide (l.getD i default = x)) with
        | none => rfl
        | some i =>
          exfalso
          apply hn
          simp only [firstI, hf]
          have := List.mem_of_find?_eq_some hf
          simpa using this
      rw [List.find?_eq_none] at hnone
      exact hnone j (by simpa using hj) (by simpa using e)
  · rw [memN_false fun j hj e => h ⟨j, hj, e⟩]
    have e : firstI n (fun i => decide (l.getD i default = x)) = n := firstI_none fun j hj => by simpa using fun e => h ⟨j, hj, e⟩
    unfold idxN
    rw [e, if_neg (by omega)]
    simp

theorem ac103n (l : List ByteArray) (n : Nat) (x : ByteArray) (hl : n ≤ 1048576) : AC Tryd.prog 103 [.pv (.ro 1 n fun i => cstr (l.getD i default)), .pv (vstr x)] [] (.pv (vbool (memN l n x))) [] := by
  refine AC.of_awp (T := T) T_ok hm Tryd.call103 Tryd.func103 rfl rfl rfl ?_
  conv => whnf
  refine .inl ⟨_, ac86n l n x hl, ?_⟩
  conv => whnf
  exact PSub.sb idxN_mem

end Go.Abs

namespace Go.Abs
open Go.Proofs
set_option maxRecDepth 10000

def alikeB (a b : Attr) : Bool := decide (a.kind = b.kind) && decide (a.enum = b.enum)

theorem ac141 (a b : Attr) (ha : smallA a) : AC Tryd.prog 141 [.pv (.agg (cAttr a)), .pv (.agg (cAttr b))] [] (.pv (vbool (alikeB a b))) [] := by
  refine AC.of_awp (T := T) T_ok hm Tryd.call141 Tryd.func141 rfl rfl rfl ?_
  conv => whnf
  refine ⟨fun h => ?_, fun h => ?_⟩
  · conv => whnf
    refine .inl ⟨_, ac142 a.enum b.enum ha, ?_⟩
    conv => whnf
    exact PSub.sb (by simp [alikeB, h])
  · conv => whnf
    exact PSub.lit_sb (by simp [alikeB, h])

end Go.Abs
