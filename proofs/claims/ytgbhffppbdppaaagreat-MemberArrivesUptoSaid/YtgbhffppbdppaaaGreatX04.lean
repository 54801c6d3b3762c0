/- YtgbhffppbdppaaaGreatX04: walks and contracts. -/
import Derived.Test.YtgbhffppbdppaaaGreatX03
import Derived.Test.YtgbhffppbdppaaaGreatProg
import Derived.KernelRfl
import Derived.Laws.RangeString
import Derived.Test.YtgbhffppbdppaaaGreatRows
import Derived.WalkKit
import Derived.ProofKit
import Derived.OpenShut
import Derived.JoinedCond

set_option linter.unusedVariables false
set_option linter.unusedSimpArgs false
set_option linter.unusedSectionVars false

namespace Go.Abs
open Go.Proofs
instance : Globals := ⟨fun g => none⟩
theorem eqt31 (e : Nat) : EqAt Tryz.prog (e + 2) 31 [.int .i64, .str, .str] := EqAt.struct Tryz.underlying31 (by kernel_rfl) (.one 0 _ _ (.int .i64) _ (by decide) rfl Tryz.underlying3 (.one 1 _ _ (.str) _ (by decide) rfl Tryz.underlying9 (.one 2 _ _ (.str) _ (by decide) rfl Tryz.underlying9 (.nil _))))
theorem eqt32 (e : Nat) : EqAt Tryz.prog (e + 2) 32 [.int .i64, .str, .str] := EqAt.struct Tryz.underlying32 (by kernel_rfl) (.one 0 _ _ (.int .i64) _ (by decide) rfl Tryz.underlying3 (.one 1 _ _ (.str) _ (by decide) rfl Tryz.underlying9 (.one 2 _ _ (.str) _ (by decide) rfl Tryz.underlying9 (.nil _))))
theorem eqt33 (e : Nat) : EqAt Tryz.prog (e + 2) 33 [.int .i64, .int .i64, .str] := EqAt.struct Tryz.underlying33 (by kernel_rfl) (.one 0 _ _ (.int .i64) _ (by decide) rfl Tryz.underlying3 (.one 1 _ _ (.int .i64) _ (by decide) rfl Tryz.underlying3 (.one 2 _ _ (.str) _ (by decide) rfl Tryz.underlying9 (.nil _))))
theorem eqt34 (e : Nat) : EqAt Tryz.prog (e + 2) 34 [.int .i64, .int .i64, .str] := EqAt.struct Tryz.underlying34 (by kernel_rfl) (.one 0 _ _ (.int .i64) _ (by decide) rfl Tryz.underlying3 (.one 1 _ _ (.int .i64) _ (by decide) rfl Tryz.underlying3 (.one 2 _ _ (.str) _ (by decide) rfl Tryz.underlying9 (.nil _))))
theorem eqt35 (e : Nat) : EqAt Tryz.prog (e + 3) 35 [.int .i64, .int .i64, .int .i64, .str, .str, .str, .int .i64, .int .i64, .str, .str] := EqAt.struct Tryz.underlying35 (by kernel_rfl) (.one 0 _ _ (.int .i64) _ (by decide) rfl Tryz.underlying3 (.one 1 _ _ (.int .i64) _ (by decide) rfl Tryz.underlying3 (.many 2 _ _ [.int .i64, .str, .str] _ (by decide) rfl Tryz.t32 _ Tryz.underlying32 (by kernel_rfl) rfl (eqt32 e) (.one 5 _ _ (.str) _ (by decide) rfl Tryz.underlying9 (.many 6 _ _ [.int .i64, .int .i64, .str] _ (by decide) rfl Tryz.t34 _ Tryz.underlying34 (by kernel_rfl) rfl (eqt34 e) (.one 9 _ _ (.str) _ (by decide) rfl Tryz.underlying9 (.nil _)))))))
theorem eqt36 (e : Nat) : EqAt Tryz.prog (e + 3) 36 [.int .i64, .int .i64, .int .i64, .str, .str, .str, .int .i64, .int .i64, .str, .str] := EqAt.struct Tryz.underlying36 (by kernel_rfl) (.one 0 _ _ (.int .i64) _ (by decide) rfl Tryz.underlying3 (.one 1 _ _ (.int .i64) _ (by decide) rfl Tryz.underlying3 (.many 2 _ _ [.int .i64, .str, .str] _ (by decide) rfl Tryz.t32 _ Tryz.underlying32 (by kernel_rfl) rfl (eqt32 e) (.one 5 _ _ (.str) _ (by decide) rfl Tryz.underlying9 (.many 6 _ _ [.int .i64, .int .i64, .str] _ (by decide) rfl Tryz.t34 _ Tryz.underlying34 (by kernel_rfl) rfl (eqt34 e) (.one 9 _ _ (.str) _ (by decide) rfl Tryz.underlying9 (.nil _)))))))
theorem eqt37 (e : Nat) : EqAt Tryz.prog (e + 4) 37 [.str, .int .i64, .int .i64, .int .i64, .int .i64, .str, .str, .str, .int .i64, .int .i64, .str, .str, .bool] := EqAt.struct Tryz.underlying37 (by kernel_rfl) (.one 0 _ _ (.str) _ (by decide) rfl Tryz.underlying9 (.one 1 _ _ (.int .i64) _ (by decide) rfl Tryz.underlying3 (.many 2 _ _ [.int .i64, .int .i64, .int .i64, .str, .str, .str, .int .i64, .int .i64, .str, .str] _ (by decide) rfl Tryz.t36 _ Tryz.underlying36 (by kernel_rfl) rfl (eqt36 e) (.one 12 _ _ (.bool) _ (by decide) rfl Tryz.underlying4 (.nil _)))))
theorem eqt38 (e : Nat) : EqAt Tryz.prog (e + 4) 38 [.str, .int .i64, .int .i64, .int .i64, .int .i64, .str, .str, .str, .int .i64, .int .i64, .str, .str, .bool] := EqAt.struct Tryz.underlying38 (by kernel_rfl) (.one 0 _ _ (.str) _ (by decide) rfl Tryz.underlying9 (.one 1 _ _ (.int .i64) _ (by decide) rfl Tryz.underlying3 (.many 2 _ _ [.int .i64, .int .i64, .int .i64, .str, .str, .str, .int .i64, .int .i64, .str, .str] _ (by decide) rfl Tryz.t36 _ Tryz.underlying36 (by kernel_rfl) rfl (eqt36 e) (.one 12 _ _ (.bool) _ (by decide) rfl Tryz.underlying4 (.nil _)))))
theorem eqt70 (e : Nat) : EqAt Tryz.prog (e + 2) 70 [.int .i64, .int .i64] := EqAt.struct Tryz.underlying70 (by kernel_rfl) (.one 0 _ _ (.int .i64) _ (by decide) rfl Tryz.underlying3 (.one 1 _ _ (.int .i64) _ (by decide) rfl Tryz.underlying3 (.nil _)))
theorem eqt71 (e : Nat) : EqAt Tryz.prog (e + 2) 71 [.int .i64, .int .i64] := EqAt.struct Tryz.underlying71 (by kernel_rfl) (.one 0 _ _ (.int .i64) _ (by decide) rfl Tryz.underlying3 (.one 1 _ _ (.int .i64) _ (by decide) rfl Tryz.underlying3 (.nil _)))
theorem eqt172 (e : Nat) : EqAt Tryz.prog (e + 2) 172 [.int .i64, .str, .int .i64] := EqAt.struct Tryz.underlying172 (by kernel_rfl) (.one 0 _ _ (.int .i64) _ (by decide) rfl Tryz.underlying3 (.one 1 _ _ (.str) _ (by decide) rfl Tryz.underlying9 (.one 2 _ _ (.int .i64) _ (by decide) rfl Tryz.underlying3 (.nil _))))
theorem eqt173 (e : Nat) : EqAt Tryz.prog (e + 2) 173 [.int .i64, .str, .int .i64] := EqAt.struct Tryz.underlying173 (by kernel_rfl) (.one 0 _ _ (.int .i64) _ (by decide) rfl Tryz.underlying3 (.one 1 _ _ (.str) _ (by decide) rfl Tryz.underlying9 (.one 2 _ _ (.int .i64) _ (by decide) rfl Tryz.underlying3 (.nil _))))
def TYok (t : Nat) (ty : TY) : Prop := Tryz.prog.info? t = some ty.info ∧ Tryz.prog.underlying t = some ty.und ∧ (ty.leaves = [] ∨ EqOK Tryz.prog t ty.leaves)
noncomputable abbrev ty0 : TY := ⟨Tryz.t0, Tryz.t0.desc, []⟩
theorem ok0 : TYok 0 ty0 := ⟨by kernel_rfl, by kernel_rfl, .inl rfl⟩
noncomputable abbrev ty1 : TY := ⟨Tryz.t1, Tryz.t1.desc, []⟩
theorem ok1 : TYok 1 ty1 := ⟨by kernel_rfl, by kernel_rfl, .inl rfl⟩
noncomputable abbrev ty2 : TY := ⟨Tryz.t2, Tryz.t2.desc, []⟩
theorem ok2 : TYok 2 ty2 := ⟨by kernel_rfl, by kernel_rfl, .inl rfl⟩
noncomputable abbrev ty3 : TY := ⟨Tryz.t3, Tryz.t3.desc, []⟩
theorem ok3 : TYok 3 ty3 := ⟨by kernel_rfl, by kernel_rfl, .inl rfl⟩
noncomputable abbrev ty4 : TY := ⟨Tryz.t4, Tryz.t4.desc, []⟩
theorem ok4 : TYok 4 ty4 := ⟨by kernel_rfl, by kernel_rfl, .inl rfl⟩
noncomputable abbrev ty5 : TY := ⟨Tryz.t5, Tryz.t5.desc, []⟩
theorem ok5 : TYok 5 ty5 := ⟨by kernel_rfl, by kernel_rfl, .inl rfl⟩
noncomputable abbrev ty6 : TY := ⟨Tryz.t6, Tryz.t5.desc, []⟩
theorem ok6 : TYok 6 ty6 := ⟨by kernel_rfl, by kernel_rfl, .inl rfl⟩
noncomputable abbrev ty7 : TY := ⟨Tryz.t7, Tryz.t7.desc, []⟩
theorem ok7 : TYok 7 ty7 := ⟨by kernel_rfl, by kernel_rfl, .inl rfl⟩
noncomputable abbrev ty8 : TY := ⟨Tryz.t8, Tryz.t7.desc, []⟩
theorem ok8 : TYok 8 ty8 := ⟨by kernel_rfl, by kernel_rfl, .inl rfl⟩
noncomputable abbrev ty9 : TY := ⟨Tryz.t9, Tryz.t9.desc, []⟩
theorem ok9 : TYok 9 ty9 := ⟨by kernel_rfl, by kernel_rfl, .inl rfl⟩
noncomputable abbrev ty10 : TY := ⟨Tryz.t10, Tryz.t9.desc, []⟩
theorem ok10 : TYok 10 ty10 := ⟨by kernel_rfl, by kernel_rfl, .inl rfl⟩
noncomputable abbrev ty11 : TY := ⟨Tryz.t11, Tryz.t9.desc, []⟩
theorem ok11 : TYok 11 ty11 := ⟨by kernel_rfl, by kernel_rfl, .inl rfl⟩
noncomputable abbrev ty12 : TY := ⟨Tryz.t12, Tryz.t12.desc, []⟩
theorem ok12 : TYok 12 ty12 := ⟨by kernel_rfl, by kernel_rfl, .inl rfl⟩
noncomputable abbrev ty13 : TY := ⟨Tryz.t13, Tryz.t13.desc, []⟩
theorem ok13 : TYok 13 ty13 := ⟨by kernel_rfl, by kernel_rfl, .inl rfl⟩
noncomputable abbrev ty14 : TY := ⟨Tryz.t14, Tryz.t13.desc, []⟩
theorem ok14 : TYok 14 ty14 := ⟨by kernel_rfl, by kernel_rfl, .inl rfl⟩
noncomputable abbrev ty15 : TY := ⟨Tryz.t15, Tryz.t15.desc, []⟩
theorem ok15 : TYok 15 ty15 := ⟨by kernel_rfl, by kernel_rfl, .inl rfl⟩
noncomputable abbrev ty16 : TY := ⟨Tryz.t16, Tryz.t16.desc, []⟩
theorem ok16 : TYok 16 ty16 := ⟨by kernel_rfl, by kernel_rfl, .inl rfl⟩
noncomputable abbrev ty17 : TY := ⟨Tryz.t17, Tryz.t17.desc, []⟩
theorem ok17 : TYok 17 ty17 := ⟨by kernel_rfl, by kernel_rfl, .inl rfl⟩
noncomputable abbrev ty18 : TY := ⟨Tryz.t18, Tryz.t18.desc, []⟩
theorem ok18 : TYok 18 ty18 := ⟨by kernel_rfl, by kernel_rfl, .inl rfl⟩
noncomputable abbrev ty19 : TY := ⟨Tryz.t19, Tryz.t18.desc, []⟩
theorem ok19 : TYok 19 ty19 := ⟨by kernel_rfl, by kernel_rfl, .inl rfl⟩
noncomputable abbrev ty20 : TY := ⟨Tryz.t20, Tryz.t20.desc, []⟩
theorem ok20 : TYok 20 ty20 := ⟨by kernel_rfl, by kernel_rfl, .inl rfl⟩
noncomputable abbrev ty21 : TY := ⟨Tryz.t21, Tryz.t21.desc, []⟩
theorem ok21 : TYok 21 ty21 := ⟨by kernel_rfl, by kernel_rfl, .inl rfl⟩
noncomputable abbrev ty22 : TY := ⟨Tryz.t22, Tryz.t22.desc, []⟩
theorem ok22 : TYok 22 ty22 := ⟨by kernel_rfl, by kernel_rfl, .inl rfl⟩
noncomputable abbrev ty23 : TY := ⟨Tryz.t23, Tryz.t23.desc, []⟩
theorem ok23 : TYok 23 ty23 := ⟨by kernel_rfl, by kernel_rfl, .inl rfl⟩
noncomputable abbrev ty24 : TY := ⟨Tryz.t24, Tryz.t24.desc, []⟩
theorem ok24 : TYok 24 ty24 := ⟨by kernel_rfl, by kernel_rfl, .inl rfl⟩
noncomputable abbrev ty25 : TY := ⟨Tryz.t25, Tryz.t24.desc, []⟩
theorem ok25 : TYok 25 ty25 := ⟨by kernel_rfl, by kernel_rfl, .inl rfl⟩
noncomputable abbrev ty26 : TY := ⟨Tryz.t26, Tryz.t26.desc, []⟩
theorem ok26 : TYok 26 ty26 := ⟨by kernel_rfl, by kernel_rfl, .inl rfl⟩
noncomputable abbrev ty27 : TY := ⟨Tryz.t27, Tryz.t27.desc, []⟩
theorem ok27 : TYok 27 ty27 := ⟨by kernel_rfl, by kernel_rfl, .inl rfl⟩
noncomputable abbrev ty28 : TY := ⟨Tryz.t28, Tryz.t28.desc, []⟩
theorem ok28 : TYok 28 ty28 := ⟨by kernel_rfl, by kernel_rfl, .inl rfl⟩
noncomputable abbrev ty29 : TY := ⟨Tryz.t29, Tryz.t3.desc, []⟩
theorem ok29 : TYok 29 ty29 := ⟨by kernel_rfl, by kernel_rfl, .inl rfl⟩
noncomputable abbrev ty30 : TY := ⟨Tryz.t30, Tryz.t30.desc, []⟩
theorem ok30 : TYok 30 ty30 := ⟨by kernel_rfl, by kernel_rfl, .inl rfl⟩
noncomputable abbrev ty31 : TY := ⟨Tryz.t31, Tryz.t31.desc, [.int .i64, .str, .str]⟩
theorem ok31 : TYok 31 ty31 := ⟨by kernel_rfl, by kernel_rfl, .inr ⟨by kernel_rfl, eqt31 9998⟩⟩
noncomputable abbrev ty32 : TY := ⟨Tryz.t32, Tryz.t31.desc, [.int .i64, .str, .str]⟩
theorem ok32 : TYok 32 ty32 := ⟨by kernel_rfl, by kernel_rfl, .inr ⟨by kernel_rfl, eqt32 9998⟩⟩
noncomputable abbrev ty33 : TY := ⟨Tryz.t33, Tryz.t33.desc, [.int .i64, .int .i64, .str]⟩
theorem ok33 : TYok 33 ty33 := ⟨by kernel_rfl, by kernel_rfl, .inr ⟨by kernel_rfl, eqt33 9998⟩⟩
noncomputable abbrev ty34 : TY := ⟨Tryz.t34, Tryz.t33.desc, [.int .i64, .int .i64, .str]⟩
theorem ok34 : TYok 34 ty34 := ⟨by kernel_rfl, by kernel_rfl, .inr ⟨by kernel_rfl, eqt34 9998⟩⟩
noncomputable abbrev ty35 : TY := ⟨Tryz.t35, Tryz.t35.desc, [.int .i64, .int .i64, .int .i64, .str, .str, .str, .int .i64, .int .i64, .str, .str]⟩
theorem ok35 : TYok 35 ty35 := ⟨by kernel_rfl, by kernel_rfl, .inr ⟨by kernel_rfl, eqt35 9997⟩⟩
noncomputable abbrev ty36 : TY := ⟨Tryz.t36, Tryz.t35.desc, [.int .i64, .int .i64, .int .i64, .str, .str, .str, .int .i64, .int .i64, .str, .str]⟩
theorem ok36 : TYok 36 ty36 := ⟨by kernel_rfl, by kernel_rfl, .inr ⟨by kernel_rfl, eqt36 9997⟩⟩
noncomputable abbrev ty37 : TY := ⟨Tryz.t37, Tryz.t37.desc, [.str, .int .i64, .int .i64, .int .i64, .int .i64, .str, .str, .str, .int .i64, .int .i64, .str, .str, .bool]⟩
theorem ok37 : TYok 37 ty37 := ⟨by kernel_rfl, by kernel_rfl, .inr ⟨by kernel_rfl, eqt37 9996⟩⟩
noncomputable abbrev ty38 : TY := ⟨Tryz.t38, Tryz.t37.desc, [.str, .int .i64, .int .i64, .int .i64, .int .i64, .str, .str, .str, .int .i64, .int .i64, .str, .str, .bool]⟩
theorem ok38 : TYok 38 ty38 := ⟨by kernel_rfl, by kernel_rfl, .inr ⟨by kernel_rfl, eqt38 9996⟩⟩
noncomputable abbrev ty39 : TY := ⟨Tryz.t39, Tryz.t39.desc, []⟩
theorem ok39 : TYok 39 ty39 := ⟨by kernel_rfl, by kernel_rfl, .inl rfl⟩
noncomputable abbrev ty40 : TY := ⟨Tryz.t40, Tryz.t40.desc, []⟩
theorem ok40 : TYok 40 ty40 := ⟨by kernel_rfl, by kernel_rfl, .inl rfl⟩
noncomputable abbrev ty41 : TY := ⟨Tryz.t41, Tryz.t41.desc, []⟩
theorem ok41 : TYok 41 ty41 := ⟨by kernel_rfl, by kernel_rfl, .inl rfl⟩
noncomputable abbrev ty42 : TY := ⟨Tryz.t42, Tryz.t42.desc, []⟩
theorem ok42 : TYok 42 ty42 := ⟨by kernel_rfl, by kernel_rfl, .inl rfl⟩
noncomputable abbrev ty43 : TY := ⟨Tryz.t43, Tryz.t43.desc, []⟩
theorem ok43 : TYok 43 ty43 := ⟨by kernel_rfl, by kernel_rfl, .inl rfl⟩
noncomputable abbrev ty44 : TY := ⟨Tryz.t44, Tryz.t44.desc, []⟩
theorem ok44 : TYok 44 ty44 := ⟨by kernel_rfl, by kernel_rfl, .inl rfl⟩
noncomputable abbrev ty45 : TY := ⟨Tryz.t45, Tryz.t45.desc, []⟩
theorem ok45 : TYok 45 ty45 := ⟨by kernel_rfl, by kernel_rfl, .inl rfl⟩
noncomputable abbrev ty46 : TY := ⟨Tryz.t46, Tryz.t46.desc, []⟩
theorem ok46 : TYok 46 ty46 := ⟨by kernel_rfl, by kernel_rfl, .inl rfl⟩
noncomputable abbrev ty47 : TY := ⟨Tryz.t47, Tryz.t46.desc, []⟩
theorem ok47 : TYok 47 ty47 := ⟨by kernel_rfl, by kernel_rfl, .inl rfl⟩
noncomputable abbrev ty48 : TY := ⟨Tryz.t48, Tryz.t48.desc, []⟩
theorem ok48 : TYok 48 ty48 := ⟨by kernel_rfl, by kernel_rfl, .inl rfl⟩
noncomputable abbrev ty49 : TY := ⟨Tryz.t49, Tryz.t49.desc, []⟩
theorem ok49 : TYok 49 ty49 := ⟨by kernel_rfl, by kernel_rfl, .inl rfl⟩
noncomputable abbrev ty50 : TY := ⟨Tryz.t50, Tryz.t50.desc, []⟩
theorem ok50 : TYok 50 ty50 := ⟨by kernel_rfl, by kernel_rfl, .inl rfl⟩
noncomputable abbrev ty51 : TY := ⟨Tryz.t51, Tryz.t51.desc, []⟩
theorem ok51 : TYok 51 ty51 := ⟨by kernel_rfl, by kernel_rfl, .inl rfl⟩
noncomputable abbrev ty52 : TY := ⟨Tryz.t52, Tryz.t52.desc, []⟩
theorem ok52 : TYok 52 ty52 := ⟨by kernel_rfl, by kernel_rfl, .inl rfl⟩
noncomputable abbrev ty53 : TY := ⟨Tryz.t53, Tryz.t53.desc, []⟩
theorem ok53 : TYok 53 ty53 := ⟨by kernel_rfl, by kernel_rfl, .inl rfl⟩
noncomputable abbrev ty54 : TY := ⟨Tryz.t54, Tryz.t54.desc, []⟩
theorem ok54 : TYok 54 ty54 := ⟨by kernel_rfl, by kernel_rfl, .inl rfl⟩
noncomputable abbrev ty55 : TY := ⟨Tryz.t55, Tryz.t55.desc, []⟩
theorem ok55 : TYok 55 ty55 := ⟨by kernel_rfl, by kernel_rfl, .inl rfl⟩
noncomputable abbrev ty56 : TY := ⟨Tryz.t56, Tryz.t56.desc, []⟩
theorem ok56 : TYok 56 ty56 := ⟨by kernel_rfl, by kernel_rfl, .inl rfl⟩
noncomputable abbrev ty57 : TY := ⟨Tryz.t57, Tryz.t57.desc, []⟩
theorem ok57 : TYok 57 ty57 := ⟨by kernel_rfl, by kernel_rfl, .inl rfl⟩
noncomputable abbrev ty58 : TY := ⟨Tryz.t58, Tryz.t58.desc, []⟩
theorem ok58 : TYok 58 ty58 := ⟨by kernel_rfl, by kernel_rfl, .inl rfl⟩
noncomputable abbrev ty59 : TY := ⟨Tryz.t59, Tryz.t59.desc, []⟩
theorem ok59 : TYok 59 ty59 := ⟨by kernel_rfl, by kernel_rfl, .inl rfl⟩
noncomputable abbrev ty60 : TY := ⟨Tryz.t60, Tryz.t60.desc, []⟩
theorem ok60 : TYok 60 ty60 := ⟨by kernel_rfl, by kernel_rfl, .inl rfl⟩
noncomputable abbrev ty61 : TY := ⟨Tryz.t61, Tryz.t61.desc, []⟩
theorem ok61 : TYok 61 ty61 := ⟨by kernel_rfl, by kernel_rfl, .inl rfl⟩
noncomputable abbrev ty62 : TY := ⟨Tryz.t62, Tryz.t62.desc, []⟩
theorem ok62 : TYok 62 ty62 := ⟨by kernel_rfl, by kernel_rfl, .inl rfl⟩
noncomputable abbrev ty63 : TY := ⟨Tryz.t63, Tryz.t63.desc, []⟩
theorem ok63 : TYok 63 ty63 := ⟨by kernel_rfl, by kernel_rfl, .inl rfl⟩
noncomputable abbrev ty64 : TY := ⟨Tryz.t64, Tryz.t63.desc, []⟩
theorem ok64 : TYok 64 ty64 := ⟨by kernel_rfl, by kernel_rfl, .inl rfl⟩
noncomputable abbrev ty65 : TY := ⟨Tryz.t65, Tryz.t65.desc, []⟩
theorem ok65 : TYok 65 ty65 := ⟨by kernel_rfl, by kernel_rfl, .inl rfl⟩
noncomputable abbrev ty66 : TY := ⟨Tryz.t66, Tryz.t66.desc, []⟩
theorem ok66 : TYok 66 ty66 := ⟨by kernel_rfl, by kernel_rfl, .inl rfl⟩
noncomputable abbrev ty67 : TY := ⟨Tryz.t67, Tryz.t66.desc, []⟩
theorem ok67 : TYok 67 ty67 := ⟨by kernel_rfl, by kernel_rfl, .inl rfl⟩
noncomputable abbrev ty68 : TY := ⟨Tryz.t68, Tryz.t68.desc, []⟩
theorem ok68 : TYok 68 ty68 := ⟨by kernel_rfl, by kernel_rfl, .inl rfl⟩
noncomputable abbrev ty69 : TY := ⟨Tryz.t69, Tryz.t68.desc, []⟩
theorem ok69 : TYok 69 ty69 := ⟨by kernel_rfl, by kernel_rfl, .inl rfl⟩
noncomputable abbrev ty70 : TY := ⟨Tryz.t70, Tryz.t70.desc, [.int .i64, .int .i64]⟩
theorem ok70 : TYok 70 ty70 := ⟨by kernel_rfl, by kernel_rfl, .inr ⟨by kernel_rfl, eqt70 9998⟩⟩
noncomputable abbrev ty71 : TY := ⟨Tryz.t71, Tryz.t70.desc, [.int .i64, .int .i64]⟩
theorem ok71 : TYok 71 ty71 := ⟨by kernel_rfl, by kernel_rfl, .inr ⟨by kernel_rfl, eqt71 9998⟩⟩
noncomputable abbrev ty72 : TY := ⟨Tryz.t72, Tryz.t72.desc, []⟩
theorem ok72 : TYok 72 ty72 := ⟨by kernel_rfl, by kernel_rfl, .inl rfl⟩
noncomputable abbrev ty73 : TY := ⟨Tryz.t73, Tryz.t73.desc, []⟩
theorem ok73 : TYok 73 ty73 := ⟨by kernel_rfl, by kernel_rfl, .inl rfl⟩
noncomputable abbrev ty74 : TY := ⟨Tryz.t74, Tryz.t74.desc, []⟩
theorem ok74 : TYok 74 ty74 := ⟨by kernel_rfl, by kernel_rfl, .inl rfl⟩
noncomputable abbrev ty75 : TY := ⟨Tryz.t75, Tryz.t75.desc, []⟩
theorem ok75 : TYok 75 ty75 := ⟨by kernel_rfl, by kernel_rfl, .inl rfl⟩
noncomputable abbrev ty76 : TY := ⟨Tryz.t76, Tryz.t76.desc, []⟩
theorem ok76 : TYok 76 ty76 := ⟨by kernel_rfl, by kernel_rfl, .inl rfl⟩
noncomputable abbrev ty77 : TY := ⟨Tryz.t77, Tryz.t77.desc, []⟩
theorem ok77 : TYok 77 ty77 := ⟨by kernel_rfl, by kernel_rfl, .inl rfl⟩
noncomputable abbrev ty78 : TY := ⟨Tryz.t78, Tryz.t78.desc, []⟩
theorem ok78 : TYok 78 ty78 := ⟨by kernel_rfl, by kernel_rfl, .inl rfl⟩
noncomputable abbrev ty79 : TY := ⟨Tryz.t79, Tryz.t79.desc, []⟩
theorem ok79 : TYok 79 ty79 := ⟨by kernel_rfl, by kernel_rfl, .inl rfl⟩
noncomputable abbrev ty80 : TY := ⟨Tryz.t80, Tryz.t80.desc, []⟩
theorem ok80 : TYok 80 ty80 := ⟨by kernel_rfl, by kernel_rfl, .inl rfl⟩
noncomputable abbrev ty81 : TY := ⟨Tryz.t81, Tryz.t81.desc, []⟩
theorem ok81 : TYok 81 ty81 := ⟨by kernel_rfl, by kernel_rfl, .inl rfl⟩
noncomputable abbrev ty82 : TY := ⟨Tryz.t82, Tryz.t82.desc, []⟩
theorem ok82 : TYok 82 ty82 := ⟨by kernel_rfl, by kernel_rfl, .inl rfl⟩
noncomputable abbrev ty83 : TY := ⟨Tryz.t83, Tryz.t83.desc, []⟩
theorem ok83 : TYok 83 ty83 := ⟨by kernel_rfl, by kernel_rfl, .inl rfl⟩
noncomputable abbrev ty84 : TY := ⟨Tryz.t84, Tryz.t84.desc, []⟩
theorem ok84 : TYok 84 ty84 := ⟨by kernel_rfl, by kernel_rfl, .inl rfl⟩
noncomputable abbrev ty85 : TY := ⟨Tryz.t85, Tryz.t85.desc, []⟩
theorem ok85 : TYok 85 ty85 := ⟨by kernel_rfl, by kernel_rfl, .inl rfl⟩
noncomputable abbrev ty86 : TY := ⟨Tryz.t86, Tryz.t86.desc, []⟩
theorem ok86 : TYok 86 ty86 := ⟨by kernel_rfl, by kernel_rfl, .inl rfl⟩
noncomputable abbrev ty87 : TY := ⟨Tryz.t87, Tryz.t87.desc, []⟩
theorem ok87 : TYok 87 ty87 := ⟨by kernel_rfl, by kernel_rfl, .inl rfl⟩
noncomputable abbrev ty88 : TY := ⟨Tryz.t88, Tryz.t88.desc, []⟩
theorem ok88 : TYok 88 ty88 := ⟨by kernel_rfl, by kernel_rfl, .inl rfl⟩
noncomputable abbrev ty89 : TY := ⟨Tryz.t89, Tryz.t89.desc, []⟩
theorem ok89 : TYok 89 ty89 := ⟨by kernel_rfl, by kernel_rfl, .inl rfl⟩
noncomputable abbrev ty90 : TY := ⟨Tryz.t90, Tryz.t90.desc, []⟩
theorem ok90 : TYok 90 ty90 := ⟨by kernel_rfl, by kernel_rfl, .inl rfl⟩
noncomputable abbrev ty91 : TY := ⟨Tryz.t91, Tryz.t91.desc, []⟩
theorem ok91 : TYok 91 ty91 := ⟨by kernel_rfl, by kernel_rfl, .inl rfl⟩
noncomputable abbrev ty92 : TY := ⟨Tryz.t92, Tryz.t92.desc, []⟩
theorem ok92 : TYok 92 ty92 := ⟨by kernel_rfl, by kernel_rfl, .inl rfl⟩
noncomputable abbrev ty93 : TY := ⟨Tryz.t93, Tryz.t93.desc, []⟩
theorem ok93 : TYok 93 ty93 := ⟨by kernel_rfl, by kernel_rfl, .inl rfl⟩
noncomputable abbrev ty94 : TY := ⟨Tryz.t94, Tryz.t94.desc, []⟩
theorem ok94 : TYok 94 ty94 := ⟨by kernel_rfl, by kernel_rfl, .inl rfl⟩
noncomputable abbrev ty95 : TY := ⟨Tryz.t95, Tryz.t95.desc, []⟩
theorem ok95 : TYok 95 ty95 := ⟨by kernel_rfl, by kernel_rfl, .inl rfl⟩
noncomputable abbrev ty96 : TY := ⟨Tryz.t96, Tryz.t96.desc, []⟩
theorem ok96 : TYok 96 ty96 := ⟨by kernel_rfl, by kernel_rfl, .inl rfl⟩
noncomputable abbrev ty97 : TY := ⟨Tryz.t97, Tryz.t97.desc, []⟩
theorem ok97 : TYok 97 ty97 := ⟨by kernel_rfl, by kernel_rfl, .inl rfl⟩
noncomputable abbrev ty98 : TY := ⟨Tryz.t98, Tryz.t98.desc, []⟩
theorem ok98 : TYok 98 ty98 := ⟨by kernel_rfl, by kernel_rfl, .inl rfl⟩
noncomputable abbrev ty99 : TY := ⟨Tryz.t99, Tryz.t99.desc, []⟩
theorem ok99 : TYok 99 ty99 := ⟨by kernel_rfl, by kernel_rfl, .inl rfl⟩
noncomputable abbrev ty100 : TY := ⟨Tryz.t100, Tryz.t100.desc, []⟩
theorem ok100 : TYok 100 ty100 := ⟨by kernel_rfl, by kernel_rfl, .inl rfl⟩
noncomputable abbrev ty101 : TY := ⟨Tryz.t101, Tryz.t101.desc, []⟩
theorem ok101 : TYok 101 ty101 := ⟨by kernel_rfl, by kernel_rfl, .inl rfl⟩
noncomputable abbrev ty102 : TY := ⟨Tryz.t102, Tryz.t102.desc, []⟩
theorem ok102 : TYok 102 ty102 := ⟨by kernel_rfl, by kernel_rfl, .inl rfl⟩
noncomputable abbrev ty103 : TY := ⟨Tryz.t103, Tryz.t103.desc, []⟩
theorem ok103 : TYok 103 ty103 := ⟨by kernel_rfl, by kernel_rfl, .inl rfl⟩
noncomputable abbrev ty104 : TY := ⟨Tryz.t104, Tryz.t104.desc, []⟩
theorem ok104 : TYok 104 ty104 := ⟨by kernel_rfl, by kernel_rfl, .inl rfl⟩
noncomputable abbrev ty105 : TY := ⟨Tryz.t105, Tryz.t105.desc, []⟩
theorem ok105 : TYok 105 ty105 := ⟨by kernel_rfl, by kernel_rfl, .inl rfl⟩
noncomputable abbrev ty106 : TY := ⟨Tryz.t106, Tryz.t106.desc, []⟩
theorem ok106 : TYok 106 ty106 := ⟨by kernel_rfl, by kernel_rfl, .inl rfl⟩
noncomputable abbrev ty107 : TY := ⟨Tryz.t107, Tryz.t107.desc, []⟩
theorem ok107 : TYok 107 ty107 := ⟨by kernel_rfl, by kernel_rfl, .inl rfl⟩
noncomputable abbrev ty108 : TY := ⟨Tryz.t108, Tryz.t108.desc, []⟩
theorem ok108 : TYok 108 ty108 := ⟨by kernel_rfl, by kernel_rfl, .inl rfl⟩
noncomputable abbrev ty109 : TY := ⟨Tryz.t109, Tryz.t109.desc, []⟩
theorem ok109 : TYok 109 ty109 := ⟨by kernel_rfl, by kernel_rfl, .inl rfl⟩
noncomputable abbrev ty110 : TY := ⟨Tryz.t110, Tryz.t109.desc, []⟩
theorem ok110 : TYok 110 ty110 := ⟨by kernel_rfl, by kernel_rfl, .inl rfl⟩
noncomputable abbrev ty111 : TY := ⟨Tryz.t111, Tryz.t111.desc, []⟩
theorem ok111 : TYok 111 ty111 := ⟨by kernel_rfl, by kernel_rfl, .inl rfl⟩
noncomputable abbrev ty112 : TY := ⟨Tryz.t112, Tryz.t112.desc, []⟩
theorem ok112 : TYok 112 ty112 := ⟨by kernel_rfl, by kernel_rfl, .inl rfl⟩
noncomputable abbrev ty113 : TY := ⟨Tryz.t113, Tryz.t113.desc, []⟩
theorem ok113 : TYok 113 ty113 := ⟨by kernel_rfl, by kernel_rfl, .inl rfl⟩
noncomputable abbrev ty114 : TY := ⟨Tryz.t114, Tryz.t114.desc, []⟩
theorem ok114 : TYok 114 ty114 := ⟨by kernel_rfl, by kernel_rfl, .inl rfl⟩
noncomputable abbrev ty115 : TY := ⟨Tryz.t115, Tryz.t115.desc, []⟩
theorem ok115 : TYok 115 ty115 := ⟨by kernel_rfl, by kernel_rfl, .inl rfl⟩
noncomputable abbrev ty116 : TY := ⟨Tryz.t116, Tryz.t116.desc, []⟩
theorem ok116 : TYok 116 ty116 := ⟨by kernel_rfl, by kernel_rfl, .inl rfl⟩
noncomputable abbrev ty117 : TY := ⟨Tryz.t117, Tryz.t117.desc, []⟩
theorem ok117 : TYok 117 ty117 := ⟨by kernel_rfl, by kernel_rfl, .inl rfl⟩
noncomputable abbrev ty118 : TY := ⟨Tryz.t118, Tryz.t118.desc, []⟩
theorem ok118 : TYok 118 ty118 := ⟨by kernel_rfl, by kernel_rfl, .inl rfl⟩
noncomputable abbrev ty119 : TY := ⟨Tryz.t119, Tryz.t119.desc, []⟩
theorem ok119 : TYok 119 ty119 := ⟨by kernel_rfl, by kernel_rfl, .inl rfl⟩
noncomputable abbrev ty120 : TY := ⟨Tryz.t120, Tryz.t120.desc, []⟩
theorem ok120 : TYok 120 ty120 := ⟨by kernel_rfl, by kernel_rfl, .inl rfl⟩
noncomputable abbrev ty121 : TY := ⟨Tryz.t121, Tryz.t121.desc, []⟩
theorem ok121 : TYok 121 ty121 := ⟨by kernel_rfl, by kernel_rfl, .inl rfl⟩
noncomputable abbrev ty122 : TY := ⟨Tryz.t122, Tryz.t122.desc, []⟩
theorem ok122 : TYok 122 ty122 := ⟨by kernel_rfl, by kernel_rfl, .inl rfl⟩
noncomputable abbrev ty123 : TY := ⟨Tryz.t123, Tryz.t123.desc, []⟩
theorem ok123 : TYok 123 ty123 := ⟨by kernel_rfl, by kernel_rfl, .inl rfl⟩
noncomputable abbrev ty124 : TY := ⟨Tryz.t124, Tryz.t124.desc, []⟩
theorem ok124 : TYok 124 ty124 := ⟨by kernel_rfl, by kernel_rfl, .inl rfl⟩
noncomputable abbrev ty125 : TY := ⟨Tryz.t125, Tryz.t125.desc, []⟩
theorem ok125 : TYok 125 ty125 := ⟨by kernel_rfl, by kernel_rfl, .inl rfl⟩
noncomputable abbrev ty126 : TY := ⟨Tryz.t126, Tryz.t126.desc, []⟩
theorem ok126 : TYok 126 ty126 := ⟨by kernel_rfl, by kernel_rfl, .inl rfl⟩
noncomputable abbrev ty127 : TY := ⟨Tryz.t127, Tryz.t127.desc, []⟩
theorem ok127 : TYok 127 ty127 := ⟨by kernel_rfl, by kernel_rfl, .inl rfl⟩
noncomputable abbrev ty128 : TY := ⟨Tryz.t128, Tryz.t128.desc, []⟩
theorem ok128 : TYok 128 ty128 := ⟨by kernel_rfl, by kernel_rfl, .inl rfl⟩
noncomputable abbrev ty129 : TY := ⟨Tryz.t129, Tryz.t129.desc, []⟩
theorem ok129 : TYok 129 ty129 := ⟨by kernel_rfl, by kernel_rfl, .inl rfl⟩
noncomputable abbrev ty130 : TY := ⟨Tryz.t130, Tryz.t130.desc, []⟩
theorem ok130 : TYok 130 ty130 := ⟨by kernel_rfl, by kernel_rfl, .inl rfl⟩
noncomputable abbrev ty131 : TY := ⟨Tryz.t131, Tryz.t130.desc, []⟩
theorem ok131 : TYok 131 ty131 := ⟨by kernel_rfl, by kernel_rfl, .inl rfl⟩
noncomputable abbrev ty132 : TY := ⟨Tryz.t132, Tryz.t132.desc, []⟩
theorem ok132 : TYok 132 ty132 := ⟨by kernel_rfl, by kernel_rfl, .inl rfl⟩
noncomputable abbrev ty133 : TY := ⟨Tryz.t133, Tryz.t132.desc, []⟩
theorem ok133 : TYok 133 ty133 := ⟨by kernel_rfl, by kernel_rfl, .inl rfl⟩
noncomputable abbrev ty134 : TY := ⟨Tryz.t134, Tryz.t132.desc, []⟩
theorem ok134 : TYok 134 ty134 := ⟨by kernel_rfl, by kernel_rfl, .inl rfl⟩
noncomputable abbrev ty135 : TY := ⟨Tryz.t135, Tryz.t132.desc, []⟩
theorem ok135 : TYok 135 ty135 := ⟨by kernel_rfl, by kernel_rfl, .inl rfl⟩
noncomputable abbrev ty136 : TY := ⟨Tryz.t136, Tryz.t136.desc, []⟩
theorem ok136 : TYok 136 ty136 := ⟨by kernel_rfl, by kernel_rfl, .inl rfl⟩
noncomputable abbrev ty137 : TY := ⟨Tryz.t137, Tryz.t3.desc, []⟩
theorem ok137 : TYok 137 ty137 := ⟨by kernel_rfl, by kernel_rfl, .inl rfl⟩
noncomputable abbrev ty138 : TY := ⟨Tryz.t138, Tryz.t138.desc, []⟩
theorem ok138 : TYok 138 ty138 := ⟨by kernel_rfl, by kernel_rfl, .inl rfl⟩
noncomputable abbrev ty139 : TY := ⟨Tryz.t139, Tryz.t139.desc, []⟩
theorem ok139 : TYok 139 ty139 := ⟨by kernel_rfl, by kernel_rfl, .inl rfl⟩
noncomputable abbrev ty140 : TY := ⟨Tryz.t140, Tryz.t140.desc, []⟩
theorem ok140 : TYok 140 ty140 := ⟨by kernel_rfl, by kernel_rfl, .inl rfl⟩
noncomputable abbrev ty141 : TY := ⟨Tryz.t141, Tryz.t141.desc, []⟩
theorem ok141 : TYok 141 ty141 := ⟨by kernel_rfl, by kernel_rfl, .inl rfl⟩
noncomputable abbrev ty142 : TY := ⟨Tryz.t142, Tryz.t142.desc, []⟩
theorem ok142 : TYok 142 ty142 := ⟨by kernel_rfl, by kernel_rfl, .inl rfl⟩
noncomputable abbrev ty143 : TY := ⟨Tryz.t143, Tryz.t143.desc, []⟩
theorem ok143 : TYok 143 ty143 := ⟨by kernel_rfl, by kernel_rfl, .inl rfl⟩
noncomputable abbrev ty144 : TY := ⟨Tryz.t144, Tryz.t144.desc, []⟩
theorem ok144 : TYok 144 ty144 := ⟨by kernel_rfl, by kernel_rfl, .inl rfl⟩
noncomputable abbrev ty145 : TY := ⟨Tryz.t145, Tryz.t145.desc, []⟩
theorem ok145 : TYok 145 ty145 := ⟨by kernel_rfl, by kernel_rfl, .inl rfl⟩
noncomputable abbrev ty146 : TY := ⟨Tryz.t146, Tryz.t146.desc, []⟩
theorem ok146 : TYok 146 ty146 := ⟨by kernel_rfl, by kernel_rfl, .inl rfl⟩
noncomputable abbrev ty147 : TY := ⟨Tryz.t147, Tryz.t147.desc, []⟩
theorem ok147 : TYok 147 ty147 := ⟨by kernel_rfl, by kernel_rfl, .inl rfl⟩
noncomputable abbrev ty148 : TY := ⟨Tryz.t148, Tryz.t148.desc, []⟩
theorem ok148 : TYok 148 ty148 := ⟨by kernel_rfl, by kernel_rfl, .inl rfl⟩
noncomputable abbrev ty149 : TY := ⟨Tryz.t149, Tryz.t149.desc, []⟩
theorem ok149 : TYok 149 ty149 := ⟨by kernel_rfl, by kernel_rfl, .inl rfl⟩
noncomputable abbrev ty150 : TY := ⟨Tryz.t150, Tryz.t150.desc, []⟩
theorem ok150 : TYok 150 ty150 := ⟨by kernel_rfl, by kernel_rfl, .inl rfl⟩
noncomputable abbrev ty151 : TY := ⟨Tryz.t151, Tryz.t151.desc, []⟩
theorem ok151 : TYok 151 ty151 := ⟨by kernel_rfl, by kernel_rfl, .inl rfl⟩
noncomputable abbrev ty152 : TY := ⟨Tryz.t152, Tryz.t152.desc, []⟩
theorem ok152 : TYok 152 ty152 := ⟨by kernel_rfl, by kernel_rfl, .inl rfl⟩
noncomputable abbrev ty153 : TY := ⟨Tryz.t153, Tryz.t153.desc, []⟩
theorem ok153 : TYok 153 ty153 := ⟨by kernel_rfl, by kernel_rfl, .inl rfl⟩
noncomputable abbrev ty154 : TY := ⟨Tryz.t154, Tryz.t154.desc, []⟩
theorem ok154 : TYok 154 ty154 := ⟨by kernel_rfl, by kernel_rfl, .inl rfl⟩
noncomputable abbrev ty155 : TY := ⟨Tryz.t155, Tryz.t155.desc, []⟩
theorem ok155 : TYok 155 ty155 := ⟨by kernel_rfl, by kernel_rfl, .inl rfl⟩
noncomputable abbrev ty156 : TY := ⟨Tryz.t156, Tryz.t156.desc, []⟩
theorem ok156 : TYok 156 ty156 := ⟨by kernel_rfl, by kernel_rfl, .inl rfl⟩
noncomputable abbrev ty157 : TY := ⟨Tryz.t157, Tryz.t157.desc, []⟩
theorem ok157 : TYok 157 ty157 := ⟨by kernel_rfl, by kernel_rfl, .inl rfl⟩
noncomputable abbrev ty158 : TY := ⟨Tryz.t158, Tryz.t158.desc, []⟩
theorem ok158 : TYok 158 ty158 := ⟨by kernel_rfl, by kernel_rfl, .inl rfl⟩
noncomputable abbrev ty159 : TY := ⟨Tryz.t159, Tryz.t65.desc, []⟩
theorem ok159 : TYok 159 ty159 := ⟨by kernel_rfl, by kernel_rfl, .inl rfl⟩
noncomputable abbrev ty160 : TY := ⟨Tryz.t160, Tryz.t160.desc, []⟩
theorem ok160 : TYok 160 ty160 := ⟨by kernel_rfl, by kernel_rfl, .inl rfl⟩
noncomputable abbrev ty161 : TY := ⟨Tryz.t161, Tryz.t161.desc, []⟩
theorem ok161 : TYok 161 ty161 := ⟨by kernel_rfl, by kernel_rfl, .inl rfl⟩
noncomputable abbrev ty162 : TY := ⟨Tryz.t162, Tryz.t162.desc, []⟩
theorem ok162 : TYok 162 ty162 := ⟨by kernel_rfl, by kernel_rfl, .inl rfl⟩
noncomputable abbrev ty163 : TY := ⟨Tryz.t163, Tryz.t163.desc, []⟩
theorem ok163 : TYok 163 ty163 := ⟨by kernel_rfl, by kernel_rfl, .inl rfl⟩
noncomputable abbrev ty164 : TY := ⟨Tryz.t164, Tryz.t164.desc, []⟩
theorem ok164 : TYok 164 ty164 := ⟨by kernel_rfl, by kernel_rfl, .inl rfl⟩
noncomputable abbrev ty165 : TY := ⟨Tryz.t165, Tryz.t165.desc, []⟩
theorem ok165 : TYok 165 ty165 := ⟨by kernel_rfl, by kernel_rfl, .inl rfl⟩
noncomputable abbrev ty166 : TY := ⟨Tryz.t166, Tryz.t166.desc, []⟩
theorem ok166 : TYok 166 ty166 := ⟨by kernel_rfl, by kernel_rfl, .inl rfl⟩
noncomputable abbrev ty167 : TY := ⟨Tryz.t167, Tryz.t167.desc, []⟩
theorem ok167 : TYok 167 ty167 := ⟨by kernel_rfl, by kernel_rfl, .inl rfl⟩
noncomputable abbrev ty168 : TY := ⟨Tryz.t168, Tryz.t168.desc, []⟩
theorem ok168 : TYok 168 ty168 := ⟨by kernel_rfl, by kernel_rfl, .inl rfl⟩
noncomputable abbrev ty169 : TY := ⟨Tryz.t169, Tryz.t168.desc, []⟩
theorem ok169 : TYok 169 ty169 := ⟨by kernel_rfl, by kernel_rfl, .inl rfl⟩
noncomputable abbrev ty170 : TY := ⟨Tryz.t170, Tryz.t170.desc, []⟩
theorem ok170 : TYok 170 ty170 := ⟨by kernel_rfl, by kernel_rfl, .inl rfl⟩
noncomputable abbrev ty171 : TY := ⟨Tryz.t171, Tryz.t171.desc, []⟩
theorem ok171 : TYok 171 ty171 := ⟨by kernel_rfl, by kernel_rfl, .inl rfl⟩
noncomputable abbrev ty172 : TY := ⟨Tryz.t172, Tryz.t172.desc, [.int .i64, .str, .int .i64]⟩
theorem ok172 : TYok 172 ty172 := ⟨by kernel_rfl, by kernel_rfl, .inr ⟨by kernel_rfl, eqt172 9998⟩⟩
noncomputable abbrev ty173 : TY := ⟨Tryz.t173, Tryz.t172.desc, [.int .i64, .str, .int .i64]⟩
theorem ok173 : TYok 173 ty173 := ⟨by kernel_rfl, by kernel_rfl, .inr ⟨by kernel_rfl, eqt173 9998⟩⟩
noncomputable abbrev ty174 : TY := ⟨Tryz.t174, Tryz.t174.desc, []⟩
theorem ok174 : TYok 174 ty174 := ⟨by kernel_rfl, by kernel_rfl, .inl rfl⟩
noncomputable abbrev ty175 : TY := ⟨Tryz.t175, Tryz.t175.desc, []⟩
theorem ok175 : TYok 175 ty175 := ⟨by kernel_rfl, by kernel_rfl, .inl rfl⟩
noncomputable abbrev ty176 : TY := ⟨Tryz.t176, Tryz.t176.desc, []⟩
theorem ok176 : TYok 176 ty176 := ⟨by kernel_rfl, by kernel_rfl, .inl rfl⟩
noncomputable abbrev ty177 : TY := ⟨Tryz.t177, Tryz.t177.desc, []⟩
theorem ok177 : TYok 177 ty177 := ⟨by kernel_rfl, by kernel_rfl, .inl rfl⟩
noncomputable abbrev ty178 : TY := ⟨Tryz.t178, Tryz.t178.desc, []⟩
theorem ok178 : TYok 178 ty178 := ⟨by kernel_rfl, by kernel_rfl, .inl rfl⟩
noncomputable abbrev ty179 : TY := ⟨Tryz.t179, Tryz.t179.desc, []⟩
theorem ok179 : TYok 179 ty179 := ⟨by kernel_rfl, by kernel_rfl, .inl rfl⟩
noncomputable abbrev ty180 : TY := ⟨Tryz.t180, Tryz.t180.desc, []⟩
theorem ok180 : TYok 180 ty180 := ⟨by kernel_rfl, by kernel_rfl, .inl rfl⟩
noncomputable abbrev ty181 : TY := ⟨Tryz.t181, Tryz.t181.desc, []⟩
theorem ok181 : TYok 181 ty181 := ⟨by kernel_rfl, by kernel_rfl, .inl rfl⟩
noncomputable abbrev ty182 : TY := ⟨Tryz.t182, Tryz.t182.desc, []⟩
theorem ok182 : TYok 182 ty182 := ⟨by kernel_rfl, by kernel_rfl, .inl rfl⟩
noncomputable abbrev ty183 : TY := ⟨Tryz.t183, Tryz.t183.desc, []⟩
theorem ok183 : TYok 183 ty183 := ⟨by kernel_rfl, by kernel_rfl, .inl rfl⟩
noncomputable abbrev ty184 : TY := ⟨Tryz.t184, Tryz.t184.desc, []⟩
theorem ok184 : TYok 184 ty184 := ⟨by kernel_rfl, by kernel_rfl, .inl rfl⟩
noncomputable abbrev ty185 : TY := ⟨Tryz.t185, Tryz.t185.desc, []⟩
theorem ok185 : TYok 185 ty185 := ⟨by kernel_rfl, by kernel_rfl, .inl rfl⟩
noncomputable abbrev ty186 : TY := ⟨Tryz.t186, Tryz.t185.desc, []⟩
theorem ok186 : TYok 186 ty186 := ⟨by kernel_rfl, by kernel_rfl, .inl rfl⟩
noncomputable abbrev ty187 : TY := ⟨Tryz.t187, Tryz.t187.desc, []⟩
theorem ok187 : TYok 187 ty187 := ⟨by kernel_rfl, by kernel_rfl, .inl rfl⟩
noncomputable abbrev ty188 : TY := ⟨Tryz.t188, Tryz.t188.desc, []⟩
theorem ok188 : TYok 188 ty188 := ⟨by kernel_rfl, by kernel_rfl, .inl rfl⟩
noncomputable abbrev ty189 : TY := ⟨Tryz.t189, Tryz.t188.desc, []⟩
theorem ok189 : TYok 189 ty189 := ⟨by kernel_rfl, by kernel_rfl, .inl rfl⟩
noncomputable abbrev ty190 : TY := ⟨Tryz.t190, Tryz.t190.desc, []⟩
theorem ok190 : TYok 190 ty190 := ⟨by kernel_rfl, by kernel_rfl, .inl rfl⟩
noncomputable abbrev ty191 : TY := ⟨Tryz.t191, Tryz.t5.desc, []⟩
theorem ok191 : TYok 191 ty191 := ⟨by kernel_rfl, by kernel_rfl, .inl rfl⟩
noncomputable abbrev ty192 : TY := ⟨Tryz.t192, Tryz.t5.desc, []⟩
theorem ok192 : TYok 192 ty192 := ⟨by kernel_rfl, by kernel_rfl, .inl rfl⟩
noncomputable abbrev ty193 : TY := ⟨Tryz.t193, Tryz.t193.desc, []⟩
theorem ok193 : TYok 193 ty193 := ⟨by kernel_rfl, by kernel_rfl, .inl rfl⟩
noncomputable abbrev ty194 : TY := ⟨Tryz.t194, Tryz.t194.desc, []⟩
theorem ok194 : TYok 194 ty194 := ⟨by kernel_rfl, by kernel_rfl, .inl rfl⟩
noncomputable abbrev ty195 : TY := ⟨Tryz.t195, Tryz.t21.desc, []⟩
theorem ok195 : TYok 195 ty195 := ⟨by kernel_rfl, by kernel_rfl, .inl rfl⟩
noncomputable abbrev ty196 : TY := ⟨Tryz.t196, Tryz.t21.desc, []⟩
theorem ok196 : TYok 196 ty196 := ⟨by kernel_rfl, by kernel_rfl, .inl rfl⟩
noncomputable abbrev ty197 : TY := ⟨Tryz.t197, Tryz.t197.desc, []⟩
theorem ok197 : TYok 197 ty197 := ⟨by kernel_rfl, by kernel_rfl, .inl rfl⟩
noncomputable abbrev ty198 : TY := ⟨Tryz.t198, Tryz.t197.desc, []⟩
theorem ok198 : TYok 198 ty198 := ⟨by kernel_rfl, by kernel_rfl, .inl rfl⟩
noncomputable abbrev ty199 : TY := ⟨Tryz.t199, Tryz.t199.desc, []⟩
theorem ok199 : TYok 199 ty199 := ⟨by kernel_rfl, by kernel_rfl, .inl rfl⟩
noncomputable def tab : TT := (.node (.node (.node (.node (.node (.node (.node (.node .leaf none (.node .leaf (some ty128) .leaf)) none (.node .leaf (some ty64) (.node .leaf (some ty192) .leaf))) none (.node (.node .leaf none (.node .leaf (some ty160) .leaf)) (some ty32) (.node .leaf (some ty96) .leaf))) none (.node (.node (.node .leaf none (.node .leaf (some ty144) .leaf)) none (.node .leaf (some ty80) .leaf)) (some ty16) (.node (.node .leaf none (.node .leaf (some ty176) .leaf)) (some ty48) (.node .leaf (some ty112) .leaf)))) none (.node (.node (.node (.node .leaf none (.node .leaf (some ty136) .leaf)) none (.node .leaf (some ty72) .leaf)) none (.node (.node .leaf none (.node .leaf (some ty168) .leaf)) (some ty40) (.node .leaf (some ty104) .leaf))) (some ty8) (.node (.node (.node .leaf none (.node .leaf (some ty152) .leaf)) none (.node .leaf (some ty88) .leaf)) (some ty24) (.node (.node .leaf none (.node .leaf (some ty184) .leaf)) (some ty56) (.node .leaf (some ty120) .leaf))))) none (.node (.node (.node (.node (.node .leaf none (.node .leaf (some ty132) .leaf)) none (.node .leaf (some ty68) (.node .leaf (some ty196) .leaf))) none (.node (.node .leaf none (.node .leaf (some ty164) .leaf)) (some ty36) (.node .leaf (some ty100) .leaf))) none (.node (.node (.node .leaf none (.node .leaf (some ty148) .leaf)) none (.node .leaf (some ty84) .leaf)) (some ty20) (.node (.node .leaf none (.node .leaf (some ty180) .leaf)) (some ty52) (.node .leaf (some ty116) .leaf)))) (some ty4) (.node (.node (.node (.node .leaf none (.node .leaf (some ty140) .leaf)) none (.node .leaf (some ty76) .leaf)) none (.node (.node .leaf none (.node .leaf (some ty172) .leaf)) (some ty44) (.node .leaf (some ty108) .leaf))) (some ty12) (.node (.node (.node .leaf none (.node .leaf (some ty156) .leaf)) none (.node .leaf (some ty92) .leaf)) (some ty28) (.node (.node .leaf none (.node .leaf (some ty188) .leaf)) (some ty60) (.node .leaf (some ty124) .leaf)))))) none (.node (.node (.node (.node (.node (.node .leaf none (.node .leaf (some ty130) .leaf)) none (.node .leaf (some ty66) (.node .leaf (some ty194) .leaf))) none (.node (.node .leaf none (.node .leaf (some ty162) .leaf)) (some ty34) (.node .leaf (some ty98) .leaf))) none (.node (.node (.node .leaf none (.node .leaf (some ty146) .leaf)) none (.node .leaf (some ty82) .leaf)) (some ty18) (.node (.node .leaf none (.node .leaf (some ty178) .leaf)) (some ty50) (.node .leaf (some ty114) .leaf)))) none (.node (.node (.node (.node .leaf none (.node .leaf (some ty138) .leaf)) none (.node .leaf (some ty74) .leaf)) none (.node (.node .leaf none (.node .leaf (some ty170) .leaf)) (some ty42) (.node .leaf (some ty106) .leaf))) (some ty10) (.node (.node (.node .leaf none (.node .leaf (some ty154) .leaf)) none (.node .leaf (some ty90) .leaf)) (some ty26) (.node (.node .leaf none (.node .leaf (some ty186) .leaf)) (some ty58) (.node .leaf (some ty122) .leaf))))) (some ty2) (.node (.node (.node (.node (.node .leaf none (.node .leaf (some ty134) .leaf)) none (.node .leaf (some ty70) (.node .leaf (some ty198) .leaf))) none (.node (.node .leaf none (.node .leaf (some ty166) .leaf)) (some ty38) (.node .leaf (some ty102) .leaf))) none (.node (.node (.node .leaf none (.node .leaf (some ty150) .leaf)) none (.node .leaf (some ty86) .leaf)) (some ty22) (.node (.node .leaf none (.node .leaf (some ty182) .leaf)) (some ty54) (.node .leaf (some ty118) .leaf)))) (some ty6) (.node (.node (.node (.node .leaf none (.node .leaf (some ty142) .leaf)) none (.node .leaf (some ty78) .leaf)) none (.node (.node .leaf none (.node .leaf (some ty174) .leaf)) (some ty46) (.node .leaf (some ty110) .leaf))) (some ty14) (.node (.node (.node .leaf none (.node .leaf (some ty158) .leaf)) none (.node .leaf (some ty94) .leaf)) (some ty30) (.node (.node .leaf none (.node .leaf (some ty190) .leaf)) (some ty62) (.node .leaf (some ty126) .leaf))))))) (some ty0) (.node (.node (.node (.node (.node (.node (.node .leaf none (.node .leaf (some ty129) .leaf)) none (.node .leaf (some ty65) (.node .leaf (some ty193) .leaf))) none (.node (.node .leaf none (.node .leaf (some ty161) .leaf)) (some ty33) (.node .leaf (some ty97) .leaf))) none (.node (.node (.node .leaf none (.node .leaf (some ty145) .leaf)) none (.node .leaf (some ty81) .leaf)) (some ty17) (.node (.node .leaf none (.node .leaf (some ty177) .leaf)) (some ty49) (.node .leaf (some ty113) .leaf)))) none (.node (.node (.node (.node .leaf none (.node .leaf (some ty137) .leaf)) none (.node .leaf (some ty73) .leaf)) none (.node (.node .leaf none (.node .leaf (some ty169) .leaf)) (some ty41) (.node .leaf (some ty105) .leaf))) (some ty9) (.node (.node (.node .leaf none (.node .leaf (some ty153) .leaf)) none (.node .leaf (some ty89) .leaf)) (some ty25) (.node (.node .leaf none (.node .leaf (some ty185) .leaf)) (some ty57) (.node .leaf (some ty121) .leaf))))) none (.node (.node (.node (.node (.node .leaf none (.node .leaf (some ty133) .leaf)) none (.node .leaf (some ty69) (.node .leaf (some ty197) .leaf))) none (.node (.node .leaf none (.node .leaf (some ty165) .leaf)) (some ty37) (.node .leaf (some ty101) .leaf))) none (.node (.node (.node .leaf none (.node .leaf (some ty149) .leaf)) none (.node .leaf (some ty85) .leaf)) (some ty21) (.node (.node .leaf none (.node .leaf (some ty181) .leaf)) (some ty53) (.node .leaf (some ty117) .leaf)))) (some ty5) (.node (.node (.node (.node .leaf none (.node .leaf (some ty141) .leaf)) none (.node .leaf (some ty77) .leaf)) none (.node (.node .leaf none (.node .leaf (some ty173) .leaf)) (some ty45) (.node .leaf (some ty109) .leaf))) (some ty13) (.node (.node (.node .leaf none (.node .leaf (some ty157) .leaf)) none (.node .leaf (some ty93) .leaf)) (some ty29) (.node (.node .leaf none (.node .leaf (some ty189) .leaf)) (some ty61) (.node .leaf (some ty125) .leaf)))))) (some ty1) (.node (.node (.node (.node (.node (.node .leaf none (.node .leaf (some ty131) .leaf)) none (.node .leaf (some ty67) (.node .leaf (some ty195) .leaf))) none (.node (.node .leaf none (.node .leaf (some ty163) .leaf)) (some ty35) (.node .leaf (some ty99) .leaf))) none (.node (.node (.node .leaf none (.node .leaf (some ty147) .leaf)) none (.node .leaf (some ty83) .leaf)) (some ty19) (.node (.node .leaf none (.node .leaf (some ty179) .leaf)) (some ty51) (.node .leaf (some ty115) .leaf)))) none (.node (.node (.node (.node .leaf none (.node .leaf (some ty139) .leaf)) none (.node .leaf (some ty75) .leaf)) none (.node (.node .leaf none (.node .leaf (some ty171) .leaf)) (some ty43) (.node .leaf (some ty107) .leaf))) (some ty11) (.node (.node (.node .leaf none (.node .leaf (some ty155) .leaf)) none (.node .leaf (some ty91) .leaf)) (some ty27) (.node (.node .leaf none (.node .leaf (some ty187) .leaf)) (some ty59) (.node .leaf (some ty123) .leaf))))) (some ty3) (.node (.node (.node (.node (.node .leaf none (.node .leaf (some ty135) .leaf)) none (.node .leaf (some ty71) (.node .leaf (some ty199) .leaf))) none (.node (.node .leaf none (.node .leaf (some ty167) .leaf)) (some ty39) (.node .leaf (some ty103) .leaf))) none (.node (.node (.node .leaf none (.node .leaf (some ty151) .leaf)) none (.node .leaf (some ty87) .leaf)) (some ty23) (.node (.node .leaf none (.node .leaf (some ty183) .leaf)) (some ty55) (.node .leaf (some ty119) .leaf)))) (some ty7) (.node (.node (.node (.node .leaf none (.node .leaf (some ty143) .leaf)) none (.node .leaf (some ty79) .leaf)) none (.node (.node .leaf none (.node .leaf (some ty175) .leaf)) (some ty47) (.node .leaf (some ty111) .leaf))) (some ty15) (.node (.node (.node .leaf none (.node .leaf (some ty159) .leaf)) none (.node .leaf (some ty95) .leaf)) (some ty31) (.node (.node .leaf none (.node .leaf (some ty191) .leaf)) (some ty63) (.node .leaf (some ty127) .leaf))))))))
noncomputable def T : Tab := fun t => TT.get 20 tab t
theorem T_ok : T.ok Tryz.prog := fun _ _ h => by
  have := TT.all_get (p := TYok) (m := 1) (b := 0) (t := tab) ⟨ok0, ⟨trivial, ⟨trivial, ⟨trivial, ⟨trivial, ⟨trivial, ⟨trivial, ⟨trivial, trivial, ⟨ok128, trivial, trivial⟩⟩, ⟨ok64, trivial, ⟨ok192, trivial, trivial⟩⟩⟩, ⟨ok32, ⟨trivial, trivial, ⟨ok160, trivial, trivial⟩⟩, ⟨ok96, trivial, trivial⟩⟩⟩, ⟨ok16, ⟨trivial, ⟨trivial, trivial, ⟨ok144, trivial, trivial⟩⟩, ⟨ok80, trivial, trivial⟩⟩, ⟨ok48, ⟨trivial, trivial, ⟨ok176, trivial, trivial⟩⟩, ⟨ok112, trivial, trivial⟩⟩⟩⟩, ⟨ok8, ⟨trivial, ⟨trivial, ⟨trivial, trivial, ⟨ok136, trivial, trivial⟩⟩, ⟨ok72, trivial, trivial⟩⟩, ⟨ok40, ⟨trivial, trivial, ⟨ok168, trivial, trivial⟩⟩, ⟨ok104, trivial, trivial⟩⟩⟩, ⟨ok24, ⟨trivial, ⟨trivial, trivial, ⟨ok152, trivial, trivial⟩⟩, ⟨ok88, trivial, trivial⟩⟩, ⟨ok56, ⟨trivial, trivial, ⟨ok184, trivial, trivial⟩⟩, ⟨ok120, trivial, trivial⟩⟩⟩⟩⟩, ⟨ok4, ⟨trivial, ⟨trivial, ⟨trivial, ⟨trivial, trivial, ⟨ok132, trivial, trivial⟩⟩, ⟨ok68, trivial, ⟨ok196, trivial, trivial⟩⟩⟩, ⟨ok36, ⟨trivial, trivial, ⟨ok164, trivial, trivial⟩⟩, ⟨ok100, trivial, trivial⟩⟩⟩, ⟨ok20, ⟨trivial, ⟨trivial, trivial, ⟨ok148, trivial, trivial⟩⟩, ⟨ok84, trivial, trivial⟩⟩, ⟨ok52, ⟨trivial, trivial, ⟨ok180, trivial, trivial⟩⟩, ⟨ok116, trivial, trivial⟩⟩⟩⟩, ⟨ok12, ⟨trivial, ⟨trivial, ⟨trivial, trivial, ⟨ok140, trivial, trivial⟩⟩, ⟨ok76, trivial, trivial⟩⟩, ⟨ok44, ⟨trivial, trivial, ⟨ok172, trivial, trivial⟩⟩, ⟨ok108, trivial, trivial⟩⟩⟩, ⟨ok28, ⟨trivial, ⟨trivial, trivial, ⟨ok156, trivial, trivial⟩⟩, ⟨ok92, trivial, trivial⟩⟩, ⟨ok60, ⟨trivial, trivial, ⟨ok188, trivial, trivial⟩⟩, ⟨ok124, trivial, trivial⟩⟩⟩⟩⟩⟩, ⟨ok2, ⟨trivial, ⟨trivial, ⟨trivial, ⟨trivial, ⟨trivial, trivial, ⟨ok130, trivial, trivial⟩⟩, ⟨ok66, trivial, ⟨ok194, trivial, trivial⟩⟩⟩, ⟨ok34, ⟨trivial, trivial, ⟨ok162, trivial, trivial⟩⟩, ⟨ok98, trivial, trivial⟩⟩⟩, ⟨ok18, ⟨trivial, ⟨trivial, trivial, ⟨ok146, trivial, trivial⟩⟩, ⟨ok82, trivial, trivial⟩⟩, ⟨ok50, ⟨trivial, trivial, ⟨ok178, trivial, trivial⟩⟩, ⟨ok114, trivial, trivial⟩⟩⟩⟩, ⟨ok10, ⟨trivial, ⟨trivial, ⟨trivial, trivial, ⟨ok138, trivial, trivial⟩⟩, ⟨ok74, trivial, trivial⟩⟩, ⟨ok42, ⟨trivial, trivial, ⟨ok170, trivial, trivial⟩⟩, ⟨ok106, trivial, trivial⟩⟩⟩, ⟨ok26, ⟨trivial, ⟨trivial, trivial, ⟨ok154, trivial, trivial⟩⟩, ⟨ok90, trivial, trivial⟩⟩, ⟨ok58, ⟨trivial, trivial, ⟨ok186, trivial, trivial⟩⟩, ⟨ok122, trivial, trivial⟩⟩⟩⟩⟩, ⟨ok6, ⟨trivial, ⟨trivial, ⟨trivial, ⟨trivial, trivial, ⟨ok134, trivial, trivial⟩⟩, ⟨ok70, trivial, ⟨ok198, trivial, trivial⟩⟩⟩, ⟨ok38, ⟨trivial, trivial, ⟨ok166, trivial, trivial⟩⟩, ⟨ok102, trivial, trivial⟩⟩⟩, ⟨ok22, ⟨trivial, ⟨trivial, trivial, ⟨ok150, trivial, trivial⟩⟩, ⟨ok86, trivial, trivial⟩⟩, ⟨ok54, ⟨trivial, trivial, ⟨ok182, trivial, trivial⟩⟩, ⟨ok118, trivial, trivial⟩⟩⟩⟩, ⟨ok14, ⟨trivial, ⟨trivial, ⟨trivial, trivial, ⟨ok142, trivial, trivial⟩⟩, ⟨ok78, trivial, trivial⟩⟩, ⟨ok46, ⟨trivial, trivial, ⟨ok174, trivial, trivial⟩⟩, ⟨ok110, trivial, trivial⟩⟩⟩, ⟨ok30, ⟨trivial, ⟨trivial, trivial, ⟨ok158, trivial, trivial⟩⟩, ⟨ok94, trivial, trivial⟩⟩, ⟨ok62, ⟨trivial, trivial, ⟨ok190, trivial, trivial⟩⟩, ⟨ok126, trivial, trivial⟩⟩⟩⟩⟩⟩⟩, ⟨ok1, ⟨trivial, ⟨trivial, ⟨trivial, ⟨trivial, ⟨trivial, ⟨trivial, trivial, ⟨ok129, trivial, trivial⟩⟩, ⟨ok65, trivial, ⟨ok193, trivial, trivial⟩⟩⟩, ⟨ok33, ⟨trivial, trivial, ⟨ok161, trivial, trivial⟩⟩, ⟨ok97, trivial, trivial⟩⟩⟩, ⟨ok17, ⟨trivial, ⟨trivial, trivial, ⟨ok145, trivial, trivial⟩⟩, ⟨ok81, trivial, trivial⟩⟩, ⟨ok49, ⟨trivial, trivial, ⟨ok177, trivial, trivial⟩⟩, ⟨ok113, trivial, trivial⟩⟩⟩⟩, ⟨ok9, ⟨trivial, ⟨trivial, ⟨trivial, trivial, ⟨ok137, trivial, trivial⟩⟩, ⟨ok73, trivial, trivial⟩⟩, ⟨ok41, ⟨trivial, trivial, ⟨ok169, trivial, trivial⟩⟩, ⟨ok105, trivial, trivial⟩⟩⟩, ⟨ok25, ⟨trivial, ⟨trivial, trivial, ⟨ok153, trivial, trivial⟩⟩, ⟨ok89, trivial, trivial⟩⟩, ⟨ok57, ⟨trivial, trivial, ⟨ok185, trivial, trivial⟩⟩, ⟨ok121, trivial, trivial⟩⟩⟩⟩⟩, ⟨ok5, ⟨trivial, ⟨trivial, ⟨trivial, ⟨trivial, trivial, ⟨ok133, trivial, trivial⟩⟩, ⟨ok69, trivial, ⟨ok197, trivial, trivial⟩⟩⟩, ⟨ok37, ⟨trivial, trivial, ⟨ok165, trivial, trivial⟩⟩, ⟨ok101, trivial, trivial⟩⟩⟩, ⟨ok21, ⟨trivial, ⟨trivial, trivial, ⟨ok149, trivial, trivial⟩⟩, ⟨ok85, trivial, trivial⟩⟩, ⟨ok53, ⟨trivial, trivial, ⟨ok181, trivial, trivial⟩⟩, ⟨ok117, trivial, trivial⟩⟩⟩⟩, ⟨ok13, ⟨trivial, ⟨trivial, ⟨trivial, trivial, ⟨ok141, trivial, trivial⟩⟩, ⟨ok77, trivial, trivial⟩⟩, ⟨ok45, ⟨trivial, trivial, ⟨ok173, trivial, trivial⟩⟩, ⟨ok109, trivial, trivial⟩⟩⟩, ⟨ok29, ⟨trivial, ⟨trivial, trivial, ⟨ok157, trivial, trivial⟩⟩, ⟨ok93, trivial, trivial⟩⟩, ⟨ok61, ⟨trivial, trivial, ⟨ok189, trivial, trivial⟩⟩, ⟨ok125, trivial, trivial⟩⟩⟩⟩⟩⟩, ⟨ok3, ⟨trivial, ⟨trivial, ⟨trivial, ⟨trivial, ⟨trivial, trivial, ⟨ok131, trivial, trivial⟩⟩, ⟨ok67, trivial, ⟨ok195, trivial, trivial⟩⟩⟩, ⟨ok35, ⟨trivial, trivial, ⟨ok163, trivial, trivial⟩⟩, ⟨ok99, trivial, trivial⟩⟩⟩, ⟨ok19, ⟨trivial, ⟨trivial, trivial, ⟨ok147, trivial, trivial⟩⟩, ⟨ok83, trivial, trivial⟩⟩, ⟨ok51, ⟨trivial, trivial, ⟨ok179, trivial, trivial⟩⟩, ⟨ok115, trivial, trivial⟩⟩⟩⟩, ⟨ok11, ⟨trivial, ⟨trivial, ⟨trivial, trivial, ⟨ok139, trivial, trivial⟩⟩, ⟨ok75, trivial, trivial⟩⟩, ⟨ok43, ⟨trivial, trivial, ⟨ok171, trivial, trivial⟩⟩, ⟨ok107, trivial, trivial⟩⟩⟩, ⟨ok27, ⟨trivial, ⟨trivial, trivial, ⟨ok155, trivial, trivial⟩⟩, ⟨ok91, trivial, trivial⟩⟩, ⟨ok59, ⟨trivial, trivial, ⟨ok187, trivial, trivial⟩⟩, ⟨ok123, trivial, trivial⟩⟩⟩⟩⟩, ⟨ok7, ⟨trivial, ⟨trivial, ⟨trivial, ⟨trivial, trivial, ⟨ok135, trivial, trivial⟩⟩, ⟨ok71, trivial, ⟨ok199, trivial, trivial⟩⟩⟩, ⟨ok39, ⟨trivial, trivial, ⟨ok167, trivial, trivial⟩⟩, ⟨ok103, trivial, trivial⟩⟩⟩, ⟨ok23, ⟨trivial, ⟨trivial, trivial, ⟨ok151, trivial, trivial⟩⟩, ⟨ok87, trivial, trivial⟩⟩, ⟨ok55, ⟨trivial, trivial, ⟨ok183, trivial, trivial⟩⟩, ⟨ok119, trivial, trivial⟩⟩⟩⟩, ⟨ok15, ⟨trivial, ⟨trivial, ⟨trivial, trivial, ⟨ok143, trivial, trivial⟩⟩, ⟨ok79, trivial, trivial⟩⟩, ⟨ok47, ⟨trivial, trivial, ⟨ok175, trivial, trivial⟩⟩, ⟨ok111, trivial, trivial⟩⟩⟩, ⟨ok31, ⟨trivial, ⟨trivial, trivial, ⟨ok159, trivial, trivial⟩⟩, ⟨ok95, trivial, trivial⟩⟩, ⟨ok63, ⟨trivial, trivial, ⟨ok191, trivial, trivial⟩⟩, ⟨ok127, trivial, trivial⟩⟩⟩⟩⟩⟩⟩⟩ h
  have h2 := this; simp at h2; exact h2
end Go.Abs

namespace Go.Abs
variable [Globals]
structure Val where
  kind : Int
  n : Int
  s : ByteArray
  deriving Inhabited, DecidableEq
structure Attr where
  name : ByteArray
  kind : Int
  min : Int
  max : Int
  enum : List ByteArray
  writable : Bool
  safety : Bool
  deriving Inhabited, DecidableEq
structure Eff where
  kind : Int
  attr : ByteArray
  n : Int
  deriving Inhabited, DecidableEq
structure Cmd where
  name : ByteArray
  param : Attr
  effects : List Eff
  deriving Inhabited, DecidableEq
structure Clu where
  name : ByteArray
  attrs : List Attr
  commands : List Cmd
  events : List ByteArray
  deriving Inhabited, DecidableEq
structure Dev where
  id : Int
  eui : Int
  vendor : Int
  sleepy : Bool
  poll : Int
  room : ByteArray
  clusters : List ByteArray
  deriving Inhabited, DecidableEq
structure Hom where
  clusters : List Clu
  devices : List Dev
  deriving Inhabited, DecidableEq
structure Key where
  dev : Int
  cluster : ByteArray
  attr : ByteArray
  deriving Inhabited, DecidableEq
structure Item where
  key : Key
  value : Val
  version : Int
  deriving Inhabited, DecidableEq
def cVal (v : Val) : List PV := [vint v.kind, vint v.n, vstr v.s]
def cAttr (a : Attr) : List PV := [vstr a.name, vint a.kind, vint a.min, vint a.max, roL 1 cstr a.enum, vbool a.writable, vbool a.safety]
def cEff (e : Eff) : List PV := [vint e.kind, vstr e.attr, vint e.n]
def cCmd (c : Cmd) : List PV := vstr c.name :: (cAttr c.param ++ [roL 3 cEff c.effects])
def cClu (c : Clu) : List PV := [vstr c.name, roL 7 cAttr c.attrs, roL 9 cCmd c.commands, roL 1 cstr c.events]
def cDev (d : Dev) : List PV := [vint d.id, .val (.int .u64 d.eui), vint d.vendor, vbool d.sleepy, vint d.poll, vstr d.room, roL 1 cstr d.clusters]
def cHom (h : Hom) : List PV := [roL 4 cClu h.clusters, roL 7 cDev h.devices]
def cKey (k : Key) : List PV := [vint k.dev, vstr k.cluster, vstr k.attr]
def idxOf (l : List ByteArray) (s : ByteArray) : Int := match l.findIdx? (· = s) with | some i => i | none => -1
theorem idxOf_some {l : List ByteArray} {x : ByteArray} {k : Nat} (hk : k < l.length) (h : l.getD k default = x) (hf : ∀ j, j < k → l.getD j default ≠ x) : idxOf l x = k := by
  have : l.findIdx? (· = x) = some k := by
    rw [List.findIdx?_eq_some_iff_getElem]
    refine ⟨hk, by simpa [List.getD, hk] using h, fun j hj => ?_⟩
    have := hf j hj
    simpa [List.getD, show j < l.length from by omega] using this
  simp [idxOf, this]
theorem idxOf_none {l : List ByteArray} {x : ByteArray} (hf : ∀ j, j < l.length → l.getD j default ≠ x) : idxOf l x = -1 := by
  have : l.findIdx? (· = x) = none := by
    rw [List.findIdx?_eq_none_iff]
    intro y hy
    obtain ⟨j, hj, rfl⟩ := List.getElem_of_mem hy
    simpa [List.getD, hj] using hf j hj
  simp [idxOf, this]
def letterOk (i : Nat) (c : Int) : Bool := (decide (97 ≤ c) && decide (c ≤ 122)) || (decide (i ≠ 0) && (decide (c = 95) || decide (c = 45) || (decide (48 ≤ c) && decide (c ≤ 57))))
def validName (s : ByteArray) : Bool := decide (1 ≤ s.size) && decide (s.size ≤ 24) && (List.range s.size).all fun i => letterOk i (byteAt s i)
theorem validName_iff {s : ByteArray} : validName s = true ↔ (1 ≤ s.size ∧ s.size ≤ 24 ∧ ∀ i, i < s.size → letterOk i (byteAt s i) = true) := by
  simp [validName, and_assoc]
def firstE (n : Nat) (f : Nat → Int) : Int := match (List.range n).find? (fun i => decide (f i ≠ 0)) with | some i => f i | none => 0
theorem firstE_at {n k : Nat} {f : Nat → Int} (hk : k < n) (h : f k ≠ 0) (hf : ∀ j, j < k → f j = 0) : firstE n f = f k := by
  have : (List.range n).find? (fun i => decide (f i ≠ 0)) = some k := by
    rw [List.find?_range_eq_some]
    exact ⟨by simpa using h, by simpa using hk, fun j hj => by simpa using hf j hj⟩
  simp only [firstE, this]
theorem firstE_none {n : Nat} {f : Nat → Int} (hf : ∀ j, j < n → f j = 0) : firstE n f = 0 := by
  have : (List.range n).find? (fun i => decide (f i ≠ 0)) = none := by
    rw [List.find?_eq_none]
    intro x hx
    simpa using hf x (by simpa using hx)
  simp only [firstE, this]
def inRange (n : Int) : Bool := decide (-1099511627776 ≤ n) && decide (n ≤ 1099511627776)
def membersE (l : List ByteArray) : Int := if l.length < 1 ∨ 64 < l.length then 3 else firstE l.length fun i => if validName (l.getD i default) = false then 10 else if idxOf l (l.getD i default) < i then 9 else 0
def defE (a : Attr) : Int :=
  if validName a.name = false then 10 else if a.kind < 1 ∨ 4 < a.kind then 7
  else if a.kind = 2 ∧ (inRange a.min = false ∨ inRange a.max = false ∨ a.max < a.min) then 2
  else if a.kind ≠ 2 ∧ (a.min ≠ 0 ∨ a.max ≠ 0) then 2
  else if a.kind = 3 then membersE a.enum else if 0 < a.enum.length then 4 else 0
def valE (v : Val) : Int :=
  if v.kind < 0 ∨ 4 < v.kind then 7
  else if ((v.kind = 0 ∨ v.kind = 4) ∧ v.n ≠ 0) ∨ (v.kind = 1 ∧ v.n ≠ 0 ∧ v.n ≠ 1) ∨ (v.kind = 2 ∧ inRange v.n = false) ∨ (v.kind = 3 ∧ (v.n < 0 ∨ 63 < v.n)) then 2
  else if 60 < v.s.size then 3 else if v.s ≠ ⟨#[]⟩ ∧ v.kind ≠ 4 then 4 else 0
def fitsE (a : Attr) (v : Val) : Int :=
  if defE a ≠ 0 then defE a else if valE v ≠ 0 then valE v else if v.kind ≠ a.kind then 11
  else if (v.kind = 2 ∧ (v.n < a.min ∨ a.max < v.n)) ∨ (v.kind = 3 ∧ (a.enum.length : Int) ≤ v.n) then 2 else 0
def noVal : Val := ⟨0, 0, ⟨#[]⟩⟩
end Go.Abs

namespace Go.Abs
open Go.Proofs
theorem hm : Tryz.prog.follows .mixedOrders = true := by kernel_rfl
theorem ac_slices_Index_string (l : List ByteArray) (x : ByteArray) (hl : l.length ≤ 1048576) : AC Tryz.prog 100 [.pv (roL 1 cstr l), .pv (vstr x)] [] (.pv (vint (idxOf l x))) [] := by
  refine AC.of_awp (T := T) T_ok hm Tryz.call100 Tryz.func100 rfl rfl rfl ?_
  conv => whnf
  refine ⟨Nat, fun k => k ≤ l.length ∧ ∀ j, j < k → l.getD j default ≠ x, fun k => ⟨[(0, .pv (roL 1 cstr l)), (1, .pv (vstr x)), (7, .pv (vint l.length)), (8, .pv (vint k))], []⟩, fun k => l.length - k, 0, [], ⟨Nat.zero_le _, fun j h => absurd h (by omega)⟩, ⟨.rfl, .rfl, .rfl, .rfl⟩, fun k hk => ?_⟩
  conv => whnf
  refine ⟨fun h => ?_, fun h => ?_⟩
  · simp only [decide_eq_true_eq] at h
    refine ⟨by omega, ?_⟩
    conv => whnf
    refine ⟨fun h2 => ?_, fun h2 => ?_⟩
    · conv => whnf
      simp only [decide_eq_true_eq] at h2
      exact PSub.int (by rw [idxOf_some (k := k) (by omega) (by simpa [eq_comm] using h2) hk.2])
    · conv => whnf
      refine .inl ⟨wrap64 (by omega), ?_⟩
      conv => whnf
      simp only [decide_eq_false_iff_not] at h2
      refine ⟨k + 1, [], ⟨by omega, fun j hj => ?_⟩, by dsimp only; omega, .rfl, .rfl, .rfl, .rfl⟩
      by_cases e : j = k
      · subst e; simpa [eq_comm] using h2
      · exact hk.2 j (by omega)
  · conv => whnf
    simp only [decide_eq_false_iff_not] at h
    exact PSub.int (by rw [idxOf_none fun j hj => hk.2 j (by omega)])
theorem ac_names_Index (l : List ByteArray) (x : ByteArray) (hl : l.length ≤ 1048576) : AC Tryz.prog 82 [.pv (roL 1 cstr l), .pv (vstr x)] [] (.pv (vint (idxOf l x))) [] := by
  refine AC.of_awp (T := T) T_ok hm Tryz.call82 Tryz.func82 rfl rfl rfl ?_
  conv => whnf
  refine .inl ⟨_, ac_slices_Index_string l x hl, ?_⟩
  conv => whnf
  exact PSub.rfl
theorem ac_names_letter (c : Int) : AC Tryz.prog 92 [.pv (.val (.int .i32 c))] [] (.pv (vbool (decide (97 ≤ c) && decide (c ≤ 122)))) [] := by
  refine AC.of_awp (T := T) T_ok hm Tryz.call92 Tryz.func92 rfl rfl rfl ?_
  conv => whnf
  refine ⟨fun h => ?_, fun h => ?_⟩
  · conv => whnf
    simp only [decide_eq_true_eq] at h
    exact PSub.sb (by simp [h])
  · conv => whnf
    simp only [decide_eq_false_iff_not] at h
    exact PSub.lit_sb (by simp [h])
theorem letterOk_iff {i : Nat} {c : Int} : letterOk i c = true ↔ ((97 ≤ c ∧ c ≤ 122) ∨ (i ≠ 0 ∧ (c = 95 ∨ c = 45 ∨ (48 ≤ c ∧ c ≤ 57)))) := by
  simp [letterOk, or_assoc]
theorem validName_bad {s : ByteArray} {k : Nat} (hk : k < s.size) (h : ¬ ((97 ≤ byteAt s k ∧ byteAt s k ≤ 122) ∨ (k ≠ 0 ∧ (byteAt s k = 95 ∨ byteAt s k = 45 ∨ (48 ≤ byteAt s k ∧ byteAt s k ≤ 57))))) : false = validName s := by
  symm
  rw [← Bool.not_eq_true, validName_iff]
  intro ⟨_, _, h2⟩
  exact h (letterOk_iff.1 (h2 k hk))
theorem decode_rune {s : ByteArray} {k : Nat} (hk : k < s.size) : (byteAt s k < 128 ∧ ((Utf8.decode s k).1 : Int) = byteAt s k ∧ (Utf8.decode s k).2 = 1) ∨ (128 ≤ byteAt s k ∧ 128 ≤ (Utf8.decode s k).1) := by
  have hlt : k < s.data.size := hk
  have hb : byteAt s k = ((s[k]'hk).toNat : Int) := by simp only [byteAt, Array.getD, dif_pos hlt]; rfl
  rw [hb]
  by_cases h : (s[k]'hk).toNat < 128
  · left
    rw [decode_ascii s k hk h]
    exact ⟨by omega, rfl, rfl⟩
  · right
    exact ⟨by omega, (decode_high s k hk (by omega)).1⟩
theorem ac_names_Valid (s : ByteArray) : AC Tryz.prog 65 [.pv (vstr s)] [] (.pv (vbool (validName s))) [] := by
  refine AC.of_awp (T := T) T_ok hm Tryz.call65 Tryz.func65 rfl rfl rfl ?_
  conv => whnf
  refine ⟨fun h => ?_, fun h => ?_⟩
  · conv => whnf
    simp only [decide_eq_true_eq] at h
    exact PSub.lit_sb (by symm; simp [validName]; omega)
  conv => whnf
  refine ⟨fun h2 => ?_, fun h2 => ?_⟩
  · conv => whnf
    simp only [decide_eq_true_eq] at h2
    exact PSub.lit_sb (by symm; simp [validName]; omega)
  conv => whnf
  simp only [decide_eq_false_iff_not] at h h2
  refine ⟨Nat, fun k => k ≤ s.size ∧ ∀ j, j < k → letterOk j (byteAt s j) = true, fun k => ⟨[(0, .pv (vstr s)), (14, .ref 500)], [(500, .siter s k)]⟩, fun k => s.size - k, 0, [(500, 14)], ⟨Nat.zero_le _, fun j h => absurd h (by omega)⟩, ⟨⟨⟨rfl, rfl⟩, trivial⟩, .rfl, trivial⟩, fun k hk => ?_⟩
  conv => whnf
  refine ⟨fun h3 => ?_, fun h3 => ?_⟩
  · conv => whnf
    refine .inl ⟨_, ac_names_letter _, ?_⟩
    conv => whnf
    have hb : ∀ j, j < k → letterOk j (byteAt s j) = true := hk.2
    have hkl := hk.1
    clear hk
    have hd := decode_rune h3
    iterate 9 (all_goals first | (refine ⟨fun h => ?_, fun h => ?_⟩ <;> (conv => whnf)) | skip)
    all_goals simp only [decide_eq_true_eq, decide_eq_false_iff_not, Bool.not_eq_true', Bool.not_eq_false', Bool.and_eq_true, Bool.and_eq_false_iff] at *
    all_goals first
      | contradiction
      | exact PSub.lit_sb (validName_bad (k := k) h3 (by omega))
      | (refine ⟨k + 1, [], ⟨by omega, fun j hj => ?_⟩, by omega, ⟨⟨rfl, by omega⟩, trivial⟩, .rfl, trivial⟩
         by_cases e : j = k
         · subst e; exact letterOk_iff.2 (by omega)
         · exact hb j (by omega))
  · conv => whnf
    exact PSub.lit_sb (by symm; rw [validName_iff]; exact ⟨by omega, by omega, fun i hi => hk.2 i (by have := hk.1; omega)⟩)
end Go.Abs

namespace Go.Abs
open Go.Proofs
set_option maxRecDepth 10000
theorem ac_value_inRange (n : Int) : AC Tryz.prog 139 [.pv (vint n)] [] (.pv (vbool (inRange n))) [] := by
  refine AC.of_awp (T := T) T_ok hm Tryz.call139 Tryz.func139 rfl rfl rfl ?_
  conv => whnf
  refine ⟨fun h => ?_, fun h => ?_⟩
  · conv => whnf
    simp only [decide_eq_true_eq] at h
    exact PSub.sb (by simp [inRange, h])
  · conv => whnf
    simp only [decide_eq_false_iff_not] at h
    exact PSub.lit_sb (by simp [inRange, h])
theorem ac_value_members (l : List ByteArray) (hl : l.length ≤ 1048576) : AC Tryz.prog 140 [.pv (roL 1 cstr l)] [] (.pv (vint (membersE l))) [] := by
  refine AC.of_awp (T := T) T_ok hm Tryz.call140 Tryz.func140 rfl rfl rfl ?_
  conv => whnf
  refine ⟨fun h => ?_, fun h => ?_⟩
  · conv => whnf
    simp only [decide_eq_true_eq] at h
    exact PSub.int (by rw [membersE, if_pos (by omega)])
  conv => whnf
  refine ⟨fun h2 => ?_, fun h2 => ?_⟩
  · conv => whnf
    simp only [decide_eq_true_eq] at h2
    exact PSub.int (by rw [membersE, if_pos (by omega)])
  conv => whnf
  simp only [decide_eq_false_iff_not] at h h2
  have e0 : membersE l = firstE l.length fun i => if validName (l.getD i default) = false then 10 else if idxOf l (l.getD i default) < i then 9 else 0 := by rw [membersE, if_neg (by omega)]
  rw [e0]
  generalize hf : (fun i => if validName (l.getD i default) = false then (10 : Int) else if idxOf l (l.getD i default) < (i : Int) then 9 else 0) = f
  have hfi : ∀ i, f i = if validName (l.getD i default) = false then (10 : Int) else if idxOf l (l.getD i default) < (i : Int) then 9 else 0 := fun i => by rw [← hf]
  refine ⟨Nat, fun k => k ≤ l.length ∧ ∀ j, j < k → f j = 0, fun k => ⟨[(0, .pv (roL 1 cstr l)), (13, .pv (roL 1 cstr l)), (14, .pv (vint l.length)), (15, .pv (vint k))], []⟩, fun k => l.length - k, 0, [], ⟨Nat.zero_le _, fun j h => absurd h (by omega)⟩, ⟨.rfl, .rfl, .rfl, .rfl⟩, fun k hk => ?_⟩
  conv => whnf
  refine ⟨fun h3 => ?_, fun h3 => ?_⟩
  · conv => whnf
    simp only [decide_eq_true_eq] at h3
    refine ⟨by omega, ?_⟩
    conv => whnf
    refine .inl ⟨_, ac_names_Valid _, ?_⟩
    conv => whnf
    have hfk := hfi k
    refine ⟨fun h4 => ?_, fun h4 => ?_⟩
    · conv => whnf
      simp only [Bool.not_eq_true', Int.toNat_natCast] at h4
      rw [if_pos h4] at hfk
      exact PSub.int (by rw [firstE_at (k := k) (by omega) (by rw [hfk]; decide) hk.2, hfk])
    · conv => whnf
      refine .inl ⟨_, ac_names_Index l _ hl, ?_⟩
      conv => whnf
      simp only [Bool.not_eq_false', Int.toNat_natCast] at h4
      rw [if_neg (by rw [h4]; decide)] at hfk
      refine ⟨fun h5 => ?_, fun h5 => ?_⟩
      · conv => whnf
        simp only [decide_eq_true_eq, Int.toNat_natCast] at h5
        rw [if_pos h5] at hfk
        exact PSub.int (by rw [firstE_at (k := k) (by omega) (by rw [hfk]; decide) hk.2, hfk])
      · conv => whnf
        simp only [decide_eq_false_iff_not, Int.toNat_natCast] at h5
        rw [if_neg h5] at hfk
        refine .inl ⟨wrap64 (by omega), ?_⟩
        conv => whnf
        refine ⟨k + 1, [], ⟨by omega, fun j hj => ?_⟩, by dsimp only; omega, .rfl, .rfl, .rfl, .rfl⟩
        by_cases e : j = k
        · subst e; exact hfk
        · exact hk.2 j (by omega)
  · conv => whnf
    simp only [decide_eq_false_iff_not] at h3
    exact PSub.int (by rw [firstE_none fun j hj => hk.2 j (by omega)])
theorem ac_value_Def (a : Attr) (hl : a.enum.length ≤ 1048576) : AC Tryz.prog 123 [.pv (.agg (cAttr a))] [] (.pv (vint (defE a))) [] := by
  refine AC.of_awp (T := T) T_ok hm Tryz.call123 Tryz.func123 rfl rfl rfl ?_
  conv => whnf
  refine .inl ⟨_, ac_names_Valid _, ?_⟩
  conv => whnf
  refine ⟨fun h => ?_, fun h => ?_⟩
  · conv => whnf
    simp only [Bool.not_eq_true'] at h
    exact PSub.int (by rw [defE, if_pos h])
  conv => whnf
  simp only [Bool.not_eq_false'] at h
  have h : ¬ validName a.name = false := by rw [h]; decide
  have hk : a.kind < 1 ∨ 4 < a.kind → PSub (ofConst (.int .i64 7)) (vint (defE a)) := fun hh => PSub.int (by rw [defE, if_neg h, if_pos hh])
  refine ⟨fun h2 => ?_, fun h2 => ?_⟩
  · conv => whnf
    simp only [decide_eq_true_eq] at h2
    exact hk (.inl h2)
  conv => whnf
  refine ⟨fun h3 => ?_, fun h3 => ?_⟩
  · conv => whnf
    simp only [decide_eq_true_eq] at h3
    exact hk (.inr h3)
  conv => whnf
  simp only [decide_eq_false_iff_not] at h2 h3
  have hk2 : ¬ (a.kind < 1 ∨ 4 < a.kind) := by omega
  have tail : ∀ (hq : ¬ (a.kind = 2 ∧ (inRange a.min = false ∨ inRange a.max = false ∨ a.max < a.min))) (hq2 : ¬ (a.kind ≠ 2 ∧ (a.min ≠ 0 ∨ a.max ≠ 0))), defE a = if a.kind = 3 then membersE a.enum else if 0 < a.enum.length then 4 else 0 := fun hq hq2 => by
    rw [defE, if_neg h, if_neg hk2, if_neg hq, if_neg hq2]
  refine ⟨fun h4 => ?_, fun h4 => ?_⟩
  · conv => whnf
    simp only [decide_eq_true_eq] at h4
    have bad : (inRange a.min = false ∨ inRange a.max = false ∨ a.max < a.min) → PSub (ofConst (.int .i64 2)) (vint (defE a)) := fun hh => PSub.int (by rw [defE, if_neg h, if_neg hk2, if_pos ⟨h4, hh⟩])
    refine .inl ⟨_, ac_value_inRange _, ?_⟩
    conv => whnf
    refine ⟨fun h5 => ?_, fun h5 => ?_⟩
    · conv => whnf
      simp only [Bool.not_eq_true'] at h5
      exact bad (.inl h5)
    conv => whnf
    refine .inl ⟨_, ac_value_inRange _, ?_⟩
    conv => whnf
    refine ⟨fun h6 => ?_, fun h6 => ?_⟩
    · conv => whnf
      simp only [Bool.not_eq_true'] at h6
      exact bad (.inr (.inl h6))
    conv => whnf
    refine ⟨fun h7 => ?_, fun h7 => ?_⟩
    · conv => whnf
      simp only [decide_eq_true_eq] at h7
      exact bad (.inr (.inr h7))
    conv => whnf
    simp only [decide_eq_false_iff_not, Bool.not_eq_false'] at h5 h6 h7
    have hd := tail (by rw [h5, h6]; simp; omega) (by omega)
    rw [if_neg (by omega)] at hd
    rw [hd]
    refine ⟨fun h8 => ?_, fun h8 => ?_⟩
    · simp only [decide_eq_true_eq] at h8
      omega
    conv => whnf
    refine ⟨fun h9 => ?_, fun h9 => ?_⟩
    · conv => whnf
      simp only [decide_eq_true_eq] at h9
      exact PSub.int (by rw [if_pos (by omega)])
    · conv => whnf
      simp only [decide_eq_false_iff_not] at h9
      exact PSub.int (by rw [if_neg (by omega)])
  · conv => whnf
    simp only [decide_eq_false_iff_not] at h4
    have bad : (a.min ≠ 0 ∨ a.max ≠ 0) → PSub (ofConst (.int .i64 2)) (vint (defE a)) := fun hh => PSub.int (by rw [defE, if_neg h, if_neg hk2, if_neg (fun x => h4 x.1), if_pos ⟨h4, hh⟩])
    refine ⟨fun h5 => ?_, fun h5 => ?_⟩
    · conv => whnf
      simp only [Bool.not_eq_true', decide_eq_false_iff_not] at h5
      exact bad (.inl h5)
    conv => whnf
    refine ⟨fun h6 => ?_, fun h6 => ?_⟩
    · conv => whnf
      simp only [Bool.not_eq_true', decide_eq_false_iff_not] at h6
      exact bad (.inr h6)
    conv => whnf
    simp only [Bool.not_eq_false', decide_eq_true_eq] at h5 h6
    have hd := tail (fun x => h4 x.1) (by omega)
    rw [hd]
    refine ⟨fun h8 => ?_, fun h8 => ?_⟩
    · conv => whnf
      simp only [decide_eq_true_eq] at h8
      rw [if_pos h8]
      refine .inl ⟨_, ac_value_members _ hl, ?_⟩
      conv => whnf
      exact PSub.rfl
    conv => whnf
    simp only [decide_eq_false_iff_not] at h8
    rw [if_neg h8]
    refine ⟨fun h9 => ?_, fun h9 => ?_⟩
    · conv => whnf
      simp only [decide_eq_true_eq] at h9
      exact PSub.int (by rw [if_pos (by omega)])
    · conv => whnf
      simp only [decide_eq_false_iff_not] at h9
      exact PSub.int (by rw [if_neg (by omega)])
theorem ac_value_Check (v : Val) : AC Tryz.prog 156 [.pv (.agg (cVal v))] [] (.pv (vint (valE v))) [] := by
  refine AC.of_awp (T := T) T_ok hm Tryz.call156 Tryz.func156 rfl rfl rfl ?_
  conv => whnf
  iterate 14 (all_goals first | (refine ⟨fun h => ?_, fun h => ?_⟩ <;> (conv => whnf)) | (refine .inl ⟨_, ac_value_inRange _, ?_⟩; conv => whnf) | skip)
  all_goals simp only [decide_eq_true_eq, decide_eq_false_iff_not, Bool.not_eq_true', Bool.not_eq_false'] at *
  all_goals first
    | contradiction
    | exact PSub.int (by simp only [valE]; (repeat' split) <;> first | rfl | omega | (simp_all; done) | (simp_all; omega))
    | trace_state
theorem ac_value_Fits (a : Attr) (v : Val) (hl : a.enum.length ≤ 1048576) : AC Tryz.prog 153 [.pv (.agg (cAttr a)), .pv (.agg (cVal v))] [] (.pv (vint (fitsE a v))) [] := by
  refine AC.of_awp (T := T) T_ok hm Tryz.call153 Tryz.func153 rfl rfl rfl ?_
  conv => whnf
  iterate 14 (all_goals first | (refine ⟨fun h => ?_, fun h => ?_⟩ <;> (conv => whnf)) | (refine .inl ⟨_, ac_value_Def a hl, ?_⟩; conv => whnf) | (refine .inl ⟨_, ac_value_Check v, ?_⟩; conv => whnf) | skip)
  all_goals simp only [decide_eq_true_eq, decide_eq_false_iff_not, Bool.not_eq_true', Bool.not_eq_false'] at *
  all_goals first
    | contradiction
    | exact PSub.int (by simp only [fitsE]; (repeat' split) <;> first | rfl | omega | (simp_all; done) | (simp_all; omega))
    | trace_state
end Go.Abs

namespace Go.Abs
open Go.Proofs
set_option maxRecDepth 10000
def memN (l : List ByteArray) (n : Nat) (s : ByteArray) : Bool := (List.range n).any fun j => decide (l.getD j default = s)
theorem memN_true {l : List ByteArray} {n k : Nat} {s : ByteArray} (hk : k < n) (h : l.getD k default = s) : memN l n s = true := by
  simp only [memN, List.any_eq_true, List.mem_range, decide_eq_true_eq]
  exact ⟨k, hk, h⟩
theorem memN_false {l : List ByteArray} {n : Nat} {s : ByteArray} (h : ∀ j, j < n → l.getD j default ≠ s) : memN l n s = false := by
  rw [← Bool.not_eq_true]
  simp only [memN, List.any_eq_true, List.mem_range, decide_eq_true_eq]
  rintro ⟨j, hj, e⟩
  exact h j hj e
theorem idxOf_lt {l : List ByteArray} {i : Nat} (hi : i < l.length) : idxOf l (l.getD i default) < (i : Int) ↔ memN l i (l.getD i default) = true := by
  constructor
  · intro h
    by_cases hm : memN l i (l.getD i default) = true
    · exact hm
    · exfalso
      have hn : ∀ j, j < i → l.getD j default ≠ l.getD i default := fun j hj e => hm (memN_true hj e)
      rw [idxOf_some (k := i) hi rfl hn] at h
      omega
  · intro h
    simp only [memN, List.any_eq_true, List.mem_range, decide_eq_true_eq] at h
    have hex : ∃ j, j < i ∧ l.getD j default = l.getD i default := h
    have : ∃ k, k < i ∧ l.getD k default = l.getD i default ∧ ∀ j, j < k → l.getD j default ≠ l.getD i default := by
      obtain ⟨j, hj, e⟩ := hex
      clear h
      induction j using Nat.strongRecOn with
      | _ j ih =>
        by_cases hb : ∃ m, m < j ∧ l.getD m default = l.getD i default
        · obtain ⟨m, hm, e2⟩ := hb
          exact ih m hm (by omega) e2
        · exact ⟨j, hj, e, fun m hm e2 => hb ⟨m, hm, e2⟩⟩
    obtain ⟨k, hk, e, hf⟩ := this
    rw [idxOf_some (k := k) (by omega) e hf]
    omega
end Go.Abs

namespace Go.Abs
open Go.Proofs
set_option maxRecDepth 10000
theorem ac_slices_Clone_string (n : Nat) (g : Nat → List PV) (hn : n ≤ 1048576) : AC Tryz.prog 54 [.pv (.ro 1 n g)] [] (.own 0) [(0, .row 1 n g)] := by
  refine AC.nil_split (pre := []) (post := []) ?_ (fun h => ?_)
  · refine AC.of_awp_own (T := T) T_ok hm Tryz.call54 Tryz.func54 rfl rfl rfl ?_
    conv => whnf
    refine ⟨by omega, ?_⟩
    conv => whnf
    exact ⟨by omega, fun i hi => by simpa using PSubs.rfl⟩
  · refine AC.of_awp_own (T := T) T_ok hm Tryz.call54 Tryz.func54 rfl rfl rfl ?_
    conv => whnf
    exact h
end Go.Abs

namespace Go.Abs
open Go.Proofs
set_option maxRecDepth 10000
def noAttr : Attr := ⟨⟨#[]⟩, 0, 0, 0, [], false, false⟩
def smallL {α : Type} (l : List α) : Prop := l.length ≤ 1048576
def smallA (a : Attr) : Prop := smallL a.enum
def smallC (c : Cmd) : Prop := smallA c.param ∧ smallL c.effects
def smallK (c : Clu) : Prop := smallL c.attrs ∧ (∀ i, smallA (c.attrs.getD i default)) ∧ smallL c.commands ∧ (∀ i, smallC (c.commands.getD i default)) ∧ smallL c.events
def firstI (n : Nat) (p : Nat → Bool) : Nat := match (List.range n).find? p with | some i => i | none => n
theorem firstI_at {n k : Nat} {p : Nat → Bool} (hk : k < n) (h : p k = true) (hf : ∀ j, j < k → p j = false) : firstI n p = k := by
  have : (List.range n).find? p = some k := by
    rw [List.find?_range_eq_some]
    exact ⟨h, by simpa using hk, fun j hj => by simpa using hf j hj⟩
  simp only [firstI, this]
theorem firstI_none {n : Nat} {p : Nat → Bool} (hf : ∀ j, j < n → p j = false) : firstI n p = n := by
  have : (List.range n).find? p = none := by
    rw [List.find?_eq_none]
    intro x hx
    simpa using hf x (by simpa using hx)
  simp only [firstI, this]
def attrAt (l : List Attr) (s : ByteArray) : Nat := firstI l.length fun i => decide ((l.getD i default).name = s)
def attrOf (l : List Attr) (s : ByteArray) : Attr := if attrAt l s < l.length then l.getD (attrAt l s) default else noAttr
theorem ac_cluster_Attr (c : Clu) (s : ByteArray) (hc : smallK c) : AC Tryz.prog 83 [.pv (.agg (cClu c)), .pv (vstr s)] [] (.pv (.tup [.agg (cAttr (attrOf c.attrs s)), vbool (decide (attrAt c.attrs s < c.attrs.length))])) [] := by
  have hl : c.attrs.length ≤ 1048576 := hc.1
  refine AC.of_awp (T := T) T_ok hm Tryz.call83 Tryz.func83 rfl rfl rfl ?_
  conv => whnf
  refine ⟨Nat, fun k => k ≤ c.attrs.length ∧ ∀ j, j < k → decide ((c.attrs.getD j default).name = s) = false, fun k => ⟨[(1, .pv (vstr s)), (4, .ptr 4 0), (9, .pv (roL 7 cAttr c.attrs)), (10, .pv (vint c.attrs.length)), (11, .pv (vint k))], [(4, .pbox (cAttr noAttr))]⟩, fun k => c.attrs.length - k, 0, [], ⟨Nat.zero_le _, fun j h => absurd h (by omega)⟩, ?_, fun k hk => ?_⟩
  · exact ⟨⟨⟨.rfl, .rfl, .rfl, .rfl, PSub.nil_ro _ _, PSub.lit_sb rfl, PSub.lit_sb rfl, trivial⟩, trivial⟩, .rfl, rfl, .rfl, .rfl, .rfl⟩
  conv => whnf
  refine ⟨fun h => ?_, fun h => ?_⟩
  · simp only [decide_eq_true_eq] at h
    conv => whnf
    refine ⟨by omega, ?_⟩
    conv => whnf
    refine ⟨fun h2 => ?_, fun h2 => ?_⟩
    · conv => whnf
      refine .inr (.inl ⟨_, _, _, ac_slices_Clone_string _ _ (hc.2.1 k), ?_⟩)
      conv => whnf
      have ea : attrAt c.attrs s = k := firstI_at (by omega) h2 hk.2
      have hlt : k < c.attrs.length := by omega
      refine ⟨?_, ?_⟩
      · conv => whnf
        exact PSub.of_eq (by rw [attrOf, ea, if_pos hlt]; rfl)
      · conv => whnf
        exact PSub.lit_sb (by rw [ea]; simp [hlt])
    · conv => whnf
      refine .inl ⟨wrap64 (by omega), ?_⟩
      conv => whnf
      refine ⟨k + 1, [], ⟨by omega, fun j hj => ?_⟩, by dsimp only; omega, ⟨PSubs.rfl, trivial⟩, .rfl, rfl, .rfl, .rfl, .rfl⟩
      by_cases e : j = k
      · subst e; exact h2
      · exact hk.2 j (by omega)
  · conv => whnf
    simp only [decide_eq_false_iff_not] at h
    have ea : attrAt c.attrs s = c.attrs.length := firstI_none fun j hj => hk.2 j (by omega)
    refine ⟨?_, ?_⟩
    · conv => whnf
      rw [attrOf, ea, if_neg (by omega)]
      exact PSub.agg ⟨.rfl, .rfl, .rfl, .rfl, PSub.nil_ro _ _, PSub.lit_sb rfl, PSub.lit_sb rfl, trivial⟩
    · conv => whnf
      exact PSub.lit_sb (by rw [ea]; simp)
def manyE (l : List Cmd) : Bool := (List.range l.length).any fun i => decide (12 < (l.getD i default).effects.length)
theorem manyE_true {l : List Cmd} {k : Nat} (hk : k < l.length) (h : 12 < (l.getD k default).effects.length) : manyE l = true := by
  simp only [manyE, List.any_eq_true, List.mem_range, decide_eq_true_eq]
  exact ⟨k, hk, h⟩
theorem manyE_false {l : List Cmd} (h : ∀ j, j < l.length → ¬ 12 < (l.getD j default).effects.length) : manyE l = false := by
  rw [← Bool.not_eq_true]
  simp only [manyE, List.any_eq_true, List.mem_range, decide_eq_true_eq]
  rintro ⟨j, hj, e⟩
  exact h j hj e
def wideB (c : Clu) : Bool := decide (12 < c.attrs.length) || decide (12 < c.commands.length) || decide (12 < c.events.length) || manyE c.commands
theorem ac_cluster_wide (c : Clu) (hc : smallK c) : AC Tryz.prog 122 [.pv (.agg (cClu c))] [] (.pv (vbool (wideB c))) [] := by
  have hl : c.commands.length ≤ 1048576 := hc.2.2.1
  refine AC.of_awp (T := T) T_ok hm Tryz.call122 Tryz.func122 rfl rfl rfl ?_
  conv => whnf
  refine ⟨Nat, fun k => k ≤ c.commands.length ∧ ∀ j, j < k → ¬ 12 < (c.commands.getD j default).effects.length, fun k => ⟨[(1, .ptr 1 0), (6, .pv (roL 9 cCmd c.commands)), (7, .pv (vint c.commands.length)), (8, .pv (vint k))], [(1, .pbox (cClu c))]⟩, fun k => c.commands.length - k, 0, [], ⟨Nat.zero_le _, fun j h => absurd h (by omega)⟩, ⟨⟨PSubs.rfl, trivial⟩, rfl, .rfl, .rfl, .rfl⟩, fun k hk => ?_⟩
  conv => whnf
  refine ⟨fun h => ?_, fun h => ?_⟩
  · simp only [decide_eq_true_eq] at h
    conv => whnf
    refine ⟨by omega, ?_⟩
    conv => whnf
    refine ⟨fun h2 => ?_, fun h2 => ?_⟩
    · conv => whnf
      simp only [decide_eq_true_eq, Int.toNat_natCast] at h2
      exact PSub.lit_sb (by rw [wideB, manyE_true (k := k) (by omega) (by omega)]; simp)
    · conv => whnf
      simp only [decide_eq_false_iff_not, Int.toNat_natCast] at h2
      refine .inl ⟨wrap64 (by omega), ?_⟩
      conv => whnf
      refine ⟨k + 1, [], ⟨by omega, fun j hj => ?_⟩, by dsimp only; omega, ⟨PSubs.rfl, trivial⟩, rfl, .rfl, .rfl, .rfl⟩
      by_cases e : j = k
      · subst e; omega
      · exact hk.2 j (by omega)
  · simp only [decide_eq_false_iff_not] at h
    have em : manyE c.commands = false := manyE_false fun j hj => hk.2 j (by omega)
    have e0 : wideB c = (decide (12 < c.attrs.length) || decide (12 < c.commands.length) || decide (12 < c.events.length)) := by rw [wideB, em]; simp
    rw [e0]
    conv => whnf
    iterate 3 (all_goals first | (refine ⟨fun h => ?_, fun h => ?_⟩ <;> (conv => whnf)) | skip)
    all_goals simp only [decide_eq_true_eq, decide_eq_false_iff_not] at *
    all_goals first
      | exact PSub.lit_sb (by symm; simp; omega)
      | exact PSub.sb (by rw [Bool.eq_iff_iff]; simp; omega)
      | trace_state
end Go.Abs

namespace Go.Abs
open Go.Proofs
set_option maxRecDepth 10000
theorem list_eq {α : Type} [Inhabited α] {a b : List α} (hl : a.length = b.length) (h : ∀ i, i < a.length → a.getD i default = b.getD i default) : a = b := by
  apply List.ext_getElem hl
  intro i h1 h2
  have := h i h1
  simpa [List.getD, h1, h2] using this
theorem ac_slices_Equal_string (a b : List ByteArray) (ha : a.length ≤ 1048576) : AC Tryz.prog 157 [.pv (roL 1 cstr a), .pv (roL 1 cstr b)] [] (.pv (vbool (decide (a = b)))) [] := by
  refine AC.of_awp (T := T) T_ok hm Tryz.call157 Tryz.func157 rfl rfl rfl ?_
  conv => whnf
  refine ⟨fun h => ?_, fun h => ?_⟩
  · conv => whnf
    simp only [Bool.not_eq_true', decide_eq_false_iff_not] at h
    exact PSub.lit_sb (by symm; simp only [decide_eq_false_iff_not]; intro e; exact h (by rw [e]))
  conv => whnf
  simp only [Bool.not_eq_false', decide_eq_true_eq] at h
  refine ⟨Nat, fun k => k ≤ a.length ∧ ∀ j, j < k → a.getD j default = b.getD j default, fun k => ⟨[(0, .pv (roL 1 cstr a)), (1, .pv (roL 1 cstr b)), (12, .pv (vint a.length)), (13, .pv (vint k))], []⟩, fun k => a.length - k, 0, [], ⟨Nat.zero_le _, fun j h => absurd h (by omega)⟩, ⟨.rfl, .rfl, .rfl, .rfl⟩, fun k hk => ?_⟩
  conv => whnf
  refine ⟨fun h2 => ?_, fun h2 => ?_⟩
  · simp only [decide_eq_true_eq] at h2
    conv => whnf
    refine ⟨by kernel_rfl, ?_⟩
    conv => whnf
    refine ⟨by omega, ?_⟩
    conv => whnf
    refine ⟨by omega, ?_⟩
    conv => whnf
    refine ⟨by kernel_rfl, ?_⟩
    conv => whnf
    refine ⟨fun h3 => ?_, fun h3 => ?_⟩
    · conv => whnf
      simp only [Bool.not_eq_true', decide_eq_false_iff_not] at h3
      exact PSub.lit_sb (by symm; simp only [decide_eq_false_iff_not]; intro e; exact h3 (by rw [e]))
    · conv => whnf
      simp only [Bool.not_eq_false', decide_eq_true_eq, Int.toNat_natCast] at h3
      refine .inl ⟨wrap64 (by omega), ?_⟩
      conv => whnf
      refine ⟨k + 1, [], ⟨by omega, fun j hj => ?_⟩, by dsimp only; omega, .rfl, .rfl, .rfl, .rfl⟩
      by_cases e : j = k
      · subst e; exact h3
      · exact hk.2 j (by omega)
  · conv => whnf
    simp only [decide_eq_false_iff_not] at h2
    exact PSub.lit_sb (by symm; simp only [decide_eq_true_eq]; exact list_eq (by omega) fun i hi => hk.2 i (by omega))
theorem ac_slices_Contains_string (l : List ByteArray) (n : Nat) (x : ByteArray) (hl : l.length ≤ 1048576) : AC Tryz.prog 98 [.pv (roL 1 cstr l), .pv (vstr x)] [] (.pv (vbool (decide (0 ≤ idxOf l x)))) [] := by
  refine AC.of_awp (T := T) T_ok hm Tryz.call98 Tryz.func98 rfl rfl rfl ?_
  conv => whnf
  refine .inl ⟨_, ac_slices_Index_string l x hl, ?_⟩
  conv => whnf
  exact PSub.rfl
end Go.Abs

namespace Go.Abs
open Go.Proofs
set_option maxRecDepth 10000
def idxN (l : List ByteArray) (n : Nat) (x : ByteArray) : Int := if firstI n (fun i => decide (l.getD i default = x)) < n then (firstI n (fun i => decide (l.getD i default = x)) : Int) else -1
theorem ac_slices_Index_string_n (l : List ByteArray) (n : Nat) (x : ByteArray) (hl : n ≤ 1048576) : AC Tryz.prog 100 [.pv (.ro 1 n fun i => cstr (l.getD i default)), .pv (vstr x)] [] (.pv (vint (idxN l n x))) [] := by
  refine AC.of_awp (T := T) T_ok hm Tryz.call100 Tryz.func100 rfl rfl rfl ?_
  conv => whnf
  refine ⟨Nat, fun k => k ≤ n ∧ ∀ j, j < k → decide (l.getD j default = x) = false, fun k => ⟨[(0, .pv (.ro 1 n fun i => cstr (l.getD i default))), (1, .pv (vstr x)), (7, .pv (vint n)), (8, .pv (vint k))], []⟩, fun k => n - k, 0, [], ⟨Nat.zero_le _, fun j h => absurd h (by omega)⟩, ⟨.rfl, .rfl, .rfl, .rfl⟩, fun k hk => ?_⟩
  conv => whnf
  refine ⟨fun h => ?_, fun h => ?_⟩
  · simp only [decide_eq_true_eq] at h
    refine ⟨by omega, ?_⟩
    conv => whnf
    refine ⟨fun h2 => ?_, fun h2 => ?_⟩
    · conv => whnf
      simp only [decide_eq_true_eq, Int.toNat_natCast] at h2
      have e : firstI n (fun i => decide (l.getD i default = x)) = k := firstI_at (by omega) (by simpa using h2.symm) hk.2
      exact PSub.int (by rw [idxN, e, if_pos (by omega)])
    · conv => whnf
      refine .inl ⟨wrap64 (by omega), ?_⟩
      conv => whnf
      simp only [decide_eq_false_iff_not, Int.toNat_natCast] at h2
      refine ⟨k + 1, [], ⟨by omega, fun j hj => ?_⟩, by dsimp only; omega, .rfl, .rfl, .rfl, .rfl⟩
      by_cases e : j = k
      · subst e; simpa using fun e => h2 e.symm
      · exact hk.2 j (by omega)
  · conv => whnf
    simp only [decide_eq_false_iff_not] at h
    have e : firstI n (fun i => decide (l.getD i default = x)) = n := firstI_none fun j hj => hk.2 j (by omega)
    exact PSub.int (by rw [idxN, e, if_neg (by omega)])
theorem idxN_mem {l : List ByteArray} {n : Nat} {x : ByteArray} : decide (0 ≤ idxN l n x) = memN l n x := by
  by_cases h : ∃ j, j < n ∧ l.getD j default = x
  · obtain ⟨j, hj, e⟩ := h
    rw [memN_true hj e]
    unfold idxN
    split
    · simp
    · rename_i hn
      exfalso
      have hnone : (List.range n).find? (fun i => decide (l.getD i default = x)) = none := by
        cases hf : (List.range n).find? (fun i => decide (l.getD i default = x)) with
        | none => rfl
        | some i =>
          exfalso
          apply hn
          simp only [firstI, hf]
          have := List.mem_of_find?_eq_some hf
          simpa using this
      rw [List.find?_eq_none] at hnone
      exact hnone j (by simpa using hj) (by simpa using e)
  · rw [memN_false fun j hj e => h ⟨j, hj, e⟩]
    have e : firstI n (fun i => decide (l.getD i default = x)) = n := firstI_none fun j hj => by simpa using fun e => h ⟨j, hj, e⟩
    unfold idxN
    rw [e, if_neg (by omega)]
    simp
theorem ac_slices_Contains_string_n (l : List ByteArray) (n : Nat) (x : ByteArray) (hl : n ≤ 1048576) : AC Tryz.prog 98 [.pv (.ro 1 n fun i => cstr (l.getD i default)), .pv (vstr x)] [] (.pv (vbool (memN l n x))) [] := by
  refine AC.of_awp (T := T) T_ok hm Tryz.call98 Tryz.func98 rfl rfl rfl ?_
  conv => whnf
  refine .inl ⟨_, ac_slices_Index_string_n l n x hl, ?_⟩
  conv => whnf
  exact PSub.sb idxN_mem
end Go.Abs

namespace Go.Abs
open Go.Proofs
set_option maxRecDepth 10000
def alikeB (a b : Attr) : Bool := decide (a.kind = b.kind) && decide (a.enum = b.enum)
theorem ac_cluster_alike (a b : Attr) (ha : smallA a) : AC Tryz.prog 154 [.pv (.agg (cAttr a)), .pv (.agg (cAttr b))] [] (.pv (vbool (alikeB a b))) [] := by
  refine AC.of_awp (T := T) T_ok hm Tryz.call154 Tryz.func154 rfl rfl rfl ?_
  conv => whnf
  refine ⟨fun h => ?_, fun h => ?_⟩
  · conv => whnf
    refine .inl ⟨_, ac_slices_Equal_string a.enum b.enum ha, ?_⟩
    conv => whnf
    exact PSub.sb (by simp [alikeB, h])
  · conv => whnf
    exact PSub.lit_sb (by simp [alikeB, h])
end Go.Abs

namespace Go.Abs
open Go.Proofs
set_option maxRecDepth 10000
def satI (n : Int) : Int := min (max n (-1099511627776)) 1099511627776
theorem ac_num_Sat (n : Int) : AC Tryz.prog 150 [.pv (vint n)] [] (.pv (vint (satI n))) [] := by
  refine AC.of_awp (T := T) T_ok hm Tryz.call150 Tryz.func150 rfl rfl rfl ?_
  conv => whnf
  exact PSub.int (by simp only [satI]; (repeat' split) <;> omega)
def suitsB (x : Eff) (a p : Attr) : Bool := if x.kind = 1 then decide (a.kind ≠ 4) && decide (fitsE a ⟨a.kind, x.n, ⟨#[]⟩⟩ = 0) else if x.kind = 2 then alikeB a p else if x.kind = 3 then decide (a.kind = 2) else decide (a.kind = 1)
theorem ac_cluster_suits (x : Eff) (a p : Attr) (ha : smallA a) : AC Tryz.prog 149 [.pv (.agg (cEff x)), .pv (.agg (cAttr a)), .pv (.agg (cAttr p))] [] (.pv (vbool (suitsB x a p))) [] := by
  refine AC.of_awp (T := T) T_ok hm Tryz.call149 Tryz.func149 rfl rfl rfl ?_
  conv => whnf
  repeat (any_goals (first
    | (refine ⟨fun (h : (_ : Bool) = true) => ?_, fun (h : (_ : Bool) = false) => ?_⟩ <;> (try simp only [decide_eq_true_eq, decide_eq_false_iff_not, Bool.not_eq_true', Bool.not_eq_false', Int.toNat_natCast, beq_iff_eq, decide_eq_decide, beq_eq_false_iff_ne, ne_eq, reduceCtorEq] at h) <;> (conv => whnf))
    | (refine .inl ⟨_, ac_value_Fits a ⟨a.kind, x.n, ⟨#[]⟩⟩ ha, ?_⟩; conv => whnf)
    | (refine .inl ⟨_, ac_cluster_alike a p ha, ?_⟩; conv => whnf)
    | (refine And.intro (by (try simp only [Int.toNat_natCast]); omega) ?_; conv => whnf)
    | (refine And.intro (show (_ : Bool) = true from by kernel_rfl) ?_; conv => whnf)
    | (refine .inl ⟨wrap64 (by omega), ?_⟩; conv => whnf)))
  all_goals (try simp only [decide_eq_true_eq, decide_eq_false_iff_not, Bool.not_eq_true', Bool.not_eq_false', Int.toNat_natCast, beq_iff_eq, decide_eq_decide, beq_eq_false_iff_ne, ne_eq, reduceCtorEq] at *)
  all_goals first
    | contradiction
    | (exfalso; omega)
    | exact PSub.rfl
    | (refine PSub.int ?_; simp only [suitsB]; (repeat' split) <;> first | rfl | omega | (simp_all [-List.getD_eq_getElem?_getD]; done) | (simp_all [-List.getD_eq_getElem?_getD]; omega))
    | (refine PSub.sb ?_; simp_all [suitsB, -List.getD_eq_getElem?_getD]; done)
    | (refine PSub.lit_sb ?_; simp_all [suitsB, -List.getD_eq_getElem?_getD]; done)
    | (refine PSub.sb_lit ?_; simp_all [suitsB, -List.getD_eq_getElem?_getD]; done)
    | (refine PSub.sb ?_; rw [Bool.eq_iff_iff]; simp_all [suitsB, -List.getD_eq_getElem?_getD]; done)
    | (refine PSub.lit_sb ?_; rw [Bool.eq_iff_iff]; simp_all [suitsB, -List.getD_eq_getElem?_getD]; done)
    | (refine PSub.sb_lit ?_; rw [Bool.eq_iff_iff]; simp_all [suitsB, -List.getD_eq_getElem?_getD]; done)
    | skip
def effE (c : Clu) (p : Attr) (x : Eff) : Int :=
  if x.kind < 1 ∨ 4 < x.kind then 7 else if ¬ attrAt c.attrs x.attr < c.attrs.length then 8 else if (attrOf c.attrs x.attr).writable = false then 24
  else if suitsB x (attrOf c.attrs x.attr) p = false then 11 else if x.kind = 3 ∧ satI x.n ≠ x.n then 2 else if (x.kind = 2 ∨ x.kind = 4) ∧ x.n ≠ 0 then 4 else 0
theorem small_attrOf {c : Clu} {s : ByteArray} (hc : smallK c) : smallA (attrOf c.attrs s) := by
  unfold attrOf
  split
  · exact hc.2.1 _
  · exact Nat.zero_le _
theorem ac_cluster_effect (c : Clu) (p : Attr) (x : Eff) (hc : smallK c) : AC Tryz.prog 142 [.pv (.agg (cClu c)), .pv (.agg (cAttr p)), .pv (.agg (cEff x))] [] (.pv (vint (effE c p x))) [] := by
  refine AC.of_awp (T := T) T_ok hm Tryz.call142 Tryz.func142 rfl rfl rfl ?_
  conv => whnf
  repeat (any_goals (first
    | (refine ⟨fun (h : (_ : Bool) = true) => ?_, fun (h : (_ : Bool) = false) => ?_⟩ <;> (try simp only [decide_eq_true_eq, decide_eq_false_iff_not, Bool.not_eq_true', Bool.not_eq_false', Int.toNat_natCast, beq_iff_eq, decide_eq_decide, beq_eq_false_iff_ne, ne_eq, reduceCtorEq] at h) <;> (conv => whnf))
    | (refine .inl ⟨_, ac_cluster_Attr c x.attr hc, ?_⟩; conv => whnf)
    | (refine .inl ⟨_, ac_cluster_suits x (attrOf c.attrs x.attr) p (small_attrOf hc), ?_⟩; conv => whnf)
    | (refine .inl ⟨_, ac_num_Sat x.n, ?_⟩; conv => whnf)
    | (refine And.intro (by (try simp only [Int.toNat_natCast]); omega) ?_; conv => whnf)
    | (refine And.intro (show (_ : Bool) = true from by kernel_rfl) ?_; conv => whnf)
    | (refine .inl ⟨wrap64 (by omega), ?_⟩; conv => whnf)))
  all_goals (try simp only [decide_eq_true_eq, decide_eq_false_iff_not, Bool.not_eq_true', Bool.not_eq_false', Int.toNat_natCast, beq_iff_eq, decide_eq_decide, beq_eq_false_iff_ne, ne_eq, reduceCtorEq] at *)
  all_goals first
    | contradiction
    | (exfalso; omega)
    | exact PSub.rfl
    | (refine PSub.int ?_; simp only [effE]; (repeat' split) <;> first | rfl | omega | (simp_all [-List.getD_eq_getElem?_getD]; done) | (simp_all [-List.getD_eq_getElem?_getD]; omega))
    | (refine PSub.sb ?_; simp_all [effE, -List.getD_eq_getElem?_getD]; done)
    | (refine PSub.lit_sb ?_; simp_all [effE, -List.getD_eq_getElem?_getD]; done)
    | (refine PSub.sb_lit ?_; simp_all [effE, -List.getD_eq_getElem?_getD]; done)
    | (refine PSub.sb ?_; rw [Bool.eq_iff_iff]; simp_all [effE, -List.getD_eq_getElem?_getD]; done)
    | (refine PSub.lit_sb ?_; rw [Bool.eq_iff_iff]; simp_all [effE, -List.getD_eq_getElem?_getD]; done)
    | (refine PSub.sb_lit ?_; rw [Bool.eq_iff_iff]; simp_all [effE, -List.getD_eq_getElem?_getD]; done)
    | skip
def zeroA (a : Attr) : Bool := decide (a = noAttr)
theorem zeroA_iff {a : Attr} : zeroA a = true ↔ (a.name = ⟨#[]⟩ ∧ a.kind = 0 ∧ a.min = 0 ∧ a.max = 0 ∧ a.enum.length = 0 ∧ a.writable = false ∧ a.safety = false) := by
  obtain ⟨a1, a2, a3, a4, a5, a6, a7⟩ := a
  simp [zeroA, noAttr]
theorem ac_cluster_zero (a : Attr) : AC Tryz.prog 141 [.pv (.agg (cAttr a))] [] (.pv (vbool (zeroA a))) [] := by
  refine AC.of_awp (T := T) T_ok hm Tryz.call141 Tryz.func141 rfl rfl rfl ?_
  conv => whnf
  repeat (any_goals (first
    | (refine ⟨fun (h : (_ : Bool) = true) => ?_, fun (h : (_ : Bool) = false) => ?_⟩ <;> (try simp only [decide_eq_true_eq, decide_eq_false_iff_not, Bool.not_eq_true', Bool.not_eq_false', Int.toNat_natCast, beq_iff_eq, decide_eq_decide, beq_eq_false_iff_ne, ne_eq, reduceCtorEq] at h) <;> (conv => whnf))
    | (refine And.intro (by (try simp only [Int.toNat_natCast]); omega) ?_; conv => whnf)
    | (refine And.intro (show (_ : Bool) = true from by kernel_rfl) ?_; conv => whnf)
    | (refine .inl ⟨wrap64 (by omega), ?_⟩; conv => whnf)))
  all_goals first | (refine PSub.sb ?_ ; rw [Bool.eq_iff_iff, zeroA_iff]; simp_all; done) | (refine PSub.lit_sb ?_ ; rw [Bool.eq_iff_iff, zeroA_iff]; simp_all; done) | skip
end Go.Abs

namespace Go.Abs
open Go.Proofs
set_option maxRecDepth 10000
def anyN (n : Nat) (p : Nat → Bool) : Bool := (List.range n).any p
theorem anyN_true {n k : Nat} {p : Nat → Bool} (hk : k < n) (h : p k = true) : anyN n p = true := by
  simp only [anyN, List.any_eq_true, List.mem_range]
  exact ⟨k, hk, h⟩
theorem anyN_false {n : Nat} {p : Nat → Bool} (h : ∀ j, j < n → p j = false) : anyN n p = false := by
  rw [← Bool.not_eq_true]
  simp only [anyN, List.any_eq_true, List.mem_range]
  rintro ⟨j, hj, e⟩
  rw [h j hj] at e; cases e
theorem anyN_iff {n : Nat} {p : Nat → Bool} : anyN n p = true ↔ ∃ k, k < n ∧ p k = true := by simp [anyN]
def cmdE (c : Clu) (i : Nat) : Int :=
  if validName (c.commands.getD i default).name = false then 10 else if anyN i (fun j => decide ((c.commands.getD j default).name = (c.commands.getD i default).name)) = true then 9
  else if (c.commands.getD i default).param.kind = 0 ∧ zeroA (c.commands.getD i default).param = false then 4
  else if (c.commands.getD i default).param.kind ≠ 0 ∧ defE (c.commands.getD i default).param ≠ 0 then defE (c.commands.getD i default).param
  else firstE (c.commands.getD i default).effects.length fun j => effE c (c.commands.getD i default).param ((c.commands.getD i default).effects.getD j default)
def zAttr : List PV := [vstr ⟨#[]⟩, vint 0, vint 0, vint 0, .val (.slice none 0 0), .val (.bool false), .val (.bool false)]
theorem noAttr_cells : PSubs zAttr (cAttr noAttr) := ⟨.rfl, .rfl, .rfl, .rfl, PSub.nil_ro _ _, PSub.lit_sb rfl, PSub.lit_sb rfl, trivial⟩
theorem ac_cluster_numbered (c : Clu) (i : Nat) (hc : smallK c) (hi : i < c.commands.length) : AC Tryz.prog 124 [.pv (.agg (cClu c)), .pv (vint i)] [] (.pv (vint (cmdE c i))) [] := by
  have hl : c.commands.length ≤ 1048576 := hc.2.2.1
  have hd := hc.2.2.2.1 i
  have hd2 : (c.commands.getD i default).effects.length ≤ 1048576 := hd.2
  refine AC.of_awp (T := T) T_ok hm Tryz.call124 Tryz.func124 rfl rfl rfl ?_
  conv => whnf
  refine And.intro (by omega) ?_
  conv => whnf
  refine .inl ⟨_, ac_names_Valid (c.commands.getD i default).name, ?_⟩
  conv => whnf
  refine ⟨fun h => ?_, fun h => ?_⟩ <;> (try simp only [decide_eq_true_eq, decide_eq_false_iff_not, Bool.not_eq_true', Bool.not_eq_false', Int.toNat_natCast, beq_iff_eq, decide_eq_decide, beq_eq_false_iff_ne, ne_eq, reduceCtorEq] at h) <;> (conv => whnf)
  · exact PSub.int (by simp [cmdE, h, -List.getD_eq_getElem?_getD])
  refine And.intro (by omega) ?_
  conv => whnf
  have hv := h
  refine loop_k (ι := Nat) [2, 5, 24, 25] [2, 5] (fun k => k ≤ i ∧ (∀ j, j < k → decide ((c.commands.getD j default).name = (c.commands.getD i default).name) = false)) (fun k => i - k) 0 (fun k => [(26, .pv (vint k))]) (fun _ => []) [] ⟨Nat.zero_le _, fun j h => absurd h (by omega)⟩ ?_ (fun k hk => ?_)
  · (repeat' (first | exact PSub.rfl | exact rfl | exact PSubs.rfl | exact trivial | exact PSub.lit_sb rfl | refine And.intro ?_ ?_))
  obtain ⟨hkn, hinv⟩ := hk
  conv => whnf
  repeat (any_goals (first
    | (refine ⟨fun (h : (_ : Bool) = true) => ?_, fun (h : (_ : Bool) = false) => ?_⟩ <;> (try simp only [decide_eq_true_eq, decide_eq_false_iff_not, Bool.not_eq_true', Bool.not_eq_false', Int.toNat_natCast, beq_iff_eq, decide_eq_decide, beq_eq_false_iff_ne, ne_eq, reduceCtorEq] at h) <;> (conv => whnf))
    | (refine .inl ⟨_, ac_cluster_zero (c.commands.getD i default).param, ?_⟩; conv => whnf)
    | (refine .inl ⟨_, ac_value_Def (c.commands.getD i default).param hd.1, ?_⟩; conv => whnf)
    | (refine And.intro (by (try simp only [Int.toNat_natCast]); omega) ?_; conv => whnf)
    | (refine And.intro (show (_ : Bool) = true from by kernel_rfl) ?_; conv => whnf)
    | (refine .inl ⟨wrap64 (by omega), ?_⟩; conv => whnf)))
  case' refine_2.refine_2.refine_1.refine_2 =>
    refine ⟨k + 1, [], ⟨by omega, ?_⟩, by first | omega | (dsimp only; omega), ?_⟩
    rotate_left
    · (repeat' (first | exact PSub.rfl | exact rfl | exact PSubs.rfl | exact trivial | exact PSub.lit_sb rfl | refine And.intro ?_ ?_))
    intro j hj
    by_cases e : j = k
    · subst e; first | exact h | simpa [-List.getD_eq_getElem?_getD] using h | simp_all [-List.getD_eq_getElem?_getD]
    · exact hinv j (by omega)
  · have e := anyN_true (n := i) (p := fun j => decide ((c.commands.getD j default).name = (c.commands.getD i default).name)) (k := k) (by omega) (by simpa [-List.getD_eq_getElem?_getD] using h)
    exact PSub.int (by simp [cmdE, hv, e, -List.getD_eq_getElem?_getD])
  all_goals have ef : anyN i (fun j => decide ((c.commands.getD j default).name = (c.commands.getD i default).name)) = false := anyN_false fun j hj => hinv j (by omega)
  all_goals try (exact PSub.int (by simp_all [cmdE, -List.getD_eq_getElem?_getD]; done))
  all_goals
    have e0 : cmdE c i = firstE (c.commands.getD i default).effects.length fun j => effE c (c.commands.getD i default).param ((c.commands.getD i default).effects.getD j default) := by simp_all [cmdE, -List.getD_eq_getElem?_getD]
    rw [e0]
    clear hinv hkn
    refine loop_k (ι := Nat) [2, 5, 51, 52] [2, 5] (fun k2 => k2 ≤ (c.commands.getD i default).effects.length ∧ (∀ j, j < k2 → effE c (c.commands.getD i default).param ((c.commands.getD i default).effects.getD j default) = 0)) (fun k2 => (c.commands.getD i default).effects.length - k2) 0 (fun k2 => [(53, .pv (vint k2))]) (fun _ => []) [] ⟨Nat.zero_le _, fun j h => absurd h (by omega)⟩ ?_ (fun k2 hk => ?_)
    · (repeat' (first | exact PSub.rfl | exact rfl | exact PSubs.rfl | exact trivial | exact PSub.lit_sb rfl | refine And.intro ?_ ?_))
    obtain ⟨hkn, hinv⟩ := hk
    conv => whnf
    repeat (any_goals (first
      | (refine ⟨fun (h : (_ : Bool) = true) => ?_, fun (h : (_ : Bool) = false) => ?_⟩ <;> (try simp only [decide_eq_true_eq, decide_eq_false_iff_not, Bool.not_eq_true', Bool.not_eq_false', Int.toNat_natCast, beq_iff_eq, decide_eq_decide, beq_eq_false_iff_ne, ne_eq, reduceCtorEq] at h) <;> (conv => whnf))
      | (refine .inl ⟨_, ac_cluster_effect c (c.commands.getD i default).param ((c.commands.getD i default).effects.getD k2 default) hc, ?_⟩; conv => whnf)
      | (refine And.intro (by (try simp only [Int.toNat_natCast]); omega) ?_; conv => whnf)
      | (refine And.intro (show (_ : Bool) = true from by kernel_rfl) ?_; conv => whnf)
      | (refine .inl ⟨wrap64 (by omega), ?_⟩; conv => whnf)))
    · exact PSub.int (by rw [firstE_at (k := k2) (by omega) h hinv])
    · refine ⟨k2 + 1, [], ⟨by omega, ?_⟩, by first | omega | (dsimp only; omega), ?_⟩
      rotate_left
      · (repeat' (first | exact PSub.rfl | exact rfl | exact PSubs.rfl | exact trivial | exact PSub.lit_sb rfl | refine And.intro ?_ ?_))
      intro j hj
      by_cases e : j = k2
      · subst e; first | exact h | simpa [-List.getD_eq_getElem?_getD] using h | simp_all [-List.getD_eq_getElem?_getD]
      · exact hinv j (by omega)
    · exact PSub.int (by rw [firstE_none fun j hj => hinv j (by omega)])
end Go.Abs

namespace Go.Abs
open Go.Proofs
set_option maxRecDepth 10000
def attrE (l : List Attr) (i : Nat) : Int := if defE (l.getD i default) ≠ 0 then defE (l.getD i default) else if anyN i (fun j => decide ((l.getD j default).name = (l.getD i default).name)) = true then 9 else 0
def evE (l : List ByteArray) (i : Nat) : Int := if validName (l.getD i default) = false then 10 else if memN l i (l.getD i default) = true then 9 else 0
def checkE (c : Clu) : Int :=
  if validName c.name = false then 10 else if wideB c = true then 3
  else if firstE c.attrs.length (attrE c.attrs) ≠ 0 then firstE c.attrs.length (attrE c.attrs)
  else if firstE c.commands.length (cmdE c) ≠ 0 then firstE c.commands.length (cmdE c)
  else firstE c.events.length (evE c.events)
theorem ac_cluster_Check (c : Clu) (hc : smallK c) : AC Tryz.prog 91 [.pv (.agg (cClu c))] [] (.pv (vint (checkE c))) [] := by
  have hl1 : c.attrs.length ≤ 1048576 := hc.1
  have hl2 : c.commands.length ≤ 1048576 := hc.2.2.1
  have hl3 : c.events.length ≤ 1048576 := hc.2.2.2.2
  refine AC.of_awp (T := T) T_ok hm Tryz.call91 Tryz.func91 rfl rfl rfl ?_
  conv => whnf
  refine .inl ⟨_, ac_names_Valid c.name, ?_⟩
  conv => whnf
  refine ⟨fun h => ?_, fun h => ?_⟩ <;> (try simp only [decide_eq_true_eq, decide_eq_false_iff_not, Bool.not_eq_true', Bool.not_eq_false', Int.toNat_natCast, beq_iff_eq, decide_eq_decide, beq_eq_false_iff_ne, ne_eq, reduceCtorEq] at h) <;> (conv => whnf)
  · exact PSub.int (by simp [checkE, h, -List.getD_eq_getElem?_getD])
  have hv := h
  refine .inl ⟨_, ac_cluster_wide c hc, ?_⟩
  conv => whnf
  refine ⟨fun h => ?_, fun h => ?_⟩ <;> (try simp only [decide_eq_true_eq, decide_eq_false_iff_not, Bool.not_eq_true', Bool.not_eq_false', Int.toNat_natCast, beq_iff_eq, decide_eq_decide, beq_eq_false_iff_ne, ne_eq, reduceCtorEq] at h) <;> (conv => whnf)
  · exact PSub.int (by simp [checkE, h, hv, -List.getD_eq_getElem?_getD])
  have hw := h
  refine loop_k (ι := Nat) [1, 19, 20] [1] (fun k => k ≤ c.attrs.length ∧ (∀ j, j < k → attrE c.attrs j = 0)) (fun k => c.attrs.length - k) 0 (fun k => [(21, .pv (vint k))]) (fun _ => []) [] ⟨Nat.zero_le _, fun j h => absurd h (by omega)⟩ ?_ (fun k hk => ?_)
  · (repeat' (first | exact PSub.rfl | exact rfl | exact PSubs.rfl | exact trivial | exact PSub.lit_sb rfl | refine And.intro ?_ ?_))
  obtain ⟨hkn, hinv⟩ := hk
  conv => whnf
  refine ⟨fun h => ?_, fun h => ?_⟩ <;> (try simp only [decide_eq_true_eq, decide_eq_false_iff_not, Bool.not_eq_true', Bool.not_eq_false', Int.toNat_natCast, beq_iff_eq, decide_eq_decide, beq_eq_false_iff_ne, ne_eq, reduceCtorEq] at h) <;> (conv => whnf)
  · refine And.intro (by omega) ?_
    conv => whnf
    refine .inl ⟨_, ac_value_Def (c.attrs.getD k default) (hc.2.1 k), ?_⟩
    conv => whnf
    refine ⟨fun h => ?_, fun h => ?_⟩ <;> (try simp only [decide_eq_true_eq, decide_eq_false_iff_not, Bool.not_eq_true', Bool.not_eq_false', Int.toNat_natCast, beq_iff_eq, decide_eq_decide, beq_eq_false_iff_ne, ne_eq, reduceCtorEq] at h) <;> (conv => whnf)
    · have e : attrE c.attrs k = defE (c.attrs.getD k default) := by simp [attrE, h, -List.getD_eq_getElem?_getD]
      have e2 := firstE_at (n := c.attrs.length) (k := k) (f := attrE c.attrs) (by omega) (by rw [e]; exact h) hinv
      rw [e] at e2
      exact PSub.int (by simp [checkE, e2, h, hv, hw, -List.getD_eq_getElem?_getD])
    have hd := h
    refine And.intro (by omega) ?_
    conv => whnf
    have hinv1 := hinv
    refine loop_k (ι := Nat) [1, 4, 19, 20, 21, 34, 35] [1, 4] (fun k2 => k2 ≤ k ∧ (∀ j, j < k2 → decide ((c.attrs.getD j default).name = (c.attrs.getD k default).name) = false)) (fun k2 => k - k2) 0 (fun k2 => [(36, .pv (vint k2))]) (fun _ => []) [] ⟨Nat.zero_le _, fun j h => absurd h (by omega)⟩ ?_ (fun k2 hk => ?_)
    · (repeat' (first | exact PSub.rfl | exact rfl | exact PSubs.rfl | exact trivial | exact PSub.lit_sb rfl | refine And.intro ?_ ?_))
    obtain ⟨hkn, hinv⟩ := hk
    conv => whnf
    repeat (any_goals (first
      | (refine ⟨fun (h : (_ : Bool) = true) => ?_, fun (h : (_ : Bool) = false) => ?_⟩ <;> (try simp only [decide_eq_true_eq, decide_eq_false_iff_not, Bool.not_eq_true', Bool.not_eq_false', Int.toNat_natCast, beq_iff_eq, decide_eq_decide, beq_eq_false_iff_ne, ne_eq, reduceCtorEq] at h) <;> (conv => whnf))
      | (refine And.intro (by (try simp only [Int.toNat_natCast]); omega) ?_; conv => whnf)
      | (refine And.intro (show (_ : Bool) = true from by kernel_rfl) ?_; conv => whnf)
      | (refine .inl ⟨wrap64 (by omega), ?_⟩; conv => whnf)))
    · have e0 := anyN_true (n := k) (k := k2) (p := fun j => decide ((c.attrs.getD j default).name = (c.attrs.getD k default).name)) (by omega) (by simpa [-List.getD_eq_getElem?_getD] using h)
      have e : attrE c.attrs k = 9 := by simp [attrE, hd, e0, -List.getD_eq_getElem?_getD]
      have e2 := firstE_at (n := c.attrs.length) (k := k) (f := attrE c.attrs) (by omega) (by rw [e]; decide) hinv1
      rw [e] at e2
      exact PSub.int (by simp [checkE, e2, hv, hw, -List.getD_eq_getElem?_getD])
    · refine ⟨k2 + 1, [], ⟨by omega, ?_⟩, by first | omega | (dsimp only; omega), ?_⟩
      rotate_left
      · (repeat' (first | exact PSub.rfl | exact rfl | exact PSubs.rfl | exact trivial | exact PSub.lit_sb rfl | refine And.intro ?_ ?_))
      intro j hj
      by_cases e : j = k2
      · subst e; first | exact h | simpa [-List.getD_eq_getElem?_getD] using h | simp_all [-List.getD_eq_getElem?_getD]
      · exact hinv j (by omega)
    · have e0 := anyN_false (n := k) (p := fun j => decide ((c.attrs.getD j default).name = (c.attrs.getD k default).name)) (fun j hj => hinv j (by omega))
      have e : attrE c.attrs k = 0 := by simp [attrE, hd, e0, -List.getD_eq_getElem?_getD]
      refine ⟨k + 1, [], ⟨by omega, ?_⟩, by first | omega | (dsimp only; omega), ?_⟩
      rotate_left
      · (repeat' (first | exact PSub.rfl | exact rfl | exact PSubs.rfl | exact trivial | exact PSub.lit_sb rfl | refine And.intro ?_ ?_))
      intro j hj
      by_cases ee : j = k
      · subst ee; exact e
      · exact hinv1 j (by omega)
  have e1 : firstE c.attrs.length (attrE c.attrs) = 0 := firstE_none fun j hj => hinv j (by omega)
  clear hinv hkn h
  refine loop_k (ι := Nat) [1, 49] [1] (fun k => k ≤ c.commands.length ∧ (∀ j, j < k → cmdE c j = 0)) (fun k => c.commands.length - k) 0 (fun k => [(50, .pv (vint k))]) (fun _ => []) [] ⟨Nat.zero_le _, fun j h => absurd h (by omega)⟩ ?_ (fun k hk => ?_)
  · (repeat' (first | exact PSub.rfl | exact rfl | exact PSubs.rfl | exact trivial | exact PSub.lit_sb rfl | refine And.intro ?_ ?_))
  obtain ⟨hkn, hinv⟩ := hk
  conv => whnf
  refine ⟨fun h => ?_, fun h => ?_⟩ <;> (try simp only [decide_eq_true_eq, decide_eq_false_iff_not, Bool.not_eq_true', Bool.not_eq_false', Int.toNat_natCast, beq_iff_eq, decide_eq_decide, beq_eq_false_iff_ne, ne_eq, reduceCtorEq] at h) <;> (conv => whnf)
  · refine .inl ⟨_, ac_cluster_numbered c k hc (by omega), ?_⟩
    conv => whnf
    refine ⟨fun h => ?_, fun h => ?_⟩ <;> (try simp only [decide_eq_true_eq, decide_eq_false_iff_not, Bool.not_eq_true', Bool.not_eq_false', Int.toNat_natCast, beq_iff_eq, decide_eq_decide, beq_eq_false_iff_ne, ne_eq, reduceCtorEq] at h) <;> (conv => whnf)
    · have e2 := firstE_at (n := c.commands.length) (k := k) (f := cmdE c) (by omega) h hinv
      exact PSub.int (by simp [checkE, e1, e2, h, hv, hw, -List.getD_eq_getElem?_getD])
    refine .inl ⟨wrap64 (by omega), ?_⟩
    conv => whnf
    refine ⟨k + 1, [], ⟨by omega, ?_⟩, by first | omega | (dsimp only; omega), ?_⟩
    rotate_left
    · (repeat' (first | exact PSub.rfl | exact rfl | exact PSubs.rfl | exact trivial | exact PSub.lit_sb rfl | refine And.intro ?_ ?_))
    intro j hj
    by_cases e : j = k
    · subst e; first | exact h | simpa [-List.getD_eq_getElem?_getD] using h | simp_all [-List.getD_eq_getElem?_getD]
    · exact hinv j (by omega)
  have e2 : firstE c.commands.length (cmdE c) = 0 := firstE_none fun j hj => hinv j (by omega)
  have e0 : checkE c = firstE c.events.length (evE c.events) := by simp [checkE, e1, e2, hv, hw, -List.getD_eq_getElem?_getD]
  rw [e0]
  clear hinv hkn h
  refine loop_k (ι := Nat) [1, 61, 62] [1] (fun k => k ≤ c.events.length ∧ (∀ j, j < k → evE c.events j = 0)) (fun k => c.events.length - k) 0 (fun k => [(63, .pv (vint k))]) (fun _ => []) [] ⟨Nat.zero_le _, fun j h => absurd h (by omega)⟩ ?_ (fun k hk => ?_)
  · (repeat' (first | exact PSub.rfl | exact rfl | exact PSubs.rfl | exact trivial | exact PSub.lit_sb rfl | refine And.intro ?_ ?_))
  obtain ⟨hkn, hinv⟩ := hk
  conv => whnf
  repeat (any_goals (first
    | (refine ⟨fun (h : (_ : Bool) = true) => ?_, fun (h : (_ : Bool) = false) => ?_⟩ <;> (try simp only [decide_eq_true_eq, decide_eq_false_iff_not, Bool.not_eq_true', Bool.not_eq_false', Int.toNat_natCast, beq_iff_eq, decide_eq_decide, beq_eq_false_iff_ne, ne_eq, reduceCtorEq] at h) <;> (conv => whnf))
    | (refine .inl ⟨_, ac_names_Valid (c.events.getD k default), ?_⟩; conv => whnf)
    | (refine .inl ⟨_, ac_slices_Contains_string_n c.events k (c.events.getD k default) (by omega), ?_⟩; conv => whnf)
    | (refine And.intro (by (try simp only [Int.toNat_natCast]); omega) ?_; conv => whnf)
    | (refine And.intro (show (_ : Bool) = true from by kernel_rfl) ?_; conv => whnf)
    | (refine .inl ⟨wrap64 (by omega), ?_⟩; conv => whnf)))
  · have e : evE c.events k = 10 := by simp [evE, h, -List.getD_eq_getElem?_getD]
    exact PSub.int (by rw [firstE_at (k := k) (by omega) (by rw [e]; decide) hinv, e])
  · rename_i h'
    have e : evE c.events k = 9 := by simp [evE, h, h', -List.getD_eq_getElem?_getD]
    exact PSub.int (by rw [firstE_at (k := k) (by omega) (by rw [e]; decide) hinv, e])
  · rename_i h'
    refine ⟨k + 1, [], ⟨by omega, ?_⟩, by first | omega | (dsimp only; omega), ?_⟩
    rotate_left
    · (repeat' (first | exact PSub.rfl | exact rfl | exact PSubs.rfl | exact trivial | exact PSub.lit_sb rfl | refine And.intro ?_ ?_))
    intro j hj
    by_cases ee : j = k
    · subst ee; simp [evE, h, h', -List.getD_eq_getElem?_getD]
    · exact hinv j (by omega)
  · exact PSub.int (by rw [firstE_none fun j hj => hinv j (by omega)])
end Go.Abs

namespace Go.Abs
open Go.Proofs
set_option maxRecDepth 10000
def smallKs (l : List Clu) : Prop := smallL l ∧ ∀ i, smallK (l.getD i default)
def cluE (l : List Clu) (i : Nat) : Int := if checkE (l.getD i default) ≠ 0 then checkE (l.getD i default) else if anyN i (fun j => decide ((l.getD j default).name = (l.getD i default).name)) = true then 9 else 0
def allE (l : List Clu) : Int := if 256 < l.length then 3 else firstE l.length (cluE l)
theorem ac_cluster_All (l : List Clu) (hl : smallKs l) : AC Tryz.prog 62 [.pv (roL 4 cClu l)] [] (.pv (vint (allE l))) [] := by
  have hl1 : l.length ≤ 1048576 := hl.1
  refine AC.of_awp (T := T) T_ok hm Tryz.call62 Tryz.func62 rfl rfl rfl ?_
  conv => whnf
  refine ⟨fun h => ?_, fun h => ?_⟩ <;> (try simp only [decide_eq_true_eq, decide_eq_false_iff_not, Bool.not_eq_true', Bool.not_eq_false', Int.toNat_natCast, beq_iff_eq, decide_eq_decide, beq_eq_false_iff_ne, ne_eq, reduceCtorEq] at h) <;> (conv => whnf)
  · exact PSub.int (by rw [allE, if_pos (by omega)])
  rw [allE, if_neg (by omega)]
  clear h
  refine loop_k (ι := Nat) [0, 11, 12] [] (fun k => k ≤ l.length ∧ (∀ j, j < k → cluE l j = 0)) (fun k => l.length - k) 0 (fun k => [(13, .pv (vint k))]) (fun _ => []) [] ⟨Nat.zero_le _, fun j h => absurd h (by omega)⟩ ?_ (fun k hk => ?_)
  · (repeat' (first | exact PSub.rfl | exact rfl | exact PSubs.rfl | exact trivial | exact PSub.lit_sb rfl | refine And.intro ?_ ?_))
  obtain ⟨hkn, hinv⟩ := hk
  conv => whnf
  repeat (any_goals (first
    | (refine ⟨fun (h : (_ : Bool) = true) => ?_, fun (h : (_ : Bool) = false) => ?_⟩ <;> (try simp only [decide_eq_true_eq, decide_eq_false_iff_not, Bool.not_eq_true', Bool.not_eq_false', Int.toNat_natCast, beq_iff_eq, decide_eq_decide, beq_eq_false_iff_ne, ne_eq, reduceCtorEq] at h) <;> (conv => whnf))
    | (refine .inl ⟨_, ac_cluster_Check (l.getD k default) (hl.2 k), ?_⟩; conv => whnf)
    | (refine And.intro (by (try simp only [Int.toNat_natCast]); omega) ?_; conv => whnf)
    | (refine And.intro (show (_ : Bool) = true from by kernel_rfl) ?_; conv => whnf)
    | (refine .inl ⟨wrap64 (by omega), ?_⟩; conv => whnf)))
  · have e : cluE l k = checkE (l.getD k default) := by simp [cluE, h, -List.getD_eq_getElem?_getD]
    exact PSub.int (by rw [firstE_at (k := k) (by omega) (by rw [e]; exact h) hinv, e])
  · have hd := h
    have hinv1 := hinv
    refine loop_k (ι := Nat) [0, 4, 11, 12, 13, 25, 26] [4] (fun k2 => k2 ≤ k ∧ (∀ j, j < k2 → decide ((l.getD j default).name = (l.getD k default).name) = false)) (fun k2 => k - k2) 0 (fun k2 => [(27, .pv (vint k2))]) (fun _ => []) [] ⟨Nat.zero_le _, fun j h => absurd h (by omega)⟩ ?_ (fun k2 hk => ?_)
    · (repeat' (first | exact PSub.rfl | exact rfl | exact PSubs.rfl | exact trivial | exact PSub.lit_sb rfl | refine And.intro ?_ ?_))
    obtain ⟨hkn, hinv⟩ := hk
    conv => whnf
    repeat (any_goals (first
      | (refine ⟨fun (h : (_ : Bool) = true) => ?_, fun (h : (_ : Bool) = false) => ?_⟩ <;> (try simp only [decide_eq_true_eq, decide_eq_false_iff_not, Bool.not_eq_true', Bool.not_eq_false', Int.toNat_natCast, beq_iff_eq, decide_eq_decide, beq_eq_false_iff_ne, ne_eq, reduceCtorEq] at h) <;> (conv => whnf))
      | (refine And.intro (by (try simp only [Int.toNat_natCast]); omega) ?_; conv => whnf)
      | (refine And.intro (show (_ : Bool) = true from by kernel_rfl) ?_; conv => whnf)
      | (refine .inl ⟨wrap64 (by omega), ?_⟩; conv => whnf)))
    · have e := anyN_true (n := k) (k := k2) (p := fun j => decide ((l.getD j default).name = (l.getD k default).name)) (by omega) (by simpa [-List.getD_eq_getElem?_getD] using h)
      have e : cluE l k = 9 := by simp [cluE, hd, e, -List.getD_eq_getElem?_getD]
      exact PSub.int (by rw [firstE_at (k := k) (by omega) (by rw [e]; decide) hinv1, e])
    · refine ⟨k2 + 1, [], ⟨by omega, ?_⟩, by first | omega | (dsimp only; omega), ?_⟩
      rotate_left
      · (repeat' (first | exact PSub.rfl | exact rfl | exact PSubs.rfl | exact trivial | exact PSub.lit_sb rfl | refine And.intro ?_ ?_))
      intro j hj
      by_cases e : j = k2
      · subst e; first | exact h | simpa [-List.getD_eq_getElem?_getD] using h | simp_all [-List.getD_eq_getElem?_getD]
      · exact hinv j (by omega)
    · have e := anyN_false (n := k) (p := fun j => decide ((l.getD j default).name = (l.getD k default).name)) fun j hj => hinv j (by omega)
      refine ⟨k + 1, [], ⟨by omega, ?_⟩, by first | omega | (dsimp only; omega), ?_⟩
      rotate_left
      · (repeat' (first | exact PSub.rfl | exact rfl | exact PSubs.rfl | exact trivial | exact PSub.lit_sb rfl | refine And.intro ?_ ?_))
      intro j hj
      by_cases ee : j = k
      · subst ee; simp [cluE, hd, e, -List.getD_eq_getElem?_getD]
      · exact hinv1 j (by omega)
  · exact PSub.int (by rw [firstE_none fun j hj => hinv j (by omega)])
end Go.Abs

namespace Go.Abs
open Go.Proofs
set_option maxRecDepth 10000
def lastC (l : List Clu) : Nat → ByteArray → Option Clu
  | 0, _ => none
  | k + 1, s => if (l.getD k default).name = s then some (l.getD k default) else lastC l k s
def cluLook (f : ByteArray → Option Clu) : Value → Option PV
  | .string s => (f s).map fun c => .agg (cClu c)
  | _ => none
theorem ac_device_clusters (H : Hom) (hh : smallL H.clusters) : AC Tryz.prog 63 [.pv (.agg (cHom H))] [] (.pv (.map (.one .str) (cluLook (lastC H.clusters H.clusters.length)))) [] := by
  have hl : H.clusters.length ≤ 1048576 := hh
  refine AC.of_awp (T := T) T_ok hm Tryz.call63 Tryz.func63 rfl rfl rfl ?_
  conv => whnf
  refine loop_k (ι := Nat) [3, 8, 9] [] (fun k => k ≤ H.clusters.length ∧ True) (fun k => H.clusters.length - k) 0 (fun k => [(10, .pv (vint k))]) (fun k => [(6, .map (.one .str) (cluLook (lastC H.clusters k)))]) [] ⟨Nat.zero_le _, trivial⟩ ?_ (fun k hk => ?_)
  · (repeat' (first | exact PSub.rfl | exact rfl | exact PSubs.rfl | exact trivial | exact PSub.lit_sb rfl | refine And.intro ?_ ?_)); all_goals (rintro _ ⟨s, rfl⟩; rfl)
  obtain ⟨hkn, hinv⟩ := hk
  conv => whnf
  repeat (any_goals (first
    | (refine ⟨fun (h : (_ : Bool) = true) => ?_, fun (h : (_ : Bool) = false) => ?_⟩ <;> (try simp only [decide_eq_true_eq, decide_eq_false_iff_not, Bool.not_eq_true', Bool.not_eq_false', Int.toNat_natCast, beq_iff_eq, decide_eq_decide, beq_eq_false_iff_ne, ne_eq, reduceCtorEq] at h) <;> (conv => whnf))
    | (refine And.intro (by (try simp only [Int.toNat_natCast]); omega) ?_; conv => whnf)
    | (refine And.intro (show (_ : Bool) = true from by kernel_rfl) ?_; conv => whnf)
    | (refine .inl ⟨wrap64 (by omega), ?_⟩; conv => whnf)))
  · refine ⟨k + 1, [], ⟨by omega, trivial⟩, by omega, ?_⟩
    (repeat' (first | exact PSub.rfl | exact rfl | exact PSubs.rfl | exact trivial | exact PSub.lit_sb rfl | refine And.intro ?_ ?_))
    rintro _ ⟨s, rfl⟩
    simp only [Int.toNat_natCast, lookPut, cluLook, lastC, Value.string.injEq]
    by_cases e : s = (H.clusters.getD k default).name
    · simp [e, -List.getD_eq_getElem?_getD]; rfl
    · rw [if_neg e, if_neg (fun x => e x.symm)]
  · have e : k = H.clusters.length := by omega
    subst e
    exact PSub.rfl
def numB (d : Dev) : Bool := !(decide (d.id < 1) || decide (250 < d.id) || decide (d.vendor < 0) || decide (255 < d.vendor)) && (if d.sleepy then decide (4 ≤ d.poll) && decide (d.poll ≤ 3600) else decide (d.poll = 0))
theorem ac_device_numbers (d : Dev) : AC Tryz.prog 64 [.pv (.agg (cDev d))] [] (.pv (vbool (numB d))) [] := by
  refine AC.of_awp (T := T) T_ok hm Tryz.call64 Tryz.func64 rfl rfl rfl ?_
  conv => whnf
  repeat (any_goals (first
    | (refine ⟨fun (h : (_ : Bool) = true) => ?_, fun (h : (_ : Bool) = false) => ?_⟩ <;> (try simp only [decide_eq_true_eq, decide_eq_false_iff_not, Bool.not_eq_true', Bool.not_eq_false', Int.toNat_natCast, beq_iff_eq, decide_eq_decide, beq_eq_false_iff_ne, ne_eq, reduceCtorEq] at h) <;> (conv => whnf))
    | (refine And.intro (by (try simp only [Int.toNat_natCast]); omega) ?_; conv => whnf)
    | (refine And.intro (show (_ : Bool) = true from by kernel_rfl) ?_; conv => whnf)
    | (refine .inl ⟨wrap64 (by omega), ?_⟩; conv => whnf)))
  all_goals first | (refine PSub.sb ?_; rw [numB, Bool.eq_iff_iff]; simp_all; done) | (refine PSub.lit_sb ?_; rw [numB, Bool.eq_iff_iff]; simp_all; omega) | (refine PSub.lit_sb ?_; rw [numB, Bool.eq_iff_iff]; simp_all; done) | skip
def firstC (l : List Clu) (s : ByteArray) : Option Clu := l.find? fun c => decide (c.name = s)
def capStep (f : ByteArray → Option Clu) (d : Dev) (i : Nat) (n : Int) : Int ⊕ Int :=
  match f (d.clusters.getD i default) with
  | none => .inl 8
  | some c => if idxOf d.clusters (d.clusters.getD i default) < i then .inl 9 else .inr (n + c.attrs.length)
def capE (f : ByteArray → Option Clu) (d : Dev) : Int :=
  if d.clusters.length < 1 ∨ 4 < d.clusters.length then 3 else match forI (capStep f d) d.clusters.length 0 0 with
  | .inl e => e
  | .inr n => if 24 < n then 3 else 0
theorem ac_device_capabilities (d : Dev) (f : ByteArray → Option Clu) (hf : ∀ s c, f s = some c → smallK c) : AC Tryz.prog 66 [.pv (.agg (cDev d)), .pv (.map (.one .str) (cluLook f))] [] (.pv (vint (capE f d))) [] := by
  refine AC.of_awp (T := T) T_ok hm Tryz.call66 Tryz.func66 rfl rfl rfl ?_
  conv => whnf
  refine ⟨fun h => ?_, fun h => ?_⟩
  · conv => whnf
    simp only [decide_eq_true_eq] at h
    exact PSub.int (by rw [capE, if_pos (by omega)])
  conv => whnf
  refine ⟨fun h => ?_, fun h => ?_⟩ <;> (try simp only [decide_eq_true_eq, decide_eq_false_iff_not, Bool.not_eq_true', Bool.not_eq_false', Int.toNat_natCast, beq_iff_eq, decide_eq_decide, beq_eq_false_iff_ne, ne_eq, reduceCtorEq] at h) <;> (conv => whnf)
  · exact PSub.int (by rw [capE, if_pos (by omega)])
  rename_i h0
  simp only [decide_eq_false_iff_not] at h0
  rw [capE, if_neg (by omega)]
  refine loop_k (ι := Nat × Int) [1, 2, 21, 22] [2] (fun i => i.1 ≤ d.clusters.length ∧ (0 ≤ i.2 ∧ i.2 ≤ i.1 * 1048576) ∧ forI (capStep f d) (d.clusters.length - i.1) i.1 i.2 = forI (capStep f d) d.clusters.length 0 0) (fun i => d.clusters.length - i.1) (0, 0) (fun i => [(5, .pv (vint i.2)), (23, .pv (vint i.1))]) (fun _ => []) [] ⟨Nat.zero_le _, by simp, rfl⟩ ?_ (fun i hk => ?_)
  · (repeat' (first | exact PSub.rfl | exact rfl | exact PSubs.rfl | exact trivial | exact PSub.lit_sb rfl | refine And.intro ?_ ?_))
  obtain ⟨k, n⟩ := i
  obtain ⟨hkn, hn, hfor⟩ := hk
  simp only at hkn hn hfor
  conv => whnf
  refine ⟨fun h => ?_, fun h => ?_⟩ <;> (try simp only [decide_eq_true_eq, decide_eq_false_iff_not, Bool.not_eq_true', Bool.not_eq_false', Int.toNat_natCast, beq_iff_eq, decide_eq_decide, beq_eq_false_iff_ne, ne_eq, reduceCtorEq] at h) <;> (conv => whnf)
  · refine And.intro (by omega) ?_
    conv => whnf
    refine ⟨fun p hp => ?_, fun hp => ?_⟩
    · simp only [cluLook, Int.toNat_natCast] at hp
      cases hf0 : f (d.clusters.getD k default) with
      | none => rw [hf0] at hp; cases hp
      | some c =>
        rw [hf0] at hp
        cases hp
        have hcl : c.attrs.length ≤ 1048576 := (hf _ _ hf0).1
        conv => whnf
        repeat (any_goals (first
          | (refine ⟨fun (h : (_ : Bool) = true) => ?_, fun (h : (_ : Bool) = false) => ?_⟩ <;> (try simp only [decide_eq_true_eq, decide_eq_false_iff_not, Bool.not_eq_true', Bool.not_eq_false', Int.toNat_natCast, beq_iff_eq, decide_eq_decide, beq_eq_false_iff_ne, ne_eq, reduceCtorEq] at h) <;> (conv => whnf))
          | (refine .inl ⟨_, ac_names_Index d.clusters (d.clusters.getD k default) (by omega), ?_⟩; conv => whnf)
          | (refine And.intro (by (try simp only [Int.toNat_natCast]); omega) ?_; conv => whnf)
          | (refine And.intro (show (_ : Bool) = true from by kernel_rfl) ?_; conv => whnf)
          | (refine .inl ⟨wrap64 (by omega), ?_⟩; conv => whnf)))
        · rw [forI_stop hfor (by omega) (r := 9) (by rw [capStep, hf0]; simp only; rw [if_pos h])]
          exact PSub.rfl
        · refine ⟨(k + 1, n + c.attrs.length), [], ⟨by dsimp only; omega, ⟨by dsimp only; omega, by dsimp only; omega⟩, forI_next hfor (by omega) (by rw [capStep, hf0]; simp only; rw [if_neg h])⟩, by dsimp only; omega, ?_⟩
          (repeat' (first | exact PSub.rfl | exact rfl | exact PSubs.rfl | exact trivial | exact PSub.lit_sb rfl | refine And.intro ?_ ?_))
    · simp only [cluLook, Int.toNat_natCast] at hp
      have hf0 : f (d.clusters.getD k default) = none := by simpa using hp
      conv => whnf
      repeat (any_goals (first
        | (refine ⟨fun (h : (_ : Bool) = true) => ?_, fun (h : (_ : Bool) = false) => ?_⟩ <;> (try simp only [decide_eq_true_eq, decide_eq_false_iff_not, Bool.not_eq_true', Bool.not_eq_false', Int.toNat_natCast, beq_iff_eq, decide_eq_decide, beq_eq_false_iff_ne, ne_eq, reduceCtorEq] at h) <;> (conv => whnf))
        | (refine And.intro (by (try simp only [Int.toNat_natCast]); omega) ?_; conv => whnf)
        | (refine And.intro (show (_ : Bool) = true from by kernel_rfl) ?_; conv => whnf)
        | (refine .inl ⟨wrap64 (by omega), ?_⟩; conv => whnf)))
      rw [forI_stop hfor (by omega) (r := 8) (by rw [capStep, hf0])]
      exact PSub.rfl
  · rw [forI_end hfor (by omega)]
    repeat (any_goals (first
      | (refine ⟨fun (h : (_ : Bool) = true) => ?_, fun (h : (_ : Bool) = false) => ?_⟩ <;> (try simp only [decide_eq_true_eq, decide_eq_false_iff_not, Bool.not_eq_true', Bool.not_eq_false', Int.toNat_natCast, beq_iff_eq, decide_eq_decide, beq_eq_false_iff_ne, ne_eq, reduceCtorEq] at h) <;> (conv => whnf))
      | (refine And.intro (by (try simp only [Int.toNat_natCast]); omega) ?_; conv => whnf)
      | (refine And.intro (show (_ : Bool) = true from by kernel_rfl) ?_; conv => whnf)
      | (refine .inl ⟨wrap64 (by omega), ?_⟩; conv => whnf)))
    · exact PSub.int (by simp only; rw [if_pos h])
    · exact PSub.int (by simp only; rw [if_neg h])
def devE (f : ByteArray → Option Clu) (l : List Dev) (i : Nat) : Int :=
  if numB (l.getD i default) = false then 2 else if 0 < i ∧ (l.getD i default).id ≤ (l.getD (i - 1) default).id then 14
  else if anyN i (fun j => decide ((l.getD j default).eui = (l.getD i default).eui)) = true then 9 else if validName (l.getD i default).room = false then 10
  else capE f (l.getD i default)
def homE (H : Hom) : Int := if allE H.clusters ≠ 0 then allE H.clusters else if 20 < H.devices.length then 3 else firstE H.devices.length (devE (firstC H.clusters) H.devices)
theorem cluE_distinct {l : List Clu} {k : Nat} (h : ∀ i, i < k → cluE l i = 0) {i j : Nat} (hi : i < j) (hj : j < k) : (l.getD i default).name ≠ (l.getD j default).name := by
  intro e
  have := h j hj
  unfold cluE at this
  split at this
  · contradiction
  · rw [if_pos (anyN_true hi (by simpa [-List.getD_eq_getElem?_getD] using e))] at this
    cases this
theorem firstE_zero {n : Nat} {f : Nat → Int} (h : firstE n f = 0) : ∀ i, i < n → f i = 0 := by
  intro i hi
  unfold firstE at h
  split at h
  · rename_i j e
    rw [List.find?_range_eq_some] at e
    exact absurd h (by simpa using e.1)
  · rename_i e
    rw [List.find?_eq_none] at e
    simpa using e i (by simpa using hi)
theorem lastC_first {l : List Clu} (h : ∀ i, i < l.length → cluE l i = 0) (s : ByteArray) : lastC l l.length s = firstC l s := by
  have hnone : ∀ k, k ≤ l.length → (∀ i, i < k → (l.getD i default).name ≠ s) → lastC l k s = none := by
    intro k
    induction k with
    | zero => intro _ _; rfl
    | succ k ih => intro hk hn; rw [lastC, if_neg (hn k (by omega)), ih (by omega) fun i hi => hn i (by omega)]
  have hsome : ∀ k, k ≤ l.length → ∀ i, i < k → (l.getD i default).name = s → lastC l k s = some (l.getD i default) := by
    intro k
    induction k with
    | zero => intro _ i hi; omega
    | succ k ih =>
      intro hk i hi e
      rw [lastC]
      by_cases e2 : i = k
      · subst e2; rw [if_pos e]
      · rw [if_neg fun e3 => cluE_distinct (k := l.length) h (i := i) (j := k) (by omega) (by omega) (e.trans e3.symm)]
        exact ih (by omega) i (by omega) e
  unfold firstC
  cases hf : l.find? fun c => decide (c.name = s) with
  | none =>
    rw [List.find?_eq_none] at hf
    refine hnone _ (Nat.le_refl _) fun i hi => ?_
    have := hf l[i] (List.getElem_mem hi)
    simpa [List.getD, hi] using this
  | some c =>
    obtain ⟨h1, xs, ys, h2, h3⟩ := List.find?_eq_some_iff_append.1 hf
    have hi : xs.length < l.length := by rw [h2]; simp
    have e : l.getD xs.length default = c := by simp [h2]
    rw [← e]
    exact hsome _ (Nat.le_refl _) _ hi (by rw [e]; simpa using h1)
theorem firstC_small {l : List Clu} (hl : smallKs l) {s : ByteArray} {c : Clu} (h : firstC l s = some c) : smallK c := by
  have := List.mem_of_find?_eq_some h
  obtain ⟨i, hi, rfl⟩ := List.getElem_of_mem this
  have := hl.2 i
  simpa [List.getD, hi] using this
def smallD (d : Dev) : Prop := smallL d.clusters ∧ -9223372036854775808 ≤ d.id ∧ d.id ≤ 9223372036854775807
def smallH (H : Hom) : Prop := smallKs H.clusters ∧ smallL H.devices ∧ ∀ i, smallD (H.devices.getD i default)
def euiLook (l : List Dev) (k : Nat) : Value → Option PV
  | .int .u64 n => if anyN k (fun j => decide ((l.getD j default).eui = n)) = true then some (.val (.bool true)) else none
  | _ => none
theorem anyN_succ {n : Nat} {p : Nat → Bool} : anyN (n + 1) p = (anyN n p || p n) := by simp [anyN, List.range_succ]
theorem euiLook_put (l : List Dev) (k : Nat) (s : Int) : lookPut (euiLook l k) (.int .u64 (l.getD k default).eui) (.val (.bool true)) (.int .u64 s) = euiLook l (k + 1) (.int .u64 s) := by
  simp only [lookPut, euiLook, anyN_succ, Value.int.injEq, true_and]
  by_cases e : s = (l.getD k default).eui
  · rw [if_pos e, if_pos (by simp [e, -List.getD_eq_getElem?_getD])]
  · rw [if_neg e]
    have e2 : decide ((l.getD k default).eui = s) = false := by simpa [-List.getD_eq_getElem?_getD] using fun x => e x.symm
    rw [e2, Bool.or_false]
theorem ac_device_Check (H : Hom) (hH : smallH H) : AC Tryz.prog 33 [.pv (.agg (cHom H))] [] (.pv (vint (homE H))) [] := by
  have hl : H.devices.length ≤ 1048576 := hH.2.1
  refine AC.of_awp (T := T) T_ok hm Tryz.call33 Tryz.func33 rfl rfl rfl ?_
  conv => whnf
  refine .inl ⟨_, ac_cluster_All H.clusters hH.1, ?_⟩
  conv => whnf
  refine ⟨fun h => ?_, fun h => ?_⟩ <;> (try simp only [decide_eq_true_eq, decide_eq_false_iff_not, Bool.not_eq_true', Bool.not_eq_false', Int.toNat_natCast, beq_iff_eq, decide_eq_decide, beq_eq_false_iff_ne, ne_eq, reduceCtorEq] at h) <;> (conv => whnf)
  · exact PSub.int (by rw [homE, if_pos h])
  rw [homE, if_neg (by simpa using h)]
  have ha := h
  refine ⟨fun h => ?_, fun h => ?_⟩ <;> (try simp only [decide_eq_true_eq, decide_eq_false_iff_not, Bool.not_eq_true', Bool.not_eq_false', Int.toNat_natCast, beq_iff_eq, decide_eq_decide, beq_eq_false_iff_ne, ne_eq, reduceCtorEq] at h) <;> (conv => whnf)
  · exact PSub.int (by rw [if_pos (by omega)])
  rw [if_neg (by omega)]
  refine .inl ⟨_, ac_device_clusters H hH.1.1, ?_⟩
  conv => whnf
  clear h
  have hu : ∀ i, i < H.clusters.length → cluE H.clusters i = 0 := firstE_zero (by
    unfold allE at ha
    split at ha
    · cases ha
    · exact ha)
  have hm : PSub (.map (.one .str) (cluLook (lastC H.clusters H.clusters.length))) (.map (.one .str) (cluLook (firstC H.clusters))) := PSub.map (by
    rintro _ ⟨s, rfl⟩
    simp only [cluLook, lastC_first hu])
  refine loop_k (ι := Nat) [1, 4, 5, 23, 24] [1] (fun k => k ≤ H.devices.length ∧ (∀ j, j < k → devE (firstC H.clusters) H.devices j = 0)) (fun k => H.devices.length - k) 0 (fun k => [(25, .pv (vint k))]) (fun k => [(21, .map (.one (.int .u64)) (euiLook H.devices k))]) [] ⟨Nat.zero_le _, fun j h => absurd h (by omega)⟩ ?_ (fun k hk => ?_)
  · (repeat' (first | exact PSub.rfl | exact rfl | exact PSubs.rfl | exact trivial | exact PSub.lit_sb rfl | refine And.intro ?_ ?_)); all_goals (rintro _ ⟨s, rfl⟩; rfl)
  obtain ⟨hkn, hinv⟩ := hk
  conv => whnf
  repeat (any_goals (first
    | (refine ⟨fun (h : (_ : Bool) = true) => ?_, fun (h : (_ : Bool) = false) => ?_⟩ <;> (try simp only [decide_eq_true_eq, decide_eq_false_iff_not, Bool.not_eq_true', Bool.not_eq_false', Int.toNat_natCast, beq_iff_eq, decide_eq_decide, beq_eq_false_iff_ne, ne_eq, reduceCtorEq] at h) <;> (conv => whnf))
    | (refine .inl ⟨_, ac_device_numbers (H.devices.getD k default), ?_⟩; conv => whnf)
    | (refine And.intro (by (try simp only [Int.toNat_natCast]); omega) ?_; conv => whnf)
    | (refine And.intro (show (_ : Bool) = true from by kernel_rfl) ?_; conv => whnf)
    | (refine .inl ⟨wrap64 (by omega), ?_⟩; conv => whnf)))
  · have e : devE (firstC H.clusters) H.devices k = 2 := by simp [devE, h, -List.getD_eq_getElem?_getD]
    exact PSub.int (by rw [firstE_at (k := k) (by omega) (by rw [e]; decide) hinv, e])
  · rename_i h0 h1
    rw [show (↑k - 1 : Int).toNat = k - 1 from by omega] at h
    have e : devE (firstC H.clusters) H.devices k = 14 := by simp [devE, h0, h, -List.getD_eq_getElem?_getD]; omega
    exact PSub.int (by rw [firstE_at (k := k) (by omega) (by rw [e]; decide) hinv, e])
  · rw [show (↑k - 1 : Int).toNat = k - 1 from by omega] at h
    refine ⟨fun p => ?_, fun h => ?_⟩
    · intro hp
      rename_i h0 h1
      have hnum : numB (H.devices.getD k default) = true := by assumption
      rw [Int.toNat_natCast] at hp
      simp only [euiLook] at hp
      split at hp
      · rename_i hany
        cases hp
        conv => whnf
        have e : devE (firstC H.clusters) H.devices k = 9 := by simp [devE, hnum, h0, h1, hany, -List.getD_eq_getElem?_getD]; try omega
        exact PSub.int (by rw [firstE_at (k := k) (by omega) (by rw [e]; decide) hinv, e])
      · cases hp
    · rw [Int.toNat_natCast] at h
      conv => whnf
      have hany : anyN k (fun j => decide ((H.devices.getD j default).eui = (H.devices.getD k default).eui)) = false := by
        simp only [euiLook] at h
        split at h
        · cases h
        · rename_i hx; simpa using hx
      rename_i h0 h1
      have hnum : numB (H.devices.getD k default) = true := by assumption
      repeat (any_goals (first
        | (refine ⟨fun (h : (_ : Bool) = true) => ?_, fun (h : (_ : Bool) = false) => ?_⟩ <;> (try simp only [decide_eq_true_eq, decide_eq_false_iff_not, Bool.not_eq_true', Bool.not_eq_false', Int.toNat_natCast, beq_iff_eq, decide_eq_decide, beq_eq_false_iff_ne, ne_eq, reduceCtorEq] at h) <;> (conv => whnf))
        | (refine .inl ⟨_, ac_names_Valid (H.devices.getD k default).room, ?_⟩; conv => whnf)
        | (refine .inl ⟨_, AC.sub2 (ac_device_capabilities (H.devices.getD k default) (firstC H.clusters) (fun _ _ => firstC_small hH.1)) .rfl hm, ?_⟩; conv => whnf)
        | (refine And.intro (by (try simp only [Int.toNat_natCast]); omega) ?_; conv => whnf)
        | (refine And.intro (show (_ : Bool) = true from by kernel_rfl) ?_; conv => whnf)
        | (refine .inl ⟨wrap64 (by omega), ?_⟩; conv => whnf)))
      · have e : devE (firstC H.clusters) H.devices k = 10 := by simp [devE, hnum, h0, h1, hany, h, -List.getD_eq_getElem?_getD]; try omega
        exact PSub.int (by rw [firstE_at (k := k) (by omega) (by rw [e]; decide) hinv, e])
      · rename_i h2
        have e : devE (firstC H.clusters) H.devices k = capE (firstC H.clusters) (H.devices.getD k default) := by simp [devE, hnum, h0, h1, hany, h2, -List.getD_eq_getElem?_getD]; try omega
        exact PSub.int (by rw [firstE_at (k := k) (by omega) (by rw [e]; exact h) hinv, e])
      · rename_i h2
        have e : devE (firstC H.clusters) H.devices k = 0 := by simp [devE, hnum, h0, h1, hany, h2, h, -List.getD_eq_getElem?_getD]; try omega
        refine ⟨k + 1, [], ⟨by omega, ?_⟩, by omega, ?_⟩
        · intro j hj
          by_cases ee : j = k
          · subst ee; exact e
          · exact hinv j (by omega)
        · (repeat' (first | exact PSub.rfl | exact rfl | exact PSubs.rfl | exact trivial | exact PSub.lit_sb rfl | refine And.intro ?_ ?_))
          rintro _ ⟨s, rfl⟩
          exact euiLook_put H.devices k s
  · refine ⟨fun p => ?_, fun h => ?_⟩
    · intro hp
      rename_i h0 h1
      have hnum : numB (H.devices.getD k default) = true := by assumption
      rw [Int.toNat_natCast] at hp
      simp only [euiLook] at hp
      split at hp
      · rename_i hany
        cases hp
        conv => whnf
        have e : devE (firstC H.clusters) H.devices k = 9 := by simp [devE, hnum, h0, h1, hany, -List.getD_eq_getElem?_getD]; try omega
        exact PSub.int (by rw [firstE_at (k := k) (by omega) (by rw [e]; decide) hinv, e])
      · cases hp
    · rw [Int.toNat_natCast] at h
      conv => whnf
      have hany : anyN k (fun j => decide ((H.devices.getD j default).eui = (H.devices.getD k default).eui)) = false := by
        simp only [euiLook] at h
        split at h
        · cases h
        · rename_i hx; simpa using hx
      rename_i h0 h1
      have hnum : numB (H.devices.getD k default) = true := by assumption
      repeat (any_goals (first
        | (refine ⟨fun (h : (_ : Bool) = true) => ?_, fun (h : (_ : Bool) = false) => ?_⟩ <;> (try simp only [decide_eq_true_eq, decide_eq_false_iff_not, Bool.not_eq_true', Bool.not_eq_false', Int.toNat_natCast, beq_iff_eq, decide_eq_decide, beq_eq_false_iff_ne, ne_eq, reduceCtorEq] at h) <;> (conv => whnf))
        | (refine .inl ⟨_, ac_names_Valid (H.devices.getD k default).room, ?_⟩; conv => whnf)
        | (refine .inl ⟨_, AC.sub2 (ac_device_capabilities (H.devices.getD k default) (firstC H.clusters) (fun _ _ => firstC_small hH.1)) .rfl hm, ?_⟩; conv => whnf)
        | (refine And.intro (by (try simp only [Int.toNat_natCast]); omega) ?_; conv => whnf)
        | (refine And.intro (show (_ : Bool) = true from by kernel_rfl) ?_; conv => whnf)
        | (refine .inl ⟨wrap64 (by omega), ?_⟩; conv => whnf)))
      · have e : devE (firstC H.clusters) H.devices k = 10 := by simp [devE, hnum, h0, h1, hany, h, -List.getD_eq_getElem?_getD]; try omega
        exact PSub.int (by rw [firstE_at (k := k) (by omega) (by rw [e]; decide) hinv, e])
      · rename_i h2
        have e : devE (firstC H.clusters) H.devices k = capE (firstC H.clusters) (H.devices.getD k default) := by simp [devE, hnum, h0, h1, hany, h2, -List.getD_eq_getElem?_getD]; try omega
        exact PSub.int (by rw [firstE_at (k := k) (by omega) (by rw [e]; exact h) hinv, e])
      · rename_i h2
        have e : devE (firstC H.clusters) H.devices k = 0 := by simp [devE, hnum, h0, h1, hany, h2, h, -List.getD_eq_getElem?_getD]; try omega
        refine ⟨k + 1, [], ⟨by omega, ?_⟩, by omega, ?_⟩
        · intro j hj
          by_cases ee : j = k
          · subst ee; exact e
          · exact hinv j (by omega)
        · (repeat' (first | exact PSub.rfl | exact rfl | exact PSubs.rfl | exact trivial | exact PSub.lit_sb rfl | refine And.intro ?_ ?_))
          rintro _ ⟨s, rfl⟩
          exact euiLook_put H.devices k s
  · exact PSub.int (by rw [firstE_none fun j hj => hinv j (by omega)])
end Go.Abs

namespace Go.Abs
open Go.Proofs
set_option maxRecDepth 10000
def devAt (l : List Dev) (id : Int) : Nat := firstI l.length fun i => decide ((l.getD i default).id = id)
end Go.Abs

namespace Go.Abs
open Go.Proofs
set_option maxRecDepth 10000
def keyLess (a b : Key) : Bool := if a.dev ≠ b.dev then decide (a.dev < b.dev) else if a.cluster ≠ b.cluster then Op.bytesLess a.cluster.toList b.cluster.toList else Op.bytesLess a.attr.toList b.attr.toList
theorem ac_device_Less (a b : Key) : AC Tryz.prog 22 [.pv (.agg (cKey a)), .pv (.agg (cKey b))] [] (.pv (vbool (keyLess a b))) [] := by
  refine AC.of_awp (T := T) T_ok hm Tryz.call22 Tryz.func22 rfl rfl rfl ?_
  conv => whnf
  repeat (any_goals (first
    | (refine ⟨fun (h : (_ : Bool) = true) => ?_, fun (h : (_ : Bool) = false) => ?_⟩ <;> (try simp only [decide_eq_true_eq, decide_eq_false_iff_not, Bool.not_eq_true', Bool.not_eq_false', Int.toNat_natCast, beq_iff_eq, decide_eq_decide, beq_eq_false_iff_ne, ne_eq, reduceCtorEq] at h) <;> (conv => whnf))
    | (refine And.intro (by (try simp only [Int.toNat_natCast]); omega) ?_; conv => whnf)
    | (refine And.intro (show (_ : Bool) = true from by kernel_rfl) ?_; conv => whnf)
    | (refine .inl ⟨wrap64 (by omega), ?_⟩; conv => whnf)))
  all_goals (try simp only [decide_eq_true_eq, decide_eq_false_iff_not, Bool.not_eq_true', Bool.not_eq_false', Int.toNat_natCast, beq_iff_eq, decide_eq_decide, beq_eq_false_iff_ne, ne_eq, reduceCtorEq] at *)
  all_goals first
    | contradiction
    | (exfalso; omega)
    | exact PSub.rfl
    | (refine PSub.int ?_; simp only [keyLess]; (repeat' split) <;> first | rfl | omega | (simp_all [-List.getD_eq_getElem?_getD]; done) | (simp_all [-List.getD_eq_getElem?_getD]; omega))
    | (refine PSub.sb ?_; simp_all [keyLess, -List.getD_eq_getElem?_getD]; done)
    | (refine PSub.lit_sb ?_; simp_all [keyLess, -List.getD_eq_getElem?_getD]; done)
    | (refine PSub.sb_lit ?_; simp_all [keyLess, -List.getD_eq_getElem?_getD]; done)
    | (refine PSub.sb ?_; rw [Bool.eq_iff_iff]; simp_all [keyLess, -List.getD_eq_getElem?_getD]; done)
    | (refine PSub.lit_sb ?_; rw [Bool.eq_iff_iff]; simp_all [keyLess, -List.getD_eq_getElem?_getD]; done)
    | (refine PSub.sb_lit ?_; rw [Bool.eq_iff_iff]; simp_all [keyLess, -List.getD_eq_getElem?_getD]; done)
    | skip
def noDev : Dev := ⟨0, 0, 0, false, 0, ⟨#[]⟩, []⟩
def findB (H : Hom) (id : Int) : Bool := decide (homE H = 0) && decide (devAt H.devices id < H.devices.length)
def findD (H : Hom) (id : Int) : Dev := if findB H id = true then H.devices.getD (devAt H.devices id) default else noDev
theorem noDev_cells : PSub (.agg [vint 0, .val (.int .u64 0), vint 0, .val (.bool false), vint 0, vstr ⟨#[]⟩, .val (.slice none 0 0)]) (.agg (cDev noDev)) := PSub.agg ⟨.rfl, .rfl, .rfl, PSub.lit_sb rfl, .rfl, .rfl, PSub.nil_ro _ _, trivial⟩
theorem ac_device_find (H : Hom) (id : Int) (hH : smallH H) : AC Tryz.prog 55 [.pv (.agg (cHom H)), .pv (vint id)] [] (.pv (.tup [.agg (cDev (findD H id)), vbool (findB H id)])) [] := by
  have hl : H.devices.length ≤ 1048576 := hH.2.1
  refine AC.of_awp (T := T) T_ok hm Tryz.call55 Tryz.func55 rfl rfl rfl ?_
  conv => whnf
  refine .inl ⟨_, ac_device_Check H hH, ?_⟩
  conv => whnf
  refine ⟨fun h => ?_, fun h => ?_⟩ <;> (try simp only [decide_eq_true_eq, decide_eq_false_iff_not, Bool.not_eq_true', Bool.not_eq_false', Int.toNat_natCast, beq_iff_eq, decide_eq_decide, beq_eq_false_iff_ne, ne_eq, reduceCtorEq] at h) <;> (conv => whnf)
  · have e : findB H id = false := by simp [findB, h]
    rw [findD, e]
    refine ⟨?_, ?_⟩ <;> (conv => whnf)
    · exact noDev_cells
    · exact PSub.lit_sb rfl
  have h0 := h
  refine loop_k (ι := Nat) [1, 4, 13, 14] [4] (fun k => k ≤ H.devices.length ∧ (∀ j, j < k → decide ((H.devices.getD j default).id = id) = false)) (fun k => H.devices.length - k) 0 (fun k => [(15, .pv (vint k))]) (fun _ => []) [] ⟨Nat.zero_le _, fun j h => absurd h (by omega)⟩ ?_ (fun k hk => ?_)
  · (repeat' (first | exact PSub.rfl | exact rfl | exact PSubs.rfl | exact trivial | exact PSub.lit_sb rfl | refine And.intro ?_ ?_))
  obtain ⟨hkn, hinv⟩ := hk
  conv => whnf
  repeat (any_goals (first
    | (refine ⟨fun (h : (_ : Bool) = true) => ?_, fun (h : (_ : Bool) = false) => ?_⟩ <;> (try simp only [decide_eq_true_eq, decide_eq_false_iff_not, Bool.not_eq_true', Bool.not_eq_false', Int.toNat_natCast, beq_iff_eq, decide_eq_decide, beq_eq_false_iff_ne, ne_eq, reduceCtorEq] at h) <;> (conv => whnf))
    | (refine And.intro (by (try simp only [Int.toNat_natCast]); omega) ?_; conv => whnf)
    | (refine And.intro (show (_ : Bool) = true from by kernel_rfl) ?_; conv => whnf)
    | (refine .inl ⟨wrap64 (by omega), ?_⟩; conv => whnf)))
  · have e : devAt H.devices id = k := firstI_at (by omega) (by simpa [-List.getD_eq_getElem?_getD] using h) hinv
    have e2 : findB H id = true := by simp [findB, h0, e]; omega
    rw [findD, e2, e, if_pos rfl]
    refine ⟨?_, ?_⟩ <;> (conv => whnf)
    · exact .rfl
    · exact PSub.lit_sb rfl
  · refine ⟨k + 1, [], ⟨by omega, ?_⟩, by first | omega | (dsimp only; omega), ?_⟩
    rotate_left
    · (repeat' (first | exact PSub.rfl | exact rfl | exact PSubs.rfl | exact trivial | exact PSub.lit_sb rfl | refine And.intro ?_ ?_))
    intro j hj
    by_cases e : j = k
    · subst e; first | exact h | simpa [-List.getD_eq_getElem?_getD] using h | simp_all [-List.getD_eq_getElem?_getD]
    · exact hinv j (by omega)
  · have e : devAt H.devices id = H.devices.length := firstI_none fun j hj => hinv j (by omega)
    have e2 : findB H id = false := by simp [findB, e]
    rw [findD, e2]
    refine ⟨?_, ?_⟩ <;> (conv => whnf)
    · exact noDev_cells
    · exact PSub.lit_sb rfl
theorem ac_device_Room (H : Hom) (id : Int) (hH : smallH H) : AC Tryz.prog 20 [.pv (.agg (cHom H)), .pv (vint id)] [] (.pv (vstr (findD H id).room)) [] := by
  refine AC.of_awp (T := T) T_ok hm Tryz.call20 Tryz.func20 rfl rfl rfl ?_
  conv => whnf
  refine .inl ⟨_, ac_device_find H id hH, ?_⟩
  conv => whnf
  exact .rfl
end Go.Abs

namespace Go.Abs
open Go.Proofs
set_option maxRecDepth 10000
def attrsOf (o : Option Clu) : List Attr := match o with | some c => c.attrs | none => []
def keysOf1 (f : ByteArray → Option Clu) (id : Int) (s : ByteArray) : List Key := (attrsOf (f s)).map fun a => ⟨id, s, a.name⟩
def keysL (H : Hom) (id : Int) : List Key := (findD H id).clusters.flatMap (keysOf1 (firstC H.clusters) id)
theorem allE_distinct {l : List Clu} (ha : allE l = 0) : ∀ i, i < l.length → cluE l i = 0 := firstE_zero (by
    unfold allE at ha
    split at ha
    · cases ha
    · exact ha)
theorem homE_all {H : Hom} (h : homE H = 0) : allE H.clusters = 0 := by
  unfold homE at h
  split at h
  · contradiction
  · omega
theorem capE_clusters {f : ByteArray → Option Clu} {d : Dev} (h : capE f d = 0) : 1 ≤ d.clusters.length ∧ d.clusters.length ≤ 4 := by
  unfold capE at h
  split at h
  · cases h
  · omega
theorem homE_dev {H : Hom} (h : homE H = 0) {i : Nat} (hi : i < H.devices.length) : devE (firstC H.clusters) H.devices i = 0 := by
  unfold homE at h
  split at h
  · contradiction
  · split at h
    · cases h
    · exact firstE_zero h i hi
theorem devE_cap {f : ByteArray → Option Clu} {l : List Dev} {i : Nat} (h : devE f l i = 0) : capE f (l.getD i default) = 0 := by
  unfold devE at h
  split at h
  · cases h
  · split at h
    · cases h
    · split at h
      · cases h
      · split at h
        · cases h
        · exact h
theorem findD_cap {H : Hom} {id : Int} (h : findB H id = true) : capE (firstC H.clusters) (findD H id) = 0 := by
  rw [findD, if_pos h]
  simp only [findB, Bool.and_eq_true, decide_eq_true_eq] at h
  exact devE_cap (homE_dev h.1 h.2)
theorem findD_none {H : Hom} {id : Int} (h : findB H id = false) : findD H id = noDev := by rw [findD, h]; rfl
theorem findD_length {H : Hom} {id : Int} : (findD H id).clusters.length ≤ 4 := by
  cases h : findB H id with
  | true => exact (capE_clusters (findD_cap h)).2
  | false => rw [findD_none h]; decide
theorem lookRes_clu {f : ByteArray → Option Clu} (s : ByteArray) : (∃ c, f s = some c ∧ cluLook f (.string s) = some (.agg (cClu c))) ∨ (f s = none ∧ cluLook f (.string s) = none) := by
  simp only [cluLook]
  cases f s with
  | none => exact .inr ⟨rfl, rfl⟩
  | some c => exact .inl ⟨c, rfl, rfl⟩
def keysTo (f : ByteArray → Option Clu) (id : Int) (l : List ByteArray) (k : Nat) : List Key := (l.take k).flatMap (keysOf1 f id)
theorem keysTo_succ {f : ByteArray → Option Clu} {id : Int} {l : List ByteArray} {k : Nat} (h : k < l.length) : keysTo f id l (k + 1) = keysTo f id l k ++ keysOf1 f id (l.getD k default) := by
  simp only [keysTo, take_succ_getD h, List.flatMap_append, List.flatMap_cons, List.flatMap_nil, List.append_nil]
theorem keysTo_len {f : ByteArray → Option Clu} (hf : ∀ s c, f s = some c → smallK c) {id : Int} {l : List ByteArray} {k : Nat} (h : k ≤ l.length) : (keysTo f id l k).length ≤ k * 1048576 := by
  induction k with
  | zero => simp [keysTo]
  | succ k ih =>
    rw [keysTo_succ h, List.length_append]
    have := ih (by omega)
    have : (keysOf1 f id (l.getD k default)).length ≤ 1048576 := by
      simp only [keysOf1, attrsOf, List.length_map]
      split
      · rename_i c e; exact (hf _ _ e).1
      · exact Nat.zero_le _
    omega
theorem ac_device_Keys (H : Hom) (id : Int) (hH : smallH H) : AC Tryz.prog 46 [.pv (.agg (cHom H)), .pv (vint id)] [] (.pv (roL 3 cKey (keysL H id))) [] := by
  have hl : H.clusters.length ≤ 1048576 := hH.1.1
  have hd4 := @findD_length H id
  -- the map: of the first clusters if the home is valid, of some small ones else
  obtain ⟨f, hf, hmap, hk⟩ : ∃ f : ByteArray → Option Clu, (∀ s c, f s = some c → smallK c) ∧ PSub (.map (.one .str) (cluLook (lastC H.clusters H.clusters.length))) (.map (.one .str) (cluLook f)) ∧ keysL H id = keysTo f id (findD H id).clusters (findD H id).clusters.length := by
    cases h : findB H id with
    | true =>
      refine ⟨firstC H.clusters, fun _ _ => firstC_small hH.1, PSub.map ?_, by rw [keysL, keysTo, List.take_length]⟩
      rintro _ ⟨s, rfl⟩
      simp only [findB, Bool.and_eq_true, decide_eq_true_eq] at h
      simp only [cluLook, lastC_first (allE_distinct (homE_all h.1))]
    | false =>
      refine ⟨lastC H.clusters H.clusters.length, ?_, .rfl, by rw [keysL, findD_none h]; rfl⟩
      intro s c
      have : ∀ k, lastC H.clusters k s = some c → smallK c := by
        intro k
        induction k with
        | zero => intro e; cases e
        | succ k ih =>
          intro e
          rw [lastC] at e
          split at e
          · cases e; exact hH.1.2 k
          · exact ih e
      exact this _
  rw [hk]
  clear hk
  refine AC.of_awp (T := T) T_ok hm Tryz.call46 Tryz.func46 rfl rfl rfl ?_
  conv => whnf
  refine .inl ⟨_, ac_device_find H id hH, ?_⟩
  conv => whnf
  refine .inl ⟨_, (ac_device_clusters H hl).weak hmap, ?_⟩
  conv => whnf
  generalize findD H id = d at *
  refine loop_k (ι := Nat) [1, 7, 22, 23] [] (fun k => k ≤ d.clusters.length ∧ True) (fun k => d.clusters.length - k) 0 (fun k => [(8, .own 500), (24, .pv (vint k))]) (fun k => [(500, rowL 3 cKey (keysTo f id d.clusters k))]) [] ⟨Nat.zero_le _, trivial⟩ ?_ (fun k hk => ?_)
  · (repeat' (first | exact PSub.rfl | exact rfl | exact PSubs.rfl | exact trivial | exact PSub.lit_sb rfl | refine And.intro ?_ ?_))
  obtain ⟨hkn, hinv⟩ := hk
  conv => whnf
  refine ⟨fun h => ?_, fun h => ?_⟩ <;> (try simp only [decide_eq_true_eq, decide_eq_false_iff_not, Bool.not_eq_true', Bool.not_eq_false', Int.toNat_natCast, beq_iff_eq, decide_eq_decide, beq_eq_false_iff_ne, ne_eq, reduceCtorEq] at h) <;> (conv => whnf)
  · repeat (any_goals (first
      | (refine ⟨fun (h : (_ : Bool) = true) => ?_, fun (h : (_ : Bool) = false) => ?_⟩ <;> (try simp only [decide_eq_true_eq, decide_eq_false_iff_not, Bool.not_eq_true', Bool.not_eq_false', Int.toNat_natCast, beq_iff_eq, decide_eq_decide, beq_eq_false_iff_ne, ne_eq, reduceCtorEq] at h) <;> (conv => whnf))
      | (refine And.intro (by (try simp only [Int.toNat_natCast]); omega) ?_; conv => whnf)
      | (refine And.intro (show (_ : Bool) = true from by kernel_rfl) ?_; conv => whnf)
      | (refine .inl ⟨wrap64 (by omega), ?_⟩; conv => whnf)))
    have hkl := keysTo_len hf (id := id) (l := d.clusters) (k := k) (by omega)
    have hn := keysTo_succ (f := f) (id := id) (l := d.clusters) (k := k) (by omega)
    simp only [Int.toNat_natCast]
    rcases lookRes_clu (f := f) (d.clusters.getD k default) with ⟨c, h1, h2⟩ | ⟨h1, h2⟩
    · rw [h2]
      have hcl : c.attrs.length ≤ 1048576 := (hf _ _ h1).1
      have hk1 : keysOf1 f id (d.clusters.getD k default) = c.attrs.map fun a => ⟨id, d.clusters.getD k default, a.name⟩ := by rw [keysOf1, h1]; rfl
      refine ⟨fun p hp => ?_, fun hp => by cases hp⟩
      cases hp
      conv => whnf
      refine loop_k (ι := Nat) [1, 7, 10, 22, 23, 24, 31, 32] [] (fun j => j ≤ c.attrs.length ∧ True) (fun j => c.attrs.length - j) 0 (fun j => [(8, .own 500), (33, .pv (vint j))]) (fun j => [(500, rowL 3 cKey (keysTo f id d.clusters k ++ (c.attrs.take j).map fun a => ⟨id, d.clusters.getD k default, a.name⟩))]) [] ⟨Nat.zero_le _, trivial⟩ ?_ (fun j hk => ?_)
      · (repeat' (first | exact PSub.rfl | exact rfl | exact PSubs.rfl | exact trivial | exact PSub.lit_sb rfl | refine And.intro ?_ ?_)); all_goals (first | (simp; done) | (intro i hi; simp [-List.getD_eq_getElem?_getD]; exact PSubs.rfl))
      obtain ⟨hkn, hinv⟩ := hk
      conv => whnf
      have hj : (keysTo f id d.clusters k ++ (c.attrs.take j).map fun a => (⟨id, d.clusters.getD k default, a.name⟩ : Key)).length ≤ 8388608 := by
        simp only [List.length_append, List.length_map, List.length_take]; omega
      repeat (any_goals (first
        | (refine ⟨fun (h : (_ : Bool) = true) => ?_, fun (h : (_ : Bool) = false) => ?_⟩ <;> (try simp only [decide_eq_true_eq, decide_eq_false_iff_not, Bool.not_eq_true', Bool.not_eq_false', Int.toNat_natCast, beq_iff_eq, decide_eq_decide, beq_eq_false_iff_ne, ne_eq, reduceCtorEq] at h) <;> (conv => whnf))
        | (refine And.intro (by (try simp only [Int.toNat_natCast]); omega) ?_; conv => whnf)
        | (refine And.intro (show (_ : Bool) = true from by kernel_rfl) ?_; conv => whnf)
        | (refine .inl ⟨wrap64 (by omega), ?_⟩; conv => whnf)))
      · have e : (c.attrs.take (j + 1)).map (fun a => (⟨id, d.clusters.getD k default, a.name⟩ : Key)) = (c.attrs.take j).map (fun a => (⟨id, d.clusters.getD k default, a.name⟩ : Key)) ++ [⟨id, d.clusters.getD k default, (c.attrs.getD j default).name⟩] := by
          rw [take_succ_getD (by omega)]; simp only [List.map_append, List.map_cons, List.map_nil]
        refine ⟨j + 1, [(500, 44)], ⟨by omega, trivial⟩, by omega, ?_⟩
        rw [e, ← List.append_assoc]
        (repeat' (first | exact PSub.rfl | exact rfl | exact PSubs.rfl | exact trivial | exact PSub.lit_sb rfl | refine And.intro ?_ ?_))
        · simp; omega
        · refine rows_snocF (fun i hi => by simp only [if_pos hi]; exact PSubs.rfl) (by simp only [if_neg (Nat.lt_irrefl _), Nat.sub_self]; exact PSubs.rfl)
      · refine ⟨k + 1, [], ⟨by omega, trivial⟩, by omega, ?_⟩
        rw [hn, hk1]
        (repeat' (first | exact PSub.rfl | exact rfl | exact PSubs.rfl | exact trivial | exact PSub.lit_sb rfl | refine And.intro ?_ ?_))
        · rw [List.take_of_length_le (by omega)]
        · rw [List.take_of_length_le (by omega)]; intro i hi; exact PSubs.rfl
    · rw [h2]
      refine ⟨fun p hp => (by cases hp), fun hp => ?_⟩
      have hk1 : keysOf1 f id (d.clusters.getD k default) = [] := by rw [keysOf1, h1]; rfl
      conv => whnf
      refine loop_k (ι := Nat) [1, 7, 10, 22, 23, 24, 31, 32] [] (fun j => j ≤ 0 ∧ True) (fun j => 0 - j) 0 (fun j => [(8, .own 500), (33, .pv (vint j))]) (fun j => [(500, rowL 3 cKey (keysTo f id d.clusters k))]) [] ⟨Nat.zero_le _, trivial⟩ ?_ (fun j hk => ?_)
      · (repeat' (first | exact PSub.rfl | exact rfl | exact PSubs.rfl | exact trivial | exact PSub.lit_sb rfl | refine And.intro ?_ ?_)); all_goals (first | (simp; done) | (intro i hi; simp [-List.getD_eq_getElem?_getD]; exact PSubs.rfl))
      obtain ⟨hkn, hinv⟩ := hk
      conv => whnf
      repeat (any_goals (first
        | (refine ⟨fun (h : (_ : Bool) = true) => ?_, fun (h : (_ : Bool) = false) => ?_⟩ <;> (try simp only [decide_eq_true_eq, decide_eq_false_iff_not, Bool.not_eq_true', Bool.not_eq_false', Int.toNat_natCast, beq_iff_eq, decide_eq_decide, beq_eq_false_iff_ne, ne_eq, reduceCtorEq] at h) <;> (conv => whnf))
        | (refine And.intro (by (try simp only [Int.toNat_natCast]); omega) ?_; conv => whnf)
        | (refine And.intro (show (_ : Bool) = true from by kernel_rfl) ?_; conv => whnf)
        | (refine .inl ⟨wrap64 (by omega), ?_⟩; conv => whnf)))
      · exfalso; omega
      refine ⟨k + 1, [], ⟨by omega, trivial⟩, by omega, ?_⟩
      rw [hn, hk1, List.append_nil]
      (repeat' (first | exact PSub.rfl | exact rfl | exact PSubs.rfl | exact trivial | exact PSub.lit_sb rfl | refine And.intro ?_ ?_))
      intro i hi; exact PSubs.rfl
  · have e : k = d.clusters.length := by omega
    subst e
    repeat (any_goals (first
      | (refine ⟨fun (h : (_ : Bool) = true) => ?_, fun (h : (_ : Bool) = false) => ?_⟩ <;> (try simp only [decide_eq_true_eq, decide_eq_false_iff_not, Bool.not_eq_true', Bool.not_eq_false', Int.toNat_natCast, beq_iff_eq, decide_eq_decide, beq_eq_false_iff_ne, ne_eq, reduceCtorEq] at h) <;> (conv => whnf))
      | (refine And.intro (by (try simp only [Int.toNat_natCast]); omega) ?_; conv => whnf)
      | (refine And.intro (show (_ : Bool) = true from by kernel_rfl) ?_; conv => whnf)
      | (refine .inl ⟨wrap64 (by omega), ?_⟩; conv => whnf)))
    exact .rfl
end Go.Abs

namespace Go.Abs
open Go.Proofs
set_option maxRecDepth 10000
def noClu : Clu := ⟨⟨#[]⟩, [], [], []⟩
def partO (H : Hom) (id : Int) (s : ByteArray) : Option Clu := if findB H id = true ∧ 0 ≤ idxOf (findD H id).clusters s then firstC H.clusters s else none
def attrO (o : Option Clu) (s : ByteArray) : Option Attr := match o with
  | some c => if attrAt c.attrs s < c.attrs.length then some (c.attrs.getD (attrAt c.attrs s) default) else none
  | none => none
def findA (H : Hom) (k : Key) : Option Attr := attrO (partO H k.dev k.cluster) k.attr
theorem noAttr_cells2 : PSub (.agg zAttr) (.agg (cAttr noAttr)) := PSub.agg noAttr_cells
theorem noClu_cells : PSub (.agg [vstr ⟨#[]⟩, .val (.slice none 0 0), .val (.slice none 0 0), .val (.slice none 0 0)]) (.agg (cClu noClu)) := PSub.agg ⟨.rfl, PSub.nil_ro _ _, PSub.nil_ro _ _, PSub.nil_ro _ _, trivial⟩
theorem smallK_noClu : smallK noClu := ⟨Nat.zero_le _, fun _ => Nat.zero_le _, Nat.zero_le _, fun _ => ⟨Nat.zero_le _, Nat.zero_le _⟩, Nat.zero_le _⟩
theorem ac_device_Find (H : Hom) (k : Key) (hH : smallH H) : AC Tryz.prog 47 [.pv (.agg (cHom H)), .pv (.agg (cKey k))] [] (.pv (.tup [.agg (cAttr ((findA H k).getD noAttr)), vbool (findA H k).isSome])) [] := by
  have hl : H.clusters.length ≤ 1048576 := hH.1.1
  have hd4 := @findD_length H k.dev
  refine AC.of_awp (T := T) T_ok hm Tryz.call47 Tryz.func47 rfl rfl rfl ?_
  conv => whnf
  refine .inl ⟨_, ac_device_find H k.dev hH, ?_⟩
  conv => whnf
  repeat (any_goals (first
    | (refine ⟨fun (h : (_ : Bool) = true) => ?_, fun (h : (_ : Bool) = false) => ?_⟩ <;> (try simp only [decide_eq_true_eq, decide_eq_false_iff_not, Bool.not_eq_true', Bool.not_eq_false', Int.toNat_natCast, beq_iff_eq, decide_eq_decide, beq_eq_false_iff_ne, ne_eq, reduceCtorEq] at h) <;> (conv => whnf))
    | (refine .inl ⟨_, ac_names_Index (findD H k.dev).clusters k.cluster (by omega), ?_⟩; conv => whnf)
    | (refine .inl ⟨_, ac_device_clusters H hl, ?_⟩; conv => whnf)
    | (refine And.intro (by (try simp only [Int.toNat_natCast]); omega) ?_; conv => whnf)
    | (refine And.intro (show (_ : Bool) = true from by kernel_rfl) ?_; conv => whnf)
    | (refine .inl ⟨wrap64 (by omega), ?_⟩; conv => whnf)))
  · have e : findA H k = none := by simp [findA, partO, h, attrO]
    rw [e]
    refine ⟨?_, ?_⟩ <;> (conv => whnf)
    · exact noAttr_cells2
    · exact PSub.lit_sb rfl
  · have e : findA H k = none := by rw [findA, partO, if_neg (by omega)]; rfl
    rw [e]
    refine ⟨?_, ?_⟩ <;> (conv => whnf)
    · exact noAttr_cells2
    · exact PSub.lit_sb rfl
  · rename_i hb
    have hpart : partO H k.dev k.cluster = firstC H.clusters k.cluster := by rw [partO, if_pos ⟨hb, by omega⟩]
    have hv : homE H = 0 := by simp only [findB, Bool.and_eq_true, decide_eq_true_eq] at hb; exact hb.1
    have hla := lastC_first (allE_distinct (homE_all hv)) k.cluster
    rw [show cluLook (lastC H.clusters H.clusters.length) (.string k.cluster) = cluLook (firstC H.clusters) (.string k.cluster) from by simp only [cluLook, hla]]
    rcases lookRes_clu (f := firstC H.clusters) k.cluster with ⟨c, h1, h2⟩ | ⟨h1, h2⟩
    · rw [h2]
      refine ⟨fun p hp => ?_, fun hp => by cases hp⟩
      cases hp
      conv => whnf
      repeat (any_goals (first
        | (refine ⟨fun (h : (_ : Bool) = true) => ?_, fun (h : (_ : Bool) = false) => ?_⟩ <;> (try simp only [decide_eq_true_eq, decide_eq_false_iff_not, Bool.not_eq_true', Bool.not_eq_false', Int.toNat_natCast, beq_iff_eq, decide_eq_decide, beq_eq_false_iff_ne, ne_eq, reduceCtorEq] at h) <;> (conv => whnf))
        | (refine .inl ⟨_, ac_cluster_Attr c k.attr (firstC_small hH.1 h1), ?_⟩; conv => whnf)
        | (refine And.intro (by (try simp only [Int.toNat_natCast]); omega) ?_; conv => whnf)
        | (refine And.intro (show (_ : Bool) = true from by kernel_rfl) ?_; conv => whnf)
        | (refine .inl ⟨wrap64 (by omega), ?_⟩; conv => whnf)))
      · have e : findA H k = none := by rw [findA, hpart, h1, attrO]; rw [if_neg h]
        rw [e]
        refine ⟨?_, ?_⟩ <;> (conv => whnf)
        · exact noAttr_cells2
        · exact PSub.lit_sb rfl
      · have e : findA H k = some (attrOf c.attrs k.attr) := by rw [findA, hpart, h1, attrO, attrOf]; rw [if_pos h, if_pos h]
        rw [e]
        refine ⟨?_, ?_⟩ <;> (conv => whnf)
        · exact .rfl
        · exact PSub.lit_sb rfl
    · rw [h2]
      refine ⟨fun p hp => (by cases hp), fun hp => ?_⟩
      conv => whnf
      repeat (any_goals (first
        | (refine ⟨fun (h : (_ : Bool) = true) => ?_, fun (h : (_ : Bool) = false) => ?_⟩ <;> (try simp only [decide_eq_true_eq, decide_eq_false_iff_not, Bool.not_eq_true', Bool.not_eq_false', Int.toNat_natCast, beq_iff_eq, decide_eq_decide, beq_eq_false_iff_ne, ne_eq, reduceCtorEq] at h) <;> (conv => whnf))
        | (refine .inl ⟨_, AC.sub2 (ac_cluster_Attr noClu k.attr smallK_noClu) noClu_cells .rfl, ?_⟩; conv => whnf)
        | (refine And.intro (by (try simp only [Int.toNat_natCast]); omega) ?_; conv => whnf)
        | (refine And.intro (show (_ : Bool) = true from by kernel_rfl) ?_; conv => whnf)
        | (refine .inl ⟨wrap64 (by omega), ?_⟩; conv => whnf)))
      · have e : findA H k = none := by rw [findA, hpart, h1, attrO]
        rw [e]
        refine ⟨?_, ?_⟩ <;> (conv => whnf)
        · exact noAttr_cells2
        · exact PSub.lit_sb rfl
      · exact absurd h (by simp [noClu])
def safeB (H : Hom) (k : Key) : Bool := ((findA H k).getD noAttr).safety
theorem ac_device_Safe (H : Hom) (k : Key) (hH : smallH H) : AC Tryz.prog 21 [.pv (.agg (cHom H)), .pv (.agg (cKey k))] [] (.pv (vbool (safeB H k))) [] := by
  refine AC.of_awp (T := T) T_ok hm Tryz.call21 Tryz.func21 rfl rfl rfl ?_
  conv => whnf
  repeat (any_goals (first
    | (refine ⟨fun (h : (_ : Bool) = true) => ?_, fun (h : (_ : Bool) = false) => ?_⟩ <;> (try simp only [decide_eq_true_eq, decide_eq_false_iff_not, Bool.not_eq_true', Bool.not_eq_false', Int.toNat_natCast, beq_iff_eq, decide_eq_decide, beq_eq_false_iff_ne, ne_eq, reduceCtorEq] at h) <;> (conv => whnf))
    | (refine .inl ⟨_, ac_device_Find H k hH, ?_⟩; conv => whnf)
    | (refine And.intro (by (try simp only [Int.toNat_natCast]); omega) ?_; conv => whnf)
    | (refine And.intro (show (_ : Bool) = true from by kernel_rfl) ?_; conv => whnf)
    | (refine .inl ⟨wrap64 (by omega), ?_⟩; conv => whnf)))
  · exact .rfl
  · exact PSub.lit_sb (by cases h3 : findA H k <;> simp_all [safeB, noAttr])
end Go.Abs

namespace Go.Abs
open Go.Proofs
set_option maxRecDepth 10000
def ixI (n k : Nat) : Int := if k < n then (k : Int) else -1
end Go.Abs

namespace Go.Abs
open Go.Proofs
set_option maxRecDepth 10000
theorem all_lt_zero {p : Nat → Prop} : ∀ i, i < 0 → p i := fun i h => absurd h (by omega)
theorem all_lt_succ {p : Nat → Prop} {n : Nat} (h1 : ∀ i, i < n → p i) (h2 : p n) : ∀ i, i < n + 1 → p i := fun i h => by
  rcases Nat.lt_or_ge i n with h3 | h3
  · exact h1 i h3
  · have : i = n := by omega
    subst this; exact h2
def flagA (s : ByteArray) (w sf : Bool) : Attr := ⟨s, 1, 0, 0, [], w, sf⟩
def numA (s : ByteArray) (lo hi : Int) (w : Bool) : Attr := ⟨s, 2, lo, hi, [], w, false⟩
def setsC (s a : ByteArray) (n : Int) : Cmd := ⟨s, noAttr, [⟨1, a, n⟩]⟩
def stdC : List Clu := [
  ⟨(⟨#[111, 110, 111, 102, 102]⟩ : ByteArray), [flagA (⟨#[111, 110]⟩ : ByteArray) true false], [setsC (⟨#[111, 110]⟩ : ByteArray) (⟨#[111, 110]⟩ : ByteArray) 1, setsC (⟨#[111, 102, 102]⟩ : ByteArray) (⟨#[111, 110]⟩ : ByteArray) 0, ⟨(⟨#[116, 111, 103, 103, 108, 101]⟩ : ByteArray), noAttr, [⟨4, (⟨#[111, 110]⟩ : ByteArray), 0⟩]⟩], []⟩,
  ⟨(⟨#[108, 101, 118, 101, 108]⟩ : ByteArray), [numA (⟨#[108, 101, 118, 101, 108]⟩ : ByteArray) 0 100 true], [⟨(⟨#[109, 111, 118, 101]⟩ : ByteArray), numA (⟨#[116, 111]⟩ : ByteArray) 0 100 false, [⟨2, (⟨#[108, 101, 118, 101, 108]⟩ : ByteArray), 0⟩]⟩, ⟨(⟨#[115, 116, 101, 112]⟩ : ByteArray), noAttr, [⟨3, (⟨#[108, 101, 118, 101, 108]⟩ : ByteArray), 10⟩]⟩], []⟩,
  ⟨(⟨#[108, 111, 99, 107]⟩ : ByteArray), [flagA (⟨#[108, 111, 99, 107, 101, 100]⟩ : ByteArray) true true], [setsC (⟨#[108, 111, 99, 107]⟩ : ByteArray) (⟨#[108, 111, 99, 107, 101, 100]⟩ : ByteArray) 1, setsC (⟨#[117, 110, 108, 111, 99, 107]⟩ : ByteArray) (⟨#[108, 111, 99, 107, 101, 100]⟩ : ByteArray) 0], [(⟨#[106, 97, 109]⟩ : ByteArray)]⟩,
  ⟨(⟨#[116, 104, 101, 114, 109, 111, 115, 116, 97, 116]⟩ : ByteArray), [numA (⟨#[116, 97, 114, 103, 101, 116]⟩ : ByteArray) 50 300 true, numA (⟨#[116, 101, 109, 112]⟩ : ByteArray) (-500) 1000 false], [], []⟩,
  ⟨(⟨#[115, 109, 111, 107, 101]⟩ : ByteArray), [flagA (⟨#[97, 108, 97, 114, 109]⟩ : ByteArray) false true], [], [(⟨#[116, 101, 115, 116]⟩ : ByteArray)]⟩,
  ⟨(⟨#[108, 101, 97, 107]⟩ : ByteArray), [flagA (⟨#[119, 101, 116]⟩ : ByteArray) false true], [], []⟩,
  ⟨(⟨#[118, 97, 108, 118, 101]⟩ : ByteArray), [flagA (⟨#[111, 112, 101, 110]⟩ : ByteArray) true true], [setsC (⟨#[111, 112, 101, 110]⟩ : ByteArray) (⟨#[111, 112, 101, 110]⟩ : ByteArray) 1, setsC (⟨#[99, 108, 111, 115, 101]⟩ : ByteArray) (⟨#[111, 112, 101, 110]⟩ : ByteArray) 0], []⟩,
  ⟨(⟨#[109, 101, 116, 101, 114]⟩ : ByteArray), [numA (⟨#[112, 111, 119, 101, 114]⟩ : ByteArray) 0 100000 false], [], []⟩]
def homeX : Hom := ⟨stdC, [⟨1, 0, 0, false, 0, (⟨#[104, 97, 108, 108]⟩ : ByteArray), [(⟨#[111, 110, 111, 102, 102]⟩ : ByteArray), (⟨#[108, 101, 118, 101, 108]⟩ : ByteArray)]⟩]⟩
end Go.Abs

namespace Go.Abs
open Go.Proofs
set_option maxRecDepth 10000
theorem ex1 : homE homeX = 0 := by kernel_rfl
theorem sl {α : Type} {l : List α} (h : Nat.ble l.length 1048576 = true) : smallL l := Nat.le_of_ble_eq_true h
end Go.Abs

namespace Go.Abs
open Go.Proofs Go.RowKit
set_option maxRecDepth 10000
section
variable {H : Type} {enc : TypeId × Value → H} {w : World} {bulk : DataW H → Nat}
abbrev BB : Nat := 1048576
def inI64 (n : Int) : Prop := -9223372036854775808 ≤ n ∧ n ≤ 9223372036854775807
theorem wf64 {n : Int} (h : (Lit.int .i64 n).wf = true) : inI64 n := by
  simp only [Lit.wf, Bool.and_eq_true, decide_eq_true_eq] at h
  exact h
theorem op_int : Opens enc Tryz.prog w bulk BB 3 cint inI64 := (Opens.int Tryz.underlying3).imp id (fun _ => rfl) (fun _ h => wf64 h)
theorem op_bool : Opens enc Tryz.prog w bulk BB 4 (fun b : Bool => [vbool b]) (fun _ => True) := Opens.bool Tryz.underlying4
theorem op_string (hB : BulkOk bulk) : Opens enc Tryz.prog w bulk BB 9 cstr (fun s => s.size ≤ 1048576) := Opens.str hB Tryz.underlying9
theorem op_l_string (hB : BulkOk bulk) : Opens enc Tryz.prog w bulk BB 45 (fun l : List ByteArray => [roL 1 cstr l]) smallL :=
  (Opens.slice hB Tryz.underlying45 (by kernel_rfl) (by decide) (op_string hB)).imp id (fun _ => rfl) (fun _ h => h.1)
theorem small_default : smallK default := ⟨Nat.zero_le _, fun _ => Nat.zero_le _, Nat.zero_le _, fun _ => ⟨Nat.zero_le _, Nat.zero_le _⟩, Nat.zero_le _⟩
end
end Go.Abs

namespace Go.Proofs.YtgbhffppbdppaaaGreat
open Go.ChangeShapes Go.WideShapes Go.ChangeAt Go.RowKit Go.Abs
theorem own : ownKnob Tryz.prog.godebug = none := by kernel_rfl
theorem laidOut : laidOutB Tryz.prog = true := by kernel_rfl
theorem glob {W : World} : Glob W (fun _ => False) := fun g cs e => by cases e
theorem bulkOk {H : Type} : BulkOk (Rows.uptoBulk (H := H)) := by
  have one_le : ∀ d : DataW H, 1 ≤ Rows.uptoBulk d := fun d => by
    cases d with
    | lit l => cases l <;> simp [Rows.uptoBulk]
    | nil => simp [Rows.uptoBulk]
    | ptr d => simp [Rows.uptoBulk]
    | slice elems spare => simp [Rows.uptoBulk]
    | agg parts => simp [Rows.uptoBulk]
    | iface t d => simp [Rows.uptoBulk]
    | map entries => simp [Rows.uptoBulk]
    | held h => simp [Rows.uptoBulk]
  have part_le : ∀ (l : List (DataW H)) (d : DataW H), d ∈ l → Rows.uptoBulk d ≤ Rows.uptoBulkAll l := by
    intro l
    induction l with
    | nil => intro d h; cases h
    | cons x r ih =>
      intro d h
      simp only [Rows.uptoBulkAll]
      cases List.mem_cons.1 h with
      | inl e => subst e; omega
      | inr e => have := ih d e; omega
  have length_le : ∀ (l : List (DataW H)), l.length ≤ Rows.uptoBulkAll l := by
    intro l
    induction l with
    | nil => simp [Rows.uptoBulkAll]
    | cons x r ih => have := one_le x; simp only [Rows.uptoBulkAll, List.length_cons]; omega
  refine ⟨fun bytes => by simp [Rows.uptoBulk], fun e s => ?_, fun e s d h => ?_, fun l d h => ?_⟩
  · have := length_le e; simp only [Rows.uptoBulk]; omega
  · have := part_le e d h; simp only [Rows.uptoBulk]; omega
  · have := part_le l d h; simp only [Rows.uptoBulk]; omega
theorem bulk_le {H : Type} {l : List (DataW H)} (hk : Rows.uptoSmall H l = true) : Rows.uptoBulkAll l ≤ 1048576 := of_decide_eq_true hk
theorem law_calls {f : FuncId} {fn : Func} {H : Type} {enc : TypeId × Value → H} {W : World} {args : Array Value} {ds gs : List (DataW H)} {before : List MemPlace} {s : ChangeSpec} {tb : TypeId} {xs : List PV}
    (hac : AC Tryz.prog f (xs.map .pv) [] (.pv (vbool true)) []) (hlen : args.size = xs.length) (hx : ∀ (i : Nat) (p : PV), xs[i]? = some p → PR W (fun _ => False) p (args.getD i undef))
    (hr : ∀ t ∈ fn.params.toList, Tryz.prog.readableRec t = true ∧ t < Tryz.prog.types.size)
    (hres : fn.resultTypes = #[tb]) (htb : Tryz.prog.underlying tb = some .bool) (hv : s.vars = []) (hfn : s.fn H ds = { results := [.lit (.bool true)], args := ds })
    (hW : DataW.Whole enc Tryz.prog fn.params.toList s.vars false W args.toList ds gs before) (hg : Glob W (fun _ => False)) :
    Calls Tryz.prog f args W fun e W' => ∃ v, e = .returned v ∧ s.post enc Tryz.prog fn false true false false W args v W' := by
  refine (hac.calls hg (by simpa using hlen) (fun i x e => ?_)).mono ?_
  · rw [List.getElem?_map] at e
    cases hp : xs[i]? with
    | none => rw [hp] at e; cases e
    | some p =>
      rw [hp] at e
      cases e
      exact .pv _ _ (hx i p hp)
  · rintro e W' ⟨v, rfl, hv2, hb⟩
    cases hv2
    exact ⟨_, rfl, law_post laidOut hr hres htb hv hfn hb hW⟩
end Go.Proofs.YtgbhffppbdppaaaGreat
