/-
  Rows of cubes: the layouts of their arguments.
-/
import Derived.Test.YtnmlmdlhhphcoaaER7QE9
import Derived.Test.YtnmlmdlhhphcoaaER7QSyL
import Derived.Test.YtnmlmdlhhphcoaaER7QAbsY
set_option linter.all false
namespace Go.Proofs.Ytnmlmdlhhphcoaa
open Go.ChangeShapes Go.WideShapes Go.ChangeAt Go.RowKit
open Go.Abs
theorem Try.own : ownKnob Try.prog.godebug = none := by kernel_rfl
theorem Try.laidOut : laidOutB Try.prog = true := by kernel_rfl
theorem strS : (∀ fs,Try.prog.underlying 9 ≠ some (.struct fs)) ∧ ∀ n e,Try.prog.underlying 9 ≠ some (.array n e) := isAg_no (by kernel_rfl)
theorem byteS : (∀ fs,Try.prog.underlying 5 ≠ some (.struct fs)) ∧ ∀ n e,Try.prog.underlying 5 ≠ some (.array n e) := isAg_no (by kernel_rfl)
theorem byteO : TyO Try.prog (.int .u8) 5 := tyB_ok (n := 4) (by kernel_rfl)
theorem inlS : (∀ fs,Try.prog.underlying 46 ≠ some (.struct fs)) ∧ ∀ n e,Try.prog.underlying 46 ≠ some (.array n e) := isAg_no (by kernel_rfl)
theorem inlO : TyO Try.prog (.sl (.int .i64)) 46 := tyB_ok (n := 4) (by kernel_rfl)
abbrev rawL : Ly := .pair (.pair (.sl (.int .u8)) (.sl (.int .u8))) (.pair (.sl (.int .u8)) (.sl (.int .u8)))
theorem rawO : TyO Try.prog rawL 56 := tyB_ok (n := 6) (by kernel_rfl)
theorem rawS : (∃ fs,Try.prog.underlying 56 = some (.struct fs)) ∨ ∃ n e,Try.prog.underlying 56 = some (.array n e) := .inl (isSt_yes (by kernel_rfl))
theorem gl_none {W : World} : GlOk noMap W := fun _ _ _ h => by cases h
end Go.Proofs.Ytnmlmdlhhphcoaa
