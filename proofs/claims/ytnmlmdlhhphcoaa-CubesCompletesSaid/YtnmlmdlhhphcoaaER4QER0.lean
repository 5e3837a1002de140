/-
  Rows of cubes: the layouts of their arguments.
-/
import Derived.Test.YtnmlmdlhhphcoaaER4QE9
import Derived.Test.YtnmlmdlhhphcoaaER4QSyL
import Derived.Test.YtnmlmdlhhphcoaaER4QAbsY
set_option linter.all false
namespace Go.Proofs.Ytnmlmdlhhphcoaa
open Go.ChangeShapes Go.WideShapes Go.ChangeAt Go.RowKit
open Go.Abs
theorem Try.own : ownKnob Try.prog.godebug = none := by kernel_rfl
theorem Try.laidOut : laidOutB Try.prog = true := by kernel_rfl
abbrev pL : Ly := .pair (.sl (.int .u8)) (.sl (.int .u8))
theorem pO : TyO Try.prog pL 24 := tyB_ok (n := 6) (by kernel_rfl)
theorem pS : ∃ fs,Try.prog.underlying 24 = some (.struct fs) := isSt_yes (by kernel_rfl)
theorem strS : (∀ fs,Try.prog.underlying 9 ≠ some (.struct fs)) ∧ ∀ n e,Try.prog.underlying 9 ≠ some (.array n e) := isAg_no (by kernel_rfl)
theorem bylS : (∀ fs,Try.prog.underlying 22 ≠ some (.struct fs)) ∧ ∀ n e,Try.prog.underlying 22 ≠ some (.array n e) := isAg_no (by kernel_rfl)
theorem bylO : TyO Try.prog (.sl (.int .u8)) 22 := tyB_ok (n := 4) (by kernel_rfl)
theorem gl_none {W : World} : GlOk noMap W := fun _ _ _ h => by cases h
end Go.Proofs.Ytnmlmdlhhphcoaa
