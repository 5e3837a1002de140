/-
  Rows of gf2s: the layouts of their arguments.
-/
import Derived.Test.YtddaobhpffpmoaaGR3QG9
import Derived.Test.YtddaobhpffpmoaaGR3QSyL
import Derived.Test.YtddaobhpffpmoaaGR3QAbsY
set_option linter.all false
namespace Go.Proofs.Ytddaobhpffpmoaa
open Go.ChangeShapes Go.WideShapes Go.ChangeAt Go.RowKit
open Go.Abs
theorem Try.own : ownKnob Try.prog.godebug = none := by kernel_rfl
theorem Try.laidOut : laidOutB Try.prog = true := by kernel_rfl
abbrev mL : Ly := .pair (.int .u8) (.pair (.int .u8) (.sl (.int .u8)))
theorem mO : TyO Try.prog mL 24 := tyB_ok (n := 6) (by kernel_rfl)
theorem mS : ∃ fs,Try.prog.underlying 24 = some (.struct fs) := isSt_yes (by kernel_rfl)
theorem bylS : (∀ fs,Try.prog.underlying 22 ≠ some (.struct fs)) ∧ ∀ n e,Try.prog.underlying 22 ≠ some (.array n e) := isAg_no (by kernel_rfl)
theorem bylO : TyO Try.prog (.sl (.int .u8)) 22 := tyB_ok (n := 4) (by kernel_rfl)
theorem intS : (∀ fs,Try.prog.underlying 3 ≠ some (.struct fs)) ∧ ∀ n e,Try.prog.underlying 3 ≠ some (.array n e) := isAg_no (by kernel_rfl)
theorem gl_none {W : World} : GlOk noMap W := fun _ _ _ h => by cases h
end Go.Proofs.Ytddaobhpffpmoaa
