/-
  Rows of gf2s: the layouts of their arguments.
-/
import Derived.Test.YtddaobhpffpmoaaGRAQG9
import Derived.Test.YtddaobhpffpmoaaGRAQSyL
import Derived.Test.YtddaobhpffpmoaaGRAQAbsY
set_option linter.all false
namespace Go.Proofs.Ytddaobhpffpmoaa
open Go.ChangeShapes Go.WideShapes Go.ChangeAt Go.RowKit
open Go.Abs
theorem Try.own:ownKnob Try.prog.godebug=none:=by kernel_rfl
theorem Try.laidOut:laidOutB Try.prog=true:=by kernel_rfl
theorem intS:(∀fs,Try.prog.underlying 3≠some (.struct fs))∧∀n e,Try.prog.underlying 3≠some (.array n e):=isAg_no (by kernel_rfl)
theorem gl_none{W:World}:GlOk KB W:=fun _ _ _ h=>by cases h
end Go.Proofs.Ytddaobhpffpmoaa
