/- A part of the proof. -/
import Derived.Test.YtddaobhpffpmoaaSR7QG9
import Derived.Test.YtddaobhpffpmoaaSR7QSyL
import Derived.Test.YtddaobhpffpmoaaSR7QAbsY
set_option linter.all false
namespace Go.Proofs.Ytddaobhpffpmoaa
section
open Go.ChangeShapes Go.WideShapes Go.ChangeAt Go.RowKit
open Go.Abs
theorem Try.own:ownKnob Try.prog.godebug=none:=by kernel_rfl
theorem Try.laidOut:laidOutB Try.prog=true:=by kernel_rfl
theorem intS:(∀fs,Try.prog.underlying 3≠some (.struct fs))/\∀n e,Try.prog.underlying 3≠some (.array n e):=isAg_no (by kernel_rfl)
theorem gl_none{W:World}:GlOk Qf W:=λ_ _ _ h=>by cases h
end
section
open Go.ChangeShapes Go.WideShapes Go.ChangeAt Go.RowKit
open Go.Abs
end
section
open Go.ChangeShapes Go.WideShapes Go.ChangeAt Go.RowKit
open Go.Abs
end
