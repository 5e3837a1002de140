/-
  The table of the stripped functions.
-/
import Derived.Test.YtddaobhpffpmoaaSR4QG3
set_option linter.all false
namespace Go.Proofs.Ytddaobhpffpmoaa
open Go.Abs
theorem mixed:Try.prog.follows .mixedOrders=true:=by kernel_rfl
end Go.Proofs.Ytddaobhpffpmoaa
