/- A part of the proof. -/
import Derived.Test.YtnmlmdlhhphcoaaER8QE3
set_option linter.all false
namespace Go.Proofs.Ytnmlmdlhhphcoaa
open Go.Abs
theorem mixed:Try.prog.follows .mixedOrders=true:=by kernel_rfl
end Go.Proofs.Ytnmlmdlhhphcoaa
