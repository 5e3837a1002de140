/-
  The table of the stripped functions.
-/
import Derived.Test.YtnmlmdlhhphcoaaER4QE3
set_option linter.all false
namespace Go.Proofs.Ytnmlmdlhhphcoaa
open Go.Abs
theorem mixed : Try.prog.follows .mixedOrders = true := by kernel_rfl
end Go.Proofs.Ytnmlmdlhhphcoaa
