/-
  The table of the stripped functions.
-/
import Derived.Test.YtcnlccpihknehaaDoorMT6QM3
set_option linter.all false
namespace Go.Proofs.YtcnlccpihknehaaDoor
open Go.Abs
theorem mixed : Tryd.prog.follows .mixedOrders = true := by kernel_rfl
end Go.Proofs.YtcnlccpihknehaaDoor
