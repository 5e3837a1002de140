/-
  A general library: running code on the abstract heap, where everything is known.
-/
import Derived.Test.YtcnlccpihknehaaDoorLAbsS
set_option linter.all false
namespace Go.Abs
variable [Gl]
section
variable {P : Program} {N : Nat} {ro : Option Nat}
end
end Go.Abs
