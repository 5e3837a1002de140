/-
  A general library: functions whose results are trees.
-/
import Derived.Test.YtcnlccpihknehaaDoorLAbsV
set_option linter.all false
namespace Go.Abs
variable [Gl]
section
variable {P : Program}
end
end Go.Abs
