/-
  A general library: a contract on trees as a contract of calls whose objects are read.
-/
import Derived.Test.YtogkpjhkpgdbkaaDoorWR2QSyM
set_option linter.all false
namespace Go.Abs
variable [Gl]
end Go.Abs
