/-
  A general library: laws of what runs say.
-/
import Derived.Test.YthchfbanjeiieaaNR8QSyI
set_option linter.all false
namespace Go.Abs
variable [Gl]
end Go.Abs
