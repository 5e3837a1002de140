/-
  March runs: the statement Run: its run answers true.
-/
import Derived.Test.YtcnlccpihknehaaDoorMRAQMm
import Derived.Test.YtcnlccpihknehaaDoorMRAQMUG
set_option linter.all false
namespace Go.Proofs.YtcnlccpihknehaaDoor
open Go.Abs
namespace Mr
open Pl
end Mr
end Go.Proofs.YtcnlccpihknehaaDoor
