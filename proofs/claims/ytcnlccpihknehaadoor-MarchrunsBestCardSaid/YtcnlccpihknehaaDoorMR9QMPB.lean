/-
  March runs: the statement Run: its run answers true.
-/
import Derived.Test.YtcnlccpihknehaaDoorMR9QMm
import Derived.Test.YtcnlccpihknehaaDoorMR9QMUG
set_option linter.all false
namespace Go.Proofs.YtcnlccpihknehaaDoor
open Go.Abs
namespace Mr
open Pl
def RawOk (orders : List Int) (ops : List (List Int)) : Prop := (∀ l ∈ ops,∀ b ∈ l,0 ≤ b ∧ b ≤ 255) ∧ ∀ b ∈ orders,0 ≤ b ∧ b ≤ 255
end Mr
end Go.Proofs.YtcnlccpihknehaaDoor
