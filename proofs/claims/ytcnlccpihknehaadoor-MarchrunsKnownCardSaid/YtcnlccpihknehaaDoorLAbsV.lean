/-
  A general library: one equation an operation, for simp: drawn regions.
-/
import Derived.Test.YtcnlccpihknehaaDoorLAbsU
set_option linter.all false
namespace Go.Abs
variable [Gl]
section
variable (P : Program) (r : Regs) (σ : Heap) (K : Option AV → Heap → List Nat → List Nat → Prop) (tg : Tag K)
end
end Go.Abs
