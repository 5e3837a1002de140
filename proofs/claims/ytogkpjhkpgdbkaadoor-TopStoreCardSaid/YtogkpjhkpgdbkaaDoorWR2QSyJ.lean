/-
  A general library: laws of what runs say.
-/
import Derived.Test.YtogkpjhkpgdbkaaDoorWR2QSyI
set_option linter.all false
namespace Go.Abs
variable [Gl]
theorem bindO_some {α β : Type} {o : Option α} {k : α → Option β} {y : β} (h : bindO o k = some y) : ∃ a,o = some a ∧ k a = some y := by
 cases o with
 | none => cases h
 | some a => exact ⟨a,rfl,h⟩
end Go.Abs
