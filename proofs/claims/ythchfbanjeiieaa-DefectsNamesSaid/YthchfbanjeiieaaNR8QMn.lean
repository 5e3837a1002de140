/-
  The examples of the chapter, as a contract.
-/
import Derived.Test.YthchfbanjeiieaaNR8QT9
import Derived.Test.YthchfbanjeiieaaNR8QT4
set_option linter.all false
namespace Go.Proofs.Ythchfbanjeiieaa
open Go.Abs
namespace F9
theorem run_eq : checkR Try.prog tab 200 20 9 [] = some (aB true) := by kernel_rfl
theorem ok0 : FnOk Try.prog 9 [] [] fun u τ => u = aB true ∧ τ = [] := checkR_ok mixed tab_ok run_eq
theorem ok (σ : Heap) : ConstAt Try.prog 9 [] σ [] (aB true) := const_any rfl rfl ok0
end F9
end Go.Proofs.Ythchfbanjeiieaa
