/-
  Rows of march runs: more arguments.
-/
import Derived.Test.YtcnlccpihknehaaDoorMR9QMR1
set_option linter.all false
namespace Go.Proofs.YtcnlccpihknehaaDoor
open Go.ChangeShapes Go.WideShapes Go.ChangeAt Go.RowKit
open Go.Abs
abbrev rawsL : Ly := .sl rawL
abbrev bytesL : Ly := .sl (.int .u8)
theorem rawsO : TyO Tryd.prog rawsL 75 := tyB_ok (n := 8) (by kernel_rfl)
theorem bytesO : TyO Tryd.prog bytesL 22 := tyB_ok (n := 6) (by kernel_rfl)
theorem byteO : TyO Tryd.prog (.int .u8) 5 := tyB_ok (n := 5) (by kernel_rfl)
theorem rawsS : ∀ fs,Tryd.prog.underlying 75 ≠ some (.struct fs) := isSt_no (by kernel_rfl)
theorem bytesS : ∀ fs,Tryd.prog.underlying 22 ≠ some (.struct fs) := isSt_no (by kernel_rfl)
theorem byteS : ∀ fs,Tryd.prog.underlying 5 ≠ some (.struct fs) := isSt_no (by kernel_rfl)
end Go.Proofs.YtcnlccpihknehaaDoor
