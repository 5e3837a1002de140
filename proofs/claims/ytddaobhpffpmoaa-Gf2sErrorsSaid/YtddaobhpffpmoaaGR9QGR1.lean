/-
  Rows of gf2s: raw vectors and matrices.
-/
import Derived.Test.YtddaobhpffpmoaaGR9QGR0
set_option linter.all false
namespace Go.Proofs.Ytddaobhpffpmoaa
open Go.ChangeShapes Go.WideShapes Go.ChangeAt Go.RowKit
open Go.Abs
abbrev vL : Ly := .pair (.int .i64) (.sl (.int .u64))
theorem vO : TyO Try.prog vL 74 := tyB_ok (n := 6) (by kernel_rfl)
theorem vS : ∃ fs,Try.prog.underlying 74 = some (.struct fs) := isSt_yes (by kernel_rfl)
abbrev rL : Ly := .pair (.int .i64) (.sl (.pair (.int .i64) (.sl (.int .u64))))
theorem rO : TyO Try.prog rL 77 := tyB_ok (n := 6) (by kernel_rfl)
theorem rS : ∃ fs,Try.prog.underlying 77 = some (.struct fs) := isSt_yes (by kernel_rfl)
theorem wf_u64 {n : Int} (h : (Lit.int .u64 n).wf = true) : 0 ≤ n ∧ n < 18446744073709551616 := by
 simp [Lit.wf,IntKind.has,IntKind.min,IntKind.max,IntKind.signed,IntKind.bits] at h
 omega
end Go.Proofs.Ytddaobhpffpmoaa
