/-
  What the proof stands on.
-/
import Derived.Test.YtddaobhpffpmoaaSR5QG9
import Derived.Test.YtddaobhpffpmoaaSR5QSyL
import Derived.Test.YtddaobhpffpmoaaSR5QAbsY
set_option linter.all false
namespace Go.Proofs.Ytddaobhpffpmoaa
open Go.ChangeShapes Go.WideShapes Go.ChangeAt Go.RowKit
open Go.Abs
theorem Try.own:ownKnob Try.prog.godebug=none:=by kernel_rfl
theorem Try.laidOut:laidOutB Try.prog=true:=by kernel_rfl
theorem intS:(∀fs,Try.prog.underlying 3≠some (.struct fs))∧∀n e,Try.prog.underlying 3≠some (.array n e):=isAg_no (by kernel_rfl)
theorem gl_none{W:World}:GlOk noMap W:=fun _ _ _ h=>by cases h
end Go.Proofs.Ytddaobhpffpmoaa
namespace Go.Proofs.Ytddaobhpffpmoaa
open Go.ChangeShapes Go.WideShapes Go.ChangeAt Go.RowKit
open Go.Abs
theorem wf_u64{n:Int}(h:(Lit.int .u64 n).wf=true):0≤n∧n<18446744073709551616:=by
 simp[Lit.wf,IntKind.has,IntKind.min,IntKind.max,IntKind.signed,IntKind.bits]at h
 omega
end Go.Proofs.Ytddaobhpffpmoaa
namespace Go.Proofs.Ytddaobhpffpmoaa
open Go.ChangeShapes Go.WideShapes Go.ChangeAt Go.RowKit
open Go.Abs
abbrev wL:Ly:=.pair (.int .i64) (.pair (.int .u64) (.pair (.sl (.int .u64)) (.pair (.int .i64) (.pair (.int .u64) (.int .i64)))))
theorem wO:TyO Try.prog wL 119:=tyB_ok (n:=8) (by kernel_rfl)
theorem wS:∃fs,Try.prog.underlying 119=some (.struct fs):=isSt_yes (by kernel_rfl)
theorem bllS:(∀fs,Try.prog.underlying 29≠some (.struct fs))∧∀n e,Try.prog.underlying 29≠some (.array n e):=isAg_no (by kernel_rfl)
theorem bllO:TyO Try.prog (.sl (.sl (.int .u8))) 29:=tyB_ok (n:=6) (by kernel_rfl)
theorem wf_u8'{n:Int}(h:(Lit.int .u8 n).wf=true):0≤n∧n<256:=by
 simp[Lit.wf,IntKind.has,IntKind.min,IntKind.max,IntKind.signed,IntKind.bits]at h
 omega
end Go.Proofs.Ytddaobhpffpmoaa
