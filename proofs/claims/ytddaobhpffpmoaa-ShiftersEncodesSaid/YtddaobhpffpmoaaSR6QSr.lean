/-
  What the proof stands on.
-/
import Derived.Test.YtddaobhpffpmoaaSR6QG9
import Derived.Test.YtddaobhpffpmoaaSR6QSyL
import Derived.Test.YtddaobhpffpmoaaSR6QAbsY
set_option linter.all false
namespace Go.Proofs.Ytddaobhpffpmoaa
open Go.ChangeShapes Go.WideShapes Go.ChangeAt Go.RowKit
open Go.Abs
theorem Try.own:ownKnob Try.prog.godebug=none:=by kernel_rfl
theorem Try.laidOut:laidOutB Try.prog=true:=by kernel_rfl
theorem bylS:(∀fs,Try.prog.underlying 22≠some (.struct fs))∧∀n e,Try.prog.underlying 22≠some (.array n e):=isAg_no (by kernel_rfl)
theorem bylO:TyO Try.prog (.sl (.int .u8)) 22:=tyB_ok (n:=4) (by kernel_rfl)
theorem intS:(∀fs,Try.prog.underlying 3≠some (.struct fs))∧∀n e,Try.prog.underlying 3≠some (.array n e):=isAg_no (by kernel_rfl)
theorem gl_none{W:World}:GlOk noMap W:=fun _ _ _ h=>by cases h
end Go.Proofs.Ytddaobhpffpmoaa
namespace Go.Proofs.Ytddaobhpffpmoaa
open Go.ChangeShapes Go.WideShapes Go.ChangeAt Go.RowKit
open Go.Abs
theorem wf_u64{n:Int}(h:(Lit.int .u64 n).wf=true):0≤n∧n<18446744073709551616:=by
 simp[Lit.wf,IntKind.has,IntKind.min,IntKind.max,IntKind.signed,IntKind.bits]at h
 omega
end Go.Proofs.Ytddaobhpffpmoaa
namespace Go.Proofs.Ytddaobhpffpmoaa
open Go.ChangeShapes Go.WideShapes Go.ChangeAt Go.RowKit
open Go.Abs
abbrev dL:Ly:=.pair (.pair (.int .u8) (.int .u64)) (.pair (.sl (.int .u64)) (.int .u8))
theorem dO:TyO Try.prog dL 100:=tyB_ok (n:=6) (by kernel_rfl)
theorem dS:∃fs,Try.prog.underlying 100=some (.struct fs):=isSt_yes (by kernel_rfl)
theorem u64S:(∀fs,Try.prog.underlying 85≠some (.struct fs))∧∀n e,Try.prog.underlying 85≠some (.array n e):=isAg_no (by kernel_rfl)
theorem u64O:TyO Try.prog (.int .u64) 85:=tyB_ok (n:=4) (by kernel_rfl)
theorem wf_u8'{n:Int}(h:(Lit.int .u8 n).wf=true):0≤n∧n<256:=by
 simp[Lit.wf,IntKind.has,IntKind.min,IntKind.max,IntKind.signed,IntKind.bits]at h
 omega
end Go.Proofs.Ytddaobhpffpmoaa
