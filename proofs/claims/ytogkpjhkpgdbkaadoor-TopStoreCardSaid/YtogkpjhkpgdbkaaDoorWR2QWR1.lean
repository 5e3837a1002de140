/-
  The row TopStore, and its tied card.
-/
import Derived.Test.YtogkpjhkpgdbkaaDoorWR2QWR0
import Derived.Test.YtogkpjhkpgdbkaaDoorWR2QAbsY
import Derived.RowKitTokens
import Derived.ChangeVars
set_option linter.all false
namespace Go.Proofs.YtogkpjhkpgdbkaaDoor
open Go.ChangeShapes Go.WideShapes Go.ChangeAt Go.RowKit
open Go.Abs
theorem Tryd.own : ownKnob Tryd.prog.godebug = none := by kernel_rfl
theorem Tryd.laidOut : laidOutB Tryd.prog = true := by kernel_rfl
abbrev actsL : Ly := .sl (.pair .bool (.pair (.int .u8) (.int .u8)))
theorem actsO : TyO Tryd.prog actsL 23 := tyB_ok (n := 5) (by kernel_rfl)
theorem actsS : (∀ fs,Tryd.prog.underlying 23 ≠ some (.struct fs)) ∧ ∀ n e,Tryd.prog.underlying 23 ≠ some (.array n e) := isAg_no (by kernel_rfl)
theorem wordO : TyO Tryd.prog (.int .u16) 22 := tyB_ok (n := 5) (by kernel_rfl)
theorem wordS : (∀ fs,Tryd.prog.underlying 22 ≠ some (.struct fs)) ∧ ∀ n e,Tryd.prog.underlying 22 ≠ some (.array n e) := isAg_no (by kernel_rfl)
noncomputable def laidWorld (os : Os) : World :=
 let w0 := World.holding Tryd.prog os ⟨#[],#[],[]⟩
 {w0 with heap := w0.heap.modify 0 fun
   | .cells _ t frozen => .cells (ints.map fun s => .int .i64 s).toArray t frozen
   | o => o }
abbrev laidV : List (String × DataW Unit) := [("probecard/logic.fanins",Rows.laid_probecard_logic_fanins)]
theorem laidWorld_met (os : Os) (args : Array Value) : laidMet Tryd.prog laidV ((laidWorld os).forCall (fun _ _ => 0) ⟨#[],args,[]⟩).memory :=
 laidMet_of_run (ps := MemPlace.row ⟨0,0,none⟩ 32) 8 (by kernel_rfl) (by kernel_rfl) (by kernel_rfl)
end Go.Proofs.YtogkpjhkpgdbkaaDoor
