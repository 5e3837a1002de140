/-
  Rows of marches: arguments, and a world that the rows' condition speaks of.
-/
import Derived.Test.YtcnlccpihknehaaDoorMT4QMS0
import Derived.Test.YtcnlccpihknehaaDoorMT4QMy
import Derived.RowKitTokens
import Derived.ChangeVars
set_option linter.all false
namespace Go.Proofs.YtcnlccpihknehaaDoor
open Go.ChangeShapes Go.WideShapes Go.ChangeAt Go.RowKit
open Go.Abs
theorem Tryd.own : ownKnob Tryd.prog.godebug = none := by kernel_rfl
theorem Tryd.laidOut : laidOutB Tryd.prog = true := by kernel_rfl
theorem strO : TyO Tryd.prog .str 9 := tyB_ok (n := 5) (by kernel_rfl)
theorem strS : ∀ fs,Tryd.prog.underlying 9 ≠ some (.struct fs) := isSt_no (by kernel_rfl)
theorem intS : ∀ fs,Tryd.prog.underlying 3 ≠ some (.struct fs) := isSt_no (by kernel_rfl)
theorem boolS : ∀ fs,Tryd.prog.underlying 4 ≠ some (.struct fs) := isSt_no (by kernel_rfl)
noncomputable def laidWorld (os : Os) : World :=
 let w0 := World.holding Tryd.prog os ⟨#[],#[],[]⟩
 { w0 with heap := w0.heap.modify 0 fun
     | .cells _ t frozen => .cells (strs.map fun s => .string ⟨s.toArray⟩).toArray t frozen
     | o => o }
abbrev laidV : List (String × DataW Unit) := [("probecard/marches.table",Rows.laid_probecard_marches_table)]
theorem laidWorld_met (os : Os) (args : Array Value) : laidMet Tryd.prog laidV ((laidWorld os).forCall (fun _ _ => 0) ⟨#[],args,[]⟩).memory :=
 laidMet_of_run (ps := MemPlace.row ⟨0,0,none⟩ 14) 8 (by kernel_rfl) (by kernel_rfl) (by kernel_rfl)
end Go.Proofs.YtcnlccpihknehaaDoor
