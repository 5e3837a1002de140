/-
  Rows of marches: arguments, and a world that the rows' condition speaks of.
-/
import Derived.Test.YtcnlccpihknehaaDoorMT6QMS0
import Derived.Test.YtcnlccpihknehaaDoorMT6QMy
import Derived.RowKitTokens
import Derived.ChangeVars
set_option linter.all false
namespace Go.Proofs.YtcnlccpihknehaaDoor
open Go.ChangeShapes Go.WideShapes Go.ChangeAt Go.RowKit
open Go.Abs
theorem Tryd.own : ownKnob Tryd.prog.godebug = none := by kernel_rfl
theorem Tryd.laidOut : laidOutB Tryd.prog = true := by kernel_rfl
abbrev rawL : Ly := .pair (.sl (.int .u8)) (.sl (.sl (.int .u8)))
theorem rawO : TyO Tryd.prog rawL 25 := tyB_ok (n := 6) (by kernel_rfl)
theorem strO : TyO Tryd.prog .str 9 := tyB_ok (n := 5) (by kernel_rfl)
theorem strS : ∀ fs,Tryd.prog.underlying 9 ≠ some (.struct fs) := isSt_no (by kernel_rfl)
theorem intS : ∀ fs,Tryd.prog.underlying 3 ≠ some (.struct fs) := isSt_no (by kernel_rfl)
theorem rawS : ∃ fs,Tryd.prog.underlying 25 = some (.struct fs) := isSt_yes (by kernel_rfl)
theorem boolS : ∀ fs,Tryd.prog.underlying 4 ≠ some (.struct fs) := isSt_no (by kernel_rfl)
theorem raw_ok {x : rawL.ty} (h : rawL.inr x) : Mr.RawB x.1 x.2 := ⟨fun l hl b hb => wf_u8 ((h.2.2 l hl).2 b hb),fun b hb => wf_u8 (h.1.2 b hb)⟩
noncomputable def laidWorld (os : Os) : World :=
 let w0 := World.holding Tryd.prog os ⟨#[],#[],[]⟩
 { w0 with heap := w0.heap.modify 0 fun
     | .cells _ t frozen => .cells (strs.map fun s => .string ⟨s.toArray⟩).toArray t frozen
     | o => o }
abbrev laidV : List (String × DataW Unit) := [("probecard/marches.table",Rows.laid_probecard_marches_table)]
theorem laidWorld_met (os : Os) (args : Array Value) : laidMet Tryd.prog laidV ((laidWorld os).forCall (fun _ _ => 0) ⟨#[],args,[]⟩).memory :=
 laidMet_of_run (ps := MemPlace.row ⟨0,0,none⟩ 14) 8 (by kernel_rfl) (by kernel_rfl) (by kernel_rfl)
end Go.Proofs.YtcnlccpihknehaaDoor
