/-
  March runs: marches changed; the statement Reverse: its run answers true.
-/
import Derived.Test.YtcnlccpihknehaaDoorMR6QMm
import Derived.Test.YtcnlccpihknehaaDoorMR6QMUJ
set_option linter.all false
namespace Go.Proofs.YtcnlccpihknehaaDoor
open Go.Abs
namespace Mr
open Pl
def turn (o : Int) : Int := if o = 1 then 2 else if o = 2 then 1 else o
theorem m81 (os : List Op) : M81.m ⟨0,os.length,os⟩ = some (0,os.length,os.length,os) := by
 unfold M81.m
 simp
theorem m53 (ms : List El) : M53.m ⟨0,ms.length,ms⟩ = some (0,ms.length,ms.length,ms) := by
 unfold M53.m
 simp
end Mr
end Go.Proofs.YtcnlccpihknehaaDoor
