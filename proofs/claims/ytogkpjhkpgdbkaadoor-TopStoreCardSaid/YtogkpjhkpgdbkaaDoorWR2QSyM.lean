/-
  A general library: a contract on trees, called with objects that the callee only reads.
-/
import Derived.Test.YtogkpjhkpgdbkaaDoorWR2QSyI
set_option linter.all false
namespace Go.Abs
variable [Gl]
open Go.WideShapes
def plainT : T → Bool
 | .imm .. => false
 | .iptr _ => false
 | .fn .. => false
 | _ => true
section
variable {P : Program} {σ : Heap} {ι ι' : Map} {w w' : World}
theorem TR.plain {U U' : Nat → Prop} {x : T} {v : Value} (hp : plainT x = true) (h : TR U w x v) : TR U' w x v := by
 cases h with
 | bool b => exact .bool b
 | int k n => exact .int k n
 | str s => exact .str s
 | nilp => exact .nilp
 | imm0 => cases hp
 | imm => cases hp
 | iptr => cases hp
 | fn => cases hp
 | nilf => exact .nilf
 | junk v h => exact .junk v h
end
end Go.Abs
