/- A part of the proof. -/
import Derived.Test.YtddaobhpffpmoaaSR7QSyJ
import Derived.Below
set_option linter.all false
namespace Go.Abs
variable [Gl]
open Go.RowKit
theorem HR.empty{ι:Map}{w:World}(h:HR ι [] w)(id:Nat):ι id=none:=by
 cases h1:ι id with
 |none=>rfl
 |some s=>obtain⟨o,h2,_⟩:=h.obj id s h1;cases h2
end Go.Abs
