/- A part of the proof. -/
import Derived.Test.YtddaobhpffpmoaaSR7QGa
import Derived.Test.YtddaobhpffpmoaaSR7QGj
import Derived.Test.YtddaobhpffpmoaaSR7QGb
set_option linter.all false
set_option maxRecDepth 100000
namespace Go.Proofs.Ytddaobhpffpmoaa
open Go.Abs
