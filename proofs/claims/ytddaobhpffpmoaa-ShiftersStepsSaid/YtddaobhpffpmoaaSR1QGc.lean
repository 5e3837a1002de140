/-
  What the proof stands on.
-/
import Derived.Test.YtddaobhpffpmoaaSR1QGa
import Derived.Test.YtddaobhpffpmoaaSR1QGj
import Derived.Test.YtddaobhpffpmoaaSR1QGb
set_option linter.all false
namespace Go.Proofs.Ytddaobhpffpmoaa
open Go.Abs
set_option maxRecDepth 100000
end Go.Proofs.Ytddaobhpffpmoaa
namespace Go.Proofs.Ytddaobhpffpmoaa
open Go.Abs
set_option maxRecDepth 100000
end Go.Proofs.Ytddaobhpffpmoaa
namespace Go.Proofs.Ytddaobhpffpmoaa
open Go.Abs
set_option maxRecDepth 100000
end Go.Proofs.Ytddaobhpffpmoaa
namespace Go.Proofs.Ytddaobhpffpmoaa
open Go.Abs
set_option maxRecDepth 100000
end Go.Proofs.Ytddaobhpffpmoaa
namespace Go.Proofs.Ytddaobhpffpmoaa
open Go.Abs
set_option maxRecDepth 100000
end Go.Proofs.Ytddaobhpffpmoaa
namespace Go.Proofs.Ytddaobhpffpmoaa
open Go.Abs
set_option maxRecDepth 100000
end Go.Proofs.Ytddaobhpffpmoaa
namespace Go.Proofs.Ytddaobhpffpmoaa
open Go.Abs
set_option maxRecDepth 100000
end Go.Proofs.Ytddaobhpffpmoaa
