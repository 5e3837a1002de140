/-
  What the proof stands on.
-/
import Derived.Test.YtddaobhpffpmoaaSR6QGu
import Derived.Test.YtddaobhpffpmoaaSR6QGj
import Derived.Test.YtddaobhpffpmoaaSR6QGs
set_option linter.all false
namespace Go.Proofs.Ytddaobhpffpmoaa
open Go.Abs
set_option maxRecDepth 100000
end Go.Proofs.Ytddaobhpffpmoaa
namespace Go.Proofs.Ytddaobhpffpmoaa
open Go.Abs
set_option maxRecDepth 100000
end Go.Proofs.Ytddaobhpffpmoaa
