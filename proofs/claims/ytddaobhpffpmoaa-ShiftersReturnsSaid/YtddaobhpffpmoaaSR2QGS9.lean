/-
  The functions of gf2s and shifters, run on symbolic values.
-/
import Derived.Test.YtddaobhpffpmoaaSR2QGu
import Derived.Test.YtddaobhpffpmoaaSR2QGj
set_option linter.all false
namespace Go.Proofs.Ytddaobhpffpmoaa
open Go.Abs
set_option maxRecDepth 100000
end Go.Proofs.Ytddaobhpffpmoaa
