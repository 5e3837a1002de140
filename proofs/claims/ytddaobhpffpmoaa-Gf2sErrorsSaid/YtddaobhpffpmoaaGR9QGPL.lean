/-
  Gf2s: products (the law Gf2sProducts).
-/
import Derived.Test.YtddaobhpffpmoaaGR9QGe
import Derived.Test.YtddaobhpffpmoaaGR9QGP0
import Derived.Test.YtddaobhpffpmoaaGR9QGW3
set_option linter.all false
namespace Go.Proofs.Ytddaobhpffpmoaa
open Go.Abs
namespace Gf
end Gf
end Go.Proofs.Ytddaobhpffpmoaa
