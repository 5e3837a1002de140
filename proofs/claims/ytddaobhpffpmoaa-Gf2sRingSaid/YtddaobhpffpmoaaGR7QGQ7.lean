/-
  Gf2s: pivots (the law Gf2sPivots).
-/
import Derived.Test.YtddaobhpffpmoaaGR7QGq
import Derived.Test.YtddaobhpffpmoaaGR7QGPL
import Derived.Test.YtddaobhpffpmoaaGR7QGW7
set_option linter.all false
namespace Go.Proofs.Ytddaobhpffpmoaa
open Go.Abs
namespace Gf
section
variable {side ma : List Int} {nr : Nat} {c : Nat} {L : List (List Int)} {mr0 mc0 : Int} {wr : List (Int × List Int)}
end
end Gf
end Go.Proofs.Ytddaobhpffpmoaa
