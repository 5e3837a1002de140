/-
  Gf2s: pivots (the law Gf2sPivots).
-/
import Derived.Test.YtddaobhpffpmoaaGR3QGq
import Derived.Test.YtddaobhpffpmoaaGR3QGPL
import Derived.Test.YtddaobhpffpmoaaGR3QGW7
set_option linter.all false
namespace Go.Proofs.Ytddaobhpffpmoaa
open Go.Abs
namespace Gf
theorem fr_inj {ps : List Nat} {c : Nat} : (fr ps c).Nodup := List.Pairwise.filter _ List.nodup_range
theorem nd_inj {l : List Nat} (h : l.Nodup) {i j : Nat} (hi : i < l.length) (hj : j < l.length) (e : l[i] = l[j]) : i = j := by
 rcases Nat.lt_trichotomy i j with h1 | h1 | h1
 ·exact absurd e (List.pairwise_iff_getElem.1 h i j hi hj h1)
 ·exact h1
 ·exact absurd e.symm (List.pairwise_iff_getElem.1 h j i hj hi h1)
section
variable {side ma : List Int} {nr : Nat} {c : Nat} {L : List (List Int)} {mr0 mc0 : Int} {wr : List (Int × List Int)}
end
end Gf
end Go.Proofs.Ytddaobhpffpmoaa
