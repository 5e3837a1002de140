/-
  Gf2s: products (the law Gf2sProducts).
-/
import Derived.Test.YtddaobhpffpmoaaGR3QGe
import Derived.Test.YtddaobhpffpmoaaGR3QGP0
import Derived.Test.YtddaobhpffpmoaaGR3QGW3
set_option linter.all false
namespace Go.Proofs.Ytddaobhpffpmoaa
open Go.Abs
namespace Gf
theorem rows_bits (a : List Int) (n k : Nat) : SupM k ((rowsN a n k).map bt) ∧ lr k ((rowsN a n k).map bt) = rowsN a n k ∧ ((rowsN a n k).map bt).length = n := by
 refine ⟨fun b hb => ?_,lr_bt fun r hr => rowsN_row a n k hr,by rw [List.length_map,rowsN_length]⟩
 obtain ⟨r,hr,rfl⟩ := List.mem_map.1 hb
 have := bt_sup r
 rw [(rowsN_row a n k hr).1] at this
 exact this
end Gf
end Go.Proofs.Ytddaobhpffpmoaa
