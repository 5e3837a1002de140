/- A part of the proof. -/
import Derived.Test.YtnmlmdlhhphcoaaER8QMc
import Derived.Test.YtnmlmdlhhphcoaaRows
set_option linter.all false
namespace Go.Proofs.Ytnmlmdlhhphcoaa
open Go.Abs
instance glI:Gl:={ dat:=λ_=>none }
end Go.Proofs.Ytnmlmdlhhphcoaa
