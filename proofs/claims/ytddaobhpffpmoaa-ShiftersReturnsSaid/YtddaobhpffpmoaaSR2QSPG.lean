/-
  Shifters: the law Steps.
-/
import Derived.Test.YtddaobhpffpmoaaSR2QSq
import Derived.Test.YtddaobhpffpmoaaSR2QGS9
set_option linter.all false
namespace Go.Proofs.Ytddaobhpffpmoaa
open Go.Abs
namespace Sf
open Gf
theorem bz_inj{x y:Nat}(h:bz x=bz y):x=y:=Nat.eq_of_testBit_eq fun i=>congrFun h i
theorem nx_xor{n T:Nat}(hn:n≤64)(a b:Nat):nx n T (a^^^b)=nx n T a^^^nx n T b:=by
 apply bz_inj
 rw[bz_nx hn,bz_xor,sb_xr,bz_xor,bz_nx hn,bz_nx hn]
theorem tmod_nat(a b:Nat):(a:Int).tmod (b:Int)=((a%b:Nat):Int):=rfl
end Sf
end Go.Proofs.Ytddaobhpffpmoaa
