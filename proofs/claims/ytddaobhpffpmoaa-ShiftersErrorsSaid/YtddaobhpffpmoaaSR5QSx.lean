/-
  What the proof stands on.
-/
import Derived.Test.YtddaobhpffpmoaaSR5QSq
import Derived.Test.YtddaobhpffpmoaaSR5QGv
set_option linter.all false
namespace Go.Proofs.Ytddaobhpffpmoaa
open Go.Abs
namespace Sf
open Gf
end Sf
end Go.Proofs.Ytddaobhpffpmoaa
namespace Go.Proofs.Ytddaobhpffpmoaa
open Go.Abs
namespace Sf
open Gf
theorem take_one{α:Type}{l:List α}{i:Nat}(h:i<l.length):l.take (i+1)=l.take i++[l[i]]:=by
 rw[List.take_add_one,List.getElem?_eq_getElem h];rfl
def cut(N:Nat)(Q:List Nat):List Nat:=Q.map fun p=>p%2^N
theorem ints_of{l:List Int}(h:∀p∈l,0≤p∧p<18446744073709551616):∃Q:List Nat,l=ints Q∧∀p∈Q,p<2^64:=by
 refine⟨l.map Int.toNat,?_,fun p hp=> ?_⟩
 ·unfold ints
  rw[List.map_map]
  have:∀x∈l,((fun(x:Nat)=>(x:Int))∘Int.toNat) x=x:=fun x hx=>by have:=h x hx;show((x.toNat:Nat):Int)=x;omega
  rw[List.map_congr_left this,List.map_id']
 ·obtain⟨x,hx,rfl⟩:=List.mem_map.1 hp
  have:=h x hx
  omega
end Sf
end Go.Proofs.Ytddaobhpffpmoaa
namespace Go.Proofs.Ytddaobhpffpmoaa
open Go.Abs
namespace Sf
open Gf
end Sf
end Go.Proofs.Ytddaobhpffpmoaa
