/-
  Gf2s: solutions (the law Gf2sSolves).
-/
import Derived.Test.YtddaobhpffpmoaaGR7QGQ7
import Derived.Test.YtddaobhpffpmoaaGR7QGc
import Derived.Test.YtddaobhpffpmoaaGR7QGW6
set_option linter.all false
namespace Go.Proofs.Ytddaobhpffpmoaa
open Go.Abs
namespace Gf
theorem nodup_le {α : Type} [DecidableEq α] : ∀ {l k : List α},l.Nodup → (∀ x ∈ l,x ∈ k) → l.length ≤ k.length
 | [],_,_,_ => Nat.zero_le _
 | a :: l,k,hn,h => by
  have ha := h a (by simp)
  have hn' := List.nodup_cons.1 hn
  have := nodup_le (l := l) (k := k.erase a) hn'.2 fun x hx => by
   have hne : x ≠ a := fun e => hn'.1 (e ▸ hx)
   exact (List.mem_erase_of_ne hne).2 (h x (by simp [hx]))
  rw [List.length_erase_of_mem ha] at this
  have : 0 < k.length := List.length_pos_of_mem ha
  simp only [List.length_cons]
  omega
def tb (n : Nat) : Bits := fun j => n.testBit j
theorem tb_sup {n c : Nat} (h : n < 2 ^ c) : Sup c (tb n) := fun i hi => Nat.testBit_lt_two_pow (Nat.lt_of_lt_of_le h (Nat.pow_le_pow_right (by omega) hi))
theorem tb_nb (c : Nat) {b : Bits} (hb : Sup c b) : tb (nb b c) = b := by
 funext i
 unfold tb
 rw [nb_bit]
 by_cases h : i < c
 ·simp [h]
 ·simp [h,hb i (by omega)]
theorem nb_tb {n c : Nat} (h : n < 2 ^ c) : nb (tb n) c = n := by
 refine Nat.eq_of_testBit_eq fun i => ?_
 rw [nb_bit]
 by_cases hi : i < c
 ·simp [hi,tb]
 ·have := tb_sup h i (by omega)
  unfold tb at this
  simp [hi,this]
def yv (x : Bits) (K : List Bits) (n : Nat) : Nat → Bits
 | 0 => x
 | k + 1 => if tb n k = true then xr (yv x K n k) (row K k) else yv x K n k
section
variable {c f : Nat} {x : Bits} {K : List Bits}
end
end Gf
end Go.Proofs.Ytddaobhpffpmoaa
