/-
  Gf2s: vectors (the law Gf2sVecs).
-/
import Derived.Test.YtddaobhpffpmoaaGR4QGd
import Derived.Test.YtddaobhpffpmoaaGR4QGP0
import Derived.Test.YtddaobhpffpmoaaGR4QGW2
set_option linter.all false
namespace Go.Proofs.Ytddaobhpffpmoaa
open Go.Abs
namespace Gf
theorem lb_suc (n : Nat) (b : Nat → Bool) : lb (n + 1) b = lb n b ++ [i01 (b n)] := by
 unfold lb
 rw [List.range_succ,List.map_append]; rfl
theorem bt_val {l : List Int} (h : B01 l) {i : Nat} (hi : i < l.length) : l[i] = i01 (bt l i) := by
 unfold bt
 rw [List.getElem?_eq_getElem hi,Option.getD_some]
 rcases h _ (List.getElem_mem hi) with e | e <;> rw [e] <;> rfl
theorem xor8 (p q : Bool) : IntKind.u8.wrap (↑(BitVec.ofInt 8 (i01 p) ^^^ BitVec.ofInt 8 (i01 q)).toNat : Int) = i01 (Bool.xor p q) := by
 cases p <;> cases q <;> rfl
theorem run4 (mr mc : Nat) (ma : List Int) (ix : Int) : M4.m ⟨mr,mc,ma,ix⟩ = some true := by
 obtain ⟨r,hr⟩ := small [((mr : Int),(mc : Int),ma)] (by simp)
 unfold M4.m
 simp only [hr,bindO]
 cases r with
 | false => simp only [Bool.not_false,cond_true,lives19]
 | true =>
  have hc : mc % 140 ≤ 139 := by omega
  generalize hcc : mc % 140 = c at hc
  have h21 : M21.m ⟨(mr : Int),(mc : Int),ma,2,(c : Int)⟩ = some [(List.range c).map fun (j : Nat) => cell ma ((0 : Nat) : Int) c j,(List.range c).map fun (j : Nat) => cell ma ((1 : Nat) : Int) c j] := rows (n := 2) mr mc ma (by omega) (show c ≤ 1000 by omega)
  have hl : ∀ i : Nat,((List.range c).map fun (j : Nat) => cell ma (i : Int) c j).length = c ∧ B01 ((List.range c).map fun (j : Nat) => cell ma (i : Int) c j) := fun i => ⟨by simp,fun x hx => by
   obtain ⟨j,_,rfl⟩ := List.mem_map.1 hx
   exact cell01 _ _ _ _⟩
  obtain ⟨h0,b0⟩ := hl 0
  obtain ⟨h1,b1⟩ := hl 1
  generalize ((List.range c).map fun (j : Nat) => cell ma ((0 : Nat) : Int) c j) = l0 at *
  generalize ((List.range c).map fun (j : Nat) => cell ma ((1 : Nat) : Int) c j) = l1 at *
  have s0 : Sup c (bt l0) := h0 ▸ bt_sup l0
  have s1 : Sup c (bt l1) := h1 ▸ bt_sup l1
  have v0 : M24.m ⟨l0⟩ = some ((c : Int),vw c (bt l0)) := by have := vec (l := l0) (by omega) b0; rw [h0] at this; exact this
  have v1 : M24.m ⟨l1⟩ = some ((c : Int),vw c (bt l1)) := by have := vec (l := l1) (by omega) b1; rw [h1] at this; exact this
  have e0 : lb c (bt l0) = l0 := by have := lb_bt b0; rw [h0] at this; exact this
  have e1 : lb c (bt l1) = l1 := by have := lb_bt b1; rw [h1] at this; exact this
  have q0 : M30.m ⟨(c : Int),vw c (bt l0),l0⟩ = some true := by have := equal (b := bt l0) (show c ≤ 4096 by omega) s0; rw [e0] at this; exact this
  have q1 : M30.m ⟨(c : Int),vw c (bt l1),l1⟩ = some true := by have := equal (b := bt l1) (show c ≤ 4096 by omega) s1; rw [e1] at this; exact this
  have r35 : M35.m ⟨l0,l1⟩ = some (i01 (dot c (bt l0) (bt l1))) := by have := ref35 (a := l0) (v := l1) (by omega) (by omega) b0 b1; rw [h0] at this; exact this
  have k34 : M34.m ⟨(c : Int),vw c (bt l0)⟩ = some l0 := by have := bits (b := bt l0) (show c ≤ 4096 by omega) s0; rw [e0] at this; exact this
  have hk : iter M4.s0 ⟨ix,(c : Int),[l0,l1],0,i01 (dot c (bt l0) (bt l1)),0,0,0,0,0,(mr : Int),(mc : Int),ma,(c : Int),vw c (bt l0),(c : Int),vw c (bt l1),(c : Int),vw c (xr (bt l0) (bt l1)),[]⟩ =
    some ⟨ix,(c : Int),[l0,l1],0,i01 (dot c (bt l0) (bt l1)),0,lb c (xr (bt l0) (bt l1)),((cnt (bt l0) c : Nat) : Int),(mr : Int),(mc : Int),ma,(c : Int),vw c (bt l0),(c : Int),vw c (bt l1),(c : Int),vw c (xr (bt l0) (bt l1))⟩ := by
   have key := iter_up (step := M4.s0) (fun k => ⟨ix,(c : Int),[l0,l1],0,i01 (dot c (bt l0) (bt l1)),0,0,k,((cnt (bt l0) k : Nat) : Int),(k : Int),(mr : Int),(mc : Int),ma,(c : Int),vw c (bt l0),(c : Int),vw c (bt l1),(c : Int),vw c (xr (bt l0) (bt l1)),lb k (xr (bt l0) (bt l1))⟩) c
    (y := ⟨ix,(c : Int),[l0,l1],0,i01 (dot c (bt l0) (bt l1)),0,lb c (xr (bt l0) (bt l1)),((cnt (bt l0) c : Nat) : Int),(mr : Int),(mc : Int),ma,(c : Int),vw c (bt l0),(c : Int),vw c (bt l1),(c : Int),vw c (xr (bt l0) (bt l1))⟩) (fun k hk => by
     have hk0 : k < l0.length := by omega
     have hk1 : k < l1.length := by omega
     have f1 : decide ((k : Int) < (c : Int)) = true := by simpa using hk
     have f2 : (eqN 0 0 && eqN (lb k (xr (bt l0) (bt l1))).length k && roomB (k + 1) 1) = true := by
      have g1 : eqN (lb k (xr (bt l0) (bt l1))).length k = true := by simp [eqN,lb_length]
      have g2 : roomB (k + 1) 1 = true := by simp [roomB,leB]; omega
      rw [g1,g2]; rfl
     have f3 := cnt_le (bt l0) k
     have f4 : IntKind.i64.wrap (((cnt (bt l0) k : Nat) : Int) + IntKind.i64.wrap (i01 (bt l0 k))) = ((cnt (bt l0) (k + 1) : Nat) : Int) := by
      simp only [cnt]
      cases bt l0 k with
      | true => rw [show IntKind.i64.wrap (i01 true) = 1 from rfl,w64 (by omega) (by omega)]; simp
      | false => rw [show IntKind.i64.wrap (i01 false) = 0 from rfl,w64 (by omega) (by omega)]; simp
     have f5 : ([l0,l1] : List (List Int))[0]?.getD [] = l0 := rfl
     have f6 : ([l0,l1] : List (List Int))[1]?.getD [] = l1 := rfl
     have f7 : inR 0 ([l0,l1] : List (List Int)).length = true := rfl
     have f8 : inR 1 ([l0,l1] : List (List Int)).length = true := rfl
     unfold M4.s0
     rw [lb_suc]
     simp only [f1,f2,f5,f6,f7,f8,inR_nat hk0,inR_nat hk1,getD_at hk0,getD_at hk1,bt_val b0 hk0,bt_val b1 hk1,xor8,f4,cond_true,suc (show k < 9000000000000000000 by omega)]
     rfl) (by
     have f1 : decide ((c : Int) < (c : Int)) = false := by simp
     have f2 : leB (0 + c) (lb c (xr (bt l0) (bt l1))).length = true := by simp [leB,lb_length]
     have f3 : List.take c (List.drop 0 (lb c (xr (bt l0) (bt l1)))) = lb c (xr (bt l0) (bt l1)) := by rw [List.drop_zero,List.take_of_length_le (by rw [lb_length]; exact Nat.le_refl _)]
     unfold M4.s0
     simp only [f1,f2,f3,cond_false,cond_true,Bool.and_self])
   exact key
  have hk1 : iter M4.s1 ⟨(c : Int),[l0,l1],l0,0,(mr : Int),(mc : Int),ma,(c : Int),vw c (bt l0)⟩ = some (.inl PUnit.unit) := by
   have key := iter_up (step := M4.s1) (fun k => ⟨(c : Int),[l0,l1],l0,(k : Int),(mr : Int),(mc : Int),ma,(c : Int),vw c (bt l0)⟩) c (y := .inl PUnit.unit) (fun k hk => by
    have hk0 : k < l0.length := by omega
    have f1 : decide ((k : Int) < (c : Int)) = true := by simpa using hk
    have f5 : ([l0,l1] : List (List Int))[0]?.getD [] = l0 := rfl
    have f7 : inR 0 ([l0,l1] : List (List Int)).length = true := rfl
    have f9 : (l0[k] != l0[k]) = false := by simp
    have f10 : (i01 (bt l0 k) != i01 (bt l0 k)) = false := by simp
    unfold M4.s1
    simp only [f1,f5,f7,inR_nat hk0,getD_at hk0,cond_true,f9,Bool.not_false,at_in (show c ≤ 4096 by omega) s0 hk,bindO,Bool.true_or,cond_false,suc (show k < 9000000000000000000 by omega)]
    rw [bt_val b0 hk0,f10,cond_false]) (by
    have f1 : decide ((c : Int) < (c : Int)) = false := by simp
    unfold M4.s1
    simp only [f1,cond_false])
   exact key
  have h20 : M20.m ⟨(mr : Int),(mc : Int),ma⟩ = some (((mr % 10 : Nat) : Int),(c : Int)) := by rw [sides,hcc]
  have g0 : inR 0 (List.length [l0,l1]) = true := rfl
  have g1 : inR 1 (List.length [l0,l1]) = true := rfl
  have g2 : ([l0,l1] : List (List Int))[0]?.getD [] = l0 := rfl
  have g3 : ([l0,l1] : List (List Int))[1]?.getD [] = l1 := rfl
  have g4 : ((l0.length : Int) != (c : Int)) = false := by rw [h0]; simp
  have g5 : ((0 : Int) != 0) = false := rfl
  have g6 : (i01 (dot c (bt l0) (bt l1)) != i01 (dot c (bt l0) (bt l1))) = false := by simp
  have g7 : (((cnt (bt l0) c : Nat) : Int) != ((cnt (bt l0) c : Nat) : Int)) = false := by simp
  have qx : M30.m ⟨(c : Int),vw c (xr (bt l0) (bt l1)),lb c (xr (bt l0) (bt l1))⟩ = some true := equal (by omega) (sup_xr s0 s1)
  have hat : M37.m ⟨(c : Int),vw c (bt l0),ix⟩ = some (bif bif decide (ix ≥ 0) then decide (ix < (c : Int)) else false then l0[ix.toNat]?.getD 0 else 0) := by
   by_cases h : 0 ≤ ix ∧ ix < (c : Int)
   ·obtain ⟨i,rfl⟩ := Int.eq_ofNat_of_zero_le h.1
    have hi : i < c := by omega
    have hi0 : i < l0.length := by omega
    have f1 : decide ((i : Int) ≥ 0) = true := by simp
    have f2 : decide ((i : Int) < (c : Int)) = true := by simpa using hi
    rw [f1,f2,cond_true,cond_true,at_in (show c ≤ 4096 by omega) s0 hi,Int.toNat_natCast,List.getElem?_eq_getElem hi0,Option.getD_some,bt_val b0 hi0]
   ·have f : (bif decide (ix ≥ 0) then decide (ix < (c : Int)) else false) = false := by
     cases h' : decide (ix ≥ 0) with
     | false => rfl
     | true => simp at h'; simp; omega
    rw [at_out (show c ≤ 4096 by omega) s0 h,f]; rfl
  have hg : (bif inR ix l0.length && true then true else bif bif decide (ix ≥ 0) then decide (ix < (c : Int)) else false then false else true) = true := by
   by_cases h : 0 ≤ ix ∧ ix < (c : Int)
   ·obtain ⟨i,rfl⟩ := Int.eq_ofNat_of_zero_le h.1
    rw [inR_nat (show i < l0.length by omega)]; rfl
   ·have f : (bif decide (ix ≥ 0) then decide (ix < (c : Int)) else false) = false := by
     cases h' : decide (ix ≥ 0) with
     | false => rfl
     | true => simp at h'; simp; omega
    rw [f]
    cases inR ix l0.length && true <;> rfl
  simp only [Bool.not_true,cond_false,h20,h21,g0,cond_true,g2,v0,g1,g3,v1,add (show c ≤ 4096 by omega) s0 s1,dot33 (show c ≤ 4096 by omega) s0 s1,hk,Bool.true_and,hg,k34,Bool.true_or,g4,Bool.not_false,q0,q1,g5,qx,r35,g6,wt (show c ≤ 4096 by omega) s0,g7,hat]
  have hv : ∀ v : Int,(v != v) = false := fun v => by simp
  simp only [hv,cond_false,hk1,sumC,lives19]
theorem run4' {mr mc : Int} (ma : List Int) (ix : Int) (hr : 0 ≤ mr) (hc : 0 ≤ mc) : M4.m ⟨mr,mc,ma,ix⟩ = some true := by
 obtain ⟨r,rfl⟩ := Int.eq_ofNat_of_zero_le hr
 obtain ⟨c,rfl⟩ := Int.eq_ofNat_of_zero_le hc
 exact run4 r c ma ix
end Gf
end Go.Proofs.Ytddaobhpffpmoaa
