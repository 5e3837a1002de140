/-
  Gf2s: pivots (the law Gf2sPivots).
-/
import Derived.Test.YtddaobhpffpmoaaGR5QGq
import Derived.Test.YtddaobhpffpmoaaGR5QGPL
import Derived.Test.YtddaobhpffpmoaaGR5QGW7
set_option linter.all false
namespace Go.Proofs.Ytddaobhpffpmoaa
open Go.Abs
namespace Gf
def trn (m : Nat) (b : Bits) : Bits := fun j => decide (j < m) && b j
theorem trn_sup (m : Nat) (b : Bits) : Sup m (trn m b) := fun i hi => by
 unfold trn
 have : decide (i < m) = false := by simp; omega
 rw [this]; rfl
theorem bt_take (l : List Int) (m : Nat) : bt (l.take m) = trn m (bt l) := by
 funext i
 unfold bt trn
 by_cases h : i < m
 ·rw [List.getElem?_take_of_lt h]; simp [h]
 ·rw [List.getElem?_eq_none (by rw [List.length_take]; omega)]; simp [h]
def Agr (m : Nat) (A B : List Bits) : Prop := A.length = B.length ∧ ∀ i x,x < m → row A i x = row B i x
theorem rstep_row {k : Nat} {R S : List Bits} {ps : List Nat} (hS : Mt R S) {i : Nat} (hf : fnd (fun i => row R i k) (R.length - ps.length) ps.length = some i) (j m : Nat) :
  row (rstep k (R,S,ps)).1 j m = if j < R.length ∧ j ≠ ps.length ∧ row R (pm i ps.length j) k = true then Bool.xor (row R (pm i ps.length j) m) (row R i m) else row R (pm i ps.length j) m := by
 obtain ⟨f1,f2,f3,_⟩ := fnd_some hf
 have hi : i < R.length := row_lt f3
 have ht : ps.length < R.length := by omega
 have hS' : Mt (sw R i ps.length) (sw S i ps.length) := by
  rcases hS with rfl | e
  ·exact .inl rfl
  ·exact .inr (by rw [sw_length,sw_length]; exact e)
 have e0 : rstep k (R,S,ps) = ((clN ps.length k (sw R i ps.length,sw S i ps.length) R.length).1,(clN ps.length k (sw R i ps.length,sw S i ps.length) R.length).2,ps ++ [k]) := by
  unfold rstep
  simp only [hf]
 obtain ⟨c1,_⟩ := row_clN (t := ps.length) hS' (by rw [sw_length]; exact ht) k R.length (by rw [sw_length]; exact Nat.le_refl _)
 rw [e0,c1]
 unfold clR
 rw [row_sw hi ht,row_sw hi ht]
 have ptt : pm i ps.length ps.length = i := by unfold pm; rw [if_pos rfl]
 rw [ptt]
 split
 ·rfl
 ·rfl
theorem rd_nil {c : Nat} {R : List Bits} (sR : SupM c R) (k : Nat) : (rd R [] k).2.1 = [] :=
 List.length_eq_zero_iff.1 (by rw [(rd_inv (d := 0) (S := []) sR (.inl rfl) k).1.ls]; rfl)
theorem rd_agr {c m : Nat} {A B : List Bits} (sA : SupM m A) (sB : SupM c B) (h : Agr m A B) : ∀ k,k ≤ m → Agr m (rd A [] k).1 (rd B [] k).1 ∧ (rd A [] k).2.2 = (rd B [] k).2.2
 | 0,_ => ⟨h,rfl⟩
 | k + 1,hk => by
  obtain ⟨⟨h1,h2⟩,h3⟩ := rd_agr sA sB h k (by omega)
  have nA := rd_nil sA k
  have nB := rd_nil sB k
  simp only [rd]
  generalize rd A [] k = a at *
  generalize rd B [] k = b at *
  obtain ⟨A',S,ps⟩ := a
  obtain ⟨B',T,qs⟩ := b
  simp only at h1 h2 h3 nA nB
  subst h3 nA nB
  have ef : fnd (fun i => row A' i k) (A'.length - ps.length) ps.length = fnd (fun i => row B' i k) (B'.length - ps.length) ps.length := by
   rw [h1]
   congr 1
   funext i
   exact h2 i k (by omega)
  cases hf : fnd (fun i => row B' i k) (B'.length - ps.length) ps.length with
  | some i =>
   rw [hf] at ef
   refine ⟨⟨?_,fun j x hx => ?_⟩,?_⟩
   ·have l1 := clN_length ps.length k (sw A' i ps.length,sw [] i ps.length) A'.length
    have l2 := clN_length ps.length k (sw B' i ps.length,sw [] i ps.length) B'.length
    unfold rstep
    simp only [ef,hf]
    rw [l1.1,l2.1]
    simp only [sw_length]
    exact h1
   ·rw [rstep_row (.inl rfl) ef,rstep_row (.inl rfl) hf,h1,h2 _ x hx,h2 _ x hx,h2 _ k (by omega)]
   ·unfold rstep
    simp only [ef,hf]
  | none =>
   rw [hf] at ef
   unfold rstep
   simp only [ef,hf]
   exact ⟨⟨h1,h2⟩,trivial⟩
def pc (R : List Bits) (k : Nat) : Nat := (rd R [] k).2.2.length
theorem rk_cut {c m : Nat} {B : List Bits} (sB : SupM c B) : rk m (B.map (trn m)) = pc B m := by
 have sA : SupM m (B.map (trn m)) := fun b hb => by
  obtain ⟨x,_,rfl⟩ := List.mem_map.1 hb
  exact trn_sup m x
 have := (rd_agr (A := B.map (trn m)) sA sB ⟨by simp,fun i x hx => by
  unfold row
  rw [List.getElem?_map]
  cases B[i]? with
  | some b => unfold trn; simp [hx]
  | none => rfl⟩ m (Nat.le_refl _)).2
 unfold rk pc
 rw [this]
def fk (R : List Bits) (k : Nat) : List Nat := fr (rd R [] k).2.2 k
theorem fk_step {c k : Nat} {R : List Bits} (sR : SupM c R) : (pc R (k + 1) = pc R k ∧ fk R (k + 1) = fk R k ++ [k]) ∨ (pc R (k + 1) = pc R k + 1 ∧ fk R (k + 1) = fk R k) := by
 have inv := (rd_inv (d := 0) (S := []) sR (.inl rfl) k).1
 have hk : ¬ k ∈ (rd R [] k).2.2 := fun h => by
  obtain ⟨p,hp,e⟩ := mem_pv.1 h
  have := inv.lk p hp
  omega
 unfold pc fk
 simp only [rd]
 cases hf : fnd (fun i => row (rd R [] k).1 i k) ((rd R [] k).1.length - (rd R [] k).2.2.length) (rd R [] k).2.2.length with
 | some i =>
  have h3 := (rstep_some (d := 0) inv (.inl rfl) hf).2.2.1
  right
  rw [h3,fr_succ,if_pos (by simp),List.length_append]
  refine ⟨rfl,?_⟩
  unfold fr
  refine List.filter_congr fun j hj => ?_
  have := List.mem_range.1 hj
  have e : j ≠ k := by omega
  simp [e]
 | none =>
  left
  rw [(rstep_none inv hf).2,fr_succ,if_neg hk]
  exact ⟨rfl,rfl⟩
theorem fk_len {c : Nat} {R : List Bits} (sR : SupM c R) (k : Nat) : (fk R k).length ≤ k ∧ pc R k ≤ k := by
 have := fr_count (S := []) sR (.inl rfl) k
 unfold fk pc
 omega
theorem fr_inj {ps : List Nat} {c : Nat} : (fr ps c).Nodup := List.Pairwise.filter _ List.nodup_range
theorem nd_inj {l : List Nat} (h : l.Nodup) {i j : Nat} (hi : i < l.length) (hj : j < l.length) (e : l[i] = l[j]) : i = j := by
 rcases Nat.lt_trichotomy i j with h1 | h1 | h1
 ·exact absurd e (List.pairwise_iff_getElem.1 h i j hi hj h1)
 ·exact h1
 ·exact absurd e.symm (List.pairwise_iff_getElem.1 h j i hj hi h1)
section
variable {side ma : List Int} {nr : Nat} {c : Nat} {L : List (List Int)} {mr0 mc0 : Int} {wr : List (Int × List Int)}
theorem cut5 (hL : L.length = nr) (hn : nr ≤ 100) (hc : c ≤ 1000) (hl : ∀ r ∈ L,r.length = c ∧ B01 r) {k : Nat} (hk : k < c) (fl last : Int) (free : List Int) (fn : Nat) :
  iter M5.s1 ⟨side,nr,c,L,0,fn,last,k,0,0,0,mr0,mc0,ma,c,wr,free,[]⟩ = some ⟨side,nr,c,L,0,fn,last,k,L.map (List.take (k + 1)),mr0,mc0,ma,c,wr,free⟩ := by
 have hm : ∀ i (hi : i < L.length),(L.take (i + 1)).map (List.take (k + 1)) = (L.take i).map (List.take (k + 1)) ++ [L[i].take (k + 1)] := fun i hi => by
  rw [List.take_succ_eq_append_getElem hi,List.map_append]; rfl
 have key := iter_up (step := M5.s1) (fun i => ⟨side,nr,c,L,0,fn,last,k,0,i,(i : Int),mr0,mc0,ma,c,wr,free,(L.take i).map (List.take (k + 1))⟩) nr
  (y := ⟨side,nr,c,L,0,fn,last,k,L.map (List.take (k + 1)),mr0,mc0,ma,c,wr,free⟩) (fun i hi => by
   have hi' : i < L.length := by omega
   have e1 : decide ((i : Int) < (nr : Int)) = true := by simpa using hi
   have e3 : (eqN 0 0 && eqN ((L.take i).map (List.take (k + 1))).length i && roomB (i + 1) 24) = true := by
    have g1 : eqN ((L.take i).map (List.take (k + 1))).length i = true := by
     rw [List.length_map,List.length_take,Nat.min_eq_left (by omega)]; simp [eqN]
    have g2 : roomB (i + 1) 24 = true := by simp [roomB,leB]; omega
    rw [g1,g2]; rfl
   have e4 : decide ((0 : Int) ≤ ((k + 1 : Nat) : Int)) = true := by simp; omega
   have e5 : decide (((k + 1 : Nat) : Int) ≤ ((L[i].length : Nat) : Int)) = true := by rw [(hl _ (List.getElem_mem hi')).1]; simp; omega
   have e6 : L[i]?.getD [] = L[i] := by rw [List.getElem?_eq_getElem hi']; rfl
   unfold M5.s1
   rw [hm i hi']
   simp only [e1,inR_nat hi',e6,suc (show k < 9000000000000000000 by omega),e4,e5,e3,Bool.and_self,cond_true,Int.toNat_natCast,Nat.sub_zero,List.drop_zero,suc (show i < 9000000000000000000 by omega)]) (by
   have e1 : decide ((nr : Int) < (nr : Int)) = false := by simp
   have e2 : leB (0 + nr) ((L.take nr).map (List.take (k + 1))).length = true := by simp [leB]; omega
   have e3 : List.take nr (List.drop 0 ((L.take nr).map (List.take (k + 1)))) = L.map (List.take (k + 1)) := by
    rw [List.drop_zero,List.take_of_length_le (by simp; omega),List.take_of_length_le (by omega)]
   unfold M5.s1
   simp only [e1,cond_false,e2,e3,Bool.and_self,cond_true])
 exact key
theorem free5 (hL : L.length = nr) (hn : nr ≤ 100) (hc : c ≤ 1000) (hl : ∀ r ∈ L,r.length = c ∧ B01 r) (sR : SupM c (L.map bt)) :
  iter M5.s0 ⟨side,nr,c,L,0,0,0,0,mr0,mc0,ma,c,wr,[]⟩ = some (.inl ⟨side,nr,c,L,ints (fk (L.map bt) c),mr0,mc0,ma,c,wr⟩) := by
 have key := iter_up (step := M5.s0) (fun k => ⟨side,nr,c,L,0,(fk (L.map bt) k).length,((pc (L.map bt) k : Nat) : Int),k,mr0,mc0,ma,c,wr,ints (fk (L.map bt) k)⟩) c
  (y := .inl ⟨side,nr,c,L,ints (fk (L.map bt) c),mr0,mc0,ma,c,wr⟩) (fun k hk => by
   have e1 : decide ((k : Int) < (c : Int)) = true := by simpa using hk
   have hcut := cut5 (side := side) (ma := ma) (mr0 := mr0) (mc0 := mc0) (wr := wr) hL hn hc hl hk 0 ((pc (L.map bt) k : Nat) : Int) (ints (fk (L.map bt) k)) (fk (L.map bt) k).length
   have eb : (L.map (List.take (k + 1))).map bt = (L.map bt).map (trn (k + 1)) := by
    rw [List.map_map,List.map_map]
    exact List.map_congr_left fun l _ => bt_take l (k + 1)
   have h23 := of23 (L := L.map (List.take (k + 1))) (c := k + 1) (by omega) (by simp; omega) (fun r hr => by
    obtain ⟨l,hm,rfl⟩ := List.mem_map.1 hr
    obtain ⟨h1,h2⟩ := hl l hm
    exact ⟨by rw [List.length_take]; omega,fun x hx => h2 x (List.mem_of_mem_take hx)⟩) ((k + 1 : Nat) : Int)
   rw [eb] at h23
   have sC : SupM (k + 1) ((L.map bt).map (trn (k + 1))) := fun b hb => by
    obtain ⟨x,_,rfl⟩ := List.mem_map.1 hb
    exact trn_sup _ x
   have h26 := rank26 (c := k + 1) (R := (L.map bt).map (trn (k + 1))) (by omega) (by simp; omega) sC
   rw [rk_cut sR] at h26
   have hlen := fk_len sR k
   have w1 : IntKind.i64.wrap (((pc (L.map bt) k : Nat) : Int) + 1) = ((pc (L.map bt) k + 1 : Nat) : Int) := by rw [w64 (by omega) (by omega)]; omega
   unfold M5.s0
   simp only [e1,cond_true,hcut,bindO,suc (show k < 9000000000000000000 by omega),h23,h26,nz,cond_false,w1]
   rcases fk_step (k := k) sR with ⟨h1,h2⟩ | ⟨h1,h2⟩
   ·rw [h1,h2]
    have g1 : decide (((pc (L.map bt) k : Nat) : Int) < ((pc (L.map bt) k : Nat) : Int)) = false := by simp
    have g2 : decide (((pc (L.map bt) k : Nat) : Int) > ((pc (L.map bt) k + 1 : Nat) : Int)) = false := by simp; omega
    have g3 : (((pc (L.map bt) k : Nat) : Int) == ((pc (L.map bt) k : Nat) : Int)) = true := by simp
    have g4 : (eqN 0 0 && eqN (ints (fk (L.map bt) k)).length (fk (L.map bt) k).length && roomB ((fk (L.map bt) k).length + 1) 8) = true := by
     have a1 : eqN (ints (fk (L.map bt) k)).length (fk (L.map bt) k).length = true := by rw [ints_length]; simp [eqN]
     have a2 : roomB ((fk (L.map bt) k).length + 1) 8 = true := by simp [roomB,leB]; omega
     rw [a1,a2]; rfl
    have g5 : ints (fk (L.map bt) k ++ [k]) = ints (fk (L.map bt) k) ++ [(k : Int)] := by simp [ints]
    simp only [g1,g2,g3,g4,g5,cond_true,cond_false,List.length_append,List.length_cons,List.length_nil,Nat.zero_add]
   ·rw [h1,h2]
    have g1 : decide (((pc (L.map bt) k + 1 : Nat) : Int) < ((pc (L.map bt) k : Nat) : Int)) = false := by simp; omega
    have g2 : decide (((pc (L.map bt) k + 1 : Nat) : Int) > ((pc (L.map bt) k + 1 : Nat) : Int)) = false := by simp
    have g3 : (((pc (L.map bt) k + 1 : Nat) : Int) == ((pc (L.map bt) k : Nat) : Int)) = false := by simp; omega
    simp only [g1,g2,g3,cond_false]) (by
   have e1 : decide ((c : Int) < (c : Int)) = false := by simp
   have e2 : leB (0 + (fk (L.map bt) c).length) (ints (fk (L.map bt) c)).length = true := by simp [leB,ints_length]
   have e3 : List.take (fk (L.map bt) c).length (List.drop 0 (ints (fk (L.map bt) c))) = ints (fk (L.map bt) c) := by
    rw [List.drop_zero,List.take_of_length_le (by rw [ints_length]; exact Nat.le_refl _)]
   unfold M5.s0
   simp only [e1,cond_false,e2,e3,Bool.and_self,cond_true])
 exact key
end
theorem run5 (mr0 mc0 : Nat) (ma side : List Int) : M5.m ⟨mr0,mc0,ma,side⟩ = some true := by
 obtain ⟨r,hr⟩ := small [((mr0 : Int),(mc0 : Int),ma)] (by simp)
 unfold M5.m
 simp only [hr,bindO]
 cases hg : (bif !r then true else decide ((side.length : Int) > 40)) with
 | true => simp only [cond_true,lives19]
 | false =>
  have h20a : M20.m ⟨(mr0 : Int),(mc0 : Int),ma⟩ = some (((mr0 % 10 : Nat) : Int),((mc0 % 140 : Nat) : Int)) := sides mr0 mc0 ma
  simp only [cond_false,h20a]
  have hm : mr0 % 10 ≤ 9 := by omega
  have hc : mc0 % 140 ≤ 139 := by omega
  generalize mr0 % 10 = n at *
  generalize mc0 % 140 = c at *
  obtain ⟨sX,lX,nX⟩ := rows_bits ma n c
  have h23a := of23 (L := rowsN ma n c) (c := c) (by omega) (by rw [rowsN_length]; omega) (fun r hr => rowsN_row ma n c hr) (c : Int)
  have hz : M21.m ⟨0,0,side,1,(n : Int)⟩ = some (rowsN side 1 n) := rows' (n := 1) 0 0 side (by omega) (by omega)
  have z0 : (rowsN side 1 n)[0]?.getD [] = (List.range n).map fun (j : Nat) => cell side ((0 : Nat) : Int) n j := rfl
  have hzl : ((List.range n).map fun (j : Nat) => cell side ((0 : Nat) : Int) n j).length = n ∧ B01 ((List.range n).map fun (j : Nat) => cell side ((0 : Nat) : Int) n j) := ⟨by simp,fun x hx => by
   obtain ⟨j,_,rfl⟩ := List.mem_map.1 hx
   exact cell01 _ _ _ _⟩
  have zin : inR 0 (List.length (rowsN side 1 n)) = true := by rw [rowsN_length]; rfl
  have hvec := vec (l := (List.range n).map fun (j : Nat) => cell side ((0 : Nat) : Int) n j) (by rw [hzl.1]; omega) hzl.2
  have hfree := free5 (side := side) (ma := ma) (nr := n) (c := c) (L := rowsN ma n c) (mr0 := mr0) (mc0 := mc0) (wr := mr c ((rowsN ma n c).map bt)) (rowsN_length _ _ _) (by omega) (by omega) (fun r hr => rowsN_row ma n c hr) sX
  simp only [rows' (n := n) (mr0 : Int) (mc0 : Int) ma (by omega) (show c ≤ 1000 by omega),hz,zin,cond_true,z0,h23a,hvec,hfree,sumC]
  generalize (List.range n).map (fun (j : Nat) => cell side ((0 : Nat) : Int) n j) = z at *
  obtain ⟨hzn,hz01⟩ := hzl
  have sz : Sup n (bt z) := hzn ▸ bt_sup z
  have lz : lb n (bt z) = z := by have := lb_bt hz01; rw [hzn] at this; exact this
  generalize (rowsN ma n c).map bt = X at *
  simp only [hzn]
  have h25 := kernel25 (c := c) (R := X) (by omega) (by omega) sX
  have h22 := solve22 (c := c) (R := X) (b := bt z) (by omega) (by omega) sX (nX ▸ sz)
  have hok := solve_ok (c := c) (R := X) (b := bt z) sX (nX ▸ sz)
  have inv1 := (rd_inv (d := 1) (S := sd (bt z) X.length) sX (.inr (sd_length _ _)) c).1
  have eps : (rd X (sd (bt z) X.length) c).2.2 = (rd X [] c).2.2 := (rd_ps X c).2
  have inv0 := (rd_inv (d := 0) (S := []) sX (.inl rfl) c).1
  have hker : ∀ f,f < c → app c X (kv (rd X [] c).1 (rd X [] c).2.2 f) = fun _ => false := fun f hf => kernel_zero sX hf
  rw [nX] at h22 hok inv1 eps
  have efr : fk X c = fr (rd X [] c).2.2 c := rfl
  have ssol : Sup c (sol (rd X (sd (bt z) n) c).2.1 (rd X (sd (bt z) n) c).2.2) := by
   generalize rd X (sd (bt z) n) c = st at inv1
   obtain ⟨R',S',ps⟩ := st
   exact sol_sup inv1
  have fsol : ∀ k,¬ k ∈ (rd X [] c).2.2 → sol (rd X (sd (bt z) n) c).2.1 (rd X (sd (bt z) n) c).2.2 k = false := fun k hk => by
   rw [← eps] at hk
   exact sol_free hk
  have skv : ∀ f,f < c → Sup c (kv (rd X [] c).1 (rd X [] c).2.2 f) := fun f hf => by
   generalize rd X [] c = st at inv0
   obtain ⟨R',S',ps⟩ := st
   exact kv_sup inv0 hf
  rw [efr,h22,h25]
  generalize sol (rd X (sd (bt z) n) c).2.1 (rd X (sd (bt z) n) c).2.2 = x at *
  generalize bad (rd X (sd (bt z) n) c).2.1 (rd X (sd (bt z) n) c).2.2.length n = bd at *
  have kfr : ∀ f k,¬ k ∈ (rd X [] c).2.2 → kv (rd X [] c).1 (rd X [] c).2.2 f k = (k == f) := fun f k hk => kv_free hk
  have mfr : ∀ k,k ∈ fr (rd X [] c).2.2 c → k < c ∧ ¬ k ∈ (rd X [] c).2.2 := fun k => mem_fr.1
  have nfr : (fr (rd X [] c).2.2 c).Nodup := fr_inj
  have lfr := (fk_len sX c).1
  rw [efr] at lfr
  generalize (rd X [] c).2.2 = ps at *
  generalize (rd X [] c).1 = R' at *
  generalize fr ps c = F at *
  -- the loop over the kernel
  have gv : (if bd = true then ((0 : Int),([] : List Int),(9 : Int)) else ((c : Int),vw c x,0)).2.2 = if bd = true then 9 else 0 := by cases bd <;> rfl
  have el : ((((mr c (F.map (kv R' ps))).length : Nat) : Int) != (((ints F).length : Nat) : Int)) = false := by rw [mr_length,List.length_map,ints_length]; simp
  have kat : ∀ i (hi : i < F.length),(mr c (F.map (kv R' ps)))[i]?.getD (0,[]) = ((c : Int),vw c (kv R' ps F[i])) := fun i hi => by
   unfold mr
   rw [List.getElem?_map,List.getElem?_map,List.getElem?_eq_getElem hi]; rfl
  have klen : (mr c (F.map (kv R' ps))).length = F.length := by rw [mr_length,List.length_map]
  have fat : ∀ i (hi : i < F.length),(ints F)[i]?.getD 0 = ((F[i] : Nat) : Int) := fun i hi => by
   unfold ints
   rw [List.getElem?_map,List.getElem?_eq_getElem hi]; rfl
  have inner : ∀ (xn : Int) (xw : List Int) (g : Int),(g = 0 → xn = (c : Int) ∧ xw = vw c x) → ∀ i (hi : i < F.length),
    iter M5.s3 ⟨n,c,ints F,mr c (F.map (kv R' ps)),z,g,(i : Int),0,mr0,mc0,ma,c,mr c X,xn,xw⟩ = some (.inl ⟨n,c,ints F,mr c (F.map (kv R' ps)),z,g,(i : Int),mr0,mc0,ma,c,mr c X,xn,xw⟩) := fun xn xw g hg i hi => by
   have key := iter_up (step := M5.s3) (fun k => ⟨n,c,ints F,mr c (F.map (kv R' ps)),z,g,(i : Int),(k : Int),mr0,mc0,ma,c,mr c X,xn,xw⟩) F.length
    (y := .inl ⟨n,c,ints F,mr c (F.map (kv R' ps)),z,g,(i : Int),mr0,mc0,ma,c,mr c X,xn,xw⟩) (fun k hk => by
     obtain ⟨b1,b2⟩ := mfr _ (List.getElem_mem hk)
     obtain ⟨a1,a2⟩ := mfr _ (List.getElem_mem hi)
     have e1 : decide ((k : Int) < (((ints F).length : Nat) : Int)) = true := by rw [ints_length]; simpa using hk
     have e2 : inR (i : Int) (mr c (F.map (kv R' ps))).length = true := inR_nat (by rw [klen]; exact hi)
     have e3 : inR (k : Int) (ints F).length = true := inR_nat (by rw [ints_length]; exact hk)
     have e4 := at_in (n := c) (i := F[k]) (show c ≤ 4096 by omega) (skv _ a1) b1
     have e5 : kv R' ps F[i] F[k] = decide (i = k) := by
      rw [kfr _ _ b2]
      by_cases e : i = k
      ·subst e; simp
      ·have : F[k] ≠ F[i] := fun h => e (nd_inj nfr hk hi h).symm
       simp [this,e]
     have e6 : (i01 (decide (i = k)) != bif ((i : Int) == (k : Int)) then 1 else 0) = false := by
      by_cases e : i = k
      ·subst e; simp [i01]
      ·have : ((i : Int) == (k : Int)) = false := by simp; omega
       rw [this]; simp [i01,e]
     unfold M5.s3
     simp only [e1,e2,e3,cond_true,Int.toNat_natCast,kat i hi,fat k hk,e4,bindO,e5,e6,Bool.true_or,Bool.not_false,Bool.true_and,cond_false,suc (show k < 9000000000000000000 by omega)]
     by_cases h0 : g = 0
     ·obtain ⟨rfl,rfl⟩ := hg h0
      have e7 := at_in (n := c) (i := F[k]) (show c ≤ 4096 by omega) ssol b1
      rw [fsol _ b2] at e7
      subst h0
      simp only [BEq.rfl,cond_true,e7]
      rfl
     ·have e8 : (g == 0) = false := by simp [h0]
      simp only [e8,cond_false]) (by
     have e1 : decide (((F.length : Nat) : Int) < (((ints F).length : Nat) : Int)) = false := by rw [ints_length]; simp
     unfold M5.s3
     simp only [e1,cond_false])
   exact key
  have outer : ∀ (xn : Int) (xw : List Int) (g : Int),(g = 0 → xn = (c : Int) ∧ xw = vw c x) →
    iter M5.s2 ⟨n,c,ints F,mr c (F.map (kv R' ps)),z,g,0,mr0,mc0,ma,c,mr c X,xn,xw⟩ = some (.inl ⟨z,g,mr0,mc0,ma,c,mr c X,xn,xw⟩) := fun xn xw g hg => by
   have key := iter_up (step := M5.s2) (fun i => ⟨n,c,ints F,mr c (F.map (kv R' ps)),z,g,(i : Int),mr0,mc0,ma,c,mr c X,xn,xw⟩) F.length
    (y := .inl ⟨z,g,mr0,mc0,ma,c,mr c X,xn,xw⟩) (fun i hi => by
     obtain ⟨a1,a2⟩ := mfr _ (List.getElem_mem hi)
     have e1 : decide ((i : Int) < (((mr c (F.map (kv R' ps))).length : Nat) : Int)) = true := by rw [klen]; simpa using hi
     have e2 : inR (i : Int) (mr c (F.map (kv R' ps))).length = true := inR_nat (by rw [klen]; exact hi)
     have e3 := check (n := c) (show c ≤ 4096 by omega) (skv _ a1)
     have e4 := apply (c := c) (R := X) (v := kv R' ps F[i]) (by omega) (by omega) sX (skv _ a1)
     rw [hker _ a1,nX] at e4
     have e5 := wt (n := n) (b := fun _ => false) (by omega) (fun _ _ => rfl)
     rw [cnt_none (fun _ _ => rfl)] at e5
     have e6 := inner xn xw g hg i hi
     unfold M5.s2
     simp only [e1,e2,cond_true,Int.toNat_natCast,kat i hi,neq_self,Bool.true_or,Bool.not_false,e3,bindO,cond_false,nz,e6,sumC,e4,e5,suc (show i < 9000000000000000000 by omega)]
     rfl) (by
     have e1 : decide (((F.length : Nat) : Int) < (((mr c (F.map (kv R' ps))).length : Nat) : Int)) = false := by rw [klen]; simp
     unfold M5.s2
     simp only [e1,cond_false])
   exact key
  cases bd with
  | true =>
   have o := outer 0 [] 9 (fun h => by cases h)
   have n9 : ((9 : Int) != 9) = false := rfl
   have n90 : ((9 : Int) != 0) = true := rfl
   have m9 : ((9 : Int) == 0) = false := rfl
   simp only [if_true,nz,cond_false,el,n9,n90,cond_true,o,m9,lives19]
  | false =>
   have o := outer c (vw c x) 0 (fun _ => ⟨rfl,rfl⟩)
   have e1 := apply (c := c) (R := X) (v := x) (by omega) (by omega) sX ssol
   rw [hok.1 rfl,nX] at e1
   have e2 := equal (n := n) (b := bt z) (by omega) sz
   rw [lz] at e2
   simp only [Bool.false_eq_true,if_false,nz,cond_false,el,o,BEq.rfl,cond_true,e1,e2,lives19]
theorem run5' {ar ac : Int} (aa v : List Int) (h1 : 0 ≤ ar) (h2 : 0 ≤ ac) : M5.m ⟨ar,ac,aa,v⟩ = some true := by
 obtain ⟨ar,rfl⟩ := Int.eq_ofNat_of_zero_le h1
 obtain ⟨ac,rfl⟩ := Int.eq_ofNat_of_zero_le h2
 exact run5 ar ac aa v
end Gf
end Go.Proofs.Ytddaobhpffpmoaa
