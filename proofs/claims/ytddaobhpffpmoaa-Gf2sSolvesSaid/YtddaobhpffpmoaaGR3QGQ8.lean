/-
  Gf2s: solutions (the law Gf2sSolves).
-/
import Derived.Test.YtddaobhpffpmoaaGR3QGQ7
import Derived.Test.YtddaobhpffpmoaaGR3QGc
import Derived.Test.YtddaobhpffpmoaaGR3QGW6
set_option linter.all false
namespace Go.Proofs.Ytddaobhpffpmoaa
open Go.Abs
namespace Gf
theorem nodup_le {α : Type} [DecidableEq α] : ∀ {l k : List α},l.Nodup → (∀ x ∈ l,x ∈ k) → l.length ≤ k.length
 | [],_,_,_ => Nat.zero_le _
 | a :: l,k,hn,h => by
  have ha := h a (by simp)
  have hn' := List.nodup_cons.1 hn
  have := nodup_le (l := l) (k := k.erase a) hn'.2 fun x hx => by
   have hne : x ≠ a := fun e => hn'.1 (e ▸ hx)
   exact (List.mem_erase_of_ne hne).2 (h x (by simp [hx]))
  rw [List.length_erase_of_mem ha] at this
  have : 0 < k.length := List.length_pos_of_mem ha
  simp only [List.length_cons]
  omega
def tb (n : Nat) : Bits := fun j => n.testBit j
theorem tb_sup {n c : Nat} (h : n < 2 ^ c) : Sup c (tb n) := fun i hi => Nat.testBit_lt_two_pow (Nat.lt_of_lt_of_le h (Nat.pow_le_pow_right (by omega) hi))
theorem tb_nb (c : Nat) {b : Bits} (hb : Sup c b) : tb (nb b c) = b := by
 funext i
 unfold tb
 rw [nb_bit]
 by_cases h : i < c
 ·simp [h]
 ·simp [h,hb i (by omega)]
theorem nb_tb {n c : Nat} (h : n < 2 ^ c) : nb (tb n) c = n := by
 refine Nat.eq_of_testBit_eq fun i => ?_
 rw [nb_bit]
 by_cases hi : i < c
 ·simp [hi,tb]
 ·have := tb_sup h i (by omega)
  unfold tb at this
  simp [hi,this]
theorem chrs_inj {n : Nat} {a b : Bits} (h : chrs (lb n a) = chrs (lb n b)) : ∀ i,i < n → a i = b i := fun i hi => by
 have := congrArg (fun l => l[i]?) h
 simp only [chrs,List.getElem?_map,lb_at n a hi,lb_at n b hi,Option.map_some,Option.some.injEq] at this
 revert this
 cases a i <;> cases b i <;> decide
theorem chrs_eq {n : Nat} {a b : Bits} (ha : Sup n a) (hb : Sup n b) : (chrs (lb n a) == chrs (lb n b)) = true ↔ a = b := by
 constructor
 ·intro h
  exact bits_eq ha hb (chrs_inj (by simpa using h))
 ·rintro rfl
  simp
theorem bitW {n i : Nat} (hn : n < 2 ^ 64) (hi : i < 64) : IntKind.i64.wrap (↑(BitVec.ofInt 64 (Int.fdiv (n : Int) (2 ^ min i 64)) &&& BitVec.ofInt 64 1).toNat : Int) = i01 (tb n i) := by
 rw [Nat.min_eq_left (by omega),pow_int,fdiv_nat]
 have h1 : n / 2 ^ i < 2 ^ 64 := Nat.lt_of_le_of_lt (Nat.div_le_self _ _) hn
 rw [show (1 : Int) = ((1 : Nat) : Int) from rfl,bv_nat,bv_nat,BitVec.toNat_and,BitVec.toNat_ofNat,BitVec.toNat_ofNat,Nat.mod_eq_of_lt h1,Nat.mod_eq_of_lt (show 1 < 2 ^ 64 by decide),Nat.and_one_is_mod]
 unfold tb
 rw [Nat.testBit_eq_decide_div_mod_eq]
 rcases Nat.mod_two_eq_zero_or_one (n / 2 ^ i) with e | e <;> rw [e] <;> rfl
theorem i01_one (b : Bool) : (i01 b == 1) = b := by cases b <;> rfl
theorem pow_small {c : Nat} (h : c ≤ 8) : IntKind.i64.wrap (1 * 2 ^ min (c : Int).toNat 64) = ((2 ^ c : Nat) : Int) := by
 rw [Int.toNat_natCast,Nat.min_eq_left (by omega),pow_int,Int.one_mul]
 have : 2 ^ c ≤ 256 := Nat.pow_le_pow_right (by omega) h
 generalize 2 ^ c = m at *
 rw [w64 (by omega) (by omega)]
theorem pow8 {c : Nat} (h : c ≤ 8) : 2 ^ c ≤ 256 := Nat.pow_le_pow_right (by omega) h
def isol (c : Nat) (X : List Bits) (b : Bits) (n : Nat) : Bool := chrs (lb X.length (app c X (tb n))) == chrs (lb X.length b)
theorem sols27 {c : Nat} {X : List Bits} {b : Bits} (hc : c ≤ 8) (hX : X.length ≤ 100) (sX : SupM c X) :
  M27.m ⟨lr c X,c,lb X.length b⟩ = some (((List.range (2 ^ c)).filter (isol c X b)).map fun n => lb c (tb n)) := by
 have h8 := pow8 hc
 have hfl : ∀ n,((List.range n).filter (isol c X b)).length ≤ n := fun n => by
  have := List.length_filter_le (isol c X b) (List.range n)
  rw [List.length_range] at this
  exact this
 have inner : ∀ (n : Nat),n < 2 ^ c → ∀ (ol : Nat) (out : List (List Int)),iter M27.s1 ⟨lr c X,c,lb X.length b,0,ol,n,0,0,0,out,[]⟩ = some ⟨lr c X,c,lb X.length b,0,ol,n,lb c (tb n),out⟩ := fun n hn ol out => by
  have key := iter_up (step := M27.s1) (fun i => ⟨lr c X,c,lb X.length b,0,ol,n,0,i,(i : Int),out,lb i (tb n)⟩) c (y := ⟨lr c X,c,lb X.length b,0,ol,n,lb c (tb n),out⟩) (fun i hi => by
   have e1 : decide ((i : Int) < (c : Int)) = true := by simpa using hi
   have e2 : decide ((0 : Int) ≤ (i : Int)) = true := by simp
   have e3 : (eqN 0 0 && eqN (lb i (tb n)).length i && roomB (i + 1) 1) = true := by
    have g1 : eqN (lb i (tb n)).length i = true := by rw [lb_length]; simp [eqN]
    have g2 : roomB (i + 1) 1 = true := by simp [roomB,leB]; omega
    rw [g1,g2]; rfl
   have e4 : IntKind.u8.wrap (i01 (tb n i)) = i01 (tb n i) := by cases tb n i <;> rfl
   unfold M27.s1
   rw [lb_more]
   simp only [e1,e2,e3,cond_true,Int.toNat_natCast,bitW (show n < 2 ^ 64 by omega) (show i < 64 by omega),e4,suc (show i < 9000000000000000000 by omega)]) (by
   have e1 : decide ((c : Int) < (c : Int)) = false := by simp
   have e2 : leB (0 + c) (lb c (tb n)).length = true := by simp [leB,lb_length]
   have e3 : List.take c (List.drop 0 (lb c (tb n))) = lb c (tb n) := by rw [List.drop_zero,List.take_of_length_le (by rw [lb_length]; exact Nat.le_refl _)]
   unfold M27.s1
   simp only [e1,cond_false,e2,e3,Bool.and_self,cond_true])
  exact key
 have key := iter_up (step := M27.s0) (fun n => ⟨lr c X,c,lb X.length b,0,((List.range n).filter (isol c X b)).length,n,((List.range n).filter (isol c X b)).map fun n => lb c (tb n)⟩) (2 ^ c)
  (y := ⟨0,((List.range (2 ^ c)).filter (isol c X b)).length,((List.range (2 ^ c)).filter (isol c X b)).map fun n => lb c (tb n)⟩) (fun n hn => by
   have e0 : decide ((0 : Int) ≤ (c : Int)) = true := by simp
   have e1 : decide ((n : Int) < ((2 ^ c : Nat) : Int)) = true := decide_eq_true (Int.ofNat_lt.2 hn)
   have h44 := ref44 (c := c) (R := X) (v := tb n) (by omega) (by omega) sX (tb_sup hn)
   have hx := text78 (l := lb X.length (app c X (tb n))) (by rw [lb_length]; omega) (lb01 _ _)
   have hb := text78 (l := lb X.length b) (by rw [lb_length]; omega) (lb01 _ _)
   have hl := hfl n
   have e3 : (eqN 0 0 && eqN (((List.range n).filter (isol c X b)).map fun n => lb c (tb n)).length ((List.range n).filter (isol c X b)).length && roomB (((List.range n).filter (isol c X b)).length + 1) 24) = true := by
    have g1 : eqN (((List.range n).filter (isol c X b)).map fun n => lb c (tb n)).length ((List.range n).filter (isol c X b)).length = true := by rw [List.length_map]; simp [eqN]
    have g2 : roomB (((List.range n).filter (isol c X b)).length + 1) 24 = true := by simp [roomB,leB]; omega
    rw [g1,g2]; rfl
   unfold M27.s0
   simp only [e0,pow_small hc,e1,cond_true,inner n hn,bindO,h44,hx,hb,e3,suc (show n < 9000000000000000000 by omega)]
   rw [List.range_succ,List.filter_append]
   cases hi : isol c X b n with
   | true =>
    have hi' : (chrs (lb X.length (app c X (tb n))) == chrs (lb X.length b)) = true := hi
    have hs : List.filter (isol c X b) [n] = [n] := by simp [hi]
    simp only [hi',cond_true,hs,List.length_append,List.length_cons,List.length_nil,Nat.zero_add,List.map_append,List.map_cons,List.map_nil]
   | false =>
    have hi' : (chrs (lb X.length (app c X (tb n))) == chrs (lb X.length b)) = false := hi
    have hs : List.filter (isol c X b) [n] = [] := by simp [hi]
    simp only [hi',cond_false,hs,List.append_nil]) (by
   have e0 : decide ((0 : Int) ≤ (c : Int)) = true := by simp
   have e1 : decide (((2 ^ c : Nat) : Int) < ((2 ^ c : Nat) : Int)) = false := by simp
   unfold M27.s0
   simp only [e0,pow_small hc,e1,cond_true,cond_false])
 have key : iter M27.s0 ⟨lr c X,c,lb X.length b,0,0,0,[]⟩ = _ := key
 have e2 : leB (0 + ((List.range (2 ^ c)).filter (isol c X b)).length) (((List.range (2 ^ c)).filter (isol c X b)).map fun n => lb c (tb n)).length = true := by rw [List.length_map]; simp [leB]
 have e3 : List.take ((List.range (2 ^ c)).filter (isol c X b)).length (List.drop 0 (((List.range (2 ^ c)).filter (isol c X b)).map fun n => lb c (tb n))) = ((List.range (2 ^ c)).filter (isol c X b)).map fun n => lb c (tb n) := by
  rw [List.drop_zero,List.take_of_length_le (by rw [List.length_map]; exact Nat.le_refl _)]
 unfold M27.m
 simp only [key,bindO,e2,e3,Bool.and_self,cond_true]
def yv (x : Bits) (K : List Bits) (n : Nat) : Nat → Bits
 | 0 => x
 | k + 1 => if tb n k = true then xr (yv x K n k) (row K k) else yv x K n k
theorem yv_sup {c : Nat} {x : Bits} {K : List Bits} (hx : Sup c x) (hK : SupM c K) (n : Nat) : ∀ k,Sup c (yv x K n k)
 | 0 => hx
 | k + 1 => by
  unfold yv
  split
  ·exact sup_xr (yv_sup hx hK n k) (row_sup hK k)
  ·exact yv_sup hx hK n k
theorem yv_app {c : Nat} {X K : List Bits} {x b : Bits} (hx : app c X x = b) (hK : ∀ k,app c X (row K k) = fun _ => false) (n : Nat) : ∀ k,app c X (yv x K n k) = b
 | 0 => hx
 | k + 1 => by
  unfold yv
  split
  ·rw [app_xr,yv_app hx hK n k,hK k,xr_comm,no_xr]
  ·exact yv_app hx hK n k
theorem yv_free {x : Bits} {K : List Bits} {F : List Nat} (hx : ∀ j (hj : j < F.length),x F[j] = false) (hK : ∀ k,k < F.length → ∀ j (hj : j < F.length),row K k F[j] = decide (j = k)) (n : Nat) {j : Nat} (hj : j < F.length) :
  ∀ k,k ≤ F.length → yv x K n k F[j] = (decide (j < k) && tb n j)
 | 0,_ => by simp [yv,hx j hj]
 | k + 1,hk => by
  have ih := yv_free hx hK n hj k (by omega)
  unfold yv
  by_cases e : j = k
  ·subst e
   have h1 : decide (j < j) = false := by simp
   have h2 : decide (j < j + 1) = true := by simp
   rw [h1,Bool.false_and] at ih
   rw [h2,Bool.true_and]
   by_cases ht : tb n j = true
   ·rw [if_pos ht,ht]
    unfold xr
    rw [ih,hK j hj j hj]; simp
   ·rw [if_neg ht,ih,eq_false_of_ne_true ht]
  ·have h1 : decide (j < k + 1) = decide (j < k) := decide_eq_decide.2 ⟨fun h => by omega,fun h => by omega⟩
   rw [h1]
   split
   ·unfold xr
    rw [ih,hK k (by omega) j hj]; simp [e]
   ·exact ih
section
variable {c f : Nat} {x : Bits} {K : List Bits}
theorem sum31 (hc : c ≤ 4096) (hx : Sup c x) (hK : SupM c K) (hf : K.length = f) (hf8 : f ≤ 8) {n : Nat} (hn : n < 2 ^ 64) :
  M31.m ⟨c,vw c x,mr c K,n⟩ = some (chrs (lb c (yv x K n f))) := by
 have key := iter_up (step := M31.s0) (fun k => ⟨mr c K,n,(k : Int),c,vw c (yv x K n k)⟩) f (y := ⟨c,vw c (yv x K n f)⟩) (fun k hk => by
  have e1 : decide ((k : Int) < (((mr c K).length : Nat) : Int)) = true := by rw [mr_length,hf]; simpa using hk
  have e2 : decide ((0 : Int) ≤ (k : Int)) = true := by simp
  have e3 : inR (k : Int) (mr c K).length = true := inR_nat (by rw [mr_length,hf]; exact hk)
  have e4 : (mr c K)[k]?.getD (0,[]) = ((c : Int),vw c (row K k)) := by rw [mr_at' (show k < K.length by omega),row_at (show k < K.length by omega)]
  unfold M31.s0
  simp only [e1,e2,cond_true,Int.toNat_natCast,bitW hn (show k < 64 by omega),i01_one,e3,e4,add hc (yv_sup hx hK n k) (row_sup hK k),bindO,suc (show k < 9000000000000000000 by omega),yv]
  by_cases ht : tb n k = true
  ·simp only [ht,cond_true,if_true]
  ·simp only [eq_false_of_ne_true ht,cond_false,Bool.false_eq_true,if_false]) (by
  have e1 : decide ((f : Int) < (((mr c K).length : Nat) : Int)) = false := by rw [mr_length,hf]; simp
  unfold M31.s0
  simp only [e1,cond_false])
 have key : iter M31.s0 ⟨mr c K,n,0,c,vw c x⟩ = _ := key
 unfold M31.m
 simp only [key,bindO,text hc (yv_sup hx hK n f)]
theorem sum3 (hc : c ≤ 4096) (hx : Sup c x) (hK : SupM c K) (hf : K.length = f) (hf8 : f ≤ 8) {n : Nat} (hn : n < 2 ^ 64) (l all : List (List Int)) (b ma : List Int) (m0 m1 : Int) :
  iter M3.s1 ⟨c,l,b,mr c K,all,n,0,m0,m1,ma,c,vw c x,c,vw c x⟩ = some ⟨c,l,b,mr c K,all,n,m0,m1,ma,c,vw c x,c,vw c (yv x K n f)⟩ := by
 have key := iter_up (step := M3.s1) (fun k => ⟨c,l,b,mr c K,all,n,(k : Int),m0,m1,ma,c,vw c x,c,vw c (yv x K n k)⟩) f (y := ⟨c,l,b,mr c K,all,n,m0,m1,ma,c,vw c x,c,vw c (yv x K n f)⟩) (fun k hk => by
  have e1 : decide ((k : Int) < (((mr c K).length : Nat) : Int)) = true := by rw [mr_length,hf]; simpa using hk
  have e2 : decide ((0 : Int) ≤ (k : Int)) = true := by simp
  have e3 : inR (k : Int) (mr c K).length = true := inR_nat (by rw [mr_length,hf]; exact hk)
  have e4 : (mr c K)[k]?.getD (0,[]) = ((c : Int),vw c (row K k)) := by rw [mr_at' (show k < K.length by omega),row_at (show k < K.length by omega)]
  unfold M3.s1
  simp only [e1,e2,cond_true,Int.toNat_natCast,bitW hn (show k < 64 by omega),i01_one,e3,e4,add hc (yv_sup hx hK n k) (row_sup hK k),bindO,suc (show k < 9000000000000000000 by omega),yv]
  by_cases ht : tb n k = true
  ·simp only [ht,cond_true,if_true]
  ·simp only [eq_false_of_ne_true ht,cond_false,Bool.false_eq_true,if_false]) (by
  have e1 : decide ((f : Int) < (((mr c K).length : Nat) : Int)) = false := by rw [mr_length,hf]; simp
  unfold M3.s1
  simp only [e1,cond_false])
 exact key
end
theorem run3 (mr0 mc0 : Nat) (ma side : List Int) : M3.m ⟨mr0,mc0,ma,side⟩ = some true := by
 obtain ⟨r,hr⟩ := small [((mr0 : Int),(mc0 : Int),ma)] (by simp)
 unfold M3.m
 simp only [hr,bindO]
 cases hg : (bif !r then true else decide ((side.length : Int) > 40)) with
 | true => simp only [cond_true,lives19]
 | false =>
  have h20a : M20.m ⟨(mr0 : Int),(mc0 : Int),ma⟩ = some (((mr0 % 10 : Nat) : Int),((mc0 % 140 : Nat) : Int)) := sides mr0 mc0 ma
  have e9 : Int.tmod ((mc0 % 140 : Nat) : Int) 9 = ((mc0 % 140 % 9 : Nat) : Int) := rfl
  simp only [cond_false,h20a,e9]
  have hm : mr0 % 10 ≤ 9 := by omega
  have hc : mc0 % 140 % 9 ≤ 8 := by omega
  generalize mr0 % 10 = n at *
  generalize mc0 % 140 % 9 = c at *
  obtain ⟨sX,lX,nX⟩ := rows_bits ma n c
  have h23a := of23 (L := rowsN ma n c) (c := c) (by omega) (by rw [rowsN_length]; omega) (fun r hr => rowsN_row ma n c hr) (c : Int)
  have hz : M21.m ⟨0,0,side,1,(n : Int)⟩ = some (rowsN side 1 n) := rows' (n := 1) 0 0 side (by omega) (by omega)
  have z0 : (rowsN side 1 n)[0]?.getD [] = (List.range n).map fun (j : Nat) => cell side ((0 : Nat) : Int) n j := rfl
  have hzl : ((List.range n).map fun (j : Nat) => cell side ((0 : Nat) : Int) n j).length = n ∧ B01 ((List.range n).map fun (j : Nat) => cell side ((0 : Nat) : Int) n j) := ⟨by simp,fun x hx => by
   obtain ⟨j,_,rfl⟩ := List.mem_map.1 hx
   exact cell01 _ _ _ _⟩
  have zin : inR 0 (List.length (rowsN side 1 n)) = true := by rw [rowsN_length]; rfl
  have hvec := vec (l := (List.range n).map fun (j : Nat) => cell side ((0 : Nat) : Int) n j) (by rw [hzl.1]; omega) hzl.2
  simp only [rows' (n := n) (mr0 : Int) (mc0 : Int) ma (by omega) (show c ≤ 1000 by omega),hz,zin,cond_true,z0,h23a,hvec]
  generalize (List.range n).map (fun (j : Nat) => cell side ((0 : Nat) : Int) n j) = z at *
  obtain ⟨hzn,hz01⟩ := hzl
  have sz : Sup n (bt z) := hzn ▸ bt_sup z
  have lz : lb n (bt z) = z := by have := lb_bt hz01; rw [hzn] at this; exact this
  have h23 : M23.m ⟨lr c ((rowsN ma n c).map bt),c⟩ = some ((c : Int),mr c ((rowsN ma n c).map bt)) := by rw [lX]; exact h23a
  generalize (rowsN ma n c).map bt = X at *
  rw [← lX]
  simp only [hzn]
  have h25 := kernel25 (c := c) (R := X) (by omega) (by omega) sX
  have h26 := rank26 (c := c) (R := X) (by omega) (by omega) sX
  have h22 := solve22 (c := c) (R := X) (b := bt z) (by omega) (by omega) sX (nX ▸ sz)
  have h27 := sols27 (c := c) (X := X) (b := bt z) hc (by omega) sX
  have hok := solve_ok (c := c) (R := X) (b := bt z) sX (nX ▸ sz)
  have cn := fr_count (S := []) sX (.inl rfl) c
  have hrk : rk c X = (rd X [] c).2.2.length := rfl
  rw [← hrk] at cn
  rw [nX] at h22 h27 hok
  rw [lz] at h27
  have sXt : ∀ t,t < 2 ^ c → (isol c X (bt z) t = true ↔ app c X (tb t) = bt z) := fun t _ => by
   unfold isol
   rw [nX]
   exact chrs_eq (app_sup' nX _) sz
  have klen : (((mr c ((fr (rd X [] c).2.2 c).map (kv (rd X [] c).1 (rd X [] c).2.2))).length : Nat) : Int) = (((fr (rd X [] c).2.2 c).length : Nat) : Int) := by rw [mr_length,List.length_map]
  have w1 : IntKind.i64.wrap ((((fr (rd X [] c).2.2 c).length : Nat) : Int) + ((rk c X : Nat) : Int)) = (c : Int) := by rw [w64 (by omega) (by omega)]; omega
  have ecc : ((c : Int) != (c : Int)) = false := by simp
  have ell : ∀ L : List Nat,(L.map fun n => lb c (tb n)).length = L.length := fun L => List.length_map _
  simp only [h22,h25,h26,h27,klen,w1,ecc,nz,cond_false,ell]
  cases hbd : bad (rd X (sd (bt z) n) c).2.1 (rd X (sd (bt z) n) c).2.2.length n with
  | true =>
   have hno := hok.2 hbd
   have e1 : (List.range (2 ^ c)).filter (isol c X (bt z)) = [] := List.filter_eq_nil_iff.2 fun t ht h => hno _ ((sXt t (List.mem_range.1 ht)).1 h)
   rw [e1]
   have n9 : ((9 : Int) != 9) = false := rfl
   have n90 : ((9 : Int) != 0) = true := rfl
   have m9 : ((9 : Int) == 0) = false := rfl
   have d0 : decide ((((([] : List Nat).length) : Nat) : Int) > 0) = false := rfl
   have d1 : decide ((((([] : List Int).length) : Nat) : Int) > 0) = false := rfl
   simp only [if_true,n9,n90,m9,d0,d1,nz,BEq.rfl,Bool.not_true,cond_false,cond_true,lives19]
  | false =>
   have hx := hok.1 hbd
   -- what is known of the parts
   have inv1 := (rd_inv (d := 1) (S := sd (bt z) X.length) sX (.inr (sd_length _ _)) c).1
   have eps : (rd X (sd (bt z) n) c).2.2 = (rd X [] c).2.2 := (rd_ps X c).2
   have inv0 := (rd_inv (d := 0) (S := []) sX (.inl rfl) c).1
   have hker : ∀ f,f < c → app c X (kv (rd X [] c).1 (rd X [] c).2.2 f) = fun _ => false := fun f hf => kernel_zero sX hf
   have kapp : ∀ w,app c X w = (fun _ => false) ↔ ∀ i,dot c (row (rd X [] c).1 i) w = false := fun w => kernel_app sX w
   rw [nX] at inv1
   have ssol : Sup c (sol (rd X (sd (bt z) n) c).2.1 (rd X (sd (bt z) n) c).2.2) := by
    generalize rd X (sd (bt z) n) c = st at inv1
    obtain ⟨R',S',ps⟩ := st
    exact sol_sup inv1
   have fsol : ∀ k,¬ k ∈ (rd X [] c).2.2 → sol (rd X (sd (bt z) n) c).2.1 (rd X (sd (bt z) n) c).2.2 k = false := fun k hk => by
    rw [← eps] at hk
    exact sol_free hk
   have skv : ∀ f,f < c → Sup c (kv (rd X [] c).1 (rd X [] c).2.2 f) := fun f hf => by
    generalize rd X [] c = st at inv0
    obtain ⟨R',S',ps⟩ := st
    exact kv_sup inv0 hf
   have zero0 : ∀ w,Sup c w → (∀ k,k < c → ¬ k ∈ (rd X [] c).2.2 → w k = false) → app c X w = (fun _ => false) → w = fun _ => false := fun w h1 h2 h3 => by
    have h3 := (kapp w).1 h3
    generalize rd X [] c = st at *
    obtain ⟨R',S',ps⟩ := st
    exact only_zero inv0 h1 h2 h3
   generalize sol (rd X (sd (bt z) n) c).2.1 (rd X (sd (bt z) n) c).2.2 = x at *
   have kfr : ∀ f k,¬ k ∈ (rd X [] c).2.2 → kv (rd X [] c).1 (rd X [] c).2.2 f k = (k == f) := fun f k hk => kv_free hk
   have mfr : ∀ k,k ∈ fr (rd X [] c).2.2 c ↔ k < c ∧ ¬ k ∈ (rd X [] c).2.2 := fun k => mem_fr
   have nfr : (fr (rd X [] c).2.2 c).Nodup := fr_inj
   generalize hps : (rd X [] c).2.2 = ps at *
   generalize (rd X [] c).1 = R' at *
   generalize hF : fr ps c = F at *
   have hf8 : F.length ≤ 8 := by omega
   have h2f := pow8 hf8
   have h2c := pow8 hc
   have rowK : ∀ k (hk : k < F.length),row (F.map (kv R' ps)) k = kv R' ps F[k] := fun k hk => by
    unfold row
    rw [List.getElem?_map,List.getElem?_eq_getElem hk]; rfl
   have sK : SupM c (F.map (kv R' ps)) := fun b hb => by
    obtain ⟨f,hf,rfl⟩ := List.mem_map.1 hb
    exact skv f ((mfr f).1 hf).1
   have lK : (F.map (kv R' ps)).length = F.length := List.length_map _
   have aK : ∀ k,app c X (row (F.map (kv R' ps)) k) = fun _ => false := fun k => by
    rcases Nat.lt_or_ge k F.length with hk | hk
    ·rw [rowK k hk]
     exact hker _ ((mfr _).1 (List.getElem_mem hk)).1
    ·rw [row_out (by rw [lK]; exact hk)]
     funext i
     rw [app_row,dot_no]
   have fx : ∀ j (hj : j < F.length),x F[j] = false := fun j hj => fsol _ ((mfr _).1 (List.getElem_mem hj)).2
   have fK : ∀ k,k < F.length → ∀ j (hj : j < F.length),row (F.map (kv R' ps)) k F[j] = decide (j = k) := fun k hk j hj => by
    rw [rowK k hk,kfr _ _ ((mfr _).1 (List.getElem_mem hj)).2]
    by_cases e : j = k
    ·subst e; simp
    ·have : F[j] ≠ F[k] := fun h => e (nd_inj nfr hj hk h)
     simp [this,e]
   generalize F.map (kv R' ps) = K at *
   have ysup : ∀ t,Sup c (yv x K t F.length) := fun t => yv_sup ssol sK t _
   have yapp : ∀ t,app c X (yv x K t F.length) = bt z := fun t => yv_app hx aK t _
   have yfr : ∀ t j (hj : j < F.length),yv x K t F.length F[j] = tb t j := fun t j hj => by
    rw [yv_free fx fK t hj F.length (Nat.le_refl _)]; simp [hj]
   have yinj : ∀ s t,s < 2 ^ F.length → t < 2 ^ F.length → yv x K s F.length = yv x K t F.length → s = t := fun s t hs ht h => by
    have : tb s = tb t := bits_eq (tb_sup hs) (tb_sup ht) fun j hj => by rw [← yfr s j hj,← yfr t j hj,h]
    rw [← nb_tb hs,← nb_tb ht,this]
   -- the number of solutions
   have cnt_ : ((List.range (2 ^ c)).filter (isol c X (bt z))).length = 2 ^ F.length := by
    have a1 : ((List.range (2 ^ c)).filter (isol c X (bt z))).Nodup := List.Pairwise.filter _ List.nodup_range
    have a2 : ((List.range (2 ^ F.length)).map fun t => nb (yv x K t F.length) c).Nodup := by
     refine List.pairwise_map.2 ?_
     refine List.Pairwise.imp_of_mem ?_ (List.nodup_range (n := 2 ^ F.length))
     intro s t hs ht hne h
     refine hne (yinj s t (List.mem_range.1 hs) (List.mem_range.1 ht) ?_)
     rw [← tb_nb c (ysup s),← tb_nb c (ysup t),h]
    refine Nat.le_antisymm ?_ ?_
    ·have := nodup_le a1 (k := (List.range (2 ^ F.length)).map fun t => nb (yv x K t F.length) c) fun s hs => by
      obtain ⟨h1,h2⟩ := List.mem_filter.1 hs
      have h1 := List.mem_range.1 h1
      have h2 := (sXt s h1).1 h2
      refine List.mem_map.2 ⟨nb (fun j => tb s (F[j]?.getD 0)) F.length,List.mem_range.2 (nb_lt _ _),?_⟩
      generalize hu : nb (fun j => tb s (F[j]?.getD 0)) F.length = u
      have hw : xr (tb s) (yv x K u F.length) = fun _ => false := zero0 _ (sup_xr (tb_sup h1) (ysup u)) (fun k hk hm => by
       have hkF := (mfr k).2 ⟨hk,hm⟩
       obtain ⟨j,hj,rfl⟩ := List.getElem_of_mem hkF
       unfold xr
       rw [yfr u j hj,← hu]
       unfold tb
       rw [nb_bit]
       simp [hj]) (by rw [app_xr,h2,yapp,xr_self])
      rw [← eq_of_xr hw,nb_tb h1]
     rw [List.length_map,List.length_range] at this
     exact this
    ·have := nodup_le a2 (k := (List.range (2 ^ c)).filter (isol c X (bt z))) fun s hs => by
      obtain ⟨t,_,rfl⟩ := List.mem_map.1 hs
      refine List.mem_filter.2 ⟨List.mem_range.2 (nb_lt _ _),(sXt _ (nb_lt _ _)).2 ?_⟩
      rw [tb_nb c (ysup t),yapp]
     rw [List.length_map,List.length_range] at this
     exact this
   have hpos : 0 < 2 ^ F.length := Nat.pos_of_ne_zero (by simp)
   -- the loop
   have allen : (((List.range (2 ^ c)).filter (isol c X (bt z))).map fun n => lb c (tb n)).length = 2 ^ F.length := by rw [List.length_map,cnt_]
   have d0 : decide (((((List.range (2 ^ c)).filter (isol c X (bt z))).length : Nat) : Int) > 0) = true := by rw [cnt_]; exact decide_eq_true (Int.ofNat_lt.2 hpos)
   have d1 : (((((List.range (2 ^ c)).filter (isol c X (bt z))).length : Nat) : Int) != ((2 ^ F.length : Nat) : Int)) = false := by rw [cnt_]; simp
   generalize (((List.range (2 ^ c)).filter (isol c X (bt z))).map fun n => lb c (tb n)) = all at *
   have inner : ∀ t : Nat,t < 2 ^ F.length → iter M3.s2 ⟨c,lr c X,z,mr c K,all,t,0,mr0,mc0,ma,c,vw c x,c,vw c (yv x K t F.length)⟩ = some (.inl ⟨c,lr c X,z,mr c K,all,t,mr0,mc0,ma,c,vw c x⟩) := fun t ht => by
    have key := iter_up (step := M3.s2) (fun o => ⟨c,lr c X,z,mr c K,all,t,(o : Int),mr0,mc0,ma,c,vw c x,c,vw c (yv x K t F.length)⟩) (2 ^ F.length) (y := .inl ⟨c,lr c X,z,mr c K,all,t,mr0,mc0,ma,c,vw c x⟩) (fun o ho => by
     have e1 : decide ((o : Int) < (((all.length : Nat)) : Int)) = true := by rw [allen]; exact decide_eq_true (Int.ofNat_lt.2 ho)
     have e2 := sum31 (c := c) (f := F.length) (x := x) (K := K) (by omega) ssol sK lK hf8 (show o < 2 ^ 64 by omega)
     have e3 := text (n := c) (b := yv x K t F.length) (by omega) (ysup t)
     unfold M3.s2
     simp only [e1,cond_true,suc (show o < 9000000000000000000 by omega)]
     by_cases hot : o < t
     ·have e4 : decide ((o : Int) < (t : Int)) = true := decide_eq_true (Int.ofNat_lt.2 hot)
      have e5 : (chrs (lb c (yv x K o F.length)) == chrs (lb c (yv x K t F.length))) = false := by
       refine eq_false_of_ne_true fun h => ?_
       have := yinj o t ho ht ((chrs_eq (ysup o) (ysup t)).1 h)
       omega
      simp only [e4,cond_true,e2,e3,bindO,e5,cond_false]
     ·have e4 : decide ((o : Int) < (t : Int)) = false := decide_eq_false fun h => hot (Int.ofNat_lt.1 h)
      simp only [e4,cond_false,bindO]) (by
     have e1 : decide (((2 ^ F.length : Nat) : Int) < (((all.length : Nat)) : Int)) = false := by rw [allen]; simp
     unfold M3.s2
     simp only [e1,cond_false])
    exact key
   have outer : iter M3.s0 ⟨c,lr c X,z,mr c K,all,0,mr0,mc0,ma,c,vw c x⟩ = some (.inl PUnit.unit) := by
    have key := iter_up (step := M3.s0) (fun t => ⟨c,lr c X,z,mr c K,all,(t : Int),mr0,mc0,ma,c,vw c x⟩) (2 ^ F.length) (y := .inl PUnit.unit) (fun t ht => by
     have e1 : decide ((t : Int) < (((all.length : Nat)) : Int)) = true := by rw [allen]; exact decide_eq_true (Int.ofNat_lt.2 ht)
     have e2 := sum3 (c := c) (f := F.length) (x := x) (K := K) (by omega) ssol sK lK hf8 (show t < 2 ^ 64 by omega) (lr c X) all z ma mr0 mc0
     have e3 := apply (c := c) (R := X) (v := yv x K t F.length) (by omega) (by omega) sX (ysup t)
     rw [yapp,nX] at e3
     have e4 := equal (n := n) (b := bt z) (by omega) sz
     rw [lz] at e4
     unfold M3.s0
     simp only [e1,cond_true,e2,bindO,h23,e3,nz,Bool.not_false,e4,Bool.not_true,cond_false,inner t ht,sumC,suc (show t < 9000000000000000000 by omega)]) (by
     have e1 : decide (((2 ^ F.length : Nat) : Int) < (((all.length : Nat)) : Int)) = false := by rw [allen]; simp
     unfold M3.s0
     simp only [e1,cond_false])
    exact key
   have d2 : decide ((0 : Int) ≤ ((F.length : Nat) : Int)) = true := by simp
   simp only [Bool.false_eq_true,if_false,d0,d1,d2,BEq.rfl,Bool.not_true,nz,cond_false,cond_true,pow_small hf8,outer,sumC,lives19]
theorem run3' {ar ac : Int} (aa v : List Int) (h1 : 0 ≤ ar) (h2 : 0 ≤ ac) : M3.m ⟨ar,ac,aa,v⟩ = some true := by
 obtain ⟨ar,rfl⟩ := Int.eq_ofNat_of_zero_le h1
 obtain ⟨ac,rfl⟩ := Int.eq_ofNat_of_zero_le h2
 exact run3 ar ac aa v
end Gf
end Go.Proofs.Ytddaobhpffpmoaa
