/-
  Gf2s: products (the law Gf2sProducts).
-/
import Derived.Test.YtddaobhpffpmoaaGR6QGe
import Derived.Test.YtddaobhpffpmoaaGR6QGP0
import Derived.Test.YtddaobhpffpmoaaGR6QGW3
set_option linter.all false
namespace Go.Proofs.Ytddaobhpffpmoaa
open Go.Abs
namespace Gf
theorem lb_congr {n : Nat} {a b : Bits} (h : ∀ i,i < n → a i = b i) : lb n a = lb n b := by
 unfold lb
 exact List.map_congr_left fun i hi => by rw [h i (List.mem_range.1 hi)]
theorem tr_sup (c : Nat) (R : List Bits) : SupM R.length (tr c R) := fun b hb => by
 unfold tr at hb
 obtain ⟨k,_,rfl⟩ := List.mem_map.1 hb
 exact col_sup R k
theorem app_tr {c : Nat} {a : Bits} {B : List Bits} {j : Nat} (hj : j < c) : app B.length (tr c B) a j = mulr a B j := by
 have h : j < (tr c B).length := by rw [tr_length]; exact hj
 rw [app_at a h]
 unfold dot mulr xs
 have e : (tr c B)[j] = col B j := by
  have e1 : (tr c B)[j]? = some (col B j) := by unfold tr; rw [List.getElem?_map,List.getElem?_range hj]; rfl
  rw [List.getElem?_eq_getElem h] at e1
  exact Option.some.inj e1
 rw [e]
 have e2 : an (col B j) a = fun t => a t && bit B t j := by
  funext t
  unfold an col
  rw [Bool.and_comm]
 rw [e2]
theorem ref42 {c : Nat} {A B : List Bits} (hB : B.length ≤ 4096) (hc : c ≤ 4096) (hA : A.length ≤ 4096) (sA : SupM B.length A) : M42.m ⟨lr B.length A,lr c B,c⟩ = some (lr c (A.map fun a => mulr a B)) := by
 have row : ∀ i (hi : i < A.length),M44.m ⟨lr B.length (tr c B),lb B.length A[i]⟩ = some (lb c (mulr A[i] B)) := fun i hi => by
  have := ref44 (c := B.length) (R := tr c B) (v := A[i]) hB (by rw [tr_length]; exact hc) (tr_sup c B) (sA _ (List.getElem_mem hi))
  rw [tr_length] at this
  rw [this]
  exact congrArg some (lb_congr fun j hj => app_tr hj)
 have ts : ∀ i (hi : i < A.length),lr c ((A.take (i + 1)).map fun a => mulr a B) = lr c ((A.take i).map fun a => mulr a B) ++ [lb c (mulr A[i] B)] := fun i hi => by
  unfold lr
  rw [List.take_succ_eq_append_getElem hi,List.map_append,List.map_append]; rfl
 have key := iter_up (step := M42.s0) (fun i => ⟨lr B.length A,0,i,lr B.length (tr c B),(i : Int),lr c ((A.take i).map fun a => mulr a B)⟩) A.length (y := ⟨0,A.length,lr c (A.map fun a => mulr a B)⟩) (fun i hi => by
  have e1 : decide ((i : Int) < ((lr B.length A).length : Int)) = true := by rw [lr_length]; simpa using hi
  have e3 : inR (i : Int) (lr B.length A).length = true := inR_nat (by rw [lr_length]; exact hi)
  have e5 : (eqN 0 0 && eqN (lr c ((A.take i).map fun a => mulr a B)).length i && roomB (i + 1) 24) = true := by
   have g1 : eqN (lr c ((A.take i).map fun a => mulr a B)).length i = true := by
    rw [lr_length,List.length_map,List.length_take,Nat.min_eq_left (by omega)]; simp [eqN]
   have g2 : roomB (i + 1) 24 = true := by simp [roomB,leB]; omega
   rw [g1,g2]; rfl
  unfold M42.s0
  rw [ts i hi]
  simp only [e1,e3,lr_at hi,row i hi,bindO,e5,cond_true,suc (show i < 9000000000000000000 by omega)]) (by
  have e1 : decide ((A.length : Int) < ((lr B.length A).length : Int)) = false := by rw [lr_length]; simp
  unfold M42.s0
  simp only [e1,cond_false,List.take_length])
 have key : iter M42.s0 ⟨lr B.length A,0,0,lr B.length (tr c B),0,[]⟩ = _ := key
 have e5 : leB (0 + A.length) (lr c (A.map fun a => mulr a B)).length = true := by simp [leB,lr_length]
 unfold M42.m
 simp only [ref43 hc hB,bindO,key,e5,Bool.and_self,cond_true,List.drop_zero]
 rw [List.take_of_length_le (by rw [lr_length]; simp)]
theorem mulr_sup {c : Nat} {A B : List Bits} (sB : SupM c B) : SupM c (A.map fun a => mulr a B) := fun b hb => by
 obtain ⟨a,_,rfl⟩ := List.mem_map.1 hb
 exact xs_sup sB _
theorem rows_bits (a : List Int) (n k : Nat) : SupM k ((rowsN a n k).map bt) ∧ lr k ((rowsN a n k).map bt) = rowsN a n k ∧ ((rowsN a n k).map bt).length = n := by
 refine ⟨fun b hb => ?_,lr_bt fun r hr => rowsN_row a n k hr,by rw [List.length_map,rowsN_length]⟩
 obtain ⟨r,hr,rfl⟩ := List.mem_map.1 hb
 have := bt_sup r
 rw [(rowsN_row a n k hr).1] at this
 exact this
theorem run6 (ar ac br bc : Nat) (aa ba v : List Int) : M6.m ⟨ar,ac,aa,br,bc,ba,v⟩ = some true := by
 obtain ⟨r,hr⟩ := small [((ar : Int),(ac : Int),aa),((br : Int),(bc : Int),ba)] (by simp)
 unfold M6.m
 simp only [hr,bindO]
 cases hg : (bif !r then true else decide ((v.length : Int) > 40)) with
 | true => simp only [cond_true,lives19]
 | false =>
  have h20a : M20.m ⟨(ar : Int),(ac : Int),aa⟩ = some (((ar % 10 : Nat) : Int),((ac % 140 : Nat) : Int)) := sides ar ac aa
  have h20b : M20.m ⟨(br : Int),(bc : Int),ba⟩ = some (((br % 10 : Nat) : Int),((bc % 140 : Nat) : Int)) := sides br bc ba
  have e12 : Int.tmod ((ac % 140 : Nat) : Int) 12 = ((ac % 140 % 12 : Nat) : Int) := rfl
  simp only [cond_false,h20a,h20b,e12]
  have hm : ar % 10 ≤ 9 := by omega
  have hn : ac % 140 % 12 ≤ 11 := by omega
  have hc : bc % 140 ≤ 139 := by omega
  generalize ar % 10 = m at *
  generalize ac % 140 % 12 = n at *
  generalize bc % 140 = c at *
  obtain ⟨sA,lA,nA⟩ := rows_bits aa m n
  obtain ⟨sB,lB,nB⟩ := rows_bits ba n c
  have hz : M21.m ⟨0,0,v,1,(n : Int)⟩ = some (rowsN v 1 n) := rows' (n := 1) 0 0 v (by omega) (by omega)
  have z0 : (rowsN v 1 n)[0]?.getD [] = (List.range n).map fun (j : Nat) => cell v ((0 : Nat) : Int) n j := rfl
  have hzl : ((List.range n).map fun (j : Nat) => cell v ((0 : Nat) : Int) n j).length = n ∧ B01 ((List.range n).map fun (j : Nat) => cell v ((0 : Nat) : Int) n j) := ⟨by simp,fun x hx => by
   obtain ⟨j,_,rfl⟩ := List.mem_map.1 hx
   exact cell01 _ _ _ _⟩
  have zin : inR 0 (List.length (rowsN v 1 n)) = true := by rw [rowsN_length]; rfl
  have h23a := of23 (L := rowsN aa m n) (c := n) (by omega) (by rw [rowsN_length]; omega) (fun r hr => rowsN_row aa m n hr) (n : Int)
  have h23b := of23 (L := rowsN ba n c) (c := c) (by omega) (by rw [rowsN_length]; omega) (fun r hr => rowsN_row ba n c hr) (c : Int)
  have hvec := vec (l := (List.range n).map fun (j : Nat) => cell v ((0 : Nat) : Int) n j) (by rw [hzl.1]; omega) hzl.2
  simp only [rows' (n := m) (ar : Int) (ac : Int) aa (by omega) (show n ≤ 1000 by omega),rows' (n := n) (br : Int) (bc : Int) ba (by omega) (show c ≤ 1000 by omega),hz,zin,cond_true,z0,h23a,h23b,hvec]
  generalize (List.range n).map (fun (j : Nat) => cell v ((0 : Nat) : Int) n j) = z at *
  obtain ⟨hzn,hz01⟩ := hzl
  have sz : Sup n (bt z) := hzn ▸ bt_sup z
  have lz : lb n (bt z) = z := by have := lb_bt hz01; rw [hzn] at this; exact this
  generalize (rowsN aa m n).map bt = A at *
  generalize (rowsN ba n c).map bt = B at *
  rw [← lA,← lB]
  simp only [hzn]
  have h39 := mul (n := n) (c := c) (A := A) (B := B) nB.symm (by omega) (by omega) (by omega) sA sB
  have h40 := turn40 (c := c) (R := B) (by omega) (by omega) sB
  have h29 := apply (c := n) (R := A) (v := bt z) (by omega) (by omega) sA sz
  have h42 := ref42 (c := c) (A := A) (B := B) (by omega) (by omega) (by omega) (nB ▸ sA)
  have h43 := ref43 (c := c) (R := B) (by omega) (by omega)
  have h44 := ref44 (c := n) (R := A) (v := bt z) (by omega) (by omega) sA sz
  rw [lz] at h44
  have q1 := matches' (c := c) (R := A.map fun a => mulr a B) (by omega) (by rw [List.length_map]; omega) (mulr_sup sB)
  have q2 := matches' (c := B.length) (R := tr c B) (by omega) (by rw [tr_length]; omega) (tr_sup c B)
  have q3 := equal (n := A.length) (b := app n A (bt z)) (by omega) (app_sup n A (bt z))
  rw [nB] at h40 h42 h43 q2
  have z00 : ((0 : Int) == 0) = true := rfl
  simp only [h39,h40,h29,h42,q1,cond_true,h43,q2,z00,h44,q3,lives19]
theorem run6' {ar ac br bc : Int} (aa ba v : List Int) (h1 : 0 ≤ ar) (h2 : 0 ≤ ac) (h3 : 0 ≤ br) (h4 : 0 ≤ bc) : M6.m ⟨ar,ac,aa,br,bc,ba,v⟩ = some true := by
 obtain ⟨ar,rfl⟩ := Int.eq_ofNat_of_zero_le h1
 obtain ⟨ac,rfl⟩ := Int.eq_ofNat_of_zero_le h2
 obtain ⟨br,rfl⟩ := Int.eq_ofNat_of_zero_le h3
 obtain ⟨bc,rfl⟩ := Int.eq_ofNat_of_zero_le h4
 exact run6 ar ac br bc aa ba v
end Gf
end Go.Proofs.Ytddaobhpffpmoaa
