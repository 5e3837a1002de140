/-
  Gf2s: errors (the law Gf2sErrors).
-/
import Derived.Test.YtddaobhpffpmoaaGR9QGq
import Derived.Test.YtddaobhpffpmoaaGR9QGPL
import Derived.Test.YtddaobhpffpmoaaGR9QGW8
set_option linter.all false
namespace Go.Proofs.Ytddaobhpffpmoaa
open Go.Abs
namespace Gf
def wE (n : Int) (w : List Int) : Int :=
 if n < 0 then 1 else if 4096 < n then 3 else if w.length ≠ nw n.toNat then 8 else
 if 0 < n.toNat % 64 ∧ (w[w.length - 1]?.getD 0).fdiv ((2 ^ (n.toNat % 64) : Nat) : Int) ≠ 0 then 1 else 0
theorem size85 (n : Int) : M85.m ⟨n⟩ = some (if n < 0 then 1 else if 4096 < n then 3 else 0) := by
 unfold M85.m
 by_cases h1 : n < 0
 ·rw [if_pos h1,decide_eq_true h1,cond_true]
 ·rw [if_neg h1,decide_eq_false h1,cond_false]
  by_cases h2 : 4096 < n
  ·rw [if_pos h2,decide_eq_true (show n > 4096 from h2),cond_true]
  ·rw [if_neg h2,decide_eq_false (show ¬ n > 4096 from h2),cond_false]
theorem tail38 {N : Nat} {w : List Int} (hN : N ≤ 4096) (hl : w.length = nw N) :
  (bif inR (IntKind.i64.wrap ((w.length : Int) - 1)) w.length || !decide ((N : Int).tmod 64 > 0) then
   bif decide (0 ≤ (N : Int).tmod 64) || !decide ((N : Int).tmod 64 > 0) then
    bif bif decide ((N : Int).tmod 64 > 0) then Int.fdiv (w[(IntKind.i64.wrap ((w.length : Int) - 1)).toNat]?.getD 0) (2 ^ min ((N : Int).tmod 64).toNat 64) != 0 else false then
     some (1 : Int)
    else some 0
   else none
  else none) = some (if 0 < N % 64 ∧ (w[w.length - 1]?.getD 0).fdiv ((2 ^ (N % 64) : Nat) : Int) ≠ 0 then 1 else 0) := by
 have hnw : nw N ≤ 100 := by unfold nw; omega
 rw [tmodn]
 by_cases h : 0 < N % 64
 ·have h1 : 0 < nw N := by unfold nw; omega
  have e3 : IntKind.i64.wrap ((w.length : Int) - 1) = ((w.length - 1 : Nat) : Int) := by rw [w64 (by omega) (by omega)]; omega
  have e4 : inR ((w.length - 1 : Nat) : Int) w.length = true := inR_nat (by omega)
  have e5 : decide (((N % 64 : Nat) : Int) > 0) = true := by simp; omega
  have e6 : decide ((0 : Int) ≤ ((N % 64 : Nat) : Int)) = true := by simp; omega
  simp only [e3,e4,e5,e6,Bool.true_or,cond_true,Int.toNat_natCast]
  rw [Nat.min_eq_left (by omega),pow_int]
  by_cases hv : (w[w.length - 1]?.getD 0).fdiv ((2 ^ (N % 64) : Nat) : Int) = 0
  ·rw [if_neg (fun q => q.2 hv),hv]; rfl
  ·have : ((w[w.length - 1]?.getD 0).fdiv ((2 ^ (N % 64) : Nat) : Int) != 0) = true := by simp only [bne_iff_ne]; exact hv
   rw [if_pos ⟨h,hv⟩,this,cond_true]
 ·have e5 : decide (((N % 64 : Nat) : Int) > 0) = false := by simp; omega
  rw [if_neg (fun q => h q.1)]
  simp only [e5,Bool.not_false,Bool.or_true,cond_true,cond_false]
theorem check38 (n : Int) {w : List Int} (hw : w.length ≤ 70) : M38.m ⟨n,w⟩ = some (wE n w) := by
 unfold M38.m wE
 rw [size85]
 by_cases h1 : n < 0
 ·rw [if_pos h1,if_pos h1]; rfl
 ·rw [if_neg h1,if_neg h1]
  by_cases h2 : 4096 < n
  ·rw [if_pos h2,if_pos h2]; rfl
  ·rw [if_neg h2,if_neg h2]
   obtain ⟨N,rfl⟩ := Int.eq_ofNat_of_zero_le (show 0 ≤ n by omega)
   have hN : N ≤ 4096 := by omega
   simp only [bindO,nz,cond_false,words N (show N ≤ 1000000 by omega),Int.toNat_natCast]
   by_cases h3 : w.length = nw N
   ·have e : ((w.length : Int) != ((nw N : Nat) : Int)) = false := by rw [h3]; simp
    rw [e,cond_false,if_neg (fun q => q h3)]
    exact tail38 hN h3
   ·have e : ((w.length : Int) != ((nw N : Nat) : Int)) = true := by simp only [bne_iff_ne]; omega
    rw [e,cond_true,if_pos h3]
theorem want49 (n : Int) {w : List Int} (hw : w.length ≤ 70) : M49.m ⟨n,w⟩ = some (wE n w) := by
 unfold M49.m wE
 by_cases h1 : n < 0
 ·rw [if_pos h1,decide_eq_true h1,cond_true]
 ·rw [if_neg h1,decide_eq_false h1,cond_false]
  by_cases h2 : 4096 < n
  ·rw [if_pos h2,decide_eq_true (show n > 4096 from h2),cond_true]
  ·rw [if_neg h2,decide_eq_false (show ¬ n > 4096 from h2),cond_false]
   obtain ⟨N,rfl⟩ := Int.eq_ofNat_of_zero_le (show 0 ≤ n by omega)
   have hN : N ≤ 4096 := by omega
   have hnw : nw N ≤ 100 := by unfold nw; omega
   have ew : IntKind.i64.wrap ((IntKind.i64.wrap ((N : Int) + 63)).tdiv 64) = ((nw N : Nat) : Int) := by
    rw [w64 (show -9223372036854775808 ≤ (N : Int) + 63 by omega) (by omega),show ((N : Int) + 63).tdiv 64 = ((nw N : Nat) : Int) from rfl,w64 (by omega) (by omega)]
   simp only [ew,Int.toNat_natCast]
   by_cases h3 : w.length = nw N
   ·have e : ((w.length : Int) != ((nw N : Nat) : Int)) = false := by rw [h3]; simp
    rw [e,cond_false,if_neg (fun q => q h3)]
    exact tail38 hN h3
   ·have e : ((w.length : Int) != ((nw N : Nat) : Int)) = true := by simp only [bne_iff_ne]; omega
    rw [e,cond_true,if_pos h3]
def U64 (w : List Int) : Prop := ∀ x ∈ w,0 ≤ x ∧ x < 18446744073709551616
def wb (w : List Int) : Bits := fun i => ((w[i / 64]?.getD 0).toNat).testBit (i % 64)
theorem wb_wd {w : List Int} {j x : Nat} (hj : w[j]? = some (x : Int)) (hx : x < 2 ^ 64) : wd (wb w) j = x := by
 refine Nat.eq_of_testBit_eq fun k => ?_
 rw [wd_bit]
 unfold wb
 by_cases hk : k < 64
 ·rw [show (64 * j + k) / 64 = j by omega,show (64 * j + k) % 64 = k by omega,hj]
  simp [hk]
 ·rw [Nat.testBit_lt_two_pow (Nat.lt_of_lt_of_le hx (Nat.pow_le_pow_right (by omega) (by omega)))]
  simp [hk]
theorem wb_vw {N : Nat} {w : List Int} (hw : U64 w) (hl : w.length = nw N) : w = vw N (wb w) := by
 refine List.ext_getElem? fun j => ?_
 rcases Nat.lt_or_ge j (nw N) with hj | hj
 ·have hj' : j < w.length := by omega
  obtain ⟨a,b⟩ := hw _ (List.getElem_mem hj')
  obtain ⟨x,hx⟩ := Int.eq_ofNat_of_zero_le a
  have hq : w[j]? = some (x : Int) := by rw [List.getElem?_eq_getElem hj',hx]
  rw [vw_at _ _ hj,hq,wb_wd hq (by omega)]
 ·rw [List.getElem?_eq_none (by omega),List.getElem?_eq_none (by rw [vw_length]; omega)]
theorem valid_vec {n : Int} {w : List Int} (hw : U64 w) (h : wE n w = 0) : ∃ N b,n = ((N : Nat) : Int) ∧ N ≤ 4096 ∧ Sup N b ∧ w = vw N b := by
 unfold wE at h
 split at h
 ·cases h
 split at h
 ·cases h
 obtain ⟨N,rfl⟩ := Int.eq_ofNat_of_zero_le (show 0 ≤ n by omega)
 rw [Int.toNat_natCast] at h
 split at h
 ·cases h
 rename_i hlen
 have hlen : w.length = nw N := Classical.byContradiction hlen
 split at h
 ·cases h
 rename_i hlast
 refine ⟨N,wb w,rfl,by omega,fun i hi => ?_,wb_vw hw hlen⟩
 unfold wb
 rcases Nat.lt_or_ge (i / 64) w.length with hj | hj
 ·have h1 : 0 < N % 64 := by unfold nw at hlen; omega
  have h2 : i / 64 = w.length - 1 := by unfold nw at hlen; omega
  have h3 : (w[w.length - 1]?.getD 0).fdiv ((2 ^ (N % 64) : Nat) : Int) = 0 := Classical.byContradiction fun q => hlast ⟨h1,q⟩
  rw [h2]
  rw [List.getElem?_eq_getElem (by omega)] at h3 ⊢
  obtain ⟨a,b⟩ := hw _ (List.getElem_mem (show w.length - 1 < w.length by omega))
  rw [Option.getD_some] at h3 ⊢
  obtain ⟨x,hx⟩ := Int.eq_ofNat_of_zero_le a
  rw [hx] at h3 ⊢
  rw [fdiv_nat] at h3
  have h4 : x / 2 ^ (N % 64) = 0 := by omega
  have h5 : x < 2 ^ (N % 64) := by
   rcases Nat.div_eq_zero_iff.1 h4 with e | e
   ·have := Nat.two_pow_pos (N % 64); omega
   ·exact e
  rw [Int.toNat_natCast]
  refine Nat.testBit_lt_two_pow (Nat.lt_of_lt_of_le h5 (Nat.pow_le_pow_right (by omega) ?_))
  unfold nw at hlen
  omega
 ·rw [List.getElem?_eq_none hj]; simp
theorem nz_of {e : Int} (h : e ≠ 0) : (e != 0) = true := by simp only [bne_iff_ne]; exact h
theorem ez_of {e : Int} (h : e ≠ 0) : (e == 0) = false := by simp only [beq_eq_false_iff_ne]; exact h
theorem both_any (n m : Int) {w u : List Int} (hw : w.length ≤ 70) (hu : u.length ≤ 70) :
  M79.m ⟨n,w,m,u⟩ = some (bif bif (bif wE n w == 0 then wE m u else wE n w) == 0 then n != m else false then 8 else bif wE n w == 0 then wE m u else wE n w) := by
 have s0 : M79.s0 ⟨[(n,w),(m,u)],2,0,n,w,m,u⟩ = (bif wE n w != 0 then some (.inr (.inr ⟨wE n w⟩)) else some (.inl ⟨[(n,w),(m,u)],2,1,n,w,m,u⟩)) := by
  unfold M79.s0
  show bindO (M38.m ⟨n,w⟩) _ = _
  rw [check38 n hw]
  rfl
 have s1 : M79.s0 ⟨[(n,w),(m,u)],2,1,n,w,m,u⟩ = (bif wE m u != 0 then some (.inr (.inr ⟨wE m u⟩)) else some (.inl ⟨[(n,w),(m,u)],2,2,n,w,m,u⟩)) := by
  unfold M79.s0
  show bindO (M38.m ⟨m,u⟩) _ = _
  rw [check38 m hu]
  rfl
 have s2 : M79.s0 ⟨[(n,w),(m,u)],2,2,n,w,m,u⟩ = some (.inr (.inl ⟨n,w,m,u⟩)) := rfl
 unfold M79.m
 show bindO (iter M79.s0 ⟨[(n,w),(m,u)],2,0,n,w,m,u⟩) _ = _
 rw [iter_eq,s0]
 by_cases h1 : wE n w = 0
 ·simp only [h1,nz,cond_false,BEq.rfl,cond_true]
  rw [iter_eq,s1]
  by_cases h2 : wE m u = 0
  ·simp only [h2,nz,cond_false,BEq.rfl,cond_true]
   rw [iter_eq,s2]
   simp only [bindO,sumC]
   cases n != m <;> rfl
  ·simp only [nz_of h2,cond_true,ez_of h2,cond_false,bindO,sumC]
 ·simp only [nz_of h1,cond_true,ez_of h1,cond_false,bindO,sumC]
theorem add_any (n m : Int) {w u : List Int} (hw : w.length ≤ 70) (hu : u.length ≤ 70) (Uw : U64 w) (Uu : U64 u) :
  ∃ p q,M28.m ⟨n,w,m,u⟩ = some (p,q,bif bif (bif wE n w == 0 then wE m u else wE n w) == 0 then n != m else false then 8 else bif wE n w == 0 then wE m u else wE n w) ∧
   ((bif bif (bif wE n w == 0 then wE m u else wE n w) == 0 then n != m else false then 8 else bif wE n w == 0 then wE m u else wE n w) ≠ 0 → p = 0 ∧ q = []) := by
 unfold M28.m
 simp only [both_any n m hw hu,bindO]
 by_cases h : (bif bif (bif wE n w == 0 then wE m u else wE n w) == 0 then n != m else false then 8 else bif wE n w == 0 then wE m u else wE n w) = 0
 ·have h1 : wE n w = 0 := Classical.byContradiction fun q => by
   rw [ez_of q,cond_false,ez_of q,cond_false,cond_false] at h
   exact q h
  rw [h1,BEq.rfl,cond_true] at h
  have h2 : wE m u = 0 := Classical.byContradiction fun q => by
   rw [ez_of q,cond_false,cond_false] at h
   exact q h
  rw [h2,BEq.rfl,cond_true] at h
  have h3 : n = m := Classical.byContradiction fun q => by
   have : (n != m) = true := by simp only [bne_iff_ne]; exact q
   rw [this] at h
   cases h
  subst h3
  obtain ⟨N,a,rfl,hN,sa,rfl⟩ := valid_vec Uw h1
  obtain ⟨N',b,e,_,sb,e2⟩ := valid_vec Uu h2
  have : N' = N := by omega
  subst this
  subst e2
  rw [h1,h2]
  refine ⟨(N' : Int),vw N' (xr a b),?_,fun q => absurd ?_ q⟩
  ·simp only [BEq.rfl,cond_true,neq_self,cond_false,nz,sum a b (N' : Int) (show N' ≤ 1000000 by omega)]
  ·simp only [BEq.rfl,cond_true,neq_self,cond_false]
 ·exact ⟨0,[],by rw [nz_of h,cond_true],fun _ => ⟨rfl,rfl⟩⟩
theorem dot_any (n m : Int) {w u : List Int} (hw : w.length ≤ 70) (hu : u.length ≤ 70) (Uw : U64 w) (Uu : U64 u) :
  ∃ p,M33.m ⟨n,w,m,u⟩ = some (p,bif bif (bif wE n w == 0 then wE m u else wE n w) == 0 then n != m else false then 8 else bif wE n w == 0 then wE m u else wE n w) ∧
   ((bif bif (bif wE n w == 0 then wE m u else wE n w) == 0 then n != m else false then 8 else bif wE n w == 0 then wE m u else wE n w) ≠ 0 → p = 0) := by
 unfold M33.m
 simp only [both_any n m hw hu,bindO]
 by_cases h : (bif bif (bif wE n w == 0 then wE m u else wE n w) == 0 then n != m else false then 8 else bif wE n w == 0 then wE m u else wE n w) = 0
 ·have h1 : wE n w = 0 := Classical.byContradiction fun q => by
   rw [ez_of q,cond_false,ez_of q,cond_false,cond_false] at h
   exact q h
  rw [h1,BEq.rfl,cond_true] at h
  have h2 : wE m u = 0 := Classical.byContradiction fun q => by
   rw [ez_of q,cond_false,cond_false] at h
   exact q h
  rw [h2,BEq.rfl,cond_true] at h
  have h3 : n = m := Classical.byContradiction fun q => by
   have : (n != m) = true := by simp only [bne_iff_ne]; exact q
   rw [this] at h
   cases h
  subst h3
  obtain ⟨N,a,rfl,hN,sa,rfl⟩ := valid_vec Uw h1
  obtain ⟨N',b,e,_,sb,e2⟩ := valid_vec Uu h2
  have : N' = N := by omega
  subst this
  subst e2
  rw [h1,h2]
  have ho := odd (n := N') (a := a) (b := b) (N' : Int) (by omega) sa
  simp only [BEq.rfl,cond_true,neq_self,cond_false,nz,ho]
  cases dot N' a b
  ·exact ⟨0,rfl,fun _ => rfl⟩
  ·exact ⟨1,rfl,fun q => absurd rfl q⟩
 ·exact ⟨0,by rw [nz_of h,cond_true],fun _ => rfl⟩
def vS (mc v : Int) (r : Int × List Int) : Int := if v ≠ 0 then v else if wE r.1 r.2 ≠ 0 then wE r.1 r.2 else if r.1 ≠ mc then 8 else 0
def v0 (mc : Int) : Int := if mc < 0 then 1 else if 4096 < mc then 3 else 0
def vE (mc : Int) (l : List (Int × List Int)) : Int := l.foldl (vS mc) (v0 mc)
theorem vS_keep {mc v : Int} (h : v ≠ 0) : ∀ l : List (Int × List Int),l.foldl (vS mc) v = v
 | [] => rfl
 | r :: l => by
  have : vS mc v r = v := by unfold vS; rw [if_pos h]
  rw [List.foldl_cons,this]
  exact vS_keep h l
theorem valid_any (mc : Int) {l : List (Int × List Int)} (hl : l.length ≤ 8) (hw : ∀ r ∈ l,r.2.length ≤ 70) : M50.m ⟨mc,l⟩ = some (vE mc l) := by
 unfold M50.m
 rw [size85]
 have hv : (if mc < 0 then 1 else if 4096 < mc then 3 else 0 : Int) = v0 mc := rfl
 rw [hv]
 by_cases h0 : v0 mc = 0
 rotate_left
 ·simp only [bindO,nz_of h0,cond_true]
  unfold vE
  rw [vS_keep h0]
 ·have gen : ∀ (j i : Nat),i + j = l.length → bindO (iter M50.s0 ⟨l,(l.length : Int),(i : Int),mc,l⟩) (fun s => sumC s (fun _ => some 0) fun z => some z.r) = some ((l.drop i).foldl (vS mc) 0) := by
   intro j
   induction j with
   | zero =>
    intro i hi
    have : i = l.length := by omega
    subst this
    have e1 : decide ((l.length : Int) < (l.length : Int)) = false := by simp
    rw [iter_eq]
    unfold M50.s0
    simp only [e1,cond_false,bindO,sumC,List.drop_length,List.foldl_nil]
   | succ j ih =>
    intro i hi
    have hil : i < l.length := by omega
    have e1 : decide ((i : Int) < (l.length : Int)) = true := by simpa using hil
    have hc := check38 (l[i]).1 (hw _ (List.getElem_mem hil))
    rw [iter_eq,List.drop_eq_getElem_cons hil,List.foldl_cons]
    unfold M50.s0
    simp only [e1,inR_nat hil,getD_at hil,cond_true,hc,bindO]
    by_cases hz : wE (l[i]).1 (l[i]).2 = 0
    ·simp only [hz,nz,cond_false]
     by_cases hm : (l[i]).1 = mc
     ·have e2 : ((l[i]).1 != mc) = false := by rw [hm]; simp
      have e3 : vS mc 0 l[i] = 0 := by unfold vS; rw [if_neg (fun q => q rfl),if_neg (fun q => q hz),if_neg (fun q => q hm)]
      rw [e3]
      simp only [e2,cond_false,suc (show i < 9000000000000000000 by omega)]
      exact ih (i + 1) (by omega)
     ·have e2 : ((l[i]).1 != mc) = true := by simp only [bne_iff_ne]; exact hm
      have e3 : vS mc 0 l[i] = 8 := by unfold vS; rw [if_neg (fun q => q rfl),if_neg (fun q => q hz),if_pos hm]
      rw [e3,vS_keep (by decide)]
      simp only [e2,cond_true,sumC]
    ·have e3 : vS mc 0 l[i] = wE (l[i]).1 (l[i]).2 := by unfold vS; rw [if_neg (fun q => q rfl),if_pos hz]
     rw [e3,vS_keep hz]
     simp only [nz_of hz,cond_true,sumC]
  have g := gen l.length 0 (by omega)
  have hs := size (n := l.length) (by omega)
  simp only [h0,bindO,nz,cond_false,hs]
  unfold vE
  rw [h0]
  exact g
theorem foldl_zero {mc : Int} : ∀ {l : List (Int × List Int)} {v : Int},l.foldl (vS mc) v = 0 → v = 0 ∧ ∀ r ∈ l,wE r.1 r.2 = 0 ∧ r.1 = mc
 | [],v,h => ⟨h,fun r hr => by cases hr⟩
 | a :: l,v,h => by
  rw [List.foldl_cons] at h
  obtain ⟨h1,h2⟩ := foldl_zero h
  unfold vS at h1
  by_cases hv : v = 0
  ·subst hv
   rw [if_neg (fun q => q rfl)] at h1
   by_cases hz : wE a.1 a.2 = 0
   ·rw [if_neg (fun q => q hz)] at h1
    by_cases hm : a.1 = mc
    ·exact ⟨rfl,fun r hr => by
      rcases List.mem_cons.1 hr with rfl | hr
      ·exact ⟨hz,hm⟩
      ·exact h2 r hr⟩
    ·rw [if_pos hm] at h1; cases h1
   ·rw [if_pos hz] at h1; exact absurd h1 hz
  ·rw [if_pos hv] at h1; exact absurd h1 hv
theorem valid_mat {mc : Int} {l : List (Int × List Int)} (hw : ∀ r ∈ l,U64 r.2) (h : vE mc l = 0) : ∃ N R,mc = ((N : Nat) : Int) ∧ N ≤ 4096 ∧ SupM N R ∧ R.length = l.length ∧ l = mr N R := by
 obtain ⟨h0,h1⟩ := foldl_zero h
 unfold v0 at h0
 split at h0
 ·cases h0
 split at h0
 ·cases h0
 obtain ⟨N,rfl⟩ := Int.eq_ofNat_of_zero_le (show 0 ≤ mc by omega)
 have : ∀ r ∈ l,∃ b,Sup N b ∧ r = ((N : Int),vw N b) := fun r hr => by
  obtain ⟨a,b⟩ := h1 r hr
  obtain ⟨N',c,e,_,sc,e2⟩ := valid_vec (hw r hr) a
  have : N' = N := by omega
  subst this
  exact ⟨c,sc,by rw [← e2,← b]⟩
 clear h h1 hw
 induction l with
 | nil => exact ⟨N,[],rfl,by omega,(fun _ h => by cases h),rfl,rfl⟩
 | cons a l ih =>
  obtain ⟨N',R,e,h2,h3,h4,h5⟩ := ih fun r hr => this r (by simp [hr])
  have : N' = N := by omega
  subst this
  obtain ⟨b,sb,eb⟩ := this a (by simp)
  refine ⟨N',b :: R,rfl,h2,fun x hx => ?_,by simp [h4],?_⟩
  ·rcases List.mem_cons.1 hx with rfl | hx
   ·exact sb
   ·exact h3 x hx
  ·unfold mr at h5 ⊢
   rw [List.map_cons,← h5,← eb]
section
variable {mc an : Int} {l : List (Int × List Int)} {aw : List Int} (hl : l.length ≤ 8) (hw : ∀ r ∈ l,r.2.length ≤ 70) (hU : ∀ r ∈ l,U64 r.2) (ha : aw.length ≤ 70) (aU : U64 aw)
include hl hw hU ha aU
theorem apply_any : ∃ p q,M29.m ⟨mc,l,an,aw⟩ = some (p,q,bif bif (bif vE mc l == 0 then wE an aw else vE mc l) == 0 then an != mc else false then 8 else bif vE mc l == 0 then wE an aw else vE mc l) ∧
  ((bif bif (bif vE mc l == 0 then wE an aw else vE mc l) == 0 then an != mc else false then 8 else bif vE mc l == 0 then wE an aw else vE mc l) ≠ 0 → q = []) := by
 by_cases h : vE mc l = 0
 ·rw [h,BEq.rfl,cond_true]
  by_cases h2 : wE an aw = 0
  ·rw [h2,BEq.rfl,cond_true]
   by_cases h3 : an = mc
   ·obtain ⟨N,R,rfl,hN,sR,lR,rfl⟩ := valid_mat hU h
    obtain ⟨N',b,e,_,sb,rfl⟩ := valid_vec aU h2
    subst e
    have : N' = N := by omega
    subst this
    have e := apply (c := N') (R := R) (v := b) hN (by omega) sR sb
    rw [neq_self,cond_false]
    exact ⟨_,_,e,fun q => absurd rfl q⟩
   ·have e2 : (an != mc) = true := by simp only [bne_iff_ne]; exact h3
    rw [e2,cond_true]
    refine ⟨0,[],?_,fun _ => rfl⟩
    unfold M29.m
    simp only [valid_any mc hl hw,bindO,h,nz,cond_false,check38 an ha,h2,e2,cond_true]
  ·rw [ez_of h2,cond_false,cond_false]
   refine ⟨0,[],?_,fun _ => rfl⟩
   unfold M29.m
   simp only [valid_any mc hl hw,bindO,h,nz,cond_false,check38 an ha,nz_of h2,cond_true]
 ·rw [ez_of h,cond_false,ez_of h,cond_false,cond_false]
  refine ⟨0,[],?_,fun _ => rfl⟩
  unfold M29.m
  simp only [valid_any mc hl hw,bindO,nz_of h,cond_true]
theorem solve_any : ∃ p q E,M22.m ⟨mc,l,an,aw⟩ = some (p,q,E) ∧
  (bif E == (bif bif (bif vE mc l == 0 then wE an aw else vE mc l) == 0 then an != (l.length : Int) else false then 8 else bif vE mc l == 0 then wE an aw else vE mc l) then true
   else bif (bif bif (bif vE mc l == 0 then wE an aw else vE mc l) == 0 then an != (l.length : Int) else false then 8 else bif vE mc l == 0 then wE an aw else vE mc l) == 0 then E == 9 else false) = true ∧
  (E ≠ 0 → q = []) := by
 by_cases h : vE mc l = 0
 ·rw [h,BEq.rfl,cond_true]
  by_cases h2 : wE an aw = 0
  ·rw [h2,BEq.rfl,cond_true]
   by_cases h3 : an = (l.length : Int)
   ·obtain ⟨N,R,rfl,hN,sR,lR,rfl⟩ := valid_mat hU h
    obtain ⟨N',b,e,_,sb,rfl⟩ := valid_vec aU h2
    subst e
    rw [mr_length] at h3
    have : N' = R.length := by omega
    subst this
    have e := solve22 (c := N) (R := R) (b := b) hN (by omega) sR sb
    rw [mr_length,neq_self,cond_false]
    by_cases hb : bad (rd R (sd b R.length) N).2.1 (rd R (sd b R.length) N).2.2.length R.length = true
    ·rw [if_pos hb] at e
     exact ⟨_,_,_,e,rfl,fun _ => rfl⟩
    ·rw [if_neg hb] at e
     exact ⟨_,_,_,e,rfl,fun q => absurd rfl q⟩
   ·have e2 : (an != (l.length : Int)) = true := by simp only [bne_iff_ne]; exact h3
    rw [e2,cond_true]
    refine ⟨0,[],8,?_,rfl,fun _ => rfl⟩
    unfold M22.m
    simp only [valid_any mc hl hw,bindO,h,nz,cond_false,check38 an ha,h2,e2,cond_true]
  ·rw [ez_of h2,cond_false,cond_false]
   refine ⟨0,[],wE an aw,?_,by rw [BEq.rfl,cond_true],fun _ => rfl⟩
   unfold M22.m
   simp only [valid_any mc hl hw,bindO,h,nz,cond_false,check38 an ha,nz_of h2,cond_true]
 ·rw [ez_of h,cond_false,ez_of h,cond_false,cond_false]
  refine ⟨0,[],vE mc l,?_,by rw [BEq.rfl,cond_true],fun _ => rfl⟩
  unfold M22.m
  simp only [valid_any mc hl hw,bindO,nz_of h,cond_true]
omit ha aU in
theorem inv_any : ∃ p q E,M47.m ⟨mc,l⟩ = some (p,q,E) ∧
  (bif E == (bif bif vE mc l == 0 then mc != (l.length : Int) else false then 8 else vE mc l) then true
   else bif (bif bif vE mc l == 0 then mc != (l.length : Int) else false then 8 else vE mc l) == 0 then E == 9 else false) = true ∧ (E ≠ 0 → q = []) := by
 by_cases h : vE mc l = 0
 ·rw [h,BEq.rfl,cond_true]
  by_cases h3 : mc = (l.length : Int)
  ·obtain ⟨N,R,rfl,hN,sR,lR,rfl⟩ := valid_mat hU h
   rw [mr_length] at h3
   have : R.length = N := by omega
   have e := inv47 (n := N) (R := R) hN this sR
   rw [mr_length,this,neq_self,cond_false]
   by_cases hk : rk N R < N
   ·rw [if_pos hk] at e
    exact ⟨_,_,_,e,rfl,fun _ => rfl⟩
   ·rw [if_neg hk] at e
    exact ⟨_,_,_,e,rfl,fun q => absurd rfl q⟩
  ·have e2 : (mc != (l.length : Int)) = true := by simp only [bne_iff_ne]; exact h3
   rw [e2,cond_true]
   refine ⟨0,[],8,?_,rfl,fun _ => rfl⟩
   unfold M47.m
   simp only [valid_any mc hl hw,bindO,h,nz,cond_false,e2,cond_true]
 ·rw [ez_of h,cond_false]
  refine ⟨0,[],vE mc l,?_,by rw [cond_false,BEq.rfl,cond_true],fun _ => rfl⟩
  unfold M47.m
  simp only [valid_any mc hl hw,bindO,nz_of h,cond_true]
omit ha aU in
theorem mul_any : ∃ p q,M39.m ⟨mc,l,mc,l⟩ = some (p,q,bif bif vE mc l == 0 then mc != (l.length : Int) else false then 8 else vE mc l) ∧
  ((bif bif vE mc l == 0 then mc != (l.length : Int) else false then 8 else vE mc l) ≠ 0 → q = []) := by
 have s0 : M39.s0 ⟨[(mc,l),(mc,l)],2,0,mc,l,mc,l⟩ = (bif vE mc l != 0 then some (.inr (.inr ⟨vE mc l,0⟩)) else some (.inl ⟨[(mc,l),(mc,l)],2,1,mc,l,mc,l⟩)) := by
  unfold M39.s0
  show bindO (M50.m ⟨mc,l⟩) _ = _
  rw [valid_any mc hl hw]
  rfl
 have s1 : M39.s0 ⟨[(mc,l),(mc,l)],2,1,mc,l,mc,l⟩ = (bif vE mc l != 0 then some (.inr (.inr ⟨vE mc l,0⟩)) else some (.inl ⟨[(mc,l),(mc,l)],2,2,mc,l,mc,l⟩)) := by
  unfold M39.s0
  show bindO (M50.m ⟨mc,l⟩) _ = _
  rw [valid_any mc hl hw]
  rfl
 have s2 : M39.s0 ⟨[(mc,l),(mc,l)],2,2,mc,l,mc,l⟩ = some (.inr (.inl ⟨mc,l,mc,l⟩)) := rfl
 by_cases h : vE mc l = 0
 ·rw [h,BEq.rfl,cond_true]
  by_cases h3 : mc = (l.length : Int)
  ·obtain ⟨N,R,rfl,hN,sR,lR,rfl⟩ := valid_mat hU h
   rw [mr_length] at h3
   have hRN : R.length = N := by omega
   have e := mul (n := N) (c := N) (A := R) (B := R) hRN.symm hN hN (by omega) sR sR
   rw [mr_length,hRN,neq_self,cond_false]
   exact ⟨_,_,e,fun q => absurd rfl q⟩
  ·have e2 : (mc != (l.length : Int)) = true := by simp only [bne_iff_ne]; exact h3
   rw [e2,cond_true]
   refine ⟨0,[],?_,fun _ => rfl⟩
   have k : iter M39.s0 ⟨[(mc,l),(mc,l)],(↑2 : Int),0,mc,l,mc,l⟩ = some (.inl ⟨mc,l,mc,l⟩) := by
    show iter M39.s0 ⟨[(mc,l),(mc,l)],2,0,mc,l,mc,l⟩ = _
    rw [iter_eq,s0,h,nz,cond_false]
    show iter M39.s0 ⟨[(mc,l),(mc,l)],2,1,mc,l,mc,l⟩ = _
    rw [iter_eq,s1,h,nz,cond_false]
    show iter M39.s0 ⟨[(mc,l),(mc,l)],2,2,mc,l,mc,l⟩ = _
    rw [iter_eq,s2]
   unfold M39.m
   simp only [k,bindO,sumC,e2,cond_true]
 ·rw [ez_of h,cond_false]
  refine ⟨0,[],?_,fun _ => rfl⟩
  have k : iter M39.s0 ⟨[(mc,l),(mc,l)],(↑2 : Int),0,mc,l,mc,l⟩ = some (.inr ⟨vE mc l,0⟩) := by
   show iter M39.s0 ⟨[(mc,l),(mc,l)],2,0,mc,l,mc,l⟩ = _
   rw [iter_eq,s0,nz_of h,cond_true]
  unfold M39.m
  simp only [k,bindO,sumC,cond_false]
end
theorem room48 {n : Int} {w : List Int} (hw : w.length ≤ 70) : M48.m ⟨n,w⟩ = some (n,w) := by
 have e1 : roomB w.length 8 = true := by simp [roomB,leB]; omega
 have e2 : leB (0 + w.length) w.length = true := by simp [leB]
 unfold M48.m
 simp only [e1,e2,Bool.and_self,cond_true,List.drop_zero,List.take_length]
end Gf
end Go.Proofs.Ytddaobhpffpmoaa
