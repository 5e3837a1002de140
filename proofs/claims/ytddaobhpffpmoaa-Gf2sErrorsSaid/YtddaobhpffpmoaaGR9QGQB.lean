/-
  Gf2s: errors: what the law Gf2sErrors answers.
-/
import Derived.Test.YtddaobhpffpmoaaGR9QGQA
set_option linter.all false
namespace Go.Proofs.Ytddaobhpffpmoaa
open Go.Abs
namespace Gf
theorem bits_bad {n : Int} {w : List Int} (hw : w.length ≤ 70) (h : wE n w ≠ 0) : M34.m ⟨n,w⟩ = some [] := by
 unfold M34.m
 simp only [check38 n hw,bindO,nz_of h,cond_true]
theorem at_bad {n : Int} {w : List Int} (hw : w.length ≤ 70) (h : wE n w ≠ 0) (i : Int) : M37.m ⟨n,w,i⟩ = some 0 := by
 unfold M37.m
 simp only [check38 n hw,bindO,nz_of h,cond_true,Bool.not_true,cond_false]
theorem wt_bad {n : Int} {w : List Int} (hw : w.length ≤ 70) (h : wE n w ≠ 0) : M36.m ⟨n,w⟩ = some 0 := by
 unfold M36.m
 simp only [check38 n hw,bindO,nz_of h,cond_true]
theorem text_bad {n : Int} {w : List Int} (hw : w.length ≤ 70) (h : wE n w ≠ 0) : M32.m ⟨n,w⟩ = some [] := by
 unfold M32.m
 simp only [bits_bad hw h,bindO]
 rfl
theorem loop9 (e an mc xn zc : Int) (aw xw : List Int) (l : List (Int × List Int)) (hl : l.length ≤ 8) :
  ∀ j i,i + j = l.length → (∀ r ∈ l.take i,r.2.length ≤ 70) →
   iter M9.s0 ⟨e,(l.take i).foldl (vS mc) (v0 mc),(i : Int),an,aw,mc,l,xn,xw,zc,0,i,l.take i⟩ = some (.inr ⟨true⟩) ∨
   ((∀ r ∈ l,r.2.length ≤ 70) ∧ iter M9.s0 ⟨e,(l.take i).foldl (vS mc) (v0 mc),(i : Int),an,aw,mc,l,xn,xw,zc,0,i,l.take i⟩ = some (.inl ⟨e,vE mc l,an,aw,mc,l,xn,xw,zc,l⟩)) := by
 intro j
 induction j with
 | zero =>
  intro i hi h
  have : i = l.length := by omega
  subst this
  rw [List.take_length] at h ⊢
  have e1 : decide ((l.length : Int) < (l.length : Int)) = false := by simp
  have e2 : leB (0 + l.length) l.length = true := by simp [leB]
  refine .inr ⟨h,?_⟩
  rw [iter_eq]
  unfold M9.s0
  simp only [e1,cond_false,e2,Bool.and_self,cond_true,List.drop_zero,List.take_length]
  rfl
 | succ j ih =>
  intro i hi h
  have hil : i < l.length := by omega
  have e1 : decide ((i : Int) < (l.length : Int)) = true := by simpa using hil
  rw [iter_eq]
  by_cases hr : (l[i]).2.length ≤ 70
  ·have e2 : decide (((l[i]).2.length : Int) > 70) = false := by simp; omega
   have e3 : (eqN 0 0 && eqN (l.take i).length i && roomB (i + 1) 32) = true := by
    have g1 : eqN (l.take i).length i = true := by rw [List.length_take,Nat.min_eq_left (by omega)]; simp [eqN]
    have g2 : roomB (i + 1) 32 = true := by simp [roomB,leB]; omega
    rw [g1,g2]; rfl
   have tk : l.take (i + 1) = l.take i ++ [l[i]] := List.take_succ_eq_append_getElem hil
   have ih := ih (i + 1) (by omega) (fun r hm => by
    rw [tk,List.mem_append] at hm
    rcases hm with hm | hm
    ·exact h r hm
    ·rw [List.mem_singleton] at hm
     rw [hm]; exact hr)
   have st : M9.s0 ⟨e,(l.take i).foldl (vS mc) (v0 mc),(i : Int),an,aw,mc,l,xn,xw,zc,0,i,l.take i⟩ = some (.inl ⟨e,(l.take (i + 1)).foldl (vS mc) (v0 mc),((i + 1 : Nat) : Int),an,aw,mc,l,xn,xw,zc,0,i + 1,l.take (i + 1)⟩) := by
    rw [tk,List.foldl_append,List.foldl_cons,List.foldl_nil]
    generalize (l.take i).foldl (vS mc) (v0 mc) = v
    unfold M9.s0
    simp only [e1,inR_nat hil,getD_at hil,e2,cond_true,cond_false,room48 hr,want49 _ hr,bindO,e3,Bool.true_or,suc (show i < 9000000000000000000 by omega)]
    unfold vS
    by_cases hv : v = 0
    ·rw [if_neg (fun q => q hv)]
     subst hv
     simp only [BEq.rfl,cond_true]
     by_cases hz : wE (l[i]).1 (l[i]).2 = 0
     ·rw [if_neg (fun q => q hz)]
      simp only [hz,BEq.rfl,cond_true]
      by_cases hm : (l[i]).1 = mc
      ·have e4 : ((l[i]).1 != mc) = false := by rw [hm]; simp
       rw [if_neg (fun q => q hm),e4,cond_false]
      ·rw [if_pos hm,show ((l[i]).1 != mc) = true by simp only [bne_iff_ne]; exact hm,cond_true]
     ·rw [if_pos hz]
      simp only [ez_of hz,cond_false]
    ·rw [if_pos hv]
     simp only [ez_of hv,cond_false]
   rw [st]
   exact ih
  ·have e2 : decide (((l[i]).2.length : Int) > 70) = true := by simp; omega
   left
   unfold M9.s0
   simp only [e1,inR_nat hil,getD_at hil,e2,cond_true,lives19,bindO]
theorem run9 (an bn mc : Int) (aw bw : List Int) (l : List (Int × List Int)) (Ua : U64 aw) (Ub : U64 bw) (Ul : ∀ r ∈ l,U64 r.2) : M9.m ⟨an,aw,bn,bw,mc,l⟩ = some true := by
 unfold M9.m
 cases hg : (bif bif decide ((aw.length : Int) > 70) then true else decide ((bw.length : Int) > 70) then true else decide ((l.length : Int) > 8)) with
 | true => simp only [cond_true,lives19,bindO]
 | false =>
  have ha : aw.length ≤ 70 := by
   refine Nat.le_of_not_lt fun q => ?_
   rw [decide_eq_true (show (aw.length : Int) > 70 by omega),cond_true,cond_true] at hg
   cases hg
  rw [decide_eq_false (show ¬ (aw.length : Int) > 70 by omega),cond_false] at hg
  have hb : bw.length ≤ 70 := by
   refine Nat.le_of_not_lt fun q => ?_
   rw [decide_eq_true (show (bw.length : Int) > 70 by omega),cond_true] at hg
   cases hg
  rw [decide_eq_false (show ¬ (bw.length : Int) > 70 by omega),cond_false] at hg
  have hl : l.length ≤ 8 := by
   have := of_decide_eq_false hg
   omega
  obtain ⟨p1,q1,h28,z28⟩ := add_any an bn ha hb Ua Ub
  obtain ⟨p2,h33,z33⟩ := dot_any an bn ha hb Ua Ub
  simp only [cond_false,room48 ha,room48 hb,want49 an ha,want49 bn hb,check38 an ha,h28,h33,bindO,neq_self]
  have c1 : (bif (bif bif (bif wE an aw == 0 then wE bn bw else wE an aw) == 0 then an != bn else false then 8 else bif wE an aw == 0 then wE bn bw else wE an aw) != 0 then
    bif bif p1 != 0 then true else decide ((q1.length : Int) > 0) then true else p2 != 0 else false) = false := by
   by_cases h : (bif bif (bif wE an aw == 0 then wE bn bw else wE an aw) == 0 then an != bn else false then 8 else bif wE an aw == 0 then wE bn bw else wE an aw) = 0
   ·rw [h]; rfl
   ·obtain ⟨rfl,rfl⟩ := z28 h
    have := z33 h
    subst this
    rw [nz_of h,cond_true]; rfl
  simp only [c1,cond_false]
  have c2 : (bif wE an aw != 0 then M34.m ⟨an,aw⟩ else some []) = some [] := by
   by_cases h : wE an aw = 0
   ·rw [h]; rfl
   ·rw [nz_of h,cond_true,bits_bad ha h]
  have c3 : (bif wE an aw != 0 && !decide ((((([] : List Int).length) : Nat) : Int) > 0) then M37.m ⟨an,aw,0⟩ else some (Int.ofNat 0)) = some 0 := by
   by_cases h : wE an aw = 0
   ·rw [h]; rfl
   ·rw [nz_of h]
    exact at_bad ha h 0
  have c4 : (bif wE an aw != 0 && !bif decide ((((([] : List Int).length) : Nat) : Int) > 0) then true else (0 : Int) != 0 then M36.m ⟨an,aw⟩ else some (Int.ofNat 0)) = some 0 := by
   by_cases h : wE an aw = 0
   ·rw [h]; rfl
   ·rw [nz_of h]
    exact wt_bad ha h
  have c5 : (bif wE an aw != 0 && !bif bif decide ((((([] : List Int).length) : Nat) : Int) > 0) then true else (0 : Int) != 0 then true else (0 : Int) != 0 then M32.m ⟨an,aw⟩ else some []) = some [] := by
   by_cases h : wE an aw = 0
   ·rw [h]; rfl
   ·rw [nz_of h]
    exact text_bad ha h
  have c6 : (bif wE an aw != 0 then bif bif bif decide ((((([] : List Int).length) : Nat) : Int) > 0) then true else (0 : Int) != 0 then true else (0 : Int) != 0 then true else !(([] : List UInt8) == []) else false) = false := by
   cases wE an aw != 0 <;> rfl
  simp only [c2,c3,c4,c5,c6,cond_false]
  have hv0 : (bif decide (mc < 0) then 1 else bif decide (mc > 4096) then 3 else 0 : Int) = v0 mc := by
   unfold v0
   by_cases h1 : mc < 0
   ·rw [decide_eq_true h1,if_pos h1]; rfl
   ·rw [decide_eq_false h1,if_neg h1,cond_false]
    by_cases h2 : 4096 < mc
    ·rw [decide_eq_true (show mc > 4096 from h2),if_pos h2]; rfl
    ·rw [decide_eq_false (show ¬ mc > 4096 from h2),if_neg h2]; rfl
  rw [hv0]
  have lp := loop9 (wE an aw) an mc an mc aw aw l hl l.length 0 (by omega) (fun r h => by cases h)
  have lp : iter M9.s0 ⟨wE an aw,v0 mc,0,an,aw,mc,l,an,aw,mc,0,0,[]⟩ = some (.inr ⟨true⟩) ∨ ((∀ r ∈ l,r.2.length ≤ 70) ∧ iter M9.s0 ⟨wE an aw,v0 mc,0,an,aw,mc,l,an,aw,mc,0,0,[]⟩ = some (.inl ⟨wE an aw,vE mc l,an,aw,mc,l,an,aw,mc,l⟩)) := lp
  rcases lp with lp | ⟨hw,lp⟩
  ·simp only [lp,sumC]
  ·obtain ⟨p3,q3,h29,z29⟩ := apply_any (mc := mc) (an := an) hl hw Ul ha Ua
   obtain ⟨p4,q4,E4,h22,o22,z22⟩ := solve_any (mc := mc) (an := an) hl hw Ul ha Ua
   obtain ⟨p5,q5,E5,h47,o47,z47⟩ := inv_any (mc := mc) hl hw Ul
   obtain ⟨p6,q6,h39,z39⟩ := mul_any (mc := mc) hl hw Ul
   have h46 := same46 mc l (by omega) (fun v hv => by have := hw v hv; omega)
   have zz : ∀ {E : Int} {q : List Int},(E ≠ 0 → q = []) → (bif E != 0 then decide ((q.length : Int) > 0) else false) = false := fun {E q} h => by
    by_cases h0 : E = 0
    ·rw [h0]; rfl
    ·rw [h h0,nz_of h0]; rfl
   have zm : ∀ {E : Int} {q : List (Int × List Int)},(E ≠ 0 → q = []) → (bif E != 0 then decide ((q.length : Int) > 0) else false) = false := fun {E q} h => by
    by_cases h0 : E = 0
    ·rw [h0]; rfl
    ·rw [h h0,nz_of h0]; rfl
   simp only [lp,sumC,h29,h22,h47,h39,valid_any mc hl hw,neq_self,cond_false,o22,o47,Bool.not_true,Bool.not_false,cond_true,h46,zz z29,zz z22,zm z47,zm z39]
   by_cases hv : vE mc l = 0
   ·simp only [hv,BEq.rfl,cond_true,lives19]
   ·have t1 : M40.m ⟨mc,l⟩ = some (0,[],vE mc l) := by
     unfold M40.m
     simp only [valid_any mc hl hw,bindO,nz_of hv,cond_true]
    have t2 : M26.m ⟨mc,l⟩ = some (0,vE mc l) := by
     unfold M26.m
     simp only [valid_any mc hl hw,bindO,nz_of hv,cond_true]
    have t3 : M25.m ⟨mc,l⟩ = some ([],vE mc l) := by
     unfold M25.m
     simp only [valid_any mc hl hw,bindO,nz_of hv,cond_true]
    have s0 : (IntKind.i64.wrap (IntKind.i64.wrap ((((([] : List (Int × List Int)).length : Nat) : Int)) + (((([] : List (Int × List Int)).length : Nat) : Int))) + 0) == 0) = true := rfl
    simp only [ez_of hv,cond_false,t1,t2,t3,BEq.rfl,cond_true,s0,lives19]
end Gf
end Go.Proofs.Ytddaobhpffpmoaa
