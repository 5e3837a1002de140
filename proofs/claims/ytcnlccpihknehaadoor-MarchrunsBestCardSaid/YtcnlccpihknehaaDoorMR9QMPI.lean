/-
  March runs: the statement Best: its run answers true.
-/
import Derived.Test.YtcnlccpihknehaaDoorMR9QMPB
import Derived.Test.YtcnlccpihknehaaDoorMR9QMUL
set_option linter.all false
namespace Go.Proofs.YtcnlccpihknehaaDoor
open Go.Abs
namespace Mr
open Pl
theorem m64a_bad {want : List Int} (hw : want.length ≤ 1000) (h : ∃ w ∈ want,w ≥ 19) : M64a.m ⟨want⟩ = some true := by
 have key := iter_find (step := M90a.s0) (fun i => ⟨want,(want.length : Int),(i : Int)⟩) (fun i => decide (want[i]?.getD 0 ≥ 19)) (fun i => .inr ⟨(i : Int)⟩) (n := want.length) (y := .inl ()) (fun i hi => by
   have e1 : ((i : Int) < (want.length : Int)) := by omega
   unfold M90a.s0 M65.m
   simp only [e1,inR_nat hi,suc (show i < 9000000000000000000 by omega),decide_true,cond_true,bindO,Int.toNat_natCast]
   cases decide (want[i]?.getD 0 ≥ 19) <;> rfl) (by
   unfold M90a.s0
   simp)
 unfold M64a.m M90a.m
 rcases key with ⟨i,hi,h1,h2⟩ | ⟨h1,h2⟩
 · have h2 : iter M90a.s0 ⟨want,(want.length : Int),0⟩ = _ := h2
   simp only [h2,bindO,sumC]
   simp
 · obtain ⟨w,hw,h3⟩ := h
   obtain ⟨i,hi,rfl⟩ := List.mem_iff_getElem.1 hw
   have := h1 i hi
   simp [hi] at this
   omega
def Mo (m : List El) : Prop := V m ∨ m = badm
theorem build9 {l : List (List Int × List (List Int))} {which : Int} {want : List Int} (hl : ∀ r ∈ l,RawOk r.1 r.2) (hz : l.length ≤ 4) :
   ∃ A : List (List El),A.length = l.length ∧ (∀ m ∈ A,Mo m) ∧ iter M9.s0 ⟨l,which,want,0,0,0,[]⟩ = some ⟨want,0,A.length,A⟩ := by
 obtain ⟨y,hy,A,rfl,h1,h2⟩ := iter_inv (step := M9.s0) (fun x => ∃ (A : List (List El)) (i : Nat),x = ⟨l,which,want,0,A.length,(i : Int),A⟩ ∧ A.length = i ∧ i ≤ l.length ∧ ∀ m ∈ A,Mo m) (fun x => l.length - x.i.toNat)
   (fun y => ∃ A : List (List El),y = ⟨want,0,A.length,A⟩ ∧ A.length = l.length ∧ ∀ m ∈ A,Mo m) (fun x hx => by
     obtain ⟨A,i,rfl,hA,hi,hM⟩ := hx
     unfold M9.s0
     by_cases h : i < l.length
     · have e1 : ((i : Int) < (l.length : Int)) := by omega
       obtain ⟨m,hg,hm,_,_⟩ := good (hl _ (List.getElem_mem h)).1 (hl _ (List.getElem_mem h)).2
       have e2 : eqN A.length A.length = true := by simp [eqN]
       have e3 : roomB (A.length + 1) 24 = true := by simp [roomB,leB]; omega
       simp only [e1,inR_nat h,getD_at h,hg,e2,e3,show eqN 0 0 = true from rfl,Bool.and_self,decide_true,cond_true,bindO,suc (show i < 9000000000000000000 by omega)]
       cases (i : Int) == IntKind.i64.wrap (which.tmod 8) with
       | true =>
         simp only [cond_true]
         refine ⟨_,rfl,⟨A ++ [badm],i + 1,?_,by simp [hA],by omega,?_⟩,?_⟩
         · simp only [List.length_append,List.length_cons,List.length_nil,Nat.zero_add]; rfl
         · intro m' h'
           rcases List.mem_append.1 h' with h' | h'
           · exact hM m' h'
           · rw [List.mem_singleton] at h'; exact .inr h'
         · simp only [Int.toNat_natCast]; omega
       | false =>
         simp only [cond_false]
         refine ⟨_,rfl,⟨A ++ [m],i + 1,?_,by simp [hA],by omega,?_⟩,?_⟩
         · simp only [List.length_append,List.length_cons,List.length_nil,Nat.zero_add]
         · intro m' h'
           rcases List.mem_append.1 h' with h' | h'
           · exact hM m' h'
           · rw [List.mem_singleton] at h'; subst h'; exact .inl hm
         · simp only [Int.toNat_natCast]; omega
     · have e1 : ¬ ((i : Int) < (l.length : Int)) := by omega
       simp only [e1,decide_false,cond_false]
       exact ⟨_,rfl,A,rfl,by omega,hM⟩) ⟨l,which,want,0,0,0,[]⟩ ⟨[],0,rfl,rfl,by omega,fun m h => by cases h⟩
 exact ⟨A,h1,h2,hy⟩
theorem want9 {want : List Int} (hw : ∀ w ∈ want,0 ≤ w ∧ w ≤ 255) (hz : want.length ≤ 5) {A : List (List El)} {n : Nat} :
   iter M9.s1 ⟨want,0,n,0,0,false,0,A,[]⟩ = some ⟨0,n,0,(want.map (· % 20)).length,want.any (· % 20 == 19),A,want.map (· % 20)⟩ := by
 have key : iter M9.s1 ⟨want,0,n,0,((want.take 0).map (· % 20)).length,(want.take 0).any (· % 20 == 19),((0 : Nat) : Int),A,(want.take 0).map (· % 20)⟩ = some ⟨0,n,0,(want.map (· % 20)).length,want.any (· % 20 == 19),A,want.map (· % 20)⟩ := by
   refine iter_for (step := M9.s1) (fun i => ⟨want,0,n,0,((want.take i).map (· % 20)).length,(want.take i).any (· % 20 == 19),(i : Int),A,(want.take i).map (· % 20)⟩) (n := want.length) (fun i hi => ?_) ?_
   · have e1 : ((i : Int) < (want.length : Int)) := by omega
     have e2 : eqN ((want.take i).map (· % 20)).length ((want.take i).map (· % 20)).length = true := by simp [eqN]
     have e3 : roomB (((want.take i).map (· % 20)).length + 1) 1 = true := by simp [roomB,leB]; omega
     have e4 : (want[i]).tmod 20 = want[i] % 20 := Int.tmod_eq_emod_of_nonneg (hw _ (List.getElem_mem hi)).1
     have e5 : (want.take (i + 1)).map (· % 20) = (want.take i).map (· % 20) ++ [want[i] % 20] := by rw [List.take_succ_eq_append_getElem hi,List.map_append]; rfl
     have e6 : (want.take (i + 1)).any (· % 20 == 19) = ((want.take i).any (· % 20 == 19) || want[i] % 20 == 19) := by rw [List.take_succ_eq_append_getElem hi,List.any_append]; simp
     have e7 : ((want.take (i + 1)).map (· % 20)).length = ((want.take i).map (· % 20)).length + 1 := by rw [e5]; simp
     unfold M9.s1
     simp only [e1,inR_nat hi,getD_at hi,e2,e3,e4,show eqN 0 0 = true from rfl,Bool.and_self,Bool.true_or,decide_true,cond_true,suc (show i < 9000000000000000000 by omega)]
     rw [e7,e5,e6]
     cases (want.take i).any (· % 20 == 19) <;> rfl
   · unfold M9.s1
     simp
 exact key
section
variable {A : List (List El)} {want : List Nat} (hA : ∀ m ∈ A,Mo m) (hw : ∀ c ∈ want,c < 19) (hz : want.length ≤ 5)
abbrev wi (want : List Nat) : List Int := want.map fun (c : Nat) => (c : Int)
include hA hw hz
theorem good9 {i : Nat} (hi : i < A.length) {best e found : Int} :
   iter M9.s3 ⟨0,A.length,0,want.length,best,e,found,i,A[i] != badm,0,A,wi want⟩ = some ⟨0,A.length,0,want.length,best,e,found,i,okc want A[i],A,wi want⟩ := by
 have hwl : (wi want).length = want.length := by simp [wi]
 have : ∀ j k,k + j = want.length → iter M9.s3 ⟨0,A.length,0,want.length,best,e,found,i,okc (want.take k) A[i],(k : Int),A,wi want⟩ = some ⟨0,A.length,0,want.length,best,e,found,i,okc want A[i],A,wi want⟩ := by
   intro j
   induction j with
   | zero =>
     intro k hk
     have : k = want.length := by omega
     subst this
     rw [iter_eq,List.take_length]
     unfold M9.s3
     simp
   | succ j ih =>
     intro k hk
     have hkl : k < want.length := by omega
     have e1 : ((k : Int) < (want.length : Int)) := by omega
     have e0 : okc (want.take (k + 1)) A[i] = (okc (want.take k) A[i] && cov A[i] want[k]) := by
       unfold okc
       rw [List.take_succ_eq_append_getElem hkl,List.all_append]
       simp [Bool.and_assoc]
     cases hG : okc (want.take k) A[i] with
     | false =>
       have e2 : okc want A[i] = false := by
         have : ∀ l : List Nat,okc (want.take k ++ l) A[i] = false := fun l => by
           unfold okc at hG ⊢
           rw [List.all_append]
           cases h1 : (A[i] != badm) with
           | false => rfl
           | true => rw [h1] at hG; simp only [Bool.true_and] at hG ⊢; rw [hG]; rfl
         have h := this (want.drop k)
         rwa [List.take_append_drop] at h
       rw [iter_eq,e2]
       unfold M9.s3
       simp only [e1,decide_true,cond_true,cond_false]
     | true =>
       have hV : V A[i] := by
         rcases hA _ (List.getElem_mem hi) with h | h
         · exact h
         · unfold okc at hG; rw [h] at hG; simp at hG
       have e3 : (wi want)[0 + (k : Int).toNat]?.getD 0 = ((want[k] : Nat) : Int) := by simp [wi,hkl]
       have e4 : A[0 + (i : Int).toNat]?.getD [] = A[i] := by simp [hi]
       have e5 : 0 + (i : Int).toNat < A.length := by simpa using hi
       have e6 : 0 + (k : Int).toNat < (wi want).length := by simpa [wi] using hkl
       have e7 := m37 hV (hw _ (List.getElem_mem hkl))
       rw [iter_eq]
       unfold M9.s3
       simp only [e1,inR_nat hi,inR_nat hkl,e3,e4,e5,e6,e7,decide_true,cond_true,bindO,suc (show k < 9000000000000000000 by omega)]
       have e8 : (bif cov A[i] ((want[k] : Nat) : Int) then (0 : Int) == 0 else false) = okc (want.take (k + 1)) A[i] := by
         rw [e0,hG]
         cases cov A[i] ((want[k] : Nat) : Int) <;> rfl
       rw [e8]
       exact ih (k + 1) (by omega)
 have h := this want.length 0 (by omega)
 have e : okc (want.take 0) A[i] = (A[i] != badm) := by unfold okc; simp
 rw [e] at h
 exact h
theorem found9 (hA4 : A.length ≤ 4) {best e : Int} : iter M9.s2 ⟨0,A.length,0,want.length,best,e,-1,0,A,wi want⟩ = some ⟨best,e,bs A want A.length⟩ := by
 have key : iter M9.s2 ⟨0,A.length,0,want.length,best,e,bs A want 0,((0 : Nat) : Int),A,wi want⟩ = some ⟨best,e,bs A want A.length⟩ := by
   refine iter_for (step := M9.s2) (fun i => ⟨0,A.length,0,want.length,best,e,bs A want i,(i : Int),A,wi want⟩) (n := A.length) (fun i hi => ?_) ?_
   · have e1 : ((i : Int) < (A.length : Int)) := by omega
     have hm := hA _ (List.getElem_mem hi)
     have hb := bs_lt A want i
     have e4 : A[0 + (i : Int).toNat]?.getD [] = A[i] := by simp [hi]
     have e5 : 0 + (i : Int).toNat < A.length := by simpa using hi
     have e6 : ∃ z,M19.m ⟨A[i]⟩ = some z ∧ (z == 0) = (A[i] != badm) := by
       rcases hm with h | h
       · refine ⟨0,m19 h,?_⟩
         have : A[i] ≠ badm := fun e => badm_V (e ▸ h)
         simp [this]
       · exact ⟨11,by rw [h]; exact badm_19,by rw [h]; simp⟩
     obtain ⟨z,e7,e8⟩ := e6
     have hg := good9 hA hw hz hi (best := best) (e := e) (found := bs A want i)
     have hlen := len_ok hm
     show _ = some (Sum.inl (⟨0,A.length,0,want.length,best,e,bs A want (i + 1),((i + 1 : Nat) : Int),A,wi want⟩ : M9.p2X))
     have ei : A[i]?.getD [] = A[i] := by simp [hi]
     rw [bs,ei]
     generalize bs A want i = f at hb hg
     unfold M9.s2
     simp only [e1,inR_nat hi,e4,e5,e7,e8,hg,decide_true,cond_true,bindO,Bool.true_or,suc (show i < 9000000000000000000 by omega)]
     cases hG : okc want A[i] with
     | false =>
       simp only [Bool.false_and,Bool.not_false,Bool.or_true,cond_true,cond_false,bindO,Bool.false_eq_true,if_false,ite_self]
     | true =>
       by_cases hf : f < 0
       · have d2 : ¬ (0 ≤ f) := by omega
         simp only [hf,d2,decide_true,Bool.not_true,Bool.and_false,Bool.not_false,Bool.or_true,cond_true,cond_false,bindO,false_and,if_false,if_true]
       · obtain ⟨F,rfl⟩ := Int.eq_ofNat_of_zero_le (show 0 ≤ f by omega)
         have hF : F < A.length := by omega
         have hlenF := len_ok (hA _ (List.getElem_mem hF))
         have d1 : 0 + (F : Int).toNat < A.length := by simpa using hF
         have d3 : A[0 + (F : Int).toNat]?.getD [] = A[F] := by simp [hF]
         have d4 : A[((F : Nat) : Int).toNat]?.getD [] = A[F] := by simp [hF]
         have d2 : (0 ≤ ((F : Nat) : Int)) := by omega
         simp only [hf,d2,d1,d3,d4,hlen,hlenF,inR_nat hF,decide_true,decide_false,Bool.not_false,Bool.and_self,Bool.true_or,cond_true,cond_false,bindO,true_and,if_true]
         by_cases hc : lenM A[F] ≤ lenM A[i]
         · have d5 : ¬ ((lenM A[i] : Int) < (lenM A[F] : Int)) := by omega
           simp only [hc,d5,decide_false,cond_false,if_true]
         · have d5 : ((lenM A[i] : Int) < (lenM A[F] : Int)) := by omega
           simp only [hc,d5,decide_true,cond_true,if_false]
   · unfold M9.s2
     simp
 exact key
end
theorem run9 {l : List (List Int × List (List Int))} {which : Int} {want : List Int} (hl : ∀ r ∈ l,RawOk r.1 r.2) (hw : ∀ w ∈ want,0 ≤ w ∧ w ≤ 255) : M9.m ⟨l,which,want⟩ = some true := by
 unfold M9.m
 by_cases h4 : ((l.length : Int) > 4)
 · simp only [h4,decide_true,cond_true,lives,bindO]
 · by_cases h5 : ((want.length : Int) > 5)
   · simp only [h4,h5,decide_true,decide_false,cond_true,cond_false,lives,bindO]
   · obtain ⟨A,hA1,hA2,hA3⟩ := build9 (which := which) (want := want) hl (by omega)
     have hW := want9 hw (by omega) (A := A) (n := A.length)
     have hl1 : leB (0 + A.length) A.length = true := by simp [leB]
     have hl2 : leB (0 + (want.map (· % 20)).length) (want.map (· % 20)).length = true := by simp [leB]
     simp only [h4,h5,decide_false,cond_false,hA3,hW,bindO,hl1,hl2,Bool.and_self,cond_true,List.drop_zero,List.take_length]
     cases hB : want.any (· % 20 == 19) with
     | true =>
       have h1 : M64a.m ⟨want.map (· % 20)⟩ = some true := m64a_bad (by simp; omega) (by
         obtain ⟨w,h1,h2⟩ := List.any_eq_true.1 hB
         refine ⟨w % 20,List.mem_map.2 ⟨w,h1,rfl⟩,?_⟩
         have := beq_iff_eq.1 h2
         omega)
       have h2 : M36.m ⟨A,want.map (· % 20)⟩ = some (0,1) := by
         unfold M36.m
         simp only [h1,bindO,cond_true]
       simp only [h2,cond_true,bindO,lives]
       rfl
     | false =>
       have hB' := List.any_eq_false.1 hB
       have e : want.map (· % 20) = wi (want.map fun w => (w % 20).toNat) := by
         unfold wi
         rw [List.map_map]
         refine List.map_congr_left fun w h => ?_
         simp only [Function.comp_apply]
         omega
       have hw2 : ∀ c ∈ want.map (fun w => (w % 20).toNat),c < 19 := fun c hc => by
         obtain ⟨w,h1,rfl⟩ := List.mem_map.1 hc
         have h2 := hB' w h1
         have h2 : ¬ (w % 20 = 19) := by simpa using h2
         omega
       have h1 := m36 (l := A) hA2 (by omega) (want := want.map fun w => (w % 20).toNat) (by simp; omega) hw2
       have h2 := found9 hA2 hw2 (by simp; omega) (by omega) (best := bs A (want.map fun w => (w % 20).toNat) A.length) (e := 0)
       have el : (want.map (· % 20)).length = (want.map fun w => (w % 20).toNat).length := by simp
       rw [el,e]
       simp only [h1,cond_false,bindO,h2,beq_self_eq_true,cond_true,lives]
end Mr
end Go.Proofs.YtcnlccpihknehaaDoor
