/-
  March runs: marches changed; the statement Reverse: its run answers true.
-/
import Derived.Test.YtcnlccpihknehaaDoorMR4QMm
import Derived.Test.YtcnlccpihknehaaDoorMR4QMUJ
set_option linter.all false
namespace Go.Proofs.YtcnlccpihknehaaDoor
open Go.Abs
namespace Mr
open Pl
def turn (o : Int) : Int := if o = 1 then 2 else if o = 2 then 1 else o
def rev (m : List El) : List El := m.map fun e => (turn e.1,e.2)
theorem m58 (o : Int) : M58.m ⟨o⟩ = some (turn o) := by
 unfold M58.m turn
 by_cases h : o = 1
 · simp [h]
 · by_cases h2 : o = 2
   · simp [h2]
   · simp only [beq_false_of_ne h,beq_false_of_ne h2,cond_false,h,h2,if_false]
theorem m81 (os : List Op) : M81.m ⟨0,os.length,os⟩ = some (0,os.length,os.length,os) := by
 unfold M81.m
 simp
theorem m53 (ms : List El) : M53.m ⟨0,ms.length,ms⟩ = some (0,ms.length,ms.length,ms) := by
 unfold M53.m
 simp
theorem rev_in {m ms : List El} {n i o : Int} {lo len : Nat} {l : List Op} (hl : l.length ≤ 16) : iter M55b.s1 ⟨m,n,i,lo,len,l,(l.length : Int),0,ms,o,0,0,[]⟩ = some ⟨m,n,i,lo,len,ms,o,0,l.length,l⟩ := by
 have key : iter M55b.s1 ⟨m,n,i,lo,len,l,(l.length : Int),((0 : Nat) : Int),ms,o,0,(l.take 0).length,l.take 0⟩ = some ⟨m,n,i,lo,len,ms,o,0,l.length,l⟩ := by
   refine iter_for (step := M55b.s1) (fun j => ⟨m,n,i,lo,len,l,(l.length : Int),(j : Int),ms,o,0,(l.take j).length,l.take j⟩) (n := l.length) (fun j hj => ?_) ?_
   · have e1 : ((j : Int) < (l.length : Int)) := by omega
     have e2 : eqN (l.take j).length (l.take j).length = true := by simp [eqN]
     have e3 : roomB ((l.take j).length + 1) 2 = true := by simp [roomB,leB]; omega
     have e4 : l.take (j + 1) = l.take j ++ [(l[j].1,l[j].2)] := List.take_succ_eq_append_getElem hj
     have e5 : (l.take (j + 1)).length = (l.take j).length + 1 := by rw [e4]; simp
     unfold M55b.s1 M59.m
     simp only [e1,inR_nat hj,getD_at hj,e2,e3,show eqN 0 0 = true from rfl,suc (show j < 9000000000000000000 by omega),decide_true,cond_true,Bool.and_self,bindO]
     rw [e5,e4]
   · unfold M55b.s1
     simp
 exact key
theorem m29 {m : List El} (hm : V m) : M29.m ⟨m⟩ = some (rev m,(rev m).length) := by
 have hz := hm.len
 have key : iter M55b.s0 ⟨m,(m.length : Int),((0 : Nat) : Int),0,(rev (m.take 0)).length,rev (m.take 0)⟩ = some ⟨0,(rev m).length,rev m⟩ := by
   refine iter_for (step := M55b.s0) (fun i => ⟨m,(m.length : Int),(i : Int),0,(rev (m.take i)).length,rev (m.take i)⟩) (n := m.length) (fun i hi => ?_) ?_
   · have e1 : ((i : Int) < (m.length : Int)) := by omega
     have e2 : eqN (rev (m.take i)).length (rev (m.take i)).length = true := by simp [eqN]
     have e3 : roomB ((rev (m.take i)).length + 1) 32 = true := by simp [roomB,leB,rev]; omega
     have e4 : rev (m.take (i + 1)) = rev (m.take i) ++ [(turn m[i].1,m[i].2)] := by unfold rev; rw [List.take_succ_eq_append_getElem hi,List.map_append]; rfl
     have e5 : (rev (m.take (i + 1))).length = (rev (m.take i)).length + 1 := by rw [e4]; simp
     have e6 : leB (0 + m[i].2.length) m[i].2.length = true := by simp [leB]
     unfold M55b.s0
     simp only [e1,inR_nat hi,getD_at hi,m58,rev_in (hm.le _ (List.getElem_mem hi)),m81,e2,e3,e6,show eqN 0 0 = true from rfl,suc (show i < 9000000000000000000 by omega),decide_true,cond_true,Bool.and_self,bindO,List.drop_zero,List.take_length]
     rw [e5,e4]
   · unfold M55b.s0
     simp
 have key : iter M55b.s0 ⟨m,(m.length : Int),0,0,0,[]⟩ = _ := key
 have e : leB (0 + (rev m).length) (rev m).length = true := by simp [leB]
 unfold M29.m M55b.m
 simp only [key,m53,e,bindO,Bool.and_self,cond_true,List.drop_zero,List.take_length]
theorem rev_ops (m : List El) : (rev m).flatMap (·.2) = m.flatMap (·.2) := by unfold rev; rw [List.flatMap_map]
theorem rev_V {m : List El} (hm : V m) : V (rev m) := by
 have f : ∀ e ∈ rev m,∃ e' ∈ m,e = (turn e'.1,e'.2) := fun e he => by
   obtain ⟨e',h,rfl⟩ := List.mem_map.1 he
   exact ⟨e',h,rfl⟩
 refine ⟨by simpa [rev] using hm.pos,by simpa [rev] using hm.len,fun e he => ?_,fun e he => ?_,fun e he => ?_,fun e he => ?_,by rw [rev_ops]; exact hm.st⟩
 · obtain ⟨e',h,rfl⟩ := f e he
   have := hm.ord e' h
   simp only [turn]
   repeat' split
   all_goals omega
 · obtain ⟨e',h,rfl⟩ := f e he; exact hm.ne e' h
 · obtain ⟨e',h,rfl⟩ := f e he; exact hm.le e' h
 · obtain ⟨e',h,rfl⟩ := f e he; exact hm.bit e' h
theorem rev_pw {m : List El} (hm : V m) (above down : Bool) : pw (!above) (!down) (rev m) = pw above down m := by
 unfold pw rev
 rw [List.flatMap_map]
 have : ∀ e ∈ m,vis (if desc (turn e.1) (!down) = !above then [0,1] else [1,0]) e.2 = vis (if desc e.1 down = above then [0,1] else [1,0]) e.2 := fun e he => by
   have h := hm.ord e he
   have h3 : e.1 = 0 ∨ e.1 = 1 ∨ e.1 = 2 := by omega
   rcases h3 with h3 | h3 | h3 <;> rw [h3] <;> cases above <;> cases down <;> rfl
 rw [List.flatMap_def,List.flatMap_def,List.map_congr_left this]
theorem rev_sw (m : List El) : sw (rev m) = sw m := by unfold sw rev; rw [List.flatMap_map]
theorem rev_D {m : List El} (hm : V m) (k : Int) (above : Bool) : D (rev m) k (if sing k = true then above else !above) = D m k above := by
 unfold D
 cases hs : sing k with
 | true => simp only [if_true,D1,rev_sw]
 | false =>
   have h := fun down => rev_pw hm above down
   have h0 := h false; have h1 := h true
   simp only [Bool.not_false,Bool.not_true] at h0 h1
   simp only [Bool.false_eq_true,if_false,D2,h0,h1]
   cases bad false k 0 1 (ini false k 0 1 [0,0]) (pw above true m) <;> cases bad false k 0 1 (ini false k 0 1 [0,0]) (pw above false m) <;>
   cases bad false k 0 1 (ini false k 0 1 [1,0]) (pw above true m) <;> cases bad false k 0 1 (ini false k 0 1 [1,0]) (pw above false m) <;>
   cases bad false k 0 1 (ini false k 0 1 [0,1]) (pw above true m) <;> cases bad false k 0 1 (ini false k 0 1 [0,1]) (pw above false m) <;>
   cases bad false k 0 1 (ini false k 0 1 [1,1]) (pw above true m) <;> cases bad false k 0 1 (ini false k 0 1 [1,1]) (pw above false m) <;> rfl
end Mr
end Go.Proofs.YtcnlccpihknehaaDoor
