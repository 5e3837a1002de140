/-
  March runs: the statement Reverse: its run answers true.
-/
import Derived.Test.YtcnlccpihknehaaDoorMR4QMPD
import Derived.Test.YtcnlccpihknehaaDoorMR4QMPB
set_option linter.all false
namespace Go.Proofs.YtcnlccpihknehaaDoor
open Go.Abs
namespace Mr
open Pl
theorem run14 {orders : List Int} {ops : List (List Int)} (hr : RawOk orders ops) {s start c p' q' : Int} (h : U8 s) (hc : U8 c) (hp : U8 p') (hq : U8 q') : M14.m ⟨orders,ops,s,start,c,p',q'⟩ = some true := by
 obtain ⟨m,hg,hm,_,_⟩ := good hr.1 hr.2
 obtain ⟨b,k,p,q,hd,ok⟩ := defect_run (start := start) h hc hp hq
 have hn := num_pos s
 unfold M14.m
 cases b with
 | true =>
   simp only [if_true] at hd
   simp only [hg,hd,lives,bindO,show ((0 : Int) == 0) = true from rfl,cond_true]
 | false =>
   simp only [Bool.false_eq_true,if_false] at hd
   have hpl := ok.pl; have hql := ok.ql
   have h1 := m39 ok hm (by omega)
   have hD := rev_D hm k (decide (q < p))
   have w1 : IntKind.i64.wrap ((num s : Int) - 1) = (num s : Int) - 1 := w64 (by omega) (by omega)
   have w2 : IntKind.i64.wrap ((num s : Int) - 1 - (p : Int)) = ((num s - 1 - p : Nat) : Int) := by rw [w64 (by omega) (by omega)]; omega
   have w3 : IntKind.i64.wrap ((num s : Int) - 1 - (q : Int)) = ((num s - 1 - q : Nat) : Int) := by rw [w64 (by omega) (by omega)]; omega
   simp only [hg,hd,num_run h,single,h1,m29 hm,w1,w2,w3,bindO,show ((1 : Int) == 0) = false from rfl,cond_false]
   cases hs : sing k with
   | true =>
     have hq0 := ok.sg hs
     subst hq0
     have ok2 : OkD false k (num s - 1 - p) 0 (num s) := ⟨⟨ok.lo,ok.hi,by omega,by omega,fun _ e => (by rw [hs] at e; cases e),ok.size⟩,fun _ => rfl,fun e => (by cases e)⟩
     have h2 := m39 ok2 (rev_V hm) (by omega)
     have e2 : D (rev m) k (decide (0 < num s - 1 - p)) = D m k (decide (0 < p)) := by
       rw [← hD]
       unfold D
       simp only [hs,if_true]
     simp only [Bool.not_true,cond_false,h2,e2,lives,beq_self_eq_true,cond_true]
   | false =>
     have hne := ok.ne rfl hs
     have ok2 : OkD false k (num s - 1 - p) (num s - 1 - q) (num s) := ⟨⟨ok.lo,ok.hi,by omega,by omega,fun _ _ => by omega,ok.size⟩,fun e => (by rw [hs] at e; cases e),fun e => (by cases e)⟩
     have h2 := m39 ok2 (rev_V hm) (by omega)
     have e2 : D (rev m) k (decide (num s - 1 - q < num s - 1 - p)) = D m k (decide (q < p)) := by
       rw [← hD,hs]
       simp only [Bool.false_eq_true,if_false]
       congr 1
       by_cases g : q < p
       · have : ¬ (num s - 1 - q < num s - 1 - p) ↔ ¬ (p < q) := by omega
         by_cases g2 : num s - 1 - q < num s - 1 - p
         · omega
         · simp [g,g2]
       · have g2 : num s - 1 - q < num s - 1 - p := by omega
         simp [g,g2]
     simp only [Bool.not_false,cond_true,h2,e2,lives,beq_self_eq_true]
end Mr
end Go.Proofs.YtcnlccpihknehaaDoor
