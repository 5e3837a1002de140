/-
  March runs: the statement Table: its run answers true.
-/
import Derived.Test.YtcnlccpihknehaaDoorMR7QMPB
import Derived.Test.YtcnlccpihknehaaDoorMR7QMUI
set_option linter.all false
namespace Go.Proofs.YtcnlccpihknehaaDoor
open Go.Abs
namespace Mr
open Pl
def pos (t : Nat) : Nat := ((List.range t).map fun c : Nat => if sing c = true then 1 else 2).sum
theorem ent_len (m : List El) (c : Nat) : (ent m c).length = if sing c = true then 1 else 2 := by unfold ent; split <;> rfl
theorem tab_pos (m : List El) : ∀ t,(tab m t).length = pos t
 | 0 => rfl
 | t + 1 => by
   rw [tab_succ,List.length_append,tab_pos m t,ent_len]
   unfold pos
   rw [List.range_succ,List.map_append,List.sum_append,List.map_cons,List.map_nil,List.sum_cons,List.sum_nil,Nat.add_zero]
theorem pos_succ (t : Nat) : pos (t + 1) = pos t + if sing t = true then 1 else 2 := by
 unfold pos
 rw [List.range_succ,List.map_append,List.sum_append,List.map_cons,List.map_nil,List.sum_cons,List.sum_nil,Nat.add_zero]
theorem pos_19 : pos 19 = 32 := by decide
theorem tab_at {m : List El} {c i : Nat} (hc : c < 19) (hi : i < (ent m c).length) : (tab m 19)[pos c + i]? = (ent m c)[i]? := by
 have : ∀ d,c + 1 + d ≤ 19 → (tab m (c + 1 + d))[pos c + i]? = (ent m c)[i]? := by
   intro d
   induction d with
   | zero =>
     intro _
     rw [Nat.add_zero,tab_succ,← tab_pos m c,List.getElem?_append_right (by omega),Nat.add_sub_cancel_left]
   | succ d ih =>
     intro h
     rw [show c + 1 + (d + 1) = (c + 1 + d) + 1 by omega,tab_succ,List.getElem?_append_left ?_]
     · exact ih (by omega)
     · have e : (ent m c)[i]? = some (ent m c)[i] := List.getElem?_eq_getElem hi
       have e2 := (ih (by omega)).trans e
       exact (List.getElem?_eq_some_iff.1 e2).1
 have h := this (18 - c) (by omega)
 rwa [show c + 1 + (18 - c) = 19 by omega] at h
theorem D_sing {m : List El} {k : Int} (h : sing k = true) (a b : Bool) : D m k a = D m k b := by unfold D; simp only [h,if_true]
section
variable {m : List El} (hm : V m) {s start cl p' q' : Int} (hs : U8 s) {b : Bool} {dk : Int} {p q : Nat} (ok : OkD b dk p q (num s))
include hm hs ok
theorem ent_step {c : Nat} (hc : c < 19) {ab all : Bool} {i : Nat} (he : (ent m c)[i]? = some ((c : Int),ab,D m c ab)) (ha : ab = true → sing c = false) :
   M12.s1 ⟨m,tab m 19,if b = true then 0 else 1,((pos c + i : Nat) : Int),c,c,all,if ab = true then 1 else 0,s,start,cl,p',q',dk,p,q⟩ =
     some (.inl ⟨m,tab m 19,if b = true then 0 else 1,((pos c + (i + 1) : Nat) : Int),c,c,all && D m c ab,if ab = true then 2 else 1,s,start,cl,p',q',dk,p,q⟩) := by
 have hi : i < (ent m c).length := (List.getElem?_eq_some_iff.1 he).1
 have hT := (tab_at hc hi).trans he
 have hlt : pos c + i < (tab m 19).length := (List.getElem?_eq_some_iff.1 hT).1
 have hlt' : pos c + i < 32 := by rw [← pos_19,← tab_pos m 19]; exact hlt
 have e0 : (tab m 19)[((pos c + i : Nat) : Int).toNat]?.getD (0,false,false) = ((c : Int),ab,D m c ab) := by rw [Int.toNat_natCast,hT]; rfl
 have hS : IntKind.i64.wrap (((pos c + i : Nat) : Int) + 1) = ((pos c + (i + 1) : Nat) : Int) := suc (show pos c + i < 9000000000000000000 by omega)
 have hN : num s ≤ 9 := (num_pos s).2
 have hN2 : 2 ≤ num s := (num_pos s).1
 unfold M12.s1
 cases ab with
 | true =>
   have hs2 := ha rfl
   simp only [if_true,show decide ((1 : Int) < 2) = true from rfl,show ((1 : Int) == 1) = true from rfl,cond_true,single,hs2,bindO,inR_nat hlt,e0,bne_self_eq_false,Bool.not_false,Bool.not_true,Bool.or_true,Bool.true_or,cond_false,beq_self_eq_true,hS,show IntKind.i64.wrap ((1 : Int) + 1) = 2 from rfl]
   cases b with
   | true => simp [bindO] <;> cases all <;> rfl
   | false =>
     simp only [Bool.false_eq_true,if_false,show ((1 : Int) == 1) = true from rfl,cond_true]
     by_cases hk : dk = (c : Int)
     · have h1 := m39 ok hm (by omega)
       subst hk
       have hdec : (decide ((p : Int) > (q : Int))) = decide (q < p) := by by_cases h : q < p <;> simp [h] <;> omega
       simp only [beq_self_eq_true,cond_true,single,hs2,bindO,cond_false,num_run hs,h1,hdec,bne_self_eq_false,Bool.not_false,Bool.or_true,show ((0 : Int) != 0) = false from rfl]
       by_cases h : q < p
       · simp [h] <;> cases all <;> rfl
       · simp [h] <;> cases all <;> rfl
     · have e : (dk == (c : Int)) = false := beq_false_of_ne hk
       simp only [e,cond_false,bindO] <;> cases all <;> rfl
 | false =>
   simp only [Bool.false_eq_true,if_false,show decide ((0 : Int) < 2) = true from rfl,show ((0 : Int) == 1) = false from rfl,cond_true,bindO,inR_nat hlt,e0,bne_self_eq_false,Bool.not_false,Bool.not_true,Bool.or_true,Bool.true_or,cond_false,beq_self_eq_true,hS,show IntKind.i64.wrap ((0 : Int) + 1) = 1 from rfl]
   cases b with
   | true => simp [bindO] <;> cases all <;> rfl
   | false =>
     simp only [Bool.false_eq_true,if_false,show ((1 : Int) == 1) = true from rfl,cond_true]
     by_cases hk : dk = (c : Int)
     · have h1 := m39 ok hm (by omega)
       subst hk
       have hdec : (decide ((p : Int) > (q : Int))) = decide (q < p) := by by_cases h : q < p <;> simp [h] <;> omega
       simp only [beq_self_eq_true,cond_true,single,bindO,cond_false,num_run hs,h1,hdec,bne_self_eq_false,Bool.not_false,Bool.or_true,show ((0 : Int) != 0) = false from rfl]
       cases hs2 : sing (c : Int) with
       | true =>
         rw [D_sing hs2 (decide (q < p)) false]
         simp <;> cases all <;> rfl
       | false =>
         by_cases h : q < p
         · simp [h] <;> cases all <;> rfl
         · simp [h] <;> cases all <;> rfl
     · have e : (dk == (c : Int)) = false := beq_false_of_ne hk
       simp only [e,cond_false,bindO] <;> cases all <;> rfl
theorem ent_loop {c : Nat} (hc : c < 19) :
   iter M12.s1 ⟨m,tab m 19,if b = true then 0 else 1,(pos c : Int),c,c,true,0,s,start,cl,p',q',dk,p,q⟩ =
     some (.inl ⟨m,tab m 19,if b = true then 0 else 1,(pos (c + 1) : Int),c,c,cov m c,s,start,cl,p',q',dk,p,q⟩) := by
 have E := fun ab all i he ha => ent_step (start := start) (cl := cl) (p' := p') (q' := q') hm hs ok hc (ab := ab) (all := all) (i := i) he ha
 have e0 : (ent m c)[0]? = some ((c : Int),false,D m c false) := by unfold ent; split <;> rfl
 have E0 := E false true 0 e0 (fun h => by cases h)
 simp only [Bool.false_eq_true,if_false,Nat.add_zero,Bool.true_and] at E0
 have X : ∀ (a : Nat) (all : Bool),M12.s1 ⟨m,tab m 19,if b = true then 0 else 1,(a : Int),c,c,all,2,s,start,cl,p',q',dk,p,q⟩ =
     some (.inr (.inl ⟨m,tab m 19,if b = true then 0 else 1,(a : Int),c,c,all,s,start,cl,p',q',dk,p,q⟩)) := fun a all => by
   unfold M12.s1
   rfl
 rw [iter_eq,E0]
 simp only []
 cases h : sing (c : Int) with
 | true =>
   have E1 : M12.s1 ⟨m,tab m 19,if b = true then 0 else 1,((pos c + (0 + 1) : Nat) : Int),c,c,D m c false,1,s,start,cl,p',q',dk,p,q⟩ =
       some (.inl ⟨m,tab m 19,if b = true then 0 else 1,((pos c + (0 + 1) : Nat) : Int),c,c,D m c false,2,s,start,cl,p',q',dk,p,q⟩) := by
     unfold M12.s1
     simp only [show decide ((1 : Int) < 2) = true from rfl,show ((1 : Int) == 1) = true from rfl,cond_true,single,h,bindO,show IntKind.i64.wrap ((1 : Int) + 1) = 2 from rfl]
   rw [iter_eq,E1]
   simp only []
   rw [iter_eq,X]
   have e2 : pos (c + 1) = pos c + (0 + 1) := by rw [pos_succ,if_pos h]
   rw [e2,show cov m c = D m c false from by unfold cov; rw [if_pos h]]
 | false =>
   have e1 : (ent m c)[1]? = some ((c : Int),true,D m c true) := by unfold ent; rw [if_neg (by rw [h]; decide)]; rfl
   have E1 := E true (D m c false) 1 e1 (fun _ => h)
   simp only [if_true] at E1
   have E1 : M12.s1 ⟨m,tab m 19,if b = true then 0 else 1,((pos c + (0 + 1) : Nat) : Int),c,c,D m c false,1,s,start,cl,p',q',dk,p,q⟩ = _ := E1
   rw [iter_eq,E1]
   simp only []
   rw [iter_eq,X]
   have e2 : pos (c + 1) = pos c + (1 + 1) := by rw [pos_succ,if_neg (by rw [h]; decide)]
   rw [e2,show cov m c = (D m c false && D m c true) from by unfold cov; rw [h]; rfl]
end
theorem run12 {orders : List Int} {ops : List (List Int)} (hr : RawOk orders ops) {s start c p' q' : Int} (h : U8 s) (hc : U8 c) (hp : U8 p') (hq : U8 q') : M12.m ⟨orders,ops,s,start,c,p',q'⟩ = some true := by
 obtain ⟨m,hg,hm,_,_⟩ := good hr.1 hr.2
 obtain ⟨b,k,p,q,hd,ok⟩ := defect_run (start := start) h hc hp hq
 have key : iter M12.s0 ⟨m,tab m 19,if b = true then 0 else 1,(pos 0 : Int),((0 : Nat) : Int),s,start,c,p',q',k,p,q⟩ = some (.inl ⟨m⟩) := by
   refine iter_for (step := M12.s0) (fun t => ⟨m,tab m 19,if b = true then 0 else 1,(pos t : Int),(t : Int),s,start,c,p',q',k,p,q⟩) (n := 19) (fun t ht => ?_) ?_
   · have e1 : ((t : Int) < 19) := by omega
     have e2 : IntKind.u8.wrap (t : Int) = (t : Int) := w8 (by omega) (by omega)
     unfold M12.s0
     simp only [e1,e2,decide_true,cond_true,ent_loop hm h ok ht,m37 hm ht,bindO,sumC,show ((0 : Int) != 0) = false from rfl,cond_false,beq_self_eq_true,Bool.not_true,suc (show t < 9000000000000000000 by omega)]
   · unfold M12.s0
     rfl
 have key : iter M12.s0 ⟨m,tab m 19,if b = true then 0 else 1,0,0,s,start,c,p',q',k,p,q⟩ = some (.inl ⟨m⟩) := key
 have hL : (tab m 19).length = 32 := (tab_pos m 19).trans pos_19
 unfold M12.m
 simp only [hg,m40 hm,hd,hL,bindO,show ((0 : Int) != 0) = false from rfl,cond_false,show ((((32 : Nat) : Int)) != 32) = false from rfl,key,sumC,m37_bad hm (show (19 : Int) ≤ 19 by decide),show ((1 : Int) == 1) = true from rfl,cond_true,lives]
end Mr
end Go.Proofs.YtcnlccpihknehaaDoor
