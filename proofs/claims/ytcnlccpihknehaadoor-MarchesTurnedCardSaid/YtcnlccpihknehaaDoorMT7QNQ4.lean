/-
  Marches: the statement Turned: its run answers true.
-/
import Derived.Test.YtcnlccpihknehaaDoorMT7QMy
import Derived.Test.YtcnlccpihknehaaDoorMT7QMVB
set_option linter.all false
namespace Go.Proofs.YtcnlccpihknehaaDoor
open Go.Abs
namespace Mr
open Pl
def flip (v : Int) : Int := if v ≤ 1 then 1 - v else v
def fl (o : Op) : Op := (o.1,flip o.2)
def turnG (o : Int) : Int := if o = 1 then 2 else if o = 2 then 1 else o
def invG (m : List El) : List El := m.map fun e => (e.1,e.2.map fl)
def revG (m : List El) : List El := m.map fun e => (turnG e.1,e.2)
structure S2 (m : List El) : Prop where
 len : m.length ≤ 40
 le : ∀ e ∈ m,e.2.length ≤ 20
theorem S2.sz {m : List El} (h : S2 m) : Sz m := ⟨by have := h.len; omega,fun e he => by have := h.le e he; omega⟩
theorem m57g {v : Int} (h : 0 ≤ v) : M57.m ⟨v⟩ = some (flip v) := by
 unfold M57.m flip
 by_cases h1 : v ≤ 1
 · simp only [h1,decide_true,cond_true,if_true,w8 (x := 1 - v) (by omega) (by omega)]
 · simp only [h1,decide_false,cond_false,if_false]
theorem m58g (o : Int) : M58.m ⟨o⟩ = some (turnG o) := by
 unfold M58.m turnG
 by_cases h : o = 1
 · simp [h]
 · by_cases h2 : o = 2
   · simp [h2]
   · simp only [beq_false_of_ne h,beq_false_of_ne h2,cond_false,h,h2,if_false]
theorem m81g (os : List Op) : M81.m ⟨0,os.length,os⟩ = some (0,os.length,os.length,os) := by
 unfold M81.m
 simp
theorem m53g (ms : List El) : M53.m ⟨0,ms.length,ms⟩ = some (0,ms.length,ms.length,ms) := by
 unfold M53.m
 simp
theorem inv_ing {m ms : List El} {n i o : Int} {lo len : Nat} {l : List Op} (hl : l.length ≤ 20) (hb : ∀ o ∈ l,0 ≤ o.2) : iter M55a.s1 ⟨m,n,i,lo,len,l,(l.length : Int),0,ms,o,0,0,[]⟩ = some ⟨m,n,i,lo,len,ms,o,0,l.length,l.map fl⟩ := by
 have key : iter M55a.s1 ⟨m,n,i,lo,len,l,(l.length : Int),((0 : Nat) : Int),ms,o,0,((l.take 0).map fl).length,(l.take 0).map fl⟩ = some ⟨m,n,i,lo,len,ms,o,0,l.length,l.map fl⟩ := by
   refine iter_for (step := M55a.s1) (fun j => ⟨m,n,i,lo,len,l,(l.length : Int),(j : Int),ms,o,0,((l.take j).map fl).length,(l.take j).map fl⟩) (n := l.length) (fun j hj => ?_) ?_
   · have e1 : ((j : Int) < (l.length : Int)) := by omega
     have e2 : eqN ((l.take j).map fl).length ((l.take j).map fl).length = true := by simp [eqN]
     have e3 : roomB (((l.take j).map fl).length + 1) 2 = true := by simp [roomB,leB]; omega
     have e4 : (l.take (j + 1)).map fl = (l.take j).map fl ++ [(l[j].1,flip l[j].2)] := by rw [List.take_succ_eq_append_getElem hj,List.map_append]; rfl
     have e5 : ((l.take (j + 1)).map fl).length = ((l.take j).map fl).length + 1 := by rw [e4]; simp
     unfold M55a.s1
     simp only [e1,inR_nat hj,getD_at hj,m57g (hb _ (List.getElem_mem hj)),e2,e3,show eqN 0 0 = true from rfl,suc (show j < 9000000000000000000 by omega),decide_true,cond_true,Bool.and_self,bindO]
     rw [e5,e4]
   · unfold M55a.s1
     simp
 exact key
theorem m28g {m : List El} (hm : S2 m) (hp : Pos m) : M28.m ⟨m⟩ = some (invG m,(invG m).length) := by
 have hz := hm.len
 have key : iter M55a.s0 ⟨m,(m.length : Int),((0 : Nat) : Int),0,(invG (m.take 0)).length,invG (m.take 0)⟩ = some ⟨0,(invG m).length,invG m⟩ := by
   refine iter_for (step := M55a.s0) (fun i => ⟨m,(m.length : Int),(i : Int),0,(invG (m.take i)).length,invG (m.take i)⟩) (n := m.length) (fun i hi => ?_) ?_
   · have e1 : ((i : Int) < (m.length : Int)) := by omega
     have e2 : eqN (invG (m.take i)).length (invG (m.take i)).length = true := by simp [eqN]
     have e3 : roomB ((invG (m.take i)).length + 1) 32 = true := by simp [roomB,leB,invG]; omega
     have e4 : invG (m.take (i + 1)) = invG (m.take i) ++ [(m[i].1,m[i].2.map fl)] := by unfold invG; rw [List.take_succ_eq_append_getElem hi,List.map_append]; rfl
     have e5 : (invG (m.take (i + 1))).length = (invG (m.take i)).length + 1 := by rw [e4]; simp
     have e6 : leB (0 + m[i].2.length) m[i].2.length = true := by simp [leB]
     have e7 := m81g (m[i].2.map fl)
     rw [List.length_map] at e7
     have e8 : (m[i].2.map fl).take m[i].2.length = m[i].2.map fl := List.take_of_length_le (by simp)
     unfold M55a.s0 M56.m
     simp only [e1,inR_nat hi,getD_at hi,inv_ing (hm.le _ (List.getElem_mem hi)) (hp _ (List.getElem_mem hi)).2,e7,e2,e3,e6,e8,List.length_map,show eqN 0 0 = true from rfl,suc (show i < 9000000000000000000 by omega),decide_true,cond_true,Bool.and_self,bindO,List.drop_zero]
     rw [e5,e4]
   · unfold M55a.s0
     simp
 have key : iter M55a.s0 ⟨m,(m.length : Int),0,0,0,[]⟩ = _ := key
 have e : leB (0 + (invG m).length) (invG m).length = true := by simp [leB]
 unfold M28.m M55a.m
 simp only [key,m53g,e,bindO,Bool.and_self,cond_true,List.drop_zero,List.take_length]
theorem rev_ing {m ms : List El} {n i o : Int} {lo len : Nat} {l : List Op} (hl : l.length ≤ 20) : iter M55b.s1 ⟨m,n,i,lo,len,l,(l.length : Int),0,ms,o,0,0,[]⟩ = some ⟨m,n,i,lo,len,ms,o,0,l.length,l⟩ := by
 have key : iter M55b.s1 ⟨m,n,i,lo,len,l,(l.length : Int),((0 : Nat) : Int),ms,o,0,(l.take 0).length,l.take 0⟩ = some ⟨m,n,i,lo,len,ms,o,0,l.length,l⟩ := by
   refine iter_for (step := M55b.s1) (fun j => ⟨m,n,i,lo,len,l,(l.length : Int),(j : Int),ms,o,0,(l.take j).length,l.take j⟩) (n := l.length) (fun j hj => ?_) ?_
   · have e1 : ((j : Int) < (l.length : Int)) := by omega
     have e2 : eqN (l.take j).length (l.take j).length = true := by simp [eqN]
     have e3 : roomB ((l.take j).length + 1) 2 = true := by simp [roomB,leB]; omega
     have e4 : l.take (j + 1) = l.take j ++ [(l[j].1,l[j].2)] := List.take_succ_eq_append_getElem hj
     have e5 : (l.take (j + 1)).length = (l.take j).length + 1 := by rw [e4]; simp
     unfold M55b.s1 M59.m
     simp only [e1,inR_nat hj,getD_at hj,e2,e3,show eqN 0 0 = true from rfl,suc (show j < 9000000000000000000 by omega),decide_true,cond_true,Bool.and_self,bindO]
     rw [e5,e4]
   · unfold M55b.s1
     simp
 exact key
theorem m29g {m : List El} (hm : S2 m) : M29.m ⟨m⟩ = some (revG m,(revG m).length) := by
 have hz := hm.len
 have key : iter M55b.s0 ⟨m,(m.length : Int),((0 : Nat) : Int),0,(revG (m.take 0)).length,revG (m.take 0)⟩ = some ⟨0,(revG m).length,revG m⟩ := by
   refine iter_for (step := M55b.s0) (fun i => ⟨m,(m.length : Int),(i : Int),0,(revG (m.take i)).length,revG (m.take i)⟩) (n := m.length) (fun i hi => ?_) ?_
   · have e1 : ((i : Int) < (m.length : Int)) := by omega
     have e2 : eqN (revG (m.take i)).length (revG (m.take i)).length = true := by simp [eqN]
     have e3 : roomB ((revG (m.take i)).length + 1) 32 = true := by simp [roomB,leB,revG]; omega
     have e4 : revG (m.take (i + 1)) = revG (m.take i) ++ [(turnG m[i].1,m[i].2)] := by unfold revG; rw [List.take_succ_eq_append_getElem hi,List.map_append]; rfl
     have e5 : (revG (m.take (i + 1))).length = (revG (m.take i)).length + 1 := by rw [e4]; simp
     have e6 : leB (0 + m[i].2.length) m[i].2.length = true := by simp [leB]
     unfold M55b.s0
     simp only [e1,inR_nat hi,getD_at hi,m58g,rev_ing (hm.le _ (List.getElem_mem hi)),m81g,e2,e3,e6,show eqN 0 0 = true from rfl,suc (show i < 9000000000000000000 by omega),decide_true,cond_true,Bool.and_self,bindO,List.drop_zero,List.take_length]
     rw [e5,e4]
   · unfold M55b.s0
     simp
 have key : iter M55b.s0 ⟨m,(m.length : Int),0,0,0,[]⟩ = _ := key
 have e : leB (0 + (revG m).length) (revG m).length = true := by simp [leB]
 unfold M29.m M55b.m
 simp only [key,m53g,e,bindO,Bool.and_self,cond_true,List.drop_zero,List.take_length]
theorem m23g {m : List El} (hm : S2 m) : M23.m ⟨m⟩ = some (lenM m : Int) := by
 have hz := hm.len
 have hle : ∀ i,lenM (m.take i) ≤ 800 := fun i => by
   have : ∀ l : List El,(∀ e ∈ l,e.2.length ≤ 20) → lenM l ≤ l.length * 20 := by
     intro l
     induction l with
     | nil => intro _; simp [lenM]
     | cons e l ih =>
       intro h
       have h1 := h e (by simp)
       have h2 := ih (fun x hx => h x (List.mem_cons_of_mem _ hx))
       unfold lenM at h2 ⊢
       simp only [List.map_cons,List.sum_cons,List.length_cons]
       omega
   have h := this (m.take i) (fun e he => hm.le e (List.mem_of_mem_take he))
   have : (m.take i).length ≤ 40 := by rw [List.length_take]; omega
   omega
 have key : iter M23.s0 ⟨m,(m.length : Int),((0 : Nat) : Int),(lenM (m.take 0) : Int)⟩ = some ⟨(lenM m : Int)⟩ := by
   refine iter_for (step := M23.s0) (fun i => ⟨m,(m.length : Int),(i : Int),(lenM (m.take i) : Int)⟩) (n := m.length) (fun i hi => ?_) ?_
   · have e1 : ((i : Int) < (m.length : Int)) := by omega
     have e2 : IntKind.i64.wrap ((lenM (m.take i) : Int) + (m[i].2.length : Int)) = (lenM (m.take (i + 1)) : Int) := by
       have h1 := hle i
       have h2 := hm.le _ (List.getElem_mem hi)
       rw [lenM_succ hi,w64 (by omega) (by omega)]
       omega
     unfold M23.s0
     simp only [e1,inR_nat hi,getD_at hi,e2,suc (show i < 9000000000000000000 by omega),decide_true,cond_true]
   · unfold M23.s0
     simp
 have key : iter M23.s0 ⟨m,(m.length : Int),0,0⟩ = some ⟨(lenM m : Int)⟩ := key
 unfold M23.m
 simp only [key,bindO]
theorem flip_pos {v : Int} (h : 0 ≤ v) : 0 ≤ flip v := by unfold flip; split <;> omega
theorem flip_flip {v : Int} (h : 0 ≤ v) : flip (flip v) = v := by
 unfold flip
 repeat' split
 all_goals omega
theorem fl_fl {l : List Op} (h : ∀ o ∈ l,0 ≤ o.2) : (l.map fl).map fl = l := by
 rw [List.map_map]
 conv => rhs; rw [← List.map_id l]
 refine List.map_congr_left fun o ho => ?_
 show (o.1,flip (flip o.2)) = o
 rw [flip_flip (h o ho)]
theorem turn_turn (o : Int) : turnG (turnG o) = o := by
 unfold turnG
 repeat' split
 all_goals omega
theorem inv_inv {m : List El} (hp : Pos m) : invG (invG m) = m := by
 unfold invG
 rw [List.map_map]
 conv => rhs; rw [← List.map_id m]
 refine List.map_congr_left fun e he => ?_
 show (e.1,(e.2.map fl).map fl) = e
 rw [fl_fl (hp e he).2]
theorem rev_rev (m : List El) : revG (revG m) = m := by
 unfold revG
 rw [List.map_map]
 conv => rhs; rw [← List.map_id m]
 refine List.map_congr_left fun e _ => ?_
 show (turnG (turnG e.1),e.2) = e
 rw [turn_turn]
theorem inv_rev (m : List El) : invG (revG m) = revG (invG m) := by
 unfold invG revG
 rw [List.map_map,List.map_map]
 rfl
theorem inv_S2 {m : List El} (h : S2 m) : S2 (invG m) := ⟨by simpa [invG] using h.len,fun e he => by
 obtain ⟨e',h',rfl⟩ := List.mem_map.1 he
 simpa using h.le e' h'⟩
theorem rev_S2 {m : List El} (h : S2 m) : S2 (revG m) := ⟨by simpa [revG] using h.len,fun e he => by
 obtain ⟨e',h',rfl⟩ := List.mem_map.1 he
 exact h.le e' h'⟩
theorem inv_pos {m : List El} (h : Pos m) : Pos (invG m) := fun e he => by
 obtain ⟨e',h',rfl⟩ := List.mem_map.1 he
 refine ⟨(h e' h').1,fun o ho => ?_⟩
 obtain ⟨o',h2,rfl⟩ := List.mem_map.1 ho
 exact flip_pos ((h e' h').2 o' h2)
theorem rev_pos {m : List El} (h : Pos m) : Pos (revG m) := fun e he => by
 obtain ⟨e',h',rfl⟩ := List.mem_map.1 he
 refine ⟨?_,(h e' h').2⟩
 have := (h e' h').1
 show 0 ≤ turnG e'.1
 unfold turnG
 repeat' split
 all_goals omega
theorem inv_len (m : List El) : lenM (invG m) = lenM m := by
 unfold lenM invG
 rw [List.map_map]
 congr 1
 exact List.map_congr_left fun e _ => by simp
theorem rev_len (m : List El) : lenM (revG m) = lenM m := by
 unfold lenM revG
 rw [List.map_map]
 rfl
theorem any_map' {α β : Type} (f : α → β) (P : β → Bool) (Q : α → Bool) {l : List α} (h : ∀ x ∈ l,P (f x) = Q x) : (l.map f).any P = l.any Q := by
 induction l with
 | nil => rfl
 | cons x l ih =>
   rw [List.map_cons,List.any_cons,List.any_cons,h x (by simp),ih (fun y hy => h y (List.mem_cons_of_mem _ hy))]
theorem inv_form {m : List El} (hp : Pos m) : formR (invG m) = formR m := by
 have h1 : (invG m).any big = m.any big := any_map' _ _ _ fun e _ => by unfold big; simp
 have h2 : (invG m).any badE = m.any badE := any_map' _ _ _ fun e he => by
   unfold badE
   rw [any_map' fl (fun o => decide (o.2 > 1)) (fun o => decide (o.2 > 1)) (fun o ho => by
     have h := (hp e he).2 o ho
     show decide (flip o.2 > 1) = _
     unfold flip
     by_cases h1 : o.2 ≤ 1
     · have a : ¬ (1 - o.2 > 1) := by omega
       have b : ¬ (o.2 > 1) := by omega
       simp only [h1,if_true,a,b]
     · simp only [h1,if_false])]
   simp
 have h3 : (invG m).length = m.length := by simp [invG]
 unfold formR
 rw [h1,h2,h3]
theorem rev_form (m : List El) : formR (revG m) = formR m := by
 have h1 : (revG m).any big = m.any big := any_map' _ _ _ fun e _ => rfl
 have h2 : (revG m).any badE = m.any badE := any_map' _ _ _ fun e _ => by
   have : decide (turnG e.1 > 2) = decide (e.1 > 2) := by
     unfold turnG
     by_cases h1 : e.1 = 1
     · simp [h1]
     · by_cases h2 : e.1 = 2
       · simp [h2]
       · simp [h1,h2]
   unfold badE
   rw [this]
 have h3 : (revG m).length = m.length := by simp [revG]
 unfold formR
 rw [h1,h2,h3]
theorem chk_fl : ∀ (l : List Op) (c : Int),(∀ o ∈ l,Bit o.2) → Bit c → chk (1 - c) (l.map fl) = (chk c l).map fun d => 1 - d
 | [],c,_,_ => rfl
 | o :: l,c,h,hc => by
   have hb := h o (by simp)
   have e : flip o.2 = 1 - o.2 := by unfold flip; rw [if_pos (by unfold Bit at hb; omega)]
   have e2 : (1 - o.2 ≠ 1 - c) ↔ (o.2 ≠ c) := by omega
   simp only [List.map_cons,chk,fl,e,e2]
   split
   · rfl
   · exact chk_fl l o.2 (fun x hx => h x (List.mem_cons_of_mem _ hx)) hb
theorem chk_fl2 {l : List Op} (h : ∀ o ∈ l,Bit o.2) : (chk 2 (l.map fl)).isSome = (chk 2 l).isSome := by
 cases l with
 | nil => rfl
 | cons o l =>
   have hb := h o (by simp)
   have e : flip o.2 = 1 - o.2 := by unfold flip; rw [if_pos (by unfold Bit at hb; omega)]
   have e2 : (1 - o.2 ≠ 2) ↔ (o.2 ≠ 2) := by unfold Bit at hb; omega
   simp only [List.map_cons,chk,fl,e,e2]
   split
   · rfl
   · rw [chk_fl l o.2 (fun x hx => h x (List.mem_cons_of_mem _ hx)) hb,Option.isSome_map]
theorem inv_chk {m : List El} (hp : Pos m) : chkR (invG m) = chkR m := by
 unfold chkR
 rw [inv_form hp]
 by_cases h : formR m = 0
 · have hf := form_ok hp h
   have e : ops (invG m) = (ops m).map fl := by unfold ops invG; rw [List.flatMap_map,List.map_flatMap]
   have hb : ∀ o ∈ ops m,Bit o.2 := fun o ho => by
     obtain ⟨e,he,ho⟩ := List.mem_flatMap.1 ho
     exact hf.bit e he o ho
   rw [e,chk_fl2 hb]
 · rw [if_pos h,if_pos h]
theorem rev_chk (m : List El) : chkR (revG m) = chkR m := by
 have e : ops (revG m) = ops m := by unfold ops revG; rw [List.flatMap_map]
 unfold chkR
 rw [rev_form,e]
section
variable {m : List El} (hm : S2 m) (hp : Pos m)
include hm hp
theorem m7_1 {i : Nat} (hi : i < m.length) : iter M7.s1 ⟨m,invG m,revG m,(i : Int),0⟩ = some (.inl ⟨m,invG m,revG m,(i : Int)⟩) := by
 have ha : i < (invG m).length := by simpa [invG] using hi
 have hb : i < (revG m).length := by simpa [revG] using hi
 have ea : (invG m)[i] = (m[i].1,m[i].2.map fl) := by simp [invG]
 have eb : (revG m)[i] = (turnG m[i].1,m[i].2) := by simp [revG]
 have hl := hm.le _ (List.getElem_mem hi)
 have key : iter M7.s1 ⟨m,invG m,revG m,(i : Int),((0 : Nat) : Int)⟩ = some (.inl ⟨m,invG m,revG m,(i : Int)⟩) := by
   refine iter_for (step := M7.s1) (fun k => ⟨m,invG m,revG m,(i : Int),(k : Int)⟩) (n := m[i].2.length) (fun k hk => ?_) ?_
   · have e1 : ((k : Int) < (m[i].2.length : Int)) := by omega
     have h0 := (hp _ (List.getElem_mem hi)).2 _ (List.getElem_mem hk)
     have hk' : k < (m[i].2.map fl).length := by simpa using hk
     have ef : (m[i].2.map fl)[k] = (m[i].2[k].1,flip m[i].2[k].2) := by simp [fl]
     unfold M7.s1
     simp only [inR_nat hi,getD_at hi,inR_nat ha,getD_at ha,inR_nat hb,getD_at hb,ea,eb,e1,inR_nat hk,getD_at hk,inR_nat hk',getD_at hk',ef,suc (show k < 9000000000000000000 by omega),decide_true,cond_true,Bool.true_or,beq_self_eq_true,Bool.and_self,Bool.not_true]
     unfold flip
     by_cases h1 : m[i].2[k].2 ≤ 1
     · have h2 : ¬ (m[i].2[k].2 > 1) := by omega
       have h3 : (1 - m[i].2[k].2 == m[i].2[k].2) = false := by simp only [beq_eq_false_iff_ne,ne_eq]; omega
       simp only [h1,h2,h3,decide_true,decide_false,cond_true,cond_false,if_true]
     · have h2 : m[i].2[k].2 > 1 := by omega
       simp only [h1,h2,decide_true,decide_false,cond_true,cond_false,if_false,bne_self_eq_false]
   · unfold M7.s1
     simp only [inR_nat hi,getD_at hi,Int.lt_irrefl,decide_false,cond_true,cond_false]
 exact key
theorem m7_0 : iter M7.s0 ⟨m,invG m,revG m,0⟩ = some (.inl ()) := by
 have hz := hm.len
 have key : iter M7.s0 ⟨m,invG m,revG m,((0 : Nat) : Int)⟩ = some (.inl ()) := by
   refine iter_for (step := M7.s0) (fun i => ⟨m,invG m,revG m,(i : Int)⟩) (n := m.length) (fun i hi => ?_) ?_
   · have ha : i < (invG m).length := by simpa [invG] using hi
     have hb : i < (revG m).length := by simpa [revG] using hi
     have ea : (invG m)[i] = (m[i].1,m[i].2.map fl) := by simp [invG]
     have eb : (revG m)[i] = (turnG m[i].1,m[i].2) := by simp [revG]
     have e1 : ((i : Int) < (m.length : Int)) := by omega
     unfold M7.s0
     simp only [e1,inR_nat hi,getD_at hi,inR_nat ha,getD_at ha,inR_nat hb,getD_at hb,ea,eb,List.length_map,m7_1 hm hp hi,suc (show i < 9000000000000000000 by omega),decide_true,cond_true,cond_false,Bool.true_or,bne_self_eq_false,bindO,sumC]
     unfold turnG
     by_cases h1 : m[i].1 = 1
     · simp [h1]
     · by_cases h2 : m[i].1 = 2
       · simp [h2]
       · have h3 : (m[i].1 == 1) = false := by simpa using h1
         have h4 : (m[i].1 == 2) = false := by simpa using h2
         simp only [h1,h2,h3,h4,if_false,cond_false,bne_self_eq_false,beq_self_eq_true,Bool.not_true]
   · unfold M7.s0
     simp
 exact key
end
section
variable {orders : List Int} {ops : List (List Int)}
theorem run7 (hr : RawB orders ops) : M7.m ⟨orders,ops⟩ = some true := by
 unfold M7.m
 simp only [m16g,bindO]
 cases hg : grt orders ops with
 | true => simp only [if_true,beq_self_eq_true,cond_true,lives17]
 | false =>
   have hs := of_sz hg
   have hS : S2 (ofR orders ops orders.length) := ⟨hs.1,hs.2⟩
   have hP := of_pos hr orders.length
   simp only [Bool.false_eq_true,if_false,show ((0 : Int) == 1) = false from rfl,cond_false,m18g hr hg]
   generalize ofR orders ops orders.length = m at hS hP
   have hI := inv_S2 hS; have hV := rev_S2 hS
   have hIp := inv_pos hP; have hVp := rev_pos hP
   simp only [m28g hS hP,m29g hS,m28g hI hIp,inv_inv hP,m26g hS.sz,m29g hV,rev_rev,m28g hV hVp,m29g hI,inv_rev,m26g (rev_S2 hI).sz,decide_true,Bool.not_true,cond_true,cond_false,Bool.not_false,
     m19g hI.sz,m19g hS.sz,m19g hV.sz,inv_chk hP,rev_chk,bne_self_eq_false,m23g hI,m23g hS,m23g hV,inv_len,rev_len,m7_0 hS hP,sumC,lives17]
end
end Mr
end Go.Proofs.YtcnlccpihknehaaDoor
