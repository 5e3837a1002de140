/-
  Marches: the statement Check: its run answers true.
-/
import Derived.Test.YtcnlccpihknehaaDoorMT5QMy
import Derived.Test.YtcnlccpihknehaaDoorMT5QMV9
set_option linter.all false
namespace Go.Proofs.YtcnlccpihknehaaDoor
open Go.Abs
namespace Mr
open Pl
def chk3 : Bool × Int → List Op → Option (Bool × Int)
 | a,[] => some a
 | a,o :: l => if o.1 = false ∧ (a.1 = false ∨ o.2 ≠ a.2) then none else chk3 (true,o.2) l
def kc (a : Bool × Int) : Int := if a.1 = true then a.2 else 2
theorem chk3_chk : ∀ (l : List Op) (a : Bool × Int),(∀ o ∈ l,Bit o.2) → (chk3 a l).map kc = chk (kc a) l
 | [],a,_ => rfl
 | o :: l,a,h => by
   have hb := h o (by simp)
   have ih := chk3_chk l (true,o.2) (fun x hx => h x (List.mem_cons_of_mem _ hx))
   have e : (a.1 = false ∨ o.2 ≠ a.2) ↔ o.2 ≠ kc a := by
     unfold kc
     cases h1 : a.1 with
     | true => simp
     | false => simp only [true_or,Bool.false_eq_true,if_false,true_iff]; unfold Bit at hb; omega
   unfold chk3 chk
   simp only [e]
   split
   · rfl
   · exact ih
theorem chk3_app : ∀ (l l' : List Op) (a : Bool × Int),chk3 a (l ++ l') = (chk3 a l).bind fun b => chk3 b l'
 | [],l',a => rfl
 | o :: l,l',a => by
   simp only [List.cons_append,chk3]
   split
   · rfl
   · exact chk3_app l l' _
theorem m24_4 {m : List El} {a : Bool × Int} {i : Nat} (hi : i < m.length) (hl : m[i].2.length ≤ 1000) :
   iter M24.s4 ⟨m,a.1,a.2,(i : Int),0⟩ = some (match chk3 a m[i].2 with | some b => .inl ⟨m,b.1,b.2,(i : Int)⟩ | none => .inr ⟨11⟩) := by
 have key := iter_scan (step := M24.s4) (fun k (a : Bool × Int) => ⟨m,a.1,a.2,(i : Int),(k : Int)⟩) m[i].2 (fun a o => if o.1 = false ∧ (a.1 = false ∨ o.2 ≠ a.2) then .inr (.inr ⟨11⟩) else .inl (true,o.2)) (fun a => .inl ⟨m,a.1,a.2,(i : Int)⟩) (fun _ _ => True) (fun k hk a _ => by
   have e1 : ((k : Int) < (m[i].2.length : Int)) := by omega
   unfold M24.s4
   simp only [inR_nat hi,getD_at hi,e1,inR_nat hk,getD_at hk,suc (show k < 9000000000000000000 by omega),decide_true,cond_true]
   by_cases h : m[i].2[k].1 = false ∧ (a.1 = false ∨ m[i].2[k].2 ≠ a.2)
   · have : (bif !m[i].2[k].1 then bif !a.1 then true else m[i].2[k].2 != a.2 else false) = true := by
       rcases h with ⟨h1,h2 | h2⟩
       · simp [h1,h2]
       · cases h3 : a.1 <;> simp [h1,h2]
     rw [if_pos h]
     simp only [this,cond_true]
   · have : (bif !m[i].2[k].1 then bif !a.1 then true else m[i].2[k].2 != a.2 else false) = false := by
       cases h1 : m[i].2[k].1 with
       | true => rfl
       | false =>
         have h2 : a.1 = true ∧ m[i].2[k].2 = a.2 := by
           refine ⟨?_,Decidable.byContradiction fun h3 => h ⟨h1,.inr h3⟩⟩
           cases h3 : a.1 with
           | true => rfl
           | false => exact absurd ⟨h1,.inl h3⟩ h
         simp [h2.1,h2.2]
     rw [if_neg h]
     simp only [this,cond_false]) (fun _ _ _ _ _ _ => trivial) (fun a _ => by unfold M24.s4; simp [inR_nat hi,hi]) a trivial
 have key : iter M24.s4 ⟨m,a.1,a.2,(i : Int),0⟩ = _ := key
 rw [key]
 have : ∀ (l : List Op) (a : Bool × Int),scan (fun (a : Bool × Int) (o : Op) => if o.1 = false ∧ (a.1 = false ∨ o.2 ≠ a.2) then (.inr (.inr ⟨11⟩) : (Bool × Int) ⊕ (M24.q4X ⊕ M24.z4X)) else .inl (true,o.2)) (fun a => .inl ⟨m,a.1,a.2,(i : Int)⟩) a l = (match chk3 a l with | some b => .inl ⟨m,b.1,b.2,(i : Int)⟩ | none => .inr ⟨11⟩) := by
   intro l
   induction l with
   | nil => intro a; rfl
   | cons o l ih =>
     intro a
     unfold scan chk3
     by_cases h : o.1 = false ∧ (a.1 = false ∨ o.2 ≠ a.2)
     · simp only [if_pos h]
     · simp only [if_neg h]; exact ih (true,o.2)
 rw [this]
theorem m24_3 {m : List El} (hm : Sz m) : iter M24.s3 ⟨m,false,0,0⟩ = some (if (chk3 (false,0) (ops m)).isSome = true then .inl () else .inr ⟨11⟩) := by
 have hz := hm.len
 have key := iter_scan (step := M24.s3) (fun i (a : Bool × Int) => ⟨m,a.1,a.2,(i : Int)⟩) m (fun a e => match chk3 a e.2 with | some b => .inl b | none => .inr (.inr ⟨11⟩)) (fun _ => .inl ()) (fun _ _ => True) (fun i hi a _ => by
   have e1 : ((i : Int) < (m.length : Int)) := by omega
   unfold M24.s3
   simp only [e1,m24_4 hi (hm.le _ (List.getElem_mem hi)),decide_true,cond_true,bindO]
   cases chk3 a m[i].2 with
   | none => rfl
   | some b => simp only [sumC,suc (show i < 9000000000000000000 by omega)]) (fun _ _ _ _ _ _ => trivial) (fun a _ => by unfold M24.s3; simp) (false,0) trivial
 have key : iter M24.s3 ⟨m,false,0,0⟩ = _ := key
 rw [key]
 have : ∀ (m : List El) (a : Bool × Int),scan (fun (a : Bool × Int) (e : El) => match chk3 a e.2 with | some b => (.inl b : (Bool × Int) ⊕ (M24.q3X ⊕ M24.z3X)) | none => .inr (.inr ⟨11⟩)) (fun _ => .inl ()) a m = if (chk3 a (ops m)).isSome = true then .inl () else .inr ⟨11⟩ := by
   intro m
   induction m with
   | nil => intro a; rfl
   | cons e m ih =>
     intro a
     unfold scan ops
     rw [List.flatMap_cons,chk3_app]
     cases h : chk3 a e.2 with
     | none => rfl
     | some d => exact ih d
 rw [this]
theorem m24_2 {m : List El} {i : Nat} (hi : i < m.length) (hl : m[i].2.length ≤ 1000) (hp : ∀ o ∈ m[i].2,0 ≤ o.2) :
   iter M24.s2 ⟨m,(i : Int),0⟩ = some (if (m[i].2.any fun o => decide (o.2 > 1)) = true then .inr ⟨1⟩ else .inl ⟨m,(i : Int)⟩) := by
 have key := iter_any (step := M24.s2) (fun k => ⟨m,(i : Int),(k : Int)⟩) m[i].2 (fun o => decide (o.2 > 1)) (fun _ => .inr ⟨1⟩) (y := .inl ⟨m,(i : Int)⟩) (fun k hk => by
   have e1 : ((k : Int) < (m[i].2.length : Int)) := by omega
   have h0 := hp _ (List.getElem_mem hk)
   have e2 : (bif m[i].2[k].2 != 0 then m[i].2[k].2 != 1 else false) = decide (m[i].2[k].2 > 1) := by
     by_cases h1 : m[i].2[k].2 = 0
     · simp [h1]
     · by_cases h2 : m[i].2[k].2 = 1
       · simp [h2]
       · have h3 : m[i].2[k].2 > 1 := by omega
         simp [h1,h2,h3]
   unfold M24.s2
   simp only [inR_nat hi,getD_at hi,e1,inR_nat hk,getD_at hk,e2,suc (show k < 9000000000000000000 by omega),decide_true,cond_true,Bool.true_or]
   cases decide (m[i].2[k].2 > 1) <;> rfl) (by unfold M24.s2; simp [inR_nat hi,hi])
 rcases key with ⟨h1,k,h2⟩ | ⟨h1,h2⟩
 · have h2 : iter M24.s2 ⟨m,(i : Int),0⟩ = _ := h2
   rw [h2,h1,if_pos rfl]
 · have h2 : iter M24.s2 ⟨m,(i : Int),0⟩ = _ := h2
   rw [h2,h1,if_neg (by decide)]
theorem m24g {m : List El} (hm : Sz m) (hp : Pos m) : M24.m ⟨m⟩ = some (chkR m) := by
 have hz := hm.len
 have k0 := iter_any (step := M24.s0) (fun i => ⟨m,(i : Int)⟩) m big (fun _ => .inr ⟨3⟩) (y := .inl ⟨m⟩) (fun i hi => by
   have e1 : ((i : Int) < (m.length : Int)) := by omega
   have e2 : decide ((m[i].2.length : Int) > 16) = big m[i] := by unfold big; by_cases h : 16 < m[i].2.length <;> simp [h] <;> omega
   unfold M24.s0
   simp only [e1,inR_nat hi,getD_at hi,e2,suc (show i < 9000000000000000000 by omega),decide_true,cond_true]
   cases big m[i] <;> rfl) (by unfold M24.s0; simp)
 have k1 := iter_any (step := M24.s1) (fun i => ⟨m,(i : Int)⟩) m badE (fun _ => .inr ⟨1⟩) (y := .inl ⟨m⟩) (fun i hi => by
   have e1 : ((i : Int) < (m.length : Int)) := by omega
   have h2 := m24_2 hi (hm.le _ (List.getElem_mem hi)) (hp _ (List.getElem_mem hi)).2
   unfold M24.s1 badE
   simp only [e1,inR_nat hi,getD_at hi,h2,decide_true,cond_true,Bool.true_or,bindO]
   by_cases h3 : m[i].2.length = 0
   · simp [h3]
   · have e3 : ((m[i].2.length : Int) == 0) = false := by simp only [beq_eq_false_iff_ne,ne_eq]; omega
     by_cases h4 : m[i].1 > 2
     · simp only [e3,h4,cond_false,decide_true,cond_true,Bool.true_or,Bool.or_true,if_true]
     · simp only [e3,h3,h4,cond_false,decide_false,Bool.false_or]
       cases (m[i].2.any fun o => decide (o.2 > 1)) with
       | true => rfl
       | false => simp only [Bool.false_eq_true,if_false,sumC,suc (show i < 9000000000000000000 by omega)]) (by unfold M24.s1; simp)
 unfold M24.m chkR formR
 by_cases h1 : 32 < m.length
 · have e : ((m.length : Int) > 32) := by omega
   simp only [e,h1,decide_true,cond_true,true_or,if_true,ne_eq,show ¬ ((3 : Int) = 0) by decide,not_false_eq_true]
 · have e : ¬ ((m.length : Int) > 32) := by omega
   simp only [e,h1,decide_false,cond_false,false_or]
   rcases k0 with ⟨h2,i,h3⟩ | ⟨h2,h3⟩
   · have h3 : iter M24.s0 ⟨m,0⟩ = _ := h3
     simp [h2,h3,bindO,sumC]
   · have h3 : iter M24.s0 ⟨m,0⟩ = _ := h3
     simp only [h2,h3,bindO,sumC,Bool.false_eq_true,if_false]
     by_cases h4 : m.length = 0
     · simp [h4]
     · have e2 : ((m.length : Int) == 0) = false := by simp only [beq_eq_false_iff_ne,ne_eq]; omega
       simp only [e2,h4,cond_false,false_or]
       rcases k1 with ⟨h5,i,h6⟩ | ⟨h5,h6⟩
       · have h6 : iter M24.s1 ⟨m,0⟩ = _ := h6
         simp [h5,h6,sumC]
       · have h6 : iter M24.s1 ⟨m,0⟩ = _ := h6
         have hb : ∀ o ∈ ops m,Bit o.2 := fun o ho => by
           obtain ⟨e,he,ho⟩ := List.mem_flatMap.1 ho
           have h7 := List.any_eq_false.1 h5 e he
           unfold badE at h7
           simp only [Bool.or_eq_true,decide_eq_true_eq,List.any_eq_true,not_or,not_exists,not_and] at h7
           have a := (hp e he).2 o ho
           have b := h7.2 o ho
           unfold Bit
           omega
         have hc := chk3_chk (ops m) (false,0) hb
         have hc' : (chk3 (false,0) (ops m)).isSome = (chk 2 (ops m)).isSome := by
           have hc : (chk3 (false,0) (ops m)).map kc = chk 2 (ops m) := hc
           rw [← hc,Option.isSome_map]
         simp only [h5,h6,sumC,m24_3 hm,hc',Bool.false_eq_true,if_false]
         cases (chk 2 (ops m)).isSome <;> rfl
theorem textR_nil (m : List El) : (textR m == []) = (bif chkR m == 3 then true else chkR m == 1) := by
 by_cases h : formR m = 0
 · have h2 : textR m ≠ [] := by
     unfold textR
     rw [if_neg (fun e => e h)]
     unfold formR at h
     cases m with
     | nil => simp at h
     | cons e m =>
       rw [List.map_cons,Lib.join_cons]
       unfold elT
       simp
   have h3 : chkR m = 0 ∨ chkR m = 11 := by
     unfold chkR
     rw [if_neg (fun e => e h)]
     split
     · exact .inl rfl
     · exact .inr rfl
   have h4 : (textR m == []) = false := by simpa using h2
   rw [h4]
   rcases h3 with h3 | h3 <;> rw [h3] <;> rfl
 · have h2 : textR m = [] := by unfold textR; rw [if_pos h]
   have h3 : chkR m = formR m := by unfold chkR; rw [if_pos h]
   rw [h2,h3]
   unfold formR at h ⊢
   split
   · rfl
   · split
     · rfl
     · rename_i h5 h6; rw [if_neg h5,if_neg h6] at h; exact absurd rfl h
section
variable {orders : List Int} {ops : List (List Int)}
theorem run5 (hr : RawB orders ops) : M5.m ⟨orders,ops⟩ = some true := by
 unfold M5.m
 simp only [m16g,bindO]
 cases hg : grt orders ops with
 | true => simp only [if_true,beq_self_eq_true,cond_true,lives17]
 | false =>
   have hS := of_Sz hg
   have hP := of_pos hr orders.length
   simp only [Bool.false_eq_true,if_false,show ((0 : Int) == 1) = false from rfl,cond_false,m18g hr hg]
   generalize ofR orders ops orders.length = m at hS hP
   simp only [m24g hS hP,m19g hS,m25g hS hP,m26g hS,textR_nil,beq_self_eq_true,cond_true,decide_true,lives17]
end
end Mr
end Go.Proofs.YtcnlccpihknehaaDoor
