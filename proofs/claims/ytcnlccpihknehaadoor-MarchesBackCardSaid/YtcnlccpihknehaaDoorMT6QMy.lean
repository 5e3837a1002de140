/-
  What the proof stands on.
-/
import Derived.Test.YtcnlccpihknehaaDoorMT6QMm
import Derived.Test.YtcnlccpihknehaaDoorMT6QMx
import Derived.Test.YtcnlccpihknehaaDoorMT6QMV7
set_option linter.all false
namespace Go.Proofs.YtcnlccpihknehaaDoor
open Go.Abs
namespace Mr
open Pl
def scan {A α Y : Type} (F : A → α → A ⊕ Y) (E : A → Y) : A → List α → Y
 | a,[] => E a
 | a,x :: l => match F a x with | .inl a' => scan F E a' l | .inr y => y
theorem iter_scan {X Y A α : Type} {step : X → Option (X ⊕ Y)} (S : Nat → A → X) (l : List α) (F : A → α → A ⊕ Y) (E : A → Y) (I : Nat → A → Prop)
   (h : ∀ i (hi : i < l.length) a,I i a → step (S i a) = some (match F a l[i] with | .inl a' => .inl (S (i + 1) a') | .inr y => .inr y))
   (hI : ∀ i (hi : i < l.length) a a',I i a → F a l[i] = .inl a' → I (i + 1) a')
   (he : ∀ a,I l.length a → step (S l.length a) = some (.inr (E a))) (a : A) (ha : I 0 a) : iter step (S 0 a) = some (scan F E a l) := by
 have : ∀ j i a,i + j = l.length → I i a → iter step (S i a) = some (scan F E a (l.drop i)) := by
   intro j
   induction j with
   | zero =>
     intro i a hi ha
     have e : i = l.length := by omega
     subst e
     rw [iter_eq,he a ha,List.drop_length]
     rfl
   | succ j ih =>
     intro i a hi ha
     have hil : i < l.length := by omega
     rw [iter_eq,h i hil a ha,List.drop_eq_getElem_cons hil]
     unfold scan
     cases hF : F a l[i] with
     | inl a' => exact ih (i + 1) a' (by omega) (hI i hil a a' ha hF)
     | inr y => rfl
 have h := this l.length 0 a (by omega) ha
 rwa [List.drop_zero] at h
theorem iter_any {X Y α : Type} {step : X → Option (X ⊕ Y)} (S : Nat → X) (l : List α) (P : α → Bool) (Z : Nat → Y) {y : Y}
   (h : ∀ i (hi : i < l.length),step (S i) = some (if P l[i] = true then .inr (Z i) else .inl (S (i + 1)))) (he : step (S l.length) = some (.inr y)) :
   (l.any P = true ∧ ∃ i : Nat,iter step (S 0) = some (Z i)) ∨ (l.any P = false ∧ iter step (S 0) = some y) := by
 have : ∀ j i,i + j = l.length → ((l.drop i).any P = true ∧ ∃ t : Nat,iter step (S i) = some (Z t)) ∨ ((l.drop i).any P = false ∧ iter step (S i) = some y) := by
   intro j
   induction j with
   | zero =>
     intro i hi
     have e : i = l.length := by omega
     subst e
     exact .inr ⟨by rw [List.drop_length]; rfl,by rw [iter_eq,he]⟩
   | succ j ih =>
     intro i hi
     have hil : i < l.length := by omega
     rw [List.drop_eq_getElem_cons hil,List.any_cons,iter_eq,h i hil]
     cases hP : P l[i] with
     | true => exact .inl ⟨by simp,i,rfl⟩
     | false =>
       simp only [Bool.false_eq_true,if_false,Bool.false_or]
       exact ih (i + 1) (by omega)
 have h := this l.length 0 (by omega)
 rwa [List.drop_zero] at h
structure Sz (m : List El) : Prop where
 len : m.length ≤ 1000
 le : ∀ e ∈ m,e.2.length ≤ 1000
def big (e : El) : Bool := decide (16 < e.2.length)
def badE (e : El) : Bool := decide (e.2.length = 0) || decide (e.1 > 2) || e.2.any fun o => decide (o.2 > 1)
def formR (m : List El) : Int := if 32 < m.length ∨ m.any big = true then 3 else if m.length = 0 ∨ m.any badE = true then 1 else 0
theorem m75g (l : List Op) (hl : l.length ≤ 1000) : M75.m ⟨l⟩ = some (l.any fun o => decide (o.2 > 1)) := by
 have key := iter_any (step := M95.s0) (fun i => ⟨l,(l.length : Int),(i : Int)⟩) l (fun o => decide (o.2 > 1)) (fun i => .inr ⟨(i : Int)⟩) (y := .inl ()) (fun i hi => by
   have e1 : ((i : Int) < (l.length : Int)) := by omega
   unfold M95.s0 M76.m
   simp only [e1,inR_nat hi,getD_at hi,suc (show i < 9000000000000000000 by omega),decide_true,cond_true,bindO]
   cases decide (l[i].2 > 1) <;> rfl) (by unfold M95.s0; simp)
 unfold M75.m M95.m
 rcases key with ⟨h1,i,h2⟩ | ⟨h1,h2⟩
 · have h2 : iter M95.s0 ⟨l,(l.length : Int),0⟩ = _ := h2
   simp only [h2,bindO,sumC,h1]
   simp
 · have h2 : iter M95.s0 ⟨l,(l.length : Int),0⟩ = _ := h2
   simp only [h2,bindO,sumC,h1]
   rfl
theorem m74g (e : El) (hl : e.2.length ≤ 1000) : M74.m ⟨e.1,e.2⟩ = some (badE e) := by
 unfold M74.m badE
 simp only [m75g e.2 hl]
 by_cases h0 : e.2.length = 0
 · simp [h0,bindO]
 · have e1 : ((e.2.length : Int) == 0) = false := by simp only [beq_eq_false_iff_ne,ne_eq]; omega
   simp only [e1,h0,cond_false,decide_false,Bool.false_or,bindO]
   by_cases h2 : e.1 > 2
   · simp [h2]
   · simp [h2]
theorem m43g {m : List El} (hm : Sz m) : M43.m ⟨m⟩ = some (formR m) := by
 have hz := hm.len
 have k1 := iter_any (step := M94a.s0) (fun i => ⟨m,(m.length : Int),(i : Int)⟩) m big (fun i => .inr ⟨(i : Int)⟩) (y := .inl ()) (fun i hi => by
   have e1 : ((i : Int) < (m.length : Int)) := by omega
   have e2 : decide ((m[i].2.length : Int) > 16) = big m[i] := by unfold big; by_cases h : 16 < m[i].2.length <;> simp [h] <;> omega
   unfold M94a.s0 M73.m
   simp only [e1,inR_nat hi,getD_at hi,e2,suc (show i < 9000000000000000000 by omega),decide_true,cond_true,bindO]
   cases big m[i] <;> rfl) (by unfold M94a.s0; simp)
 have k2 := iter_any (step := M94b.s0) (fun i => ⟨m,(m.length : Int),(i : Int)⟩) m badE (fun i => .inr ⟨(i : Int)⟩) (y := .inl ()) (fun i hi => by
   have e1 : ((i : Int) < (m.length : Int)) := by omega
   unfold M94b.s0
   simp only [e1,inR_nat hi,getD_at hi,m74g m[i] (hm.le _ (List.getElem_mem hi)),suc (show i < 9000000000000000000 by omega),decide_true,cond_true,bindO]
   cases badE m[i] <;> rfl) (by unfold M94b.s0; simp)
 have a : M72a.m ⟨m⟩ = some (m.any big) := by
   unfold M72a.m M94a.m
   rcases k1 with ⟨h1,i,h2⟩ | ⟨h1,h2⟩
   · have h2 : iter M94a.s0 ⟨m,(m.length : Int),0⟩ = _ := h2
     simp only [h2,bindO,sumC,h1]
     simp
   · have h2 : iter M94a.s0 ⟨m,(m.length : Int),0⟩ = _ := h2
     simp only [h2,bindO,sumC,h1]
     rfl
 have b : M72b.m ⟨m⟩ = some (m.any badE) := by
   unfold M72b.m M94b.m
   rcases k2 with ⟨h1,i,h2⟩ | ⟨h1,h2⟩
   · have h2 : iter M94b.s0 ⟨m,(m.length : Int),0⟩ = _ := h2
     simp only [h2,bindO,sumC,h1]
     simp
   · have h2 : iter M94b.s0 ⟨m,(m.length : Int),0⟩ = _ := h2
     simp only [h2,bindO,sumC,h1]
     rfl
 unfold M43.m formR
 simp only [a,b]
 by_cases h1 : 32 < m.length
 · have e : ((m.length : Int) > 32) := by omega
   simp only [e,h1,decide_true,cond_true,Bool.not_true,cond_false,bindO,true_or,if_true]
 · have e : ¬ ((m.length : Int) > 32) := by omega
   simp only [e,h1,decide_false,cond_false,Bool.not_false,cond_true,bindO,false_or]
   cases m.any big with
   | true => rfl
   | false =>
     simp only [cond_false,Bool.false_eq_true,if_false]
     by_cases h2 : m.length = 0
     · simp only [h2,true_or,if_true]; rfl
     · have e2 : ((m.length : Int) == 0) = false := by simp only [beq_eq_false_iff_ne,ne_eq]; omega
       simp only [e2,h2,cond_false,Bool.not_false,cond_true,bindO,false_or]
       cases m.any badE <;> rfl
def ops (m : List El) : List Op := m.flatMap (·.2)
def chkR (m : List El) : Int := if formR m ≠ 0 then formR m else if (chk 2 (ops m)).isSome = true then 0 else 11
theorem m19_ing {m : List El} {n i0 c : Int} {l : List Op} (hl : l.length ≤ 1000) : iter M19.s1 ⟨m,n,i0,c,l,(l.length : Int),0⟩ = some (match chk c l with | some d => .inl ⟨m,n,i0,d⟩ | none => .inr ⟨11⟩) := by
 have key := iter_scan (step := M19.s1) (fun i c => ⟨m,n,i0,c,l,(l.length : Int),(i : Int)⟩) l (fun c o => if o.1 = false ∧ o.2 ≠ c then .inr (.inr ⟨11⟩) else .inl o.2) (fun c => .inl ⟨m,n,i0,c⟩) (fun _ _ => True) (fun i hi c _ => by
   have e1 : ((i : Int) < (l.length : Int)) := by omega
   unfold M19.s1
   simp only [e1,inR_nat hi,getD_at hi,suc (show i < 9000000000000000000 by omega),decide_true,cond_true]
   by_cases h : l[i].1 = false ∧ l[i].2 ≠ c
   · have : (bif !l[i].1 then l[i].2 != c else false) = true := by simp [h.1,h.2]
     rw [if_pos h]
     simp only [this,cond_true]
   · rw [if_neg h]
     have : (bif !l[i].1 then l[i].2 != c else false) = false := by
       cases h1 : l[i].1 with
       | true => rfl
       | false => have : l[i].2 = c := Decidable.byContradiction fun h2 => h ⟨h1,h2⟩
                  simp [this]
     simp [this]) (fun _ _ _ _ _ _ => trivial) (fun c _ => by unfold M19.s1; simp) c trivial
 have key : iter M19.s1 ⟨m,n,i0,c,l,(l.length : Int),0⟩ = _ := key
 rw [key]
 have : ∀ (l : List Op) (c : Int),scan (fun c (o : Op) => if o.1 = false ∧ o.2 ≠ c then (.inr (.inr ⟨11⟩) : Int ⊕ (M19.q1X ⊕ M19.z1X)) else .inl o.2) (fun c => .inl ⟨m,n,i0,c⟩) c l = (match chk c l with | some d => .inl ⟨m,n,i0,d⟩ | none => .inr ⟨11⟩) := by
   intro l
   induction l with
   | nil => intro c; rfl
   | cons o l ih =>
     intro c
     unfold scan chk
     by_cases h : o.1 = false ∧ o.2 ≠ c
     · simp only [if_pos h]
     · simp only [if_neg h]; exact ih o.2
 rw [this]
theorem m19g {m : List El} (hm : Sz m) : M19.m ⟨m⟩ = some (chkR m) := by
 have hz := hm.len
 have key := iter_scan (step := M19.s0) (fun i c => ⟨m,(m.length : Int),(i : Int),c⟩) m (fun c e => match chk c e.2 with | some d => .inl d | none => .inr (.inr ⟨11⟩)) (fun c => .inl ()) (fun _ _ => True) (fun i hi c _ => by
   have e1 : ((i : Int) < (m.length : Int)) := by omega
   unfold M19.s0
   simp only [e1,inR_nat hi,getD_at hi,m19_ing (hm.le _ (List.getElem_mem hi)),suc (show i < 9000000000000000000 by omega),decide_true,cond_true,bindO]
   cases chk c m[i].2 with
   | none => rfl
   | some d => simp only [sumC,suc (show i < 9000000000000000000 by omega)]) (fun _ _ _ _ _ _ => trivial) (fun c _ => by unfold M19.s0; simp) 2 trivial
 have key : iter M19.s0 ⟨m,(m.length : Int),0,2⟩ = _ := key
 have : ∀ (m : List El) (c : Int),scan (fun c (e : El) => match chk c e.2 with | some d => (.inl d : Int ⊕ (M19.q0X ⊕ M19.z0X)) | none => .inr (.inr ⟨11⟩)) (fun c => .inl ()) c m = if (chk c (ops m)).isSome = true then .inl () else .inr ⟨11⟩ := by
   intro m
   induction m with
   | nil => intro c; rfl
   | cons e m ih =>
     intro c
     unfold scan ops
     rw [List.flatMap_cons,chk_app]
     cases h : chk c e.2 with
     | none => rfl
     | some d => exact ih d
 rw [this] at key
 unfold M19.m chkR
 simp only [m43g hm,key,bindO]
 by_cases h : formR m = 0
 · simp only [h,bne_self_eq_false,cond_false,ne_eq,not_true_eq_false,if_false]
   split <;> rfl
 · have : (formR m != 0) = true := by simpa using h
   simp only [this,cond_true,ne_eq,h,not_false_eq_true,if_true]
def Pos (m : List El) : Prop := ∀ e ∈ m,0 ≤ e.1 ∧ ∀ o ∈ e.2,0 ≤ o.2
structure FormOk (m : List El) : Prop where
 pos : 0 < m.length
 len : m.length ≤ 32
 ord : ∀ e ∈ m,0 ≤ e.1 ∧ e.1 ≤ 2
 ne : ∀ e ∈ m,0 < e.2.length
 le : ∀ e ∈ m,e.2.length ≤ 16
 bit : ∀ e ∈ m,∀ o ∈ e.2,Bit o.2
theorem form_ok {m : List El} (hp : Pos m) (h : formR m = 0) : FormOk m := by
 unfold formR at h
 split at h
 · cases h
 · rename_i h1
   split at h
   · cases h
   · rename_i h2
     have h3 : ∀ e ∈ m,big e = false := fun e he => by
       cases hb : big e with
       | false => rfl
       | true => exact absurd (.inr (List.any_eq_true.2 ⟨e,he,hb⟩)) h1
     have h4 : ∀ e ∈ m,badE e = false := fun e he => by
       cases hb : badE e with
       | false => rfl
       | true => exact absurd (.inr (List.any_eq_true.2 ⟨e,he,hb⟩)) h2
     have h5 : ∀ e ∈ m,e.2.length ≠ 0 ∧ e.1 ≤ 2 ∧ ∀ o ∈ e.2,o.2 ≤ 1 := fun e he => by
       have := h4 e he
       unfold badE at this
       simp only [Bool.or_eq_false_iff,decide_eq_false_iff_not,List.any_eq_false,decide_eq_true_eq] at this
       exact ⟨this.1.1,by have := this.1.2; omega,fun o ho => by have := this.2 o ho; omega⟩
     refine ⟨by omega,by omega,fun e he => ⟨(hp e he).1,(h5 e he).2.1⟩,fun e he => by have := (h5 e he).1; omega,fun e he => ?_,fun e he o ho => ?_⟩
     · have := h3 e he
       unfold big at this
       simp only [decide_eq_false_iff_not] at this
       omega
     · have a := (hp e he).2 o ho
       have b := (h5 e he).2.2 o ho
       unfold Bit
       omega
theorem FormOk.form {m : List El} (h : FormOk m) : formR m = 0 := by
 unfold formR
 rw [if_neg,if_neg]
 · rintro (h1 | h1)
   · have := h.pos; omega
   · obtain ⟨e,he,hb⟩ := List.any_eq_true.1 h1
     unfold badE at hb
     simp only [Bool.or_eq_true,decide_eq_true_eq,List.any_eq_true] at hb
     rcases hb with (hb | hb) | ⟨o,ho,hb⟩
     · have := h.ne e he; omega
     · have := (h.ord e he).2; omega
     · have := h.bit e he o ho; unfold Bit at this; omega
 · rintro (h1 | h1)
   · have := h.len; omega
   · obtain ⟨e,he,hb⟩ := List.any_eq_true.1 h1
     unfold big at hb
     simp only [decide_eq_true_eq] at hb
     have := h.le e he; omega
theorem m51g (s t : List Op) (hs : s.length ≤ 1000) : M51.m ⟨s,t⟩ = some (decide (s = t)) := by
 unfold M51.m
 by_cases hl : s.length = t.length
 · have e0 : ((s.length : Int) != (t.length : Int)) = false := by simp [hl]
   have key := iter_any (step := M51.s0) (fun i => ⟨s,t,(s.length : Int),(i : Int)⟩) (s.zip t) (fun x => decide (x.1 ≠ x.2)) (fun i => .inr ⟨false⟩) (y := .inl ()) (fun i hi => by
     have hi' : i < s.length ∧ i < t.length := by simpa [List.length_zip,Nat.lt_min] using hi
     have e1 : ((i : Int) < (s.length : Int)) := by omega
     unfold M51.s0
     simp only [e1,inR_nat hi'.1,inR_nat hi'.2,getD_at hi'.1,getD_at hi'.2,suc (show i < 9000000000000000000 by omega),decide_true,cond_true,List.getElem_zip]
     by_cases h : s[i] = t[i]
     · simp [h]
     · have : (s[i].1 == t[i].1 && (s[i].2 == t[i].2 && true)) = false := by
         cases h1 : (s[i].1 == t[i].1 && (s[i].2 == t[i].2 && true)) with
         | false => rfl
         | true =>
           simp only [Bool.and_true,Bool.and_eq_true,beq_iff_eq] at h1
           exact absurd (Prod.ext h1.1 h1.2) h
       have h' : decide (s[i] ≠ t[i]) = true := by simpa using h
       simp only [this,h',if_true]
       rfl) (by
     have e : (s.zip t).length = s.length := by rw [List.length_zip,hl]; simp
     rw [e]
     unfold M51.s0; simp)
   simp only [e0,cond_false]
   rcases key with ⟨h1,i,h2⟩ | ⟨h1,h2⟩
   · have h2 : iter M51.s0 ⟨s,t,(s.length : Int),0⟩ = _ := h2
     simp only [h2,bindO,sumC]
     have : s ≠ t := fun e => by
       subst e
       obtain ⟨x,hx,h3⟩ := List.any_eq_true.1 h1
       rw [decide_eq_true_eq] at h3
       obtain ⟨j,hj,rfl⟩ := List.mem_iff_getElem.1 hx
       exact h3 (by simp)
     simp [this]
   · have h2 : iter M51.s0 ⟨s,t,(s.length : Int),0⟩ = _ := h2
     simp only [h2,bindO,sumC]
     have : s = t := List.ext_getElem hl fun j h3 h4 => by
       have h5 := List.any_eq_false.1 h1 (s[j],t[j]) (by rw [List.mem_iff_getElem]; exact ⟨j,by simp; omega,by simp⟩)
       simpa using h5
     simp [this]
 · have e0 : ((s.length : Int) != (t.length : Int)) = true := by simp; omega
   have : s ≠ t := fun e => hl (by rw [e])
   simp only [e0,cond_true,this,decide_false]
theorem m50g (s t : El) (hs : s.2.length ≤ 1000) : M50.m ⟨s.1,s.2,t.1,t.2⟩ = some (decide (s = t)) := by
 unfold M50.m
 simp only [m51g s.2 t.2 hs]
 by_cases h : s.1 = t.1
 · by_cases h2 : s.2 = t.2
   · have : s = t := Prod.ext h h2
     simp [h,h2,this,bindO]
   · have : s ≠ t := fun e => h2 (by rw [e])
     simp [h,h2,this,bindO]
 · have h3 : (s.1 == t.1) = false := by simpa using h
   have : s ≠ t := fun e => h (by rw [e])
   simp only [h3,cond_false,bindO,this,decide_false]
theorem m26g {s : List El} (hs : Sz s) (t : List El) : M26.m ⟨s,t⟩ = some (decide (s = t)) := by
 have hz := hs.len
 unfold M26.m M49.m
 by_cases hl : s.length = t.length
 · have e0 : ((s.length : Int) != (t.length : Int)) = false := by simp [hl]
   have key := iter_any (step := M49.s0) (fun i => ⟨t,s,(s.length : Int),(i : Int)⟩) (s.zip t) (fun x => decide (x.1 ≠ x.2)) (fun i => .inr ⟨false⟩) (y := .inl ()) (fun i hi => by
     have hi' : i < s.length ∧ i < t.length := by simpa [List.length_zip,Nat.lt_min] using hi
     have e1 : ((i : Int) < (s.length : Int)) := by omega
     unfold M49.s0
     simp only [e1,inR_nat hi'.1,inR_nat hi'.2,getD_at hi'.1,getD_at hi'.2,m50g s[i] t[i] (hs.le _ (List.getElem_mem hi'.1)),suc (show i < 9000000000000000000 by omega),decide_true,cond_true,List.getElem_zip,bindO]
     by_cases h : s[i] = t[i] <;> simp [h]) (by
     have e : (s.zip t).length = s.length := by rw [List.length_zip,hl]; simp
     rw [e]
     unfold M49.s0; simp)
   simp only [e0,cond_false]
   rcases key with ⟨h1,i,h2⟩ | ⟨h1,h2⟩
   · have h2 : iter M49.s0 ⟨t,s,(s.length : Int),0⟩ = _ := h2
     simp only [h2,bindO,sumC]
     have : s ≠ t := fun e => by
       subst e
       obtain ⟨x,hx,h3⟩ := List.any_eq_true.1 h1
       rw [decide_eq_true_eq] at h3
       obtain ⟨j,hj,rfl⟩ := List.mem_iff_getElem.1 hx
       exact h3 (by simp)
     simp [this]
   · have h2 : iter M49.s0 ⟨t,s,(s.length : Int),0⟩ = _ := h2
     simp only [h2,bindO,sumC]
     have : s = t := List.ext_getElem hl fun j h3 h4 => by
       have h5 := List.any_eq_false.1 h1 (s[j],t[j]) (by rw [List.mem_iff_getElem]; exact ⟨j,by simp; omega,by simp⟩)
       simpa using h5
     simp [this]
 · have e0 : ((s.length : Int) != (t.length : Int)) = true := by simp; omega
   have : s ≠ t := fun e => hl (by rw [e])
   simp only [e0,cond_true,bindO,this,decide_false]
end Mr
end Go.Proofs.YtcnlccpihknehaaDoor
namespace Go.Proofs.YtcnlccpihknehaaDoor
open Go.Abs
namespace Mr
open Pl
def opT (o : Op) : List UInt8 := (bif o.1 then [119] else [114]) ++ [if o.2 = 1 then 49 else 48]
def wd (o : Int) : List UInt8 := ([[97,110,121],[117,112],[100,111,119,110]] : List (List UInt8))[o.toNat]?.getD []
def elT (e : El) : List UInt8 := wd e.1 ++ [40] ++ Lib.join (e.2.map opT) [44] ++ [41]
def textR (m : List El) : List UInt8 := if formR m ≠ 0 then [] else Lib.join (m.map elT) [59,32]
theorem lens_le {xs : List (List UInt8)} {c : Nat} (h : ∀ x ∈ xs,x.length ≤ c) : Lib.lens xs ≤ c * xs.length := by
 unfold Lib.lens
 induction xs with
 | nil => simp
 | cons x xs ih =>
   have h1 := h x (by simp)
   have h2 := ih (fun y hy => h y (List.mem_cons_of_mem _ hy))
   simp only [List.map_cons,List.sum_cons,List.length_cons,Nat.mul_succ]
   omega
theorem join_le {xs : List (List UInt8)} {c : Nat} (h : ∀ x ∈ xs,x.length ≤ c) (sep : List UInt8) : (Lib.join xs sep).length ≤ (c + sep.length) * xs.length := by
 cases xs with
 | nil => simp [Lib.join_nil]
 | cons x r =>
   have := lens_le h
   rw [Lib.join_length]
   simp only [List.length_cons,Nat.mul_succ,Nat.add_mul] at this ⊢
   have : sep.length * r.length ≤ sep.length * r.length := Nat.le_refl _
   omega
theorem opT_len (o : Op) : (opT o).length = 2 := by unfold opT; cases o.1 <;> rfl
theorem wd_len (o : Int) : (wd o).length ≤ 4 := by
 unfold wd
 match o.toNat with
 | 0 => decide
 | 1 => decide
 | 2 => decide
 | n + 3 => simp
theorem ops_join (l : List Op) : (Lib.join (l.map opT) [44]).length ≤ 3 * l.length := by
 have := join_le (xs := l.map opT) (c := 2) (fun x hx => by obtain ⟨o,_,rfl⟩ := List.mem_map.1 hx; rw [opT_len]; omega) [44]
 simpa using this
theorem elT_len (e : El) : (elT e).length ≤ 6 + 3 * e.2.length := by
 unfold elT
 have h1 := wd_len e.1
 have h2 := ops_join e.2
 simp only [List.length_append,List.length_cons,List.length_nil]
 omega
theorem m46 (o : Op) : M46.m ⟨o.1,o.2⟩ = some (opT o) := by
 have e : leB ((bif o.1 then ([119] : List UInt8) else [114]).length + 1) 9223372036854775807 = true := by cases o.1 <;> rfl
 unfold M46.m opT
 simp only [e,cond_true]
 by_cases h : o.2 = 1
 · simp [h]
 · have : (o.2 == 1) = false := by simpa using h
   simp only [this,cond_false,h,if_false]
theorem m25_in {olo olen : Nat} {m : List El} {n i o : Int} {outs : List (List UInt8)} {l el : List Op} (hl : l.length ≤ 16) :
   iter M25.s1 ⟨olo,olen,m,n,i,0,0,l,(l.length : Int),0,outs,o,el,[]⟩ = some ⟨olo,olen,m,n,i,0,l.length,outs,o,el,l.map opT⟩ := by
 have key : iter M25.s1 ⟨olo,olen,m,n,i,0,((l.take 0).map opT).length,l,(l.length : Int),((0 : Nat) : Int),outs,o,el,(l.take 0).map opT⟩ = some ⟨olo,olen,m,n,i,0,l.length,outs,o,el,l.map opT⟩ := by
   refine iter_for (step := M25.s1) (fun j => ⟨olo,olen,m,n,i,0,((l.take j).map opT).length,l,(l.length : Int),(j : Int),outs,o,el,(l.take j).map opT⟩) (n := l.length) (fun j hj => ?_) ?_
   · have e1 : ((j : Int) < (l.length : Int)) := by omega
     have e2 : eqN ((l.take j).map opT).length ((l.take j).map opT).length = true := by simp [eqN]
     have e3 : roomB (((l.take j).map opT).length + 1) 16 = true := by simp [roomB,leB]; omega
     have e4 : (l.take (j + 1)).map opT = (l.take j).map opT ++ [opT l[j]] := by rw [List.take_succ_eq_append_getElem hj,List.map_append]; rfl
     have e5 : ((l.take (j + 1)).map opT).length = ((l.take j).map opT).length + 1 := by rw [e4]; simp
     unfold M25.s1
     simp only [e1,inR_nat hj,getD_at hj,m46,e2,e3,show eqN 0 0 = true from rfl,suc (show j < 9000000000000000000 by omega),decide_true,cond_true,Bool.and_self,bindO]
     rw [e5,e4]
   · unfold M25.s1
     simp
 exact key
theorem joinS {ss : List (List UInt8)} {sep : List UInt8} (h1 : ss.length ≤ 1000000) (h2 : (Lib.join ss sep).length ≤ 1000000) : M48o.m ⟨0,ss.length,sep,ss⟩ = some (Lib.join ss sep,ss) := by
 unfold M48o.m
 simp only [List.drop_zero,List.take_length]
 rw [if_pos ⟨by omega,h1,h2⟩]
theorem m25g {m : List El} (hm : Sz m) (hp : Pos m) : M25.m ⟨m⟩ = some (textR m) := by
 unfold M25.m
 simp only [m43g hm,bindO]
 by_cases h : formR m = 0
 · have hf := form_ok hp h
   have hz := hf.len
   have key : iter M25.s0 ⟨0,((m.take 0).map elT).length,m,(m.length : Int),((0 : Nat) : Int),(m.take 0).map elT⟩ = some ⟨0,m.length,m.map elT⟩ := by
     refine iter_for (step := M25.s0) (fun i => ⟨0,((m.take i).map elT).length,m,(m.length : Int),(i : Int),(m.take i).map elT⟩) (n := m.length) (fun i hi => ?_) ?_
     · have hme := List.getElem_mem hi
       have e1 : ((i : Int) < (m.length : Int)) := by omega
       have e2 : eqN ((m.take i).map elT).length ((m.take i).map elT).length = true := by simp [eqN]
       have e3 : roomB (((m.take i).map elT).length + 1) 16 = true := by simp [roomB,leB]; omega
       have e4 : (m.take (i + 1)).map elT = (m.take i).map elT ++ [elT m[i]] := by rw [List.take_succ_eq_append_getElem hi,List.map_append]; rfl
       have e5 : ((m.take (i + 1)).map elT).length = ((m.take i).map elT).length + 1 := by rw [e4]; simp
       have ho := hf.ord _ hme
       have e6 : inR m[i].1 3 = true := by simp [inR]; omega
       have hl := hf.le _ hme
       have hj := ops_join m[i].2
       have hw := wd_len m[i].1
       have e7 := joinS (ss := m[i].2.map opT) (sep := [44]) (by simp; omega) (by omega)
       rw [List.length_map] at e7
       have hwd : ([[97,110,121],[117,112],[100,111,119,110]] : List (List UInt8))[m[i].1.toNat]?.getD [] = wd m[i].1 := rfl
       have b1 : leB ((wd m[i].1).length + 1) 9223372036854775807 = true := by simp [leB]; omega
       have b2 : leB ((wd m[i].1 ++ [40]).length + (Lib.join (m[i].2.map opT) [44]).length) 9223372036854775807 = true := by simp [leB]; omega
       have b3 : leB ((wd m[i].1 ++ [40] ++ Lib.join (m[i].2.map opT) [44]).length + 1) 9223372036854775807 = true := by simp [leB]; omega
       unfold M25.s0 M47.m
       simp only [e1,inR_nat hi,getD_at hi,m25_in hl,e2,e3,e6,e7,hwd,b1,b2,b3,show eqN 0 0 = true from rfl,suc (show i < 9000000000000000000 by omega),decide_true,cond_true,Bool.and_self,bindO]
       rw [e5,e4]
       rfl
     · unfold M25.s0
       simp
   have key : iter M25.s0 ⟨0,0,m,(m.length : Int),0,[]⟩ = some ⟨0,m.length,m.map elT⟩ := key
   have hb : (Lib.join (m.map elT) [59,32]).length ≤ 1000000 := by
     have := join_le (xs := m.map elT) (c := 54) (fun x hx => by
       obtain ⟨e,he,rfl⟩ := List.mem_map.1 hx
       have := elT_len e; have := hf.le e he; omega) [59,32]
     simp only [List.length_map,List.length_cons,List.length_nil] at this
     omega
   have e7 := joinS (ss := m.map elT) (sep := [59,32]) (by simp; omega) hb
   rw [List.length_map] at e7
   simp only [h,key,e7,bne_self_eq_false,cond_false]
   unfold textR
   rw [if_neg (fun e => e h)]
 · have : (formR m != 0) = true := by simpa using h
   simp only [this,cond_true]
   unfold textR
   rw [if_pos h]
theorem lives17 : M17.m () = some true := by
 have h27 : M27.m ⟨[117,112,40,119,48,41,59]⟩ = some ([],7,4) := M27.m_le _ _ (by kernel_rfl)
 have h20 : M20.m ⟨matsp,2,false⟩ = some (W 2 false matsp matsp.length,0) := m20 matsp_V (n := 2) (by decide) (by decide) false
 have hW : W 2 false matsp matsp.length = [(0,0,true,0),(0,1,true,0),(1,0,false,0),(1,0,true,1),(1,1,false,0),(1,1,true,1),(2,1,false,1),(2,1,true,0),(2,0,false,1),(2,0,true,0)] := by kernel_rfl
 rw [hW] at h20
 have hs : Sz matsp := ⟨by decide,by decide⟩
 have h25 : M25.m ⟨matsp⟩ = some [97,110,121,40,119,48,41,59,32,117,112,40,114,48,44,119,49,41,59,32,100,111,119,110,40,114,49,44,119,48,41] := by
   rw [m25g hs (by unfold Pos; decide)]
   kernel_rfl
 have h23 : M23.m ⟨matsp⟩ = some 5 := m23 (m := matsp) (by decide) (by decide)
 have h19 : M19.m ⟨[(1,[(false,0)])]⟩ = some 11 := by
   rw [m19g (m := [(1,[(false,0)])]) ⟨by decide,by decide⟩]
   kernel_rfl
 unfold M17.m
 simp only [matsp_run,h27,h20,h25,h23,h19,bindO,Bool.not_true,cond_false,beq_self_eq_true,cond_true]
 rfl
end Mr
end Go.Proofs.YtcnlccpihknehaaDoor
namespace Go.Proofs.YtcnlccpihknehaaDoor
open Go.Abs
namespace Mr
open Pl
def RawB (orders : List Int) (ops : List (List Int)) : Prop := (∀ l ∈ ops,∀ b ∈ l,0 ≤ b ∧ b ≤ 255) ∧ ∀ b ∈ orders,0 ≤ b ∧ b ≤ 255
def grt (orders : List Int) (ops : List (List Int)) : Bool := decide (40 < orders.length) || decide (40 < ops.length) || ops.any fun l => decide (20 < l.length)
theorem m16g (orders : List Int) (ops : List (List Int)) : M16.m ⟨orders,ops⟩ = some (if grt orders ops = true then 1 else 0) := by
 unfold M16.m grt
 by_cases h1 : 40 < orders.length
 · have e : ((orders.length : Int) > 40) := by omega
   simp only [e,h1,decide_true,cond_true,Bool.true_or,if_true]
 · have e1 : ¬ ((orders.length : Int) > 40) := by omega
   by_cases h2 : 40 < ops.length
   · have e : ((ops.length : Int) > 40) := by omega
     simp only [e,e1,h1,h2,decide_true,decide_false,cond_true,cond_false,Bool.true_or,Bool.or_true,if_true]
   · have e2 : ¬ ((ops.length : Int) > 40) := by omega
     have key := iter_any (step := M16.s0) (fun i => ⟨(i : Int),orders,ops⟩) ops (fun l => decide (20 < l.length)) (fun _ => .inr ⟨1⟩) (y := .inl ()) (fun i hi => by
       have e1 : ((i : Int) < (ops.length : Int)) := by omega
       have e3 : decide ((ops[i].length : Int) > 20) = decide (20 < ops[i].length) := by by_cases h : 20 < ops[i].length <;> simp [h] <;> omega
       unfold M16.s0
       simp only [e1,inR_nat hi,getD_at hi,e3,suc (show i < 9000000000000000000 by omega),decide_true,cond_true]
       cases decide (20 < ops[i].length) <;> rfl) (by unfold M16.s0; simp)
     simp only [e1,e2,h1,h2,decide_false,cond_false,Bool.false_or]
     rcases key with ⟨h3,i,h4⟩ | ⟨h3,h4⟩
     · have h4 : iter M16.s0 ⟨0,orders,ops⟩ = _ := h4
       simp only [h3,h4,bindO,sumC,if_true]
     · have h4 : iter M16.s0 ⟨0,orders,ops⟩ = _ := h4
       simp only [h3,h4,bindO,sumC,Bool.false_eq_true,if_false]
def opV (b : Int) : Op := (b / 2 % 2 == 1,b % 2 + b / 4 * 2)
def ofR (orders : List Int) (ops : List (List Int)) (t : Nat) : List El := (List.range t).map fun i => (orders[i]?.getD 0,(ops[i]?.getD []).map opV)
theorem opV_run {b : Int} (h : 0 ≤ b ∧ b ≤ 255) : ((IntKind.u8.wrap (Int.tdiv b 2)).tmod 2 == 1,IntKind.u8.wrap (Int.tmod b 2 + IntKind.u8.wrap (IntKind.u8.wrap (Int.tdiv b 4) * 2))) = opV b := by
 have a1 : Int.tdiv b 2 = b / 2 := Int.tdiv_eq_ediv_of_nonneg h.1
 have a2 : Int.tmod b 2 = b % 2 := Int.tmod_eq_emod_of_nonneg h.1
 have a3 : Int.tdiv b 4 = b / 4 := Int.tdiv_eq_ediv_of_nonneg h.1
 have a4 : (b / 2).tmod 2 = b / 2 % 2 := Int.tmod_eq_emod_of_nonneg (by omega)
 rw [a1,a2,a3,w8 (x := b / 2) (by omega) (by omega),a4,w8 (x := b / 4) (by omega) (by omega),w8 (x := b / 4 * 2) (by omega) (by omega),w8 (by omega) (by omega)]
 rfl
section
variable {orders : List Int} {ops : List (List Int)}
theorem of_in (hr : RawB orders ops) {ml i : Nat} {ms : List El} {o : Int} (hl : (ops[i]?.getD []).length ≤ 20) :
   iter M18.s1 ⟨0,ml,(i : Int),0,orders,ops,ms,o,0,0,[]⟩ = some ⟨0,ml,(i : Int),orders,ops,ms,o,0,(ops[i]?.getD []).length,(ops[i]?.getD []).map opV⟩ := by
 by_cases hi : i < ops.length
 · have e0 : ops[i]?.getD [] = ops[i] := by simp [hi]
   rw [e0] at hl ⊢
   have key : iter M18.s1 ⟨0,ml,(i : Int),((0 : Nat) : Int),orders,ops,ms,o,0,((ops[i].take 0).map opV).length,(ops[i].take 0).map opV⟩ = some ⟨0,ml,(i : Int),orders,ops,ms,o,0,ops[i].length,ops[i].map opV⟩ := by
     refine iter_for (step := M18.s1) (fun k => ⟨0,ml,(i : Int),(k : Int),orders,ops,ms,o,0,((ops[i].take k).map opV).length,(ops[i].take k).map opV⟩) (n := ops[i].length) (fun k hk => ?_) ?_
     · have e1 : ((i : Int) < (ops.length : Int)) := by omega
       have e2 : ((k : Int) < (ops[i].length : Int)) := by omega
       have e3 : eqN ((ops[i].take k).map opV).length ((ops[i].take k).map opV).length = true := by simp [eqN]
       have e4 : roomB (((ops[i].take k).map opV).length + 1) 2 = true := by simp [roomB,leB]; omega
       have e5 : (ops[i].take (k + 1)).map opV = (ops[i].take k).map opV ++ [opV ops[i][k]] := by rw [List.take_succ_eq_append_getElem hk,List.map_append]; rfl
       have e6 : ((ops[i].take (k + 1)).map opV).length = ((ops[i].take k).map opV).length + 1 := by rw [e5]; simp
       unfold M18.s1
       simp only [e1,e2,inR_nat hi,inR_nat hk,getD_at hi,getD_at hk,e3,e4,opV_run (hr.1 _ (List.getElem_mem hi) _ (List.getElem_mem hk)),show eqN 0 0 = true from rfl,suc (show k < 9000000000000000000 by omega),decide_true,cond_true,Bool.and_self,Bool.true_or]
       rw [e6,e5]
     · have e1 : ((i : Int) < (ops.length : Int)) := by omega
       unfold M18.s1
       simp only [e1,inR_nat hi,getD_at hi,decide_true,cond_true,Bool.true_or,Int.lt_irrefl,decide_false,cond_false,List.take_length,List.length_map]
   exact key
 · have e0 : ops[i]?.getD [] = [] := by rw [List.getElem?_eq_none (by omega)]; rfl
   have e1 : ¬ ((i : Int) < (ops.length : Int)) := by omega
   rw [e0,iter_eq]
   unfold M18.s1
   simp only [e1,decide_false,cond_false,Bool.not_false,Bool.or_true,cond_true]
   rfl
theorem grt_no (h : grt orders ops = false) : orders.length ≤ 40 ∧ ∀ i : Nat,(ops[i]?.getD []).length ≤ 20 := by
 unfold grt at h
 simp only [Bool.or_eq_false_iff,decide_eq_false_iff_not,List.any_eq_false,decide_eq_true_eq] at h
 refine ⟨by omega,fun i => ?_⟩
 by_cases hi : i < ops.length
 · have := h.2 _ (List.getElem_mem hi)
   simp only [List.getElem?_eq_getElem hi,Option.getD_some]
   omega
 · rw [List.getElem?_eq_none (by omega)]
   simp
theorem m18g (hr : RawB orders ops) (h : grt orders ops = false) : M18.m ⟨orders,ops⟩ = some (ofR orders ops orders.length) := by
 obtain ⟨h1,h2⟩ := grt_no h
 have hlen : ∀ t,(ofR orders ops t).length = t := fun t => by simp [ofR]
 have key : iter M18.s0 ⟨0,(ofR orders ops 0).length,((0 : Nat) : Int),orders,ops,ofR orders ops 0⟩ = some ⟨0,(ofR orders ops orders.length).length,orders,ops,ofR orders ops orders.length⟩ := by
   refine iter_for (step := M18.s0) (fun i => ⟨0,(ofR orders ops i).length,(i : Int),orders,ops,ofR orders ops i⟩) (n := orders.length) (fun i hi => ?_) ?_
   · have e1 : ((i : Int) < (orders.length : Int)) := by omega
     have e2 : eqN (ofR orders ops i).length (ofR orders ops i).length = true := by simp [eqN]
     have e3 : roomB ((ofR orders ops i).length + 1) 32 = true := by rw [hlen]; simp [roomB,leB]; omega
     have e4 : ofR orders ops (i + 1) = ofR orders ops i ++ [(orders[i],(ops[i]?.getD []).map opV)] := by unfold ofR; rw [List.range_succ,List.map_append]; simp [hi]
     have e5 : (ofR orders ops (i + 1)).length = (ofR orders ops i).length + 1 := by rw [e4]; simp
     have e6 : leB (0 + (ops[i]?.getD []).length) ((ops[i]?.getD []).map opV).length = true := by simp [leB]
     have e7 : ((ops[i]?.getD []).map opV).take (ops[i]?.getD []).length = (ops[i]?.getD []).map opV := List.take_of_length_le (by simp)
     unfold M18.s0
     simp only [e1,inR_nat hi,getD_at hi,of_in hr (h2 i),e2,e3,e6,e7,show eqN 0 0 = true from rfl,suc (show i < 9000000000000000000 by omega),decide_true,cond_true,Bool.and_self,bindO,List.drop_zero]
     rw [e5,e4]
   · unfold M18.s0
     simp
 have key : iter M18.s0 ⟨0,0,0,orders,ops,[]⟩ = _ := key
 have e : leB (0 + (ofR orders ops orders.length).length) (ofR orders ops orders.length).length = true := by simp [leB]
 unfold M18.m
 simp only [key,e,bindO,Bool.and_self,cond_true,List.drop_zero,List.take_length]
theorem of_sz (h : grt orders ops = false) : (ofR orders ops orders.length).length ≤ 40 ∧ ∀ e ∈ ofR orders ops orders.length,e.2.length ≤ 20 := by
 obtain ⟨h1,h2⟩ := grt_no h
 refine ⟨by simpa [ofR] using h1,fun e he => ?_⟩
 obtain ⟨i,_,rfl⟩ := List.mem_map.1 he
 simpa using h2 i
theorem of_Sz (h : grt orders ops = false) : Sz (ofR orders ops orders.length) := ⟨by have := (of_sz h).1; omega,fun e he => by have := (of_sz h).2 e he; omega⟩
theorem of_pos (hr : RawB orders ops) (t : Nat) : Pos (ofR orders ops t) := fun e he => by
 obtain ⟨i,_,rfl⟩ := List.mem_map.1 he
 refine ⟨?_,fun o ho => ?_⟩
 · by_cases hi : i < orders.length
   · simpa [hi] using (hr.2 _ (List.getElem_mem hi)).1
   · rw [List.getElem?_eq_none (by omega)]; exact Int.le_refl 0
 · obtain ⟨b,hb,rfl⟩ := List.mem_map.1 ho
   have : 0 ≤ b := by
     by_cases hi : i < ops.length
     · simp only [List.getElem?_eq_getElem hi,Option.getD_some] at hb
       exact (hr.1 _ (List.getElem_mem hi) b hb).1
     · rw [List.getElem?_eq_none (by omega)] at hb; cases hb
   unfold opV
   simp only
   omega
end
end Mr
end Go.Proofs.YtcnlccpihknehaaDoor
