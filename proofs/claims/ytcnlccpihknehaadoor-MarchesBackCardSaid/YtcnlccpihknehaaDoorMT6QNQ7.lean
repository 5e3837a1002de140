/-
  Marches: the statement Back: its run answers true.
-/
import Derived.Test.YtcnlccpihknehaaDoorMT6QNQ6
set_option linter.all false
namespace Go.Proofs.YtcnlccpihknehaaDoor
open Go.Abs
namespace Mr
open Pl
def mt : List El → List UInt8 → List UInt8
 | [],t => t
 | [e],t => elT e ++ t
 | e :: e' :: m,t => elT e ++ (59 :: 32 :: mt (e' :: m) t)
def mt0 : List El → List UInt8
 | [] => []
 | [e] => elT0 e
 | e :: e' :: m => elT e ++ (59 :: 32 :: mt0 (e' :: m))
theorem mt_join : ∀ (m : List El) (t : List UInt8),m ≠ [] → Lib.join (m.map elT) [59,32] ++ t = mt m t
 | [],t,h => absurd rfl h
 | [e],t,_ => by simp [mt,Lib.join_one]
 | e :: e' :: m,t,_ => by
   have ih := mt_join (e' :: m) t (by simp)
   have h : Lib.join ((e :: e' :: m).map elT) [59,32] = elT e ++ (59 :: 32 :: Lib.join ((e' :: m).map elT) [59,32]) := by
     simp only [List.map_cons,Lib.join_cons,Lib.joinTail,List.flatten_cons,List.cons_append,List.nil_append,List.append_assoc]
   rw [h,List.append_assoc,List.cons_append,List.cons_append,ih]
   rfl
theorem elT_0 (e : El) : elT e = elT0 e ++ [41] := rfl
theorem mt_0 : ∀ (m : List El),m ≠ [] → mt m [] = mt0 m ++ [41]
 | [],h => absurd rfl h
 | [e],_ => by simp [mt,mt0,elT_0]
 | e :: e' :: m,_ => by
   have ih := mt_0 (e' :: m) (by simp)
   simp only [mt,mt0,ih,List.append_assoc,List.cons_append]
theorem joinE_snoc : ∀ (m : List El) (x : El),Lib.join ((m ++ [x]).map elT) [59,32] = m.flatMap (fun e => elT e ++ [59,32]) ++ elT x
 | [],x => by simp [Lib.join_one]
 | [o],x => by simp [Lib.join_cons,Lib.joinTail]
 | o :: o' :: l,x => by
   have ih := joinE_snoc (o' :: l) x
   have e : Lib.join ((o :: o' :: l ++ [x]).map elT) [59,32] = elT o ++ (59 :: 32 :: Lib.join ((o' :: l ++ [x]).map elT) [59,32]) := by
     simp only [List.cons_append,List.map_cons,Lib.join_cons,Lib.joinTail,List.flatten_cons,List.cons_append,List.nil_append,List.append_assoc]
   rw [e,ih]
   simp [List.flatMap_cons,List.append_assoc]
theorem form_of {m : List El} (h0 : m ≠ []) (h1 : m.length ≤ 32) (h : ∀ e ∈ m,ElOkT e) : FormOk m :=
 ⟨List.length_pos_iff.2 h0,h1,fun e he => (h e he).ord,fun e he => List.length_pos_iff.2 (h e he).ne,fun e he => (h e he).le,fun e he => (h e he).bit⟩
theorem of_form {m : List El} (h : FormOk m) : m ≠ [] ∧ ∀ e ∈ m,ElOkT e :=
 ⟨List.length_pos_iff.1 h.pos,fun e he => ⟨h.ord e he,List.length_pos_iff.1 (h.ne e he),h.le e he,h.bit e he⟩⟩
theorem textR_form {m : List El} (h : FormOk m) : textR m = Lib.join (m.map elT) [59,32] := by
 unfold textR
 rw [if_neg (fun e => e h.form)]
section
variable {s : List UInt8} (hs : s.length ≤ 10000)
include hs
theorem read_step {p : Nat} {ms : List El} {e : El} (he : ElOkT e) {t : List UInt8} (h : s.drop p = elT e ++ t) (hl : ms.length < 32) (hq : p + (elT e).length ≤ s.length) :
   M27.s0 ⟨s,0,ms.length,s,p,ms⟩ =
     (bif (((p + (elT e).length : Nat) : Int) == (s.length : Int)) then some (Sum.inr ⟨ms ++ [e],0,0⟩)
      else bif !(tkR s (p + (elT e).length) 0 (p + (elT e).length) wD).2.1 then some (Sum.inr ⟨[],((tkR s (p + (elT e).length) 0 (p + (elT e).length) wD).2.2 : Int),4⟩)
      else some (Sum.inl ⟨s,0,ms.length + 1,s,((tkR s (p + (elT e).length) 0 (p + (elT e).length) wD).2.2 : Int),ms ++ [e]⟩)) := by
 have e1 : ((ms.length : Int) == 32) = false := by simp only [beq_eq_false_iff_ne,ne_eq]; omega
 have e2 : eqN ms.length ms.length = true := by simp [eqN]
 have e3 : roomB (ms.length + 1) 32 = true := by simp [roomB,leB]; omega
 have e4 : leB (0 + (ms.length + 1)) (ms ++ [e]).length = true := by simp [leB]
 have e5 : (ms ++ [e]).take (ms.length + 1) = ms ++ [e] := List.take_of_length_le (by simp)
 have e6 := m53e (s := s) hs (ms ++ [e])
 have e7 : (ms ++ [e]).length = ms.length + 1 := by simp
 rw [e7] at e6
 unfold M27.s0
 simp only [read_el hs he h,takeD hs hq,bindO,e1,e2,e3,e4,e5,e6,show eqN 0 0 = true from rfl,beq_self_eq_true,bne_self_eq_false,cond_true,cond_false,Bool.and_self,List.drop_zero]
theorem read_ms : ∀ (m : List El) (ms : List El) (p : Nat),m ≠ [] → (∀ e ∈ m,ElOkT e) → ms.length + m.length ≤ 32 → s.drop p = mt m [] →
   iter M27.s0 ⟨s,0,ms.length,s,p,ms⟩ = some ⟨ms ++ m,0,0⟩
 | [],ms,p,h,_,_,_ => absurd rfl h
 | [e],ms,p,_,hb,hl,h => by
   have he := hb e (by simp)
   have hlen := drop_len (t := elT e ++ []) h (by rw [elT_bt he]; simp)
   rw [List.append_nil] at hlen
   have e1 : (((p + (elT e).length : Nat) : Int) == (s.length : Int)) = true := by simp [hlen]
   rw [iter_eq,read_step hs he (t := []) h (by simp at hl; omega) (by omega),e1]
   rfl
 | e :: e' :: m,ms,p,_,hb,hl,h => by
   have he := hb e (by simp)
   have h : s.drop p = elT e ++ (59 :: 32 :: mt (e' :: m) []) := h
   have hlen := drop_len h (by simp)
   simp only [List.length_append,List.length_cons] at hlen
   have e1 : (((p + (elT e).length : Nat) : Int) == (s.length : Int)) = false := by simp only [beq_eq_false_iff_ne,ne_eq]; omega
   have h1 := drop_more h
   have h2 : s.drop (p + (elT e).length + 2) = mt (e' :: m) [] := drop_more (t := [59,32]) h1
   have ih := read_ms (e' :: m) (ms ++ [e]) (p + (elT e).length + 2) (by simp) (fun z hz => hb z (List.mem_cons_of_mem _ hz)) (by simp at hl ⊢; omega) h2
   rw [iter_eq,read_step hs he h (by simp at hl; omega) (by omega),e1,tkD h1]
   simp only [Bool.not_true,cond_false]
   rw [show ms.length + 1 = (ms ++ [e]).length by simp,ih]
   simp
theorem read_msx : ∀ (m : List El) (ms : List El) (p : Nat),m ≠ [] → (∀ e ∈ m,ElOkT e) → ms.length + m.length ≤ 32 → s.drop p = mt m [120] →
   iter M27.s0 ⟨s,0,ms.length,s,p,ms⟩ = some ⟨[],((s.length - 1 : Nat) : Int),4⟩
 | [],ms,p,h,_,_,_ => absurd rfl h
 | [e],ms,p,_,hb,hl,h => by
   have he := hb e (by simp)
   have h : s.drop p = elT e ++ [120] := h
   have hlen := drop_len h (by simp)
   simp only [List.length_append,List.length_cons,List.length_nil] at hlen
   have e1 : (((p + (elT e).length : Nat) : Int) == (s.length : Int)) = false := by simp only [beq_eq_false_iff_ne,ne_eq]; omega
   have h1 := drop_more h
   rw [iter_eq,read_step hs he h (by simp at hl; omega) (by omega),e1,tkDx h1]
   simp only [Bool.not_false,cond_false,cond_true]
   rw [show s.length - 1 = p + (elT e).length by omega]
 | e :: e' :: m,ms,p,_,hb,hl,h => by
   have he := hb e (by simp)
   have h : s.drop p = elT e ++ (59 :: 32 :: mt (e' :: m) [120]) := h
   have hlen := drop_len h (by simp)
   simp only [List.length_append,List.length_cons] at hlen
   have e1 : (((p + (elT e).length : Nat) : Int) == (s.length : Int)) = false := by simp only [beq_eq_false_iff_ne,ne_eq]; omega
   have h1 := drop_more h
   have h2 : s.drop (p + (elT e).length + 2) = mt (e' :: m) [120] := drop_more (t := [59,32]) h1
   have ih := read_msx (e' :: m) (ms ++ [e]) (p + (elT e).length + 2) (by simp) (fun z hz => hb z (List.mem_cons_of_mem _ hz)) (by simp at hl ⊢; omega) h2
   rw [iter_eq,read_step hs he h (by simp at hl; omega) (by omega),e1,tkD h1]
   simp only [Bool.not_true,cond_false]
   rw [show ms.length + 1 = (ms ++ [e]).length by simp,ih]
theorem read_ms0 : ∀ (m : List El) (ms : List El) (p : Nat),m ≠ [] → (∀ e ∈ m,ElOkT e) → ms.length + m.length ≤ 32 → s.drop p = mt0 m →
   iter M27.s0 ⟨s,0,ms.length,s,p,ms⟩ = some ⟨[],(s.length : Int),4⟩
 | [],ms,p,h,_,_,_ => absurd rfl h
 | [e],ms,p,_,hb,hl,h => by
   have he := hb e (by simp)
   obtain ⟨l,hl⟩ := read_el0 hs he h
   rw [iter_eq]
   unfold M27.s0
   simp only [hl,bindO]
   rfl
 | e :: e' :: m,ms,p,_,hb,hl,h => by
   have he := hb e (by simp)
   have h : s.drop p = elT e ++ (59 :: 32 :: mt0 (e' :: m)) := h
   have hlen := drop_len h (by simp)
   simp only [List.length_append,List.length_cons] at hlen
   have e1 : (((p + (elT e).length : Nat) : Int) == (s.length : Int)) = false := by simp only [beq_eq_false_iff_ne,ne_eq]; omega
   have h1 := drop_more h
   have h2 : s.drop (p + (elT e).length + 2) = mt0 (e' :: m) := drop_more (t := [59,32]) h1
   have ih := read_ms0 (e' :: m) (ms ++ [e]) (p + (elT e).length + 2) (by simp) (fun z hz => hb z (List.mem_cons_of_mem _ hz)) (by simp at hl ⊢; omega) h2
   rw [iter_eq,read_step hs he h (by simp at hl; omega) (by omega),e1,tkD h1]
   simp only [Bool.not_true,cond_false]
   rw [show ms.length + 1 = (ms ++ [e]).length by simp,ih]
end
theorem text_len {m : List El} (h : FormOk m) : (textR m).length ≤ 2000 := by
 have h2 := h.len
 have := join_le (xs := m.map elT) (c := 54) (fun x hx => by
   obtain ⟨e,he,rfl⟩ := List.mem_map.1 hx
   have := elT_len e; have := h.le e he; omega) [59,32]
 rw [textR_form h]
 simp only [List.length_map,List.length_cons,List.length_nil] at this
 omega
theorem parse_ok {m : List El} (h : FormOk m) : M27.m ⟨textR m⟩ = some (m,0,0) := by
 have hl := text_len h
 obtain ⟨h0,hb⟩ := of_form h
 have ht : textR m = mt m [] := by rw [textR_form h,← mt_join m [] h0,List.append_nil]
 have key := read_ms (s := textR m) (by omega) m [] 0 h0 hb (by simpa using h.len) (by rw [List.drop_zero,ht])
 have key : iter M27.s0 ⟨textR m,0,0,textR m,0,[]⟩ = _ := key
 have e : ¬ (((textR m).length : Int) > 4096) := by omega
 unfold M27.m
 simp only [e,decide_false,cond_false,key,bindO,List.nil_append]
theorem parse_x {m : List El} (h : FormOk m) : M27.m ⟨textR m ++ [120]⟩ = some ([],((textR m).length : Int),4) := by
 have hl := text_len h
 obtain ⟨h0,hb⟩ := of_form h
 have ht : textR m ++ [120] = mt m [120] := by rw [textR_form h,mt_join m [120] h0]
 have hl' : (textR m ++ [120]).length = (textR m).length + 1 := by simp
 have key := read_msx (s := textR m ++ [120]) (by omega) m [] 0 h0 hb (by simpa using h.len) (by rw [List.drop_zero,ht])
 have key : iter M27.s0 ⟨textR m ++ [120],0,0,textR m ++ [120],0,[]⟩ = _ := key
 have e : ¬ (((textR m ++ [120]).length : Int) > 4096) := by omega
 unfold M27.m
 simp only [e,decide_false,cond_false,key,bindO]
 rw [hl',Nat.add_sub_cancel]
theorem parse_0 {m : List El} (h : FormOk m) : M27.m ⟨(textR m).take ((textR m).length - 1)⟩ = some ([],(((textR m).length - 1 : Nat) : Int),4) := by
 have hl := text_len h
 obtain ⟨h0,hb⟩ := of_form h
 have ht : textR m = mt0 m ++ [41] := by rw [textR_form h,← mt_0 m h0,← mt_join m [] h0,List.append_nil]
 have h1 : (textR m).take ((textR m).length - 1) = mt0 m := by rw [ht]; simp
 have h2 : (mt0 m).length = (textR m).length - 1 := by rw [ht]; simp
 have key := read_ms0 (s := mt0 m) (by omega) m [] 0 h0 hb (by simpa using h.len) (by rw [List.drop_zero])
 have key : iter M27.s0 ⟨mt0 m,0,0,mt0 m,0,[]⟩ = _ := key
 have e : ¬ (((mt0 m).length : Int) > 4096) := by omega
 rw [h1,← h2]
 unfold M27.m
 simp only [e,decide_false,cond_false,key,bindO]
theorem parse_any {s : List UInt8} (hs : s.length ≤ 4096) : ∃ (m : List El) (a e : Int),M27.m ⟨s⟩ = some (m,a,e) ∧ ((e = 0 ∧ a = 0 ∧ FormOk m ∧ textR m = s) ∨ ((e = 3 ∨ e = 4) ∧ m = [] ∧ 0 ≤ a ∧ a ≤ (s.length : Int))) := by
 obtain ⟨y,hy,hP⟩ := iter_inv (step := M27.s0) (fun x => ∃ (p : Nat) (ms : List El),x = ⟨s,0,ms.length,s,(p : Int),ms⟩ ∧ p ≤ s.length ∧ ms.length ≤ 32 ∧ (∀ e ∈ ms,ElOkT e) ∧ s = ms.flatMap (fun e => elT e ++ [59,32]) ++ s.drop p)
   (fun x => 33 - x.m_len) (fun y => (y.e = 0 ∧ y.at_ = 0 ∧ FormOk y.m ∧ textR y.m = s) ∨ ((y.e = 3 ∨ y.e = 4) ∧ y.m = [] ∧ 0 ≤ y.at_ ∧ y.at_ ≤ (s.length : Int))) (fun x hx => by
     obtain ⟨p,ms,rfl,hp,h32,hb,ht⟩ := hx
     obtain ⟨o,l,e,q,hM,hq,hE⟩ := any_el (s := s) (by omega) hp
     rcases hE with ⟨rfl,hok,hd⟩ | hE
     · by_cases hl : ms.length = 32
       · refine ⟨_,by unfold M27.s0; simp only [hM,bindO,hl,beq_self_eq_true,cond_true]; rfl,?_⟩
         exact .inr ⟨.inl rfl,rfl,by simp only; omega,by simp only; omega⟩
       · have hq' : p + (elT (o,l)).length = q := by
           have h1 := congrArg List.length hd
           simp only [List.length_append,List.length_drop] at h1
           have h2 : 0 < (elT (o,l)).length := by unfold elT; simp; omega
           omega
         rw [read_step (s := s) (by omega) hok hd (by omega) (by omega),hq']
         by_cases hend : q = s.length
         · have e1 : ((q : Int) == (s.length : Int)) = true := by simp [hend]
           have hb' : ∀ e ∈ ms ++ [(o,l)],ElOkT e := fun e he => by
             rcases List.mem_append.1 he with he | he
             · exact hb e he
             · rw [List.mem_singleton] at he; subst he; exact hok
           have hf : FormOk (ms ++ [(o,l)]) := form_of (by simp) (by simp; omega) hb'
           refine ⟨_,by rw [e1]; rfl,?_⟩
           refine .inl ⟨rfl,rfl,hf,?_⟩
           rw [textR_form hf,joinE_snoc]
           rw [hd,hend,List.drop_length,List.append_nil] at ht
           exact ht.symm
         · have e1 : ((q : Int) == (s.length : Int)) = false := by simp only [beq_eq_false_iff_ne,ne_eq]; omega
           have hle := tkR_le hq wD 0 q hq
           cases hD : (tkR s q 0 q wD).2.1 with
           | false =>
             refine ⟨_,by rw [e1]; rfl,?_⟩
             exact .inr ⟨.inr rfl,rfl,by simp only; omega,by simp only; omega⟩
           | true =>
             obtain ⟨j,hj,h1,h2,h3⟩ := tkR_ok wD 0 q hD
             have hj0 : j < 1 := hj
             have : j = 0 := by omega
             subst this
             have h2 : (tkR s q 0 q wD).2.2 = q + 2 := h2
             have h3 : s.drop q = 59 :: 32 :: s.drop (q + 2) := h3
             refine ⟨_,by rw [e1]; rfl,?_⟩
             refine ⟨⟨q + 2,ms ++ [(o,l)],by rw [h2]; simp,by rw [← h2]; exact hle,by simp; omega,fun e he => ?_,?_⟩,by simp only; omega⟩
             · rcases List.mem_append.1 he with he | he
               · exact hb e he
               · rw [List.mem_singleton] at he; subst he; exact hok
             · rw [hd,h3] at ht
               rw [List.flatMap_append]
               simpa [List.append_assoc] using ht
     · have e0 : (e == 0) = false := by rcases hE with rfl | rfl <;> rfl
       have e1 : (e != 0) = true := by rcases hE with rfl | rfl <;> rfl
       refine ⟨_,by unfold M27.s0; simp only [hM,bindO,e0,e1,cond_true,cond_false]; rfl,?_⟩
       exact .inr ⟨hE,rfl,by simp only; omega,by simp only; omega⟩) ⟨s,0,0,s,0,[]⟩ ⟨0,[],rfl,by omega,by simp,fun e he => (by cases he),by simp⟩
 have e : ¬ ((s.length : Int) > 4096) := by omega
 refine ⟨y.m,y.at_,y.e,?_,hP⟩
 unfold M27.m
 simp only [e,decide_false,cond_false,hy,bindO]
theorem form_Sz {m : List El} (h : FormOk m) : Sz m := ⟨by have := h.len; omega,fun e he => by have := h.le e he; omega⟩
theorem form_Pos {m : List El} (h : FormOk m) : Pos m := fun e he => ⟨(h.ord e he).1,fun o ho => by have := h.bit e he o ho; unfold Bit at this; omega⟩
section
variable {orders : List Int} {ops : List (List Int)}
theorem run6 (hr : RawB orders ops) (s : List UInt8) : M6.m ⟨orders,ops,s⟩ = some true := by
 unfold M6.m
 simp only [m16g,bindO]
 by_cases h3 : ((s.length : Int) > 300)
 · have : (bif (if grt orders ops = true then (1 : Int) else 0) == 1 then true else decide ((s.length : Int) > 300)) = true := by
     simp only [h3,decide_true]
     cases (if grt orders ops = true then (1 : Int) else 0) == 1 <;> rfl
   simp only [this,cond_true,lives17]
 · cases hg : grt orders ops with
   | true => simp only [if_true,beq_self_eq_true,cond_true,lives17]
   | false =>
     have hS := of_Sz hg
     have hP := of_pos hr orders.length
     simp only [Bool.false_eq_true,if_false,show ((0 : Int) == 1) = false from rfl,cond_false,h3,decide_false,m18g hr hg]
     generalize ofR orders ops orders.length = m at hS hP
     obtain ⟨m',a,e,hQ,hR⟩ := parse_any (s := s) (by omega)
     simp only [m25g hS hP]
     by_cases hf : formR m = 0
     · have hF := form_ok hP hf
       have hl := text_len hF
       have hne : (textR m == []) = false := by
         have h := of_form hF
         rw [textR_form hF]
         have : Lib.join (m.map elT) [59,32] ≠ [] := by
           obtain ⟨h0,_⟩ := h
           cases m with
           | nil => exact absurd rfl h0
           | cons e m => rw [List.map_cons,Lib.join_cons]; unfold elT; simp
         simpa using this
       have hpos : 1 ≤ (textR m).length := by
         have : textR m ≠ [] := by simpa using hne
         exact List.length_pos_iff.2 this
       have e1 : IntKind.i64.wrap (((textR m).length : Int) - 1) = (((textR m).length - 1 : Nat) : Int) := by rw [w64 (by omega) (by omega)]; omega
       have e2 : (decide ((0 : Int) ≤ (((textR m).length - 1 : Nat) : Int)) && decide ((((textR m).length - 1 : Nat) : Int) ≤ ((textR m).length : Int)) && true) = true := by
         have b1 : (0 : Int) ≤ (((textR m).length - 1 : Nat) : Int) := by omega
         have b2 : (((textR m).length - 1 : Nat) : Int) ≤ ((textR m).length : Int) := by omega
         simp only [b1,b2,decide_true,Bool.and_self]
       have e3 : leB ((textR m).length + 1) 9223372036854775807 = true := by simp [leB]; omega
       simp only [hne,Bool.not_false,cond_true,parse_ok hF,m26g hS,m25g hS hP,decide_true,Bool.not_true,cond_false,beq_self_eq_true,bne_self_eq_false,e1,e2,e3,Int.toNat_natCast,Nat.sub_zero,List.drop_zero,parse_0 hF,parse_x hF,hQ]
       rcases hR with ⟨rfl,rfl,hF',ht⟩ | ⟨he,rfl,ha,hb⟩
       · have hc : chkR m' = 0 ∨ chkR m' = 11 := by
           unfold chkR
           rw [hF'.form,if_neg (fun e => e rfl)]
           split
           · exact .inl rfl
           · exact .inr rfl
         simp only [beq_self_eq_true,cond_true,m25g (form_Sz hF') (form_Pos hF'),ht,m19g (form_Sz hF')]
         rcases hc with hc | hc <;> rw [hc] <;> simp [lives17]
       · have e0 : (e == 0) = false := by rcases he with rfl | rfl <;> rfl
         have e4 : (bif e == 4 then true else e == 3) = true := by rcases he with rfl | rfl <;> rfl
         have a1 : (a ≥ 0) := ha
         simp only [e0,cond_false,List.length_nil,show (((0 : Nat) : Int) == 0) = true from rfl,a1,hb,decide_true,cond_true,e4,lives17]
     · have ht : textR m = [] := by unfold textR; rw [if_pos hf]
       simp only [ht,beq_self_eq_true,Bool.not_true,cond_false,hQ]
       rcases hR with ⟨rfl,rfl,hF',ht⟩ | ⟨he,rfl,ha,hb⟩
       · have hc : chkR m' = 0 ∨ chkR m' = 11 := by
           unfold chkR
           rw [hF'.form,if_neg (fun e => e rfl)]
           split
           · exact .inl rfl
           · exact .inr rfl
         simp only [beq_self_eq_true,cond_true,m25g (form_Sz hF') (form_Pos hF'),ht,m19g (form_Sz hF')]
         rcases hc with hc | hc <;> rw [hc] <;> simp [lives17]
       · have e0 : (e == 0) = false := by rcases he with rfl | rfl <;> rfl
         have e4 : (bif e == 4 then true else e == 3) = true := by rcases he with rfl | rfl <;> rfl
         have a1 : (a ≥ 0) := ha
         simp only [e0,cond_false,List.length_nil,show (((0 : Nat) : Int) == 0) = true from rfl,a1,hb,decide_true,cond_true,e4,lives17]
end
end Mr
end Go.Proofs.YtcnlccpihknehaaDoor
