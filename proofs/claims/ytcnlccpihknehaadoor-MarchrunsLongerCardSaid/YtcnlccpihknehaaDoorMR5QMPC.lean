/-
  March runs: the statements Longer and Known: their runs answer true.
-/
import Derived.Test.YtcnlccpihknehaaDoorMR5QMPB
import Derived.Test.YtcnlccpihknehaaDoorMR5QMUJ
import Derived.Test.YtcnlccpihknehaaDoorMR5QMUK
set_option linter.all false
namespace Go.Proofs.YtcnlccpihknehaaDoor
open Go.Abs
namespace Mr
open Pl
theorem bad_app {b : Bool} {k : Int} {p q : Nat} : ∀ (w : List Ac) (w' : List Ac) (c : List Int),bad b k p q c w = true → bad b k p q c (w ++ w') = true
 | [],w',c,h => by cases h
 | x :: w,w',c,h => by
   rw [List.cons_append]
   unfold bad at h ⊢
   split
   · rename_i e
     rw [if_pos e] at h
     exact bad_app w w' _ h
   · rename_i e
     rw [if_neg e,Bool.or_eq_true] at h
     rw [Bool.or_eq_true]
     exact h.imp id (bad_app w w' c)
theorem D_app {m m' : List El} {k : Int} {above : Bool} (h : D m k above = true) : D (m ++ m') k above = true := by
 have e1 : ∀ x,D1 m k x = true → D1 (m ++ m') k x = true := fun x h => by
   unfold D1 sw at h ⊢
   rw [List.flatMap_append]
   exact bad_app _ _ _ h
 have e2 : ∀ d x y,D2 m k above d x y = true → D2 (m ++ m') k above d x y = true := fun d x y h => by
   unfold D2 pw at h ⊢
   rw [List.flatMap_append]
   exact bad_app _ _ _ h
 unfold D at h ⊢
 split
 · rename_i e
   rw [if_pos e] at h
   simp only [Bool.and_eq_true] at h ⊢
   exact ⟨e1 _ h.1,e1 _ h.2⟩
 · rename_i e
   rw [if_neg e] at h
   simp only [Bool.and_eq_true] at h ⊢
   obtain ⟨⟨⟨⟨a1,a2⟩,a3,a4⟩,a5,a6⟩,a7,a8⟩ := h
   exact ⟨⟨⟨⟨e2 _ _ _ a1,e2 _ _ _ a2⟩,e2 _ _ _ a3,e2 _ _ _ a4⟩,e2 _ _ _ a5,e2 _ _ _ a6⟩,e2 _ _ _ a7,e2 _ _ _ a8⟩
theorem V_app {m m' : List El} (h : V m) (h' : V m') (hl : m.length ≤ 12) (hl' : m'.length ≤ 12) (hc : ∀ c,(chk c (m'.flatMap (·.2))).isSome = true) : V (m ++ m') := by
 have f : ∀ (P : El → Prop),(∀ e ∈ m,P e) → (∀ e ∈ m',P e) → ∀ e ∈ m ++ m',P e := fun P a b e he => (List.mem_append.1 he).elim (a e) (b e)
 refine ⟨?_,?_,f _ h.ord h'.ord,f _ h.ne h'.ne,f _ h.le h'.le,f _ h.bit h'.bit,?_⟩
 · rw [List.length_append]; have := h.pos; omega
 · rw [List.length_append]; omega
 · rw [List.flatMap_append,chk_app]
   have := h.st
   cases h1 : chk 2 (m.flatMap (·.2)) with
   | none => rw [h1] at this; cases this
   | some d => exact hc d
theorem run13 {orders zorders : List Int} {ops zops : List (List Int)} (hr : RawOk orders ops) (hz : RawOk zorders zops) {s start c p' q' : Int} (h : U8 s) (hc : U8 c) (hp : U8 p') (hq : U8 q') : M13.m ⟨orders,ops,zorders,zops,s,start,c,p',q'⟩ = some true := by
 obtain ⟨m,hg,hm,hl,_⟩ := good hr.1 hr.2
 obtain ⟨m',hg',hm',hl',hc'⟩ := good hz.1 hz.2
 obtain ⟨b,k,p,q,hd,ok⟩ := defect_run (start := start) h hc hp hq
 have hn := num_pos s
 unfold M13.m
 cases b with
 | true =>
   simp only [if_true] at hd
   simp only [hg,hg',hd,lives,bindO,show ((0 : Int) == 0) = true from rfl,cond_true]
 | false =>
   simp only [Bool.false_eq_true,if_false] at hd
   have h1 := m39 ok hm (by omega)
   have h2 := m39 ok (V_app hm hm' hl hl' hc') (by omega)
   have e1 : roomB m.length 32 = true := by simp [roomB,leB]; omega
   have e2 : roomB (m.length + m'.length) 32 = true := by simp [roomB,leB]; omega
   have e3 : eqN m.length m.length = true := by simp [eqN]
   have e4 : leB (0 + (m.length + m'.length)) (m ++ m').length = true := by simp [leB]
   have e5 : (m ++ m').take (m.length + m'.length) = m ++ m' := List.take_of_length_le (by rw [List.length_append]; omega)
   simp only [hg,hg',hd,num_run h,e1,e2,e3,e4,e5,h1,h2,lives,bindO,show ((1 : Int) == 0) = false from rfl,show ((0 : Int) == 0) = true from rfl,cond_true,cond_false,Bool.and_self,List.drop_zero]
   cases hD : D m k (decide (q < p)) with
   | false => rfl
   | true =>
     simp only [D_app hD]
     rfl
end Mr
end Go.Proofs.YtcnlccpihknehaaDoor
