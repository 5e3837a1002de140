/-
  What the proof stands on.
-/
import Derived.Test.YtcnlccpihknehaaDoorMT6QMd
import Derived.Test.YtcnlccpihknehaaDoorMT6QMu
import Derived.Test.YtcnlccpihknehaaDoorMT6QMw
set_option linter.all false
namespace Go.Proofs.YtcnlccpihknehaaDoor
open Go.Abs
namespace Mr
open Pl
abbrev Op := Bool × Int
abbrev El := Int × List Op
abbrev Ac := Nat × Op
def chk : Int → List Op → Option Int
 | c,[] => some c
 | c,o :: l => if o.1 = false ∧ o.2 ≠ c then none else chk o.2 l
theorem chk_app : ∀ (l l' : List Op) (c : Int),chk c (l ++ l') = (chk c l).bind fun d => chk d l'
 | [],l',c => rfl
 | o :: l,l',c => by
   simp only [List.cons_append,chk]
   split
   · rfl
   · exact chk_app l l' o.2
structure V (m : List El) : Prop where
 pos : 0 < m.length
 len : m.length ≤ 32
 ord : ∀ e ∈ m,0 ≤ e.1 ∧ e.1 ≤ 2
 ne : ∀ e ∈ m,0 < e.2.length
 le : ∀ e ∈ m,e.2.length ≤ 16
 bit : ∀ e ∈ m,∀ o ∈ e.2,Bit o.2
 st : (chk 2 (m.flatMap (·.2))).isSome = true
def desc (o : Int) (down : Bool) : Bool := if o = 2 then true else if o = 0 then down else false
def addrs (n : Nat) (d : Bool) : List Nat := if d = true then (List.range n).reverse else List.range n
def vis (s : List Nat) (l : List Op) : List Ac := s.flatMap fun a => l.map fun o => (a,o)
def acs (n : Nat) (down : Bool) (m : List El) : List Ac := m.flatMap fun e => vis (addrs n (desc e.1 down)) e.2
def bad (b : Bool) (k : Int) (p q : Nat) : List Int → List Ac → Bool
 | _,[] => false
 | c,x :: w => if x.2.1 = true then bad b k p q (wrt b k p q c x.1 x.2.2) w else decide (rdv b k p q c x.1 ≠ x.2.2) || bad b k p q c w
structure Vw (k : Int) (p q : Nat) (c : List Int) (p' q' : Nat) (c' : List Int) : Prop where
 pl : p < c.length
 pl' : p' < c'.length
 ep : at0 c p = at0 c' p'
 ql : sing k = false → q < c.length
 ql' : sing k = false → q' < c'.length
 ne : sing k = false → q ≠ p
 ne' : sing k = false → q' ≠ p'
 eq : sing k = false → at0 c q = at0 c' q'
def Co (k : Int) (p q p' q' x x' : Nat) : Prop := (x = p ∧ x' = p') ∨ (sing k = false ∧ x = q ∧ x' = q')
section
variable {k : Int} {p q p' q' : Nat} {c c' : List Int}
theorem Vw.set (h : Vw k p q c p' q' c') {x x' : Nat} (hx : Co k p q p' q' x x') (v : Int) : Vw k p q (c.set x v) p' q' (c'.set x' v) := by
 have h1 := h.pl; have h2 := h.pl'
 refine ⟨by simpa using h.pl,by simpa using h.pl',?_,fun e => by simpa using h.ql e,fun e => by simpa using h.ql' e,h.ne,h.ne',fun e => ?_⟩
 · rw [at_set,at_set]
   rcases hx with ⟨rfl,rfl⟩ | ⟨e,rfl,rfl⟩
   · simp [h1,h2]
   · rw [if_neg (fun e' => h.ne e e'.1),if_neg (fun e' => h.ne' e e'.1)]; exact h.ep
 · have h3 := h.ql e; have h4 := h.ql' e
   rw [at_set,at_set]
   rcases hx with ⟨rfl,rfl⟩ | ⟨_,rfl,rfl⟩
   · rw [if_neg (fun e' => h.ne e e'.1.symm),if_neg (fun e' => h.ne' e e'.1.symm)]; exact h.eq e
   · simp [h3,h4]
theorem Vw.at (h : Vw k p q c p' q' c') {x x' : Nat} (hx : Co k p q p' q' x x') : at0 c x = at0 c' x' := by
 rcases hx with ⟨rfl,rfl⟩ | ⟨e,rfl,rfl⟩
 · exact h.ep
 · exact h.eq e
theorem sing10 (h : 10 ≤ k) (h' : k ≤ 13) : sing k = false := by unfold sing; simp; omega
theorem Vw.hold (h : Vw k p q c p' q' c') : Vw k p q (hold k p q c) p' q' (hold k p' q' c') := by
 unfold Pl.hold
 by_cases h1 : 10 ≤ k ∧ k ≤ 13
 · have e := h.eq (sing10 h1.1 h1.2)
   simp only [h1.1,h1.2,true_and,e]
   split
   · exact h.set (.inl ⟨rfl,rfl⟩) _
   · exact h
 · rw [if_neg (fun e => h1 ⟨e.1,e.2.1⟩),if_neg (fun e => h1 ⟨e.1,e.2.1⟩)]; exact h
theorem Vw.couple (h : Vw k p q c p' q' c') (v : Int) : Vw k p q (couple k p c v) p' q' (couple k p' c' v) := by
 unfold Pl.couple
 rw [h.ep]
 repeat' split
 all_goals first | exact h.set (.inl ⟨rfl,rfl⟩) _ | exact h
theorem Co.isP (h : Vw k p q c p' q' c') {x x' : Nat} (hx : Co k p q p' q' x x') : (x = p) = (x' = p') := by
 rcases hx with ⟨rfl,rfl⟩ | ⟨e,rfl,rfl⟩
 · simp
 · simp [h.ne e,h.ne' e]
theorem Co.isQ (h : Vw k p q c p' q' c') {x x' : Nat} (hx : Co k p q p' q' x x') (e : sing k = false) : (x = q) = (x' = q') := by
 rcases hx with ⟨rfl,rfl⟩ | ⟨e,rfl,rfl⟩
 · have h1 := h.ne e; have h2 := h.ne' e
   simp [Ne.symm h1,Ne.symm h2]
 · simp
theorem Vw.st (h : Vw k p q c p' q' c') {x x' : Nat} (hx : Co k p q p' q' x x') (v : Int) : Vw k p q (st k p q c x v) p' q' (st k p' q' c' x' v) := by
 unfold Pl.st
 have e1 := hx.isP h
 have e3 := h.at hx
 simp only [e1,e3]
 split
 · exact h
 · cases hs : sing k with
   | true =>
     simp only [Bool.true_eq_false,and_false,if_false]
     exact (h.set hx v).hold
   | false =>
     have e2 := hx.isQ h hs
     simp only [e2]
     split
     · exact ((h.set hx v).couple v).hold
     · exact (h.set hx v).hold
theorem Vw.wrt (h : Vw k p q c p' q' c') {x x' : Nat} (hx : Co k p q p' q' x x') (v : Int) : Vw k p q (wrt false k p q c x v) p' q' (wrt false k p' q' c' x' v) := by
 have e1 := hx.isP h
 unfold Pl.wrt accs
 simp only [e1,true_and]
 by_cases e : x' = p'
 · simp only [e,if_true]
   by_cases h1 : k = 14 ∨ k = 15
   · simp only [h1,if_true,List.foldl_nil]; exact h
   · simp only [h1,if_false]
     by_cases h2 : k = 16
     · simp only [h2,if_true,List.foldl_cons,List.foldl_nil,sto,Bool.false_eq_true,if_false]
       subst h2
       exact h.st (.inr ⟨rfl,rfl,rfl⟩) v
     · simp only [h2,if_false]
       by_cases h3 : k = 17 ∨ k = 18
       · have hs : sing k = false := by rcases h3 with e | e <;> subst e <;> rfl
         simp only [h3,if_true,List.foldl_cons,List.foldl_nil,sto,Bool.false_eq_true,if_false]
         exact (h.st (.inl ⟨rfl,rfl⟩) v).st (.inr ⟨hs,rfl,rfl⟩) v
       · simp only [h3,if_false,List.foldl_cons,List.foldl_nil,sto,Bool.false_eq_true]
         exact e ▸ h.st hx v
 · simp only [e,if_false,List.foldl_cons,List.foldl_nil,sto,Bool.false_eq_true]
   exact h.st hx v
theorem Vw.rdv (h : Vw k p q c p' q' c') {x x' : Nat} (hx : Co k p q p' q' x x') : rdv false k p q c x = rdv false k p' q' c' x' := by
 have e1 := hx.isP h
 have e2 := h.at hx
 unfold Pl.rdv
 simp only [e1,e2,true_and,h.ep]
 by_cases h3 : k = 16 ∨ k = 17 ∨ k = 18
 · have hs : sing k = false := by rcases h3 with e | e | e <;> subst e <;> rfl
   rw [h.eq hs]
 · have a1 : ¬ k = 16 := fun e => h3 (.inl e)
   have a2 : ¬ k = 17 := fun e => h3 (.inr (.inl e))
   have a3 : ¬ k = 18 := fun e => h3 (.inr (.inr e))
   simp only [a1,a2,a3,if_false]
theorem Vw.ini (h : Vw k p q c p' q' c') : Vw k p q (ini false k p q c) p' q' (ini false k p' q' c') := by
 unfold Pl.ini
 simp only [Bool.false_eq_true,if_false]
 split
 · exact (h.set (.inl ⟨rfl,rfl⟩) k).hold
 · exact h.hold
def Hd (k : Int) (p q : Nat) (c : List Int) : Prop := 10 ≤ k → k ≤ 13 → at0 c q = (k - 10) / 2 → at0 c p = (k - 10) % 2
theorem Hd.hold (hp : p < c.length) (hne : sing k = false → q ≠ p) : Hd k p q (hold k p q c) := fun h1 h2 h3 => by
 have hs := hne (sing10 h1 h2)
 unfold Pl.hold at h3 ⊢
 by_cases e : at0 c q = (k - 10) / 2
 · rw [if_pos ⟨h1,h2,e⟩,at_set,if_pos ⟨rfl,hp⟩]
 · rw [if_neg (fun e' => e e'.2.2)] at h3
   exact absurd h3 e
theorem Hd.st (h : Hd k p q c) (hp : p < c.length) (hne : sing k = false → q ≠ p) (x : Nat) (v : Int) : Hd k p q (st k p q c x v) := by
 unfold Pl.st
 split
 · exact h
 · refine Hd.hold ?_ hne
   split
   · rw [couple_len]; simpa using hp
   · simpa using hp
theorem Hd.wrt (h : Hd k p q c) (hp : p < c.length) (hne : sing k = false → q ≠ p) (x : Nat) (v : Int) : Hd k p q (wrt false k p q c x v) := by
 unfold Pl.wrt
 have : ∀ (l : List Nat) (c : List Int),Hd k p q c → p < c.length → Hd k p q (l.foldl (fun c x => sto false k p q c x v) c) := by
   intro l
   induction l with
   | nil => exact fun c h _ => h
   | cons y l ih =>
     intro c h hp
     refine ih _ ?_ (by rw [sto_len]; exact hp)
     show Hd k p q (sto false k p q c y v)
     simp only [sto,Bool.false_eq_true,if_false]
     exact h.st hp hne y v
 exact this _ c h hp
theorem Hd.ini (hp : p < c.length) (hne : sing k = false → q ≠ p) : Hd k p q (ini false k p q c) := by
 unfold Pl.ini
 simp only [Bool.false_eq_true,if_false]
 split
 · exact Hd.hold (by simpa using hp) hne
 · exact Hd.hold hp hne
theorem Vw.far (h : Vw k p q c p' q' c') (hh : Hd k p q c) {x : Nat} (h1 : x ≠ p) (h2 : sing k = false → x ≠ q) (v : Int) : Vw k p q (Pl.wrt false k p q c x v) p' q' c' := by
 have e : Pl.wrt false k p q c x v = Pl.hold k p q (c.set x v) := by
   unfold Pl.wrt accs
   simp only [h1,and_false,if_false,List.foldl_cons,List.foldl_nil,sto,Bool.false_eq_true]
   unfold Pl.st
   rw [if_neg (fun e => h1 e.1),if_neg (fun e => h2 e.2.2 e.1)]
 rw [e]
 have hpl := h.pl
 have e1 : at0 (c.set x v) p = at0 c p := by rw [at_set,if_neg (fun e => h1 e.1)]
 refine ⟨by rw [hold_len]; simpa using h.pl,h.pl',?_,fun s => by rw [hold_len]; simpa using h.ql s,h.ql',h.ne,h.ne',fun s => ?_⟩
 · rw [← h.ep]
   unfold Pl.hold
   split
   · rename_i h3
     have hs := sing10 h3.1 h3.2.1
     rw [at_set,if_neg (fun e => h2 hs e.1)] at h3
     rw [at_set,if_pos ⟨rfl,by simpa using hpl⟩,hh h3.1 h3.2.1 h3.2.2]
   · exact e1
 · rw [hold_at (h.ne s),at_set,if_neg (fun e => h2 s e.1)]
   exact h.eq s
end
def opsAt (j : Nat) (w : List Ac) : List Op := w.filterMap fun x => if x.1 = j then some x.2 else none
def Far (b : Bool) (k : Int) (p q : Nat) (c : List Int) (w : List Ac) : Prop := ∀ j,j < c.length → far b k p q j → ∃ s,(s = 2 ∨ s = at0 c j) ∧ (chk s (opsAt j w)).isSome = true
def pj (k : Int) (p q p' q' : Nat) (x : Ac) : Option Ac := if x.1 = p then some (p',x.2) else if sing k = false ∧ x.1 = q then some (q',x.2) else none
theorem Far.wr {b : Bool} {k : Int} {p q a : Nat} {c : List Int} {v : Int} {w : List Ac} (hb : Bin c) (hv : Bit v) (h : Far b k p q c ((a,(true,v)) :: w)) : Far b k p q (wrt b k p q c a v) w := fun j hj hf => by
 rw [wrt_len hb hv] at hj
 obtain ⟨s,h1,h2⟩ := h j hj hf
 rw [wrt_at hf hj]
 unfold opsAt at h2 ⊢
 rw [List.filterMap_cons] at h2
 by_cases e : a = j
 · simp only [e,if_true,chk,Bool.true_eq_false,false_and,if_false] at h2
   exact ⟨v,by simp [e],h2⟩
 · simp only [e,if_false] at h2
   exact ⟨s,by simpa [e] using h1,h2⟩
theorem Far.rd {b : Bool} {k : Int} {p q a : Nat} {c : List Int} {v : Int} {w : List Ac} (h : Far b k p q c ((a,(false,v)) :: w)) : Far b k p q c w := fun j hj hf => by
 obtain ⟨s,h1,h2⟩ := h j hj hf
 unfold opsAt at h2 ⊢
 rw [List.filterMap_cons] at h2
 by_cases e : a = j
 · simp only [e,if_true,chk,true_and] at h2
   split at h2
   · cases h2
   · rename_i h3
     have h3 : v = s := Decidable.not_not.1 h3
     exact ⟨s,h1,h3 ▸ h2⟩
 · simp only [e,if_false] at h2
   exact ⟨s,h1,h2⟩
theorem Far.ok {b : Bool} {k : Int} {p q a : Nat} {c : List Int} {v : Int} {w : List Ac} (hv : Bit v) (h : Far b k p q c ((a,(false,v)) :: w)) (ha : a < c.length) (hf : far b k p q a) : rdv b k p q c a = v := by
 obtain ⟨s,h1,h2⟩ := h a ha hf
 rw [rdv_at hf]
 unfold opsAt at h2
 rw [List.filterMap_cons] at h2
 simp only [if_true,chk,true_and] at h2
 split at h2
 · cases h2
 · rename_i h3
   have h3 : v = s := Decidable.not_not.1 h3
   rcases h1 with h1 | h1
   · rcases hv with e | e <;> omega
   · rw [h3,h1]
theorem sim {k : Int} {p q p' q' : Nat} : ∀ (w : List Ac) {c c' : List Int},Vw k p q c p' q' c' → Hd k p q c → Far false k p q c w → Bin c → (∀ x ∈ w,x.1 < c.length ∧ Bit x.2.2) →
   bad false k p q c w = bad false k p' q' c' (w.filterMap (pj k p q p' q'))
 | [],c,c',_,_,_,_,_ => rfl
 | (a,(o,v)) :: w,c,c',h,hh,hF,hb,hw => by
   obtain ⟨ha,hv⟩ := hw (a,(o,v)) (by simp)
   have hw' : ∀ x ∈ w,x.1 < c.length ∧ Bit x.2.2 := fun x hx => hw x (List.mem_cons_of_mem _ hx)
   have hv : Bit v := hv
   have ha : a < c.length := ha
   have hlen : (wrt false k p q c a v).length = c.length := wrt_len hb hv
   rw [List.filterMap_cons]
   cases o with
   | true =>
     have hF' := Far.wr hb hv hF
     have hh' := hh.wrt h.pl h.ne a v
     have hb' : Bin (wrt false k p q c a v) := wrt_bin hb hv
     have ih := fun (c' : List Int) (hV : Vw k p q (wrt false k p q c a v) p' q' c') => sim w hV hh' hF' hb' (fun x hx => by rw [hlen]; exact hw' x hx)
     by_cases h1 : a = p
     · have e : pj k p q p' q' (a,(true,v)) = some (p',(true,v)) := by simp [pj,h1]
       rw [e]
       simp only [bad,if_true]
       exact ih _ (h.wrt (.inl ⟨h1,rfl⟩) v)
     · by_cases h2 : sing k = false ∧ a = q
       · have e : pj k p q p' q' (a,(true,v)) = some (q',(true,v)) := by
           unfold pj
           rw [if_neg h1,if_pos h2]
         rw [e]
         simp only [bad,if_true]
         exact ih _ (h.wrt (.inr ⟨h2.1,h2.2,rfl⟩) v)
       · have e : pj k p q p' q' (a,(true,v)) = none := by
           unfold pj
           rw [if_neg h1,if_neg h2]
         rw [e]
         simp only [bad,if_true]
         exact ih _ (h.far hh h1 (fun s e => h2 ⟨s,e⟩) v)
   | false =>
     have ih := sim w h hh hF.rd hb hw'
     by_cases h1 : a = p
     · have e : pj k p q p' q' (a,(false,v)) = some (p',(false,v)) := by simp [pj,h1]
       rw [e]
       simp only [bad,Bool.false_eq_true,if_false,ih,h.rdv (.inl ⟨h1,rfl⟩)]
     · by_cases h2 : sing k = false ∧ a = q
       · have e : pj k p q p' q' (a,(false,v)) = some (q',(false,v)) := by
           unfold pj
           rw [if_neg h1,if_pos h2]
         rw [e]
         simp only [bad,Bool.false_eq_true,if_false,ih,h.rdv (.inr ⟨h2.1,h2.2,rfl⟩)]
       · have e : pj k p q p' q' (a,(false,v)) = none := by
           unfold pj
           rw [if_neg h1,if_neg h2]
         rw [e]
         have hf : far false k p q a := .inr ⟨h1,by
           cases hs : sing k with
           | true => exact .inl rfl
           | false => exact .inr fun e => h2 ⟨hs,e⟩⟩
         have := hF.ok hv ha hf
         simp only [bad,Bool.false_eq_true,if_false,ih,this,ne_eq,not_true_eq_false,decide_false,Bool.false_or]
end Mr
end Go.Proofs.YtcnlccpihknehaaDoor
namespace Go.Proofs.YtcnlccpihknehaaDoor
open Go.Abs
namespace Mr
open Pl
theorem fm_none {β : Type} {f : Nat → Option β} : ∀ {n : Nat},(∀ j,j < n → f j = none) → (List.range n).filterMap f = []
 | 0,_ => rfl
 | n + 1,h => by
   rw [List.range_succ,List.filterMap_append,fm_none (fun j hj => h j (by omega))]
   simp [h n (by omega)]
theorem fm_one {β : Type} {f : Nat → Option β} {p : Nat} {x : β} (hp : f p = some x) : ∀ {n : Nat},p < n → (∀ j,j < n → j ≠ p → f j = none) → (List.range n).filterMap f = [x]
 | 0,h,_ => by omega
 | n + 1,h,hn => by
   rw [List.range_succ,List.filterMap_append]
   by_cases e : p = n
   · subst e
     rw [fm_none (fun j hj => hn j (by omega) (by omega))]
     simp [hp]
   · rw [fm_one hp (by omega) (fun j hj => hn j (by omega))]
     simp [hn n (by omega) (Ne.symm e)]
theorem fm_two {β : Type} {f : Nat → Option β} {l h : Nat} {x y : β} (hlh : l < h) (hl : f l = some x) (hh : f h = some y) : ∀ {n : Nat},h < n → (∀ j,j < n → j ≠ l → j ≠ h → f j = none) → (List.range n).filterMap f = [x,y]
 | 0,h,_ => by omega
 | n + 1,h',hn => by
   rw [List.range_succ,List.filterMap_append]
   by_cases e : h = n
   · subst e
     rw [fm_one hl hlh (fun j hj hj' => hn j (by omega) hj' (by omega))]
     simp [hh]
   · rw [fm_two hlh hl hh (by omega) (fun j hj => hn j (by omega))]
     simp [hn n (by omega) (by omega) (Ne.symm e)]
theorem fm_addrs {β : Type} {f : Nat → Option β} {n : Nat} {d : Bool} : (addrs n d).filterMap f = if d = true then ((List.range n).filterMap f).reverse else (List.range n).filterMap f := by
 unfold addrs; split
 · rw [List.filterMap_reverse]
 · rfl
theorem fm_vis {f : Nat → Option Nat} {g : Ac → Option Ac} (hg : ∀ a o,g (a,o) = (f a).map fun x => (x,o)) (s : List Nat) (l : List Op) : (vis s l).filterMap g = vis (s.filterMap f) l := by
 unfold vis
 induction s with
 | nil => rfl
 | cons a s ih =>
   rw [List.flatMap_cons,List.filterMap_append,ih,List.filterMap_cons]
   cases h : f a with
   | none =>
     have : (l.map fun o => (a,o)).filterMap g = [] := by
       rw [List.filterMap_map]
       simp [Function.comp_def,hg,h]
     rw [this]; rfl
   | some x =>
     have : (l.map fun o => (a,o)).filterMap g = l.map fun o => (x,o) := by
       rw [List.filterMap_map]
       simp [Function.comp_def,hg,h]
     rw [this,List.flatMap_cons]
theorem fm_flat {α β γ : Type} (f : β → Option γ) (g : α → List β) : ∀ (l : List α),(l.flatMap g).filterMap f = l.flatMap fun a => (g a).filterMap f
 | [] => rfl
 | a :: l => by rw [List.flatMap_cons,List.filterMap_append,fm_flat f g l,List.flatMap_cons]
theorem ops_acs {n j : Nat} (hj : j < n) (down : Bool) (m : List El) : opsAt j (acs n down m) = m.flatMap (·.2) := by
 unfold opsAt acs
 rw [fm_flat]
 congr 1
 funext e
 have h1 : ∀ s : List Nat,(vis s e.2).filterMap (fun x => if x.1 = j then some x.2 else none) = (s.filterMap fun a => if a = j then some () else none).flatMap fun _ => e.2 := fun s => by
   unfold vis
   induction s with
   | nil => rfl
   | cons a s ih =>
     rw [List.flatMap_cons,List.filterMap_append,ih,List.filterMap_cons,List.filterMap_map]
     by_cases h : a = j
     · simp [Function.comp_def,h]
     · simp [Function.comp_def,h]
 rw [h1,fm_addrs,fm_one (p := j) (x := ()) (by simp) hj (fun i _ h => by simp [h])]
 cases desc e.1 down <;> simp
def pw (above down : Bool) (m : List El) : List Ac := m.flatMap fun e => vis (if desc e.1 down = above then [0,1] else [1,0]) e.2
def sw (m : List El) : List Ac := m.flatMap fun e => vis [0] e.2
theorem proj2 {k : Int} {p q n : Nat} (hs : sing k = false) (hp : p < n) (hq : q < n) (hne : q ≠ p) (down : Bool) (m : List El) : (acs n down m).filterMap (pj k p q 0 1) = pw (decide (q < p)) down m := by
 unfold acs pw
 rw [fm_flat]
 congr 1
 funext e
 have hg : ∀ a o,pj k p q 0 1 (a,o) = ((fun a => if a = p then some 0 else if a = q then some 1 else none : Nat → Option Nat) a).map fun x => (x,o) := fun a o => by
   unfold pj
   simp only [hs,true_and]
   split
   · rfl
   · split <;> rfl
 rw [fm_vis hg,fm_addrs]
 have hn : ∀ j,j ≠ p → j ≠ q → (if j = p then some 0 else if j = q then some 1 else none : Option Nat) = none := fun j h1 h2 => by simp [h1,h2]
 by_cases h : q < p
 · rw [fm_two (l := q) (h := p) (x := 1) (y := 0) h (by simp [hne]) (by simp) hp (fun j _ h1 h2 => hn j h2 h1)]
   cases desc e.1 down <;> simp [h]
 · rw [fm_two (l := p) (h := q) (x := 0) (y := 1) (by omega) (by simp) (by simp [hne]) hq (fun j _ h1 h2 => hn j h1 h2)]
   cases desc e.1 down <;> simp [h]
theorem proj1 {k : Int} {p q q' n : Nat} (hs : sing k = true) (hp : p < n) (down : Bool) (m : List El) : (acs n down m).filterMap (pj k p q 0 q') = sw m := by
 unfold acs sw
 rw [fm_flat]
 congr 1
 funext e
 have hg : ∀ a o,pj k p q 0 q' (a,o) = ((fun a => if a = p then some 0 else none : Nat → Option Nat) a).map fun x => (x,o) := fun a o => by
   unfold pj
   simp only [hs,Bool.true_eq_false,false_and,if_false]
   split <;> rfl
 rw [fm_vis hg,fm_addrs,fm_one (p := p) (x := 0) (by simp) hp (fun j _ h => by simp [h])]
 cases desc e.1 down <;> simp
theorem addrs_lt {n : Nat} {d : Bool} {a : Nat} (h : a ∈ addrs n d) : a < n := by
 unfold addrs at h
 split at h
 · simpa using h
 · simpa using h
theorem acs_ok {m : List El} (hm : V m) {n : Nat} {down : Bool} {x : Ac} (hx : x ∈ acs n down m) : x.1 < n ∧ Bit x.2.2 := by
 unfold acs vis at hx
 simp only [List.mem_flatMap,List.mem_map] at hx
 obtain ⟨e,he,a,ha,o,ho,rfl⟩ := hx
 exact ⟨addrs_lt ha,hm.bit e he o ho⟩
theorem acs_far {b : Bool} {k : Int} {p q n : Nat} {m : List El} (hm : V m) {c : List Int} (hc : c.length = n) (down : Bool) : Far b k p q c (acs n down m) := fun j hj _ =>
 ⟨2,.inl rfl,by rw [ops_acs (hc ▸ hj)]; exact hm.st⟩
def D1 (m : List El) (k x : Int) : Bool := bad false k 0 0 (ini false k 0 0 [x]) (sw m)
def D2 (m : List El) (k : Int) (above down : Bool) (x y : Int) : Bool := bad false k 0 1 (ini false k 0 1 [x,y]) (pw above down m)
def D (m : List El) (k : Int) (above : Bool) : Bool := if sing k = true then D1 m k 0 && D1 m k 1 else D2 m k above false 0 0 && D2 m k above true 0 0 && (D2 m k above false 1 0 && D2 m k above true 1 0) && (D2 m k above false 0 1 && D2 m k above true 0 1) && (D2 m k above false 1 1 && D2 m k above true 1 1)
theorem loc {k : Int} {p q n : Nat} (ok : Ok false k p q n) {m : List El} (hm : V m) {c : List Int} (hc : c.length = n) (hb : Bin c) (down : Bool) :
   bad false k p q (ini false k p q c) (acs n down m) = if sing k = true then D1 m k (at0 c p) else D2 m k (decide (q < p)) down (at0 c p) (at0 c q) := by
 have hp := ok.pl; have hq := ok.ql
 have hi : (ini false k p q c).length = n := (ini_len ..).trans hc
 have hib : Bin (ini false k p q c) := ini_bin ok.lo hb
 have hW : ∀ x ∈ acs n down m,x.1 < (ini false k p q c).length ∧ Bit x.2.2 := fun x hx => by rw [hi]; exact acs_ok hm hx
 have hF := acs_far (b := false) (k := k) (p := p) (q := q) hm hi down
 cases hs : sing k with
 | true =>
   have hv : Vw k p q c 0 0 [at0 c p] := ⟨hc ▸ hp,by simp,rfl,fun e => (by rw [hs] at e; cases e),fun e => (by rw [hs] at e; cases e),fun e => (by rw [hs] at e; cases e),fun e => (by rw [hs] at e; cases e),fun e => (by rw [hs] at e; cases e)⟩
   have hd : Hd k p q (ini false k p q c) := Hd.ini (hc ▸ hp) hv.ne
   rw [sim _ hv.ini hd hF hib hW,proj1 hs hp]
   rfl
 | false =>
   have hne := ok.ne rfl hs
   have hv : Vw k p q c 0 1 [at0 c p,at0 c q] := ⟨hc ▸ hp,by simp,rfl,fun _ => hc ▸ hq,fun _ => by simp,fun _ => hne,fun _ => by decide,fun _ => rfl⟩
   have hd : Hd k p q (ini false k p q c) := Hd.ini (hc ▸ hp) hv.ne
   rw [sim _ hv.ini hd hF hib hW,proj2 hs hp hq hne]
   rfl
end Mr
end Go.Proofs.YtcnlccpihknehaaDoor
namespace Go.Proofs.YtcnlccpihknehaaDoor
open Go.Abs
namespace Mr
open Pl
theorem iter_for {X Y : Type} {step : X → Option (X ⊕ Y)} (S : Nat → X) {n : Nat} {y : Y} (h : ∀ i,i < n → step (S i) = some (.inl (S (i + 1)))) (he : step (S n) = some (.inr y)) : iter step (S 0) = some y := by
 have : ∀ j i,i + j = n → iter step (S i) = some y := by
   intro j
   induction j with
   | zero => intro i hi; have e : i = n := by omega
             subst e; rw [iter_eq,he]
   | succ j ih => intro i hi; rw [iter_eq,h i (by omega)]; exact ih (i + 1) (by omega)
 exact this n 0 (by omega)
theorem getD_at {α : Type} {l : List α} {i : Nat} (h : i < l.length) (d : α) : l[(i : Int).toNat]?.getD d = l[i] := by simp [h]
theorem suc {i : Nat} (h : i < 9000000000000000000) : IntKind.i64.wrap ((i : Int) + 1) = ((i + 1 : Nat) : Int) := by rw [w64 (by omega) (by omega)]; omega
theorem bit_le {v : Int} (h : Bit v) : decide (v > 1) = false := by rcases h with h | h <;> subst h <;> rfl
theorem m75 {l : List Op} (hl : l.length ≤ 16) (hb : ∀ o ∈ l,Bit o.2) : M75.m ⟨l⟩ = some false := by
 have h : iter M95.s0 ⟨l,(l.length : Int),((0 : Nat) : Int)⟩ = some (.inl ()) := by
   refine iter_for (step := M95.s0) (fun i => ⟨l,(l.length : Int),(i : Int)⟩) (n := l.length) (fun i hi => ?_) ?_
   · have e1 : ((i : Int) < (l.length : Int)) := by omega
     unfold M95.s0 M76.m
     simp only [e1,inR_nat hi,getD_at hi,bit_le (hb _ (List.getElem_mem hi)),suc (show i < 9000000000000000000 by omega),decide_true,cond_true,cond_false,bindO]
   · unfold M95.s0
     simp
 have h : iter M95.s0 ⟨l,(l.length : Int),0⟩ = some (.inl ()) := h
 unfold M75.m M95.m
 simp only [h,bindO,sumC]
 rfl
theorem m74 {o : Int} {l : List Op} (ho : 0 ≤ o ∧ o ≤ 2) (h0 : 0 < l.length) (hl : l.length ≤ 16) (hb : ∀ o ∈ l,Bit o.2) : M74.m ⟨o,l⟩ = some false := by
 have e1 : ((l.length : Int) == 0) = false := by simp; intro h; rw [h] at h0; simp at h0
 have e2 : ¬ (o > 2) := by omega
 unfold M74.m
 simp only [e1,e2,m75 hl hb,decide_false,cond_false,Bool.not_false,cond_true,bindO]
theorem m43 {m : List El} (hm : V m) : M43.m ⟨m⟩ = some 0 := by
 have hz := hm.len; have hp := hm.pos
 have h : iter M94a.s0 ⟨m,(m.length : Int),((0 : Nat) : Int)⟩ = some (.inl ()) := by
   refine iter_for (step := M94a.s0) (fun i => ⟨m,(m.length : Int),(i : Int)⟩) (n := m.length) (fun i hi => ?_) ?_
   · have e1 : ((i : Int) < (m.length : Int)) := by omega
     have e2 : ¬ (((m[i].2).length : Int) > 16) := by have := hm.le _ (List.getElem_mem hi); omega
     unfold M94a.s0 M73.m
     simp only [e1,inR_nat hi,getD_at hi,e2,suc (show i < 9000000000000000000 by omega),decide_true,decide_false,cond_true,cond_false,bindO]
   · unfold M94a.s0
     simp
 have h' : iter M94b.s0 ⟨m,(m.length : Int),((0 : Nat) : Int)⟩ = some (.inl ()) := by
   refine iter_for (step := M94b.s0) (fun i => ⟨m,(m.length : Int),(i : Int)⟩) (n := m.length) (fun i hi => ?_) ?_
   · have e1 : ((i : Int) < (m.length : Int)) := by omega
     have hi' := List.getElem_mem hi
     unfold M94b.s0
     simp only [e1,inR_nat hi,getD_at hi,m74 (hm.ord _ hi') (hm.ne _ hi') (hm.le _ hi') (hm.bit _ hi'),suc (show i < 9000000000000000000 by omega),decide_true,cond_true,cond_false,bindO]
   · unfold M94b.s0
     simp
 have h : iter M94a.s0 ⟨m,(m.length : Int),0⟩ = some (.inl ()) := h
 have h' : iter M94b.s0 ⟨m,(m.length : Int),0⟩ = some (.inl ()) := h'
 have e1 : ¬ ((m.length : Int) > 32) := by omega
 have e2 : ((m.length : Int) == 0) = false := by simp; intro h; rw [h] at hp; simp at hp
 unfold M43.m M72a.m M94a.m M72b.m M94b.m
 simp only [e1,e2,h,h',decide_false,cond_false,Bool.not_false,cond_true,bindO,sumC]
 rfl
def aft (c : Int) (l : List Op) : Int := (chk c l).getD 0
theorem chk_take {l : List Op} {c : Int} (h : (chk c l).isSome = true) {i : Nat} (hi : i < l.length) : (l[i].1 = false → l[i].2 = aft c (l.take i)) ∧ aft c (l.take (i + 1)) = l[i].2 := by
 have e : l = l.take i ++ (l[i] :: l.drop (i + 1)) := by rw [← List.drop_eq_getElem_cons hi,List.take_append_drop]
 rw [e,chk_app] at h
 unfold aft
 rw [List.take_succ_eq_append_getElem hi,chk_app]
 cases h1 : chk c (l.take i) with
 | none => rw [h1] at h; cases h
 | some d =>
   rw [h1] at h
   simp only [Option.bind_some,chk] at h
   split at h
   · cases h
   · rename_i h2
     simp only [Option.bind_some,chk,Option.getD_some]
     refine ⟨fun h3 => Decidable.byContradiction fun h4 => h2 ⟨h3,h4⟩,?_⟩
     rw [if_neg h2]
     rfl
theorem chk_some {l : List Op} {c : Int} (h : (chk c l).isSome = true) : chk c l = some (aft c l) := by
 unfold aft
 cases h1 : chk c l with
 | none => rw [h1] at h; cases h
 | some d => rfl
theorem m19_in {m : List El} {n i0 c : Int} {l : List Op} (hl : l.length ≤ 16) (h : (chk c l).isSome = true) : iter M19.s1 ⟨m,n,i0,c,l,(l.length : Int),0⟩ = some (.inl ⟨m,n,i0,aft c l⟩) := by
 have key : iter M19.s1 ⟨m,n,i0,aft c (l.take 0),l,(l.length : Int),((0 : Nat) : Int)⟩ = some (.inl ⟨m,n,i0,aft c l⟩) := by
   refine iter_for (step := M19.s1) (fun i => ⟨m,n,i0,aft c (l.take i),l,(l.length : Int),(i : Int)⟩) (n := l.length) (fun i hi => ?_) ?_
   · have e1 : ((i : Int) < (l.length : Int)) := by omega
     obtain ⟨h1,h2⟩ := chk_take h hi
     have e2 : (bif !l[i].1 then l[i].2 != aft c (l.take i) else false) = false := by
       cases h3 : l[i].1 with
       | true => rfl
       | false => simp [h1 h3]
     unfold M19.s1
     simp only [e1,inR_nat hi,getD_at hi,e2,h2,suc (show i < 9000000000000000000 by omega),decide_true,cond_true,cond_false]
   · unfold M19.s1
     simp
 exact key
theorem m19 {m : List El} (hm : V m) : M19.m ⟨m⟩ = some 0 := by
 have hz := hm.len
 let C := fun i => aft 2 ((m.take i).flatMap (·.2))
 have hC : ∀ i,(chk 2 ((m.take i).flatMap (·.2))).isSome = true := fun i => by
   have h := hm.st
   rw [← List.take_append_drop i m,List.flatMap_append,chk_app] at h
   cases h1 : chk 2 ((m.take i).flatMap (·.2)) with
   | none => rw [h1] at h; cases h
   | some d => rfl
 have key : iter M19.s0 ⟨m,(m.length : Int),((0 : Nat) : Int),C 0⟩ = some (.inl ()) := by
   refine iter_for (step := M19.s0) (fun i => ⟨m,(m.length : Int),(i : Int),C i⟩) (n := m.length) (fun i hi => ?_) ?_
   · have e1 : ((i : Int) < (m.length : Int)) := by omega
     have h1 := hC (i + 1)
     rw [List.take_succ_eq_append_getElem hi,List.flatMap_append,chk_app,chk_some (hC i)] at h1
     have h1 : (chk (C i) m[i].2).isSome = true := by simpa using h1
     have h2 : aft (C i) m[i].2 = C (i + 1) := by
       show _ = aft 2 _
       unfold aft
       rw [List.take_succ_eq_append_getElem hi,List.flatMap_append,chk_app,chk_some (hC i)]
       simp [C,aft]
     unfold M19.s0
     simp only [e1,inR_nat hi,getD_at hi,m19_in (hm.le _ (List.getElem_mem hi)) h1,h2,suc (show i < 9000000000000000000 by omega),decide_true,cond_true,bindO,sumC]
   · unfold M19.s0
     simp
 have key : iter M19.s0 ⟨m,(m.length : Int),0,2⟩ = some (.inl ()) := key
 unfold M19.m
 simp only [m43 hm,key,bindO,sumC]
 rfl
def lenM (m : List El) : Nat := (m.map (·.2.length)).sum
theorem lenM_le {m : List El} (h : ∀ e ∈ m,e.2.length ≤ 16) : lenM m ≤ m.length * 16 := by
 unfold lenM
 induction m with
 | nil => simp
 | cons e m ih =>
   have h1 := h e (by simp)
   have h2 := ih (fun x hx => h x (List.mem_cons_of_mem _ hx))
   simp only [List.map_cons,List.sum_cons,List.length_cons]
   omega
theorem lenM_succ {m : List El} {i : Nat} (hi : i < m.length) : lenM (m.take (i + 1)) = lenM (m.take i) + m[i].2.length := by
 unfold lenM
 rw [List.take_succ_eq_append_getElem hi,List.map_append,List.sum_append,List.map_cons,List.map_nil,List.sum_cons,List.sum_nil,Nat.add_zero]
theorem m23 {m : List El} (hl : m.length ≤ 32) (h : ∀ e ∈ m,e.2.length ≤ 16) : M23.m ⟨m⟩ = some (lenM m : Int) := by
 have key : iter M23.s0 ⟨m,(m.length : Int),((0 : Nat) : Int),(lenM (m.take 0) : Int)⟩ = some ⟨(lenM m : Int)⟩ := by
   refine iter_for (step := M23.s0) (fun i => ⟨m,(m.length : Int),(i : Int),(lenM (m.take i) : Int)⟩) (n := m.length) (fun i hi => ?_) ?_
   · have e1 : ((i : Int) < (m.length : Int)) := by omega
     have e2 : IntKind.i64.wrap ((lenM (m.take i) : Int) + (m[i].2.length : Int)) = (lenM (m.take (i + 1)) : Int) := by
       have h1 := lenM_le (m := m.take i) (fun e he => h e (List.mem_of_mem_take he))
       have h2 := h _ (List.getElem_mem hi)
       have h3 : (m.take i).length ≤ 32 := by rw [List.length_take]; omega
       rw [lenM_succ hi,w64 (by omega) (by omega)]
       omega
     unfold M23.s0
     simp only [e1,inR_nat hi,getD_at hi,e2,suc (show i < 9000000000000000000 by omega),decide_true,cond_true]
   · unfold M23.s0
     simp
 have key : iter M23.s0 ⟨m,(m.length : Int),0,0⟩ = some ⟨(lenM m : Int)⟩ := key
 unfold M23.m
 simp only [key,bindO]
end Mr
end Go.Proofs.YtcnlccpihknehaaDoor
namespace Go.Proofs.YtcnlccpihknehaaDoor
open Go.Abs
namespace Mr
open Pl
abbrev Wa := Int × Int × Bool × Int
def tr (i : Nat) (x : Ac) : Wa := ((i : Int),(x.1 : Int),x.2.1,x.2.2)
def elw (n : Nat) (down : Bool) (m : List El) (i : Nat) : List Wa := (vis (addrs n (desc (m[i]?.getD (0,[])).1 down)) (m[i]?.getD (0,[])).2).map (tr i)
def W (n : Nat) (down : Bool) (m : List El) (t : Nat) : List Wa := (List.range t).flatMap (elw n down m)
theorem W_succ (n : Nat) (down : Bool) (m : List El) (t : Nat) : W n down m (t + 1) = W n down m t ++ elw n down m t := by
 unfold W; rw [List.range_succ,List.flatMap_append]; simp
theorem addrs_len (n : Nat) (d : Bool) : (addrs n d).length = n := by unfold addrs; split <;> simp
theorem addrs_at {n i : Nat} {d : Bool} (h : i < (addrs n d).length) : (addrs n d)[i] = if d = true then n - 1 - i else i := by
 unfold addrs
 cases d <;> simp
theorem vis_len (s : List Nat) (l : List Op) : (vis s l).length = s.length * l.length := by
 unfold vis
 induction s with
 | nil => simp
 | cons a s ih => rw [List.flatMap_cons,List.length_append,ih,List.length_map,List.length_cons,Nat.succ_mul]; omega
theorem vis_succ {s : List Nat} {t : Nat} (h : t < s.length) (l : List Op) : vis (s.take (t + 1)) l = vis (s.take t) l ++ l.map fun o => (s[t],o) := by
 unfold vis
 rw [List.take_succ_eq_append_getElem h,List.flatMap_append]
 simp
theorem W_len {n : Nat} {down : Bool} {m : List El} : ∀ {t : Nat},t ≤ m.length → (W n down m t).length = n * lenM (m.take t)
 | 0,_ => by simp [W,lenM]
 | t + 1,h => by
   have ht : t < m.length := h
   rw [W_succ,List.length_append,W_len (by omega),lenM_succ ht,Nat.mul_add]
   unfold elw
   rw [List.length_map,vis_len,addrs_len]
   simp [ht]
def arr (out : List Wa) (cap : Nat) : List Wa := out ++ List.replicate (cap - out.length) (0,0,false,0)
theorem arr_len {out : List Wa} {cap : Nat} (h : out.length ≤ cap) : (arr out cap).length = cap := by unfold arr; simp; omega
theorem arr_take (out : List Wa) (cap : Nat) : (arr out cap).take (0 + out.length) = out := by unfold arr; simp
theorem arr_push {out : List Wa} {cap : Nat} (h : out.length < cap) (y : Wa) : (arr out cap).take (0 + out.length) ++ [y] ++ (arr out cap).drop (0 + out.length + 1) = arr (out ++ [y]) cap := by
 rw [arr_take]
 unfold arr
 have e : cap - out.length = (cap - (out ++ [y]).length) + 1 := by simp; omega
 rw [e,Nat.zero_add,List.drop_append,List.drop_eq_nil_of_le (by omega),List.nil_append,List.replicate_succ,show out.length + 1 - out.length = 1 by omega]
 rfl
section
variable {n : Nat} {down : Bool} {m : List El} {k i : Int}
theorem ops_loop {l : List Op} (hl : l.length ≤ 16) {X I : Nat} {n7 i7 o nn : Int} {nz : Int} {dd : Bool} {cap : Nat} {out : List Wa} (hc : out.length + l.length ≤ cap) :
   iter M20.b1_s0 ⟨X,l,(l.length : Int),0,n7,i7,nz,down,m,k,i,arr out cap,0,out.length,cap,I,o,l,nn,dd⟩ =
     some ⟨n7,i7,nz,down,m,k,i,arr (out ++ (l.map fun o => tr I (X,o))) cap,0,(out ++ (l.map fun o => tr I (X,o))).length,cap,I,o,l,nn,dd⟩ := by
 have key : iter M20.b1_s0 ⟨X,l,(l.length : Int),((0 : Nat) : Int),n7,i7,nz,down,m,k,i,arr (out ++ ((l.take 0).map fun o => tr I (X,o))) cap,0,(out ++ ((l.take 0).map fun o => tr I (X,o))).length,cap,I,o,l,nn,dd⟩ =
     some ⟨n7,i7,nz,down,m,k,i,arr (out ++ (l.map fun o => tr I (X,o))) cap,0,(out ++ (l.map fun o => tr I (X,o))).length,cap,I,o,l,nn,dd⟩ := by
   refine iter_for (step := M20.b1_s0) (fun j => ⟨X,l,(l.length : Int),(j : Int),n7,i7,nz,down,m,k,i,arr (out ++ ((l.take j).map fun o => tr I (X,o))) cap,0,(out ++ ((l.take j).map fun o => tr I (X,o))).length,cap,I,o,l,nn,dd⟩) (n := l.length) (fun j hj => ?_) ?_
   · have e1 : ((j : Int) < (l.length : Int)) := by omega
     have e2 : (out ++ ((l.take j).map fun o => tr I (X,o))).length < cap := by simp; omega
     have e3 := arr_push e2 (tr I (X,l[j]))
     have e4 : (out ++ ((l.take j).map fun o => tr I (X,o))) ++ [tr I (X,l[j])] = out ++ ((l.take (j + 1)).map fun o => tr I (X,o)) := by
       rw [List.take_succ_eq_append_getElem hj,List.map_append,List.append_assoc]; rfl
     have e5 : leB ((out ++ ((l.take j).map fun o => tr I (X,o))).length + 1) cap = true := by unfold leB; simp only [decide_eq_true_eq]; omega
     have e6 : leB (0 + cap) (arr (out ++ ((l.take j).map fun o => tr I (X,o))) cap).length = true := by unfold leB; rw [arr_len (by omega)]; simp
     have e7 : (out ++ ((l.take j).map fun o => tr I (X,o))).length + 1 = (out ++ ((l.take (j + 1)).map fun o => tr I (X,o))).length := by rw [← e4,List.length_append (bs := [_])]; rfl
     have e8 : (arr (out ++ ((l.take j).map fun o => tr I (X,o))) cap).take (0 + (out ++ ((l.take j).map fun o => tr I (X,o))).length) ++ [((I : Int),(X : Int),l[j].1,l[j].2)] ++ (arr (out ++ ((l.take j).map fun o => tr I (X,o))) cap).drop (0 + (out ++ ((l.take j).map fun o => tr I (X,o))).length + 1) = arr (out ++ ((l.take (j + 1)).map fun o => tr I (X,o))) cap := by rw [← e4]; exact e3
     unfold M20.b1_s0
     simp only [e1,inR_nat hj,getD_at hj,e5,e6,e8,suc (show j < 9000000000000000000 by omega),decide_true,cond_true,Bool.and_self]
     rw [e7]
   · unfold M20.b1_s0
     simp
 simpa using key
theorem addr_loop {l : List Op} (hl : l.length ≤ 16) (hn : n ≤ 1024) {I : Nat} {o : Int} {dd : Bool} {cap : Nat} {out : List Wa} (hc : out.length + n * l.length ≤ cap) :
   M20.s1 ⟨n,down,m,k,i,arr out cap,0,out.length,cap,I,o,l,n,dd⟩ = some ⟨n,down,m,k,i,arr (out ++ (vis (addrs n dd) l).map (tr I)) cap,0,(out ++ (vis (addrs n dd) l).map (tr I)).length,cap⟩ := by
 have hA := addrs_len n dd
 let O := fun t => out ++ (vis ((addrs n dd).take t) l).map (tr I)
 have hO : ∀ t,t ≤ n → (O t).length = out.length + t * l.length := fun t ht => by
   show (out ++ _).length = _
   rw [List.length_append,List.length_map,vis_len,List.length_take,hA]
   congr 2
   omega
 have key : iter M20.i1_s0 ⟨n,((0 : Nat) : Int),n,down,m,k,i,arr (O 0) cap,0,(O 0).length,cap,I,o,l,n,dd⟩ = some ⟨n,down,m,k,i,arr (O n) cap,0,(O n).length,cap⟩ := by
   refine iter_for (step := M20.i1_s0) (fun t => ⟨n,(t : Int),n,down,m,k,i,arr (O t) cap,0,(O t).length,cap,I,o,l,n,dd⟩) (n := n) (fun t ht => ?_) ?_
   · have e1 : ((t : Int) < (n : Int)) := by omega
     have ht' : t < (addrs n dd).length := by omega
     have e2 : (bif dd then IntKind.i64.wrap (IntKind.i64.wrap ((n : Int) - 1) - (t : Int)) else (t : Int)) = (((addrs n dd)[t] : Nat) : Int) := by
       rw [addrs_at ht']
       cases dd with
       | false => simp
       | true =>
         simp only [cond_true,if_true]
         rw [w64 (x := (n : Int) - 1) (by omega) (by omega),w64 (by omega) (by omega)]
         omega
     have e3 : (O t).length + l.length ≤ cap := by
       rw [hO t (by omega)]
       have : (t + 1) * l.length ≤ n * l.length := Nat.mul_le_mul_right _ ht
       rw [Nat.succ_mul] at this
       omega
     have e4 : O t ++ (l.map fun o => tr I ((addrs n dd)[t],o)) = O (t + 1) := by
       show (out ++ _) ++ _ = out ++ _
       rw [vis_succ ht',List.map_append,List.append_assoc]
       congr 2
       simp [Function.comp_def]
     have e5 := ops_loop (down := down) (m := m) (k := k) (i := i) hl (X := (addrs n dd)[t]) (I := I) (n7 := n) (i7 := t) (o := o) (nn := n) (nz := n) (dd := dd) e3
     rw [e4] at e5
     unfold M20.i1_s0 M20.sb1
     simp only [e1,e2,e5,suc (show t < 9000000000000000000 by omega),decide_true,cond_true,bindO]
   · unfold M20.i1_s0
     simp
 have e0 : O 0 = out := by simp [O,vis]
 have en : O n = out ++ (vis (addrs n dd) l).map (tr I) := by
   show out ++ _ = _
   rw [List.take_of_length_le (by omega)]
 rw [e0,en] at key
 have key : iter M20.i1_s0 ⟨n,0,n,down,m,k,i,arr out cap,0,out.length,cap,I,o,l,n,dd⟩ = _ := key
 unfold M20.s1
 simp only [key,bindO]
end
theorem m20 {m : List El} (hm : V m) {n : Nat} (h1 : 1 ≤ n) (hn : n ≤ 1024) (down : Bool) : M20.m ⟨m,n,down⟩ = some (W n down m m.length,0) := by
 have hz := hm.len
 have hL := lenM_le hm.le
 have hL' : lenM m ≤ 512 := by omega
 have hnL : n * lenM m ≤ 1024 * 512 := Nat.mul_le_mul hn hL'
 have hwr : IntKind.i64.wrap ((n : Int) * (lenM m : Int)) = ((n * lenM m : Nat) : Int) := by
   have : (n : Int) * (lenM m : Int) = ((n * lenM m : Nat) : Int) := by simp
   rw [this,w64 (by omega) (by omega)]
 have hcap : ∀ t,t ≤ m.length → (W n down m t).length ≤ n * lenM m := fun t ht => by
   rw [W_len ht]
   refine Nat.mul_le_mul_left _ ?_
   have : lenM m = lenM (m.take t) + lenM (m.drop t) := by
     conv => lhs; rw [← List.take_append_drop t m]
     unfold lenM
     rw [List.map_append,List.sum_append]
   omega
 have key : iter M20.s0 ⟨n,down,m,(m.length : Int),((0 : Nat) : Int),arr (W n down m 0) (n * lenM m),0,(W n down m 0).length,n * lenM m⟩ = some ⟨arr (W n down m m.length) (n * lenM m),0,(W n down m m.length).length,n * lenM m⟩ := by
   refine iter_for (step := M20.s0) (fun t => ⟨n,down,m,(m.length : Int),(t : Int),arr (W n down m t) (n * lenM m),0,(W n down m t).length,n * lenM m⟩) (n := m.length) (fun t ht => ?_) ?_
   · have e1 : ((t : Int) < (m.length : Int)) := by omega
     have e2 : (bif m[t].1 == 2 then true else bif m[t].1 == 0 then down else false) = desc m[t].1 down := by
       unfold desc
       by_cases a : m[t].1 = 2
       · simp [a]
       · by_cases b : m[t].1 = 0 <;> simp [a,b]
     have e3 : (W n down m t).length + n * m[t].2.length ≤ n * lenM m := by
       have := hcap (t + 1) ht
       rw [W_len ht,lenM_succ ht,Nat.mul_add] at this
       rw [W_len (by omega)]
       exact this
     have e4 : elw n down m t = (vis (addrs n (desc m[t].1 down)) m[t].2).map (tr t) := by
       unfold elw
       simp [ht]
     have e5 := addr_loop (down := down) (m := m) (k := (m.length : Int)) (i := (t : Int)) (hm.le _ (List.getElem_mem ht)) hn (I := t) (o := m[t].1) (dd := desc m[t].1 down) e3
     rw [← e4,← W_succ] at e5
     unfold M20.s0 M44.m
     simp only [e1,inR_nat ht,getD_at ht,e2,e5,suc (show t < 9000000000000000000 by omega),decide_true,cond_true,bindO]
   · unfold M20.s0
     simp
 have e0 : arr (W n down m 0) (n * lenM m) = List.replicate (n * lenM m) (0,0,false,0) := by simp [arr,W]
 have e0' : (W n down m 0).length = 0 := by simp [W]
 rw [e0,e0'] at key
 have key : iter M20.s0 ⟨n,down,m,(m.length : Int),0,List.replicate (n * lenM m) (0,0,false,0),0,0,n * lenM m⟩ = _ := key
 have a1 : ¬ ((n : Int) < 1) := by omega
 have a2 : ¬ ((n : Int) > 1024) := by omega
 have a3 : (0 ≤ ((n * lenM m : Nat) : Int)) := by omega
 have a4 : (((n * lenM m : Nat) : Int) * ((24 : Nat) : Int) ≤ 281474976710656) := by omega
 have a5 : (((n * lenM m : Nat) : Int) ≤ 9223372036854775807) := by omega
 have a6 : ((n * lenM m : Nat) : Int).toNat = n * lenM m := by omega
 have a7 : leB (0 + (W n down m m.length).length) (arr (W n down m m.length) (n * lenM m)).length = true := by
   unfold leB
   rw [arr_len (hcap _ (Nat.le_refl _))]
   have := hcap _ (Nat.le_refl _)
   simpa using this
 have a4' : decide (((n * lenM m : Nat) : Int) * (((24 : Nat) : Int)) ≤ 281474976710656) = true := by simpa using a4
 have a8 : leB (0 + (W n down m m.length).length) (arr (W n down m m.length) (n * lenM m)).length = true := a7
 have ht : (arr (W n down m m.length) (n * lenM m)).take (W n down m m.length).length = W n down m m.length := by
   have := arr_take (W n down m m.length) (n * lenM m)
   rwa [Nat.zero_add] at this
 have c : (decide (0 ≤ ((n * lenM m : Nat) : Int)) && decide (((n * lenM m : Nat) : Int) * 24 ≤ 281474976710656) && decide (((n * lenM m : Nat) : Int) ≤ 9223372036854775807)) = true := by
   simp only [Bool.and_eq_true,decide_eq_true_eq]
   exact ⟨⟨a3,a4⟩,a5⟩
 unfold M20.m
 simp only [m19 hm,bindO,show ((0 : Int) != 0) = false from rfl,cond_false,a1,a2,decide_false,m23 hz hm.le,hwr]
 generalize ((n * lenM m : Nat) : Int) = z at c a6
 show (bif (decide (0 ≤ z) && decide (z * 24 ≤ 281474976710656) && decide (z ≤ 9223372036854775807)) then _ else _) = _
 rw [c]
 simp only [cond_true,a6,key,a8,Bool.and_true,List.drop_zero,ht]
end Mr
end Go.Proofs.YtcnlccpihknehaaDoor
namespace Go.Proofs.YtcnlccpihknehaaDoor
open Go.Abs
def Le {α : Type} (a b : Option α) : Prop := ∀ y,a = some y → b = some y
theorem Le.refl {α : Type} (a : Option α) : Le a a := fun _ h => h
theorem Le.bind {α β : Type} {a b : Option α} {f g : α → Option β} (h : Le a b) (h' : ∀ y,Le (f y) (g y)) : Le (bindO a f) (bindO b g) := fun z hz => by
 obtain ⟨y,h1,h2⟩ := bindO_some hz
 rw [h y h1]; exact h' y z h2
theorem Le.cond {α : Type} {p : Bool} {a b c d : Option α} (h : Le a b) (h' : Le c d) : Le (bif p then a else c) (bif p then b else d) := by cases p <;> assumption
theorem Le.sum {α β γ : Type} {s : α ⊕ β} {f f' : α → Option γ} {g g' : β → Option γ} (h : ∀ y,Le (f y) (f' y)) (h' : ∀ y,Le (g y) (g' y)) : Le (sumC s f g) (sumC s f' g') := by
 cases s with
 | inl y => exact h y
 | inr y => exact h' y
theorem iterN_le {X Y : Type} {s s' : X → Option (X ⊕ Y)} (h : ∀ x,Le (s x) (s' x)) : ∀ (n : Nat) (x : X),Le (iterN s n x) (iterN s' n x)
 | 0,x => fun y hy => by cases hy
 | n + 1,x => fun y hy => by
   unfold iterN at hy ⊢
   split at hy
   · rename_i x' e; rw [h x _ e]; exact iterN_le h n x' y hy
   · rename_i y' e; rw [h x _ e]; exact hy
   · cases hy
theorem Le.iter {X Y : Type} {s s' : X → Option (X ⊕ Y)} {n : Nat} (h : ∀ x,Le (s x) (s' x)) (x : X) : Le (iterN s n x) (Go.Abs.iter s' x) := fun y hy => iter_of (iterN_le h n x y hy)
namespace M54
def s1' (x : p1X) : Option (p1X ⊕ q1X) := bif inR (IntKind.i64.wrap (x.at_ + x.j)) x.s.length || !bif decide (x.j < (↑x.w.length : Int)) then decide (IntKind.i64.wrap (x.at_ + x.j) < (↑x.s.length : Int)) else false then bif inR x.j x.w.length || !bif decide (x.j < (↑x.w.length : Int)) then decide (IntKind.i64.wrap (x.at_ + x.j) < (↑x.s.length : Int)) else false then bif bif bif decide (x.j < (↑x.w.length : Int)) then decide (IntKind.i64.wrap (x.at_ + x.j) < (↑x.s.length : Int)) else false then byteAt x.s (IntKind.i64.wrap (x.at_ + x.j)).toNat == byteAt x.w x.j.toNat else false then some (Sum.inl { best := x.best,l := x.l,n := x.n,i := x.i,i7 := x.i7,w := x.w,j := IntKind.i64.wrap (x.j + 1),s := x.s,at_ := x.at_ }) else some (Sum.inr { best := x.best,l := x.l,n := x.n,i := x.i,i7 := x.i7,w := x.w,j := x.j,s := x.s,at_ := x.at_ }) else none
else none
theorem s1_le (x : _) : Le (s1' x) (s1 x) := by
 unfold s1' s1
 repeat' first | with_reducible exact Le.refl _ | with_reducible apply Le.bind | with_reducible apply Le.cond | with_reducible apply Le.sum | intro _
def s0' (x : p0X) : Option (p0X ⊕ (q0X ⊕ z0X)) := bif decide (x.i < x.n) then bif inR x.i x.l.length then bindO (iterN s1' 200 { best := x.best,l := x.l,n := x.n,i := x.i,i7 := x.i,w := x.l[x.i.toNat]?.getD [],j := 0,s := x.s,at_ := x.at_ }) fun y => bif y.j == (↑y.w.length : Int) then some (Sum.inr (Sum.inr { i := y.i7,ok := true,s := y.s,at_ := IntKind.i64.wrap (y.at_ + y.j) })) else some (Sum.inl { best := if IntKind.i64.wrap (y.at_ + y.j) > y.best then IntKind.i64.wrap (y.at_ + y.j) else y.best,l := y.l,n := y.n,i := IntKind.i64.wrap (y.i + 1),s := y.s,at_ := y.at_ }) else none
else some (Sum.inr (Sum.inl { best := x.best,s := x.s,at_ := x.at_ }))
theorem s0_le (x : _) : Le (s0' x) (s0 x) := by
 unfold s0' s0
 repeat' first | with_reducible exact Le.refl _ | with_reducible exact Le.iter s1_le _ | with_reducible apply Le.bind | with_reducible apply Le.cond | with_reducible apply Le.sum | intro _
def m' (x : gX) : Option fY := bindO (iterN s0' 200 { best := x.at_,l := x.l,n := (↑x.l.length : Int),i := 0,s := x.s,at_ := x.at_ }) fun s => sumC s (fun y => some (0,false,y.s,y.best)) fun z => some (z.i,z.ok,z.s,z.at_)
theorem m_le (x : _) : Le (m' x) (m x) := by
 unfold m' m
 repeat' first | with_reducible exact Le.refl _ | with_reducible exact Le.iter s0_le _ | with_reducible apply Le.bind | with_reducible apply Le.cond | with_reducible apply Le.sum | intro _
end M54
namespace M52
def s0' (x : p0X) : Option (p0X ⊕ q0X) := bindO (M54.m' { l := [[119,48],[119,49],[114,48],[114,49]],s := x.s,at_ := x.at_ }) fun y => bif !y.snd.fst then bif leB (x.l_lo + x.l_len) x.os.length && true && true then some (Sum.inr { e := 4,s := y.snd.snd.fst,at_ := y.snd.snd.snd,o := x.o,l := List.take x.l_len (List.drop x.l_lo x.os) }) else none else bif (↑x.l_len : Int) == 16 then bif leB (x.l_lo + x.l_len) x.os.length && true && true then some (Sum.inr { e := 3,s := y.snd.snd.fst,at_ := x.at_,o := x.o,l := List.take x.l_len (List.drop x.l_lo x.os) }) else none else bif eqN x.l_lo 0 && eqN x.os.length x.l_len && roomB (x.l_len + 1) 2 then bindO (M54.m' { l := [[41],[44]],s := y.snd.snd.fst,at_ := y.snd.snd.snd }) fun y_1 => bif !y_1.snd.fst then bif leB (0 + (x.l_len + 1)) (x.os ++ [(decide (y.fst < 2),IntKind.u8.wrap (y.fst.tmod 2))]).length && true && true then some (Sum.inr { e := 4,s := y_1.snd.snd.fst,at_ := y_1.snd.snd.snd,o := x.o,l := List.take (x.l_len + 1) (List.drop 0 (x.os ++ [(decide (y.fst < 2),IntKind.u8.wrap (y.fst.tmod 2))])) }) else none else bif y_1.fst == 0 then bindO (M81e.m { s_lo := 0,s_len := x.l_len + 1,os := x.os ++ [(decide (y.fst < 2),IntKind.u8.wrap (y.fst.tmod 2))] }) fun y => bif leB (y.fst + y.snd.fst) y.snd.snd.snd.length && true && true then some (Sum.inr { e := 0,s := y_1.snd.snd.fst,at_ := y_1.snd.snd.snd,o := x.o,l := List.take y.snd.fst (List.drop y.fst y.snd.snd.snd) }) else none else some (Sum.inl { s := y_1.snd.snd.fst,at_ := y_1.snd.snd.snd,o := x.o,l_lo := 0,l_len := x.l_len + 1,os := x.os ++ [(decide (y.fst < 2),IntKind.u8.wrap (y.fst.tmod 2))] }) else none
theorem s0_le (x : _) : Le (s0' x) (s0 x) := by
 unfold s0' s0
 repeat' first | with_reducible exact Le.refl _ | with_reducible exact M54.m_le _ | with_reducible apply Le.bind | with_reducible apply Le.cond | with_reducible apply Le.sum | intro _
def m' (x : gX) : Option fY := bindO (M54.m' { l := [[97,110,121,40],[117,112,40],[100,111,119,110,40]],s := x.s,at_ := x.at_ }) fun y => bif !y.snd.fst then some (0,[],4,y.snd.snd.fst,y.snd.snd.snd) else bindO (iterN s0' 200 { s := y.snd.snd.fst,at_ := y.snd.snd.snd,o := IntKind.u8.wrap y.fst,l_lo := 0,l_len := 0,os := [] }) fun y => some (y.o,y.l,y.e,y.s,y.at_)
theorem m_le (x : _) : Le (m' x) (m x) := by
 unfold m' m
 repeat' first | with_reducible exact Le.refl _ | with_reducible exact M54.m_le _ | with_reducible exact Le.iter s0_le _ | with_reducible apply Le.bind | with_reducible apply Le.cond | with_reducible apply Le.sum | intro _
end M52
namespace M27
def s0' (x : p0X) : Option (p0X ⊕ q0X) := bindO (M52.m' { s := x.s2,at_ := x.at_ }) fun y => bif bif y.snd.snd.fst == 0 then (↑x.m_len : Int) == 32 else false then some (Sum.inr { m := [],at_ := x.at_,e := 3 }) else bif y.snd.snd.fst != 0 then some (Sum.inr { m := [],at_ := y.snd.snd.snd.snd,e := y.snd.snd.fst }) else bif eqN x.m_lo 0 && eqN x.ms.length x.m_len && roomB (x.m_len + 1) 32 then bif y.snd.snd.snd.snd == (↑x.s.length : Int) then bindO (M53e.m { s_lo := 0,s_len := x.m_len + 1,ms := x.ms ++ [(y.fst,y.snd.fst)] }) fun y => bif leB (y.fst + y.snd.fst) y.snd.snd.snd.length && true && true then some (Sum.inr { m := List.take y.snd.fst (List.drop y.fst y.snd.snd.snd),at_ := 0,e := 0 }) else none else bindO (M54.m' { l := [[59,32]],s := y.snd.snd.snd.fst,at_ := y.snd.snd.snd.snd }) fun y_1 => bif !y_1.snd.fst then some (Sum.inr { m := [],at_ := y_1.snd.snd.snd,e := 4 }) else some (Sum.inl { s := x.s,m_lo := 0,m_len := x.m_len + 1,s2 := y_1.snd.snd.fst,at_ := y_1.snd.snd.snd,ms := x.ms ++ [(y.fst,y.snd.fst)] }) else none
theorem s0_le (x : _) : Le (s0' x) (s0 x) := by
 unfold s0' s0
 repeat' first | with_reducible exact Le.refl _ | with_reducible exact M54.m_le _ | with_reducible exact M52.m_le _ | with_reducible apply Le.bind | with_reducible apply Le.cond | with_reducible apply Le.sum | intro _
def m' (x : gX) : Option fY := bif decide ((↑x.s.length : Int) > 4096) then some ([],0,3) else bindO (iterN s0' 200 { s := x.s,m_lo := 0,m_len := 0,s2 := x.s,at_ := 0,ms := [] }) fun y => some (y.m,y.at_,y.e)
theorem m_le (x : _) : Le (m' x) (m x) := by
 unfold m' m
 repeat' first | with_reducible exact Le.refl _ | with_reducible exact M54.m_le _ | with_reducible exact M52.m_le _ | with_reducible exact Le.iter s0_le _ | with_reducible apply Le.bind | with_reducible apply Le.cond | with_reducible apply Le.sum | intro _
end M27
namespace M22
def s0' (x : p0X) : Option (p0X ⊕ (q0X ⊕ z0X)) := bif decide (x.i < 7) then bif inR x.i 7 then bif ([(x.a0,x.a1),(x.a2,x.a3),(x.a4,x.a5),(x.a6,x.a7),(x.a8,x.a9),(x.a10,x.a11),(x.a12,x.a13)][x.i.toNat]?.getD ([],[])).fst == x.s then bindO (M27.m' { s := ([(x.a0,x.a1),(x.a2,x.a3),(x.a4,x.a5),(x.a6,x.a7),(x.a8,x.a9),(x.a10,x.a11),(x.a12,x.a13)][x.i.toNat]?.getD ([],[])).snd }) fun y => some (Sum.inr (Sum.inr { m := y.fst,ok := true })) else some (Sum.inl { s := x.s,a0 := x.a0,a1 := x.a1,a2 := x.a2,a3 := x.a3,a4 := x.a4,a5 := x.a5,a6 := x.a6,a7 := x.a7,a8 := x.a8,a9 := x.a9,a10 := x.a10,a11 := x.a11,a12 := x.a12,a13 := x.a13,i := IntKind.i64.wrap (x.i + 1) }) else none
else some (Sum.inr (Sum.inl PUnit.unit))
theorem s0_le (x : _) : Le (s0' x) (s0 x) := by
 unfold s0' s0
 repeat' first | with_reducible exact Le.refl _ | with_reducible exact M54.m_le _ | with_reducible exact M52.m_le _ | with_reducible exact M27.m_le _ | with_reducible apply Le.bind | with_reducible apply Le.cond | with_reducible apply Le.sum | intro _
def m' (x : gX) : Option fY := bindO (iterN s0' 200 { s := x.s,a0 := [77,65,84,83,43],a1 := [97,110,121,40,119,48,41,59,32,117,112,40,114,48,44,119,49,41,59,32,100,111,119,110,40,114,49,44,119,48,41],a2 := [77,65,84,83,43,43],a3 := [97,110,121,40,119,48,41,59,32,117,112,40,114,48,44,119,49,41,59,32,100,111,119,110,40,114,49,44,119,48,44,114,48,41],a4 := [77,97,114,99,104,32,88],a5 := [97,110,121,40,119,48,41,59,32,117,112,40,114,48,44,119,49,41,59,32,100,111,119,110,40,114,49,44,119,48,41,59,32,97,110,121,40,114,48,41],a6 := [77,97,114,99,104,32,89],a7 := [97,110,121,40,119,48,41,59,32,117,112,40,114,48,44,119,49,44,114,49,41,59,32,100,111,119,110,40,114,49,44,119,48,44,114,48,41,59,32,97,110,121,40,114,48,41],a8 := [77,97,114,99,104,32,67,45],a9 := [97,110,121,40,119,48,41,59,32,117,112,40,114,48,44,119,49,41,59,32,117,112,40,114,49,44,119,48,41,59,32,100,111,119,110,40,114,48,44,119,49,41,59,32,100,111,119,110,40,114,49,44,119,48,41,59,32,97,110,121,40,114,48,41],a10 := [77,97,114,99,104,32,65],a11 := [97,110,121,40,119,48,41,59,32,117,112,40,114,48,44,119,49,44,119,48,44,119,49,41,59,32,117,112,40,114,49,44,119,48,44,119,49,41,59,32,100,111,119,110,40,114,49,44,119,48,44,119,49,44,119,48,41,59,32,100,111,119,110,40,114,48,44,119,49,44,119,48,41],a12 := [77,97,114,99,104,32,66],a13 := [97,110,121,40,119,48,41,59,32,117,112,40,114,48,44,119,49,44,114,49,44,119,48,44,114,48,44,119,49,41,59,32,117,112,40,114,49,44,119,48,44,119,49,41,59,32,100,111,119,110,40,114,49,44,119,48,44,119,49,44,119,48,41,59,32,100,111,119,110,40,114,48,44,119,49,44,119,48,41],i := 0 }) fun s => sumC s (fun y => some ([],false)) fun z => some (z.m,z.ok)
theorem m_le (x : _) : Le (m' x) (m x) := by
 unfold m' m
 repeat' first | with_reducible exact Le.refl _ | with_reducible exact M54.m_le _ | with_reducible exact M52.m_le _ | with_reducible exact M27.m_le _ | with_reducible exact Le.iter s0_le _ | with_reducible apply Le.bind | with_reducible apply Le.cond | with_reducible apply Le.sum | intro _
end M22
namespace Mr
def matsp : List El := [(0,[(true,0)]),(1,[(false,0),(true,1)]),(2,[(false,1),(true,0)])]
theorem matsp_run : M22.m ⟨[77,65,84,83,43]⟩ = some (matsp,true) := M22.m_le _ _ (by kernel_rfl)
theorem matsp_V : V matsp := ⟨by decide,by decide,by decide,by decide,by decide,by unfold Pl.Bit; decide,by decide⟩
end Mr
end Go.Proofs.YtcnlccpihknehaaDoor
