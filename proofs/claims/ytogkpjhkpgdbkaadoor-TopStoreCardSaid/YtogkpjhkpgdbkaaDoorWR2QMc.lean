/-
  What the proof stands on.
-/
import Derived.Test.YtogkpjhkpgdbkaaDoorWR2QAbsO
set_option linter.all false
namespace Go.Abs
variable [Gl]
def upId (is : List Nat) (n k : Nat) : Nat := match is[k]? with
 | some i => i
 | none => n + (k - is.length)
def upR (is : List Nat) (n : Nat) (r : Ref) : Ref := { r with id := upId is n r.id }
def upC (is : List Nat) (n : Nat) : Cell → Cell
 | .t x => .t x
 | .ptr r => .ptr (upR is n r)
 | .sl r l c => .sl (upR is n r) l c
 | .clo f rs => .clo f (rs.map (upR is n))
def upP (is : List Nat) (n : Nat) : Cell ⊕ List Cell → Cell ⊕ List Cell
 | .inl x => .inl (upC is n x)
 | .inr xs => .inr (xs.map (upC is n))
def upV (is : List Nat) (n : Nat) : AV → AV
 | .c x => .c (upC is n x)
 | .agg xs => .agg (xs.map (upC is n))
 | .tup xs => .tup (xs.map (upP is n))
def upO (is : List Nat) (n : Nat) (o : Obj) : Obj := { o with cs := o.cs.map (upC is n) }
def putAll (f : Obj → Obj) : List Nat → Heap → Heap → Heap
 | i :: is,o :: τ,σ => putAll f is τ (σ.set i (f o))
 | _,_,σ => σ
def backH (is : List Nat) (n : Nat) (σ τ : Heap) : Heap := putAll (upO is n) is τ σ ++ (τ.drop is.length).map (upO is n)
theorem putAll_length (f : Obj → Obj) : ∀ (is : List Nat) (τ σ : Heap),(putAll f is τ σ).length = σ.length
 | [],_,_ => by simp [putAll]
 | _ :: _,[],_ => by simp [putAll]
 | i :: is,o :: τ,σ => by simp [putAll,putAll_length f is τ]
theorem putAll_not (f : Obj → Obj) : ∀ (is : List Nat) (τ σ : Heap) (id : Nat),id ∉ is → (putAll f is τ σ)[id]? = σ[id]?
 | [],_,_,_,_ => by simp [putAll]
 | _ :: _,[],_,_,_ => by simp [putAll]
 | i :: is,o :: τ,σ,id,h => by
  simp only [List.mem_cons,not_or] at h
  simp only [putAll]
  rw [putAll_not f is τ _ id h.2,List.getElem?_set_ne (Ne.symm h.1)]
theorem putAll_at (f : Obj → Obj) : ∀ (is : List Nat) (τ σ : Heap),is.Nodup → (∀ i ∈ is,i < σ.length) → ∀ (k i : Nat) (o : Obj),is[k]? = some i → τ[k]? = some o → (putAll f is τ σ)[i]? = some (f o)
 | [],_,_,_,_,k,i,o,h,_ => by simp at h
 | _ :: _,[],_,_,_,k,i,o,_,h => by simp at h
 | j :: is,p :: τ,σ,hn,hl,k,i,o,h1,h2 => by
  simp only [putAll]
  cases k with
  | zero =>
   simp only [List.getElem?_cons_zero,Option.some.injEq] at h1 h2
   subst h1; subst h2
   rw [putAll_not f is τ _ j (List.nodup_cons.1 hn).1,List.getElem?_set_self (hl j (by simp))]
  | succ k =>
   simp only [List.getElem?_cons_succ] at h1 h2
   exact putAll_at f is τ _ (List.nodup_cons.1 hn).2 (fun i hi => by simpa using hl i (by simp [hi])) k i o h1 h2
section
variable {P : Program} {is : List Nat} {σ τ τ' : Heap} {ι ι' : Map} {w w' : World}
theorem CR_up {n : Nat} {w : World} (hi : ∀ k s,ι k = some s → ι' (upId is n k) = some s) (hu : ∀ b,ι.un b → ι'.un b) (hx : ι'.ex = ι.ex) {c : Cell} {v : Value} (h : CR ι w c v) : CR ι' w (upC is n c) v := by
 have hr : ∀ {r : Ref} {ok : Spot → Prop},refAt ι r ok → refAt ι' (upR is n r) ok := fun {r ok} ⟨s,h1,h2,h3⟩ => ⟨s,hi _ _ h1,h2,h3⟩
 cases c with
 | t x => exact TR.mono h fun b hb hrow => ⟨hu b hb,rfl⟩
 | ptr r => obtain ⟨a,e,h1⟩ := h; exact ⟨a,e,hr h1⟩
 | sl r l c => obtain ⟨a,c,e,h1,h2⟩ := h; exact ⟨a,c,e,h1,hr h2⟩
 | clo f rs =>
  refine cloR.imp (caps' := rs.map (upR is n)) h (by rw [hx]) (by simp) fun _ i hi hi' a h4 => ?_
  simp only [List.getElem_map]
  exact hr h4
theorem CR_down {n : Nat} {w : World} (hi : ∀ k s,ι' (upId is n k) = some s → ι k = some s) (hu : ∀ b,ι'.un b → ι.un b) (hx : ι'.ex = ι.ex) {c : Cell} {v : Value} (h : CR ι' w (upC is n c) v) : CR ι w c v := by
 have hr : ∀ {r : Ref} {ok : Spot → Prop},refAt ι' (upR is n r) ok → refAt ι r ok := fun {r ok} ⟨s,h1,h2,h3⟩ => ⟨s,hi _ _ h1,h2,h3⟩
 cases c with
 | t x => exact TR.mono h fun b hb hrow => ⟨hu b hb,rfl⟩
 | ptr r => obtain ⟨a,e,h1⟩ := h; exact ⟨a,e,hr h1⟩
 | sl r l c => obtain ⟨a,c,e,h1,h2⟩ := h; exact ⟨a,c,e,h1,hr h2⟩
 | clo f rs =>
  refine cloR.imp (caps := rs.map (upR is n)) h (by rw [hx]) (by simp) fun _ i hi hi' a h4 => ?_
  simp only [List.getElem_map] at h4
  exact hr h4
theorem aggR_map {f : Cell → Cell} {w w' : World} (h : ∀ c v,CR ι w c v → CR ι' w' (f c) v) {xs : List Cell} {v : Value} (ha : aggR ι w xs v) : aggR ι' w' (xs.map f) v := by
 obtain ⟨arr,e,h1,h2⟩ := ha
 refine ⟨arr,e,by simpa using h1,fun i hi => ?_⟩
 obtain ⟨u,h3,h4⟩ := h2 i (by simpa using hi)
 exact ⟨u,h3,by rw [List.getElem_map]; exact h _ _ h4⟩
theorem aggR_map_down {f : Cell → Cell} {w w' : World} (h : ∀ c v,CR ι w (f c) v → CR ι' w' c v) {xs : List Cell} {v : Value} (ha : aggR ι w (xs.map f) v) : aggR ι' w' xs v := by
 obtain ⟨arr,e,h1,h2⟩ := ha
 refine ⟨arr,e,by simpa using h1,fun i hi => ?_⟩
 obtain ⟨u,h3,h4⟩ := h2 i (by simpa using hi)
 rw [List.getElem_map] at h4
 exact ⟨u,h3,h _ _ h4⟩
theorem VR_up {n : Nat} {w : World} (hi : ∀ k s,ι k = some s → ι' (upId is n k) = some s) (hu : ∀ b,ι.un b → ι'.un b) (hx : ι'.ex = ι.ex) {x : AV} {v : Value} (h : VR ι w x v) : VR ι' w (upV is n x) v := by
 have hc : ∀ c v,CR ι w c v → CR ι' w (upC is n c) v := fun c v => CR_up hi hu hx
 cases x with
 | c x => exact hc _ _ h
 | agg xs => exact aggR_map hc h
 | tup xs =>
  obtain ⟨arr,e,h1,h2⟩ := h
  refine ⟨arr,e,by simpa using h1,fun i hi => ?_⟩
  obtain ⟨u,h3,h4⟩ := h2 i (by simpa using hi)
  refine ⟨u,h3,?_⟩
  rw [List.getElem_map]
  generalize xs[i]'(by simpa using hi) = y at h4 ⊢
  cases y with
  | inl x => exact hc _ _ h4
  | inr xs => exact aggR_map hc h4
theorem VR_down {n : Nat} {w : World} (hi : ∀ k s,ι' (upId is n k) = some s → ι k = some s) (hu : ∀ b,ι'.un b → ι.un b) (hx : ι'.ex = ι.ex) {x : AV} {v : Value} (h : VR ι' w (upV is n x) v) : VR ι w x v := by
 have hc : ∀ c v,CR ι' w (upC is n c) v → CR ι w c v := fun c v => CR_down hi hu hx
 cases x with
 | c x => exact hc _ _ h
 | agg xs => exact aggR_map_down hc h
 | tup xs =>
  obtain ⟨arr,e,h1,h2⟩ := h
  refine ⟨arr,e,by simpa using h1,fun i hi => ?_⟩
  obtain ⟨u,h3,h4⟩ := h2 i (by simpa using hi)
  refine ⟨u,h3,?_⟩
  rw [List.getElem_map] at h4
  generalize xs[i]'(by simpa using hi) = y at h4 ⊢
  cases y with
  | inl x => exact hc _ _ h4
  | inr xs => exact aggR_map_down hc h4
theorem upId_lt {n k i : Nat} (h : is[k]? = some i) : upId is n k = i := by simp [upId,h]
theorem upId_ge {n k : Nat} (h : is.length ≤ k) : upId is n k = n + (k - is.length) := by simp [upId,List.getElem?_eq_none h]
def inMap (is : List Nat) (ι : Map) : Map := ⟨fun k => match is[k]? with | some i => ι i | none => none,fun b => ι.res b ∨ ∃ id s l,id ∉ is ∧ ι id = some s ∧ s.loc = some l ∧ l.blk = b,ι.ex⟩
def outMap (is : List Nat) (n : Nat) (ι ι' : Map) : Map := ⟨fun id => if id < n then (if id ∈ is then ι' (is.idxOf id) else ι id) else ι' (is.length + (id - n)),ι.res,ι.ex⟩
theorem inMap_some {k : Nat} {s : Spot} (h : inMap is ι k = some s) : ∃ i,is[k]? = some i ∧ ι i = some s := by
 simp only [inMap] at h
 split at h
 ·rename_i i hi; exact ⟨i,hi,h⟩
 ·cases h
theorem inMap_mapped (b : Nat) : (inMap is ι).mapped b ↔ ι.mapped b := by
 constructor
 ·rintro (⟨k,s,l,h1,h2,rfl⟩ | h | ⟨id,s,l,_,h1,h2,rfl⟩)
  ·obtain ⟨i,_,h3⟩ := inMap_some h1
   exact .inl ⟨i,s,l,h3,h2,rfl⟩
  ·exact .inr h
  ·exact .inl ⟨id,s,l,h1,h2,rfl⟩
 ·rintro (⟨id,s,l,h1,h2,rfl⟩ | h)
  ·by_cases hm : id ∈ is
   ·obtain ⟨k,hk⟩ := List.mem_iff_getElem?.1 hm
    exact .inl ⟨k,s,l,by simp only [inMap,hk]; exact h1,h2,rfl⟩
   ·exact .inr (.inr ⟨id,s,l,hm,h1,h2,rfl⟩)
  ·exact .inr (.inl h)
theorem inMap_HR (hn : is.Nodup) (h : HR ι σ w) (hlen : τ.length = is.length) (hσ : ∀ (k i : Nat) (o : Obj),is[k]? = some i → τ[k]? = some o → σ[i]? = some (upO is σ.length o)) : HR (inMap is ι) τ w where
 obj := fun k s hk => by
  obtain ⟨i,h1,h2⟩ := inMap_some hk
  obtain ⟨o,h3,h4⟩ := h.obj i s h2
  have hlt : k < τ.length := by rw [hlen]; exact (List.getElem?_eq_some_iff.1 h1).1
  have h5 := hσ k i τ[k] h1 (List.getElem?_eq_getElem hlt)
  rw [h3] at h5
  injection h5 with h5
  subst h5
  refine ⟨τ[k],List.getElem?_eq_getElem hlt,h4.1,h4.2.1,?_⟩
  have h6 := h4.2.2
  cases hl : s.loc with
  | none => rw [hl] at h6; simpa [upO] using h6
  | some l =>
   rw [hl] at h6
   refine ⟨h6.1,by simpa [upO] using h6.2.1,fun j hj => ?_⟩
   obtain ⟨v,h7,h8⟩ := h6.2.2 j (by simpa [upO] using hj)
   refine ⟨v,h7,?_⟩
   simp only [upO,List.getElem_map] at h8
   refine CR_down (ι' := ι) (n := σ.length) (fun k s hk => ?_) (fun b hb => fun hm => hb ((inMap_mapped b).1 hm)) rfl h8
   by_cases hlt : k < is.length
   ·rw [upId_lt (List.getElem?_eq_getElem hlt)] at hk
    simp only [inMap,List.getElem?_eq_getElem hlt]
    exact hk
   ·rw [upId_ge (by omega)] at hk
    have := h.lt hk
    omega
 inj := fun k k' s s' l l' h1 h2 h3 h4 h5 => by
  obtain ⟨i,h6,h7⟩ := inMap_some h1
  obtain ⟨i',h8,h9⟩ := inMap_some h2
  have e := h.inj i i' s s' l l' h7 h9 h3 h4 h5
  subst e
  obtain ⟨hk,h6⟩ := List.getElem?_eq_some_iff.1 h6
  obtain ⟨hk',h8⟩ := List.getElem?_eq_some_iff.1 h8
  exact (List.getElem_inj hn).1 (h6.trans h8.symm)
 resRow := fun b hb => by
  rcases hb with hb | ⟨id,s,l,_,h1,h2,rfl⟩
  ·exact h.resRow b hb
  ·obtain ⟨o,_,_,_,h3⟩ := h.obj id s h1
   rw [h2] at h3
   obtain ⟨⟨c,e,h4,_⟩,_⟩ := h3
   exact ⟨c,e,_,h4⟩
 resNo := fun k s l h1 h2 hr => by
  obtain ⟨i,h3,h4⟩ := inMap_some h1
  rcases hr with hr | ⟨id,s',l',hid,h5,h6,h7⟩
  ·exact h.resNo i s l h4 h2 hr
  ·have := h.inj id i s' s l' l h5 h4 h6 h2 h7
   subst this
   exact hid (List.mem_of_getElem? h3)
end
end Go.Abs
namespace Go.Abs
variable [Gl]
section
variable {P : Program} {is : List Nat} {σ τ τ' : Heap} {ι ι' : Map} {w w' : World}
theorem outMap_up (hn : is.Nodup) (hl : ∀ i ∈ is,i < σ.length) (k : Nat) : outMap is σ.length ι ι' (upId is σ.length k) = ι' k := by
 by_cases h : k < is.length
 ·have hk : is[k]? = some is[k] := List.getElem?_eq_getElem h
  rw [upId_lt hk]
  have hm : is[k] ∈ is := List.getElem_mem h
  have hi : is.idxOf is[k] = k := List.Nodup.idxOf_getElem hn k h
  simp only [outMap,hl _ hm,hm,if_true,hi]
 ·rw [upId_ge (by omega)]
  have h1 : ¬ σ.length + (k - is.length) < σ.length := by omega
  have h2 : is.length + (σ.length + (k - is.length) - σ.length) = k := by omega
  simp only [outMap,h1,if_false,h2]
theorem out_cases (hn : is.Nodup) (hl : ∀ i ∈ is,i < σ.length) (id : Nat) : (∃ k,upId is σ.length k = id ∧ outMap is σ.length ι ι' id = ι' k ∧ (id < σ.length → is[k]? = some id) ∧ (σ.length ≤ id → k = is.length + (id - σ.length))) ∨ (id < σ.length ∧ id ∉ is ∧ outMap is σ.length ι ι' id = ι id) := by
 by_cases h : id < σ.length
 ·by_cases hm : id ∈ is
  ·obtain ⟨k,hk⟩ := List.mem_iff_getElem?.1 hm
   refine .inl ⟨k,upId_lt hk,?_,fun _ => hk,fun h' => by omega⟩
   have := outMap_up (ι := ι) (ι' := ι') hn hl k
   rw [upId_lt hk] at this
   exact this
  ·exact .inr ⟨h,hm,by simp only [outMap,h,hm,if_true,if_false]⟩
 ·refine .inl ⟨is.length + (id - σ.length),?_,?_,fun h' => by omega,fun _ => rfl⟩
  ·rw [upId_ge (by omega)]; omega
  ·simp only [outMap,h,if_false]
theorem backH_length : (backH is σ.length σ τ').length = σ.length + (τ'.length - is.length) := by
 simp [backH,putAll_length]
theorem backH_up (hn : is.Nodup) (hl : ∀ i ∈ is,i < σ.length) {k : Nat} {o : Obj} (ho : τ'[k]? = some o) : (backH is σ.length σ τ')[upId is σ.length k]? = some (upO is σ.length o) := by
 by_cases h : k < is.length
 ·have hk : is[k]? = some is[k] := List.getElem?_eq_getElem h
  rw [upId_lt hk]
  unfold backH
  rw [List.getElem?_append_left (by rw [putAll_length]; exact hl _ (List.getElem_mem h))]
  exact putAll_at _ is τ' σ hn hl k _ o hk ho
 ·rw [upId_ge (by omega)]
  unfold backH
  rw [List.getElem?_append_right (by rw [putAll_length]; omega),putAll_length,List.getElem?_map,List.getElem?_drop]
  have : is.length + (σ.length + (k - is.length) - σ.length) = k := by omega
  rw [this,ho]
  rfl
theorem backH_not {id : Nat} (h : id ∉ is) (hlt : id < σ.length) : (backH is σ.length σ τ')[id]? = σ[id]? := by
 unfold backH
 rw [List.getElem?_append_left (by rw [putAll_length]; exact hlt)]
 exact putAll_not _ is τ' σ id h
theorem out_un (hn : is.Nodup) (hl : ∀ i ∈ is,i < σ.length) (hres : ι'.res = (inMap is ι).res) (b : Nat) (h : ι'.un b) : (outMap is σ.length ι ι').un b := by
 rintro (⟨id,s,l,h1,h2,rfl⟩ | hr)
 ·rcases out_cases (ι := ι) (ι' := ι') hn hl id with ⟨k,_,h3,_⟩ | ⟨_,h3,h4⟩
  ·rw [h3] at h1
   exact h (.inl ⟨k,s,l,h1,h2,rfl⟩)
  ·rw [h4] at h1
   exact h (.inr (by rw [hres]; exact .inr ⟨id,s,l,h3,h1,h2,rfl⟩))
 ·exact h (.inr (by rw [hres]; exact .inl hr))
theorem out_step (hlen : τ.length = is.length) (hn : is.Nodup) (hl : ∀ i ∈ is,i < σ.length) (hh : HR ι σ w) (hs : Step (inMap is ι) τ w ι' τ' w') : Step ι σ w (outMap is σ.length ι ι') (backH is σ.length σ τ') w' where
 len := by rw [backH_length]; omega
 size := hs.size
 os := hs.os
 out := hs.out
 keep := fun id s h => by
  have hlt := hh.lt h
  rcases out_cases (ι := ι) (ι' := ι') hn hl id with ⟨k,_,h3,h4,_⟩ | ⟨_,_,h4⟩
  ·have : inMap is ι k = some s := by simp only [inMap,h4 hlt]; exact h
   obtain ⟨s',h5,h6⟩ := hs.keep k s this
   exact ⟨s',by rw [h3]; exact h5,h6⟩
  ·exact ⟨s,by rw [h4]; exact h,Nat.le_refl _,fun _ => rfl⟩
 none := fun id hlt h => by
  rcases out_cases (ι := ι) (ι' := ι') hn hl id with ⟨k,_,h3,h4,_⟩ | ⟨_,_,h4⟩
  ·have hk := h4 hlt
   have hkt : k < τ.length := by rw [hlen]; exact (List.getElem?_eq_some_iff.1 hk).1
   have : inMap is ι k = none := by simp only [inMap,hk]; exact h
   rw [h3]
   exact hs.none k hkt this
  ·rw [h4]; exact h
 new := fun id s' l' h1 h2 => by
  rcases out_cases (ι := ι) (ι' := ι') hn hl id with ⟨k,_,h3,_⟩ | ⟨_,_,h4⟩
  ·rw [h3] at h1
   rcases hs.new k s' l' h1 h2 with h5 | ⟨k',s,l,h5,h6,h7⟩
   ·exact .inl h5
   ·obtain ⟨i,_,h8⟩ := inMap_some h5
    exact .inr ⟨i,s,l,h8,h6,h7⟩
  ·rw [h4] at h1
   exact .inr ⟨id,s',l',h1,h2,rfl⟩
 res := rfl
 ex := rfl
 resKeep := fun b hb => hs.resKeep b (.inl hb)
 frame := fun b hb hu => hs.frame b hb fun hm => hu ((inMap_mapped b).1 hm)
theorem out_OR (hn : is.Nodup) (hl : ∀ i ∈ is,i < σ.length) (hres : ι'.res = (inMap is ι).res) (hex : ι'.ex = (inMap is ι).ex) {o : Obj} {s : Spot} (h : OR ι' w' o s) : OR (outMap is σ.length ι ι') w' (upO is σ.length o) s := by
 refine ⟨h.1,h.2.1,?_⟩
 have h3 := h.2.2
 cases hl' : s.loc with
 | none => rw [hl'] at h3; simp [upO,h3]
 | some l =>
  rw [hl'] at h3
  refine ⟨h3.1,by simpa [upO] using h3.2.1,fun j hj => ?_⟩
  obtain ⟨v,h7,h8⟩ := h3.2.2 j (by simpa [upO] using hj)
  refine ⟨v,h7,?_⟩
  simp only [upO,List.getElem_map]
  exact CR_up (fun k s hk => by rw [outMap_up hn hl]; exact hk) (out_un hn hl hres) hex.symm h8
theorem out_HR (hlen : τ.length = is.length) (hn : is.Nodup) (hl : ∀ i ∈ is,i < σ.length) (hh : HR ι σ w) (hs : Step (inMap is ι) τ w ι' τ' w') (hh' : HR ι' τ' w') : HR (outMap is σ.length ι ι') (backH is σ.length σ τ') w' where
 obj := fun id s h => by
  rcases out_cases (ι := ι) (ι' := ι') hn hl id with ⟨k,h2,h3,_⟩ | ⟨hlt,hm,h4⟩
  ·rw [h3] at h
   obtain ⟨o,h5,h6⟩ := hh'.obj k s h
   refine ⟨upO is σ.length o,?_,out_OR hn hl hs.res hs.ex h6⟩
   rw [← h2]
   exact backH_up hn hl h5
  ·rw [h4] at h
   obtain ⟨o,h5,h6⟩ := hh.obj id s h
   refine ⟨o,by rw [backH_not hm hlt]; exact h5,h6.congr (out_step hlen hn hl hh hs) fun l hl' => ?_⟩
   exact hs.resKeep _ (.inr ⟨id,s,l,hm,h,hl',rfl⟩)
 inj := fun id id' s s' l l' h1 h2 h3 h4 h5 => by
  have mix : ∀ {id id' : Nat} {s s' : Spot} {l l' : Loc} {k : Nat},ι' k = some s → s.loc = some l → id' ∉ is → ι id' = some s' → s'.loc = some l' → l.blk = l'.blk → False := fun {id id' s s' l l' k} h1 h2 h3 h4 h5 h6 => by
   refine hh'.resNo k s l h1 h2 ?_
   rw [hs.res]
   exact .inr ⟨id',s',l',h3,h4,h5,h6.symm⟩
  rcases out_cases (ι := ι) (ι' := ι') hn hl id with ⟨k,h6,h7,_⟩ | ⟨_,hm,h7⟩ <;> rcases out_cases (ι := ι) (ι' := ι') hn hl id' with ⟨k',h8,h9,_⟩ | ⟨_,hm',h9⟩
  ·rw [h7] at h1
   rw [h9] at h2
   have := hh'.inj k k' s s' l l' h1 h2 h3 h4 h5
   rw [← h6,← h8,this]
  ·rw [h7] at h1
   rw [h9] at h2
   exact (mix (id := id) h1 h3 hm' h2 h4 h5).elim
  ·rw [h7] at h1
   rw [h9] at h2
   exact (mix (id := id) h2 h4 hm h1 h3 h5.symm).elim
  ·rw [h7] at h1
   rw [h9] at h2
   exact hh.inj id id' s s' l l' h1 h2 h3 h4 h5
 resRow := fun b hb => hh'.resRow b (by rw [hs.res]; exact .inl hb)
 resNo := fun id s l h1 h2 hr => by
  rcases out_cases (ι := ι) (ι' := ι') hn hl id with ⟨k,_,h3,_⟩ | ⟨_,_,h3⟩
  ·rw [h3] at h1
   exact hh'.resNo k s l h1 h2 (by rw [hs.res]; exact .inl hr)
  ·rw [h3] at h1
   exact hh.resNo id s l h1 h2 hr
theorem in_VR (hh : HR ι σ w) {x : AV} {v : Value} (h : VR ι w (upV is σ.length x) v) : VR (inMap is ι) w x v :=
 VR_down (ι' := ι) (fun k s hk => by
  by_cases hlt : k < is.length
  ·rw [upId_lt (List.getElem?_eq_getElem hlt)] at hk
   simp only [inMap,List.getElem?_eq_getElem hlt]
   exact hk
  ·rw [upId_ge (by omega)] at hk
   have := hh.lt hk
   omega) (fun b hb hm => hb ((inMap_mapped b).1 hm)) rfl h
theorem fn_rename {f : FuncId} {args args0 : List AV} {Q : AV → Heap → Prop} (is : List Nat) (hn : is.Nodup) (hlen : τ.length = is.length) (hσ : ∀ (k i : Nat) (o : Obj),is[k]? = some i → τ[k]? = some o → σ[i]? = some (upO is σ.length o))
  (hargs : args = args0.map (upV is σ.length)) (h : FnOk P f args0 τ Q) : FnOk P f args σ fun v σ' => ∃ v0 τ',Q v0 τ' ∧ v = upV is σ.length v0 ∧ σ' = backH is σ.length σ τ' := by
 subst hargs
 have hl : ∀ i ∈ is,i < σ.length := fun i hi => by
  obtain ⟨k,hk⟩ := List.mem_iff_getElem?.1 hi
  have hlt : k < τ.length := by rw [hlen]; exact (List.getElem?_eq_some_iff.1 hk).1
  exact (List.getElem?_eq_some_iff.1 (hσ k i τ[k] hk (List.getElem?_eq_getElem hlt))).1
 refine ⟨h.1,fun ι w cargs hgl hh ha => CallsIn.mono (h.2 (inMap is ι) w cargs (hgl.mono fun b hu _ => ⟨fun hm => hu ((inMap_mapped b).1 hm),rfl⟩) (inMap_HR hn hh hlen hσ) ⟨by simpa using ha.1,fun i hi => ?_⟩) ?_⟩
 ·obtain ⟨u,h1,h2⟩ := ha.2 i (by simpa using hi)
  rw [List.getElem_map] at h2
  exact ⟨u,h1,in_VR hh h2⟩
 ·rintro e w' ⟨v,τ',ι',cv,rfl,hq,hv,hh',hs⟩
  refine ⟨upV is σ.length v,backH is σ.length σ τ',outMap is σ.length ι ι',cv,rfl,⟨v,τ',hq,rfl,rfl⟩,?_,out_HR hlen hn hl hh hs hh',out_step hlen hn hl hh hs⟩
  exact VR_up (fun k s hk => by rw [outMap_up hn hl]; exact hk) (out_un hn hl hs.res) hs.ex.symm hv
end
end Go.Abs
namespace Go.Abs
variable [Gl]
def mapO {α β : Type} (f : α → Option β) : List α → Option (List β)
 | [] => some []
 | x :: xs => match f x,mapO f xs with
  | some y,some ys => some (y :: ys)
  | _,_ => none
def frzT : Nat → Heap → Nat → Cell → Option T
 | _,_,_,.t x => some x
 | k + 1,σ,n,.sl r len cap => if r.id < n then none else match σ.at? r with
  | some o => if r.off + len * o.es ≤ o.cs.length then (mapO (frzT k σ n) ((o.cs.drop r.off).take (len * o.es))).map fun ts => .imm ts len cap else none
  | none => none
 | k + 1,σ,n,.ptr r => if r.id < n then none else match σ.at? r with
  | some o => (mapO (frzT k σ n) (o.cs.drop r.off)).map .iptr
  | none => none
 | k + 1,σ,n,.clo f rs => match Nat.beq f YID with | true => none | false => (mapO (fun r => frzT k σ n (.ptr r)) rs).map fun ts => .fn f ts
 | _,_,_,_ => none
def frzC (k : Nat) (σ : Heap) (n : Nat) : Cell → Option Cell
 | .t x => some (.t x)
 | .ptr r => if r.id < n then some (.ptr r) else (frzT k σ n (.ptr r)).map .t
 | .sl r len cap => if r.id < n then some (.sl r len cap) else (frzT k σ n (.sl r len cap)).map .t
 | .clo f rs => if rs.all (fun r => decide (r.id < n)) then some (.clo f rs) else (frzT k σ n (.clo f rs)).map .t
def frzP (k : Nat) (σ : Heap) (n : Nat) : Cell ⊕ List Cell → Option (Cell ⊕ List Cell)
 | .inl x => (frzC k σ n x).map .inl
 | .inr xs => (mapO (frzC k σ n) xs).map .inr
def frzV (k : Nat) (σ : Heap) (n : Nat) : AV → Option AV
 | .c x => (frzC k σ n x).map .c
 | .agg xs => (mapO (frzC k σ n) xs).map .agg
 | .tup xs => (mapO (frzP k σ n) xs).map .tup
def frzO (k : Nat) (σ : Heap) (n : Nat) (o : Obj) : Option Obj := (mapO (frzC k σ n) o.cs).map fun cs => { o with cs := cs }
def frzH (k : Nat) (σ : Heap) (n : Nat) : Option Heap := mapO (frzO k σ n) (σ.take n)
def cut (n : Nat) (ι : Map) : Map := ⟨fun id => if id < n then ι id else none,ι.res,ι.ex⟩
section
variable {k n : Nat} {σ σ' : Heap} {ι : Map} {w : World}
theorem mapO_ok {α β : Type} {f : α → Option β} : ∀ {xs : List α} {ys : List β},mapO f xs = some ys → ys.length = xs.length ∧ ∀ i (hi : i < ys.length) (hi' : i < xs.length),f xs[i] = some ys[i]
 | [],ys,h => by
  simp only [mapO,Option.some.injEq] at h
  subst h
  exact ⟨rfl,fun i hi => absurd hi (by simp)⟩
 | x :: xs,ys,h => by
  simp only [mapO] at h
  split at h
  ·rename_i y ys' h1 h2
   injection h with h
   subst h
   obtain ⟨h3,h4⟩ := mapO_ok h2
   refine ⟨by simp [h3],fun i hi hi' => ?_⟩
   cases i with
   | zero => simpa using h1
   | succ i => simpa using h4 i (by simpa using hi) (by simpa using hi')
  ·cases h
theorem cut_some {id : Nat} {s : Spot} (h : cut n ι id = some s) : id < n ∧ ι id = some s := by
 simp only [cut] at h
 split at h
 ·rename_i hl; exact ⟨hl,h⟩
 ·cases h
theorem cut_un {b : Nat} (h : ι.un b) : (cut n ι).un b := by
 rintro (⟨id,s,l,h1,h2,rfl⟩ | hr)
 ·exact h (.inl ⟨id,s,l,(cut_some h1).2,h2,rfl⟩)
 ·exact h (.inr hr)
theorem cut_freed (h : HR ι σ w) {id : Nat} {s : Spot} {l : Loc} (hid : n ≤ id) (hs : ι id = some s) (hl : s.loc = some l) : (cut n ι).un l.blk := by
 rintro (⟨id',s',l',h1,h2,h3⟩ | hr)
 ·obtain ⟨h4,h5⟩ := cut_some h1
  have := h.inj id' id s' s l' l h5 hs h2 hl h3
  omega
 ·exact h.resNo id s l hs hl hr
theorem cut_ref {r : Ref} {ok : Spot → Prop} (hlt : r.id < n) (h : refAt ι r ok) : refAt (cut n ι) r ok := by
 obtain ⟨s,h1,h2⟩ := h
 exact ⟨s,by simp only [cut,hlt,if_true]; exact h1,h2⟩
theorem frzT_ok (h : HR ι σ w) : ∀ {k : Nat} {c : Cell} {t : T} {v : Value},CR ι w c v → frzT k σ n c = some t → TR (cut n ι).un w t v
 | k,.t x,t,v,hc,hf => by
  have : t = x := by cases k <;> (simp only [frzT,Option.some.injEq] at hf; exact hf.symm)
  subst this
  exact TR.mono hc fun b hb _ => ⟨cut_un hb,rfl⟩
 | 0,.ptr r,t,v,hc,hf => by simp [frzT] at hf
 | 0,.sl r len cap,t,v,hc,hf => by simp [frzT] at hf
 | 0,.clo f rs,t,v,hc,hf => by simp [frzT] at hf
 | k + 1,.sl r len cap,t,v,hc,hf => by
  simp only [frzT] at hf
  split at hf
  ·cases hf
  ·rename_i hid
   split at hf
   ·rename_i o ho
    split at hf
    ·rename_i hsz
     rw [Option.map_eq_some_iff] at hf
     obtain ⟨ts,hts,rfl⟩ := hf
     obtain ⟨hl1,hl2⟩ := mapO_ok hts
     obtain ⟨a,c,rfl,h0,href⟩ := hc
     obtain ⟨s,hs,_,_,hor,hok⟩ := h.ref ho href
     obtain ⟨h1,h2,h3⟩ := hok
     cases hloc : s.loc with
     | none =>
      rw [hloc] at h3
      obtain ⟨rfl,rfl,_⟩ := h3
      have : ts = [] := List.length_eq_zero_iff.1 (by rw [hl1]; simp)
      subst this
      exact .imm0 cap a 0 h2
     | some l =>
      rw [hloc] at h3
      obtain ⟨rfl,h4,h5⟩ := h3
      have hrow := ((hor.row hloc).drop r.off).take (len * o.es)
      have hb := hor.2.2
      rw [hloc] at hb
      obtain ⟨⟨cells,elem,h6,_⟩,_⟩ := hb
      obtain ⟨g,hg⟩ : ∃ g : Nat → Value,∀ i (hi : i < ts.length),w.cell? ⟨l.blk,l.sh + r.off + i,none⟩ = some (g i) ∧ TR (cut n ι).un w ts[i] (g i) := by
       refine ⟨fun i => (w.cell? ⟨l.blk,l.sh + r.off + i,none⟩).getD undef,fun i hi => ?_⟩
       obtain ⟨u,h7,h8⟩ := hrow i (by rw [← hl1]; exact hi)
       simp only [h7,Option.getD_some,true_and]
       exact frzT_ok h h8 (hl2 i hi (by rw [← hl1]; exact hi))
      exact .imm ts len cap l.blk (l.sh + r.off) c g (cut_freed h (by omega) hs hloc) ⟨cells,elem,_,h6⟩ h2 h1 (fun i hi => (hg i hi).1) (fun i hi => (hg i hi).2)
    ·cases hf
   ·cases hf
 | k + 1,.ptr r,t,v,hc,hf => by
  simp only [frzT] at hf
  split at hf
  ·cases hf
  ·rename_i hid
   split at hf
   ·rename_i o ho
    rw [Option.map_eq_some_iff] at hf
    obtain ⟨ts,hts,rfl⟩ := hf
    obtain ⟨hl1,hl2⟩ := mapO_ok hts
    obtain ⟨a,rfl,href⟩ := hc
    obtain ⟨s,hs,_,_,hor,l,hloc,e⟩ := h.ref ho href
    injection e with e
    subst e
    have hrow := (hor.row hloc).drop r.off
    have hb := hor.2.2
    rw [hloc] at hb
    obtain ⟨⟨cells,elem,h6,_⟩,_⟩ := hb
    obtain ⟨g,hg⟩ : ∃ g : Nat → Value,∀ i (hi : i < ts.length),w.cell? ⟨l.blk,l.sh + r.off + i,none⟩ = some (g i) ∧ TR (cut n ι).un w ts[i] (g i) := by
     refine ⟨fun i => (w.cell? ⟨l.blk,l.sh + r.off + i,none⟩).getD undef,fun i hi => ?_⟩
     obtain ⟨u,h7,h8⟩ := hrow i (by rw [← hl1]; exact hi)
     simp only [h7,Option.getD_some,true_and]
     exact frzT_ok h h8 (hl2 i hi (by rw [← hl1]; exact hi))
    exact .iptr ts l.blk (l.sh + r.off) g (cut_freed h (by omega) hs hloc) ⟨cells,elem,_,h6⟩ (fun i hi => (hg i hi).1) (fun i hi => (hg i hi).2)
   ·cases hf
 | k + 1,.clo f rs,t,v,hc,hf => by
  simp only [frzT] at hf
  split at hf
  ·cases hf
  rename_i hy
  rw [Option.map_eq_some_iff] at hf
  obtain ⟨ts,hts,rfl⟩ := hf
  obtain ⟨hl1,hl2⟩ := mapO_ok hts
  obtain ⟨arr,rfl,h1,h2⟩ := cloR.no hc (fun e => by subst e; simp at hy)
  refine .fn f ts arr (by rw [h1,hl1]) fun i hi => ?_
  obtain ⟨a,h3,h4⟩ := h2 i (by rw [← hl1]; exact hi)
  exact frzT_ok h (c := .ptr rs[i]) ⟨a,h3,h4⟩ (hl2 i hi (by rw [← hl1]; exact hi))
theorem frzC_ok (h : HR ι σ w) {c c' : Cell} {v : Value} (hc : CR ι w c v) (hf : frzC k σ n c = some c') : CR (cut n ι) w c' v := by
 have tree : ∀ {c : Cell},CR ι w c v → (frzT k σ n c).map Cell.t = some c' → CR (cut n ι) w c' v := fun {c} hc hf => by
  rw [Option.map_eq_some_iff] at hf
  obtain ⟨t,h1,rfl⟩ := hf
  exact frzT_ok h hc h1
 cases c with
 | t x =>
  simp only [frzC,Option.some.injEq] at hf
  subst hf
  exact TR.mono hc fun b hb _ => ⟨cut_un hb,rfl⟩
 | ptr r =>
  simp only [frzC] at hf
  split at hf
  ·rename_i hlt
   injection hf with hf
   subst hf
   obtain ⟨a,e,h1⟩ := hc
   exact ⟨a,e,cut_ref hlt h1⟩
  ·exact tree hc hf
 | sl r len cap =>
  simp only [frzC] at hf
  split at hf
  ·rename_i hlt
   injection hf with hf
   subst hf
   obtain ⟨a,c,e,h0,h1⟩ := hc
   exact ⟨a,c,e,h0,cut_ref hlt h1⟩
  ·exact tree hc hf
 | clo f rs =>
  simp only [frzC] at hf
  split at hf
  ·rename_i hlt
   injection hf with hf
   subst hf
   refine cloR.imp hc rfl rfl fun _ i hi _ a h4 => cut_ref ?_ h4
   rw [List.all_eq_true] at hlt
   simpa using hlt rs[i] (List.getElem_mem hi)
  ·exact tree hc hf
theorem frz_agg (h : HR ι σ w) {xs ys : List Cell} {v : Value} (ha : aggR ι w xs v) (hf : mapO (frzC k σ n) xs = some ys) : aggR (cut n ι) w ys v := by
 obtain ⟨arr,e,h1,h2⟩ := ha
 obtain ⟨hl1,hl2⟩ := mapO_ok hf
 refine ⟨arr,e,by rw [h1,hl1],fun i hi => ?_⟩
 obtain ⟨u,h3,h4⟩ := h2 i (by rw [← hl1]; exact hi)
 exact ⟨u,h3,frzC_ok h h4 (hl2 i hi (by rw [← hl1]; exact hi))⟩
theorem frzV_ok (h : HR ι σ w) {x y : AV} {v : Value} (hv : VR ι w x v) (hf : frzV k σ n x = some y) : VR (cut n ι) w y v := by
 cases x with
 | c x =>
  simp only [frzV,Option.map_eq_some_iff] at hf
  obtain ⟨c,h1,rfl⟩ := hf
  exact frzC_ok h hv h1
 | agg xs =>
  simp only [frzV,Option.map_eq_some_iff] at hf
  obtain ⟨c,h1,rfl⟩ := hf
  exact frz_agg h hv h1
 | tup xs =>
  simp only [frzV,Option.map_eq_some_iff] at hf
  obtain ⟨ys,h1,rfl⟩ := hf
  obtain ⟨hl1,hl2⟩ := mapO_ok h1
  obtain ⟨arr,e,h2,h3⟩ := hv
  refine ⟨arr,e,by rw [h2,hl1],fun i hi => ?_⟩
  obtain ⟨u,h4,h5⟩ := h3 i (by rw [← hl1]; exact hi)
  refine ⟨u,h4,?_⟩
  have h6 := hl2 i hi (by rw [← hl1]; exact hi)
  generalize xs[i]'(by rw [← hl1]; exact hi) = y at h5 h6
  cases y with
  | inl x =>
   simp only [frzP,Option.map_eq_some_iff] at h6
   obtain ⟨c,h7,h8⟩ := h6
   rw [← h8]
   exact frzC_ok h h5 h7
  | inr x =>
   simp only [frzP,Option.map_eq_some_iff] at h6
   obtain ⟨c,h7,h8⟩ := h6
   rw [← h8]
   exact frz_agg h h5 h7
theorem frzH_len (hf : frzH k σ n = some σ') : σ'.length = min n σ.length := by
 obtain ⟨h1,_⟩ := mapO_ok hf
 rw [h1,List.length_take]
theorem frzH_ok (h : HR ι σ w) (hf : frzH k σ n = some σ') : HR (cut n ι) σ' w where
 obj := fun id s hs => by
  obtain ⟨hlt,hs⟩ := cut_some hs
  obtain ⟨o,h1,h2,h3,h4⟩ := h.obj id s hs
  obtain ⟨hl1,hl2⟩ := mapO_ok hf
  have hlt2 : id < σ.length := (List.getElem?_eq_some_iff.1 h1).1
  have hlt3 : id < (σ.take n).length := by rw [List.length_take]; omega
  have hlt4 : id < σ'.length := by rw [hl1]; exact hlt3
  have h5 := hl2 id hlt4 hlt3
  have ho : (σ.take n)[id] = o := by
   rw [List.getElem_take]
   exact (List.getElem?_eq_some_iff.1 h1).2
  rw [ho] at h5
  simp only [frzO,Option.map_eq_some_iff] at h5
  obtain ⟨cs,h6,h7⟩ := h5
  obtain ⟨hm1,hm2⟩ := mapO_ok h6
  refine ⟨σ'[id],List.getElem?_eq_getElem hlt4,by rw [← h7]; exact h2,by rw [← h7]; exact h3,?_⟩
  rw [← h7]
  cases hl : s.loc with
  | none =>
   rw [hl] at h4
   rw [h4] at hm1
   exact List.length_eq_zero_iff.1 (by simpa using hm1)
  | some l =>
   rw [hl] at h4
   refine ⟨h4.1,by simp only [hm1]; exact h4.2.1,fun i hi => ?_⟩
   obtain ⟨v,h8,h9⟩ := h4.2.2 i (by rw [← hm1]; exact hi)
   exact ⟨v,h8,frzC_ok h h9 (hm2 i hi (by rw [← hm1]; exact hi))⟩
 inj := fun id id' s s' l l' h1 h2 h3 h4 h5 => h.inj id id' s s' l l' (cut_some h1).2 (cut_some h2).2 h3 h4 h5
 resRow := h.resRow
 resNo := fun id s l h1 h2 => h.resNo id s l (cut_some h1).2 h2
theorem frz_step {ι0 : Map} {σ0 : Heap} {w0 : World} (h0 : HR ι0 σ0 w0) (hn : σ0.length ≤ n) (hf : frzH k σ n = some σ') (hs : Step ι0 σ0 w0 ι σ w) : Step ι0 σ0 w0 (cut n ι) σ' w where
 len := by rw [frzH_len hf]; have := hs.len; omega
 size := hs.size
 os := hs.os
 out := hs.out
 keep := fun id s h => by
  obtain ⟨s',h1,h2⟩ := hs.keep id s h
  have := h0.lt h
  exact ⟨s',by simp only [cut]; rw [if_pos (by omega)]; exact h1,h2⟩
 none := fun id hlt h => by
  simp only [cut]
  split
  ·exact hs.none id hlt h
  ·rfl
 new := fun id s' l' h1 h2 => hs.new id s' l' (cut_some h1).2 h2
 res := hs.res
 ex := hs.ex
 resKeep := hs.resKeep
 frame := hs.frame
end
end Go.Abs
namespace Go.Abs
variable [Gl]
def GhostF (N n : Nat) (r : Regs) (σ : Heap) (r' : Regs) (σ' : Heap) : Prop :=
 ∀ ι w a,HR ι σ w → RegR N ι w r a → ∃ ι',HR ι' σ' w ∧ RegR N ι' w r' a ∧ ∀ ι0 σ0 w0,HR ι0 σ0 w0 → σ0.length ≤ n → Step ι0 σ0 w0 ι σ w → Step ι0 σ0 w0 ι' σ' w
def SubR (r r' : Regs) : Prop := ∀ t v,r'.get t = some v → r.get t = some v
def FrzR (k : Nat) (σ : Heap) (n : Nat) (r : Regs) : Regs → Prop
 | [] => True
 | (t,v) :: l => (∃ u,r.get t = some u ∧ frzV k σ n u = some v) ∧ FrzR k σ n r l
def SubL (r : Regs) : Regs → Prop
 | [] => True
 | (t,v) :: l => r.get t = some v ∧ SubL r l
section
variable {P : Program} {N : Nat} {ro : Option Nat}
theorem SubL.sub {r : Regs} : ∀ {r' : Regs},SubL r r' → SubR r r'
 | [],_ => fun t v h => by simp [Regs.get] at h
 | (k,u) :: l,h => fun t v ht => by
  simp only [Regs.get] at ht
  split at ht
  ·rename_i e; subst e; injection ht with ht; subst ht; exact h.1
  ·exact SubL.sub h.2 t v ht
theorem FrzR.get {k : Nat} {σ : Heap} {n : Nat} {r : Regs} : ∀ {r' : Regs},FrzR k σ n r r' → ∀ t v,r'.get t = some v → ∃ u,r.get t = some u ∧ frzV k σ n u = some v
 | [],_ => fun t v h => by simp [Regs.get] at h
 | (k,u) :: l,h => fun t v ht => by
  simp only [Regs.get] at ht
  split at ht
  ·rename_i e; subst e; injection ht with ht; subst ht; exact h.1
  ·exact FrzR.get h.2 t v ht
theorem Ghost.f {r r' : Regs} {σ σ' : Heap} (h : Ghost N r σ r' σ') (n : Nat) : GhostF N n r σ r' σ' := fun ι w a hh hr => by
 obtain ⟨ι',h1,h2,h3⟩ := h ι w a hh hr
 exact ⟨ι',h1,h2,fun _ _ _ _ _ hs => hs.trans h3⟩
theorem GhostF.trans {n : Nat} {r r' r'' : Regs} {σ σ' σ'' : Heap} (h : GhostF N n r σ r' σ') (h' : GhostF N n r' σ' r'' σ'') : GhostF N n r σ r'' σ'' := fun ι w a hh hr => by
 obtain ⟨ι',h1,h2,h3⟩ := h ι w a hh hr
 obtain ⟨ι'',h4,h5,h6⟩ := h' ι' w a h1 h2
 exact ⟨ι'',h4,h5,fun ι0 σ0 w0 h0 hn hs => h6 ι0 σ0 w0 h0 hn (h3 ι0 σ0 w0 h0 hn hs)⟩
theorem Ghost.trans {r r' r'' : Regs} {σ σ' σ'' : Heap} (h : Ghost N r σ r' σ') (h' : Ghost N r' σ' r'' σ'') : Ghost N r σ r'' σ'' := fun ι w a hh hr => by
 obtain ⟨ι',h1,h2,h3⟩ := h ι w a hh hr
 obtain ⟨ι'',h4,h5,h6⟩ := h' ι' w a h1 h2
 exact ⟨ι'',h4,h5,h3.trans h6⟩
theorem Ghost.sub {r r' : Regs} {σ : Heap} (h : SubR r r') : Ghost N r σ r' σ := fun ι w _ hh hr => ⟨ι,hh,hr.sub h,Step.refl ι σ w⟩
theorem ghost_own {r : Regs} {σ : Heap} {t : Nat} (es : Nat) (h : r.get t = some (.c (.t (.imm [] 0 (some 0))))) : Ghost N r σ (r.set t (.c (.sl ⟨σ.length,0,0⟩ 0 none))) (σ ++ [{ cs := [],es := es }]) := fun ι w a hh hr => by
 have hst : Step ι σ w (ι.push σ.length ⟨none,es,0⟩) (σ ++ [{ cs := [],es := es }]) w := {
   len := by simp
   size := Nat.le_refl _
   os := rfl
   out := rfl
   keep := fun id s' hs' => ⟨s',by rw [Map.push_ne _ _ (Nat.ne_of_lt (hh.lt hs'))]; exact hs',Nat.le_refl _,fun _ => rfl⟩
   none := fun id hid hn => by rw [Map.push_ne _ _ (Nat.ne_of_lt hid)]; exact hn
   new := fun id s' l' h1 h2 => by
     by_cases e : id = σ.length
     · subst e
       rw [Map.push_same] at h1
       injection h1 with h1
       subst h1
       cases h2
     · rw [Map.push_ne _ _ e] at h1
       exact .inr ⟨id,s',l',h1,h2,rfl⟩
   res := rfl
   ex := rfl
   resKeep := fun _ _ => rfl
   frame := fun _ _ _ => rfl }
 refine ⟨ι.push σ.length ⟨none,es,0⟩,⟨fun id s h1 => ?_,fun id id' s s' l l' h1 h2 h3 h4 h5 => ?_,hh.resRow,fun id s l h1 h2 hr => ?_⟩,⟨hr.size,hr.low,fun t' v hv => ?_,hr.gl.step hst⟩,hst⟩
 · by_cases e1 : id = σ.length
   · subst e1
     rw [Map.push_same] at h1
     injection h1 with h1
     subst h1
     exact ⟨_,by simp; rfl,rfl,rfl,rfl⟩
   · rw [Map.push_ne _ _ e1] at h1
     obtain ⟨o',h2,h3⟩ := hh.obj id s h1
     exact ⟨o',by rw [List.getElem?_append_left (hh.lt h1)]; exact h2,h3.congr hst (fun l hl => rfl)⟩
 · by_cases e1 : id = σ.length
   · subst e1
     rw [Map.push_same] at h1
     injection h1 with h1
     subst h1
     cases h3
   · by_cases e2 : id' = σ.length
     · subst e2
       rw [Map.push_same] at h2
       injection h2 with h2
       subst h2
       cases h4
     · rw [Map.push_ne _ _ e1] at h1
       rw [Map.push_ne _ _ e2] at h2
       exact hh.inj id id' s s' l l' h1 h2 h3 h4 h5
 · by_cases e1 : id = σ.length
   · subst e1
     rw [Map.push_same] at h1
     injection h1 with h1
     subst h1
     cases h2
   · rw [Map.push_ne _ _ e1] at h1
     exact hh.resNo id s l h1 h2 hr
 · by_cases e : t = t'
   · subst e
     rw [Regs.get_set_same] at hv
     injection hv with hv
     subst hv
     have hv := hr.get t _ h
     have ref : ∀ (ad : Option Addr),refAt (ι.push σ.length ⟨none,es,0⟩) ⟨σ.length,0,0⟩ (slOk 0 0 none ad 0) := fun ad =>
       ⟨⟨none,es,0⟩,Map.push_same _ _ _,Nat.le_refl _,fun _ => ⟨Nat.le_refl _,trivial,rfl,rfl,rfl⟩⟩
     have elk : lk (ι.push σ.length ⟨none,es,0⟩) w a t = lk ι w a t := rfl
     rw [elk]
     have hv' : TR ι.un w (.imm [] 0 (some 0)) (lk ι w a t) := hv
     generalize lk ι w a t = u at hv'
     cases hv' with
     | imm0 cap ad c hc =>
       have : c = 0 := hc
       subst this
       exact ⟨ad,0,rfl,.inl rfl,ref ad⟩
     | imm cs len cap b off c f h1 h2 h3 h4 =>
       have : c = 0 := h3
       subst this
       exact ⟨_,0,rfl,.inl rfl,ref _⟩
   · rw [Regs.get_set_ne _ _ e] at hv
     exact (hr.get t' v hv).step hst
theorem ok_loop2 {c : Code} (I : Nat → Regs → Heap → Prop) {n : Nat} {r : Regs} {σ : Heap} {Q : Exit → Regs → Heap → Prop} (h0 : I n r σ)
  (round : ∀ n r σ,I n r σ → CodeOk P N ro c r σ fun e r' σ' => match e with | .normal => ∃ m r'' σ'',m < n ∧ GhostF N σ.length r' σ' r'' σ'' ∧ I m r'' σ'' | e => Q e r' σ') : CodeOk P N ro (.loop c) r σ Q := fun ι w a hh hr => by
 refine wpIn_loop' (fun j a' w' => ∃ r' σ' ι' ms,I j r' σ' ∧ HR ι' σ' w' ∧ RegR N ι' w' r' a' ∧ Step ι σ w ι' σ' w' ∧ a'.defers = ms ++ a.defers ∧ Marks w.heap.size w' ms) (j := n)
  ⟨r,σ,ι,[],h0,hh,hr,Step.refl ι σ w,rfl,Marks.nil _ _⟩ ?_
 rintro j a1 w1 ⟨r1,σ1,ι1,ms1,h1,h2,h3,h4,h5,h6⟩
 refine wpIn_mono (round j r1 σ1 h1 ι1 w1 a1 h2 h3) fun e a2 w2 hp => ?_
 obtain ⟨h0',r2,σ2,ι2,ms2,h7,h8,h9,h10,h11,h12⟩ := hp
 have hm : Marks w.heap.size w2 (ms2 ++ ms1) := Marks.append (h6.step h2 h10) h12 h4.size h6.lt
 have hd : a2.defers = (ms2 ++ ms1) ++ a.defers := by rw [h11,h5,List.append_assoc]
 cases e with
 | normal =>
  obtain ⟨m,r3,σ3,hlt,hg,hI⟩ := h7
  obtain ⟨ι3,h13,h14,h15⟩ := hg ι2 w2 a2 h8 h9
  exact ⟨m,hlt,r3,σ3,ι3,ms2 ++ ms1,hI,h13,h14,h4.trans (h15 ι1 σ1 w1 h2 (Nat.le_refl _) h10),hd,hm⟩
 | exit id => exact ⟨trivial,r2,σ2,ι2,ms2 ++ ms1,h7,h8,h9,h4.trans h10,hd,hm⟩
 | goto l => exact ⟨trivial,r2,σ2,ι2,ms2 ++ ms1,h7,h8,h9,h4.trans h10,hd,hm⟩
 | ret => exact ⟨trivial,r2,σ2,ι2,ms2 ++ ms1,h7,h8,h9,h4.trans h10,hd,hm⟩
 | panic ch => exact h0'.elim
 | outgrown => exact h0'.elim
theorem FnOk.mono {f : FuncId} {args : List AV} {σ : Heap} {Q Q' : AV → Heap → Prop} (h : FnOk P f args σ Q) (hq : ∀ v σ',Q v σ' → Q' v σ') : FnOk P f args σ Q' :=
 ⟨h.1,fun ι w cargs hgl hh ha => CallsIn.mono (h.2 ι w cargs hgl hh ha) fun e w' ⟨v,σ',ι',cv,h1,h2,h3⟩ => ⟨v,σ',ι',cv,h1,hq _ _ h2,h3⟩⟩
theorem fn_frz {f : FuncId} {args : List AV} {σ : Heap} {Q : AV → Heap → Prop} (n : Nat) (hn : σ.length ≤ n) (h : FnOk P f args σ fun v σ' => ∃ k y σ'',frzV k σ' n v = some y ∧ frzH k σ' n = some σ'' ∧ Q y σ'') : FnOk P f args σ Q :=
 ⟨h.1,fun ι w cargs hgl hh ha => CallsIn.mono (h.2 ι w cargs hgl hh ha) fun e w' ⟨v,σ',ι',cv,h1,⟨k,y,σ'',h2,h3,h4⟩,h5,h6,h7⟩ =>
  ⟨y,σ'',cut n ι',cv,h1,h4,frzV_ok h6 h5 h2,frzH_ok h6 h3,frz_step hh hn h3 h7⟩⟩
def Cell.isT : Cell → Bool
 | .t _ => true
 | _ => false
def AV.isT : AV → Bool
 | .c x => x.isT
 | .agg xs => xs.all Cell.isT
 | .tup xs => xs.all fun | .inl x => x.isT | .inr xs => xs.all Cell.isT
theorem upC_tree {is : List Nat} {n : Nat} {c : Cell} (h : c.isT = true) : upC is n c = c := by
 cases c <;> first | rfl | simp [Cell.isT] at h
theorem upC_trees {is : List Nat} {n : Nat} : ∀ {cs : List Cell},cs.all Cell.isT = true → cs.map (upC is n) = cs
 | [],_ => rfl
 | c :: cs,h => by
  simp only [List.all_cons,Bool.and_eq_true] at h
  simp [upC_tree h.1,upC_trees h.2]
theorem upV_tree {is : List Nat} {n : Nat} {v : AV} (h : v.isT = true) : upV is n v = v := by
 cases v with
 | c x => simp only [upV,upC_tree h]
 | agg xs => simp only [upV,upC_trees h]
 | tup xs =>
  simp only [upV]
  congr 1
  have : ∀ {ys : List (Cell ⊕ List Cell)},(ys.all fun | .inl x => x.isT | .inr xs => xs.all Cell.isT) = true → ys.map (upP is n) = ys := fun {ys} hy => by
   induction ys with
   | nil => rfl
   | cons y ys ih =>
    simp only [List.all_cons,Bool.and_eq_true] at hy
    rw [List.map_cons,ih hy.2]
    cases y with
    | inl x => simp only [upP,upC_tree hy.1]
    | inr xs => simp only [upP,upC_trees hy.1]
  exact this h
theorem map_tree {is : List Nat} {n : Nat} : ∀ {vs : List AV},vs.all AV.isT = true → vs.map (upV is n) = vs
 | [],_ => rfl
 | v :: vs,h => by
  simp only [List.all_cons,Bool.and_eq_true] at h
  simp [upV_tree h.1,map_tree h.2]
theorem fn_any {f : FuncId} {args : List AV} {σ : Heap} {Q : AV → Prop} (ha : args.all AV.isT = true) (h : FnOk P f args [] fun v σ' => v.isT = true ∧ σ' = [] ∧ Q v) : FnOk P f args σ fun v σ' => Q v ∧ σ' = σ := by
 have := fn_rename (σ := σ) (args := args) [] List.nodup_nil rfl (fun k i o hk => by simp at hk) (map_tree ha).symm h
 refine this.mono fun v σ' ⟨v0,τ',⟨h1,h2,h3⟩,h4,h5⟩ => ?_
 subst h2
 rw [upV_tree h1] at h4
 subst h4
 exact ⟨h3,by rw [h5]; simp [backH,putAll]⟩
theorem const_any {f : FuncId} {args : List AV} {σ : Heap} {v : AV} (ha : args.all AV.isT = true) (hv : v.isT = true) (h : FnOk P f args [] fun v' σ' => v' = v ∧ σ' = []) : ConstAt P f args σ [] v := fun τ _ =>
 (fn_any (σ := τ) (Q := fun v' => v' = v) ha (h.mono fun v' σ' ⟨h1,h2⟩ => ⟨h1 ▸ hv,h2,h1⟩))
end
end Go.Abs
namespace Go.Abs
variable [Gl]
abbrev CF := FuncId → List AV → Heap → Option (AV × Heap)
def stepR (P : Program) (cf : CF) (r : Regs) (σ : Heap) (op : Op) : Option (Option AV × Heap) := match op with
 | .call { callee := .value f,args,argTypes := _ } => match callE r f args.toList with
  | some x => (cf x.1 x.2 σ).map fun y => (some y.1,y.2)
  | none => none
 | .binOp b xT x y yT => if isNilConst y then (match nilTest P r (.binOp b xT x y yT) with
  | some (n,ne) => if n = 0 then none else some (some (aB ne),σ)
  | none => none) else opE P r σ (.binOp b xT x y yT)
 | op => opE P r σ op
def opsR (P : Program) (cf : CF) (N : Nat) : List COp → Regs → Heap → Option (Regs × Heap)
 | [],r,σ => some (r,σ)
 | ⟨d,op,g,k⟩ :: os,r,σ => if dstOk N d then (match guardC r g with
  | some true => match stepR P cf r σ op with
   | some (res,σ') => opsR P cf N os ((r.putR d res).kill k) σ'
   | none => none
  | some false => opsR P cf N os ((r.drop d).kill k) σ
  | none => none) else none
def constR (cf : CF) (g : FuncId) (args : List AV) : Option AV := if args.all AV.isT then (match cf g args [] with
  | some (v,σ) => match frzV 8 σ 0 v with
   | some u => if u.isT then some u else none
   | none => none
  | none => none) else none
def stepDR (P : Program) (cf : CF) (r : Regs) (σ : Heap) (op : Op) : Option DR := match op with
 | .call { callee := .value f,args,argTypes := _ } => match callE r f args.toList with
  | some x => (constR cf x.1 x.2).map fun v => (some v,σ,[],[])
  | none => none
 | .binOp b xT x y yT => if isNilConst y then none else opD P r σ (.binOp b xT x y yT)
 | op => opD P r σ op
def drawR (P : Program) (cf : CF) (N : Nat) : List COp → Nat → List Nat → DrawLog → Regs → Heap → Option (Regs × Heap)
 | [],_,_,_,r,σ => some (r,σ)
 | ⟨d,op,g,_⟩ :: os,j,bef,log,r,σ => if dstOk N d then (match guardC r g with
  | some true => match stepDR P cf r σ op with
   | some (res,σ',rs,ws) => if freeOf (bef.headD 0) rs ws log then drawR P cf N os (j + 1) bef.tail ((j,rs,ws) :: log) (r.putR d res) σ' else none
   | none => none
  | some false => drawR P cf N os (j + 1) bef.tail ((j,[],[]) :: log) (r.drop d) σ
  | none => none) else none
def runC (P : Program) (cf : CF) (N : Nat) : Nat → CC → Regs → Heap → Option (Exit × Regs × Heap)
 | 0,_,_,_ => none
 | _ + 1,.skip,r,σ => some (.normal,r,σ)
 | _ + 1,.reg ops,r,σ => (opsR P cf N ops r σ).map fun x => (.normal,x)
 | _ + 1,.drw ops bef,r,σ => (drawR P cf N ops 0 bef [] r σ).map fun x => (.normal,x)
 | k + 1,.seq a b,r,σ => match runC P cf N k a r σ with
  | some (.normal,r',σ') => runC P cf N k b r' σ'
  | x => x
 | k + 1,.cond c a b,r,σ => match ev r c with
  | some (.c (.t (.bool true))) => runC P cf N k a r σ
  | some (.c (.t (.bool false))) => runC P cf N k b r σ
  | _ => none
 | k + 1,.block id a,r,σ => match runC P cf N k a r σ with
  | some (.exit i,r',σ') => if i = id then some (.normal,r',σ') else some (.exit i,r',σ')
  | x => x
 | k + 1,.loop a,r,σ => match runC P cf N k a r σ with
  | some (.normal,r',σ') => runC P cf N k (.loop a) r' σ'
  | x => x
 | _ + 1,.exit id,r,σ => some (.exit id,r,σ)
 | _ + 1,.ret,r,σ => some (.ret,r,σ)
 | _ + 1,.rng ..,_,_ => none
 | _ + 1,.scp _,_,_ => none
 | _ + 1,.lbl,_,_ => none
abbrev Tab := FuncId → Option (Nat × List ResultVar × CC)
def runF (P : Program) (T : Tab) (L : Nat) : Nat → CF
 | 0,_,_,_ => none
 | k + 1,f,args,σ => match T f with
  | some (N,rs,C) => if args.length ≤ N then (match runC P (runF P T L k) N L C (initRegs args) σ with
   | some (.normal,r,σ') => (retE P rs r σ').map fun v => (v,σ')
   | some (.ret,r,σ') => (retE P rs r σ').map fun v => (v,σ')
   | _ => none) else none
  | none => none
section
variable {P : Program} {N : Nat} {ro : Option Nat}
def CFOk (P : Program) (cf : CF) : Prop := ∀ f args σ v σ',cf f args σ = some (v,σ') → FnOk P f args σ fun u τ => u = v ∧ τ = σ'
theorem stepR_ok {cf : CF} (hcf : CFOk P cf) {r : Regs} {σ σ' : Heap} {op : Op} {res : Option AV} {K : Option AV → Heap → Prop} {t : Tag K} (h : stepR P cf r σ op = some (res,σ')) (hK : K res σ') : stepC P r σ op K t := by
 unfold stepR at h
 unfold stepC
 split at h
 ·rename_i f args ts
  simp only
  split at h
  ·rename_i x hx
   rw [hx]
   rw [Option.map_eq_some_iff] at h
   obtain ⟨⟨v,τ⟩,h1,h2⟩ := h
   injection h2 with h2 h3
   subst h2; subst h3
   exact (hcf _ _ _ _ _ h1).mono fun u τ' ⟨e1,e2⟩ => by subst e1; subst e2; exact hK
  ·cases h
 ·rename_i b xT x y yT
  simp only
  split at h
  ·rename_i hy
   split at h
   ·rename_i n ne hn
    split at h
    ·cases h
    ·rename_i hn0
     injection h with h
     injection h with h1 h2
     subst h1; subst h2
     simp only [hy,if_true]
     have hn' := hn
     simp only [nilTest,hy,if_true] at hn
     split at hn
     ·rename_i i v ne' e1 e2 e3
      split at hn
      ·rename_i e m hk _
       simp only [e1,hk,hn',onOpt,nilK]
       exact ⟨hK,fun e => absurd e hn0⟩
      ·cases hn
     ·cases hn
   ·cases h
  ·rename_i hy
   simp only [hy,if_false]
   simp only [h,onSome,Bool.false_eq_true,if_false]
   exact hK
 ·rename_i h1 h2
  split
  ·rename_i f args ts
   exact absurd rfl (h1 f args ts)
  ·rename_i b xT x y yT
   exact absurd rfl (h2 b xT x y yT)
  ·simp only [h,onSome]
   exact hK
theorem opsR_ok {cf : CF} (hcf : CFOk P cf) {K : Regs → Heap → Prop} {t : Tag K} : ∀ {os : List COp} {r r' : Regs} {σ σ' : Heap},opsR P cf N os r σ = some (r',σ') → K r' σ' → opsC P N os r σ K t
 | [],r,r',σ,σ',h,hK => by
  simp only [opsR,Option.some.injEq,Prod.mk.injEq] at h
  obtain ⟨rfl,rfl⟩ := h
  exact hK
 | ⟨d,op,g,k⟩ :: os,r,r',σ,σ',h,hK => by
  simp only [opsR] at h
  split at h
  ·rename_i hd
   refine ⟨hd,?_⟩
   split at h
   ·rename_i hg
    rw [hg,onGuard_true]
    split at h
    ·rename_i res σ1 h1
     exact stepR_ok hcf h1 (opsR_ok hcf h hK)
    ·cases h
   ·rename_i hg
    rw [hg,onGuard_false]
    exact opsR_ok hcf h hK
   ·cases h
  ·cases h
theorem constR_ok {cf : CF} (hcf : CFOk P cf) {g : FuncId} {args : List AV} {v : AV} {σ : Heap} (h : constR cf g args = some v) : ConstAt P g args σ [] v := by
 unfold constR at h
 split at h
 ·rename_i ha
  split at h
  ·rename_i u τ h1
   split at h
   ·rename_i y hy
    split at h
    ·rename_i ht
     injection h with h
     subst h
     refine const_any ha ht (fn_frz 0 (by simp) ((hcf _ _ _ _ _ h1).mono fun v' σ' ⟨e1,e2⟩ => ?_))
     subst e1; subst e2
     exact ⟨8,y,[],hy,by simp [frzH,mapO],rfl,rfl⟩
    ·cases h
   ·cases h
  ·cases h
 ·cases h
theorem stepDR_ok {cf : CF} (hcf : CFOk P cf) {r : Regs} {σ σ' : Heap} {op : Op} {res : Option AV} {rs ws : List Nat} {K : Option AV → Heap → List Nat → List Nat → Prop} {t : Tag K} (h : stepDR P cf r σ op = some (res,σ',rs,ws)) (hK : K res σ' rs ws) : stepD P r σ op K t := by
 unfold stepDR at h
 unfold stepD
 split at h
 ·rename_i f args ts
  simp only
  split at h
  ·rename_i x hx
   rw [hx]
   rw [Option.map_eq_some_iff] at h
   obtain ⟨v,h1,h2⟩ := h
   simp only [Prod.mk.injEq] at h2
   obtain ⟨rfl,rfl,rfl,rfl⟩ := h2
   exact .inl ⟨v,[],constR_ok hcf h1,hK⟩
  ·cases h
 ·rename_i b xT x y yT
  simp only
  split at h
  ·cases h
  ·rename_i hy
   simp only [hy,Bool.false_eq_true,if_false,h,onDraw]
   exact hK
 ·rename_i h1 h2
  split
  ·rename_i f args ts
   exact absurd rfl (h1 f args ts)
  ·rename_i b xT x y yT
   exact absurd rfl (h2 b xT x y yT)
  ·simp only [h,onDraw]
   exact hK
theorem drawR_ok {cf : CF} (hcf : CFOk P cf) {K : Regs → Heap → Prop} {t : Tag K} : ∀ {os : List COp} {j : Nat} {bef : List Nat} {log : DrawLog} {r r' : Regs} {σ σ' : Heap},drawR P cf N os j bef log r σ = some (r',σ') → K r' σ' → drawC P N os j bef log r σ K t
 | [],j,bef,log,r,r',σ,σ',h,hK => by
  simp only [drawR,Option.some.injEq,Prod.mk.injEq] at h
  obtain ⟨rfl,rfl⟩ := h
  exact hK
 | ⟨d,op,g,k⟩ :: os,j,bef,log,r,r',σ,σ',h,hK => by
  simp only [drawR] at h
  split at h
  ·rename_i hd
   refine ⟨hd,?_⟩
   split at h
   ·rename_i hg
    rw [hg,onGuard_true]
    split at h
    ·rename_i res σ1 rs ws h1
     split at h
     ·rename_i hf
      exact stepDR_ok hcf h1 ⟨hf,drawR_ok hcf h hK⟩
     ·cases h
    ·cases h
   ·rename_i hg
    rw [hg,onGuard_false]
    exact drawR_ok hcf h hK
   ·cases h
  ·cases h
theorem runC_ok (hm : P.follows .mixedOrders = true) {cf : CF} (hcf : CFOk P cf) : ∀ {k : Nat} {C : CC} {r r' : Regs} {σ σ' : Heap} {e : Exit} {Q : Exit → Regs → Heap → Prop} {t : Tag Q},runC P cf N k C r σ = some (e,r',σ') → Q e r' σ' → wpq P N ro C r σ Q t := by
 intro k
 induction k using Nat.strongRecOn with
 | _ k ih =>
 cases k with
 | zero => intro C r r' σ σ' e Q t h; simp [runC] at h
 | succ k =>
  intro C r r' σ σ' e Q t h hQ
  cases C with
  | skip =>
   simp only [runC,Option.some.injEq,Prod.mk.injEq] at h
   obtain ⟨rfl,rfl,rfl⟩ := h
   exact hQ
  | reg ops =>
   simp only [runC,Option.map_eq_some_iff] at h
   obtain ⟨⟨r1,σ1⟩,h1,h2⟩ := h
   simp only [Prod.mk.injEq] at h2
   obtain ⟨rfl,rfl,rfl⟩ := h2
   exact opsR_ok hcf h1 hQ
  | drw ops bef =>
   simp only [runC,Option.map_eq_some_iff] at h
   obtain ⟨⟨r1,σ1⟩,h1,h2⟩ := h
   simp only [Prod.mk.injEq] at h2
   obtain ⟨rfl,rfl,rfl⟩ := h2
   exact draw_ok hm (t' := ⟨⟩) (drawR_ok hcf h1 hQ)
  | seq a b =>
   simp only [runC] at h
   simp only [wpq]
   split at h
   ·rename_i r1 σ1 h1
    exact ih k (Nat.lt_succ_self k) h1 (ih k (Nat.lt_succ_self k) h hQ)
   ·rename_i hne
    refine ih k (Nat.lt_succ_self k) h ?_
    cases e with
    | normal => exact absurd h (hne _ _)
    | _ => exact hQ
  | cond c a b =>
   simp only [runC] at h
   simp only [wpq]
   split at h
   ·rename_i hc
    rw [hc,onBool_true]
    exact ih k (Nat.lt_succ_self k) h hQ
   ·rename_i hc
    rw [hc,onBool_false]
    exact ih k (Nat.lt_succ_self k) h hQ
   ·cases h
  | block id a =>
   simp only [runC] at h
   simp only [wpq]
   split at h
   ·rename_i i r1 σ1 h1
    refine ih k (Nat.lt_succ_self k) h1 ?_
    simp only
    split at h
    ·rename_i hi
     rw [if_pos hi]
     simp only [Option.some.injEq,Prod.mk.injEq] at h
     obtain ⟨rfl,rfl,rfl⟩ := h
     exact hQ
    ·rename_i hi
     rw [if_neg hi]
     simp only [Option.some.injEq,Prod.mk.injEq] at h
     obtain ⟨rfl,rfl,rfl⟩ := h
     exact hQ
   ·rename_i hne
    refine ih k (Nat.lt_succ_self k) h ?_
    cases e with
    | exit i => exact absurd h (hne _ _ _)
    | _ => exact hQ
  | loop a =>
   intro c ks ks' hc
   refine ok_loop2 (fun n r σ => ∃ e r' σ',n ≤ k + 1 ∧ runC P cf N n (.loop a) r σ = some (e,r',σ') ∧ Q e r' σ') (n := k + 1) ⟨e,r',σ',Nat.le_refl _,h,hQ⟩ ?_
   rintro n r1 σ1 ⟨e2,r2,σ2,hn,h2,hQ2⟩
   cases n with
   | zero => simp [runC] at h2
   | succ n =>
    simp only [runC] at h2
    split at h2
    ·rename_i r3 σ3 h3
     refine wpq_ok (t := ⟨⟩) hc (ih n (by omega) h3 ?_)
     exact ⟨n,r3,σ3,Nat.lt_succ_self n,(Ghost.sub fun _ _ h => h).f _,e2,r2,σ2,by omega,h2,hQ2⟩
    ·rename_i hne
     refine wpq_ok (t := ⟨⟩) hc (ih n (by omega) h2 ?_)
     cases e2 with
     | normal => exact absurd h2 (hne _ _)
     | _ => exact hQ2
  | exit id =>
   simp only [runC,Option.some.injEq,Prod.mk.injEq] at h
   obtain ⟨rfl,rfl,rfl⟩ := h
   exact hQ
  | ret =>
   simp only [runC,Option.some.injEq,Prod.mk.injEq] at h
   obtain ⟨rfl,rfl,rfl⟩ := h
   exact hQ
  | rng f ps a b => simp [runC] at h
  | scp a => simp [runC] at h
  | lbl => simp [runC] at h
theorem runF_ok (hm : P.follows .mixedOrders = true) {T : Tab} (hT : ∀ f N rs C,T f = some (N,rs,C) → Stripped P f N rs C) (L : Nat) : ∀ k,CFOk P (runF P T L k) := by
 intro k
 induction k with
 | zero => intro f args σ v σ' h; simp [runF] at h
 | succ k ih =>
  intro f args σ v σ' h
  simp only [runF] at h
  split at h
  ·rename_i N rs C hf
   split at h
   ·rename_i hn
    refine fnq (hT f N rs C hf) hn ?_
    split at h
    ·rename_i r1 σ1 h1
     rw [Option.map_eq_some_iff] at h
     obtain ⟨u,h2,h3⟩ := h
     injection h3 with h3 h4
     subst h3; subst h4
     refine runC_ok hm ih h1 ?_
     simp only [bodyQ,h2,onOpt,and_self]
    ·rename_i r1 σ1 h1
     rw [Option.map_eq_some_iff] at h
     obtain ⟨u,h2,h3⟩ := h
     injection h3 with h3 h4
     subst h3; subst h4
     refine runC_ok hm ih h1 ?_
     simp only [bodyQ,h2,onOpt,and_self]
    ·cases h
   ·cases h
  ·cases h
def checkR (P : Program) (T : Tab) (L k : Nat) (f : FuncId) (args : List AV) : Option AV := match runF P T L k f args [] with
 | some (v,σ) => frzV 8 σ 0 v
 | none => none
theorem checkR_ok (hm : P.follows .mixedOrders = true) {T : Tab} (hT : ∀ f N rs C,T f = some (N,rs,C) → Stripped P f N rs C) {L k : Nat} {f : FuncId} {args : List AV} {v : AV} (h : checkR P T L k f args = some v) : FnOk P f args [] fun u τ => u = v ∧ τ = [] := by
 unfold checkR at h
 split at h
 ·rename_i u σ h1
  refine fn_frz 0 (by simp) ((runF_ok hm hT L k f args [] u σ h1).mono fun v' σ' ⟨e1,e2⟩ => ?_)
  subst e1; subst e2
  exact ⟨8,v,[],h,by simp [frzH,mapO],rfl,rfl⟩
 ·cases h
end
end Go.Abs
namespace Go.Abs
variable [Gl]
section
variable {P : Program} {N : Nat} {ro : Option Nat}
theorem putAll_same (f : Obj → Obj) : ∀ (is : List Nat) (τ σ : Heap),(∀ (k i : Nat) (o : Obj),is[k]? = some i → τ[k]? = some o → σ[i]? = some (f o)) → putAll f is τ σ = σ
 | [],_,_,_ => by simp [putAll]
 | _ :: _,[],_,_ => by simp [putAll]
 | i :: is,o :: τ,σ,h => by
  have h0 := h 0 i o rfl rfl
  have e : σ.set i (f o) = σ := by
   obtain ⟨hlt,he⟩ := List.getElem?_eq_some_iff.1 h0
   rw [← he]
   exact List.set_getElem_self hlt
  simp only [putAll,e]
  exact putAll_same f is τ σ fun k i' o' h1 h2 => h (k + 1) i' o' h1 h2
theorem const_read {f : FuncId} {args args0 : List AV} {σ τ : Heap} {v : AV} (is : List Nat) (hn : is.Nodup) (hlen : τ.length = is.length) (hσ : ∀ (n k i : Nat) (o : Obj),is[k]? = some i → τ[k]? = some o → σ[i]? = some (upO is n o))
  (hargs : ∀ n,args = args0.map (upV is n)) (hv : v.isT = true) (h : FnOk P f args0 τ fun v' σ' => v' = v ∧ σ' = τ) : ConstAt P f args σ (is.map (· + 1)) v := fun σ2 hag => by
 have hσ2 : ∀ (k i : Nat) (o : Obj),is[k]? = some i → τ[k]? = some o → σ2[i]? = some (upO is σ2.length o) := fun k i o h1 h2 => by
  have : agC σ2 σ (i + 1) := hag _ (List.mem_map.2 ⟨i,List.mem_of_getElem? h1,rfl⟩)
  exact Eq.trans this (hσ σ2.length k i o h1 h2)
 refine (fn_rename (σ := σ2) is hn hlen hσ2 (hargs σ2.length) h).mono fun v' σ' ⟨v0,τ',⟨h1,h2⟩,h3,h4⟩ => ?_
 subst h1; subst h2
 rw [upV_tree hv] at h3
 refine ⟨h3,?_⟩
 rw [h4,backH,putAll_same _ _ _ _ hσ2]
 have : List.drop is.length τ' = [] := List.drop_eq_nil_iff.2 (by omega)
 simp [this]
end
end Go.Abs
namespace Go.Abs
variable [Gl]
section
variable (P : Program) (r : Regs) (σ : Heap) (K : Option AV → Heap → List Nat → List Nat → Prop) (tg : Tag K)
end
end Go.Abs
namespace Go.Abs
variable [Gl]
section
variable {P : Program}
end
end Go.Abs
