/-
  A general library: a function's contract at a small heap, put to use at a larger one.
-/
import Derived.Test.YtcnlccpihknehaaDoorLAbsO
set_option linter.all false
namespace Go.Abs
variable [Gl]
def upId (is : List Nat) (n k : Nat) : Nat := match is[k]? with
 | some i => i
 | none => n + (k - is.length)
def upR (is : List Nat) (n : Nat) (r : Ref) : Ref := { r with id := upId is n r.id }
def upC (is : List Nat) (n : Nat) : Cell → Cell
 | .t x => .t x
 | .ptr r => .ptr (upR is n r)
 | .sl r l c => .sl (upR is n r) l c
 | .clo f rs => .clo f (rs.map (upR is n))
def upP (is : List Nat) (n : Nat) : Cell ⊕ List Cell → Cell ⊕ List Cell
 | .inl x => .inl (upC is n x)
 | .inr xs => .inr (xs.map (upC is n))
def upV (is : List Nat) (n : Nat) : AV → AV
 | .c x => .c (upC is n x)
 | .agg xs => .agg (xs.map (upC is n))
 | .tup xs => .tup (xs.map (upP is n))
def upO (is : List Nat) (n : Nat) (o : Obj) : Obj := { o with cs := o.cs.map (upC is n) }
def putAll (f : Obj → Obj) : List Nat → Heap → Heap → Heap
 | i :: is,o :: τ,σ => putAll f is τ (σ.set i (f o))
 | _,_,σ => σ
def backH (is : List Nat) (n : Nat) (σ τ : Heap) : Heap := putAll (upO is n) is τ σ ++ (τ.drop is.length).map (upO is n)
theorem putAll_length (f : Obj → Obj) : ∀ (is : List Nat) (τ σ : Heap),(putAll f is τ σ).length = σ.length
 | [],_,_ => by simp [putAll]
 | _ :: _,[],_ => by simp [putAll]
 | i :: is,o :: τ,σ => by simp [putAll,putAll_length f is τ]
theorem putAll_not (f : Obj → Obj) : ∀ (is : List Nat) (τ σ : Heap) (id : Nat),id ∉ is → (putAll f is τ σ)[id]? = σ[id]?
 | [],_,_,_,_ => by simp [putAll]
 | _ :: _,[],_,_,_ => by simp [putAll]
 | i :: is,o :: τ,σ,id,h => by
   simp only [List.mem_cons,not_or] at h
   simp only [putAll]
   rw [putAll_not f is τ _ id h.2,List.getElem?_set_ne (Ne.symm h.1)]
theorem putAll_at (f : Obj → Obj) : ∀ (is : List Nat) (τ σ : Heap),is.Nodup → (∀ i ∈ is,i < σ.length) → ∀ (k i : Nat) (o : Obj),is[k]? = some i → τ[k]? = some o → (putAll f is τ σ)[i]? = some (f o)
 | [],_,_,_,_,k,i,o,h,_ => by simp at h
 | _ :: _,[],_,_,_,k,i,o,_,h => by simp at h
 | j :: is,p :: τ,σ,hn,hl,k,i,o,h1,h2 => by
   simp only [putAll]
   cases k with
   | zero =>
     simp only [List.getElem?_cons_zero,Option.some.injEq] at h1 h2
     subst h1; subst h2
     rw [putAll_not f is τ _ j (List.nodup_cons.1 hn).1,List.getElem?_set_self (hl j (by simp))]
   | succ k =>
     simp only [List.getElem?_cons_succ] at h1 h2
     exact putAll_at f is τ _ (List.nodup_cons.1 hn).2 (fun i hi => by simpa using hl i (by simp [hi])) k i o h1 h2
section
variable {P : Program} {is : List Nat} {σ τ τ' : Heap} {ι ι' : Map} {w w' : World}
theorem CR_up {n : Nat} {w : World} (hi : ∀ k s,ι k = some s → ι' (upId is n k) = some s) (hu : ∀ b,ι.un b → ι'.un b) (hx : ι'.ex = ι.ex) {c : Cell} {v : Value} (h : CR ι w c v) : CR ι' w (upC is n c) v := by
 have hr : ∀ {r : Ref} {ok : Spot → Prop},refAt ι r ok → refAt ι' (upR is n r) ok := fun {r ok} ⟨s,h1,h2,h3⟩ => ⟨s,hi _ _ h1,h2,h3⟩
 cases c with
 | t x => exact TR.mono h fun b hb hrow => ⟨hu b hb,rfl⟩
 | ptr r => obtain ⟨a,e,h1⟩ := h; exact ⟨a,e,hr h1⟩
 | sl r l c => obtain ⟨a,c,e,h1,h2⟩ := h; exact ⟨a,c,e,h1,hr h2⟩
 | clo f rs =>
   refine cloR.imp (caps' := rs.map (upR is n)) h (by rw [hx]) (by simp) fun _ i hi hi' a h4 => ?_
   simp only [List.getElem_map]
   exact hr h4
theorem CR_down {n : Nat} {w : World} (hi : ∀ k s,ι' (upId is n k) = some s → ι k = some s) (hu : ∀ b,ι'.un b → ι.un b) (hx : ι'.ex = ι.ex) {c : Cell} {v : Value} (h : CR ι' w (upC is n c) v) : CR ι w c v := by
 have hr : ∀ {r : Ref} {ok : Spot → Prop},refAt ι' (upR is n r) ok → refAt ι r ok := fun {r ok} ⟨s,h1,h2,h3⟩ => ⟨s,hi _ _ h1,h2,h3⟩
 cases c with
 | t x => exact TR.mono h fun b hb hrow => ⟨hu b hb,rfl⟩
 | ptr r => obtain ⟨a,e,h1⟩ := h; exact ⟨a,e,hr h1⟩
 | sl r l c => obtain ⟨a,c,e,h1,h2⟩ := h; exact ⟨a,c,e,h1,hr h2⟩
 | clo f rs =>
   refine cloR.imp (caps := rs.map (upR is n)) h (by rw [hx]) (by simp) fun _ i hi hi' a h4 => ?_
   simp only [List.getElem_map] at h4
   exact hr h4
theorem aggR_map {f : Cell → Cell} {w w' : World} (h : ∀ c v,CR ι w c v → CR ι' w' (f c) v) {xs : List Cell} {v : Value} (ha : aggR ι w xs v) : aggR ι' w' (xs.map f) v := by
 obtain ⟨arr,e,h1,h2⟩ := ha
 refine ⟨arr,e,by simpa using h1,fun i hi => ?_⟩
 obtain ⟨u,h3,h4⟩ := h2 i (by simpa using hi)
 exact ⟨u,h3,by rw [List.getElem_map]; exact h _ _ h4⟩
theorem aggR_map_down {f : Cell → Cell} {w w' : World} (h : ∀ c v,CR ι w (f c) v → CR ι' w' c v) {xs : List Cell} {v : Value} (ha : aggR ι w (xs.map f) v) : aggR ι' w' xs v := by
 obtain ⟨arr,e,h1,h2⟩ := ha
 refine ⟨arr,e,by simpa using h1,fun i hi => ?_⟩
 obtain ⟨u,h3,h4⟩ := h2 i (by simpa using hi)
 rw [List.getElem_map] at h4
 exact ⟨u,h3,h _ _ h4⟩
theorem VR_up {n : Nat} {w : World} (hi : ∀ k s,ι k = some s → ι' (upId is n k) = some s) (hu : ∀ b,ι.un b → ι'.un b) (hx : ι'.ex = ι.ex) {x : AV} {v : Value} (h : VR ι w x v) : VR ι' w (upV is n x) v := by
 have hc : ∀ c v,CR ι w c v → CR ι' w (upC is n c) v := fun c v => CR_up hi hu hx
 cases x with
 | c x => exact hc _ _ h
 | agg xs => exact aggR_map hc h
 | tup xs =>
   obtain ⟨arr,e,h1,h2⟩ := h
   refine ⟨arr,e,by simpa using h1,fun i hi => ?_⟩
   obtain ⟨u,h3,h4⟩ := h2 i (by simpa using hi)
   refine ⟨u,h3,?_⟩
   rw [List.getElem_map]
   generalize xs[i]'(by simpa using hi) = y at h4 ⊢
   cases y with
   | inl x => exact hc _ _ h4
   | inr xs => exact aggR_map hc h4
theorem VR_down {n : Nat} {w : World} (hi : ∀ k s,ι' (upId is n k) = some s → ι k = some s) (hu : ∀ b,ι'.un b → ι.un b) (hx : ι'.ex = ι.ex) {x : AV} {v : Value} (h : VR ι' w (upV is n x) v) : VR ι w x v := by
 have hc : ∀ c v,CR ι' w (upC is n c) v → CR ι w c v := fun c v => CR_down hi hu hx
 cases x with
 | c x => exact hc _ _ h
 | agg xs => exact aggR_map_down hc h
 | tup xs =>
   obtain ⟨arr,e,h1,h2⟩ := h
   refine ⟨arr,e,by simpa using h1,fun i hi => ?_⟩
   obtain ⟨u,h3,h4⟩ := h2 i (by simpa using hi)
   refine ⟨u,h3,?_⟩
   rw [List.getElem_map] at h4
   generalize xs[i]'(by simpa using hi) = y at h4 ⊢
   cases y with
   | inl x => exact hc _ _ h4
   | inr xs => exact aggR_map_down hc h4
theorem upId_lt {n k i : Nat} (h : is[k]? = some i) : upId is n k = i := by simp [upId,h]
theorem upId_ge {n k : Nat} (h : is.length ≤ k) : upId is n k = n + (k - is.length) := by simp [upId,List.getElem?_eq_none h]
def inMap (is : List Nat) (ι : Map) : Map := ⟨fun k => match is[k]? with | some i => ι i | none => none,fun b => ι.res b ∨ ∃ id s l,id ∉ is ∧ ι id = some s ∧ s.loc = some l ∧ l.blk = b,ι.ex⟩
def outMap (is : List Nat) (n : Nat) (ι ι' : Map) : Map := ⟨fun id => if id < n then (if id ∈ is then ι' (is.idxOf id) else ι id) else ι' (is.length + (id - n)),ι.res,ι.ex⟩
theorem inMap_some {k : Nat} {s : Spot} (h : inMap is ι k = some s) : ∃ i,is[k]? = some i ∧ ι i = some s := by
 simp only [inMap] at h
 split at h
 · rename_i i hi; exact ⟨i,hi,h⟩
 · cases h
theorem inMap_mapped (b : Nat) : (inMap is ι).mapped b ↔ ι.mapped b := by
 constructor
 · rintro (⟨k,s,l,h1,h2,rfl⟩ | h | ⟨id,s,l,_,h1,h2,rfl⟩)
   · obtain ⟨i,_,h3⟩ := inMap_some h1
     exact .inl ⟨i,s,l,h3,h2,rfl⟩
   · exact .inr h
   · exact .inl ⟨id,s,l,h1,h2,rfl⟩
 · rintro (⟨id,s,l,h1,h2,rfl⟩ | h)
   · by_cases hm : id ∈ is
     · obtain ⟨k,hk⟩ := List.mem_iff_getElem?.1 hm
       exact .inl ⟨k,s,l,by simp only [inMap,hk]; exact h1,h2,rfl⟩
     · exact .inr (.inr ⟨id,s,l,hm,h1,h2,rfl⟩)
   · exact .inr (.inl h)
theorem inMap_HR (hn : is.Nodup) (h : HR ι σ w) (hlen : τ.length = is.length) (hσ : ∀ (k i : Nat) (o : Obj),is[k]? = some i → τ[k]? = some o → σ[i]? = some (upO is σ.length o)) : HR (inMap is ι) τ w where
 obj := fun k s hk => by
   obtain ⟨i,h1,h2⟩ := inMap_some hk
   obtain ⟨o,h3,h4⟩ := h.obj i s h2
   have hlt : k < τ.length := by rw [hlen]; exact (List.getElem?_eq_some_iff.1 h1).1
   have h5 := hσ k i τ[k] h1 (List.getElem?_eq_getElem hlt)
   rw [h3] at h5
   injection h5 with h5
   subst h5
   refine ⟨τ[k],List.getElem?_eq_getElem hlt,h4.1,h4.2.1,?_⟩
   have h6 := h4.2.2
   cases hl : s.loc with
   | none => rw [hl] at h6; simpa [upO] using h6
   | some l =>
     rw [hl] at h6
     refine ⟨h6.1,by simpa [upO] using h6.2.1,fun j hj => ?_⟩
     obtain ⟨v,h7,h8⟩ := h6.2.2 j (by simpa [upO] using hj)
     refine ⟨v,h7,?_⟩
     simp only [upO,List.getElem_map] at h8
     refine CR_down (ι' := ι) (n := σ.length) (fun k s hk => ?_) (fun b hb => fun hm => hb ((inMap_mapped b).1 hm)) rfl h8
     by_cases hlt : k < is.length
     · rw [upId_lt (List.getElem?_eq_getElem hlt)] at hk
       simp only [inMap,List.getElem?_eq_getElem hlt]
       exact hk
     · rw [upId_ge (by omega)] at hk
       have := h.lt hk
       omega
 inj := fun k k' s s' l l' h1 h2 h3 h4 h5 => by
   obtain ⟨i,h6,h7⟩ := inMap_some h1
   obtain ⟨i',h8,h9⟩ := inMap_some h2
   have e := h.inj i i' s s' l l' h7 h9 h3 h4 h5
   subst e
   obtain ⟨hk,h6⟩ := List.getElem?_eq_some_iff.1 h6
   obtain ⟨hk',h8⟩ := List.getElem?_eq_some_iff.1 h8
   exact (List.getElem_inj hn).1 (h6.trans h8.symm)
 resRow := fun b hb => by
   rcases hb with hb | ⟨id,s,l,_,h1,h2,rfl⟩
   · exact h.resRow b hb
   · obtain ⟨o,_,_,_,h3⟩ := h.obj id s h1
     rw [h2] at h3
     obtain ⟨⟨c,e,h4,_⟩,_⟩ := h3
     exact ⟨c,e,_,h4⟩
 resNo := fun k s l h1 h2 hr => by
   obtain ⟨i,h3,h4⟩ := inMap_some h1
   rcases hr with hr | ⟨id,s',l',hid,h5,h6,h7⟩
   · exact h.resNo i s l h4 h2 hr
   · have := h.inj id i s' s l' l h5 h4 h6 h2 h7
     subst this
     exact hid (List.mem_of_getElem? h3)
end
end Go.Abs
