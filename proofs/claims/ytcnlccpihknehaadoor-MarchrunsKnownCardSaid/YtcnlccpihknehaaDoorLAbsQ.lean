/-
  A general library: a function's contract at a small heap, put to use at a larger one: the way back.
-/
import Derived.Test.YtcnlccpihknehaaDoorLAbsP
set_option linter.all false
namespace Go.Abs
variable [Gl]
section
variable {P : Program} {is : List Nat} {σ τ τ' : Heap} {ι ι' : Map} {w w' : World}
theorem outMap_up (hn : is.Nodup) (hl : ∀ i ∈ is,i < σ.length) (k : Nat) : outMap is σ.length ι ι' (upId is σ.length k) = ι' k := by
 by_cases h : k < is.length
 · have hk : is[k]? = some is[k] := List.getElem?_eq_getElem h
   rw [upId_lt hk]
   have hm : is[k] ∈ is := List.getElem_mem h
   have hi : is.idxOf is[k] = k := List.Nodup.idxOf_getElem hn k h
   simp only [outMap,hl _ hm,hm,if_true,hi]
 · rw [upId_ge (by omega)]
   have h1 : ¬ σ.length + (k - is.length) < σ.length := by omega
   have h2 : is.length + (σ.length + (k - is.length) - σ.length) = k := by omega
   simp only [outMap,h1,if_false,h2]
theorem out_cases (hn : is.Nodup) (hl : ∀ i ∈ is,i < σ.length) (id : Nat) : (∃ k,upId is σ.length k = id ∧ outMap is σ.length ι ι' id = ι' k ∧ (id < σ.length → is[k]? = some id) ∧ (σ.length ≤ id → k = is.length + (id - σ.length))) ∨ (id < σ.length ∧ id ∉ is ∧ outMap is σ.length ι ι' id = ι id) := by
 by_cases h : id < σ.length
 · by_cases hm : id ∈ is
   · obtain ⟨k,hk⟩ := List.mem_iff_getElem?.1 hm
     refine .inl ⟨k,upId_lt hk,?_,fun _ => hk,fun h' => by omega⟩
     have := outMap_up (ι := ι) (ι' := ι') hn hl k
     rw [upId_lt hk] at this
     exact this
   · exact .inr ⟨h,hm,by simp only [outMap,h,hm,if_true,if_false]⟩
 · refine .inl ⟨is.length + (id - σ.length),?_,?_,fun h' => by omega,fun _ => rfl⟩
   · rw [upId_ge (by omega)]; omega
   · simp only [outMap,h,if_false]
theorem backH_length : (backH is σ.length σ τ').length = σ.length + (τ'.length - is.length) := by
 simp [backH,putAll_length]
theorem backH_up (hn : is.Nodup) (hl : ∀ i ∈ is,i < σ.length) {k : Nat} {o : Obj} (ho : τ'[k]? = some o) : (backH is σ.length σ τ')[upId is σ.length k]? = some (upO is σ.length o) := by
 by_cases h : k < is.length
 · have hk : is[k]? = some is[k] := List.getElem?_eq_getElem h
   rw [upId_lt hk]
   unfold backH
   rw [List.getElem?_append_left (by rw [putAll_length]; exact hl _ (List.getElem_mem h))]
   exact putAll_at _ is τ' σ hn hl k _ o hk ho
 · rw [upId_ge (by omega)]
   unfold backH
   rw [List.getElem?_append_right (by rw [putAll_length]; omega),putAll_length,List.getElem?_map,List.getElem?_drop]
   have : is.length + (σ.length + (k - is.length) - σ.length) = k := by omega
   rw [this,ho]
   rfl
theorem backH_not {id : Nat} (h : id ∉ is) (hlt : id < σ.length) : (backH is σ.length σ τ')[id]? = σ[id]? := by
 unfold backH
 rw [List.getElem?_append_left (by rw [putAll_length]; exact hlt)]
 exact putAll_not _ is τ' σ id h
theorem out_un (hn : is.Nodup) (hl : ∀ i ∈ is,i < σ.length) (hres : ι'.res = (inMap is ι).res) (b : Nat) (h : ι'.un b) : (outMap is σ.length ι ι').un b := by
 rintro (⟨id,s,l,h1,h2,rfl⟩ | hr)
 · rcases out_cases (ι := ι) (ι' := ι') hn hl id with ⟨k,_,h3,_⟩ | ⟨_,h3,h4⟩
   · rw [h3] at h1
     exact h (.inl ⟨k,s,l,h1,h2,rfl⟩)
   · rw [h4] at h1
     exact h (.inr (by rw [hres]; exact .inr ⟨id,s,l,h3,h1,h2,rfl⟩))
 · exact h (.inr (by rw [hres]; exact .inl hr))
theorem out_step (hlen : τ.length = is.length) (hn : is.Nodup) (hl : ∀ i ∈ is,i < σ.length) (hh : HR ι σ w) (hs : Step (inMap is ι) τ w ι' τ' w') : Step ι σ w (outMap is σ.length ι ι') (backH is σ.length σ τ') w' where
 len := by rw [backH_length]; omega
 size := hs.size
 os := hs.os
 out := hs.out
 keep := fun id s h => by
   have hlt := hh.lt h
   rcases out_cases (ι := ι) (ι' := ι') hn hl id with ⟨k,_,h3,h4,_⟩ | ⟨_,_,h4⟩
   · have : inMap is ι k = some s := by simp only [inMap,h4 hlt]; exact h
     obtain ⟨s',h5,h6⟩ := hs.keep k s this
     exact ⟨s',by rw [h3]; exact h5,h6⟩
   · exact ⟨s,by rw [h4]; exact h,Nat.le_refl _,fun _ => rfl⟩
 none := fun id hlt h => by
   rcases out_cases (ι := ι) (ι' := ι') hn hl id with ⟨k,_,h3,h4,_⟩ | ⟨_,_,h4⟩
   · have hk := h4 hlt
     have hkt : k < τ.length := by rw [hlen]; exact (List.getElem?_eq_some_iff.1 hk).1
     have : inMap is ι k = none := by simp only [inMap,hk]; exact h
     rw [h3]
     exact hs.none k hkt this
   · rw [h4]; exact h
 new := fun id s' l' h1 h2 => by
   rcases out_cases (ι := ι) (ι' := ι') hn hl id with ⟨k,_,h3,_⟩ | ⟨_,_,h4⟩
   · rw [h3] at h1
     rcases hs.new k s' l' h1 h2 with h5 | ⟨k',s,l,h5,h6,h7⟩
     · exact .inl h5
     · obtain ⟨i,_,h8⟩ := inMap_some h5
       exact .inr ⟨i,s,l,h8,h6,h7⟩
   · rw [h4] at h1
     exact .inr ⟨id,s',l',h1,h2,rfl⟩
 res := rfl
 ex := rfl
 resKeep := fun b hb => hs.resKeep b (.inl hb)
 frame := fun b hb hu => hs.frame b hb fun hm => hu ((inMap_mapped b).1 hm)
theorem out_OR (hn : is.Nodup) (hl : ∀ i ∈ is,i < σ.length) (hres : ι'.res = (inMap is ι).res) (hex : ι'.ex = (inMap is ι).ex) {o : Obj} {s : Spot} (h : OR ι' w' o s) : OR (outMap is σ.length ι ι') w' (upO is σ.length o) s := by
 refine ⟨h.1,h.2.1,?_⟩
 have h3 := h.2.2
 cases hl' : s.loc with
 | none => rw [hl'] at h3; simp [upO,h3]
 | some l =>
   rw [hl'] at h3
   refine ⟨h3.1,by simpa [upO] using h3.2.1,fun j hj => ?_⟩
   obtain ⟨v,h7,h8⟩ := h3.2.2 j (by simpa [upO] using hj)
   refine ⟨v,h7,?_⟩
   simp only [upO,List.getElem_map]
   exact CR_up (fun k s hk => by rw [outMap_up hn hl]; exact hk) (out_un hn hl hres) hex.symm h8
theorem out_HR (hlen : τ.length = is.length) (hn : is.Nodup) (hl : ∀ i ∈ is,i < σ.length) (hh : HR ι σ w) (hs : Step (inMap is ι) τ w ι' τ' w') (hh' : HR ι' τ' w') : HR (outMap is σ.length ι ι') (backH is σ.length σ τ') w' where
 obj := fun id s h => by
   rcases out_cases (ι := ι) (ι' := ι') hn hl id with ⟨k,h2,h3,_⟩ | ⟨hlt,hm,h4⟩
   · rw [h3] at h
     obtain ⟨o,h5,h6⟩ := hh'.obj k s h
     refine ⟨upO is σ.length o,?_,out_OR hn hl hs.res hs.ex h6⟩
     rw [← h2]
     exact backH_up hn hl h5
   · rw [h4] at h
     obtain ⟨o,h5,h6⟩ := hh.obj id s h
     refine ⟨o,by rw [backH_not hm hlt]; exact h5,h6.congr (out_step hlen hn hl hh hs) fun l hl' => ?_⟩
     exact hs.resKeep _ (.inr ⟨id,s,l,hm,h,hl',rfl⟩)
 inj := fun id id' s s' l l' h1 h2 h3 h4 h5 => by
   have mix : ∀ {id id' : Nat} {s s' : Spot} {l l' : Loc} {k : Nat},ι' k = some s → s.loc = some l → id' ∉ is → ι id' = some s' → s'.loc = some l' → l.blk = l'.blk → False := fun {id id' s s' l l' k} h1 h2 h3 h4 h5 h6 => by
     refine hh'.resNo k s l h1 h2 ?_
     rw [hs.res]
     exact .inr ⟨id',s',l',h3,h4,h5,h6.symm⟩
   rcases out_cases (ι := ι) (ι' := ι') hn hl id with ⟨k,h6,h7,_⟩ | ⟨_,hm,h7⟩ <;> rcases out_cases (ι := ι) (ι' := ι') hn hl id' with ⟨k',h8,h9,_⟩ | ⟨_,hm',h9⟩
   · rw [h7] at h1
     rw [h9] at h2
     have := hh'.inj k k' s s' l l' h1 h2 h3 h4 h5
     rw [← h6,← h8,this]
   · rw [h7] at h1
     rw [h9] at h2
     exact (mix (id := id) h1 h3 hm' h2 h4 h5).elim
   · rw [h7] at h1
     rw [h9] at h2
     exact (mix (id := id) h2 h4 hm h1 h3 h5.symm).elim
   · rw [h7] at h1
     rw [h9] at h2
     exact hh.inj id id' s s' l l' h1 h2 h3 h4 h5
 resRow := fun b hb => hh'.resRow b (by rw [hs.res]; exact .inl hb)
 resNo := fun id s l h1 h2 hr => by
   rcases out_cases (ι := ι) (ι' := ι') hn hl id with ⟨k,_,h3,_⟩ | ⟨_,_,h3⟩
   · rw [h3] at h1
     exact hh'.resNo k s l h1 h2 (by rw [hs.res]; exact .inl hr)
   · rw [h3] at h1
     exact hh.resNo id s l h1 h2 hr
theorem in_VR (hh : HR ι σ w) {x : AV} {v : Value} (h : VR ι w (upV is σ.length x) v) : VR (inMap is ι) w x v :=
 VR_down (ι' := ι) (fun k s hk => by
   by_cases hlt : k < is.length
   · rw [upId_lt (List.getElem?_eq_getElem hlt)] at hk
     simp only [inMap,List.getElem?_eq_getElem hlt]
     exact hk
   · rw [upId_ge (by omega)] at hk
     have := hh.lt hk
     omega) (fun b hb hm => hb ((inMap_mapped b).1 hm)) rfl h
theorem fn_rename {f : FuncId} {args args0 : List AV} {Q : AV → Heap → Prop} (is : List Nat) (hn : is.Nodup) (hlen : τ.length = is.length) (hσ : ∀ (k i : Nat) (o : Obj),is[k]? = some i → τ[k]? = some o → σ[i]? = some (upO is σ.length o))
   (hargs : args = args0.map (upV is σ.length)) (h : FnOk P f args0 τ Q) : FnOk P f args σ fun v σ' => ∃ v0 τ',Q v0 τ' ∧ v = upV is σ.length v0 ∧ σ' = backH is σ.length σ τ' := by
 subst hargs
 have hl : ∀ i ∈ is,i < σ.length := fun i hi => by
   obtain ⟨k,hk⟩ := List.mem_iff_getElem?.1 hi
   have hlt : k < τ.length := by rw [hlen]; exact (List.getElem?_eq_some_iff.1 hk).1
   exact (List.getElem?_eq_some_iff.1 (hσ k i τ[k] hk (List.getElem?_eq_getElem hlt))).1
 refine ⟨h.1,fun ι w cargs hgl hh ha => CallsIn.mono (h.2 (inMap is ι) w cargs (hgl.mono fun b hu _ => ⟨fun hm => hu ((inMap_mapped b).1 hm),rfl⟩) (inMap_HR hn hh hlen hσ) ⟨by simpa using ha.1,fun i hi => ?_⟩) ?_⟩
 · obtain ⟨u,h1,h2⟩ := ha.2 i (by simpa using hi)
   rw [List.getElem_map] at h2
   exact ⟨u,h1,in_VR hh h2⟩
 · rintro e w' ⟨v,τ',ι',cv,rfl,hq,hv,hh',hs⟩
   refine ⟨upV is σ.length v,backH is σ.length σ τ',outMap is σ.length ι ι',cv,rfl,⟨v,τ',hq,rfl,rfl⟩,?_,out_HR hlen hn hl hh hs hh',out_step hlen hn hl hh hs⟩
   exact VR_up (fun k s hk => by rw [outMap_up hn hl]; exact hk) (out_un hn hl hs.res) hs.ex.symm hv
end
end Go.Abs
