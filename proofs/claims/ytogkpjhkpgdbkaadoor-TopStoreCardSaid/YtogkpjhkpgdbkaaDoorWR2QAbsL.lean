/-
  A general library: an operation does the same where what it reads is the same.
-/
import Derived.Test.YtogkpjhkpgdbkaaDoorWR2QMa
set_option linter.all false
namespace Go.Abs
variable [Gl]
section
variable {P : Program} {r : Regs} {σ τ σ' : Heap} {res : Option AV}
theorem light {f : Heap → Option (Option AV × Heap)} {g : Option (Option AV)} (hf : ∀ σ,f σ = g.map fun v => (v,σ)) (h : f σ = some (res,σ')) : ∃ τ',f τ = some (res,τ') ∧ Same τ τ' σ σ' [] := by
 rw [hf] at h
 cases g with
 | none => simp at h
 | some v =>
  simp only [Option.map_some,Option.some.injEq,Prod.mk.injEq] at h
  obtain ⟨rfl,rfl⟩ := h
  exact ⟨τ,by rw [hf]; rfl,Same.none⟩
theorem storeE_same {i : TInf} {a v : AV} (h : storeE σ i a v = some σ') (hag : ∀ c ∈ idsOf (some a),agC τ σ c) : ∃ τ',storeE τ i a v = some τ' ∧ Same τ τ' σ σ' (idsOf (some a)) := by
 unfold storeE at h ⊢
 split at h
 ·rename_i p
  have hp := hag (p.id + 1) (by simp [idsOf])
  simp only [at_congr hp]
  split at h
  ·rename_i o ho
   split at h
   ·rename_i hc
    injection h with h
    subst h
    refine ⟨_,by rw [if_pos hc],?_⟩
    exact Same.setAt _ hp
   ·cases h
  ·cases h
 ·cases h
theorem makeSliceE_same {t : TypeId} {l c y : AV} (h : makeSliceE P σ t l c = some (y,σ')) (hl : τ.length = σ.length) : σ'.length = σ.length + 1 ∧ ∃ τ',makeSliceE P τ t l c = some (y,τ') ∧ Same τ τ' σ σ' [0,σ.length + 1] := by
 unfold makeSliceE at h ⊢
 split at h
 ·rename_i i n m e1 e2 e3
  try simp only [e1,e2,e3]
  split at h
  ·rename_i e he
   try simp only [he]
   split at h
   ·rename_i j hj
    try simp only [hj]
    split at h
    ·rename_i z hz
     split at h
     ·rename_i hc
      rw [if_pos hc]
      injection h with h
      injection h with h1 h2
      subst h1; subst h2
      exact ⟨by simp,_,by rw [hl],Same.push _ hl⟩
     ·cases h
    ·cases h
   ·cases h
  ·cases h
 ·cases h
theorem buildSliceE_same {b : Bool} {t : TypeId} {n : Nat} {ps : List (Nat × AV)} {y : AV} (h : buildSliceE P b σ t n ps = some (y,σ')) :
  (σ' = σ ∧ ∀ τ,buildSliceE P b τ t n ps = some (y,τ)) ∨ (σ'.length ≠ σ.length ∧ ∀ τ,τ.length = σ.length → ∃ τ',buildSliceE P b τ t n ps = some (y,τ') ∧ Same τ τ' σ σ' [0,σ.length + 1]) := by
 unfold buildSliceE at h ⊢
 split at h
 ·rename_i i e1
  try simp only [e1]
  split at h
  ·rename_i e he
   try simp only [he]
   split at h
   ·rename_i j hj
    try simp only [hj]
    split at h
    ·rename_i z hz
     split at h
     ·rename_i hc
      split at h
      ·rename_i cs hcs
       try simp only [hcs]
       cases hts : objT b cs with
       | some ts =>
        rw [hts] at h
        injection h with h
        injection h with h1 h2
        subst h1; subst h2
        exact .inl ⟨rfl,fun τ => by rw [if_pos hc]⟩
       | none =>
        rw [hts] at h
        injection h with h
        injection h with h1 h2
        subst h1; subst h2
        refine .inr ⟨by simp,fun τ hl => ⟨_,by rw [if_pos hc]; simp only [hcs,hts,hl],Same.push _ hl⟩⟩
      ·cases h
     ·cases h
    ·cases h
   ·cases h
  ·cases h
 ·cases h
theorem appendE_same {t : TypeId} {s x y : AV} (h : appendE P σ t s x = some (y,σ')) (hs : ∀ c ∈ idsOf (some s),agC τ σ c) (hx : ∀ c ∈ idsOf (some x),agC τ σ c) :
  (σ'.length = σ.length ∧ ∃ τ',appendE P τ t s x = some (y,τ') ∧ Same τ τ' σ σ' (idsOf (some s))) ∨ (σ'.length ≠ σ.length ∧ (τ.length = σ.length → ∃ τ',appendE P τ t s x = some (y,τ') ∧ Same τ τ' σ σ' [0,σ.length + 1])) := by
 have refl' : ∀ ws,(∀ c ∈ ws,agC τ σ c) → Same τ τ σ σ ws := fun ws hw => ⟨fun c _ => agC.refl τ c,hw,fun c _ => agC.refl σ c⟩
 unfold appendE at h ⊢
 split at h
 ·rename_i i e1
  try simp only [e1]
  split at h
  ·rename_i e he
   try simp only [he]
   split at h
   ·rename_i j hj
    try simp only [hj]
    split at h
    ·rename_i z m hz hm
     try simp only [hz,hm]
     split at h
     ·rename_i hc
      rw [if_pos hc]
      rw [firstE_congr hx]
      split at h
      ·rename_i new hnew
       try simp only [hnew]
       split at h
       ·rename_i cs len c
        split at h
        ·rename_i hc2
         rw [if_pos hc2]
         split at h
         ·injection h with h
          injection h with h1 h2
          subst h1; subst h2
          rename_i hm0
          exact .inl ⟨rfl,τ,by rw [if_pos hm0],refl' _ hs⟩
         ·rename_i hm0
          injection h with h
          injection h with h1 h2
          subst h1; subst h2
          exact .inr ⟨by simp,fun hl => ⟨_,by rw [if_neg hm0,hl],Same.push _ hl⟩⟩
        ·cases h
       ·rename_i p len
        have hp := hs (p.id + 1) (by simp [idsOf])
        simp only [at_congr hp]
        split at h
        ·rename_i o ho
         try simp only [ho]
         split at h
         ·rename_i hc2
          rw [if_pos hc2]
          injection h with h
          injection h with h1 h2
          subst h1; subst h2
          exact .inl ⟨by simp,_,rfl,Same.setAt _ hp⟩
         ·cases h
        ·cases h
       ·rename_i p len c
        have hp := hs (p.id + 1) (by simp [idsOf])
        simp only [at_congr hp]
        split at h
        ·rename_i o ho
         try simp only [ho]
         split at h
         ·rename_i hc2
          rw [if_pos hc2]
          injection h with h
          injection h with h1 h2
          subst h1; subst h2
          exact .inl ⟨by simp,_,rfl,Same.setAt _ hp⟩
         ·rename_i hc2
          rw [if_neg hc2]
          split at h
          ·rename_i hc3
           rw [if_pos hc3]
           injection h with h
           injection h with h1 h2
           subst h1; subst h2
           exact .inr ⟨by simp,fun hl => ⟨_,by rw [hl],Same.push _ hl⟩⟩
          ·cases h
        ·cases h
       ·cases h
      ·cases h
     ·cases h
    ·cases h
   ·cases h
  ·cases h
 ·cases h
theorem newD_same {op : Op} {x : DR} {rs ws : List Nat} (h : (opE P r σ op).map (fun x => newD σ x []) = some x) (hx : x = (res,σ',rs,ws)) {τ : Heap} (hag : ∀ c ∈ rs,agC τ σ c)
  (hh : ∀ res σ',opE P r σ op = some (res,σ') → (σ' = σ ∧ ∀ τ,opE P r τ op = some (res,τ)) ∨ (σ'.length ≠ σ.length ∧ ∀ τ,τ.length = σ.length → ∃ τ',opE P r τ op = some (res,τ') ∧ Same τ τ' σ σ' [0,σ.length + 1])) :
  opE P r σ op = some (res,σ') ∧ ∃ τ',opE P r τ op = some (res,τ') ∧ Same τ τ' σ σ' ws := by
 subst hx
 rw [Option.map_eq_some_iff] at h
 obtain ⟨⟨a,b⟩,h1,h2⟩ := h
 unfold newD at h2
 split at h2
 ·rename_i hl
  simp only [Prod.mk.injEq] at h2
  obtain ⟨rfl,rfl,rfl,rfl⟩ := h2
  refine ⟨h1,?_⟩
  rcases hh a b h1 with ⟨h3,h4⟩ | ⟨h3,_⟩
  ·subst h3; exact ⟨τ,h4 τ,Same.none⟩
  ·exact absurd hl h3
 ·rename_i hl
  simp only [Prod.mk.injEq] at h2
  obtain ⟨rfl,rfl,rfl,rfl⟩ := h2
  refine ⟨h1,?_⟩
  rcases hh a b h1 with ⟨h3,h4⟩ | ⟨_,h4⟩
  ·subst h3; exact absurd rfl hl
  ·exact h4 τ (hag 0 (by simp))
theorem copyE_same {t : TypeId} {d x y : AV} (h : copyE P σ t d x = some (y,σ')) (hs : ∀ c ∈ idsOf (some d),agC τ σ c) (hx : ∀ c ∈ idsOf (some x),agC τ σ c) :
  ∃ τ',copyE P τ t d x = some (y,τ') ∧ Same τ τ' σ σ' (idsOf (some d)) := by
 unfold copyE at h ⊢
 split at h
 ·rename_i i e1
  try simp only [e1]
  split at h
  ·rename_i e he
   try simp only [he]
   split at h
   ·rename_i j hj
    try simp only [hj]
    split at h
    ·rename_i p len cp m hm
     try simp only [hm]
     have hp := hs (p.id + 1) (by simp [idsOf])
     simp only [at_congr hp]
     rw [firstE_congr hx]
     split at h
     ·rename_i o new ho hnew
      try simp only [ho,hnew]
      split at h
      ·rename_i hc2
       rw [if_pos hc2]
       injection h with h
       injection h with h1 h2
       subst h1; subst h2
       exact ⟨_,rfl,Same.setAt _ hp⟩
      ·cases h
     ·cases h
    ·rename_i m hm
     try simp only [hm]
     injection h with h
     injection h with h1 h2
     subst h1; subst h2
     exact ⟨τ,rfl,Same.none⟩
    ·cases h
   ·cases h
  ·cases h
 ·cases h
end
end Go.Abs
