/-
  A general library: rules for loops and calls on stripped code.
-/
import Derived.Test.YtcnlccpihknehaaDoorLAbsR
set_option linter.all false
namespace Go.Abs
variable [Gl]
def GhostF (N n : Nat) (r : Regs) (σ : Heap) (r' : Regs) (σ' : Heap) : Prop :=
 ∀ ι w a,HR ι σ w → RegR N ι w r a → ∃ ι',HR ι' σ' w ∧ RegR N ι' w r' a ∧ ∀ ι0 σ0 w0,HR ι0 σ0 w0 → σ0.length ≤ n → Step ι0 σ0 w0 ι σ w → Step ι0 σ0 w0 ι' σ' w
def SubR (r r' : Regs) : Prop := ∀ t v,r'.get t = some v → r.get t = some v
section
variable {P : Program} {N : Nat} {ro : Option Nat}
theorem Ghost.f {r r' : Regs} {σ σ' : Heap} (h : Ghost N r σ r' σ') (n : Nat) : GhostF N n r σ r' σ' := fun ι w a hh hr => by
 obtain ⟨ι',h1,h2,h3⟩ := h ι w a hh hr
 exact ⟨ι',h1,h2,fun _ _ _ _ _ hs => hs.trans h3⟩
theorem ghost_own {r : Regs} {σ : Heap} {t : Nat} (es : Nat) (h : r.get t = some (.c (.t (.imm [] 0 (some 0))))) : Ghost N r σ (r.set t (.c (.sl ⟨σ.length,0,0⟩ 0 none))) (σ ++ [{ cs := [],es := es }]) := fun ι w a hh hr => by
 have hst : Step ι σ w (ι.push σ.length ⟨none,es,0⟩) (σ ++ [{ cs := [],es := es }]) w := {
   len := by simp
   size := Nat.le_refl _
   os := rfl
   out := rfl
   keep := fun id s' hs' => ⟨s',by rw [Map.push_ne _ _ (Nat.ne_of_lt (hh.lt hs'))]; exact hs',Nat.le_refl _,fun _ => rfl⟩
   none := fun id hid hn => by rw [Map.push_ne _ _ (Nat.ne_of_lt hid)]; exact hn
   new := fun id s' l' h1 h2 => by
     by_cases e : id = σ.length
     · subst e
       rw [Map.push_same] at h1
       injection h1 with h1
       subst h1
       cases h2
     · rw [Map.push_ne _ _ e] at h1
       exact .inr ⟨id,s',l',h1,h2,rfl⟩
   res := rfl
   ex := rfl
   resKeep := fun _ _ => rfl
   frame := fun _ _ _ => rfl }
 refine ⟨ι.push σ.length ⟨none,es,0⟩,⟨fun id s h1 => ?_,fun id id' s s' l l' h1 h2 h3 h4 h5 => ?_,hh.resRow,fun id s l h1 h2 hr => ?_⟩,⟨hr.size,hr.low,fun t' v hv => ?_,hr.gl.step hst⟩,hst⟩
 · by_cases e1 : id = σ.length
   · subst e1
     rw [Map.push_same] at h1
     injection h1 with h1
     subst h1
     exact ⟨_,by simp; rfl,rfl,rfl,rfl⟩
   · rw [Map.push_ne _ _ e1] at h1
     obtain ⟨o',h2,h3⟩ := hh.obj id s h1
     exact ⟨o',by rw [List.getElem?_append_left (hh.lt h1)]; exact h2,h3.congr hst (fun l hl => rfl)⟩
 · by_cases e1 : id = σ.length
   · subst e1
     rw [Map.push_same] at h1
     injection h1 with h1
     subst h1
     cases h3
   · by_cases e2 : id' = σ.length
     · subst e2
       rw [Map.push_same] at h2
       injection h2 with h2
       subst h2
       cases h4
     · rw [Map.push_ne _ _ e1] at h1
       rw [Map.push_ne _ _ e2] at h2
       exact hh.inj id id' s s' l l' h1 h2 h3 h4 h5
 · by_cases e1 : id = σ.length
   · subst e1
     rw [Map.push_same] at h1
     injection h1 with h1
     subst h1
     cases h2
   · rw [Map.push_ne _ _ e1] at h1
     exact hh.resNo id s l h1 h2 hr
 · by_cases e : t = t'
   · subst e
     rw [Regs.get_set_same] at hv
     injection hv with hv
     subst hv
     have hv := hr.get t _ h
     have ref : ∀ (ad : Option Addr),refAt (ι.push σ.length ⟨none,es,0⟩) ⟨σ.length,0,0⟩ (slOk 0 0 none ad 0) := fun ad =>
       ⟨⟨none,es,0⟩,Map.push_same _ _ _,Nat.le_refl _,fun _ => ⟨Nat.le_refl _,trivial,rfl,rfl,rfl⟩⟩
     have elk : lk (ι.push σ.length ⟨none,es,0⟩) w a t = lk ι w a t := rfl
     rw [elk]
     have hv' : TR ι.un w (.imm [] 0 (some 0)) (lk ι w a t) := hv
     generalize lk ι w a t = u at hv'
     cases hv' with
     | imm0 cap ad c hc =>
       have : c = 0 := hc
       subst this
       exact ⟨ad,0,rfl,.inl rfl,ref ad⟩
     | imm cs len cap b off c f h1 h2 h3 h4 =>
       have : c = 0 := h3
       subst this
       exact ⟨_,0,rfl,.inl rfl,ref _⟩
   · rw [Regs.get_set_ne _ _ e] at hv
     exact (hr.get t' v hv).step hst
theorem FnOk.mono {f : FuncId} {args : List AV} {σ : Heap} {Q Q' : AV → Heap → Prop} (h : FnOk P f args σ Q) (hq : ∀ v σ',Q v σ' → Q' v σ') : FnOk P f args σ Q' :=
 ⟨h.1,fun ι w cargs hgl hh ha => CallsIn.mono (h.2 ι w cargs hgl hh ha) fun e w' ⟨v,σ',ι',cv,h1,h2,h3⟩ => ⟨v,σ',ι',cv,h1,hq _ _ h2,h3⟩⟩
def Cell.isT : Cell → Bool
 | .t _ => true
 | _ => false
def AV.isT : AV → Bool
 | .c x => x.isT
 | .agg xs => xs.all Cell.isT
 | .tup xs => xs.all fun | .inl x => x.isT | .inr xs => xs.all Cell.isT
theorem upC_tree {is : List Nat} {n : Nat} {c : Cell} (h : c.isT = true) : upC is n c = c := by
 cases c <;> first | rfl | simp [Cell.isT] at h
theorem upC_trees {is : List Nat} {n : Nat} : ∀ {cs : List Cell},cs.all Cell.isT = true → cs.map (upC is n) = cs
 | [],_ => rfl
 | c :: cs,h => by
   simp only [List.all_cons,Bool.and_eq_true] at h
   simp [upC_tree h.1,upC_trees h.2]
theorem upV_tree {is : List Nat} {n : Nat} {v : AV} (h : v.isT = true) : upV is n v = v := by
 cases v with
 | c x => simp only [upV,upC_tree h]
 | agg xs => simp only [upV,upC_trees h]
 | tup xs =>
   simp only [upV]
   congr 1
   have : ∀ {ys : List (Cell ⊕ List Cell)},(ys.all fun | .inl x => x.isT | .inr xs => xs.all Cell.isT) = true → ys.map (upP is n) = ys := fun {ys} hy => by
     induction ys with
     | nil => rfl
     | cons y ys ih =>
       simp only [List.all_cons,Bool.and_eq_true] at hy
       rw [List.map_cons,ih hy.2]
       cases y with
       | inl x => simp only [upP,upC_tree hy.1]
       | inr xs => simp only [upP,upC_trees hy.1]
   exact this h
theorem map_tree {is : List Nat} {n : Nat} : ∀ {vs : List AV},vs.all AV.isT = true → vs.map (upV is n) = vs
 | [],_ => rfl
 | v :: vs,h => by
   simp only [List.all_cons,Bool.and_eq_true] at h
   simp [upV_tree h.1,map_tree h.2]
theorem fn_any {f : FuncId} {args : List AV} {σ : Heap} {Q : AV → Prop} (ha : args.all AV.isT = true) (h : FnOk P f args [] fun v σ' => v.isT = true ∧ σ' = [] ∧ Q v) : FnOk P f args σ fun v σ' => Q v ∧ σ' = σ := by
 have := fn_rename (σ := σ) (args := args) [] List.nodup_nil rfl (fun k i o hk => by simp at hk) (map_tree ha).symm h
 refine this.mono fun v σ' ⟨v0,τ',⟨h1,h2,h3⟩,h4,h5⟩ => ?_
 subst h2
 rw [upV_tree h1] at h4
 subst h4
 exact ⟨h3,by rw [h5]; simp [backH,putAll]⟩
end
end Go.Abs
