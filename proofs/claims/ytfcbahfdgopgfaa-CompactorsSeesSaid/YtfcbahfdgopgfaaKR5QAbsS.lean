/-
  A general library: rules for loops and calls on stripped code.
-/
import Derived.Test.YtfcbahfdgopgfaaKR5QAbsR
set_option linter.unusedSimpArgs false
set_option linter.unusedVariables false
namespace Go.Abs

/-- another description of the same world; n: the objects that were there before -/
def GhostF (N n : Nat) (r : Regs) (σ : Heap) (r' : Regs) (σ' : Heap) : Prop :=
  ∀ ι w a, HR ι σ w → RegR N ι w r a → ∃ ι', HR ι' σ' w ∧ RegR N ι' w r' a ∧ ∀ ι0 σ0 w0, HR ι0 σ0 w0 → σ0.length ≤ n → Step ι0 σ0 w0 ι σ w → Step ι0 σ0 w0 ι' σ' w

/-- fewer registers -/
def SubR (r r' : Regs) : Prop := ∀ t v, r'.get t = some v → r.get t = some v

/-- each register of a list, out of another's, frozen -/
def FrzR (k : Nat) (σ : Heap) (n : Nat) (r : Regs) : Regs → Prop
  | [] => True
  | (t, v) :: l => (∃ u, r.get t = some u ∧ frzV k σ n u = some v) ∧ FrzR k σ n r l

def SubL (r : Regs) : Regs → Prop
  | [] => True
  | (t, v) :: l => r.get t = some v ∧ SubL r l

section
variable {P : Program} {N : Nat} {ro : Option Nat}

theorem SubL.sub {r : Regs} : ∀ {r' : Regs}, SubL r r' → SubR r r'
  | [], _ => fun t v h => by simp [Regs.get] at h
  | (k, u) :: l, h => fun t v ht => by
    simp only [Regs.get] at ht
    split at ht
    · rename_i e; subst e; injection ht with ht; subst ht; exact h.1
    · exact SubL.sub h.2 t v ht

theorem FrzR.get {k : Nat} {σ : Heap} {n : Nat} {r : Regs} : ∀ {r' : Regs}, FrzR k σ n r r' → ∀ t v, r'.get t = some v → ∃ u, r.get t = some u ∧ frzV k σ n u = some v
  | [], _ => fun t v h => by simp [Regs.get] at h
  | (k, u) :: l, h => fun t v ht => by
    simp only [Regs.get] at ht
    split at ht
    · rename_i e; subst e; injection ht with ht; subst ht; exact h.1
    · exact FrzR.get h.2 t v ht

theorem Ghost.f {r r' : Regs} {σ σ' : Heap} (h : Ghost N r σ r' σ') (n : Nat) : GhostF N n r σ r' σ' := fun ι w a hh hr => by
  obtain ⟨ι', h1, h2, h3⟩ := h ι w a hh hr
  exact ⟨ι', h1, h2, fun _ _ _ _ _ hs => hs.trans h3⟩

theorem GhostF.trans {n : Nat} {r r' r'' : Regs} {σ σ' σ'' : Heap} (h : GhostF N n r σ r' σ') (h' : GhostF N n r' σ' r'' σ'') : GhostF N n r σ r'' σ'' := fun ι w a hh hr => by
  obtain ⟨ι', h1, h2, h3⟩ := h ι w a hh hr
  obtain ⟨ι'', h4, h5, h6⟩ := h' ι' w a h1 h2
  exact ⟨ι'', h4, h5, fun ι0 σ0 w0 h0 hn hs => h6 ι0 σ0 w0 h0 hn (h3 ι0 σ0 w0 h0 hn hs)⟩

theorem Ghost.trans {r r' r'' : Regs} {σ σ' σ'' : Heap} (h : Ghost N r σ r' σ') (h' : Ghost N r' σ' r'' σ'') : Ghost N r σ r'' σ'' := fun ι w a hh hr => by
  obtain ⟨ι', h1, h2, h3⟩ := h ι w a hh hr
  obtain ⟨ι'', h4, h5, h6⟩ := h' ι' w a h1 h2
  exact ⟨ι'', h4, h5, h3.trans h6⟩

theorem Ghost.sub {r r' : Regs} {σ : Heap} (h : SubR r r') : Ghost N r σ r' σ := fun ι w _ hh hr => ⟨ι, hh, hr.sub h, Step.refl ι σ w⟩

theorem ghost_frz {k n : Nat} {r r' : Regs} {σ σ' : Heap} (hH : frzH k σ n = some σ') (hR : FrzR k σ n r r') : GhostF N n r σ r' σ' := fun ι w _ hh hr => by
  refine ⟨cut n ι, frzH_ok hh hH, ⟨hr.size, fun t v hv => ?_⟩, fun _ _ _ h0 hn hs => frz_step h0 hn hH hs⟩
  obtain ⟨u, h1, h2⟩ := hR.get t v hv
  exact frzV_ok hh (hr.get t u h1) h2

/-- an empty slice without room becomes an object that grows -/
theorem ghost_own {r : Regs} {σ : Heap} {t : Nat} (es : Nat) (h : r.get t = some (.c (.t (.imm [] 0 (some 0))))) : Ghost N r σ (r.set t (.c (.sl ⟨σ.length, 0, 0⟩ 0 none))) (σ ++ [{ cs := [], es := es }]) := fun ι w a hh hr => by
  have hst : Step ι σ w (ι.push σ.length ⟨none, es, 0⟩) (σ ++ [{ cs := [], es := es }]) w := {
    len := by simp
    size := Nat.le_refl _
    os := rfl
    out := rfl
    keep := fun id s' hs' => ⟨s', by rw [Map.push_ne _ _ (Nat.ne_of_lt (hh.lt hs'))]; exact hs', Nat.le_refl _, fun _ => rfl⟩
    none := fun id hid hn => by rw [Map.push_ne _ _ (Nat.ne_of_lt hid)]; exact hn
    new := fun id s' l' h1 h2 => by
      by_cases e : id = σ.length
      · subst e
        rw [Map.push_same] at h1
        injection h1 with h1
        subst h1
        cases h2
      · rw [Map.push_ne _ _ e] at h1
        exact .inr ⟨id, s', l', h1, h2, rfl⟩
    res := rfl
    resKeep := fun _ _ => rfl
    frame := fun _ _ _ => rfl }
  refine ⟨ι.push σ.length ⟨none, es, 0⟩, ⟨fun id s h1 => ?_, fun id id' s s' l l' h1 h2 h3 h4 h5 => ?_, hh.resRow, fun id s l h1 h2 hr => ?_⟩, ⟨hr.size, fun t' v hv => ?_⟩, hst⟩
  · by_cases e1 : id = σ.length
    · subst e1
      rw [Map.push_same] at h1
      injection h1 with h1
      subst h1
      exact ⟨_, by simp; rfl, rfl, rfl, rfl⟩
    · rw [Map.push_ne _ _ e1] at h1
      obtain ⟨o', h2, h3⟩ := hh.obj id s h1
      exact ⟨o', by rw [List.getElem?_append_left (hh.lt h1)]; exact h2, h3.congr hst (fun l hl => rfl)⟩
  · by_cases e1 : id = σ.length
    · subst e1
      rw [Map.push_same] at h1
      injection h1 with h1
      subst h1
      cases h3
    · by_cases e2 : id' = σ.length
      · subst e2
        rw [Map.push_same] at h2
        injection h2 with h2
        subst h2
        cases h4
      · rw [Map.push_ne _ _ e1] at h1
        rw [Map.push_ne _ _ e2] at h2
        exact hh.inj id id' s s' l l' h1 h2 h3 h4 h5
  · by_cases e1 : id = σ.length
    · subst e1
      rw [Map.push_same] at h1
      injection h1 with h1
      subst h1
      cases h2
    · rw [Map.push_ne _ _ e1] at h1
      exact hh.resNo id s l h1 h2 hr
  · by_cases e : t = t'
    · subst e
      rw [Regs.get_set_same] at hv
      injection hv with hv
      subst hv
      have hv := hr.get t _ h
      have ref : ∀ (ad : Option Addr), refAt (ι.push σ.length ⟨none, es, 0⟩) ⟨σ.length, 0, 0⟩ (slOk 0 0 none ad 0) := fun ad =>
        ⟨⟨none, es, 0⟩, Map.push_same _ _ _, Nat.le_refl _, fun _ => ⟨Nat.le_refl _, trivial, rfl, rfl, rfl⟩⟩
      have hv' : TR ι.un w (.imm [] 0 (some 0)) (a.tmps.getD t undef) := hv
      generalize a.tmps.getD t undef = u at hv'
      cases hv' with
      | imm0 cap ad c hc =>
        have : c = 0 := hc
        subst this
        exact ⟨ad, 0, rfl, .inl rfl, ref ad⟩
      | imm cs len cap b off c f h1 h2 h3 h4 =>
        have : c = 0 := h3
        subst this
        exact ⟨_, 0, rfl, .inl rfl, ref _⟩
    · rw [Regs.get_set_ne _ _ e] at hv
      exact (hr.get t' v hv).step hst

theorem ok_loop2 {c : Code} (I : Nat → Regs → Heap → Prop) {n : Nat} {r : Regs} {σ : Heap} {Q : Exit → Regs → Heap → Prop} (h0 : I n r σ)
    (round : ∀ n r σ, I n r σ → CodeOk P N ro c r σ fun e r' σ' => match e with | .normal => ∃ m r'' σ'', m < n ∧ GhostF N σ.length r' σ' r'' σ'' ∧ I m r'' σ'' | e => Q e r' σ') : CodeOk P N ro (.loop c) r σ Q := fun ι w a hh hr => by
  refine wpIn_loop' (fun j a' w' => ∃ r' σ' ι' ms, I j r' σ' ∧ HR ι' σ' w' ∧ RegR N ι' w' r' a' ∧ Step ι σ w ι' σ' w' ∧ a'.defers = ms ++ a.defers ∧ Marks w.heap.size w' ms) (j := n)
    ⟨r, σ, ι, [], h0, hh, hr, Step.refl ι σ w, rfl, Marks.nil _ _⟩ ?_
  rintro j a1 w1 ⟨r1, σ1, ι1, ms1, h1, h2, h3, h4, h5, h6⟩
  refine wpIn_mono (round j r1 σ1 h1 ι1 w1 a1 h2 h3) fun e a2 w2 hp => ?_
  obtain ⟨h0', r2, σ2, ι2, ms2, h7, h8, h9, h10, h11, h12⟩ := hp
  have hm : Marks w.heap.size w2 (ms2 ++ ms1) := Marks.append (h6.step h2 h10) h12 h4.size h6.lt
  have hd : a2.defers = (ms2 ++ ms1) ++ a.defers := by rw [h11, h5, List.append_assoc]
  cases e with
  | normal =>
    obtain ⟨m, r3, σ3, hlt, hg, hI⟩ := h7
    obtain ⟨ι3, h13, h14, h15⟩ := hg ι2 w2 a2 h8 h9
    exact ⟨m, hlt, r3, σ3, ι3, ms2 ++ ms1, hI, h13, h14, h4.trans (h15 ι1 σ1 w1 h2 (Nat.le_refl _) h10), hd, hm⟩
  | exit id => exact ⟨trivial, r2, σ2, ι2, ms2 ++ ms1, h7, h8, h9, h4.trans h10, hd, hm⟩
  | goto l => exact ⟨trivial, r2, σ2, ι2, ms2 ++ ms1, h7, h8, h9, h4.trans h10, hd, hm⟩
  | ret => exact ⟨trivial, r2, σ2, ι2, ms2 ++ ms1, h7, h8, h9, h4.trans h10, hd, hm⟩
  | panic ch => exact h0'.elim
  | outgrown => exact h0'.elim

/-- a loop on stripped code: x: the round's own numbers -/
theorem loopq {α : Type} (Inv : α → Prop) (μ : α → Nat) (R : α → Regs) (H : α → Heap) {C : CC} {r : Regs} {σ : Heap} {Q : Exit → Regs → Heap → Prop} {t : Tag Q} (x0 : α) (h0 : Inv x0) (hg : Ghost N r σ (R x0) (H x0))
    (round : ∀ x, Inv x → wpq P N ro C (R x) (H x) (fun e r' σ' => match e with | .normal => ∃ y, Inv y ∧ μ y < μ x ∧ GhostF N (H x).length r' σ' (R y) (H y) | e => Q e r' σ') ⟨⟩) : LoopQ P N ro C r σ Q t := by
  intro c ks ks' hc
  refine ok_ghost hg ?_
  refine ok_loop2 (fun n r σ => ∃ x, Inv x ∧ n = μ x ∧ r = R x ∧ σ = H x) (n := μ x0) ⟨x0, h0, rfl, rfl, rfl⟩ ?_
  rintro n r1 σ1 ⟨x, hx, rfl, rfl, rfl⟩
  refine (wpq_ok hc (round x hx)).mono fun e r' σ' hq => ?_
  cases e with
  | normal =>
    obtain ⟨y, h1, h2, h3⟩ := hq
    exact ⟨μ y, R y, H y, h2, h3, y, h1, rfl, rfl, rfl⟩
  | _ => exact hq

/-! ### calls -/
theorem FnOk.mono {f : FuncId} {args : List AV} {σ : Heap} {Q Q' : AV → Heap → Prop} (h : FnOk P f args σ Q) (hq : ∀ v σ', Q v σ' → Q' v σ') : FnOk P f args σ Q' :=
  ⟨h.1, fun ι w cargs hh ha => CallsIn.mono (h.2 ι w cargs hh ha) fun e w' ⟨v, σ', ι', cv, h1, h2, h3⟩ => ⟨v, σ', ι', cv, h1, hq _ _ h2, h3⟩⟩

/-- at a function's end: what it leaves becomes trees; n: the objects that stay -/
theorem fn_frz {f : FuncId} {args : List AV} {σ : Heap} {Q : AV → Heap → Prop} (n : Nat) (hn : σ.length ≤ n) (h : FnOk P f args σ fun v σ' => ∃ k y σ'', frzV k σ' n v = some y ∧ frzH k σ' n = some σ'' ∧ Q y σ'') : FnOk P f args σ Q :=
  ⟨h.1, fun ι w cargs hh ha => CallsIn.mono (h.2 ι w cargs hh ha) fun e w' ⟨v, σ', ι', cv, h1, ⟨k, y, σ'', h2, h3, h4⟩, h5, h6, h7⟩ =>
    ⟨y, σ'', cut n ι', cv, h1, h4, frzV_ok h6 h5 h2, frzH_ok h6 h3, frz_step hh hn h3 h7⟩⟩

def Cell.isT : Cell → Bool
  | .t _ => true
  | _ => false
def AV.isT : AV → Bool
  | .c x => x.isT
  | .agg xs => xs.all Cell.isT
  | .tup xs => xs.all fun | .inl x => x.isT | .inr xs => xs.all Cell.isT

theorem upC_tree {is : List Nat} {n : Nat} {c : Cell} (h : c.isT = true) : upC is n c = c := by
  cases c <;> first | rfl | simp [Cell.isT] at h

theorem upC_trees {is : List Nat} {n : Nat} : ∀ {cs : List Cell}, cs.all Cell.isT = true → cs.map (upC is n) = cs
  | [], _ => rfl
  | c :: cs, h => by
    simp only [List.all_cons, Bool.and_eq_true] at h
    simp [upC_tree h.1, upC_trees h.2]

theorem upV_tree {is : List Nat} {n : Nat} {v : AV} (h : v.isT = true) : upV is n v = v := by
  cases v with
  | c x => simp only [upV, upC_tree h]
  | agg xs => simp only [upV, upC_trees h]
  | tup xs =>
    simp only [upV]
    congr 1
    have : ∀ {ys : List (Cell ⊕ List Cell)}, (ys.all fun | .inl x => x.isT | .inr xs => xs.all Cell.isT) = true → ys.map (upP is n) = ys := fun {ys} hy => by
      induction ys with
      | nil => rfl
      | cons y ys ih =>
        simp only [List.all_cons, Bool.and_eq_true] at hy
        rw [List.map_cons, ih hy.2]
        cases y with
        | inl x => simp only [upP, upC_tree hy.1]
        | inr xs => simp only [upP, upC_trees hy.1]
    exact this h

theorem map_tree {is : List Nat} {n : Nat} : ∀ {vs : List AV}, vs.all AV.isT = true → vs.map (upV is n) = vs
  | [], _ => rfl
  | v :: vs, h => by
    simp only [List.all_cons, Bool.and_eq_true] at h
    simp [upV_tree h.1, map_tree h.2]

/-- a contract at no objects holds at any -/
theorem fn_any {f : FuncId} {args : List AV} {σ : Heap} {Q : AV → Prop} (ha : args.all AV.isT = true) (h : FnOk P f args [] fun v σ' => v.isT = true ∧ σ' = [] ∧ Q v) : FnOk P f args σ fun v σ' => Q v ∧ σ' = σ := by
  have := fn_rename (σ := σ) (args := args) [] List.nodup_nil rfl (fun k i o hk => by simp at hk) (map_tree ha).symm h
  refine this.mono fun v σ' ⟨v0, τ', ⟨h1, h2, h3⟩, h4, h5⟩ => ?_
  subst h2
  rw [upV_tree h1] at h4
  subst h4
  exact ⟨h3, by rw [h5]; simp [backH, putAll]⟩

theorem const_any {f : FuncId} {args : List AV} {σ : Heap} {v : AV} (ha : args.all AV.isT = true) (hv : v.isT = true) (h : FnOk P f args [] fun v' σ' => v' = v ∧ σ' = []) : ConstAt P f args σ [] v := fun τ _ =>
  (fn_any (σ := τ) (Q := fun v' => v' = v) ha (h.mono fun v' σ' ⟨h1, h2⟩ => ⟨h1 ▸ hv, h2, h1⟩))

theorem callk {g : FuncId} {args : List AV} {σ : Heap} {K : Option AV → Heap → Prop} {t : Tag K} {Q : AV → Heap → Prop} (h : FnOk P g args σ Q) (hk : ∀ v σ', Q v σ' → K (some v) σ') : callK P g args σ K t := h.mono hk

end
end Go.Abs
