/-
  A general library: operations in any order that keeps what matters. No program in sight.
-/
import Derived.Test.YthchfbanjeiieaaAbsI
set_option linter.unusedSimpArgs false
set_option linter.unusedVariables false
namespace Go.Abs

/-- what an operation may touch: a register, an object, the number of objects -/
inductive DL where
  | reg (t : Nat)
  | obj (b : Nat)
  | len
  deriving DecidableEq

abbrev St := Regs × Heap

def agree (s s' : St) : DL → Prop
  | .reg t => s.1.get t = s'.1.get t
  | .obj b => s.2[b]? = s'.2[b]?
  | .len => s.2.length = s'.2.length

theorem agree.refl (s : St) (l : DL) : agree s s l := by cases l <;> rfl
theorem agree.symm {s s' : St} {l : DL} (h : agree s s' l) : agree s' s l := by cases l <;> exact Eq.symm h
theorem agree.trans {s s' s'' : St} {l : DL} (h : agree s s' l) (h' : agree s' s'' l) : agree s s'' l := by cases l <;> exact Eq.trans h h'

/-- the operations in the order of the text; what each reads and writes; which come surely before which -/
structure Line (n : Nat) (S : Nat → St) (R W : Nat → DL → Prop) (bef : Nat → Nat → Prop) : Prop where
  same : ∀ j l, j < n → ¬ W j l → agree (S (j + 1)) (S j) l
  order : ∀ i j, i < j → j < n → (∃ l, (W i l ∧ (W j l ∨ R j l)) ∨ (R i l ∧ W j l)) → bef j i

section
variable {n : Nat} {S : Nat → St} {R W : Nat → DL → Prop} {bef : Nat → Nat → Prop}

theorem Line.skip (h : Line n S R W bef) {l : DL} : ∀ {k i : Nat}, i + k ≤ n → (∀ j, i ≤ j → j < i + k → ¬ W j l) → agree (S (i + k)) (S i) l
  | 0, i, _, _ => agree.refl _ _
  | k + 1, i, hn, hw => (h.same (i + k) l (by omega) (hw _ (by omega) (by omega))).trans (h.skip (k := k) (by omega) fun j h1 h2 => hw j h1 (by omega))

theorem Line.skip' (h : Line n S R W bef) {l : DL} {i k : Nat} (hik : i ≤ k) (hn : k ≤ n) (hw : ∀ j, i ≤ j → j < k → ¬ W j l) : agree (S k) (S i) l := by
  have := h.skip (l := l) (k := k - i) (i := i) (by omega) fun j h1 h2 => hw j h1 (by omega)
  rwa [show i + (k - i) = k by omega] at this

/-- where the state stands when the operations of L have been done -/
def Stands (S : Nat → St) (W : Nat → DL → Prop) (L : Nat → Prop) (s : St) : Prop :=
  ∀ l, (∃ j, L j ∧ W j l ∧ (∀ k, L k → W k l → k ≤ j) ∧ agree s (S (j + 1)) l) ∨ ((∀ j, L j → ¬ W j l) ∧ agree s (S 0) l)

theorem Line.read (h : Line n S R W bef) {L : Nat → Prop} {s : St} (hs : Stands S W L s) (hL : ∀ k, L k → k < n) (hcl : ∀ k i, L k → bef k i → L i) {j : Nat} (hj : j < n) (hjL : ¬ L j) (hbef : ∀ i, bef j i → L i)
    {l : DL} (hl : R j l ∨ W j l) : agree s (S j) l := by
  have before : ∀ i, i < j → W i l → L i := fun i hi hw => hbef i (h.order i j hi hj ⟨l, .inl ⟨hw, hl.symm⟩⟩)
  have after : ∀ k, L k → j < k → ¬ W k l := fun k hk hjk hw => hjL (hcl k j hk (h.order j k hjk (hL k hk) ⟨l, by
    rcases hl with hr | hw'
    · exact .inr ⟨hr, hw⟩
    · exact .inl ⟨hw', .inl hw⟩⟩))
  rcases hs l with ⟨m, hm, hmw, hmax, hag⟩ | ⟨hno, hag⟩
  · have hmj : m < j := by
      rcases Nat.lt_trichotomy m j with h1 | h1 | h1
      · exact h1
      · exact absurd (h1 ▸ hm) hjL
      · exact absurd hmw (after m hm h1)
    exact hag.trans (h.skip' (i := m + 1) (k := j) (by omega) (by omega) fun i h1 h2 hw => by
      have := hmax i (before i h2 hw) hw
      omega).symm
  · exact hag.trans (h.skip' (i := 0) (k := j) (by omega) (by omega) fun i _ h2 hw => hno i (before i h2 hw) hw).symm

theorem Line.write (h : Line n S R W bef) {L : Nat → Prop} {s s' : St} (hs : Stands S W L s) (hL : ∀ k, L k → k < n) (hcl : ∀ k i, L k → bef k i → L i) {j : Nat} (hj : j < n) (hjL : ¬ L j)
    (h1 : ∀ l, ¬ W j l → agree s' s l) (h2 : ∀ l, W j l → agree s' (S (j + 1)) l) : Stands S W (fun k => k = j ∨ L k) s' := fun l => by
  by_cases hw : W j l
  · refine .inl ⟨j, .inl rfl, hw, fun k hk hkw => ?_, h2 l hw⟩
    rcases hk with rfl | hk
    · exact Nat.le_refl _
    · rcases Nat.lt_or_ge j k with hlt | hge
      · exact absurd (hcl k j hk (h.order j k hlt (hL k hk) ⟨l, .inl ⟨hw, .inl hkw⟩⟩)) hjL
      · exact hge
  · rcases hs l with ⟨m, hm, hmw, hmax, hag⟩ | ⟨hno, hag⟩
    · refine .inl ⟨m, .inr hm, hmw, fun k hk hkw => ?_, (h1 l hw).trans hag⟩
      rcases hk with rfl | hk
      · exact absurd hkw hw
      · exact hmax k hk hkw
    · refine .inr ⟨fun k hk => ?_, (h1 l hw).trans hag⟩
      rcases hk with rfl | hk
      · exact hw
      · exact hno k hk

theorem Line.done (h : Line n S R W bef) {L : Nat → Prop} {s : St} (hs : Stands S W L s) (hL : ∀ k, L k → k < n) (hall : ∀ k, k < n → L k) (l : DL) : agree s (S n) l := by
  rcases hs l with ⟨m, hm, hmw, hmax, hag⟩ | ⟨hno, hag⟩
  · have hmn := hL m hm
    exact hag.trans (h.skip' (i := m + 1) (k := n) (by omega) (Nat.le_refl _) fun i h1 h2 hw => by
      have := hmax i (hall i h2) hw
      omega).symm
  · exact hag.trans (h.skip' (i := 0) (k := n) (by omega) (Nat.le_refl _) fun i _ h2 hw => hno i (hall i h2) hw).symm

theorem agree.heap {s s' : St} (h : ∀ l, agree s s' l) : s.2 = s'.2 := List.ext_getElem? fun i => h (.obj i)

end
end Go.Abs
