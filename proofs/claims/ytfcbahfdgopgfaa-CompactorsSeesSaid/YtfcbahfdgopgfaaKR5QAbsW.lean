/-
  A general library: functions whose results are trees.
-/
import Derived.Test.YtfcbahfdgopgfaaKR5QAbsV
set_option linter.unusedSimpArgs false
set_option linter.unusedVariables false
namespace Go.Abs
section
variable {P : Program}

theorem frzC_tree {k n : Nat} {σ : Heap} {c : Cell} (h : c.isT = true) : frzC k σ n c = some c := by
  cases c <;> first | rfl | simp [Cell.isT] at h

theorem mapO_tree {k n : Nat} {σ : Heap} : ∀ {cs : List Cell}, cs.all Cell.isT = true → mapO (frzC k σ n) cs = some cs
  | [], _ => rfl
  | c :: cs, h => by
    simp only [List.all_cons, Bool.and_eq_true] at h
    simp [mapO, frzC_tree h.1, mapO_tree h.2]

theorem frzV_tree {k n : Nat} {σ : Heap} {v : AV} (h : v.isT = true) : frzV k σ n v = some v := by
  cases v with
  | c x => simp only [frzV, frzC_tree h, Option.map_some]
  | agg xs => simp only [frzV, mapO_tree h, Option.map_some]
  | tup xs =>
    have : ∀ {ys : List (Cell ⊕ List Cell)}, (ys.all fun | .inl x => x.isT | .inr xs => xs.all Cell.isT) = true → mapO (frzP k σ n) ys = some ys := fun {ys} hy => by
      induction ys with
      | nil => rfl
      | cons y ys ih =>
        simp only [List.all_cons, Bool.and_eq_true] at hy
        simp only [mapO, ih hy.2]
        cases y with
        | inl x => simp only [frzP, frzC_tree hy.1, Option.map_some]
        | inr xs => simp only [frzP, mapO_tree hy.1, Option.map_some]
    simp only [frzV, this h, Option.map_some]

/-- a function that gives a tree leaves nothing -/
theorem fn_tree {f : FuncId} {args : List AV} {Q : AV → Prop} (h : FnOk P f args [] fun v _ => v.isT = true ∧ Q v) : FnOk P f args [] fun v σ' => Q v ∧ σ' = [] :=
  fn_frz 0 (by simp) (h.mono fun v σ' ⟨h1, h2⟩ => ⟨0, v, [], frzV_tree h1, by simp [frzH, mapO], h2, rfl⟩)

/-- the same, for a value that is given -/
theorem fn_is {f : FuncId} {args : List AV} {v : AV} (hv : v.isT = true) (h : FnOk P f args [] fun u _ => u = v) : FnOk P f args [] fun u σ' => u = v ∧ σ' = [] :=
  fn_tree (Q := fun u => u = v) (h.mono fun u _ e => by subst e; exact ⟨hv, rfl⟩)

end
end Go.Abs
