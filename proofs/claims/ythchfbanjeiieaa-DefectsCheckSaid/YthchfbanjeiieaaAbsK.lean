/-
  A general library: what an operation reads and writes of the heap; it does the same where that is the same.
-/
import Derived.Test.YthchfbanjeiieaaAbsJ
set_option linter.unusedSimpArgs false
set_option linter.unusedVariables false
namespace Go.Abs

/-- 0: the number of objects; b + 1: object b -/
def agC (τ σ : Heap) : Nat → Prop
  | 0 => τ.length = σ.length
  | b + 1 => τ[b]? = σ[b]?

theorem agC.refl (τ : Heap) (c : Nat) : agC τ τ c := by cases c <;> rfl

def idsOf : Option AV → List Nat
  | some (.c (.ptr r)) => [r.id + 1]
  | some (.c (.sl r _ _)) => [r.id + 1]
  | _ => []

/-- value, heap, what is read, what is written -/
abbrev DR := Option AV × Heap × List Nat × List Nat

def newD (σ : Heap) (x : Option AV × Heap) (rs : List Nat) : DR := if x.2.length = σ.length then (x.1, x.2, [], []) else (x.1, x.2, 0 :: rs, [0, σ.length + 1])

def opD (P : Program) (r : Regs) (σ : Heap) (op : Op) : Option DR := match op with
  | .load t a => (opE P r σ (.load t a)).map fun x => (x.1, x.2, idsOf (ev r a), [])
  | .store t a v => (opE P r σ (.store t a v)).map fun x => (x.1, x.2, idsOf (ev r a), idsOf (ev r a))
  | .alloc e => (opE P r σ (.alloc e)).map fun x => newD σ x []
  | .box t v => (opE P r σ (.box t v)).map fun x => newD σ x []
  | .makeSlice t l c => (opE P r σ (.makeSlice t l c)).map fun x => newD σ x []
  | .buildSlice t n ps => (opE P r σ (.buildSlice t n ps)).map fun x => newD σ x []
  | .slice t v lo hi mx => (opE P r σ (.slice t v lo hi mx)).map fun x => (x.1, x.2, idsOf (ev r v), [])
  | .call { callee := .builtin .append, args, argTypes } => match args.toList with
    | [s, v] => (opE P r σ (.call { callee := .builtin .append, args, argTypes })).map fun x =>
      if x.2.length = σ.length then (x.1, x.2, idsOf (ev r s) ++ idsOf (ev r v), idsOf (ev r s)) else (x.1, x.2, 0 :: (idsOf (ev r s) ++ idsOf (ev r v)), [0, σ.length + 1])
    | _ => none
  | .call { callee := .builtin .cap, args, argTypes } => match args.toList with
    | [s] => (opE P r σ (.call { callee := .builtin .cap, args, argTypes })).map fun x => (x.1, x.2, idsOf (ev r s), [])
    | _ => none
  | .call { callee := .builtin .copy, .. } => none
  | op => (opE P r σ op).map fun x => (x.1, x.2, [], [])

section
variable {P : Program}

/-- the same done: at τ as at σ -/
def Same (τ τ' σ σ' : Heap) (ws : List Nat) : Prop := (∀ c, c ∉ ws → agC τ' τ c) ∧ (∀ c, c ∈ ws → agC τ' σ' c) ∧ (∀ c, c ∉ ws → agC σ' σ c)

theorem Same.none {τ σ : Heap} : Same τ τ σ σ [] := ⟨fun c _ => agC.refl τ c, fun c h => absurd h (by simp), fun c _ => agC.refl σ c⟩

theorem agC_push {τ σ : Heap} (o : Obj) (h : τ.length = σ.length) : ∀ c, c ∉ [0, σ.length + 1] → agC (τ ++ [o]) τ c := fun c hc => by
  cases c with
  | zero => simp at hc
  | succ b =>
    have : b ≠ τ.length := fun e => hc (by simp [e, h])
    show (τ ++ [o])[b]? = τ[b]?
    by_cases hlt : b < τ.length
    · rw [List.getElem?_append_left hlt]
    · rw [List.getElem?_append_right (by omega), List.getElem?_eq_none (by omega : τ.length ≤ b)]
      rw [List.getElem?_eq_none]
      simp; omega

theorem Same.push {τ σ : Heap} (o : Obj) (h : τ.length = σ.length) : Same τ (τ ++ [o]) σ (σ ++ [o]) [0, σ.length + 1] :=
  ⟨agC_push o h, fun c hc => by
    simp only [List.mem_cons, List.not_mem_nil, or_false] at hc
    rcases hc with rfl | rfl
    · show (τ ++ [o]).length = (σ ++ [o]).length
      simp [h]
    · show (τ ++ [o])[σ.length]? = (σ ++ [o])[σ.length]?
      rw [← h]
      simp [h], agC_push o rfl⟩

theorem Same.setAt {τ σ : Heap} {b : Nat} (o : Obj) (h : τ[b]? = σ[b]?) : Same τ (τ.set b o) σ (σ.set b o) [b + 1] := by
  have off : ∀ (τ : Heap) c, c ∉ [b + 1] → agC (τ.set b o) τ c := fun τ c hc => by
    cases c with
    | zero => exact List.length_set
    | succ d =>
      have : b ≠ d := fun e => hc (by simp [e])
      exact List.getElem?_set_ne this
  refine ⟨off τ, fun c hc => ?_, off σ⟩
  simp only [List.mem_cons, List.not_mem_nil, or_false] at hc
  subst hc
  show (τ.set b o)[b]? = (σ.set b o)[b]?
  by_cases h1 : b < τ.length
  · have h2 : b < σ.length := by
      rw [List.getElem?_eq_getElem h1] at h
      exact (List.getElem?_eq_some_iff.1 h.symm).1
    rw [List.getElem?_set_self h1, List.getElem?_set_self h2]
  · have h2 : ¬ b < σ.length := fun h2 => by
      rw [List.getElem?_eq_getElem h2] at h
      exact h1 (List.getElem?_eq_some_iff.1 h).1
    rw [List.getElem?_eq_none (by simp; omega), List.getElem?_eq_none (by simp; omega)]

theorem at_congr {τ σ : Heap} {r : Ref} (h : agC τ σ (r.id + 1)) : τ.at? r = σ.at? r := by
  unfold Heap.at?
  rw [show τ[r.id]? = σ[r.id]? from h]

theorem evs_congr {r r' : Regs} : ∀ {ps : List (Nat × Operand)}, (∀ x ∈ ps.map (·.2), ev r' x = ev r x) → evs r' ps = evs r ps
  | [], _ => rfl
  | (i, x) :: rest, h => by
    simp only [evs]
    rw [h x (by simp), evs_congr (ps := rest) fun y hy => h y (by simp at hy ⊢; exact .inr hy)]

theorem evl_congr {r r' : Regs} : ∀ {ps : List Operand}, (∀ x ∈ ps, ev r' x = ev r x) → evl r' ps = evl r ps
  | [], _ => rfl
  | x :: rest, h => by
    simp only [evl]
    rw [h x (by simp), evl_congr (ps := rest) fun y hy => h y (by simp [hy])]

theorem evo_congr {r r' : Regs} : ∀ {x : Option Operand}, (∀ y ∈ x.toArray, ev r' y = ev r y) → evo r' x = evo r x
  | none, _ => rfl
  | some y, h => by simp only [evo]; rw [h y (by simp)]

/-- registers matter only through the operands -/
theorem opE_regs {r r' : Regs} {σ : Heap} {op : Op} (hr : ∀ x ∈ op.operands, ev r' x = ev r x) : opE P r' σ op = opE P r σ op := by
  cases op with
  | move x => simp only [opE]; rw [hr x (by simp [Op.operands])]
  | assign x => simp only [opE]; rw [hr x (by simp [Op.operands])]
  | pick c a b =>
    simp only [opE]
    rw [hr c (by simp [Op.operands])]
    split
    · rename_i t _
      cases t
      · simp only [Bool.false_eq_true, if_false]; rw [hr b (by simp [Op.operands])]
      · simp only [if_true]; rw [hr a (by simp [Op.operands])]
    · rfl
  | alloc e => rfl
  | box t x => simp only [opE]; rw [hr x (by simp [Op.operands])]
  | build t ps => simp only [opE]; rw [evs_congr fun x hx => hr x (by simpa [Op.operands] using hx)]
  | buildSlice t n ps => simp only [opE]; rw [evs_congr fun x hx => hr x (by simpa [Op.operands] using hx)]
  | load t a => simp only [opE]; rw [hr a (by simp [Op.operands])]
  | store t a x => simp only [opE]; rw [hr a (by simp [Op.operands]), hr x (by simp [Op.operands])]
  | nilCheck x => simp only [opE]; rw [hr x (by simp [Op.operands])]
  | binOp op t x y u => simp only [opE]; rw [hr x (by simp [Op.operands]), hr y (by simp [Op.operands])]
  | unOp op t x => simp only [opE]; rw [hr x (by simp [Op.operands])]
  | convert s d x => simp only [opE]; rw [hr x (by simp [Op.operands])]
  | makeFunc f first caps =>
    cases f with
    | func f => simp only [opE]; rw [evl_congr fun x hx => hr x (by simp [Op.operands]; exact .inr (by simpa using hx))]
    | _ => rfl
  | makeSlice t l c => simp only [opE]; rw [hr l (by simp [Op.operands]), hr c (by simp [Op.operands])]
  | slice t x l h m =>
    simp only [opE]
    rw [hr x (by simp [Op.operands]), evo_congr (x := l) fun y hy => hr y (by simp [Op.operands] at hy ⊢; simp [hy]), evo_congr (x := h) fun y hy => hr y (by simp [Op.operands] at hy ⊢; simp [hy]),
      evo_congr (x := m) fun y hy => hr y (by simp [Op.operands] at hy ⊢; simp [hy])]
  | fieldAddr t x f => simp only [opE]; rw [hr x (by simp [Op.operands])]
  | field t x f => simp only [opE]; rw [hr x (by simp [Op.operands])]
  | indexAddr t x i => simp only [opE]; rw [hr x (by simp [Op.operands]), hr i (by simp [Op.operands])]
  | index t x i => simp only [opE]; rw [hr x (by simp [Op.operands]), hr i (by simp [Op.operands])]
  | extract x i => simp only [opE]; rw [hr x (by simp [Op.operands])]
  | call c =>
    obtain ⟨callee, args, ts⟩ := c
    cases callee with
    | builtin b =>
      simp only [opE]
      rw [evl_congr fun x hx => hr x (by simp [Op.operands, Call.operands]; simpa using hx)]
    | _ => rfl
  | _ => rfl

theorem loadE_congr {τ σ : Heap} {i : TInf} {v : AV} (h : ∀ c ∈ idsOf (some v), agC τ σ c) : loadE τ i v = loadE σ i v := by
  unfold loadE
  split
  · rw [at_congr (h _ (by simp [idsOf]))]
  · rfl
  · rfl

theorem sliceE_congr {τ σ : Heap} {t : TypeId} {v : AV} {lo hi mx : Option AV} (h : ∀ c ∈ idsOf (some v), agC τ σ c) : sliceE P τ t v lo hi mx = sliceE P σ t v lo hi mx := by
  unfold sliceE
  split
  · split
    · rfl
    · rw [at_congr (h _ (by simp [idsOf]))]
    · rfl
    · rfl
  · rfl

theorem firstE_congr {τ σ : Heap} {es n : Nat} {v : AV} (h : ∀ c ∈ idsOf (some v), agC τ σ c) : firstE τ es n v = firstE σ es n v := by
  unfold firstE
  split
  · rw [at_congr (h _ (by simp [idsOf]))]
  · rfl
  · rfl
  · rfl

end
end Go.Abs
