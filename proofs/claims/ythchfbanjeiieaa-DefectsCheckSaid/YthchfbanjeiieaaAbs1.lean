/-
  A general library: values as trees in immutable memory, cells of an abstract heap, and their relation to the machine's world. No condition; holds of every program.
-/
import Derived.CallsIn
import Derived.OrdersIn
import Derived.WalkKit
set_option linter.unusedSimpArgs false
set_option linter.unusedVariables false
namespace Go.Abs

/-- values that name no cell of the abstract heap: what they point to is never written again -/
inductive T where
  | bool (b : Bool)
  | int (k : IntKind) (n : Int)
  | str (s : List UInt8)
  | nilp
  | imm (cs : List T) (len : Nat) (cap : Option Nat)
  | iptr (cs : List T)
  | fn (f : FuncId) (caps : List T)
  | nilf
  | junk
  deriving Inhabited

def capOk : Option Nat → Nat → Prop
  | some k, c => c = k
  | none, _ => True

/-- a block of cells -/
def isRow (w : World) (b : Nat) : Prop := ∃ c e fr, w.heap[b]? = some (.cells c e fr)

theorem isRow.lt {w : World} {b : Nat} (h : isRow w b) : b < w.heap.size := by
  obtain ⟨c, e, fr, h⟩ := h
  exact (Array.getElem?_eq_some_iff.1 h).1

/-- U: the blocks that nobody writes -/
inductive TR (U : Nat → Prop) (w : World) : T → Value → Prop
  | bool (b : Bool) : TR U w (.bool b) (.bool b)
  | int (k : IntKind) (n : Int) : TR U w (.int k n) (.int k n)
  | str (s : List UInt8) : TR U w (.str s) (.string ⟨s.toArray⟩)
  | nilp : TR U w .nilp (.pointer none)
  | imm0 (cap : Option Nat) (a : Option Addr) (c : Nat) : capOk cap c → TR U w (.imm [] 0 cap) (.slice a 0 c)
  | imm (cs : List T) (len : Nat) (cap : Option Nat) (b off c : Nat) (f : Nat → Value) : U b → isRow w b → capOk cap c → len ≤ c →
      (∀ i (_ : i < cs.length), w.cell? ⟨b, off + i, none⟩ = some (f i)) → (∀ i (h : i < cs.length), TR U w cs[i] (f i)) →
      TR U w (.imm cs len cap) (.slice (some ⟨b, off, none⟩) len c)
  | iptr (cs : List T) (b off : Nat) (f : Nat → Value) : U b → isRow w b →
      (∀ i (_ : i < cs.length), w.cell? ⟨b, off + i, none⟩ = some (f i)) → (∀ i (h : i < cs.length), TR U w cs[i] (f i)) →
      TR U w (.iptr cs) (.pointer (some ⟨b, off, none⟩))
  | fn (g : FuncId) (caps : List T) (arr : Array Value) : arr.size = caps.length → (∀ i (h : i < caps.length), TR U w caps[i] (arr.getD i undef)) →
      TR U w (.fn g caps) (.func (.func g) #[] arr)
  | nilf : TR U w .nilf .nilFunc
  | junk (v : Value) : v.oneCell' = true → TR U w .junk v

theorem cell_congr {w w' : World} {b : Nat} (h : w'.heap[b]? = w.heap[b]?) (o : Nat) : w'.cell? ⟨b, o, none⟩ = w.cell? ⟨b, o, none⟩ := by
  simp only [World.cell?, h]

/-- what keeps the immutable blocks keeps the trees -/
theorem TR.mono {U U' : Nat → Prop} {w w' : World} {t : T} {v : Value} (h : TR U w t v)
    (hU : ∀ b, U b → isRow w b → U' b ∧ w'.heap[b]? = w.heap[b]?) : TR U' w' t v := by
  induction h with
  | bool b => exact .bool b
  | int k n => exact .int k n
  | str s => exact .str s
  | nilp => exact .nilp
  | imm0 cap a c hc => exact .imm0 cap a c hc
  | imm cs len cap b off c f hb hlt hc hle hcells _ ih =>
    exact .imm cs len cap b off c f (hU b hb hlt).1 (by obtain ⟨c', e', fr', h'⟩ := hlt; exact ⟨c', e', fr', (hU b hb ⟨c', e', fr', h'⟩).2.trans h'⟩) hc hle (fun i hi => (cell_congr (hU b hb hlt).2 _).trans (hcells i hi)) ih
  | iptr cs b off f hb hlt hcells _ ih =>
    exact .iptr cs b off f (hU b hb hlt).1 (by obtain ⟨c', e', fr', h'⟩ := hlt; exact ⟨c', e', fr', (hU b hb ⟨c', e', fr', h'⟩).2.trans h'⟩) (fun i hi => (cell_congr (hU b hb hlt).2 _).trans (hcells i hi)) ih
  | fn g caps arr hsz _ ih => exact .fn g caps arr hsz ih
  | nilf => exact .nilf
  | junk v hv => exact .junk v hv

theorem TR.oneCell {U : Nat → Prop} {w : World} {t : T} {v : Value} (h : TR U w t v) : v.oneCell' = true := by
  cases h <;> first | rfl | assumption

/-- a reference into the abstract heap: object, epoch, offset -/
structure Ref where
  id : Nat
  ep : Nat
  off : Nat
  deriving DecidableEq, Inhabited

/-- what one cell holds -/
inductive Cell where
  | t (x : T)
  | ptr (r : Ref)
  | sl (r : Ref) (len : Nat) (cap : Option Nat)
  | clo (f : FuncId) (caps : List Ref)
  deriving Inhabited

/-- an object of the abstract heap: its cells, the cells of an element (for growing slices), its epoch -/
structure Obj where
  cs : List Cell
  es : Nat := 1
  ep : Nat := 0
  deriving Inhabited

abbrev Heap := List Obj

/-- where an object lies: block, first cell, number of cells; or nowhere yet (it is empty) -/
structure Loc where
  blk : Nat
  sh : Nat
  tot : Nat
  deriving Inhabited

structure Spot where
  loc : Option Loc
  es : Nat
  ep : Nat
  deriving Inhabited

/-- where the objects lie; the blocks that are somebody else's (they lie as they are) -/
structure Map where
  at' : Nat → Option Spot
  res : Nat → Prop
instance : CoeFun Map (fun _ => Nat → Option Spot) := ⟨Map.at'⟩

/-- the blocks that the map names -/
def Map.byId (ι : Map) (b : Nat) : Prop := ∃ id s l, ι id = some s ∧ s.loc = some l ∧ l.blk = b
def Map.mapped (ι : Map) (b : Nat) : Prop := ι.byId b ∨ ι.res b
def Map.un (ι : Map) (b : Nat) : Prop := ¬ ι.mapped b

/-- a reference that is up to date is exact; one that is out of date says nothing -/
def refAt (ι : Map) (r : Ref) (ok : Spot → Prop) : Prop := ∃ s, ι r.id = some s ∧ r.ep ≤ s.ep ∧ (r.ep = s.ep → ok s)

def ptrOk (off : Nat) (a : Option Addr) (s : Spot) : Prop := ∃ l, s.loc = some l ∧ a = some ⟨l.blk, l.sh + off, none⟩

def slOk (off len : Nat) (cap : Option Nat) (a : Option Addr) (c : Nat) (s : Spot) : Prop :=
  len ≤ c ∧ capOk cap c ∧
  match s.loc with
  | none => len = 0 ∧ c = 0 ∧ off = 0
  | some l => a = some ⟨l.blk, l.sh + off, none⟩ ∧ off + c * s.es ≤ l.tot ∧ (cap = none → off + c * s.es = l.tot)

def CR (ι : Map) (w : World) : Cell → Value → Prop
  | .t x, v => TR ι.un w x v
  | .ptr r, v => ∃ a : Addr, v = .pointer (some a) ∧ refAt ι r (ptrOk r.off (some a))
  | .sl r len cap, v => ∃ a c, v = .slice a len c ∧ (len = 0 ∨ a.isSome = true) ∧ refAt ι r (slOk r.off len cap a c)
  | .clo f caps, v => ∃ arr : Array Value, v = .func (.func f) #[] arr ∧ arr.size = caps.length ∧
      ∀ i (h : i < caps.length), ∃ a : Addr, arr.getD i undef = .pointer (some a) ∧ refAt ι caps[i] (ptrOk caps[i].off (some a))

theorem CR.oneCell {ι : Map} {w : World} {c : Cell} {v : Value} (h : CR ι w c v) : v.oneCell' = true := by
  cases c with
  | t x => exact TR.oneCell h
  | ptr r => obtain ⟨a, rfl, _⟩ := h; rfl
  | sl r len cap => obtain ⟨a, c, rfl, _⟩ := h; rfl
  | clo f caps => obtain ⟨arr, rfl, _⟩ := h; rfl

/-- one object, where the map says -/
def OR (ι : Map) (w : World) (o : Obj) (s : Spot) : Prop :=
  o.es = s.es ∧ o.ep = s.ep ∧
  match s.loc with
  | none => o.cs = []
  | some l => (∃ cells elem, w.heap[l.blk]? = some (.cells cells elem (0, 0)) ∧ l.sh + l.tot ≤ cells.size) ∧ o.cs.length ≤ l.tot ∧
      ∀ i (h : i < o.cs.length), ∃ v, w.cell? ⟨l.blk, l.sh + i, none⟩ = some v ∧ CR ι w o.cs[i] v

/-- the abstract heap as far as the map names its objects -/
structure HR (ι : Map) (σ : Heap) (w : World) : Prop where
  obj : ∀ id s, ι id = some s → ∃ o, σ[id]? = some o ∧ OR ι w o s
  inj : ∀ id id' s s' l l', ι id = some s → ι id' = some s' → s.loc = some l → s'.loc = some l' → l.blk = l'.blk → id = id'
  resRow : ∀ b, ι.res b → isRow w b
  resNo : ∀ id s l, ι id = some s → s.loc = some l → ¬ ι.res l.blk

/-- what a step may do -/
structure Step (ι : Map) (σ : Heap) (w : World) (ι' : Map) (σ' : Heap) (w' : World) : Prop where
  len : σ.length ≤ σ'.length
  size : w.heap.size ≤ w'.heap.size
  os : w'.os = w.os
  out : w'.output = w.output
  keep : ∀ id s, ι id = some s → ∃ s', ι' id = some s' ∧ s.ep ≤ s'.ep ∧ (s.ep = s'.ep → s' = s)
  none : ∀ id, id < σ.length → ι id = Option.none → ι' id = Option.none
  new : ∀ id s' l', ι' id = some s' → s'.loc = some l' → w.heap.size ≤ l'.blk ∨ ι.byId l'.blk
  res : ι'.res = ι.res
  resKeep : ∀ b, ι.res b → w'.heap[b]? = w.heap[b]?
  frame : ∀ b, b < w.heap.size → ι.un b → w'.heap[b]? = w.heap[b]?

theorem Step.refl (ι : Map) (σ : Heap) (w : World) : Step ι σ w ι σ w where
  len := Nat.le_refl _
  size := Nat.le_refl _
  os := rfl
  out := rfl
  keep := fun _ s h => ⟨s, h, Nat.le_refl _, fun _ => rfl⟩
  none := fun _ _ h => h
  new := fun id s' l' h h' => .inr ⟨id, s', l', h, h', rfl⟩
  res := rfl
  resKeep := fun _ _ => rfl
  frame := fun _ _ _ => rfl

theorem Step.un {ι ι' : Map} {σ σ' : Heap} {w w' : World} (h : Step ι σ w ι' σ' w') {b : Nat} (hb : b < w.heap.size) (hu : ι.un b) : ι'.un b := by
  rintro (⟨id, s, l, h1, h2, rfl⟩ | hr)
  · rcases h.new id s l h1 h2 with h3 | h3
    · exact absurd h3 (by omega)
    · exact hu (.inl h3)
  · exact hu (.inr (h.res ▸ hr))

theorem Step.trans {ι ι₁ ι₂ : Map} {σ σ₁ σ₂ : Heap} {w w₁ w₂ : World} (h : Step ι σ w ι₁ σ₁ w₁) (h' : Step ι₁ σ₁ w₁ ι₂ σ₂ w₂) : Step ι σ w ι₂ σ₂ w₂ where
  len := Nat.le_trans h.len h'.len
  size := Nat.le_trans h.size h'.size
  os := h'.os.trans h.os
  out := h'.out.trans h.out
  keep := fun id s hs => by
    obtain ⟨s1, h1, hle, he⟩ := h.keep id s hs
    obtain ⟨s2, h2, hle', he'⟩ := h'.keep id s1 h1
    refine ⟨s2, h2, Nat.le_trans hle hle', fun e => ?_⟩
    have e1 : s1 = s := he (by omega)
    subst e1
    exact he' e
  none := fun id hid hn => h'.none id (Nat.lt_of_lt_of_le hid h.len) (h.none id hid hn)
  new := fun id s' l' h1 h2 => by
    rcases h'.new id s' l' h1 h2 with h3 | ⟨id1, s1, l1, h4, h5, h6⟩
    · exact .inl (Nat.le_trans h.size h3)
    · rcases h.new id1 s1 l1 h4 h5 with h7 | h7
      · exact .inl (h6 ▸ h7)
      · exact .inr (h6 ▸ h7)
  res := h'.res.trans h.res
  resKeep := fun b hb => (h'.resKeep b (h.res ▸ hb)).trans (h.resKeep b hb)
  frame := fun b hb hu => (h'.frame b (Nat.lt_of_lt_of_le hb h.size) (h.un hb hu)).trans (h.frame b hb hu)

theorem TR.step {ι ι' : Map} {σ σ' : Heap} {w w' : World} (hs : Step ι σ w ι' σ' w') {t : T} {v : Value} (h : TR ι.un w t v) : TR ι'.un w' t v :=
  h.mono (fun b hb hlt => ⟨hs.un hlt.lt hb, hs.frame b hlt.lt hb⟩)

theorem refAt.step {ι ι' : Map} {σ σ' : Heap} {w w' : World} (hs : Step ι σ w ι' σ' w') {r : Ref} {ok : Spot → Prop} (h : refAt ι r ok) : refAt ι' r ok := by
  obtain ⟨s, h1, h2, h3⟩ := h
  obtain ⟨s', h4, h5, h6⟩ := hs.keep r.id s h1
  refine ⟨s', h4, by omega, fun e => ?_⟩
  have e1 : s' = s := h6 (by omega)
  subst e1
  exact h3 e

theorem CR.step {ι ι' : Map} {σ σ' : Heap} {w w' : World} (hs : Step ι σ w ι' σ' w') {c : Cell} {v : Value} (h : CR ι w c v) : CR ι' w' c v := by
  cases c with
  | t x => exact TR.step hs h
  | ptr r => obtain ⟨a, rfl, h1⟩ := h; exact ⟨a, rfl, h1.step hs⟩
  | sl r len cap => obtain ⟨a, c, rfl, h0, h1⟩ := h; exact ⟨a, c, rfl, h0, h1.step hs⟩
  | clo f caps =>
    obtain ⟨arr, rfl, h1, h2⟩ := h
    exact ⟨arr, rfl, h1, fun i hi => let ⟨a, h3, h4⟩ := h2 i hi; ⟨a, h3, h4.step hs⟩⟩

/-- values in registers, arguments and results -/
inductive AV where
  | c (x : Cell)
  | agg (xs : List Cell)
  | tup (xs : List (Cell ⊕ List Cell))
  deriving Inhabited

def aggR (ι : Map) (w : World) (xs : List Cell) (v : Value) : Prop :=
  ∃ arr : Array Value, v = .agg arr ∧ arr.size = xs.length ∧ ∀ i (h : i < xs.length), ∃ u, arr[i]? = some u ∧ CR ι w xs[i] u

def compR (ι : Map) (w : World) : Cell ⊕ List Cell → Value → Prop
  | .inl x, v => CR ι w x v
  | .inr xs, v => aggR ι w xs v

def VR (ι : Map) (w : World) : AV → Value → Prop
  | .c x, v => CR ι w x v
  | .agg xs, v => aggR ι w xs v
  | .tup xs, v => ∃ arr : Array Value, v = .tuple arr ∧ arr.size = xs.length ∧ ∀ i (h : i < xs.length), ∃ u, arr[i]? = some u ∧ compR ι w xs[i] u

theorem aggR.step {ι ι' : Map} {σ σ' : Heap} {w w' : World} (hs : Step ι σ w ι' σ' w') {xs : List Cell} {v : Value} (h : aggR ι w xs v) : aggR ι' w' xs v := by
  obtain ⟨arr, rfl, h1, h2⟩ := h
  exact ⟨arr, rfl, h1, fun i hi => let ⟨u, h3, h4⟩ := h2 i hi; ⟨u, h3, h4.step hs⟩⟩

theorem compR.step {ι ι' : Map} {σ σ' : Heap} {w w' : World} (hs : Step ι σ w ι' σ' w') {x : Cell ⊕ List Cell} {v : Value} (h : compR ι w x v) : compR ι' w' x v := by
  cases x with
  | inl x => exact CR.step hs h
  | inr xs => exact aggR.step hs h

theorem VR.step {ι ι' : Map} {σ σ' : Heap} {w w' : World} (hs : Step ι σ w ι' σ' w') {x : AV} {v : Value} (h : VR ι w x v) : VR ι' w' x v := by
  cases x with
  | c x => exact CR.step hs h
  | agg xs => exact aggR.step hs h
  | tup xs =>
    obtain ⟨arr, rfl, h1, h2⟩ := h
    exact ⟨arr, rfl, h1, fun i hi => let ⟨u, h3, h4⟩ := h2 i hi; ⟨u, h3, h4.step hs⟩⟩

/-- an object that lies in no block of the step's keeps its relation -/
theorem OR.congr {ι ι' : Map} {σ σ' : Heap} {w w' : World} (hs : Step ι σ w ι' σ' w') {o : Obj} {s : Spot} (h : OR ι w o s)
    (hb : ∀ l, s.loc = some l → w'.heap[l.blk]? = w.heap[l.blk]?) : OR ι' w' o s := by
  obtain ⟨h1, h2, h3⟩ := h
  refine ⟨h1, h2, ?_⟩
  cases hl : s.loc with
  | none => rw [hl] at h3; exact h3
  | some l =>
    rw [hl] at h3
    obtain ⟨⟨cells, elem, h4, h5⟩, h6, h7⟩ := h3
    have e := hb l hl
    refine ⟨⟨cells, elem, e.trans h4, h5⟩, h6, fun i hi => ?_⟩
    obtain ⟨v, h8, h9⟩ := h7 i hi
    exact ⟨v, (cell_congr e _).trans h8, h9.step hs⟩

end Go.Abs
