/-
  A general library: each operation of the abstract heap is what the machine does. Part 3: operators, conversions, places.
-/
import Derived.Test.YthchfbanjeiieaaAbs4
set_option linter.unusedSimpArgs false
set_option linter.unusedVariables false
namespace Go.Abs

section
variable {P : Program} {ι : Map} {w : World}

theorem int_of {k : IntKind} {n : Int} {v : Value} (h : VR ι w (.c (.t (.int k n))) v) : v = .int k n := by cases h; rfl
theorem str_of {s : List UInt8} {v : Value} (h : VR ι w (.c (.t (.str s))) v) : v = .string ⟨s.toArray⟩ := by cases h; rfl
theorem bool_of {b : Bool} {v : Value} (h : VR ι w (.c (.t (.bool b))) v) : v = .bool b := by cases h; rfl
theorem nilp_of {v : Value} (h : VR ι w (.c (.t .nilp)) v) : v = .pointer none := by cases h; rfl

theorem intE_ok {op : BinOp} {k : IntKind} {a b : Int} {t : T} (h : intE op k a b = some t) (hs : isShift op = false) (xT : TypeId) :
    ∃ v, (binOp op xT (.int k a) (.int k b)).run P w = .ok v w ∧ TR ι.un w t v := by
  cases op <;> simp only [intE, isShift] at h hs
  case add => injection h with h; subst h; exact ⟨_, by simp [binOp, Op.intArith], .int _ _⟩
  case sub => injection h with h; subst h; exact ⟨_, by simp [binOp, Op.intArith], .int _ _⟩
  case mul => injection h with h; subst h; exact ⟨_, by simp [binOp, Op.intArith], .int _ _⟩
  case quo =>
    split at h
    · cases h
    · rename_i h0; injection h with h; subst h; exact ⟨_, by simp [binOp, Op.intDiv, h0], .int _ _⟩
  case rem =>
    split at h
    · cases h
    · rename_i h0; injection h with h; subst h; exact ⟨_, by simp [binOp, Op.intDiv, h0], .int _ _⟩
  case and => injection h with h; subst h; exact ⟨_, by simp only [binOp]; rw [if_neg (by simp)]; rfl, .int _ _⟩
  case or => injection h with h; subst h; exact ⟨_, by simp only [binOp]; rw [if_neg (by simp)]; rfl, .int _ _⟩
  case xor => injection h with h; subst h; exact ⟨_, by simp only [binOp]; rw [if_neg (by simp)]; rfl, .int _ _⟩
  case andNot => injection h with h; subst h; exact ⟨_, by simp only [binOp]; rw [if_neg (by simp)]; rfl, .int _ _⟩
  case eql => injection h with h; subst h; exact ⟨_, by simp [binOp, Op.intCmp], .bool _⟩
  case neq => injection h with h; subst h; exact ⟨_, by simp [binOp, Op.intCmp], .bool _⟩
  case lss => injection h with h; subst h; exact ⟨_, by simp [binOp, Op.intCmp], .bool _⟩
  case leq => injection h with h; subst h; exact ⟨_, by simp [binOp, Op.intCmp], .bool _⟩
  case gtr => injection h with h; subst h; exact ⟨_, by simp [binOp, Op.intCmp], .bool _⟩
  case geq => injection h with h; subst h; exact ⟨_, by simp [binOp, Op.intCmp], .bool _⟩
  case shl => cases hs
  case shr => cases hs

theorem shiftE_ok {op : BinOp} {k k' : IntKind} {a b : Int} {t : T} (h : shiftE op k a b = some t) (xT : TypeId) :
    ∃ v, (binOp op xT (.int k a) (.int k' b)).run P w = .ok v w ∧ TR ι.un w t v := by
  unfold shiftE at h
  split at h
  · cases h
  · rename_i hb
    cases op <;> simp only at h <;> first
      | (cases h; done)
      | (injection h with h; subst h; exact ⟨_, by simp [binOp, Op.shift, hb], .int _ _⟩)

theorem bytes_beq (x y : List UInt8) : ((⟨x.toArray⟩ : ByteArray).toList == (⟨y.toArray⟩ : ByteArray).toList) = (x == y) := by
  have e : ∀ z : List UInt8, (⟨z.toArray⟩ : ByteArray).toList = z := fun z => by simp [ByteArray.toList_eq]
  rw [e, e]

theorem strE_ok {op : BinOp} {a b : List UInt8} {t : T} (h : strE op a b = some t) (xT : TypeId) :
    ∃ v, (binOp op xT (.string ⟨a.toArray⟩) (.string ⟨b.toArray⟩)).run P w = .ok v w ∧ TR ι.un w t v := by
  have sz : ∀ z : List UInt8, (⟨z.toArray⟩ : ByteArray).size = z.length := fun z => by simp [ByteArray.size]
  cases op <;> simp only [strE] at h
  case add =>
    split at h
    · rename_i hl
      injection h with h
      subst h
      refine ⟨_, ?_, .str _⟩
      have := run_string_add_sum (P := P) w ⟨a.toArray⟩ ⟨b.toArray⟩ (by rw [sz, sz]; exact hl)
      simp only [binOp]
      rw [this]
      congr 2
    · cases h
  case eql => injection h with h; subst h; exact ⟨_, by simp [binOp, Op.stringOp, bytes_beq], .bool _⟩
  case neq => injection h with h; subst h; exact ⟨_, by simp [binOp, Op.stringOp, bytes_beq], .bool _⟩
  all_goals cases h

theorem boolE_ok {op : BinOp} {a b : Bool} {t : T} (h : boolE op a b = some t) {x y : Value} {xT : TypeId} (he : (Op.equal xT x y).run P w = .ok (a == b) w)
    (h1 : binOp .eql xT x y = (do pure (.bool (← Op.equal xT x y)))) (h2 : binOp .neq xT x y = (do pure (.bool (!(← Op.equal xT x y))))) :
    ∃ v, (binOp op xT x y).run P w = .ok v w ∧ TR ι.un w t v := by
  cases op <;> simp only [boolE] at h <;> first
    | (cases h; done)
    | (injection h with h; subst h; exact ⟨_, by rw [h1]; simp [he], .bool _⟩)
    | (injection h with h; subst h; exact ⟨_, by rw [h2]; simp [he], .bool _⟩)

theorem equal_bool {xT : TypeId} {i : TInf} (ht : tinf P xT = some i) (hk : i.kind = .bool) (a b : Bool) : (Op.equal xT (.bool a) (.bool b)).run P w = .ok (a == b) w := by
  obtain ⟨d, h1, h2, _⟩ := tinf_und ht w
  rw [hk] at h2
  cases d <;> simp [kindOf] at h2
  have e : ∀ d, (Op.equalIn (d + 1) xT (.bool a) (.bool b)).run P w = .ok (a == b) w := fun d => by simp [Op.equalIn, h1]
  exact e 9999

theorem kind_ptr {xT : TypeId} {i : TInf} (ht : tinf P xT = some i) {e : TypeId} (hk : i.kind = .ptr e) : P.underlying xT = some (.pointer e) := by
  obtain ⟨d, h1, h2, h3⟩ := tinf_und ht (default : World)
  rw [hk] at h2
  cases d <;> simp [kindOf] at h2
  subst h2
  exact h3

theorem equal_nil {xT e : TypeId} {i : TInf} (ht : tinf P xT = some i) (hk : i.kind = .ptr e) (p : Option Addr) : (Op.equal xT (.pointer p) (.pointer none)).run P w = .ok p.isNone w := by
  have h := kind_ptr ht hk
  have e' : ∀ d, (Op.equalIn (d + 1) xT (.pointer p) (.pointer none)).run P w = .ok p.isNone w := fun d => by cases p <;> simp [Op.equalIn, run_underlying h]
  exact e' 9999

theorem binE_ok {op : BinOp} {xT : TypeId} {x y : AV} {t : T} (h : binE P op xT x y = some t) {u v : Value} (hx : VR ι w x u) (hy : VR ι w y v) (xo yo : Operand) :
    ∃ z, (do eqGuard op xT xo yo u v; binOp op xT u v).run P w = .ok z w ∧ TR ι.un w t z := by
  unfold binE at h
  split at h
  · rename_i k a k' b
    obtain rfl := int_of hx
    obtain rfl := int_of hy
    have hg : (eqGuard op xT xo yo (.int k a) (.int k' b)).run P w = .ok () w := by unfold eqGuard; cases op <;> simp
    simp only [Sem.run_bind, hg, Result.andThen_ok]
    cases hs : isShift op with
    | true => rw [hs] at h; exact shiftE_ok h xT
    | false =>
      rw [hs] at h
      simp only [Bool.false_eq_true, if_false] at h
      split at h
      · rename_i hk
        subst hk
        exact intE_ok h hs xT
      · cases h
  · rename_i a b
    obtain rfl := str_of hx
    obtain rfl := str_of hy
    have hg : (eqGuard op xT xo yo (.string ⟨a.toArray⟩) (.string ⟨b.toArray⟩)).run P w = .ok () w := by unfold eqGuard; cases op <;> simp
    simp only [Sem.run_bind, hg, Result.andThen_ok]
    exact strE_ok h xT
  · rename_i a b
    obtain rfl := bool_of hx
    obtain rfl := bool_of hy
    have hg : (eqGuard op xT xo yo (.bool a) (.bool b)).run P w = .ok () w := by unfold eqGuard; cases op <;> simp
    simp only [Sem.run_bind, hg, Result.andThen_ok]
    split at h
    · rename_i i hi
      split at h
      · rename_i hk
        exact boolE_ok h (equal_bool hi hk a b) rfl rfl
      · cases h
    · cases h
  · obtain rfl := nilp_of hy
    obtain ⟨p, rfl, s, _, _, hok⟩ := hx
    have hg : ∀ p', (eqGuard op xT xo yo (.pointer p') (.pointer none)).run P w = .ok () w := fun p' => by unfold eqGuard; cases op <;> simp
    simp only [Sem.run_bind, hg, Result.andThen_ok]
    rename_i r
    split at h
    · rename_i i hi
      split at h
      · rename_i e hk
        exact boolE_ok h (equal_nil hi hk _) rfl rfl
      · cases h
    · cases h
  · rename_i cs
    obtain rfl := nilp_of hy
    obtain ⟨b, off, rfl, _⟩ := iptr_row hx
    have hg : ∀ p', (eqGuard op xT xo yo (.pointer p') (.pointer none)).run P w = .ok () w := fun p' => by unfold eqGuard; cases op <;> simp
    simp only [Sem.run_bind, hg, Result.andThen_ok]
    split at h
    · rename_i i hi
      split at h
      · rename_i e hk
        exact boolE_ok h (equal_nil hi hk _) rfl rfl
      · cases h
    · cases h
  · obtain rfl := nilp_of hx
    obtain rfl := nilp_of hy
    have hg : ∀ p', (eqGuard op xT xo yo (.pointer p') (.pointer none)).run P w = .ok () w := fun p' => by unfold eqGuard; cases op <;> simp
    simp only [Sem.run_bind, hg, Result.andThen_ok]
    split at h
    · rename_i i hi
      split at h
      · rename_i e hk
        exact boolE_ok h (equal_nil hi hk _) rfl rfl
      · cases h
    · cases h
  · cases h

end
end Go.Abs
