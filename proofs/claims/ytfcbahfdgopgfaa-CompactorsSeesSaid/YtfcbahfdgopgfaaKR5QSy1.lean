/-
  A general library: symbolic values: cells whose arrays are lists of plain data. Definitions, and what they stand for.
-/
import Derived.Test.YtfcbahfdgopgfaaKR5QAbsW
set_option linter.unusedSimpArgs false
set_option linter.unusedVariables false
namespace Go.Abs

/-- the layout of plain data -/
inductive Ly where
  | int (k : IntKind) | bool | str | sl (c : Ly) | pair (a b : Ly)
  deriving Inhabited

@[reducible] def Ly.ty : Ly → Type
  | .int _ => Int
  | .bool => Bool
  | .str => List UInt8
  | .sl c => List c.ty
  | .pair a b => a.ty × b.ty

def Ly.dflt : (c : Ly) → c.ty
  | .int _ => (0 : Int)
  | .bool => false
  | .str => ([] : List UInt8)
  | .sl _ => []
  | .pair a b => (a.dflt, b.dflt)

def Ly.size : Ly → Nat
  | .pair a b => a.size + b.size
  | _ => 1

def Ly.trees : (c : Ly) → c.ty → List T
  | .int k, n => [.int k n]
  | .bool, b => [.bool b]
  | .str, s => [.str s]
  | .sl c, (xs : List c.ty) => [.imm (xs.flatMap c.trees) xs.length none]
  | .pair a b, x => a.trees x.1 ++ b.trees x.2

theorem Ly.trees_length : ∀ (c : Ly) (x : c.ty), (c.trees x).length = c.size
  | .int _, _ => rfl
  | .bool, _ => rfl
  | .str, _ => rfl
  | .sl _, _ => rfl
  | .pair a b, x => by simp only [Ly.trees, Ly.size, List.length_append, a.trees_length, b.trees_length]

theorem Ly.size_pos : ∀ (c : Ly), 0 < c.size
  | .int _ => Nat.one_pos
  | .bool => Nat.one_pos
  | .str => Nat.one_pos
  | .sl _ => Nat.one_pos
  | .pair a _ => Nat.lt_of_lt_of_le a.size_pos (Nat.le_add_right _ _)

def kindB : IntKind → IntKind → Bool
  | .i8, .i8 => true | .i16, .i16 => true | .i32, .i32 => true | .i64, .i64 => true
  | .u8, .u8 => true | .u16, .u16 => true | .u32, .u32 => true | .u64, .u64 => true
  | _, _ => false
theorem kindB_eq : ∀ {a b : IntKind}, kindB a b = true → a = b := by
  intro a b h; cases a <;> cases b <;> first | rfl | simp [kindB] at h
theorem kindB_self (a : IntKind) : kindB a a = true := by cases a <;> rfl

def Ly.beq : Ly → Ly → Bool
  | .int k, .int k' => kindB k k'
  | .bool, .bool => true
  | .str, .str => true
  | .sl a, .sl b => a.beq b
  | .pair a b, .pair a' b' => match a.beq a' with | true => b.beq b' | false => false
  | _, _ => false
theorem Ly.beq_eq : ∀ {a b : Ly}, a.beq b = true → a = b
  | .int k, .int k', h => by rw [kindB_eq h]
  | .bool, .bool, _ => rfl
  | .str, .str, _ => rfl
  | .sl a, .sl b, h => by rw [Ly.beq_eq (a := a) (b := b) h]
  | .pair a b, .pair a' b', h => by
    simp only [Ly.beq] at h
    split at h
    · rename_i h1
      rw [Ly.beq_eq h1, Ly.beq_eq h]
    · cases h
  | .int _, .bool, h | .int _, .str, h | .int _, .sl _, h | .int _, .pair _ _, h => by cases h
  | .bool, .int _, h | .bool, .str, h | .bool, .sl _, h | .bool, .pair _ _, h => by cases h
  | .str, .int _, h | .str, .bool, h | .str, .sl _, h | .str, .pair _ _, h => by cases h
  | .sl _, .int _, h | .sl _, .bool, h | .sl _, .str, h | .sl _, .pair _ _, h => by cases h
  | .pair _ _, .int _, h | .pair _ _, .bool, h | .pair _ _, .str, h | .pair _ _, .sl _, h => by cases h

/-- the same data under a code that is the same -/
def Ly.cast {a b : Ly} (h : a.beq b = true) (x : a.ty) : b.ty := Ly.beq_eq h ▸ x
def Ly.castL {a b : Ly} (h : a.beq b = true) (x : List a.ty) : List b.ty := Ly.beq_eq h ▸ x

/-- a cell -/
inductive SC where
  | bo (x : Bool)
  | it (k : IntKind) (n : Int)
  | sg (l : List UInt8)
  | np
  | nf
  | nils
  | arr (c : Ly) (xs : List c.ty) (cap : Option Nat)
  | ip (c : Ly) (x : c.ty) (off : Nat)
  | iel (c : Ly) (xs : List c.ty) (i : Nat) (off : Nat)
  | ptr (id off : Nat)
  | el (id ep es i off : Nat)
  | sl (id ep es lo len : Nat) (cap : Option Nat)
  | fn (f : FuncId)
  | clo (f : FuncId) (rs : List Ref)
  | junk
  deriving Inhabited

def SC.den : SC → Cell
  | .bo x => .t (.bool x)
  | .it k n => .t (.int k n)
  | .sg l => .t (.str l)
  | .np => .t .nilp
  | .nf => .t .nilf
  | .nils => .t (.imm [] 0 (some 0))
  | .arr c xs cap => .t (.imm (xs.flatMap c.trees) xs.length cap)
  | .ip c x off => .t (.iptr ((c.trees x).drop off))
  | .iel c xs j off => .t (.iptr ((c.trees ((xs[j]?).getD c.dflt) ++ (xs.drop (j + 1)).flatMap c.trees).drop off))
  | .ptr id off => .ptr ⟨id, 0, off⟩
  | .el id ep es i off => .ptr ⟨id, ep, i * es + off⟩
  | .sl id ep es lo len cap => .sl ⟨id, ep, lo * es⟩ len cap
  | .fn f => .t (.fn f [])
  | .clo f rs => .clo f rs
  | .junk => .t .junk

inductive SV where
  | c (x : SC)
  | agg (xs : List SC)
  | tup (xs : List (SC ⊕ List SC))
  deriving Inhabited

def denP : SC ⊕ List SC → Cell ⊕ List Cell
  | .inl x => .inl x.den
  | .inr xs => .inr (xs.map SC.den)

def SV.den : SV → AV
  | .c x => .c x.den
  | .agg xs => .agg (xs.map SC.den)
  | .tup xs => .tup (xs.map denP)

/-- an object: cells; an array of plain data; an array of zeros that is not yet looked at -/
inductive SO where
  | st (cs : List SC) (es ep : Nat)
  | arr (c : Ly) (xs : List c.ty) (ep : Nat)
  | zer (z : List T) (c : Ly) (n : Nat)
  deriving Inhabited

def SO.den : SO → Obj
  | .st cs es ep => { cs := cs.map SC.den, es := es, ep := ep }
  | .arr c xs ep => { cs := (xs.flatMap c.trees).map .t, es := c.size, ep := ep }
  | .zer z c n => { cs := (repl n z).map .t, es := c.size, ep := 0 }

abbrev SH := List SO
def SH.den (σ : SH) : Heap := σ.map SO.den

/-- the guards under which a register holds its value: registers and the values wanted -/
abbrev Tg := List (Nat × Bool)
abbrev SR := List (Nat × Tg × SV)

def SR.get : SR → Nat → Option (Tg × SV)
  | [], _ => none
  | (k, v) :: r, t => match Nat.beq k t with | true => some v | false => SR.get r t

def SR.isB (r : SR) (t : Nat) (want : Bool) : Bool := match r.get t with
  | some (_, .c (.bo x)) => match want with | true => x | false => !x
  | _ => false
def SR.holds (r : SR) : Tg → Bool
  | [] => true
  | (t, w) :: l => match l with
    | [] => r.isB t w
    | _ :: _ => r.holds l && r.isB t w

def SR.dv (r : SR) (tg : Tg) (v : SV) : AV := match tg with | [] => v.den | _ :: _ => bif r.holds tg then v.den else .tup []
def SR.den1 (r : SR) (x : Nat × Tg × SV) : Nat × AV := (x.1, r.dv x.2.1 x.2.2)
def SR.den (r : SR) : Regs := r.map r.den1

end Go.Abs
