/-
  A general library: one equation an operation, for simp: drawn regions.
-/
import Derived.Test.YtfcbahfdgopgfaaKR5QAbsU
set_option linter.unusedSimpArgs false
set_option linter.unusedVariables false
namespace Go.Abs
section
variable (P : Program) (r : Regs) (σ : Heap) (K : Option AV → Heap → List Nat → List Nat → Prop) (tg : Tag K)

theorem sd_move (x : Operand) : stepD P r σ (.move x) K tg = onDraw (opD P r σ (.move x)) K tg := rfl
theorem sd_assign (x : Operand) : stepD P r σ (.assign x) K tg = onDraw (opD P r σ (.assign x)) K tg := rfl
theorem sd_pick (c a b : Operand) : stepD P r σ (.pick c a b) K tg = onDraw (opD P r σ (.pick c a b)) K tg := rfl
theorem sd_alloc (e : TypeId) : stepD P r σ (.alloc e) K tg = onDraw (opD P r σ (.alloc e)) K tg := rfl
theorem sd_box (e : TypeId) (x : Operand) : stepD P r σ (.box e x) K tg = onDraw (opD P r σ (.box e x)) K tg := rfl
theorem sd_build (t : TypeId) (ps : Array (Nat × Operand)) : stepD P r σ (.build t ps) K tg = onDraw (opD P r σ (.build t ps)) K tg := rfl
theorem sd_buildSlice (t : TypeId) (n : Nat) (ps : Array (Nat × Operand)) : stepD P r σ (.buildSlice t n ps) K tg = onDraw (opD P r σ (.buildSlice t n ps)) K tg := rfl
theorem sd_load (t : TypeId) (a : Operand) : stepD P r σ (.load t a) K tg = onDraw (opD P r σ (.load t a)) K tg := rfl
theorem sd_store (t : TypeId) (a x : Operand) : stepD P r σ (.store t a x) K tg = onDraw (opD P r σ (.store t a x)) K tg := rfl
theorem sd_nilCheck (x : Operand) : stepD P r σ (.nilCheck x) K tg = onDraw (opD P r σ (.nilCheck x)) K tg := rfl
theorem sd_unOp (op : UnOp) (t : TypeId) (x : Operand) : stepD P r σ (.unOp op t x) K tg = onDraw (opD P r σ (.unOp op t x)) K tg := rfl
theorem sd_convert (s d : TypeId) (x : Operand) : stepD P r σ (.convert s d x) K tg = onDraw (opD P r σ (.convert s d x)) K tg := rfl
theorem sd_makeFunc (f : Fn) (a c : Array Operand) : stepD P r σ (.makeFunc f a c) K tg = onDraw (opD P r σ (.makeFunc f a c)) K tg := rfl
theorem sd_makeSlice (t : TypeId) (l c : Operand) : stepD P r σ (.makeSlice t l c) K tg = onDraw (opD P r σ (.makeSlice t l c)) K tg := rfl
theorem sd_slice (t : TypeId) (x : Operand) (l h m : Option Operand) : stepD P r σ (.slice t x l h m) K tg = onDraw (opD P r σ (.slice t x l h m)) K tg := rfl
theorem sd_fieldAddr (t : TypeId) (x : Operand) (f : Nat) : stepD P r σ (.fieldAddr t x f) K tg = onDraw (opD P r σ (.fieldAddr t x f)) K tg := rfl
theorem sd_field (t : TypeId) (x : Operand) (f : Nat) : stepD P r σ (.field t x f) K tg = onDraw (opD P r σ (.field t x f)) K tg := rfl
theorem sd_indexAddr (t : TypeId) (x i : Operand) : stepD P r σ (.indexAddr t x i) K tg = onDraw (opD P r σ (.indexAddr t x i)) K tg := rfl
theorem sd_index (t : TypeId) (x i : Operand) : stepD P r σ (.index t x i) K tg = onDraw (opD P r σ (.index t x i)) K tg := rfl
theorem sd_extract (x : Operand) (i : Nat) : stepD P r σ (.extract x i) K tg = onDraw (opD P r σ (.extract x i)) K tg := rfl
theorem sd_builtin (b : Builtin) (as : Array Operand) (ts : Array TypeId) : stepD P r σ (.call ⟨.builtin b, as, ts⟩) K tg = onDraw (opD P r σ (.call ⟨.builtin b, as, ts⟩)) K tg := rfl
theorem sd_bin_tmp (b : BinOp) (t : TypeId) (x : Operand) (n : Nat) (u : TypeId) : stepD P r σ (.binOp b t x (.tmp n) u) K tg = onDraw (opD P r σ (.binOp b t x (.tmp n) u)) K tg := rfl
theorem sd_bin_int (b : BinOp) (t : TypeId) (x : Operand) (k : IntKind) (n : Int) (u : TypeId) : stepD P r σ (.binOp b t x (.const (.int k n)) u) K tg = onDraw (opD P r σ (.binOp b t x (.const (.int k n)) u)) K tg := rfl
theorem sd_bin_bool (b : BinOp) (t : TypeId) (x : Operand) (n : Bool) (u : TypeId) : stepD P r σ (.binOp b t x (.const (.bool n)) u) K tg = onDraw (opD P r σ (.binOp b t x (.const (.bool n)) u)) K tg := rfl
theorem sd_bin_str (b : BinOp) (t : TypeId) (x : Operand) (n : ByteArray) (u : TypeId) : stepD P r σ (.binOp b t x (.const (.string n)) u) K tg = onDraw (opD P r σ (.binOp b t x (.const (.string n)) u)) K tg := rfl
theorem sd_call (f : Operand) (as : Array Operand) (ts : Array TypeId) : stepD P r σ (.call ⟨.value f, as, ts⟩) K tg = onOpt (callE r f as.toList) (fun x => callD P x.1 x.2 σ K tg) ⟨⟩ := rfl

theorem od_move (x : Operand) : opD P r σ (.move x) = (opE P r σ (.move x)).map fun x => (x.1, x.2, [], []) := rfl
theorem od_assign (x : Operand) : opD P r σ (.assign x) = (opE P r σ (.assign x)).map fun x => (x.1, x.2, [], []) := rfl
theorem od_pick (c : Operand) (a : Operand) (b : Operand) : opD P r σ (.pick c a b) = (opE P r σ (.pick c a b)).map fun x => (x.1, x.2, [], []) := rfl
theorem od_alloc (e : TypeId) : opD P r σ (.alloc e) = (opE P r σ (.alloc e)).map fun x => newD σ x [] := rfl
theorem od_box (t : TypeId) (x : Operand) : opD P r σ (.box t x) = (opE P r σ (.box t x)).map fun x => newD σ x [] := rfl
theorem od_build (t : TypeId) (ps : Array (Nat × Operand)) : opD P r σ (.build t ps) = (opE P r σ (.build t ps)).map fun x => (x.1, x.2, [], []) := rfl
theorem od_buildSlice (t : TypeId) (n : Nat) (ps : Array (Nat × Operand)) : opD P r σ (.buildSlice t n ps) = (opE P r σ (.buildSlice t n ps)).map fun x => newD σ x [] := rfl
theorem od_load (t : TypeId) (a : Operand) : opD P r σ (.load t a) = (opE P r σ (.load t a)).map fun x => (x.1, x.2, idsOf (ev r a), []) := rfl
theorem od_store (t : TypeId) (a : Operand) (x : Operand) : opD P r σ (.store t a x) = (opE P r σ (.store t a x)).map fun y => (y.1, y.2, idsOf (ev r a), idsOf (ev r a)) := rfl
theorem od_nilCheck (x : Operand) : opD P r σ (.nilCheck x) = (opE P r σ (.nilCheck x)).map fun x => (x.1, x.2, [], []) := rfl
theorem od_unOp (op : UnOp) (t : TypeId) (x : Operand) : opD P r σ (.unOp op t x) = (opE P r σ (.unOp op t x)).map fun x => (x.1, x.2, [], []) := rfl
theorem od_convert (src : TypeId) (dst : TypeId) (x : Operand) : opD P r σ (.convert src dst x) = (opE P r σ (.convert src dst x)).map fun x => (x.1, x.2, [], []) := rfl
theorem od_makeFunc (f : FuncId) (first caps : Array Operand) : opD P r σ (.makeFunc (.func f) first caps) = (opE P r σ (.makeFunc (.func f) first caps)).map fun x => (x.1, x.2, [], []) := rfl
theorem od_makeSlice (t : TypeId) (l : Operand) (c : Operand) : opD P r σ (.makeSlice t l c) = (opE P r σ (.makeSlice t l c)).map fun x => newD σ x [] := rfl
theorem od_slice (t : TypeId) (x : Operand) (lo : Option Operand) (hi : Option Operand) (mx : Option Operand) : opD P r σ (.slice t x lo hi mx) = (opE P r σ (.slice t x lo hi mx)).map fun y => (y.1, y.2, idsOf (ev r x), []) := rfl
theorem od_fieldAddr (t : TypeId) (x : Operand) (f : Nat) : opD P r σ (.fieldAddr t x f) = (opE P r σ (.fieldAddr t x f)).map fun x => (x.1, x.2, [], []) := rfl
theorem od_field (t : TypeId) (x : Operand) (f : Nat) : opD P r σ (.field t x f) = (opE P r σ (.field t x f)).map fun x => (x.1, x.2, [], []) := rfl
theorem od_indexAddr (t : TypeId) (x : Operand) (i : Operand) : opD P r σ (.indexAddr t x i) = (opE P r σ (.indexAddr t x i)).map fun x => (x.1, x.2, [], []) := rfl
theorem od_index (t : TypeId) (x : Operand) (i : Operand) : opD P r σ (.index t x i) = (opE P r σ (.index t x i)).map fun x => (x.1, x.2, [], []) := rfl
theorem od_extract (x : Operand) (i : Nat) : opD P r σ (.extract x i) = (opE P r σ (.extract x i)).map fun x => (x.1, x.2, [], []) := rfl
theorem od_bin (op : BinOp) (xT : TypeId) (x y : Operand) (u : TypeId) : opD P r σ (.binOp op xT x y u) = (opE P r σ (.binOp op xT x y u)).map fun x => (x.1, x.2, [], []) := rfl
theorem od_len (args : Array Operand) (ts : Array TypeId) : opD P r σ (.call { callee := .builtin .len, args := args, argTypes := ts }) = (opE P r σ (.call { callee := .builtin .len, args := args, argTypes := ts })).map fun x => (x.1, x.2, [], []) := rfl
theorem od_min (args : Array Operand) (ts : Array TypeId) : opD P r σ (.call { callee := .builtin .min, args := args, argTypes := ts }) = (opE P r σ (.call { callee := .builtin .min, args := args, argTypes := ts })).map fun x => (x.1, x.2, [], []) := rfl
theorem od_max (args : Array Operand) (ts : Array TypeId) : opD P r σ (.call { callee := .builtin .max, args := args, argTypes := ts }) = (opE P r σ (.call { callee := .builtin .max, args := args, argTypes := ts })).map fun x => (x.1, x.2, [], []) := rfl
theorem od_cap (args : Array Operand) (ts : Array TypeId) : opD P r σ (.call { callee := .builtin .cap, args := args, argTypes := ts }) = match args.toList with
    | [s] => (opE P r σ (.call { callee := .builtin .cap, args := args, argTypes := ts })).map fun x => (x.1, x.2, idsOf (ev r s), [])
    | _ => none := rfl
theorem od_append (args : Array Operand) (ts : Array TypeId) : opD P r σ (.call { callee := .builtin .append, args := args, argTypes := ts }) = match args.toList with
    | [s, v] => (opE P r σ (.call { callee := .builtin .append, args := args, argTypes := ts })).map fun x =>
      if x.2.length = σ.length then (x.1, x.2, idsOf (ev r s) ++ idsOf (ev r v), idsOf (ev r s)) else (x.1, x.2, 0 :: (idsOf (ev r s) ++ idsOf (ev r v)), [0, σ.length + 1])
    | _ => none := rfl
end
end Go.Abs
