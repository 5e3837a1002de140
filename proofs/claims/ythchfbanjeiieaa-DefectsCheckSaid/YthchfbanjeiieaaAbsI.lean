/-
  A general library: one equation an operation, for simp.
-/
import Derived.Test.YthchfbanjeiieaaAbsH
set_option linter.unusedSimpArgs false
set_option linter.unusedVariables false
namespace Go.Abs
section
variable (P : Program) (r : Regs) (σ : Heap) (K : Option AV → Heap → Prop) (tg : Tag K)

theorem st_move (x : Operand) : stepC P r σ (.move x) K tg = onSome (opE P r σ (.move x)) K tg := rfl
theorem st_assign (x : Operand) : stepC P r σ (.assign x) K tg = onSome (opE P r σ (.assign x)) K tg := rfl
theorem st_pick (c a b : Operand) : stepC P r σ (.pick c a b) K tg = onSome (opE P r σ (.pick c a b)) K tg := rfl
theorem st_alloc (e : TypeId) : stepC P r σ (.alloc e) K tg = onSome (opE P r σ (.alloc e)) K tg := rfl
theorem st_box (e : TypeId) (x : Operand) : stepC P r σ (.box e x) K tg = onSome (opE P r σ (.box e x)) K tg := rfl
theorem st_build (t : TypeId) (ps : Array (Nat × Operand)) : stepC P r σ (.build t ps) K tg = onSome (opE P r σ (.build t ps)) K tg := rfl
theorem st_buildSlice (t : TypeId) (n : Nat) (ps : Array (Nat × Operand)) : stepC P r σ (.buildSlice t n ps) K tg = onSome (opE P r σ (.buildSlice t n ps)) K tg := rfl
theorem st_load (t : TypeId) (a : Operand) : stepC P r σ (.load t a) K tg = onSome (opE P r σ (.load t a)) K tg := rfl
theorem st_store (t : TypeId) (a x : Operand) : stepC P r σ (.store t a x) K tg = onSome (opE P r σ (.store t a x)) K tg := rfl
theorem st_nilCheck (x : Operand) : stepC P r σ (.nilCheck x) K tg = onSome (opE P r σ (.nilCheck x)) K tg := rfl
theorem st_unOp (op : UnOp) (t : TypeId) (x : Operand) : stepC P r σ (.unOp op t x) K tg = onSome (opE P r σ (.unOp op t x)) K tg := rfl
theorem st_convert (s d : TypeId) (x : Operand) : stepC P r σ (.convert s d x) K tg = onSome (opE P r σ (.convert s d x)) K tg := rfl
theorem st_makeFunc (f : Fn) (a c : Array Operand) : stepC P r σ (.makeFunc f a c) K tg = onSome (opE P r σ (.makeFunc f a c)) K tg := rfl
theorem st_makeSlice (t : TypeId) (l c : Operand) : stepC P r σ (.makeSlice t l c) K tg = onSome (opE P r σ (.makeSlice t l c)) K tg := rfl
theorem st_slice (t : TypeId) (x : Operand) (l h m : Option Operand) : stepC P r σ (.slice t x l h m) K tg = onSome (opE P r σ (.slice t x l h m)) K tg := rfl
theorem st_fieldAddr (t : TypeId) (x : Operand) (f : Nat) : stepC P r σ (.fieldAddr t x f) K tg = onSome (opE P r σ (.fieldAddr t x f)) K tg := rfl
theorem st_field (t : TypeId) (x : Operand) (f : Nat) : stepC P r σ (.field t x f) K tg = onSome (opE P r σ (.field t x f)) K tg := rfl
theorem st_indexAddr (t : TypeId) (x i : Operand) : stepC P r σ (.indexAddr t x i) K tg = onSome (opE P r σ (.indexAddr t x i)) K tg := rfl
theorem st_index (t : TypeId) (x i : Operand) : stepC P r σ (.index t x i) K tg = onSome (opE P r σ (.index t x i)) K tg := rfl
theorem st_extract (x : Operand) (i : Nat) : stepC P r σ (.extract x i) K tg = onSome (opE P r σ (.extract x i)) K tg := rfl
theorem st_builtin (b : Builtin) (as : Array Operand) (ts : Array TypeId) : stepC P r σ (.call ⟨.builtin b, as, ts⟩) K tg = onSome (opE P r σ (.call ⟨.builtin b, as, ts⟩)) K tg := rfl
theorem st_call (f : Operand) (as : Array Operand) (ts : Array TypeId) : stepC P r σ (.call ⟨.value f, as, ts⟩) K tg = onOpt (callE r f as.toList) (fun x => callK P x.1 x.2 σ K tg) ⟨⟩ := rfl
theorem st_bin (b : BinOp) (t : TypeId) (x y : Operand) (u : TypeId) (h : isNilConst y = false) : stepC P r σ (.binOp b t x y u) K tg = onSome (opE P r σ (.binOp b t x y u)) K tg := by simp only [stepC, h]; rfl
theorem st_bin_tmp (b : BinOp) (t : TypeId) (x : Operand) (n : Nat) (u : TypeId) : stepC P r σ (.binOp b t x (.tmp n) u) K tg = onSome (opE P r σ (.binOp b t x (.tmp n) u)) K tg := rfl
theorem st_bin_int (b : BinOp) (t : TypeId) (x : Operand) (k : IntKind) (n : Int) (u : TypeId) : stepC P r σ (.binOp b t x (.const (.int k n)) u) K tg = onSome (opE P r σ (.binOp b t x (.const (.int k n)) u)) K tg := rfl
theorem st_bin_bool (b : BinOp) (t : TypeId) (x : Operand) (n : Bool) (u : TypeId) : stepC P r σ (.binOp b t x (.const (.bool n)) u) K tg = onSome (opE P r σ (.binOp b t x (.const (.bool n)) u)) K tg := rfl
theorem st_bin_str (b : BinOp) (t : TypeId) (x : Operand) (n : ByteArray) (u : TypeId) : stepC P r σ (.binOp b t x (.const (.string n)) u) K tg = onSome (opE P r σ (.binOp b t x (.const (.string n)) u)) K tg := rfl
theorem st_nil (b : BinOp) (t : TypeId) (x : Operand) (u : TypeId) {i : TInf} {e : TypeId} (h : tinf P t = some i) (hk : i.kind = .slice e) : stepC P r σ (.binOp b t x (.const (.slice none 0 0)) u) K tg = onOpt (nilTest P r (.binOp b t x (.const (.slice none 0 0)) u)) (nilK σ K tg) ⟨⟩ := by simp only [stepC, isNilConst, h, if_true, hk]

theorem op_move (x : Operand) : opE P r σ (.move x) = (ev r x).map fun v => (some v, σ) := rfl
theorem op_assign (x : Operand) : opE P r σ (.assign x) = (ev r x).map fun v => (some v, σ) := rfl
theorem op_pick (c : Operand) (a : Operand) (b : Operand) : opE P r σ (.pick c a b) = match ev r c with
    | some (.c (.t (.bool t))) => (ev r (if t then a else b)).map fun v => (some v, σ)
    | _ => none := rfl
theorem op_alloc (e : TypeId) : opE P r σ (.alloc e) = match tinf P e with
    | some i => match i.zero with
      | some z => some (some (newE σ (z.map .t)).1, (newE σ (z.map .t)).2)
      | none => none
    | none => none := rfl
theorem op_box (t : TypeId) (x : Operand) : opE P r σ (.box t x) = match ev r x with
    | some v => if v.flat then some (some (newE σ v.cells).1, (newE σ v.cells).2) else none
    | none => none := rfl
theorem op_build (t : TypeId) (ps : Array (Nat × Operand)) : opE P r σ (.build t ps) = match evs r ps.toList with
    | some vs => (buildE P t vs).map fun v => (some v, σ)
    | none => none := rfl
theorem op_buildSlice (t : TypeId) (n : Nat) (ps : Array (Nat × Operand)) : opE P r σ (.buildSlice t n ps) = match evs r ps.toList with
    | some vs => (buildSliceE P σ t n vs).map fun x => (some x.1, x.2)
    | none => none := rfl
theorem op_load (t : TypeId) (a : Operand) : opE P r σ (.load t a) = match tinf P t, ev r a with
    | some i, some v => (loadE σ i v).map fun x => (some x, σ)
    | _, _ => none := rfl
theorem op_store (t : TypeId) (a : Operand) (x : Operand) : opE P r σ (.store t a x) = match tinf P t, ev r a, ev r x with
    | some i, some v, some u => (storeE σ i v u).map fun σ' => (none, σ')
    | _, _, _ => none := rfl
theorem op_nilCheck (x : Operand) : opE P r σ (.nilCheck x) = match ev r x with
    | some (.c (.ptr p)) => some (some (.c (.ptr p)), σ)
    | some (.c (.t (.iptr cs))) => some (some (.c (.t (.iptr cs))), σ)
    | some (.c (.t (.fn f cs))) => some (some (.c (.t (.fn f cs))), σ)
    | some (.c (.clo f cs)) => some (some (.c (.clo f cs)), σ)
    | _ => none := rfl
theorem op_unOp (op : UnOp) (t : TypeId) (x : Operand) : opE P r σ (.unOp op t x) = match ev r x with
    | some v => (unE op v).map fun t => (some (.c (.t t)), σ)
    | none => none := rfl
theorem op_convert (src : TypeId) (dst : TypeId) (x : Operand) : opE P r σ (.convert src dst x) = match ev r x with
    | some v => (convE P src dst v).map fun t => (some (.c (.t t)), σ)
    | none => none := rfl
theorem op_makeFunc (f : FuncId) (first caps : Array Operand) : opE P r σ (.makeFunc (.func f) first caps) = if first.size = 0 then (match evl r caps.toList with
    | some vs => (makeFuncE f vs).map fun v => (some v, σ)
    | none => none) else none := rfl
theorem op_makeSlice (t : TypeId) (l : Operand) (c : Operand) : opE P r σ (.makeSlice t l c) = match ev r l, ev r c with
    | some u, some v => (makeSliceE P σ t u v).map fun x => (some x.1, x.2)
    | _, _ => none := rfl
theorem op_slice (t : TypeId) (x : Operand) (lo : Option Operand) (hi : Option Operand) (mx : Option Operand) : opE P r σ (.slice t x lo hi mx) = match ev r x, evo r lo, evo r hi, evo r mx with
    | some v, some l, some h, some m => (sliceE P σ t v l h m).map fun u => (some u, σ)
    | _, _, _, _ => none := rfl
theorem op_fieldAddr (t : TypeId) (x : Operand) (f : Nat) : opE P r σ (.fieldAddr t x f) = match ev r x with
    | some v => (fieldAddrE P t v f).map fun u => (some u, σ)
    | none => none := rfl
theorem op_field (t : TypeId) (x : Operand) (f : Nat) : opE P r σ (.field t x f) = match ev r x with
    | some v => (fieldE P t v f).map fun u => (some u, σ)
    | none => none := rfl
theorem op_indexAddr (t : TypeId) (x : Operand) (i : Operand) : opE P r σ (.indexAddr t x i) = match ev r x, ev r i with
    | some v, some n => (indexAddrE P t v n).map fun u => (some u, σ)
    | _, _ => none := rfl
theorem op_index (t : TypeId) (x : Operand) (i : Operand) : opE P r σ (.index t x i) = match ev r x, ev r i with
    | some v, some n => (indexE P t v n).map fun u => (some u, σ)
    | _, _ => none := rfl
theorem op_extract (x : Operand) (i : Nat) : opE P r σ (.extract x i) = match ev r x with
    | some v => (extractE v i).map fun u => (some u, σ)
    | none => none := rfl
theorem op_builtin (b : Builtin) (args : Array Operand) (argTypes : Array TypeId) : opE P r σ (.call { callee := .builtin b, args, argTypes }) = match evl r args.toList with
    | some vs => (builtinE P σ b argTypes vs).map fun x => (some x.1, x.2)
    | none => none := rfl
theorem op_bin (op : BinOp) (xT : TypeId) (x y : Operand) (u : TypeId) : opE P r σ (.binOp op xT x y u) = match ev r x, ev r y with
    | some u, some v => (binE P op xT u v).map fun t => (some (.c (.t t)), σ)
    | _, _ => none := rfl
theorem inc_tmp (n : Nat) : isNilConst (.tmp n) = false := rfl
theorem inc_int (k : IntKind) (n : Int) : isNilConst (.const (.int k n)) = false := rfl
theorem inc_bool (b : Bool) : isNilConst (.const (.bool b)) = false := rfl
theorem inc_str (b : ByteArray) : isNilConst (.const (.string b)) = false := rfl
theorem int_beq (a b : Int) : (a == b) = decide (a = b) := by by_cases h : a = b <;> simp [h]
theorem int_bne (a b : Int) : (a != b) = !decide (a = b) := by by_cases h : a = b <;> simp [h]
theorem beq_tt (b : Bool) : (b == true) = b := by cases b <;> rfl
theorem beq_ff (b : Bool) : (b == false) = !b := by cases b <;> rfl
end
end Go.Abs
