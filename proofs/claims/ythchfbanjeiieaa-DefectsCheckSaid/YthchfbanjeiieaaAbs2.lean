/-
  A general library: what the operations do on abstract values and the abstract heap. Definitions only.
-/
import Derived.Test.YthchfbanjeiieaaAbs1
set_option linter.unusedSimpArgs false
set_option linter.unusedVariables false
namespace Go.Abs

/-! ### types -/
inductive K where
  | bool | int (k : IntKind) | string | ptr (e : TypeId) | slice (e : TypeId) | array (n : Nat) (e : TypeId)
  | struct (fs : List (Nat × TypeId)) | func | other
  deriving Inhabited

structure TInf where
  kind : K
  size : Nat
  bytes : Nat
  zero : Option (List T)
  deriving Inhabited

def kindOf : TypeDesc → K
  | .bool => .bool
  | .int k => .int k
  | .string => .string
  | .pointer e => .ptr e
  | .slice e => .slice e
  | .array n e => .array n e
  | .struct fs => .struct (fs.toList.map fun f => (f.offset, f.type))
  | .func .. => .func
  | _ => .other

def tOf : Value → Option T
  | .bool b => some (.bool b)
  | .int k n => some (.int k n)
  | .string s => some (.str s.data.toList)
  | .pointer none => some .nilp
  | .slice none 0 0 => some (.imm [] 0 (some 0))
  | .nilFunc => some .nilf
  | _ => none

def tOfCell (v : Value) : Option T := match tOf v with
  | some t => some t
  | none => if v.oneCell' then some .junk else none

def tsOf : List Value → Option (List T)
  | [] => some []
  | v :: vs => match tOfCell v, tsOf vs with
    | some t, some ts => some (t :: ts)
    | _, _ => none

def tinf (P : Program) (t : TypeId) : Option TInf :=
  match P.underlying t, P.info? t with
  | some d, some i => some { kind := kindOf d, size := i.size, bytes := i.bytes, zero := i.zero.bind fun v => tsOf v.cells.toList }
  | _, _ => none

def TInf.isAgg (i : TInf) : Bool := match i.kind with | .struct _ | .array .. => true | _ => false

/-! ### registers -/
abbrev Regs := List (Nat × AV)

def Regs.get : Regs → Nat → Option AV
  | [], _ => none
  | (k, v) :: r, t => if k = t then some v else Regs.get r t

def Regs.set : Regs → Nat → AV → Regs
  | [], t, v => [(t, v)]
  | (k, u) :: r, t, v => if k = t then (k, v) :: r else (k, u) :: Regs.set r t v

def Regs.del : Regs → Nat → Regs
  | [], _ => []
  | (k, u) :: r, t => if k = t then Regs.del r t else (k, u) :: Regs.del r t

def Regs.put (r : Regs) : Option Nat → AV → Regs
  | some d, v => r.set d v
  | none, _ => r
def Regs.drop (r : Regs) : Option Nat → Regs
  | some d => r.set d (.tup [])
  | none => r

def constAV (v : Value) : Option AV := match v with
  | .agg cs => (tsOf cs.toList).map fun ts => .agg (ts.map .t)
  | v => (tOf v).map fun t => .c (.t t)

def ev (r : Regs) : Operand → Option AV
  | .tmp t => r.get t
  | .const v => constAV v
  | .func f => some (.c (.t (.fn f [])))
  | .global _ => none

/-! ### short names -/
@[reducible] def aI (k : IntKind) (n : Int) : AV := .c (.t (.int k n))
@[reducible] def aB (b : Bool) : AV := .c (.t (.bool b))

def AV.cells : AV → List Cell
  | .c x => [x]
  | .agg xs => xs
  | .tup _ => []

def AV.flat : AV → Bool
  | .tup _ => false
  | _ => true

/-! ### reading the heap -/
def Heap.at? (σ : Heap) (r : Ref) : Option Obj := match σ[r.id]? with
  | some o => if o.ep = r.ep then some o else none
  | none => none

def loadC (i : TInf) (cs : List Cell) : Option AV :=
  if i.isAgg then (if i.size ≤ cs.length then some (.agg (cs.take i.size)) else none)
  else match cs with | c :: _ => some (.c c) | [] => none

def loadE (σ : Heap) (i : TInf) : AV → Option AV
  | .c (.ptr r) => match σ.at? r with
    | some o => loadC i (o.cs.drop r.off)
    | none => none
  | .c (.t (.iptr cs)) => loadC i (cs.map .t)
  | _ => none

def splice (cs : List Cell) (off : Nat) (xs : List Cell) : List Cell := cs.take off ++ xs ++ cs.drop (off + xs.length)

def storeE (σ : Heap) (i : TInf) (a v : AV) : Option Heap := match a with
  | .c (.ptr r) => match σ.at? r with
    | some o => if v.flat ∧ v.cells.length = i.size ∧ r.off + i.size ≤ o.cs.length then some (σ.set r.id { o with cs := splice o.cs r.off v.cells }) else none
    | none => none
  | _ => none

def newE (σ : Heap) (cs : List Cell) : AV × Heap := (.c (.ptr ⟨σ.length, 0, 0⟩), σ ++ [{ cs := cs }])

/-! ### building -/
def fillE (place : Nat → Option (Nat × Nat)) : List (Nat × AV) → List Cell → Option (List Cell)
  | [], cs => some cs
  | (i, v) :: rest, cs => match place i with
    | some (off, size) => if v.flat ∧ v.cells.length = size ∧ off + size ≤ cs.length then fillE place rest (splice cs off v.cells) else none
    | none => none

def evs (r : Regs) : List (Nat × Operand) → Option (List (Nat × AV))
  | [] => some []
  | (i, x) :: rest => match ev r x, evs r rest with
    | some v, some vs => some ((i, v) :: vs)
    | _, _ => none

def evl (r : Regs) : List Operand → Option (List AV)
  | [] => some []
  | x :: rest => match ev r x, evl r rest with
    | some v, some vs => some (v :: vs)
    | _, _ => none

def placesE (P : Program) : List (Nat × TypeId) → Option (List (Nat × Nat))
  | [] => some []
  | (off, t) :: rest => match tinf P t, placesE P rest with
    | some i, some ps => some ((off, i.size) :: ps)
    | _, _ => none

def buildE (P : Program) (t : TypeId) (ps : List (Nat × AV)) : Option AV := match tinf P t with
  | some i => match i.zero, i.kind with
    | some z, .struct fs => match placesE P fs with
      | some places => (fillE (fun n => places[n]?) ps (z.map .t)).map .agg
      | none => none
    | some z, .array _ e => match tinf P e with
      | some j => (fillE (fun n => some (n * j.size, j.size)) ps (z.map .t)).map .agg
      | none => none
    | _, _ => none
  | none => none

def repl : Nat → List T → List T
  | 0, _ => []
  | n + 1, z => z ++ repl n z

def allT : List Cell → Option (List T)
  | [] => some []
  | .t x :: r => (allT r).map (x :: ·)
  | _ :: _ => none

def buildSliceE (P : Program) (σ : Heap) (t : TypeId) (n : Nat) (ps : List (Nat × AV)) : Option (AV × Heap) := match tinf P t with
  | some i => match i.kind with
    | .slice e => match tinf P e with
      | some j => match j.zero with
        | some z => if j.size = z.length ∧ 0 < j.size ∧ n * j.size ≤ 1000 then
            match fillE (fun m => some (m * j.size, j.size)) ps ((repl n z).map .t) with
            | some cs => match allT cs with
              | some ts => some (.c (.t (.imm ts n (some n))), σ)
              | none => some (.c (.sl ⟨σ.length, 0, 0⟩ n (some n)), σ ++ [{ cs := cs, es := j.size }])
            | none => none
          else none
        | none => none
      | none => none
    | _ => none
  | none => none

/-! ### arithmetic -/
def intE (op : BinOp) (k : IntKind) (x y : Int) : Option T := match op with
  | .add => some (.int k (k.wrap (x + y)))
  | .sub => some (.int k (k.wrap (x - y)))
  | .mul => some (.int k (k.wrap (x * y)))
  | .quo => if y = 0 then none else some (.int k (k.wrap (x.tdiv y)))
  | .rem => if y = 0 then none else some (.int k (x.tmod y))
  | .and => some (.int k (k.wrap (BitVec.ofInt k.bits x &&& BitVec.ofInt k.bits y).toNat))
  | .or => some (.int k (k.wrap (BitVec.ofInt k.bits x ||| BitVec.ofInt k.bits y).toNat))
  | .xor => some (.int k (k.wrap (BitVec.ofInt k.bits x ^^^ BitVec.ofInt k.bits y).toNat))
  | .andNot => some (.int k (k.wrap (BitVec.ofInt k.bits x &&& ~~~BitVec.ofInt k.bits y).toNat))
  | .eql => some (.bool (x == y))
  | .neq => some (.bool (x != y))
  | .lss => some (.bool (decide (x < y)))
  | .leq => some (.bool (decide (x ≤ y)))
  | .gtr => some (.bool (decide (x > y)))
  | .geq => some (.bool (decide (x ≥ y)))
  | _ => none

def shiftE (op : BinOp) (k : IntKind) (x : Int) (y : Int) : Option T :=
  if y < 0 then none else match op with
  | .shl => some (.int k (k.wrap (x * 2 ^ (min y.toNat k.bits))))
  | .shr => some (.int k (x.fdiv (2 ^ (min y.toNat k.bits))))
  | _ => none

def strE (op : BinOp) (x y : List UInt8) : Option T := match op with
  | .add => if x.length + y.length ≤ 9223372036854775807 then some (.str (x ++ y)) else none
  | .eql => some (.bool (x == y))
  | .neq => some (.bool !(x == y))
  | _ => none

def boolE (op : BinOp) (x y : Bool) : Option T := match op with
  | .eql => some (.bool (x == y))
  | .neq => some (.bool !(x == y))
  | _ => none

def isShift : BinOp → Bool
  | .shl | .shr => true
  | _ => false

/-- operators on values that the heap does not matter to -/
def binE (P : Program) (op : BinOp) (xT : TypeId) (x y : AV) : Option T := match x, y with
  | .c (.t (.int k a)), .c (.t (.int k' b)) => if isShift op then shiftE op k a b else if k = k' then intE op k a b else none
  | .c (.t (.str a)), .c (.t (.str b)) => strE op a b
  | .c (.t (.bool a)), .c (.t (.bool b)) => match tinf P xT with
    | some i => match i.kind with | .bool => boolE op a b | _ => none
    | none => none
  | .c (.ptr _), .c (.t .nilp) | .c (.t (.iptr _)), .c (.t .nilp) => match tinf P xT with
    | some i => match i.kind with | .ptr _ => boolE op false true | _ => none
    | none => none
  | .c (.t .nilp), .c (.t .nilp) => match tinf P xT with
    | some i => match i.kind with | .ptr _ => boolE op true true | _ => none
    | none => none
  | _, _ => none

def unE (op : UnOp) (x : AV) : Option T := match op, x with
  | .not, .c (.t (.bool b)) => some (.bool !b)
  | .neg, .c (.t (.int k n)) => some (.int k (k.wrap (0 - n)))
  | .xor, .c (.t (.int k n)) => intE .xor k (if k.signed then -1 else k.max) n
  | _, _ => none

def convE (P : Program) (src dst : TypeId) (x : AV) : Option T := match tinf P src, tinf P dst, x with
  | some _, some j, .c (.t (.int _ n)) => match j.kind with
    | .int k => some (.int k (k.wrap n))
    | _ => none
  | some _, some j, .c (.t (.str s)) => match j.kind with
    | .string => some (.str s)
    | _ => none
  | _, _, _ => none

/-! ### places -/
def fieldAddrE (P : Program) (t : TypeId) (x : AV) (f : Nat) : Option AV := match tinf P t with
  | some i => match i.kind with
    | .struct fs => match fs[f]? with
      | some (off, ft) => match tinf P ft with
        | some j => if 0 < j.size then (match x with
          | .c (.ptr r) => some (.c (.ptr { r with off := r.off + off }))
          | .c (.t (.iptr cs)) => some (.c (.t (.iptr (cs.drop off))))
          | _ => none) else none
        | none => none
      | none => none
    | _ => none
  | none => none

def partE (j : TInf) (cs : List Cell) (off : Nat) : Option AV :=
  if j.isAgg then (if off + j.size ≤ cs.length then some (.agg ((cs.drop off).take j.size)) else none)
  else match cs[off]? with | some c => some (.c c) | none => none

def fieldE (P : Program) (t : TypeId) (x : AV) (f : Nat) : Option AV := match tinf P t with
  | some i => match i.kind, x with
    | .struct fs, .agg cs => match fs[f]? with
      | some (off, ft) => match tinf P ft with
        | some j => partE j cs off
        | none => none
      | none => none
    | _, _ => none
  | none => none

def intOfAV : AV → Option Int
  | .c (.t (.int _ n)) => some n
  | _ => none

def indexAddrE (P : Program) (t : TypeId) (x i : AV) : Option AV := match tinf P t, intOfAV i with
  | some inf, some n => match inf.kind with
    | .slice e => match tinf P e with
      | some j => match x with
        | .c (.sl r len _) => if 0 ≤ n ∧ n < len then some (.c (.ptr { r with off := r.off + n.toNat * j.size })) else none
        | .c (.t (.imm cs len _)) => if 0 ≤ n ∧ n < len then some (.c (.t (.iptr (cs.drop (n.toNat * j.size))))) else none
        | _ => none
      | none => none
    | .array len e => match tinf P e with
      | some j => match x with
        | .c (.ptr r) => if 0 ≤ n ∧ n < len then some (.c (.ptr { r with off := r.off + n.toNat * j.size })) else none
        | .c (.t (.iptr cs)) => if 0 ≤ n ∧ n < len then some (.c (.t (.iptr (cs.drop (n.toNat * j.size))))) else none
        | _ => none
      | none => none
    | _ => none
  | _, _ => none

def indexE (P : Program) (t : TypeId) (x i : AV) : Option AV := match tinf P t, intOfAV i with
  | some inf, some n => match inf.kind, x with
    | .array len e, .agg cs => match tinf P e with
      | some j => if 0 ≤ n ∧ n < len then partE j cs (n.toNat * j.size) else none
      | none => none
    | .string, .c (.t (.str s)) => if 0 ≤ n then (match s[n.toNat]? with | some b => some (aI .u8 b.toNat) | none => none) else none
    | _, _ => none
  | _, _ => none

def extractE (x : AV) (i : Nat) : Option AV := match x with
  | .tup xs => match xs[i]? with
    | some (.inl c) => some (.c c)
    | some (.inr cs) => some (.agg cs)
    | none => none
  | _ => none

/-- an optional bound -/
def boundE (x : Option AV) (dflt top : Nat) : Option Nat := match x with
  | none => some dflt
  | some v => match intOfAV v with
    | some n => if 0 ≤ n ∧ n ≤ top then some n.toNat else none
    | none => none

def sliceE (P : Program) (σ : Heap) (t : TypeId) (x : AV) (lo hi mx : Option AV) : Option AV := match tinf P t with
  | some i => match i.kind, x with
    | .string, .c (.t (.str s)) => match mx, boundE hi s.length s.length with
      | none, some h => match boundE lo 0 h with
        | some l => some (.c (.t (.str ((s.drop l).take (h - l)))))
        | none => none
      | _, _ => none
    | .slice e, .c (.sl r len cap) => match tinf P e, σ.at? r with
      | some j, some o => if o.es = j.size then (match mx, hi with
        | some _, some _ => match boundE mx 0 (cap.getD len) with
          | some m => match boundE hi 0 m with
            | some h => match boundE lo 0 h with
              | some l => some (.c (.sl { r with off := if m = l then r.off else r.off + l * j.size } (h - l) (some (m - l))))
              | none => none
            | none => none
          | none => none
        | some _, none => none
        | none, _ => match boundE hi len (cap.getD len) with
          | some h => match boundE lo 0 h with
            | some l => match cap with
              | some c => some (.c (.sl { r with off := if c = l then r.off else r.off + l * j.size } (h - l) (some (c - l))))
              | none => if l < len ∨ l = 0 then some (.c (.sl { r with off := r.off + l * j.size } (h - l) none)) else none
            | none => none
          | none => none) else none
      | _, _ => none
    | .slice e, .c (.t (.imm cs len cap)) => match tinf P e with
      | some j => if cs.length = len * j.size then (match mx, hi with
        | some _, some _ => match boundE mx 0 len with
          | some m => match boundE hi 0 m with
            | some h => match boundE lo 0 h with
              | some l => some (.c (.t (.imm ((cs.drop (l * j.size)).take ((h - l) * j.size)) (h - l) (some (m - l)))))
              | none => none
            | none => none
          | none => none
        | some _, none => none
        | none, _ => match boundE hi len len with
          | some h => match boundE lo 0 h with
            | some l => some (.c (.t (.imm ((cs.drop (l * j.size)).take ((h - l) * j.size)) (h - l) (cap.map (· - l)))))
            | none => none
          | none => none) else none
      | none => none
    | _, _ => none
  | none => none

/-! ### built-in functions -/
def lenE (x : AV) : Option Nat := match x with
  | .c (.sl _ n _) => some n
  | .c (.t (.imm _ n _)) => some n
  | .c (.t (.str s)) => some s.length
  | _ => none

def makeSliceE (P : Program) (σ : Heap) (t : TypeId) (l c : AV) : Option (AV × Heap) := match tinf P t, intOfAV l, intOfAV c with
  | some i, some n, some m => match i.kind with
    | .slice e => match tinf P e with
      | some j => match j.zero with
        | some z => if j.size = z.length ∧ 0 < j.size ∧ 0 ≤ n ∧ n ≤ m ∧ m * j.bytes ≤ 281474976710656 ∧ m ≤ 9223372036854775807 then
            some (.c (.sl ⟨σ.length, 0, 0⟩ n.toNat (some m.toNat)), σ ++ [{ cs := (repl m.toNat z).map .t, es := j.size }])
          else none
        | none => none
      | none => none
    | _ => none
  | _, _, _ => none

/-- the cells of the first n elements of a slice (or the bytes of a string) -/
def firstE (σ : Heap) (es n : Nat) (x : AV) : Option (List Cell) := match x with
  | .c (.sl r len _) => match σ.at? r with
    | some o => if r.off + n * es ≤ o.cs.length ∧ n ≤ len then some ((o.cs.drop r.off).take (n * es)) else none
    | none => none
  | .c (.t (.imm cs len _)) => if n ≤ len ∧ cs.length = len * es then some ((cs.take (n * es)).map .t) else none
  | .c (.t (.str s)) => if n ≤ s.length ∧ es = 1 then some ((s.take n).map fun b => .t (.int .u8 b.toNat)) else none
  | _ => none

/-- a new slice of so many elements is surely not too large -/
def roomOk (n bytes : Nat) : Prop := n * bytes ≤ 17592186044416 ∧ n ≤ 17592186044416 ∧ bytes ≤ 1073741824
instance (n bytes : Nat) : Decidable (roomOk n bytes) := inferInstanceAs (Decidable (_ ∧ _ ∧ _))

/-- append: within the capacity; a slice of unknown capacity that is a whole object (it grows, or its block has room: a new epoch); or surely a new object -/
def appendE (P : Program) (σ : Heap) (t : TypeId) (s x : AV) : Option (AV × Heap) := match tinf P t with
  | some i => match i.kind with
    | .slice e => match tinf P e with
      | some j => match j.zero, lenE x with
        | some z, some m => if j.size = z.length ∧ 0 < j.size then
          match firstE σ j.size m x with
          | some new => match s with
            | .c (.t (.imm cs len (some c))) =>
              if c = len ∧ cs.length = len * j.size ∧ roomOk (len + m) j.bytes then
                (if m = 0 then some (s, σ) else some (.c (.sl ⟨σ.length, 0, 0⟩ (len + m) none), σ ++ [{ cs := cs.map .t ++ new, es := j.size }]))
              else none
            | .c (.sl r len none) => match σ.at? r with
              | some o => if r.off = 0 ∧ o.es = j.size ∧ o.cs.length = len * j.size ∧ roomOk (len + m) j.bytes then
                  some (.c (.sl { r with ep := r.ep + 1 } (len + m) none), σ.set r.id { o with cs := o.cs ++ new, ep := o.ep + 1 })
                else none
              | none => none
            | .c (.sl r len (some c)) => match σ.at? r with
              | some o => if o.es = j.size ∧ len + m ≤ c ∧ r.off + c * j.size ≤ o.cs.length then
                  some (.c (.sl r (len + m) (some c)), σ.set r.id { o with cs := splice o.cs (r.off + len * j.size) new })
                else if o.es = j.size ∧ c < len + m ∧ len ≤ c ∧ r.off + c * j.size ≤ o.cs.length ∧ roomOk (len + m) j.bytes then
                  some (.c (.sl ⟨σ.length, 0, 0⟩ (len + m) none), σ ++ [{ cs := (o.cs.drop r.off).take (len * j.size) ++ new, es := j.size }])
                else none
              | none => none
            | _ => none
          | none => none
          else none
        | _, _ => none
      | none => none
    | _ => none
  | none => none

def copyE (P : Program) (σ : Heap) (t : TypeId) (d s : AV) : Option (AV × Heap) := match tinf P t with
  | some i => match i.kind with
    | .slice e => match tinf P e with
      | some j => match d, lenE s with
        | .c (.sl r len _), some m => match σ.at? r, firstE σ j.size (min m len) s with
          | some o, some new => if o.es = j.size ∧ r.off + len * j.size ≤ o.cs.length then
              some (aI .i64 ((min m len : Nat) : Int), σ.set r.id { o with cs := splice o.cs r.off new })
            else none
          | _, _ => none
        | .c (.t (.imm _ 0 _)), some _ => some (aI .i64 0, σ)
        | _, _ => none
      | none => none
    | _ => none
  | none => none

def minmaxE (mx : Bool) : List AV → Option AV
  | [.c (.t (.int k x)), .c (.t (.int k' y))] => if k = k' then some (aI k (if mx then (if y > x then y else x) else (if y < x then y else x))) else none
  | _ => none

def builtinE (P : Program) (σ : Heap) (b : Builtin) (argTs : Array TypeId) (args : List AV) : Option (AV × Heap) := match b, args with
  | .len, [x] => match argTs[0]? with
    | some t => match tinf P t with
      | some i => (match i.kind, x with
        | .slice _, .c (.sl _ n _) => some (aI .i64 n, σ)
        | .slice _, .c (.t (.imm _ n _)) => some (aI .i64 n, σ)
        | .string, .c (.t (.str s)) => some (aI .i64 s.length, σ)
        | .array n _, _ => some (aI .i64 n, σ)
        | _, _ => none)
      | none => none
    | none => none
  | .cap, [x] => match argTs[0]? with
    | some t => match tinf P t with
      | some i => (match i.kind with
        | .slice _ => (match x with
          | .c (.sl r _ (some c)) => (match σ.at? r with
            | some _ => some (aI .i64 c, σ)
            | none => none)
          | .c (.t (.imm _ _ (some c))) => some (aI .i64 c, σ)
          | _ => none)
        | _ => none)
      | none => none
    | none => none
  | .append, [s, x] => match argTs[0]?, argTs[1]? with
    | some t, some u => (match tinf P u with
      | some i => (match i.kind with
        | .slice _ => appendE P σ t s x
        | .string => appendE P σ t s x
        | _ => none)
      | none => none)
    | _, _ => none
  | .copy, [d, s] => match argTs[0]? with
    | some t => copyE P σ t d s
    | none => none
  | .min, l => (minmaxE false l).map (·, σ)
  | .max, l => (minmaxE true l).map (·, σ)
  | _, _ => none

def refsOf : List AV → Option (List Ref)
  | [] => some []
  | .c (.ptr r) :: rest => (refsOf rest).map (r :: ·)
  | _ :: _ => none
def tsOfAV : List AV → Option (List T)
  | [] => some []
  | .c (.t x) :: rest => (tsOfAV rest).map (x :: ·)
  | _ :: _ => none

def makeFuncE (f : FuncId) (caps : List AV) : Option AV := match tsOfAV caps with
  | some ts => some (.c (.t (.fn f ts)))
  | none => match refsOf caps with
    | some rs => some (.c (.clo f rs))
    | none => none

def evo (r : Regs) : Option Operand → Option (Option AV)
  | none => some none
  | some x => (ev r x).map some

/-- an operation that calls no Go function: its value (none: it has none) and the heap behind it -/
def opE (P : Program) (r : Regs) (σ : Heap) : Op → Option (Option AV × Heap)
  | .move x | .assign x => (ev r x).map fun v => (some v, σ)
  | .pick c a b => match ev r c with
    | some (.c (.t (.bool t))) => (ev r (if t then a else b)).map fun v => (some v, σ)
    | _ => none
  | .alloc e => match tinf P e with
    | some i => match i.zero with
      | some z => some (some (newE σ (z.map .t)).1, (newE σ (z.map .t)).2)
      | none => none
    | none => none
  | .box _ x => match ev r x with
    | some v => if v.flat then some (some (newE σ v.cells).1, (newE σ v.cells).2) else none
    | none => none
  | .build t ps => match evs r ps.toList with
    | some vs => (buildE P t vs).map fun v => (some v, σ)
    | none => none
  | .buildSlice t n ps => match evs r ps.toList with
    | some vs => (buildSliceE P σ t n vs).map fun x => (some x.1, x.2)
    | none => none
  | .load t a => match tinf P t, ev r a with
    | some i, some v => (loadE σ i v).map fun x => (some x, σ)
    | _, _ => none
  | .store t a x => match tinf P t, ev r a, ev r x with
    | some i, some v, some u => (storeE σ i v u).map fun σ' => (none, σ')
    | _, _, _ => none
  | .nilCheck x => match ev r x with
    | some (.c (.ptr p)) => some (some (.c (.ptr p)), σ)
    | some (.c (.t (.iptr cs))) => some (some (.c (.t (.iptr cs))), σ)
    | some (.c (.t (.fn f cs))) => some (some (.c (.t (.fn f cs))), σ)
    | some (.c (.clo f cs)) => some (some (.c (.clo f cs)), σ)
    | _ => none
  | .binOp op xT x y _ => match ev r x, ev r y with
    | some u, some v => (binE P op xT u v).map fun t => (some (.c (.t t)), σ)
    | _, _ => none
  | .unOp op _ x => match ev r x with
    | some v => (unE op v).map fun t => (some (.c (.t t)), σ)
    | none => none
  | .convert src dst x => match ev r x with
    | some v => (convE P src dst v).map fun t => (some (.c (.t t)), σ)
    | none => none
  | .makeFunc (.func f) first caps => if first.size = 0 then (match evl r caps.toList with
    | some vs => (makeFuncE f vs).map fun v => (some v, σ)
    | none => none) else none
  | .makeSlice t l c => match ev r l, ev r c with
    | some u, some v => (makeSliceE P σ t u v).map fun x => (some x.1, x.2)
    | _, _ => none
  | .slice t x lo hi mx => match ev r x, evo r lo, evo r hi, evo r mx with
    | some v, some l, some h, some m => (sliceE P σ t v l h m).map fun u => (some u, σ)
    | _, _, _, _ => none
  | .fieldAddr t x f => match ev r x with
    | some v => (fieldAddrE P t v f).map fun u => (some u, σ)
    | none => none
  | .field t x f => match ev r x with
    | some v => (fieldE P t v f).map fun u => (some u, σ)
    | none => none
  | .indexAddr t x i => match ev r x, ev r i with
    | some v, some n => (indexAddrE P t v n).map fun u => (some u, σ)
    | _, _ => none
  | .index t x i => match ev r x, ev r i with
    | some v, some n => (indexE P t v n).map fun u => (some u, σ)
    | _, _ => none
  | .extract x i => match ev r x with
    | some v => (extractE v i).map fun u => (some u, σ)
    | none => none
  | .call { callee := .builtin b, args, argTypes } => match evl r args.toList with
    | some vs => (builtinE P σ b argTypes vs).map fun x => (some x.1, x.2)
    | none => none
  | _ => none

end Go.Abs
