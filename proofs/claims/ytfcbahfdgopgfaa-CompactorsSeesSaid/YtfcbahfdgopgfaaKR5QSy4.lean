/-
  A general library: what the operations do on symbolic values. Definitions only.
-/
import Derived.Test.YtfcbahfdgopgfaaKR5QSy3
set_option linter.unusedSimpArgs false
set_option linter.unusedVariables false
namespace Go.Abs

/-- a type: what the machine knows of it, and its layout if it is plain data -/
abbrev TyT := TypeId → Option (TInf × Option Ly)

def scOfT : T → Option SC
  | .bool b => some (.bo b)
  | .int k n => some (.it k n)
  | .str s => some (.sg s)
  | .nilp => some .np
  | .imm [] 0 (some 0) => some .nils
  | .nilf => some .nf
  | .junk => some .junk
  | _ => none

def Ly.view : (c : Ly) → c.ty → List SC
  | .int k, n => [.it k n]
  | .bool, x => [.bo x]
  | .str, x => [.sg x]
  | .sl c, (xs : List c.ty) => [.arr c xs none]
  | .pair a b, x => a.view x.1 ++ b.view x.2

/-- data out of cells (ex: nothing of the cells may be forgotten) -/
def encInt (k : IntKind) (l : List SC) : Option Int := match l with
  | [.it k' n] => match kindB k k' with | true => some n | false => none
  | _ => none
def encBool (l : List SC) : Option Bool := match l with
  | [.bo x] => some x
  | _ => none
def encStr (l : List SC) : Option (List UInt8) := match l with
  | [.sg x] => some x
  | _ => none
def encSl (ex : Bool) (c : Ly) (l : List SC) : Option (List c.ty) := match l with
  | [.arr c' xs cap] => if h : c'.beq c = true then (match cap with
      | none => some (Ly.castL h xs)
      | some _ => match ex with | true => none | false => some (Ly.castL h xs)) else none
  | [.nils] => match ex with | true => none | false => some []
  | _ => none
def Ly.enc (ex : Bool) : (c : Ly) → List SC → Option c.ty
  | .int k, l => encInt k l
  | .bool, l => encBool l
  | .str, l => encStr l
  | .sl c, l => encSl ex c l
  | .pair a b, l => match a.enc ex (l.take a.size), b.enc ex (l.drop a.size) with
    | some x, some y => some (x, y)
    | _, _ => none

/-- many of them, one after the other -/
def encL (ex : Bool) (c : Ly) : Nat → List SC → Option (List c.ty)
  | 0, [] => some []
  | n + 1, l => match c.enc ex (l.take c.size), encL ex c n (l.drop c.size) with
    | some x, some xs => some (x :: xs)
    | _, _ => none
  | _, _ => none

def constSV (v : Value) : Option SV := match constAV v with
  | some (.c (.t t)) => (scOfT t).map .c
  | some (.agg cs) => (mapO (fun | .t t => scOfT t | _ => none) cs).map .agg
  | _ => none

def eqTg : Tg → Tg → Bool
  | [], [] => true
  | (a, x) :: l, (b, y) :: m => match Nat.beq a b with
    | true => match x, y with
      | true, true => eqTg l m
      | false, false => eqTg l m
      | _, _ => false
    | false => false
  | _, _ => false
def sufB (a : Tg) : Tg → Bool
  | [] => match a with | [] => true | _ => false
  | x :: l => match a with | [] => true | _ => match eqTg a (x :: l) with | true => true | false => sufB a l

def SR.at (r : SR) (L : Tg) (t : Nat) : Option SV := match r.get t with
  | some (tg, v) => match sufB tg L with | true => some v | false => none
  | none => none

def evS (r : SR) (L : Tg) : Operand → Option SV
  | .tmp t => r.at L t
  | .const v => constSV v
  | .func f => some (.c (.fn f))
  | .global _ => none

def evlS (r : SR) (L : Tg) : List Operand → Option (List SV)
  | [] => some []
  | x :: rest => match evS r L x, evlS r L rest with
    | some v, some vs => some (v :: vs)
    | _, _ => none
def evsS (r : SR) (L : Tg) : List (Nat × Operand) → Option (List (Nat × SV))
  | [] => some []
  | (i, x) :: rest => match evS r L x, evsS r L rest with
    | some v, some vs => some ((i, v) :: vs)
    | _, _ => none
def evoS (r : SR) (L : Tg) : Option Operand → Option (Option SV)
  | none => some none
  | some x => (evS r L x).map some

def SV.cells : SV → List SC
  | .c x => [x]
  | .agg xs => xs
  | .tup _ => []
def SV.flat : SV → Bool
  | .tup _ => false
  | _ => true

/-- an int that is not 0 -/
def nz (n : Int) : Bool := !(n == 0)
/-- an index is within n -/
def inR (i : Int) (n : Nat) : Bool := decide (0 ≤ i) && decide (i < n)
def leB (a b : Nat) : Bool := decide (a ≤ b)
def eqN (a b : Nat) : Bool := decide (a = b)

def intS (op : BinOp) (k : IntKind) (x y : Int) : Option (Bool × SC) := match op with
  | .add => some (true, .it k (k.wrap (x + y)))
  | .sub => some (true, .it k (k.wrap (x - y)))
  | .mul => some (true, .it k (k.wrap (x * y)))
  | .quo => some (nz y, .it k (k.wrap (x.tdiv y)))
  | .rem => some (nz y, .it k (x.tmod y))
  | .and => some (true, .it k (k.wrap (BitVec.ofInt k.bits x &&& BitVec.ofInt k.bits y).toNat))
  | .or => some (true, .it k (k.wrap (BitVec.ofInt k.bits x ||| BitVec.ofInt k.bits y).toNat))
  | .xor => some (true, .it k (k.wrap (BitVec.ofInt k.bits x ^^^ BitVec.ofInt k.bits y).toNat))
  | .andNot => some (true, .it k (k.wrap (BitVec.ofInt k.bits x &&& ~~~BitVec.ofInt k.bits y).toNat))
  | .eql => some (true, .bo (x == y))
  | .neq => some (true, .bo (x != y))
  | .lss => some (true, .bo (decide (x < y)))
  | .leq => some (true, .bo (decide (x ≤ y)))
  | .gtr => some (true, .bo (decide (x > y)))
  | .geq => some (true, .bo (decide (x ≥ y)))
  | _ => none

def shiftS (op : BinOp) (k : IntKind) (x y : Int) : Option (Bool × SC) := match op with
  | .shl => some (decide (0 ≤ y), .it k (k.wrap (x * 2 ^ (min y.toNat k.bits))))
  | .shr => some (decide (0 ≤ y), .it k (x.fdiv (2 ^ (min y.toNat k.bits))))
  | _ => none

def strS (op : BinOp) (x y : List UInt8) : Option (Bool × SC) := match op with
  | .add => some (leB (x.length + y.length) 9223372036854775807, .sg (x ++ y))
  | .eql => some (true, .bo (x == y))
  | .neq => some (true, .bo !(x == y))
  | _ => none

def boolS (op : BinOp) (x y : Bool) : Option (Bool × SC) := match op with
  | .eql => some (true, .bo (x == y))
  | .neq => some (true, .bo !(x == y))
  | _ => none

def isPtrK (ty : TyT) (t : TypeId) : Bool := match ty t with
  | some (i, _) => match i.kind with | .ptr _ => true | _ => false
  | none => false
def isBoolK (ty : TyT) (t : TypeId) : Bool := match ty t with
  | some (i, _) => match i.kind with | .bool => true | _ => false
  | none => false

def binS (ty : TyT) (op : BinOp) (xT : TypeId) (x y : SV) : Option (Bool × SC) := match x, y with
  | .c (.it k a), .c (.it k' b) => match isShift op with
    | true => shiftS op k a b
    | false => match kindB k k' with | true => intS op k a b | false => none
  | .c (.sg a), .c (.sg b) => strS op a b
  | .c (.bo a), .c (.bo b) => match isBoolK ty xT with | true => boolS op a b | false => none
  | .c (.ptr _ _), .c .np | .c (.el ..), .c .np | .c (.ip ..), .c .np | .c (.iel ..), .c .np => match isPtrK ty xT with | true => boolS op false true | false => none
  | .c .np, .c .np => match isPtrK ty xT with | true => boolS op true true | false => none
  | _, _ => none

def unS (op : UnOp) (x : SV) : Option SC := match op, x with
  | .not, .c (.bo b) => some (.bo !b)
  | .neg, .c (.it k n) => some (.it k (k.wrap (0 - n)))
  | .xor, .c (.it k n) => (intS .xor k (if k.signed then -1 else k.max) n).map (·.2)
  | _, _ => none

def convS (ty : TyT) (src dst : TypeId) (x : SV) : Option SC := match ty src, ty dst, x with
  | some _, some (j, _), .c (.it _ n) => match j.kind with
    | .int k => some (.it k (k.wrap n))
    | _ => none
  | some _, some (j, _), .c (.sg s) => match j.kind with
    | .string => some (.sg s)
    | _ => none
  | _, _, _ => none

/-! ### places -/
def offS (off : Nat) : SC → Option SC
  | .ptr id o => some (.ptr id (o + off))
  | .el id ep es i o => some (.el id ep es i (o + off))
  | .ip c x o => some (.ip c x (o + off))
  | .iel c xs i o => some (.iel c xs i (o + off))
  | _ => none

def fieldAddrS (ty : TyT) (t : TypeId) (x : SV) (f : Nat) : Option SC := match ty t with
  | some (i, _) => match i.kind, x with
    | .struct fs, .c x => match fs[f]? with
      | some (off, ft) => match ty ft with
        | some (j, _) => match Nat.blt 0 j.size with | true => offS off x | false => none
        | none => none
      | none => none
    | _, _ => none
  | none => none

def partS (j : TInf) (cs : List SC) (off : Nat) : Option SV := match j.isAgg with
  | true => match Nat.ble (off + j.size) cs.length with | true => some (.agg ((cs.drop off).take j.size)) | false => none
  | false => match cs[off]? with | some c => some (.c c) | none => none

def fieldS (ty : TyT) (t : TypeId) (x : SV) (f : Nat) : Option SV := match ty t with
  | some (i, _) => match i.kind, x with
    | .struct fs, .agg cs => match fs[f]? with
      | some (off, ft) => match ty ft with
        | some (j, _) => partS j cs off
        | none => none
      | none => none
    | _, _ => none
  | none => none

def intOfS : SV → Option Int
  | .c (.it _ n) => some n
  | _ => none

def indexAddrS (ty : TyT) (t : TypeId) (x i : SV) : Option (Bool × SC) := match ty t, intOfS i with
  | some (inf, _), some n => match inf.kind with
    | .slice e => match ty e with
      | some (j, _) => match x with
        | .c (.sl id ep es lo len _) => match Nat.beq es j.size with | true => some (inR n len, .el id ep es (lo + n.toNat) 0) | false => none
        | .c (.arr c xs _) => match Nat.beq c.size j.size with | true => some (inR n xs.length, .iel c xs n.toNat 0) | false => none
        | .c .nils => some (false, .junk)
        | _ => none
      | none => none
    | .array len e => match ty e with
      | some (j, _) => match x with
        | .c (.ptr id o) => some (inR n len, .ptr id (o + n.toNat * j.size))
        | .c (.ip c x o) => some (inR n len, .ip c x (o + n.toNat * j.size))
        | .c (.el id ep es k o) => some (inR n len, .el id ep es k (o + n.toNat * j.size))
        | .c (.iel c xs k o) => some (inR n len, .iel c xs k (o + n.toNat * j.size))
        | _ => none
      | none => none
    | _ => none
  | _, _ => none

def byteAt (s : List UInt8) (n : Nat) : Int := ((s[n]?).getD 0).toNat

def indexS (ty : TyT) (t : TypeId) (x i : SV) : Option (Bool × SV) := match ty t, intOfS i with
  | some (inf, _), some n => match inf.kind, x with
    | .array len e, .agg cs => match ty e with
      | some (j, _) => (partS j cs (n.toNat * j.size)).map fun v => (inR n len, v)
      | none => none
    | .string, .c (.sg s) => some (inR n s.length, .c (.it .u8 (byteAt s n.toNat)))
    | _, _ => none
  | _, _ => none

def extractS (x : SV) (i : Nat) : Option SV := match x with
  | .tup xs => match xs[i]? with
    | some (.inl c) => some (.c c)
    | some (.inr cs) => some (.agg cs)
    | none => none
  | _ => none

/-! ### the heap -/
def loadCS (i : TInf) (cs : List SC) : Option SV := match i.isAgg with
  | true => match Nat.ble i.size cs.length with | true => some (.agg (cs.take i.size)) | false => none
  | false => match cs with | c :: _ => some (.c c) | [] => none

def loadS (σ : SH) (i : TInf) (a : SC) : Option (Bool × SV) := match a with
  | .ptr id off => match σ[id]? with
    | some (.st cs _ ep) => match Nat.beq ep 0 with | true => (loadCS i (cs.drop off)).map fun v => (true, v) | false => none
    | _ => none
  | .el id ep es k off => match σ[id]? with
    | some (.arr c xs ep') => match Nat.beq ep' ep, Nat.beq es c.size with
      | true, true => match Nat.ble (off + i.size) c.size with
        | true => (loadCS i ((c.view ((xs[k]?).getD c.dflt)).drop off)).map fun v => (decide (k < xs.length), v)
        | false => none
      | _, _ => none
    | some (.st cs es' ep') => match Nat.beq ep' ep, Nat.beq es es' with
      | true, true => (loadCS i (cs.drop (k * es + off))).map fun v => (true, v)
      | _, _ => none
    | _ => none
  | .ip c x off => match Nat.ble (off + i.size) c.size with
    | true => (loadCS i ((c.view x).drop off)).map fun v => (true, v)
    | false => none
  | .iel c xs k off => match Nat.ble (off + i.size) c.size with
    | true => (loadCS i ((c.view ((xs[k]?).getD c.dflt)).drop off)).map fun v => (true, v)
    | false => none
  | _ => none

def spliceS (cs : List SC) (off : Nat) (xs : List SC) : List SC := cs.take off ++ xs ++ cs.drop (off + xs.length)

def storeS (ex : Bool) (σ : SH) (i : TInf) (a : SC) (v : SV) : Option (Bool × SH) := match v.flat, Nat.beq v.cells.length i.size with
  | true, true => match a with
    | .ptr id off => match σ[id]? with
      | some (.st cs es ep) => match Nat.beq ep 0, Nat.ble (off + i.size) cs.length with
        | true, true => some (true, σ.set id (.st (spliceS cs off v.cells) es ep))
        | _, _ => none
      | _ => none
    | .el id ep es k off => match σ[id]? with
      | some (.arr c xs ep') => match Nat.beq ep' ep, Nat.beq es c.size, Nat.ble (off + i.size) c.size with
        | true, true, true => match Nat.beq off 0, Nat.beq i.size c.size with
          | true, true => match c.enc ex v.cells with
            | some y => some (decide (k < xs.length), σ.set id (.arr c (xs.set k y) ep'))
            | none => none
          | _, _ => match c.enc ex (spliceS (c.view ((xs[k]?).getD c.dflt)) off v.cells) with
            | some y => some (decide (k < xs.length), σ.set id (.arr c (xs.set k y) ep'))
            | none => none
        | _, _, _ => none
      | some (.st cs es' ep') => match Nat.beq ep' ep, Nat.beq es es', Nat.ble (k * es + off + i.size) cs.length with
        | true, true, true => some (true, σ.set id (.st (spliceS cs (k * es + off) v.cells) es' ep'))
        | _, _, _ => none
      | _ => none
    | _ => none
  | _, _ => none

def zeroS (i : TInf) : Option (List SC) := match i.zero with
  | some z => mapO scOfT z
  | none => none

def fillS (place : Nat → Option (Nat × Nat)) : List (Nat × SV) → List SC → Option (List SC)
  | [], cs => some cs
  | (i, v) :: rest, cs => match place i with
    | some (off, size) => match v.flat, Nat.beq v.cells.length size, Nat.ble (off + size) cs.length with
      | true, true, true => fillS place rest (spliceS cs off v.cells)
      | _, _, _ => none
    | none => none

def placesS (ty : TyT) : List (Nat × TypeId) → Option (List (Nat × Nat))
  | [] => some []
  | (off, t) :: rest => match ty t, placesS ty rest with
    | some (i, _), some ps => some ((off, i.size) :: ps)
    | _, _ => none

def buildS (ty : TyT) (t : TypeId) (ps : List (Nat × SV)) : Option SV := match ty t with
  | some (i, _) => match zeroS i, i.kind with
    | some z, .struct fs => match placesS ty fs with
      | some places => (fillS (fun n => places[n]?) ps z).map .agg
      | none => none
    | some z, .array _ e => match ty e with
      | some (j, _) => (fillS (fun n => some (n * j.size, j.size)) ps z).map .agg
      | none => none
    | _, _ => none
  | none => none

def replS : Nat → List SC → List SC
  | 0, _ => []
  | n + 1, z => z ++ replS n z

/-- are all of them trees? -/
def SC.isT : SC → Bool
  | .ptr .. | .el .. | .sl .. | .clo .. => false
  | _ => true
def allTS : List SC → Bool
  | [] => true
  | c :: l => match c.isT with | true => allTS l | false => false

def buildSliceS (ex : Bool) (ty : TyT) (σ : SH) (t : TypeId) (n : Nat) (ps : List (Nat × SV)) : Option (SV × SH) := match ty t with
  | some (i, _) => match i.kind with
    | .slice e => match ty e with
      | some (j, c?) => match zeroS j with
        | some z => match Nat.beq j.size z.length, Nat.blt 0 j.size, Nat.ble (n * j.size) 1000 with
          | true, true, true => match fillS (fun m => some (m * j.size, j.size)) ps (replS n z) with
            | some cs => match allTS cs with
              | true => match n with
                | 0 => match cs with
                  | [] => some (.c .nils, σ)
                  | _ :: _ => none
                | _ + 1 => match c? with
                  | some c => match encL ex c n cs with
                    | some xs => some (.c (.arr c xs (some n)), σ)
                    | none => none
                  | none => none
              | false => some (.c (.sl σ.length 0 j.size 0 n (some n)), σ ++ [.st cs j.size 0])
            | none => none
          | _, _, _ => none
        | none => none
      | none => none
    | _ => none
  | none => none

def makeSliceS (ty : TyT) (σ : SH) (t : TypeId) (l c : SV) : Option (Bool × SV × SH) := match ty t, intOfS l, intOfS c with
  | some (i, _), some n, some m => match i.kind with
    | .slice e => match ty e with
      | some (j, some lay) => match j.zero with
        | some z => some (decide (0 ≤ n) && decide (n ≤ m) && decide (m * j.bytes ≤ 281474976710656) && decide (m ≤ 9223372036854775807),
            .c (.sl σ.length 0 j.size 0 n.toNat (some m.toNat)), σ ++ [.zer z lay m.toNat])
        | none => none
      | _ => none
    | _ => none
  | _, _, _ => none

def lenS (x : SV) : Option Nat := match x with
  | .c (.sl _ _ _ _ n _) => some n
  | .c (.arr _ xs _) => some xs.length
  | .c .nils => some 0
  | .c (.sg s) => some s.length
  | _ => none

/-- a bound -/
def boundS (x : Option SV) (dflt top : Nat) : Option (Bool × Nat) := match x with
  | none => some (true, dflt)
  | some v => match intOfS v with
    | some n => some (decide (0 ≤ n) && decide (n ≤ top), n.toNat)
    | none => none

def sliceS (ty : TyT) (σ : SH) (t : TypeId) (x : SV) (lo hi mx : Option SV) : Option (Bool × SV) := match ty t with
  | some (i, _) => match i.kind, x, mx with
    | .string, .c (.sg s), none => match boundS hi s.length s.length with
      | some (p, h) => match boundS lo 0 h with
        | some (q, l) => some (p && q, .c (.sg ((s.drop l).take (h - l))))
        | none => none
      | none => none
    | .slice e, .c (.sl id ep es l0 len cap), none => match ty e with
      | some (j, _) => match (match σ[id]? with | some (.arr c _ ep') => Nat.beq ep' ep && Nat.beq c.size es | some (.st _ es' ep') => Nat.beq ep' ep && Nat.beq es' es | some (.zer _ c _) => Nat.beq ep 0 && Nat.beq c.size es | none => false), Nat.beq es j.size with
        | true, true => match boundS hi len (cap.getD len) with
          | some (p, h) => match cap with
            | some c => match lo with
              | none => some (p, .c (.sl id ep es l0 h (some c)))
              | some _ => match boundS lo 0 h with
                | some (q, l) => some (p && q, .c (.sl id ep es (bif eqN c l then l0 else l0 + l) (h - l) (some (c - l))))
                | none => none
            | none => match boundS lo 0 h with
              | some (q, l) => some (p && q && (decide (l < len) || eqN l 0), .c (.sl id ep es (l0 + l) (h - l) none))
              | none => none
          | none => none
        | _, _ => none
      | none => none
    | .slice e, .c (.sl id ep es l0 len cap), some m => match ty e with
      | some (j, _) => match (match σ[id]? with | some (.arr c _ ep') => Nat.beq ep' ep && Nat.beq c.size es | some (.st _ es' ep') => Nat.beq ep' ep && Nat.beq es' es | some (.zer _ c _) => Nat.beq ep 0 && Nat.beq c.size es | none => false), Nat.beq es j.size, lo with
        | true, true, none => match boundS (some m) 0 (cap.getD len) with
          | some (o, m) => match hi with
            | some hi => match boundS (some hi) 0 m with
              | some (p, h) => some (o && p, .c (.sl id ep es l0 h (some m)))
              | none => none
            | none => none
          | none => none
        | _, _, _ => none
      | none => none
    | .slice e, .c (.arr c xs cap), none => match ty e with
      | some (j, _) => match Nat.beq c.size j.size with
        | true => match boundS hi xs.length xs.length with
          | some (p, h) => match boundS lo 0 h with
            | some (q, l) => some (p && q, .c (.arr c ((xs.drop l).take (h - l)) (cap.map (· - l))))
            | none => none
          | none => none
        | false => none
      | none => none
    | .slice e, .c (.arr c xs _), some m => match ty e with
      | some (j, _) => match Nat.beq c.size j.size, boundS (some m) 0 xs.length with
        | true, some (o, m) => match hi with
          | some hi => match boundS (some hi) 0 m with
            | some (p, h) => match boundS lo 0 h with
              | some (q, l) => some (o && p && q, .c (.arr c ((xs.drop l).take (h - l)) (some (m - l))))
              | none => none
            | none => none
          | none => none
        | _, _ => none
      | none => none
    | _, _, _ => none
  | none => none

def roomB (n bytes : Nat) : Bool := leB (n * bytes) 17592186044416 && leB n 17592186044416 && leB bytes 1073741824

/-- all of a slice's elements -/
def allS (σ : SH) (c : Ly) (x : SV) : Option (Bool × Nat × List c.ty) := match x with
  | .c (.arr c' xs _) => if h : c'.beq c = true then some (true, xs.length, Ly.castL h xs) else none
  | .c .nils => some (true, 0, [])
  | .c (.sg s) => match c with
    | .int .u8 => some (true, s.length, (s.map fun (b : UInt8) => (b.toNat : Int)))
    | _ => none
  | .c (.sl id ep es lo len _) => match σ[id]? with
    | some (.arr c' xs ep') => if h : c'.beq c = true then (match Nat.beq ep' ep, Nat.beq es c.size with
      | true, true => some (leB (lo + len) xs.length, len, Ly.castL h ((xs.drop lo).take len))
      | _, _ => none) else none
    | _ => none
  | _ => none

def appendS (ex : Bool) (ty : TyT) (σ : SH) (t : TypeId) (s x : SV) : Option (Bool × SV × SH) := match ty t with
  | some (i, _) => match i.kind with
    | .slice e => match ty e with
      | some (j, some c) => match allS σ c x with
        | some (p, m, new) => match s with
          | .c .nils => match ex with
            | true => some (p && !(eqN m 0) && roomB m j.bytes, .c (.sl σ.length 0 c.size 0 m none), σ ++ [.arr c new 0])
            | false => some (p && roomB m j.bytes, .c (.sl σ.length 0 c.size 0 m none), σ ++ [.arr c new 0])
          | .c (.arr c3 xs (some cp)) => if h : c3.beq c = true then (match x with
            | .c .nils => some (p && eqN cp xs.length && roomB xs.length j.bytes, .c (.arr c3 xs (some cp)), σ)
            | _ => some (p && eqN cp xs.length && (!(eqN m 0) || (eqN xs.length 0 && !ex)) && roomB (xs.length + m) j.bytes, .c (.sl σ.length 0 c.size 0 (xs.length + m) none), σ ++ [.arr c (Ly.castL h xs ++ new) 0])) else none
          | .c (.sl id ep es lo len none) => match σ[id]? with
            | some (.arr c' xs ep') => if h : c.beq c' = true then (match Nat.beq ep' ep, Nat.beq es c'.size with
              | true, true => some (p && eqN lo 0 && eqN xs.length len && roomB (len + m) j.bytes, .c (.sl id (ep + 1) es 0 (len + m) none), σ.set id (.arr c' (xs ++ Ly.castL h new) (ep + 1)))
              | _, _ => none) else none
            | _ => none
          | .c (.sl id ep es lo len (some cp)) => match σ[id]? with
            | some (.arr c' xs ep') => if h : c.beq c' = true then (match Nat.beq ep' ep, Nat.beq es c'.size with
              | true, true => some (p && leB (len + m) cp && leB (lo + cp) xs.length, .c (.sl id ep es lo (len + m) (some cp)), σ.set id (.arr c' (xs.take (lo + len) ++ Ly.castL h new ++ xs.drop (lo + len + m)) ep'))
              | _, _ => none) else none
            | _ => none
          | _ => none
        | none => none
      | _ => none
    | _ => none
  | none => none

def copyS (ty : TyT) (σ : SH) (t : TypeId) (d s : SV) : Option (Bool × SV × SH) := match ty t with
  | some (i, _) => match i.kind with
    | .slice e => match ty e with
      | some (j, _) => match d with
        | .c (.sl id ep es lo len _) => match σ[id]? with
          | some (.arr c xs ep') => match Nat.beq ep' ep, Nat.beq es c.size, Nat.beq c.size j.size, allS σ c s with
            | true, true, true, some (p, m, new) => some (p && leB (lo + len) xs.length, .c (.it .i64 ((min m len : Nat) : Int)), σ.set id (.arr c (xs.take lo ++ new.take (min m len) ++ xs.drop (lo + min m len)) ep'))
            | _, _, _, _ => none
          | _ => none
        | _ => none
      | none => none
    | _ => none
  | none => none

def minmaxS (mx : Bool) : List SV → Option SC
  | [.c (.it k x), .c (.it k' y)] => match kindB k k' with
    | true => some (.it k (match mx with | true => if y > x then y else x | false => if y < x then y else x))
    | false => none
  | _ => none

def builtinS (ex : Bool) (ty : TyT) (σ : SH) (b : Builtin) (ts : Array TypeId) (args : List SV) : Option (Bool × SV × SH) := match b, args with
  | .len, [x] => match ts[0]? with
    | some t => match ty t with
      | some (i, _) => match i.kind with
        | .slice _ => match x with
          | .c (.sg _) => none
          | x => (lenS x).map fun (n : Nat) => (true, .c (.it .i64 (n : Int)), σ)
        | .string => match x with
          | .c (.sg s) => some (true, .c (.it .i64 (s.length : Int)), σ)
          | _ => none
        | .array n _ => some (true, .c (.it .i64 (n : Int)), σ)
        | _ => none
      | none => none
    | none => none
  | .cap, [x] => match ts[0]? with
    | some t => match ty t with
      | some (i, _) => match i.kind with
        | .slice _ => match x with
          | .c (.sl id ep _ _ _ (some c)) => match σ[id]? with
            | some (.arr _ _ ep') => match Nat.beq ep' ep with | true => some (true, .c (.it .i64 (c : Int)), σ) | false => none
            | some (.st _ _ ep') => match Nat.beq ep' ep with | true => some (true, .c (.it .i64 (c : Int)), σ) | false => none
            | _ => none
          | .c (.arr _ _ (some c)) => some (true, .c (.it .i64 (c : Int)), σ)
          | .c .nils => some (true, .c (.it .i64 0), σ)
          | _ => none
        | _ => none
      | none => none
    | none => none
  | .append, [s, x] => match ts[0]?, ts[1]? with
    | some t, some u => match ty u with
      | some (i, _) => match i.kind with
        | .slice _ => appendS ex ty σ t s x
        | .string => appendS ex ty σ t s x
        | _ => none
      | none => none
    | _, _ => none
  | .copy, [d, s] => match ex with
    | true => none
    | false => match ts[0]? with
      | some t => copyS ty σ t d s
      | none => none
  | .min, l => (minmaxS false l).map fun v => (true, .c v, σ)
  | .max, l => (minmaxS true l).map fun v => (true, .c v, σ)
  | _, _ => none

def refsS : List SV → Option (List Ref)
  | [] => some []
  | .c (.ptr id off) :: rest => (refsS rest).map (⟨id, 0, off⟩ :: ·)
  | _ :: _ => none

def mergeC (b : Bool) : SC → SC → Option SC
  | .bo x, .bo y => some (.bo (bif b then x else y))
  | .it k x, .it k' y => match kindB k k' with | true => some (.it k (bif b then x else y)) | false => none
  | .sg x, .sg y => some (.sg (bif b then x else y))
  | .np, .np => some .np
  | .nf, .nf => some .nf
  | .nils, .nils => some .nils
  | .junk, .junk => some .junk
  | .arr c xs none, .arr c' ys none => if h : c'.beq c = true then some (.arr c (bif b then xs else Ly.castL h ys) none) else none
  | .ptr id o, .ptr id' o' => match Nat.beq id id', Nat.beq o o' with | true, true => some (.ptr id o) | _, _ => none
  | .sl id ep es lo len none, .sl id' ep' es' lo' len' none => match Nat.beq id id', Nat.beq ep ep', Nat.beq es es' with
    | true, true, true => some (.sl id ep es (bif b then lo else lo') (bif b then len else len') none)
    | _, _, _ => none
  | .sl id ep es lo len (some c), .sl id' ep' es' lo' len' (some c') => match Nat.beq id id', Nat.beq ep ep', Nat.beq es es' with
    | true, true, true => some (.sl id ep es (bif b then lo else lo') (bif b then len else len') (some (bif b then c else c')))
    | _, _, _ => none
  | .fn f, .fn g => match Nat.beq f g with | true => some (.fn f) | false => none
  | _, _ => none
def mergeCL (b : Bool) : List SC → List SC → Option (List SC)
  | [], [] => some []
  | x :: xs, y :: ys => match mergeC b x y, mergeCL b xs ys with
    | some z, some zs => some (z :: zs)
    | _, _ => none
  | _, _ => none
def mergeV (b : Bool) : SV → SV → Option SV
  | .c x, .c y => (mergeC b x y).map .c
  | .agg x, .agg y => (mergeCL b x y).map .agg
  | _, _ => none

def tagOf (c : Operand) (w : Bool) (L : Tg) : Tg := match c with | .tmp k => (k, w) :: L | _ => L

/-- one operation: the condition under which it goes, its value, the heap behind it -/
def opS (ex : Bool) (ty : TyT) (r : SR) (L : Tg) (σ : SH) : Op → Option (Bool × Option SV × SH)
  | .move x | .assign x => (evS r L x).map fun v => (true, some v, σ)
  | .pick c a b => match evS r L c with
    | some (.c (.bo t)) => match evS r (tagOf c true L) a, evS r (tagOf c false L) b with
      | some x, some y => (mergeV t x y).map fun v => (true, some v, σ)
      | _, _ => none
    | _ => none
  | .alloc e => match ty e with
    | some (i, _) => match zeroS i with
      | some z => some (true, some (.c (.ptr σ.length 0)), σ ++ [.st z 1 0])
      | none => none
    | none => none
  | .box _ x => match evS r L x with
    | some v => match v.flat with
      | true => some (true, some (.c (.ptr σ.length 0)), σ ++ [.st v.cells 1 0])
      | false => none
    | none => none
  | .build t ps => match evsS r L ps.toList with
    | some vs => (buildS ty t vs).map fun v => (true, some v, σ)
    | none => none
  | .buildSlice t n ps => match evsS r L ps.toList with
    | some vs => (buildSliceS ex ty σ t n vs).map fun x => (true, some x.1, x.2)
    | none => none
  | .load t a => match ty t, evS r L a with
    | some (i, _), some (.c v) => (loadS σ i v).map fun x => (x.1, some x.2, σ)
    | _, _ => none
  | .store t a x => match ty t, evS r L a, evS r L x with
    | some (i, _), some (.c v), some u => (storeS ex σ i v u).map fun y => (y.1, none, y.2)
    | _, _, _ => none
  | .nilCheck x => match evS r L x with
    | some (.c v) => match v with
      | .ptr .. | .el .. | .ip .. | .iel .. | .fn .. | .clo .. => some (true, some (.c v), σ)
      | _ => none
    | _ => none
  | .binOp op xT x y _ => match isNilConst y with
    | true => match ty xT with
      | some (i, _) => match i.kind with
        | .slice _ => match eqOp op, (evS r L x).bind lenS with
          | some ne, some n => match evS r L x with
            | some (.c (.sg _)) => none
            | _ => some (!(eqN n 0), some (.c (.bo ne)), σ)
          | _, _ => none
        | _ => match evS r L x, evS r L y with
          | some u, some v => (binS ty op xT u v).map fun t => (t.1, some (.c t.2), σ)
          | _, _ => none
      | none => none
    | false => match evS r L x, evS r L y with
      | some u, some v => (binS ty op xT u v).map fun t => (t.1, some (.c t.2), σ)
      | _, _ => none
  | .unOp op _ x => match evS r L x with
    | some v => (unS op v).map fun t => (true, some (.c t), σ)
    | none => none
  | .convert src dst x => match evS r L x with
    | some v => (convS ty src dst v).map fun t => (true, some (.c t), σ)
    | none => none
  | .makeFunc (.func f) first caps => match Nat.beq first.size 0, evlS r L caps.toList with
    | true, some [] => some (true, some (.c (.fn f)), σ)
    | true, some (v :: vs) => (refsS (v :: vs)).map fun rs => (true, some (.c (.clo f rs)), σ)
    | _, _ => none
  | .makeSlice t l c => match evS r L l, evS r L c with
    | some u, some v => (makeSliceS ty σ t u v).map fun x => (x.1, some x.2.1, x.2.2)
    | _, _ => none
  | .slice t x lo hi mx => match evS r L x, evoS r L lo, evoS r L hi, evoS r L mx with
    | some v, some l, some h, some m => (sliceS ty σ t v l h m).map fun u => (u.1, some u.2, σ)
    | _, _, _, _ => none
  | .fieldAddr t x f => match evS r L x with
    | some v => (fieldAddrS ty t v f).map fun u => (true, some (.c u), σ)
    | none => none
  | .field t x f => match evS r L x with
    | some v => (fieldS ty t v f).map fun u => (true, some u, σ)
    | none => none
  | .indexAddr t x i => match evS r L x, evS r L i with
    | some v, some n => (indexAddrS ty t v n).map fun u => (u.1, some (.c u.2), σ)
    | _, _ => none
  | .index t x i => match evS r L x, evS r L i with
    | some v, some n => (indexS ty t v n).map fun u => (u.1, some u.2, σ)
    | _, _ => none
  | .extract x i => match evS r L x with
    | some v => (extractS v i).map fun u => (true, some u, σ)
    | none => none
  | .call { callee := .builtin b, args, argTypes } => match evlS r L args.toList with
    | some vs => (builtinS ex ty σ b argTypes vs).map fun x => (x.1, some x.2.1, x.2.2)
    | none => none
  | _ => none

end Go.Abs
