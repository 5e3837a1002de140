/-
  A general library: running code on symbolic values. Definitions only.
-/
import Derived.Test.YtfcbahfdgopgfaaKR5QSy9
set_option linter.unusedSimpArgs false
set_option linter.unusedVariables false
namespace Go.Abs

/-! ### what a run says: tests, known values, loops -/
def letC {α β : Type} (a : α) (k : α → Option β) : Option β := k a
def bindO {α β : Type} (o : Option α) (k : α → Option β) : Option β := match o with | some a => k a | none => none
def sumC {α β γ : Type} (s : α ⊕ β) (k : α → Option γ) (l : β → Option γ) : Option γ := match s with | .inl a => k a | .inr b => l b

/-! ### registers -/
def inTg (d : Nat) : Tg → Bool
  | [] => false
  | (t, _) :: l => match Nat.beq t d with | true => true | false => inTg d l
def SR.free (d : Nat) : SR → Bool
  | [] => true
  | (_, tg, _) :: r => match inTg d tg with | true => false | false => SR.free d r
def SR.set : SR → Nat → Tg × SV → SR
  | [], t, v => [(t, v)]
  | (k, u) :: r, t, v => match Nat.beq k t with | true => (k, v) :: r | false => (k, u) :: SR.set r t v
def SR.del : SR → Nat → SR
  | [], _ => []
  | (k, u) :: r, t => match Nat.beq k t with | true => SR.del r t | false => (k, u) :: SR.del r t
def SR.kill (r : SR) : List Nat → SR
  | [] => r
  | t :: ts => match r.free t with | true => SR.kill (r.del t) ts | false => SR.kill r ts
def SR.put (r : SR) (d : Option Nat) (L : Tg) (v : Option SV) : Option SR := match d with
  | none => some r
  | some d => match r.free d, inTg d L with
    | true, false => match v with
      | some v => some (r.set d (L, v))
      | none => some (r.set d ([], .tup []))
    | _, _ => none

/-- the zeros of an array are data -/
def zB : Ly → List T → Bool
  | .int k, z => match z with | [.int k' (.ofNat 0)] => kindB k' k | _ => false
  | .bool, z => match z with | [.bool false] => true | _ => false
  | .str, z => match z with | [.str []] => true | _ => false
  | .sl _, z => match z with | [.imm [] 0 _] => true | _ => false
  | .pair a b, z => match zB a (z.take a.size) with | true => zB b (z.drop a.size) | false => false
def SO.norm : SO → SO
  | .zer z c n => match zB c z with | true => .arr c (List.replicate n c.dflt) 0 | false => .zer z c n
  | o => o
def SO.isZ : SO → Bool
  | .zer .. => true
  | _ => false
def anyZ : SH → Bool
  | [] => false
  | o :: σ => match o.isZ with | true => true | false => anyZ σ
def SH.norm (σ : SH) : SH := match anyZ σ with | true => σ.map SO.norm | false => σ

/-! ### functions and loops that are known -/
structure Con where
  X : Type
  Y : Type
  dec : List SV → SH → Option X
  run : X → Option Y
  inh : Y
  val : X → Y → SH → SV
  heap : X → Y → SH → SH
  /-- some: the heap stays; the objects that it reads -/
  rd : X → Option (List Nat)

inductive LoopS where
  | one (X Y : Type) (dec : SR → SH → Option (Bool × X)) (run : X → Option Y) (out : X → Y → Exit × SR × SH)
  | two (X Y Z : Type) (dec : SR → SH → Option (Bool × X)) (run : X → Option (Y ⊕ Z)) (outY : X → Y → Exit × SR × SH) (outZ : X → Z → Exit × SR × SH)

structure Env where
  ty : TyT
  cf : FuncId → List Con
  lp : Nat → Option LoopS

def refArg (r : Ref) : SV := .c (.ptr r.id r.off)
def allE0 : List Ref → Bool
  | [] => true
  | r :: rs => match Nat.beq r.ep 0 with | true => allE0 rs | false => false

def calleeS (r : SR) (L : Tg) (f : Operand) (args : List Operand) : Option (FuncId × List SV) := match evS r L f, evlS r L args with
  | some (.c (.fn g)), some as => some (g, as)
  | some (.c (.clo g rs)), some as => match allE0 rs with | true => some (g, as ++ rs.map refArg) | false => none
  | _, _ => none

/-- the first contract that fits -/
def pickCon (as : List SV) (σ : SH) : List Con → Option ((c : Con) × c.X)
  | [] => none
  | c :: l => match c.dec as σ with
    | some x => some ⟨c, x⟩
    | none => pickCon as σ l

def callS {β : Type} (E : Env) (g : FuncId) (as : List SV) (σ : SH) (K : SV → SH → Option β) : Option β := match pickCon as σ (E.cf g) with
  | some ⟨c, x⟩ => bindO (c.run x) fun y => K (c.val x y σ) (c.heap x y σ)
  | none => none

/-- a call under a guard b: it leaves the heap -/
def callG {β : Type} (E : Env) (b : Bool) (g : FuncId) (as : List SV) (σ : SH) (K : SV → Option β) : Option β := match pickCon as σ (E.cf g) with
  | some ⟨c, x⟩ => match c.rd x with
    | some _ => bindO (bif b then c.run x else some c.inh) fun y => K (c.val x y σ)
    | none => none
  | none => none

/-- operations that leave the heap as it is -/
def quiet : Op → Bool
  | .move .. | .assign .. | .pick .. | .build .. | .load .. | .nilCheck .. | .binOp .. | .unOp .. | .convert .. | .makeFunc .. | .slice .. | .fieldAddr .. | .field .. | .indexAddr .. | .index .. | .extract .. => true
  | .call { callee := .builtin b, .. } => match b with
    | .len | .cap | .min | .max => true
    | _ => false
  | _ => false

def isCall : Op → Option (Operand × List Operand)
  | .call { callee := .value f, args, .. } => some (f, args.toList)
  | _ => none

/-- something of the kind of an operation's value -/
def deadV : Op → SV
  | .binOp b .. => match b with
    | .eql | .neq | .lss | .leq | .gtr | .geq => .c (.bo false)
    | _ => .tup []
  | .unOp .. => .c (.bo false)
  | .pick .. => .c (.bo false)
  | _ => .tup []
/-- an operation under a guard that cannot be run: the guard must be false -/
def deadG (ex : Bool) (E : Env) (r : SR) (L : Tg) (σ : SH) (op : Op) : Bool := match isCall op with
  | some (f, args) => match calleeS r L f args with
    | some (h, as) => match pickCon as σ (E.cf h) with
      | some ⟨c, x⟩ => match c.rd x with
        | some _ => false
        | none => true
      | none => true
    | none => true
  | none => match quiet op, opS ex E.ty r L σ op with
    | true, some (_, some _, _) => false
    | _, _ => true

/-- operations, one after the other -/
def opsS {β : Type} (E : Env) (N : Nat) : List COp → SR → SH → (SR → SH → Option β) → Option β
  | [], r, σ, K => K r (SH.norm σ)
  | ⟨d, op, g, k⟩ :: os, r, σ, K => match dstOk N d with
    | false => none
    | true => match g with
      | none => match isCall op with
        | some (f, args) => match calleeS r [] f args with
          | some (h, as) => callS E h as σ fun v σ' => match r.put d [] (some v) with
            | some r' => opsS E N os (r'.kill k) (SH.norm σ') K
            | none => none
          | none => none
        | none => match opS false E.ty r [] σ op with
          | some (p, v, σ') => match r.put d [] v with
            | some r' => bif p then opsS E N os (r'.kill k) σ' K else none
            | none => none
          | none => none
      | some (gd, w) => match r.get gd with
        | some (tg, .c (.bo b)) => match deadG false E r ((gd, w) :: tg) σ op with
          | true => match r.put d ((gd, w) :: tg) (some (deadV op)) with
            | some r' => bif r.holds ((gd, w) :: tg) then none else opsS E N os (r'.kill k) σ K
            | none => none
          | false => match isCall op with
          | some (f, args) => match calleeS r ((gd, w) :: tg) f args with
            | some (h, as) => callG E (r.holds ((gd, w) :: tg)) h as σ fun v => match r.put d ((gd, w) :: tg) (some v) with
              | some r' => opsS E N os (r'.kill k) σ K
              | none => none
            | none => none
          | none => match quiet op, opS false E.ty r ((gd, w) :: tg) σ op with
            | true, some (p, some v, _) => match r.put d ((gd, w) :: tg) (some v) with
              | some r' => bif (p || !(r.holds ((gd, w) :: tg))) then opsS E N os (r'.kill k) σ K else none
              | none => none
            | _, _ => none
        | _ => none

/-! ### regions that draw their order -/
def idsS : Option SV → List Nat
  | some (.c (.ptr id _)) => [id + 1]
  | some (.c (.el id ..)) => [id + 1]
  | some (.c (.sl id ..)) => [id + 1]
  | _ => []

def newIds (σ σ' : SH) (rs : List Nat) : List Nat × List Nat := match Nat.beq σ'.length σ.length with
  | true => ([], [])
  | false => (0 :: rs, [0, σ.length + 1])

/-- what an operation reads and writes -/
def footS (r : SR) (L : Tg) (σ σ' : SH) (op : Op) : Option (List Nat × List Nat) := match op with
  | .load _ a => some (idsS (evS r L a), [])
  | .store _ a _ => some (idsS (evS r L a), idsS (evS r L a))
  | .alloc .. | .box .. | .makeSlice .. | .buildSlice .. => some (newIds σ σ' [])
  | .slice _ v _ _ _ => some (idsS (evS r L v), [])
  | .call { callee := .builtin b, args, .. } => match b with
    | .append => match args.toList with
      | [s, v] => match Nat.beq σ'.length σ.length with
        | true => some (idsS (evS r L s) ++ idsS (evS r L v), idsS (evS r L s))
        | false => some (0 :: (idsS (evS r L s) ++ idsS (evS r L v)), [0, σ.length + 1])
      | _ => none
    | .cap => match args.toList with
      | [s] => some (idsS (evS r L s), [])
      | _ => none
    | .copy => none
    | .len | .min | .max => some ([], [])
    | _ => none
  | .binOp _ _ _ y _ => match isNilConst y with | true => none | false => some ([], [])
  | _ => some ([], [])

def drawS {β : Type} (E : Env) (N : Nat) : List COp → Nat → List Nat → DrawLog → SR → SH → (SR → SH → Option β) → Option β
  | [], _, _, _, r, σ, K => K r (SH.norm σ)
  | ⟨d, op, g, _⟩ :: os, j, bef, log, r, σ, K => match dstOk N d with
    | false => none
    | true => match g with
      | none => match isCall op with
        | some (f, args) => match calleeS r [] f args with
          | some (h, as) => match pickCon as σ (E.cf h) with
            | some ⟨c, x⟩ => match c.rd x with
              | some rs => match freeOf (bef.headD 0) rs [] log with
                | true => bindO (c.run x) fun y => match r.put d [] (some (c.val x y σ)) with
                  | some r' => drawS E N os (j + 1) bef.tail ((j, rs, []) :: log) r' σ K
                  | none => none
                | false => none
              | none => bindO (c.run x) fun y => match Nat.ble σ.length (c.heap x y σ).length, freeOf (bef.headD 0) (List.range (σ.length + 1)) (List.range ((c.heap x y σ).length + 1)) log, r.put d [] (some (c.val x y σ)) with
                | true, true, some r' => drawS E N os (j + 1) bef.tail ((j, List.range (σ.length + 1), List.range ((c.heap x y σ).length + 1)) :: log) r' (c.heap x y σ) K
                | _, _, _ => none
            | none => none
          | none => none
        | none => match opS true E.ty r [] σ op with
          | some (p, v, σ') => match r.put d [] v, footS r [] σ σ' op with
            | some r', some (rs, ws) => match freeOf (bef.headD 0) rs ws log with
              | true => bif p then drawS E N os (j + 1) bef.tail ((j, rs, ws) :: log) r' σ' K else none
              | false => none
            | _, _ => none
          | none => none
      | some (gd, w) => match r.get gd with
        | some (tg, .c (.bo b)) => match deadG true E r ((gd, w) :: tg) σ op with
          | true => match r.put d ((gd, w) :: tg) (some (deadV op)) with
            | some r' => bif r.holds ((gd, w) :: tg) then none else drawS E N os (j + 1) bef.tail ((j, [], []) :: log) r' σ K
            | none => none
          | false => match isCall op with
          | some (f, args) => match calleeS r ((gd, w) :: tg) f args with
            | some (h, as) => match pickCon as σ (E.cf h) with
              | some ⟨c, x⟩ => match c.rd x with
                | some rs => match freeOf (bef.headD 0) rs [] log with
                  | true => bindO (bif r.holds ((gd, w) :: tg) then c.run x else some c.inh) fun y => match r.put d ((gd, w) :: tg) (some (c.val x y σ)) with
                    | some r' => drawS E N os (j + 1) bef.tail ((j, rs, []) :: log) r' σ K
                    | none => none
                  | false => none
                | none => none
              | none => none
            | none => none
          | none => match quiet op, opS true E.ty r ((gd, w) :: tg) σ op with
            | true, some (p, some v, _) => match r.put d ((gd, w) :: tg) (some v), footS r ((gd, w) :: tg) σ σ op with
              | some r', some (rs, ws) => match freeOf (bef.headD 0) rs ws log with
                | true => bif (p || !(r.holds ((gd, w) :: tg))) then drawS E N os (j + 1) bef.tail ((j, rs, ws) :: log) r' σ K else none
                | false => none
              | _, _ => none
            | _, _ => none
        | _ => none

/-! ### regions with several new slices: each is put where a place waits -/
def waitS : SO := .st [.arr (.int .u8) ([0] : List Int) (some 0)] 1 0
def oneZero : (c : Ly) → List c.ty → Bool
  | .int .u8, (xs : List Int) => match xs with
    | [x] => match x with
      | .ofNat n => Nat.beq n 0
      | _ => false
    | _ => false
  | _, _ => false
def isWaitS : SO → Bool
  | .st [.arr c xs (some 0)] 1 0 => oneZero c xs
  | _ => false
def cntMk : List COp → Nat
  | [] => 0
  | ⟨_, .makeSlice .., _, _⟩ :: os => cntMk os + 1
  | _ :: os => cntMk os
def drawSW {β : Type} (E : Env) (N : Nat) : List COp → Nat → List Nat → DrawLog → Nat → SR → SH → (SR → SH → Option β) → Option β
  | [], _, _, _, _, r, σ, K => K r (SH.norm σ)
  | ⟨d, op, g, _⟩ :: os, j, bef, log, q, r, σ, K => match dstOk N d, g with
    | true, none => match op with
      | .makeSlice t l c => match evS r [] l, evS r [] c with
        | some u, some v => match makeSliceS E.ty [] t u v, σ[q]? with
          | some (p, .c (.sl _ _ es _ n cap), [o]), some ow => match isWaitS ow, freeOf (bef.headD 0) [q + 1] [q + 1] log, r.put d [] (some (.c (.sl q 0 es 0 n cap))) with
            | true, true, some r' => bif p then drawSW E N os (j + 1) bef.tail ((j, [q + 1], [q + 1]) :: log) (q + 1) r' (σ.set q o) K else none
            | _, _, _ => none
          | _, _ => none
        | _, _ => none
      | op => match isCall op, opS true E.ty r [] σ op with
        | none, some (p, v, σ') => match r.put d [] v, footS r [] σ σ' op with
          | some r', some (rs, ws) => match freeOf (bef.headD 0) rs ws log with
            | true => bif p then drawSW E N os (j + 1) bef.tail ((j, rs, ws) :: log) q r' σ' K else none
            | false => none
          | _, _ => none
        | _, _ => none
    | _, _ => none

/-! ### code -/
def CC.nl : CC → Nat
  | .seq a b => a.nl + b.nl
  | .cond _ a b => a.nl + b.nl
  | .block _ a => a.nl
  | .loop a => a.nl + 1
  | .rng _ _ a b => a.nl + b.nl + 1
  | _ => 0

/-- operations that are run for their registers alone -/
def opsM (ty : TyT) (N : Nat) : List COp → SR → SH → Option (Bool × SR)
  | [], r, _ => some (true, r)
  | ⟨d, op, g, _⟩ :: os, r, σ => match dstOk N d, isCall op, quiet op with
    | true, none, true => match g with
      | none => match opS false ty r [] σ op with
        | some (p, v, _) => match r.put d [] v with
          | some r' => match opsM ty N os r' σ with
            | some (q, r'') => some (p && q, r'')
            | none => none
          | none => none
        | none => none
      | some (gd, w) => match r.get gd with
        | some (tg, .c (.bo _)) => match opS false ty r ((gd, w) :: tg) σ op with
          | some (p, some v, _) => match r.put d ((gd, w) :: tg) (some v) with
            | some r' => match opsM ty N os r' σ with
              | some (q, r'') => some ((p || !(r.holds ((gd, w) :: tg))) && q, r'')
              | none => none
            | none => none
          | _ => none
        | _ => none
    | _, _, _ => none
def dstsOf : List COp → List Nat
  | [] => []
  | o :: os => match o.d with | some d => d :: dstsOf os | none => dstsOf os
def writes : CC → List Nat
  | .reg ops => dstsOf ops
  | .seq a b => writes a ++ writes b
  | .cond _ a b => writes a ++ writes b
  | _ => []

def mergeR (b : Bool) (r1 r2 : SR) : List Nat → SR → Option SR
  | [], r => some r
  | t :: ts, r => match r.free t with
    | true => match r1.get t, r2.get t with
      | some ([], x), some ([], y) => match mergeV b x y with
        | some v => mergeR b r1 r2 ts (r.set t ([], v))
        | none => mergeR b r1 r2 ts (r.del t)
      | _, _ => mergeR b r1 r2 ts (r.del t)
    | false => none

/-- p where t, q where not t -/
def condB (t p q : Bool) : Bool := bif p then (bif q then true else t) else (bif t then false else q)

def runM (ty : TyT) (N : Nat) : CC → SR → SH → Option (Bool × SR)
  | .skip, r, _ => some (true, r)
  | .reg ops, r, σ => opsM ty N ops r σ
  | .seq a b, r, σ => match runM ty N a r σ with
    | some (p, r1) => match runM ty N b r1 (SH.norm σ) with
      | some (q, r2) => some (p && q, r2)
      | none => none
    | none => none
  | .cond c a b, r, σ => match evS r [] c with
    | some (.c (.bo t)) => match runM ty N a r σ, runM ty N b r σ with
      | some (p, r1), some (q, r2) => match mergeR t r1 r2 (writes a ++ writes b) r with
        | some r' => some (condB t p q, r')
        | none => none
      | _, _ => none
    | _ => none
  | _, _, _ => none

def exec {β : Type} (E : Env) (N : Nat) : CC → Nat → SR → SH → (Exit → SR → SH → Option β) → Option β
  | .skip, _, r, σ, K => K .normal r σ
  | .reg ops, _, r, σ, K => opsS E N ops r σ (K .normal)
  | .drw ops bef, _, r, σ, K => match Nat.ble 2 (cntMk ops) with
    | true => drawSW E N ops 0 bef [] σ.length r (σ ++ List.replicate (cntMk ops) waitS) (K .normal)
    | false => drawS E N ops 0 bef [] r σ (K .normal)
  | .seq a b, i, r, σ, K => exec E N a i r σ fun e r' σ' => match e with
    | .normal => exec E N b (i + a.nl) r' σ' K
    | e => K e r' σ'
  | .cond c a b, i, r, σ, K => match evS r [] c with
    | some (.c (.bo t)) => match runM E.ty N (.cond c a b) r σ with
      | some (p, r') => bif p then K .normal r' (SH.norm σ) else none
      | none => bif t then exec E N a i r σ K else exec E N b (i + a.nl) r σ K
    | _ => none
  | .block id a, i, r, σ, K => exec E N a i r σ fun e r' σ' => match e with
    | .exit k => match Nat.beq k id with
      | true => K .normal r' σ'
      | false => K (.exit k) r' σ'
    | e => K e r' σ'
  | .loop _, i, r, σ, K => match E.lp i with
    | some (.one _ _ dec run out) => match dec r σ with
      | some (p, x) => bif p then bindO (run x) (fun y => K (out x y).1 (out x y).2.1 (out x y).2.2) else none
      | none => none
    | some (.two _ _ _ dec run outY outZ) => match dec r σ with
      | some (p, x) => bif p then bindO (run x) (fun s => sumC s (fun y => K (outY x y).1 (outY x y).2.1 (outY x y).2.2) (fun z => K (outZ x z).1 (outZ x z).2.1 (outZ x z).2.2)) else none
      | none => none
    | none => none
  | .exit id, _, r, σ, K => K (.exit id) r σ
  | .ret, _, r, σ, K => K .ret r σ
  | .rng .., _, _, _, _ => none

end Go.Abs
