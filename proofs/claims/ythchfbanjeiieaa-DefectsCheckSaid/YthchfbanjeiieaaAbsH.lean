/-
  A general library: code without its text positions and edges; the weakest precondition on it.
-/
import Derived.Test.YthchfbanjeiieaaAbsG
set_option linter.unusedSimpArgs false
set_option linter.unusedVariables false
namespace Go.Abs

/-- an operation: where its value goes, what it is, its guard (a register and the value wanted), the registers that are not read behind it -/
structure COp where
  d : Option Nat
  op : Op
  g : Option (Nat × Bool)
  k : List Nat

inductive CC where
  | skip
  | reg (ops : List COp)
  | drw (ops : List COp) (bef : List Nat)
  | seq (a b : CC)
  | cond (c : Operand) (a b : CC)
  | block (id : Nat) (a : CC)
  | loop (a : CC)
  | exit (id : Nat)
  | ret
  | rng (f : Operand) (ps : Array Tmp) (a b : CC)

def stripOps (all : Array Oper) : List Oper → List (List Nat) → Option (List COp)
  | [], _ => some []
  | o :: os, ks => match (match o.guard with | none => some none | some (j, want) => match (all[j]?).bind (·.dst) with | some d => some (some (d, want)) | none => none), stripOps all os ks.tail with
    | some g, some cs => some (⟨o.dst, o.op, g, ks.headD []⟩ :: cs)
    | _, _ => none

/-- what the order of a region must keep, as far as its registers are concerned -/
def tmpsOf (o : Oper) (all : Array Oper) : List Nat :=
  (o.op.operands.toList.filterMap fun | .tmp t => some t | _ => none) ++ (match o.guard with | some (j, _) => ((all[j]?).bind (·.dst)).toList | none => [])

def drawOk (ops : Array Oper) : Bool :=
  let B := Region.before ops
  ops.toList.zipIdx.all fun (o, j) =>
    o.after.all (fun e => !Region.binds .any e || decide (e.on < j)) &&
    (List.range j).all fun i =>
      (!(B.getD j 0).testBit i || o.after.any fun e => Region.binds .any e && (e.on == i || decide (i < e.on) && (B.getD e.on 0).testBit i)) &&
      match ops[i]? with
      | some p =>
        let clash := (match p.dst with | some d => (tmpsOf o ops).contains d || o.dst == some d | none => false) || (match o.dst with | some d => (tmpsOf p ops).contains d | none => false)
        !clash || (B.getD j 0).testBit i
      | none => true

abbrev KS := List (List (List Nat))

def strip : Code → KS → Option (CC × KS)
  | .skip, ks => some (.skip, ks)
  | .region _ ops false, ks => (stripOps ops ops.toList (ks.headD [])).map fun c => (.reg c, ks.tail)
  | .region _ ops true, ks => if drawOk ops then (stripOps ops ops.toList (ks.headD [])).map fun c => (.drw c (Region.before ops).toList, ks.tail) else none
  | .seq a b, ks => match strip a ks with
    | some (x, ks) => match strip b ks with
      | some (y, ks) => some (.seq x y, ks)
      | none => none
    | none => none
  | .cond c a b, ks => match strip a ks with
    | some (x, ks) => match strip b ks with
      | some (y, ks) => some (.cond c x y, ks)
      | none => none
    | none => none
  | .block id a, ks => match strip a ks with
    | some (x, ks) => some (.block id x, ks)
    | none => none
  | .loop a, ks => match strip a ks with
    | some (x, ks) => some (.loop x, ks)
    | none => none
  | .exit id, ks => some (.exit id, ks)
  | .ret, ks => some (.ret, ks)
  | .rangeFunc f ps a b, ks => match strip a ks with
    | some (x, ks) => match strip b ks with
      | some (y, ks) => some (.rng f ps x y, ks)
      | none => none
    | none => none
  | _, _ => none

def Regs.kill (r : Regs) : List Nat → Regs
  | [] => r
  | t :: ts => Regs.kill (r.del t) ts

/- a mark that ties an argument: simp does not enter what a later argument names in its type -/
universe u
structure Tag {β : Sort u} (b : β) : Type where
  mk ::

/-- combinators whose last arguments simp does not enter -/
def onDst (b : Bool) (X : Prop) (_ : Tag X) : Prop := b = true ∧ X
def onGuard (g : Option Bool) (A B : Prop) (_ : Tag A) (_ : Tag B) : Prop := match g with | some b => (if b = true then A else B) | none => False
def onSome {α : Type} (x : Option (α × Heap)) (K : α → Heap → Prop) (_ : Tag K) : Prop := match x with | some (a, b) => K a b | none => False
def onBool (v : Option AV) (A B : Prop) (_ : Tag A) (_ : Tag B) : Prop := match v with | some (.c (.t (.bool t))) => (if t = true then A else B) | _ => False
def onIf (b : Prop) (A : Prop) (_ : Tag A) : Prop := b → A
def onOpt {α : Type} (v : Option α) (K : α → Prop) (_ : Tag K) : Prop := match v with | some a => K a | none => False

theorem onDst_true (X : Prop) (t : Tag X) : onDst true X t = X := by simp [onDst]
theorem onGuard_true (A B : Prop) (t : Tag A) (u : Tag B) : onGuard (some true) A B t u = A := by simp [onGuard]
theorem onGuard_false (A B : Prop) (t : Tag A) (u : Tag B) : onGuard (some false) A B t u = B := by simp [onGuard]
theorem onGuard_if (b : Bool) (A B : Prop) (t : Tag A) (u : Tag B) : onGuard (some b) A B t u = ((b = true → A) ∧ (b = false → B)) := by cases b <;> simp [onGuard]
theorem onSome_some {α : Type} (a : α) (b : Heap) (K : α → Heap → Prop) (t : Tag K) : onSome (some (a, b)) K t = K a b := rfl
theorem onBool_true (A B : Prop) (t : Tag A) (u : Tag B) : onBool (some (.c (.t (.bool true)))) A B t u = A := by simp [onBool]
theorem onBool_false (A B : Prop) (t : Tag A) (u : Tag B) : onBool (some (.c (.t (.bool false)))) A B t u = B := by simp [onBool]
theorem onBool_if (b : Bool) (A B : Prop) (t : Tag A) (u : Tag B) : onBool (some (.c (.t (.bool b)))) A B t u = ((b = true → A) ∧ (b = false → B)) := by cases b <;> simp [onBool]
theorem onIf_false (A : Prop) (t : Tag A) : onIf False A t = True := by simp [onIf]
theorem onIf_true (A : Prop) (t : Tag A) : onIf True A t = A := by simp [onIf]
theorem onOpt_some {α : Type} (a : α) (K : α → Prop) (t : Tag K) : onOpt (some a) K t = K a := rfl

def guardC (r : Regs) : Option (Nat × Bool) → Option Bool
  | none => some true
  | some (d, want) => match r.get d with
    | some v => guardV v want
    | none => none

/-- the function that a call leads to, and all its arguments -/
def callE (r : Regs) (f : Operand) (args : List Operand) : Option (FuncId × List AV) := match ev r f, evl r args with
  | some fv, some as => match callTarget fv with
    | some (g, caps) => some (g, as ++ caps)
    | none => none
  | _, _ => none

def callK (P : Program) (g : FuncId) (args : List AV) (σ : Heap) (K : Option AV → Heap → Prop) (_ : Tag K) : Prop := FnOk P g args σ fun v σ' => K (some v) σ'

def nilK (σ : Heap) (K : Option AV → Heap → Prop) (_ : Tag K) (x : Nat × Bool) : Prop := K (some (aB x.2)) σ ∧ onIf (x.1 = 0) (K (some (aB !x.2)) σ) ⟨⟩

def stepC (P : Program) (r : Regs) (σ : Heap) (op : Op) (K : Option AV → Heap → Prop) (t : Tag K) : Prop :=
  match op with
  | .call { callee := .value f, args, argTypes := _ } => onOpt (callE r f args.toList) (fun x => callK P x.1 x.2 σ K t) ⟨⟩
  | .binOp b xT x y yT => if isNilConst y then (match tinf P xT with
      | some i => (match i.kind with
        | .slice _ => onOpt (nilTest P r (.binOp b xT x y yT)) (nilK σ K t) ⟨⟩
        | _ => onSome (opE P r σ (.binOp b xT x y yT)) K t)
      | none => False) else onSome (opE P r σ (.binOp b xT x y yT)) K t
  | op => onSome (opE P r σ op) K t

theorem stepC_eq {P : Program} {r : Regs} {σ : Heap} {o : Oper} {K : Option AV → Heap → Prop} {t : Tag K} (h : stepC P r σ o.op K t) : stepOk P r σ o K := by
  unfold stepC at h
  unfold stepOk
  split at h
  · rename_i f args ts hop
    rw [hop]
    simp only
    unfold callE onOpt at h
    split at h
    · rename_i x hx
      split at hx
      · rename_i fv as h1 h2
        split at hx
        · rename_i g caps h3
          injection hx with hx
          subst hx
          rw [h1, h2]
          simp only [h3]
          exact h
        · cases hx
      · cases hx
    · exact h.elim
  · rename_i b xT x y yT hop
    rw [hop]
    simp only
    split at h
    · rename_i hy
      split at h
      · rename_i i hi
        split at h
        · rename_i e hk
          unfold onOpt at h
          split at h
          · rename_i p hp
            rw [hp]
            exact h
          · exact h.elim
        · rename_i hne
          have hn : nilTest P r (.binOp b xT x y yT) = none := by
            simp only [nilTest, hy, if_true, hi]
            split
            · rename_i i' v ne e1 e2 e3
              injection e1 with e1
              subst e1
              split
              · rename_i e n hk _
                exact absurd hk (hne e)
              · rfl
            · rfl
          rw [hn]
          unfold onSome at h
          split at h
          · rename_i a b' hab
            rw [hab]
            exact h
          · exact h.elim
      · exact h.elim
    · rename_i hy
      have hn : nilTest P r (.binOp b xT x y yT) = none := by
        simp only [nilTest, hy]
        rfl
      rw [hn]
      unfold onSome at h
      split at h
      · rename_i a b' hab
        rw [hab]
        exact h
      · exact h.elim
  · rename_i h1 h2
    have hn : nilTest P r o.op = none := by
      unfold nilTest
      split
      · rename_i b xT x y yT hop
        exact absurd hop (h2 b xT x y yT)
      · rfl
    split
    · rename_i f args ts hop
      exact absurd hop (h1 f args ts)
    · rw [hn]
      unfold onSome at h
      split at h
      · rename_i a b' hab
        rw [hab]
        exact h
      · exact h.elim

def opsC (P : Program) (N : Nat) : List COp → Regs → Heap → (K : Regs → Heap → Prop) → Tag K → Prop
  | [], r, σ, K, _ => K r σ
  | ⟨d, op, g, k⟩ :: os, r, σ, K, t => onDst (dstOk N d) (onGuard (guardC r g) (stepC P r σ op (fun res σ' => opsC P N os ((r.putR d res).kill k) σ' K t) ⟨⟩) (opsC P N os ((r.drop d).kill k) σ K t) ⟨⟩ ⟨⟩) ⟨⟩

def DrawQ (P : Program) (N : Nat) (ro : Option Nat) (cs : List COp) (bef : List Nat) (r : Regs) (σ : Heap) (Q : Exit → Regs → Heap → Prop) (_ : Tag Q) : Prop :=
  ∀ id ops ks, stripOps ops ops.toList ks = some cs → bef = (Region.before ops).toList → drawOk ops = true → CodeOk P N ro (.region id ops true) r σ Q

def LoopQ (P : Program) (N : Nat) (ro : Option Nat) (C : CC) (r : Regs) (σ : Heap) (Q : Exit → Regs → Heap → Prop) (_ : Tag Q) : Prop :=
  ∀ c ks ks', strip c ks = some (C, ks') → CodeOk P N ro (.loop c) r σ Q

def RangeQ (P : Program) (N : Nat) (ro : Option Nat) (f : Operand) (ps : Array Tmp) (A B : CC) (r : Regs) (σ : Heap) (Q : Exit → Regs → Heap → Prop) (_ : Tag Q) : Prop :=
  ∀ a b ks ks' ks'', strip a ks = some (A, ks') → strip b ks' = some (B, ks'') → CodeOk P N ro (.rangeFunc f ps a b) r σ Q

/-- the weakest precondition, by recursion on the code -/
def wpq (P : Program) (N : Nat) (ro : Option Nat) : CC → Regs → Heap → (Q : Exit → Regs → Heap → Prop) → Tag Q → Prop
  | .skip, r, σ, Q, _ => Q .normal r σ
  | .reg ops, r, σ, Q, _ => opsC P N ops r σ (Q .normal) ⟨⟩
  | .drw ops bef, r, σ, Q, t => DrawQ P N ro ops bef r σ Q t
  | .seq x y, r, σ, Q, t => wpq P N ro x r σ (fun e r' σ' => match e with | .normal => wpq P N ro y r' σ' Q t | e => Q e r' σ') ⟨⟩
  | .cond c x y, r, σ, Q, t => onBool (ev r c) (wpq P N ro x r σ Q t) (wpq P N ro y r σ Q t) ⟨⟩ ⟨⟩
  | .block id c, r, σ, Q, _ => wpq P N ro c r σ (fun e r' σ' => match e with | .exit i => if i = id then Q .normal r' σ' else Q (.exit i) r' σ' | e => Q e r' σ') ⟨⟩
  | .loop c, r, σ, Q, t => LoopQ P N ro c r σ Q t
  | .exit id, r, σ, Q, _ => Q (.exit id) r σ
  | .ret, r, σ, Q, _ => Q .ret r σ
  | .rng f ps x y, r, σ, Q, t => RangeQ P N ro f ps x y r σ Q t

section
variable {P : Program} {N : Nat} {ro : Option Nat}

theorem Regs.get_del_some {r : Regs} {t t' : Nat} {v : AV} (h : (r.del t).get t' = some v) : r.get t' = some v := by
  by_cases e : t = t'
  · subst e; rw [Regs.get_del_same] at h; cases h
  · rw [Regs.get_del_ne _ e] at h; exact h

theorem RegR.sub {ι : Map} {w : World} {r r' : Regs} {a : Act} (h : RegR N ι w r a) (hs : ∀ t v, r'.get t = some v → r.get t = some v) : RegR N ι w r' a :=
  ⟨h.size, fun t v hv => h.get t v (hs t v hv)⟩

theorem Regs.get_kill_some : ∀ {ts : List Nat} {r : Regs} {t : Nat} {v : AV}, (r.kill ts).get t = some v → r.get t = some v
  | [], _, _, _, h => h
  | _ :: ts, r, _, _, h => Regs.get_del_some (Regs.get_kill_some (ts := ts) h)

theorem guardC_ok {all : Array Oper} {r : Regs} {o : Oper} {g : Option (Nat × Bool)} (h : (match o.guard with | none => some none | some (j, want) => match (all[j]?).bind (·.dst) with | some d => some (some (d, want)) | none => none) = some g) :
    guardC r g = guardE all r o.guard := by
  cases hg : o.guard with
  | none =>
    rw [hg] at h
    simp only [Option.some.injEq] at h
    subst h
    rfl
  | some p =>
    obtain ⟨j, want⟩ := p
    rw [hg] at h
    simp only at h
    split at h
    · rename_i d hd
      injection h with h
      subst h
      simp only [guardC, guardE, hd]
      rfl
    · cases h

theorem opsC_ok {ops : Array Oper} {K : Regs → Heap → Prop} {ι₀ : Map} {σ₀ : Heap} {w₀ : World} {a₀ : Act} {Q : Exit → Regs → Heap → Prop} (hQ : ∀ r σ, K r σ → Q .normal r σ) :
    ∀ (os : List Oper) (cs : List COp) (ks : List (List Nat)), stripOps ops os ks = some cs → ∀ (k : Nat), os = ops.toList.drop k → ∀ {r : Regs} {σ : Heap} {t : Tag K}, opsC P N cs r σ K t → ∀ {ι : Map} {w : World} {a : Act}, HR ι σ w → RegR N ι w r a → Step ι₀ σ₀ w₀ ι σ w → a.defers = a₀.defers →
      wpOpsIn (wr ro) 0 P ops (post N Q ι₀ σ₀ w₀ a₀) (List.range' k (ops.size - k)) a w
  | [], cs, ks, hst, k, hk, r, σ, tg, h, ι, w, a, hh, hr, hs, hd => by
    simp only [stripOps, Option.some.injEq] at hst
    subst hst
    have hlen : ops.toList.length ≤ k := List.drop_eq_nil_iff.1 hk.symm
    have : ops.size - k = 0 := by simp at hlen; omega
    rw [this]
    exact ⟨trivial, r, σ, ι, [], hQ r σ h, hh, hr, hs, hd, Marks.nil _ _⟩
  | o :: os, cs, ks, hst, k, hk, r, σ, tg, h, ι, w, a, hh, hr, hs, hd => by
    simp only [stripOps] at hst
    split at hst
    · rename_i g cs' hg hcs
      injection hst with hst
      subst hst
      have hlt : k < ops.size := by
        have : (ops.toList.drop k).length = os.length + 1 := by rw [← hk]; rfl
        simp at this; omega
      have hok : ops[k]? = some o := by
        have : (ops.toList.drop k)[0]? = some o := by rw [← hk]; rfl
        simpa using this
      have hos : os = ops.toList.drop (k + 1) := by
        have : (ops.toList.drop k).tail = os := by rw [← hk]; rfl
        rw [← this]; simp
      have hr' : List.range' k (ops.size - k) = k :: List.range' (k + 1) (ops.size - (k + 1)) := by
        have : ops.size - k = (ops.size - (k + 1)) + 1 := by omega
        rw [this, List.range'_succ]
      rw [hr']
      obtain ⟨hdst, h⟩ := h
      simp only [wpOpsIn, hok]
      rw [guardC_ok hg] at h
      unfold onGuard at h
      split at h
      · rename_i b hb
        have hw := guard_ok hr hb
        rw [hw]
        cases b with
        | true =>
          simp only [if_true] at h ⊢
          refine step_ok hh hr hdst (K := fun res σ' => opsC P N cs' ((r.putR o.dst res).kill (ks.headD [])) σ' K tg) (stepC_eq h) fun res σ' ι' w' a' hK hh' hr' hs' hd' => ?_
          exact opsC_ok hQ os cs' _ hcs (k + 1) hos hK hh' (hr'.sub fun _ _ => Regs.get_kill_some) (hs.trans hs') (hd'.trans hd)
        | false =>
          simp only [Bool.false_eq_true, if_false] at h ⊢
          refine ⟨fun _ _ => trivial, ?_⟩
          have hdf : (a.put o.dst undef).defers = a.defers := by cases o.dst <;> rfl
          exact opsC_ok hQ os cs' _ hcs (k + 1) hos h hh ((hr.drop _).sub fun _ _ => Regs.get_kill_some) hs (hdf.trans hd)
      · exact h.elim
    · cases hst

theorem wpq_ok : ∀ {c : Code} {ks ks' : KS} {C : CC}, strip c ks = some (C, ks') → ∀ {r : Regs} {σ : Heap} {Q : Exit → Regs → Heap → Prop} {t : Tag Q}, wpq P N ro C r σ Q t → CodeOk P N ro c r σ Q
  | .skip, ks, ks', C, hs, r, σ, Q, tg, h => by
    simp only [strip, Option.some.injEq, Prod.mk.injEq] at hs
    obtain ⟨rfl, rfl⟩ := hs
    exact ok_skip h
  | .region id ops false, ks, ks', C, hs, r, σ, Q, tg, h => by
    simp only [strip, Option.map_eq_some_iff, Prod.mk.injEq] at hs
    obtain ⟨cs, h1, rfl, rfl⟩ := hs
    intro ι w a hh hr
    refine wpIn_region ?_
    rw [List.range_eq_range']
    have := opsC_ok (ro := ro) (Q := Q) (a₀ := a) (fun _ _ h => h) ops.toList cs _ h1 0 (by simp) h hh hr (Step.refl ι σ w) rfl
    simpa using this
  | .region id ops true, ks, ks', C, hs, r, σ, Q, tg, h => by
    simp only [strip] at hs
    split at hs
    · rename_i hd
      simp only [Option.map_eq_some_iff, Prod.mk.injEq] at hs
      obtain ⟨cs, h1, rfl, rfl⟩ := hs
      exact h id ops _ h1 rfl hd
    · cases hs
  | .seq x y, ks, ks', C, hs, r, σ, Q, tg, h => by
    simp only [strip] at hs
    split at hs
    · rename_i X k1 hx
      split at hs
      · rename_i Y k2 hy
        injection hs with hs; injection hs with e1 e2; subst e1; subst e2
        exact ok_seq ((wpq_ok (c := x) hx h).mono fun e r' σ' hq => by
          cases e with
          | normal => exact wpq_ok (c := y) hy hq
          | _ => exact hq)
      · cases hs
    · cases hs
  | .cond c x y, ks, ks', C, hs, r, σ, Q, tg, h => by
    simp only [strip] at hs
    split at hs
    · rename_i X k1 hx
      split at hs
      · rename_i Y k2 hy
        injection hs with hs; injection hs with e1 e2; subst e1; subst e2
        simp only [wpq] at h
        unfold onBool at h
        split at h
        · rename_i t ht
          refine ok_cond ht ?_
          cases t with
          | true => exact wpq_ok (c := x) hx h
          | false => exact wpq_ok (c := y) hy h
        · exact h.elim
      · cases hs
    · cases hs
  | .block id x, ks, ks', C, hs, r, σ, Q, tg, h => by
    simp only [strip] at hs
    split at hs
    · rename_i X k1 hx
      injection hs with hs; injection hs with e1 e2; subst e1; subst e2
      exact ok_block (wpq_ok (c := x) hx h)
    · cases hs
  | .loop x, ks, ks', C, hs, r, σ, Q, tg, h => by
    simp only [strip] at hs
    split at hs
    · rename_i X k1 hx
      injection hs with hs; injection hs with e1 e2; subst e1; subst e2
      exact h x _ _ hx
    · cases hs
  | .exit id, ks, ks', C, hs, r, σ, Q, tg, h => by
    simp only [strip, Option.some.injEq, Prod.mk.injEq] at hs
    obtain ⟨rfl, rfl⟩ := hs
    exact ok_exit h
  | .ret, ks, ks', C, hs, r, σ, Q, tg, h => by
    simp only [strip, Option.some.injEq, Prod.mk.injEq] at hs
    obtain ⟨rfl, rfl⟩ := hs
    exact ok_ret h
  | .rangeFunc f ps x y, ks, ks', C, hs, r, σ, Q, tg, h => by
    simp only [strip] at hs
    split at hs
    · rename_i X k1 hx
      split at hs
      · rename_i Y k2 hy
        injection hs with hs; injection hs with e1 e2; subst e1; subst e2
        exact h x y _ _ _ hx hy
      · cases hs
    · cases hs
  | .scope c, ks, ks', C, hs, _, _, _, _, _ => by simp [strip] at hs
  | .label l, ks, ks', C, hs, _, _, _, _, _ => by simp [strip] at hs
  | .goto l, ks, ks', C, hs, _, _, _, _, _ => by simp [strip] at hs
  | .refuse s, ks, ks', C, hs, _, _, _, _, _ => by simp [strip] at hs

/-- a function, out of its stripped code -/
structure Stripped (P : Program) (f : FuncId) (N : Nat) (rs : List ResultVar) (C : CC) : Prop where
  ex : ∃ fn c ks ks', P.funcs[f]? = some fn ∧ fn.body = some c ∧ (fn.name == "runtime.NumGoroutine") = false ∧ fn.ntmps = N ∧ fn.results.toList = rs ∧ strip c ks = some (C, ks')

def bodyQ (P : Program) (rs : List ResultVar) (Q : AV → Heap → Prop) : Exit → Regs → Heap → Prop
  | .normal, r, σ => onOpt (retE P rs r σ) (fun v => Q v σ) ⟨⟩
  | .ret, r, σ => onOpt (retE P rs r σ) (fun v => Q v σ) ⟨⟩
  | _, _, _ => False

theorem fnq {f : FuncId} {rs : List ResultVar} {C : CC} (hs : Stripped P f N rs C) {args : List AV} {σ : Heap} {Q : AV → Heap → Prop} (hn : args.length ≤ N) (h : wpq P N none C (initRegs args) σ (bodyQ P rs Q) ⟨⟩) : FnOk P f args σ Q := by
  obtain ⟨fn, c, ks, ks', h1, h2, h3, rfl, rfl, h6⟩ := hs.ex
  refine fn_ok h1 h2 h3 hn ((wpq_ok h6 h).mono fun e r σ hq => ?_)
  cases e with
  | normal =>
    refine ⟨trivial, ?_⟩
    have hq' : onOpt (retE P fn.results.toList r σ) (fun v => Q v σ) ⟨⟩ := hq
    cases hv : retE P fn.results.toList r σ with
    | none => rw [hv] at hq'; exact hq'
    | some v => rw [hv] at hq'; exact hq'
  | ret =>
    refine ⟨trivial, ?_⟩
    have hq' : onOpt (retE P fn.results.toList r σ) (fun v => Q v σ) ⟨⟩ := hq
    cases hv : retE P fn.results.toList r σ with
    | none => rw [hv] at hq'; exact hq'
    | some v => rw [hv] at hq'; exact hq'
  | _ => exact False.elim hq

end
end Go.Abs
