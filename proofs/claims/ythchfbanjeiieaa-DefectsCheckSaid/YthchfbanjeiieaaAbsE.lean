/-
  A general library: code and functions over the abstract heap; the weakest precondition by recursion on code.
-/
import Derived.Test.YthchfbanjeiieaaAbsD
import Derived.RangeFuncLeaves
import Derived.RangeFuncRecord
set_option linter.unusedSimpArgs false
set_option linter.unusedVariables false
namespace Go.Abs

/-- the fence that lets everything in; ro: the round's record, in a round of a range over a function -/
def wr (ro : Option Nat) : Fence := { Fence.wide with round := ro }

def callable (P : Program) (f : FuncId) : Prop := ∃ fn, P.funcs[f]? = some fn ∧ (fn.name == "runtime.NumGoroutine") = false ∧ fn.body.isNone = false

def argsR (ι : Map) (w : World) (args : List AV) (cargs : Array Value) : Prop := cargs.size = args.length ∧ ∀ i (hi : i < args.length), ∃ u, cargs[i]? = some u ∧ VR ι w args[i] u

/-- a call: from every world that the abstract heap describes it returns, and leaves a value and a heap of Q -/
def FnOk (P : Program) (f : FuncId) (args : List AV) (σ : Heap) (Q : AV → Heap → Prop) : Prop :=
  callable P f ∧ ∀ ι w cargs, HR ι σ w → argsR ι w args cargs → CallsIn Fence.wide 0 P f cargs w fun e w' =>
    ∃ v σ' ι' cv, e = .returned cv ∧ Q v σ' ∧ VR ι' w' v cv ∧ HR ι' σ' w' ∧ Step ι σ w ι' σ' w'

/-- the marks that ranges over functions leave among the deferred calls; n: the blocks from which on they lie -/
def Marks (n : Nat) (w : World) (ms : List Deferred) : Prop :=
  (∀ d ∈ ms, ∃ b, d.target = .collected b ∧ n ≤ b ∧ w.heap[b]? = some (.deferred (some []))) ∧ ms.Pairwise fun d d' => d.target ≠ d'.target

theorem Marks.nil (n : Nat) (w : World) : Marks n w [] := ⟨fun _ h => (by cases h), .nil⟩

theorem un_mark {ι : Map} {σ : Heap} {w : World} (h : HR ι σ w) {b : Nat} {ds : Option (List Deferred)} (hb : w.heap[b]? = some (.deferred ds)) : ι.un b := by
  rintro (⟨id, s, l, h3, h4, rfl⟩ | hr)
  · obtain ⟨o, _, _, _, h5⟩ := h.obj id s h3
    rw [h4] at h5
    obtain ⟨⟨cells, elem, h6, _⟩, _⟩ := h5
    rw [h6] at hb
    cases hb
  · obtain ⟨c, e, fr, h1⟩ := h.resRow b hr
    rw [h1] at hb
    cases hb

theorem Marks.step {n : Nat} {ι ι' : Map} {σ σ' : Heap} {w w' : World} {ms : List Deferred} (h : HR ι σ w) (hs : Step ι σ w ι' σ' w') (hm : Marks n w ms) : Marks n w' ms := by
  refine ⟨fun d hd => ?_, hm.2⟩
  obtain ⟨b, h1, h0, h2⟩ := hm.1 d hd
  refine ⟨b, h1, h0, ?_⟩
  rw [hs.frame b (Array.getElem?_eq_some_iff.1 h2).1 (un_mark h h2)]
  exact h2

theorem Marks.append {n n' : Nat} {w : World} {ms ms' : List Deferred} (h : Marks n w ms) (h' : Marks n' w ms') (hn : n ≤ n') (hlt : ∀ d ∈ ms, ∀ b, d.target = .collected b → b < n') : Marks n w (ms' ++ ms) := by
  refine ⟨fun d hd => ?_, List.pairwise_append.2 ⟨h'.2, h.2, fun d hd d' hd' e => ?_⟩⟩
  · rcases List.mem_append.1 hd with hd | hd
    · obtain ⟨b, h1, h0, h2⟩ := h'.1 d hd
      exact ⟨b, h1, Nat.le_trans hn h0, h2⟩
    · exact h.1 d hd
  · obtain ⟨b, h1, h0, h2⟩ := h'.1 d hd
    have := hlt d' hd' b (e ▸ h1)
    omega

theorem Marks.lt {n : Nat} {w : World} {ms : List Deferred} (h : Marks n w ms) : ∀ d ∈ ms, ∀ b, d.target = .collected b → b < w.heap.size := fun d hd b hb => by
  obtain ⟨b', h1, h0, h2⟩ := h.1 d hd
  rw [hb] at h1
  injection h1 with h1
  subst h1
  exact (Array.getElem?_eq_some_iff.1 h2).1

def post (N : Nat) (Q : Exit → Regs → Heap → Prop) (ι : Map) (σ : Heap) (w : World) (a : Act) : Exit → Act → World → Prop := fun e a' w' =>
  (match e with | .panic _ | .outgrown => False | _ => True) ∧ ∃ r' σ' ι' ms, Q e r' σ' ∧ HR ι' σ' w' ∧ RegR N ι' w' r' a' ∧ Step ι σ w ι' σ' w' ∧ a'.defers = ms ++ a.defers ∧ Marks w.heap.size w' ms

def CodeOk (P : Program) (N : Nat) (ro : Option Nat) (c : Code) (r : Regs) (σ : Heap) (Q : Exit → Regs → Heap → Prop) : Prop :=
  ∀ ι w a, HR ι σ w → RegR N ι w r a → c.wpIn (wr ro) 0 P (post N Q ι σ w a) a w

section
variable {P : Program} {N : Nat} {ro : Option Nat}

/-- after a step, the rest -/
theorem post.trans {Q : Exit → Regs → Heap → Prop} {ι ι₁ : Map} {σ σ₁ : Heap} {w w₁ : World} {a a₁ : Act} {ms : List Deferred} (h : HR ι₁ σ₁ w₁) (hs : Step ι σ w ι₁ σ₁ w₁) (hd : a₁.defers = ms ++ a.defers) (hm : Marks w.heap.size w₁ ms) {e : Exit} {a' : Act} {w' : World}
    (hp : post N Q ι₁ σ₁ w₁ a₁ e a' w') : post N Q ι σ w a e a' w' := by
  obtain ⟨h0, r', σ', ι', ms', h1, h2, h3, h4, h5, h6⟩ := hp
  exact ⟨h0, r', σ', ι', ms' ++ ms, h1, h2, h3, hs.trans h4, by rw [h5, hd, List.append_assoc], Marks.append (hm.step h h4) h6 hs.size hm.lt⟩

theorem CodeOk.mono {c : Code} {r : Regs} {σ : Heap} {Q Q' : Exit → Regs → Heap → Prop} (h : CodeOk P N ro c r σ Q) (hq : ∀ e r σ, Q e r σ → Q' e r σ) : CodeOk P N ro c r σ Q' :=
  fun ι w a hh hr => wpIn_mono (h ι w a hh hr) fun _ _ _ ⟨h0, r', σ', ι', ms, h1, h2⟩ => ⟨h0, r', σ', ι', ms, hq _ _ _ h1, h2⟩

theorem post_refl {Q : Exit → Regs → Heap → Prop} {e : Exit} (he : match e with | .panic _ | .outgrown => False | _ => True) {r : Regs} {σ : Heap} (h : Q e r σ) {ι : Map} {w : World} {a : Act} (hh : HR ι σ w) (hr : RegR N ι w r a) : post N Q ι σ w a e a w :=
  ⟨he, r, σ, ι, [], h, hh, hr, Step.refl ι σ w, rfl, Marks.nil _ _⟩

theorem ok_skip {r : Regs} {σ : Heap} {Q : Exit → Regs → Heap → Prop} (h : Q .normal r σ) : CodeOk P N ro .skip r σ Q :=
  fun _ _ _ hh hr => wpIn_skip (post_refl trivial h hh hr)
theorem ok_exit {id : Nat} {r : Regs} {σ : Heap} {Q : Exit → Regs → Heap → Prop} (h : Q (.exit id) r σ) : CodeOk P N ro (.exit id) r σ Q :=
  fun _ _ _ hh hr => wpIn_exit (post_refl trivial h hh hr)
theorem ok_ret {r : Regs} {σ : Heap} {Q : Exit → Regs → Heap → Prop} (h : Q .ret r σ) : CodeOk P N ro .ret r σ Q :=
  fun _ _ _ hh hr => wpIn_ret (post_refl trivial h hh hr)

theorem ok_seq {x y : Code} {r : Regs} {σ : Heap} {Q : Exit → Regs → Heap → Prop} (h : CodeOk P N ro x r σ fun e r' σ' => match e with | .normal => CodeOk P N ro y r' σ' Q | e => Q e r' σ') : CodeOk P N ro (.seq x y) r σ Q :=
  fun ι w a hh hr => wpIn_seq (wpIn_mono (h ι w a hh hr) fun e a' w' hp => by
    cases e with
    | normal =>
      obtain ⟨_, r', σ', ι', ms, h1, h2, h3, h4, h5, h6⟩ := hp
      exact wpIn_mono (h1 ι' w' a' h2 h3) fun _ _ _ hp => post.trans h2 h4 h5 h6 hp
    | _ => exact hp)

theorem ok_cond {c : Operand} {x y : Code} {r : Regs} {σ : Heap} {t : Bool} (hc : ev r c = some (.c (.t (.bool t)))) {Q : Exit → Regs → Heap → Prop} (h : CodeOk P N ro (if t then x else y) r σ Q) : CodeOk P N ro (.cond c x y) r σ Q :=
  fun ι w a hh hr => wpIn_cond (bool_of (ev_ok hr hc)) (h ι w a hh hr)

theorem ok_block {id : Nat} {c : Code} {r : Regs} {σ : Heap} {Q : Exit → Regs → Heap → Prop} (h : CodeOk P N ro c r σ fun e r' σ' => match e with | .exit i => if i = id then Q .normal r' σ' else Q (.exit i) r' σ' | e => Q e r' σ') :
    CodeOk P N ro (.block id c) r σ Q :=
  fun ι w a hh hr => wpIn_block (wpIn_mono (h ι w a hh hr) fun e a' w' hp => by
    cases e with
    | exit i =>
      obtain ⟨_, r', σ', ι', ms, h1, h2⟩ := hp
      by_cases hi : i = id
      · simp only [hi, if_true] at h1
        simp only [Exit.inBlock, hi, if_true]
        exact ⟨trivial, r', σ', ι', ms, h1, h2⟩
      · simp only [hi, if_false] at h1
        simp only [Exit.inBlock, hi, if_false]
        exact ⟨trivial, r', σ', ι', ms, h1, h2⟩
    | _ => exact hp)

theorem wpIn_loop' {F : Fence} {n : Nat} {c : Code} {Q : Exit → Act → World → Prop} {a : Act} {w : World} (I : Nat → Act → World → Prop) {j : Nat} (h₀ : I j a w)
    (round : ∀ j a w, I j a w → c.wpIn F n P (Exit.then (fun a' w' => ∃ m, m < j ∧ I m a' w') Q) a w) : (Code.loop c).wpIn F n P Q a w := by
  intro b k cs hro hb hr
  have key : ∀ j a w, I j a w →
      ∃ e a' w', Q e a' w' ∧ ArrivesIn (Machine.fenced P F) P (lone (b.atR a (.code c :: .inLoop c :: k)) cs w) b k cs e a' w' := by
    intro j
    induction j using Nat.strongRecOn with
    | _ j ih =>
      intro a w hI
      obtain ⟨e, a₁, w₁, hq, harr⟩ := round j a w hI b (.inLoop c :: k) cs hro hb hr
      cases e with
      | normal =>
        obtain ⟨m, hlt, hI₁⟩ := hq
        obtain ⟨e₂, a₂, w₂, hq₂, harr₂⟩ := ih m hlt a₁ w₁ hI₁
        exact ⟨e₂, a₂, w₂, hq₂, .of_steps (StepsIn.trans harr (.one (fenced_calm hb hr rfl) stepR_inLoop)) harr₂⟩
      | exit id => exact ⟨_, a₁, w₁, hq, .pass (x := .inLoop c) rfl (fun _ _ => .inl (by simp)) harr⟩
      | goto l => exact ⟨_, a₁, w₁, hq, .pass (x := .inLoop c) rfl (fun _ _ => .inl (by simp)) harr⟩
      | ret => exact ⟨_, a₁, w₁, hq, .pass (x := .inLoop c) rfl (fun _ _ => .inl (by simp)) harr⟩
      | panic ch => exact ⟨_, a₁, w₁, hq, .pass (x := .inLoop c) rfl (fun _ _ => .inl (by simp)) harr⟩
      | outgrown => exact ⟨_, a₁, w₁, hq, .pass (x := .inLoop c) rfl (fun _ _ => .inl (by simp)) harr⟩
  obtain ⟨e, a', w', hq, harr⟩ := key j a w h₀
  exact ⟨e, a', w', hq, .of_steps (.one (fenced_calm hb hr rfl) stepR_loop) harr⟩

/-- a ghost step: another description of the same world -/
def Ghost (N : Nat) (r : Regs) (σ : Heap) (r' : Regs) (σ' : Heap) : Prop :=
  ∀ ι w a, HR ι σ w → RegR N ι w r a → ∃ ι', HR ι' σ' w ∧ RegR N ι' w r' a ∧ Step ι σ w ι' σ' w

theorem ok_ghost {c : Code} {r r' : Regs} {σ σ' : Heap} {Q : Exit → Regs → Heap → Prop} (hg : Ghost N r σ r' σ') (h : CodeOk P N ro c r' σ' Q) : CodeOk P N ro c r σ Q := fun ι w a hh hr => by
  obtain ⟨ι', h1, h2, h3⟩ := hg ι w a hh hr
  exact wpIn_mono (h ι' w a h1 h2) fun _ _ _ hp => post.trans (ms := []) h1 h3 rfl (Marks.nil _ _) hp

/-- a loop: I n r σ holds at each round's head, n goes down; a round may end with a ghost step -/
theorem ok_loop {c : Code} (I : Nat → Regs → Heap → Prop) {n : Nat} {r : Regs} {σ : Heap} {Q : Exit → Regs → Heap → Prop} (h0 : I n r σ)
    (round : ∀ n r σ, I n r σ → CodeOk P N ro c r σ fun e r' σ' => match e with | .normal => ∃ m r'' σ'', m < n ∧ Ghost N r' σ' r'' σ'' ∧ I m r'' σ'' | e => Q e r' σ') : CodeOk P N ro (.loop c) r σ Q := fun ι w a hh hr => by
  refine wpIn_loop' (fun j a' w' => ∃ r' σ' ι' ms, I j r' σ' ∧ HR ι' σ' w' ∧ RegR N ι' w' r' a' ∧ Step ι σ w ι' σ' w' ∧ a'.defers = ms ++ a.defers ∧ Marks w.heap.size w' ms) (j := n)
    ⟨r, σ, ι, [], h0, hh, hr, Step.refl ι σ w, rfl, Marks.nil _ _⟩ ?_
  rintro j a1 w1 ⟨r1, σ1, ι1, ms1, h1, h2, h3, h4, h5, h6⟩
  refine wpIn_mono (round j r1 σ1 h1 ι1 w1 a1 h2 h3) fun e a2 w2 hp => ?_
  have hp' := hp
  obtain ⟨h0', r2, σ2, ι2, ms2, h7, h8, h9, h10, h11, h12⟩ := hp
  have hm : Marks w.heap.size w2 (ms2 ++ ms1) := Marks.append (h6.step h2 h10) h12 h4.size h6.lt
  have hd : a2.defers = (ms2 ++ ms1) ++ a.defers := by rw [h11, h5, List.append_assoc]
  cases e with
  | normal =>
    obtain ⟨m, r3, σ3, hlt, hg, hI⟩ := h7
    obtain ⟨ι3, h13, h14, h15⟩ := hg ι2 w2 a2 h8 h9
    exact ⟨m, hlt, r3, σ3, ι3, ms2 ++ ms1, hI, h13, h14, (h4.trans h10).trans h15, hd, hm⟩
  | exit id => exact ⟨trivial, r2, σ2, ι2, ms2 ++ ms1, h7, h8, h9, h4.trans h10, hd, hm⟩
  | goto l => exact ⟨trivial, r2, σ2, ι2, ms2 ++ ms1, h7, h8, h9, h4.trans h10, hd, hm⟩
  | ret => exact ⟨trivial, r2, σ2, ι2, ms2 ++ ms1, h7, h8, h9, h4.trans h10, hd, hm⟩
  | panic ch => exact h0'.elim
  | outgrown => exact h0'.elim

/-! ### regions -/
def callTarget (v : AV) : Option (FuncId × List AV) := match v with
  | .c (.t (.fn f caps)) => some (f, caps.map fun t => .c (.t t))
  | .c (.clo f rs) => some (f, rs.map fun r => .c (.ptr r))
  | _ => none

/-- a guard's register, and the value wanted; a register that was passed over holds the empty tuple -/
def guardV (v : AV) (want : Bool) : Option Bool := match v with
  | .c (.t (.bool b)) => some (b == want)
  | .tup xs => if xs.isEmpty then some false else none
  | _ => none

def guardE (ops : Array Oper) (r : Regs) : Option (Nat × Bool) → Option Bool
  | none => some true
  | some (j, want) => match (ops[j]?).bind (·.dst) with
    | some d => match r.get d with
      | some v => guardV v want
      | none => none
    | none => none

def dstOk (N : Nat) : Option Nat → Bool
  | none => true
  | some d => decide (d < N)

def Regs.putR (r : Regs) (dst : Option Nat) : Option AV → Regs
  | some v => r.put dst v
  | none => r.drop dst

def isNilConst : Operand → Bool
  | .const (.slice none 0 0) => true
  | _ => false
def slLen : AV → Option Nat
  | .c (.sl _ n _) => some n
  | .c (.t (.imm _ n _)) => some n
  | _ => none
def eqOp : BinOp → Option Bool
  | .eql => some false
  | .neq => some true
  | _ => none

/-- x == nil, x != nil at a slice: its length, and whether the operator is != -/
def nilTest (P : Program) (r : Regs) : Op → Option (Nat × Bool)
  | .binOp op xT x y _ => if isNilConst y then (match tinf P xT, ev r x, eqOp op with
    | some i, some v, some ne => (match i.kind, slLen v with
      | .slice _, some n => some (n, ne)
      | _, _ => none)
    | _, _, _ => none) else none
  | _ => none

/-- one operation: its value, the heap behind it -/
def stepOk (P : Program) (r : Regs) (σ : Heap) (o : Oper) (K : Option AV → Heap → Prop) : Prop :=
  match o.op with
  | .call { callee := .value f, args, argTypes := _ } => match ev r f, evl r args.toList with
    | some fv, some as => match callTarget fv with
      | some (g, caps) => FnOk P g (as ++ caps) σ fun v σ' => K (some v) σ'
      | none => False
    | _, _ => False
  | op => match nilTest P r op with
    | some (n, ne) => K (some (aB ne)) σ ∧ (n = 0 → K (some (aB !ne)) σ)
    | none => match opE P r σ op with
      | some (res, σ') => K res σ'
      | none => False

def opsOk (P : Program) (N : Nat) (ops : Array Oper) : List Oper → Regs → Heap → (Regs → Heap → Prop) → Prop
  | [], r, σ, K => K r σ
  | o :: os, r, σ, K => dstOk N o.dst = true ∧ match guardE ops r o.guard with
    | some b => if b then stepOk P r σ o (fun res σ' => opsOk P N ops os (r.putR o.dst res) σ' K) else opsOk P N ops os (r.drop o.dst) σ K
    | none => False

end
end Go.Abs
