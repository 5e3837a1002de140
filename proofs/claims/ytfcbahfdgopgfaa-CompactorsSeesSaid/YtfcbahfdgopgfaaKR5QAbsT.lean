/-
  A general library: running code on the abstract heap, where everything is known.
-/
import Derived.Test.YtfcbahfdgopgfaaKR5QAbsS
set_option linter.unusedSimpArgs false
set_option linter.unusedVariables false
namespace Go.Abs

abbrev CF := FuncId → List AV → Heap → Option (AV × Heap)

/-- one operation -/
def stepR (P : Program) (cf : CF) (r : Regs) (σ : Heap) (op : Op) : Option (Option AV × Heap) := match op with
  | .call { callee := .value f, args, argTypes := _ } => match callE r f args.toList with
    | some x => (cf x.1 x.2 σ).map fun y => (some y.1, y.2)
    | none => none
  | .binOp b xT x y yT => if isNilConst y then (match nilTest P r (.binOp b xT x y yT) with
    | some (n, ne) => if n = 0 then none else some (some (aB ne), σ)
    | none => none) else opE P r σ (.binOp b xT x y yT)
  | op => opE P r σ op

def opsR (P : Program) (cf : CF) (N : Nat) : List COp → Regs → Heap → Option (Regs × Heap)
  | [], r, σ => some (r, σ)
  | ⟨d, op, g, k⟩ :: os, r, σ => if dstOk N d then (match guardC r g with
    | some true => match stepR P cf r σ op with
      | some (res, σ') => opsR P cf N os ((r.putR d res).kill k) σ'
      | none => none
    | some false => opsR P cf N os ((r.drop d).kill k) σ
    | none => none) else none

/-- a call that reads no object -/
def constR (cf : CF) (g : FuncId) (args : List AV) : Option AV := if args.all AV.isT then (match cf g args [] with
    | some (v, σ) => match frzV 8 σ 0 v with
      | some u => if u.isT then some u else none
      | none => none
    | none => none) else none

def stepDR (P : Program) (cf : CF) (r : Regs) (σ : Heap) (op : Op) : Option DR := match op with
  | .call { callee := .value f, args, argTypes := _ } => match callE r f args.toList with
    | some x => (constR cf x.1 x.2).map fun v => (some v, σ, [], [])
    | none => none
  | .binOp b xT x y yT => if isNilConst y then none else opD P r σ (.binOp b xT x y yT)
  | op => opD P r σ op

def drawR (P : Program) (cf : CF) (N : Nat) : List COp → Nat → List Nat → DrawLog → Regs → Heap → Option (Regs × Heap)
  | [], _, _, _, r, σ => some (r, σ)
  | ⟨d, op, g, _⟩ :: os, j, bef, log, r, σ => if dstOk N d then (match guardC r g with
    | some true => match stepDR P cf r σ op with
      | some (res, σ', rs, ws) => if freeOf (bef.headD 0) rs ws log then drawR P cf N os (j + 1) bef.tail ((j, rs, ws) :: log) (r.putR d res) σ' else none
      | none => none
    | some false => drawR P cf N os (j + 1) bef.tail ((j, [], []) :: log) (r.drop d) σ
    | none => none) else none

def runC (P : Program) (cf : CF) (N : Nat) : Nat → CC → Regs → Heap → Option (Exit × Regs × Heap)
  | 0, _, _, _ => none
  | _ + 1, .skip, r, σ => some (.normal, r, σ)
  | _ + 1, .reg ops, r, σ => (opsR P cf N ops r σ).map fun x => (.normal, x)
  | _ + 1, .drw ops bef, r, σ => (drawR P cf N ops 0 bef [] r σ).map fun x => (.normal, x)
  | k + 1, .seq a b, r, σ => match runC P cf N k a r σ with
    | some (.normal, r', σ') => runC P cf N k b r' σ'
    | x => x
  | k + 1, .cond c a b, r, σ => match ev r c with
    | some (.c (.t (.bool true))) => runC P cf N k a r σ
    | some (.c (.t (.bool false))) => runC P cf N k b r σ
    | _ => none
  | k + 1, .block id a, r, σ => match runC P cf N k a r σ with
    | some (.exit i, r', σ') => if i = id then some (.normal, r', σ') else some (.exit i, r', σ')
    | x => x
  | k + 1, .loop a, r, σ => match runC P cf N k a r σ with
    | some (.normal, r', σ') => runC P cf N k (.loop a) r' σ'
    | x => x
  | _ + 1, .exit id, r, σ => some (.exit id, r, σ)
  | _ + 1, .ret, r, σ => some (.ret, r, σ)
  | _ + 1, .rng .., _, _ => none

abbrev Tab := FuncId → Option (Nat × List ResultVar × CC)

/-- L: rounds and depth of a body; the first number: depth of calls -/
def runF (P : Program) (T : Tab) (L : Nat) : Nat → CF
  | 0, _, _, _ => none
  | k + 1, f, args, σ => match T f with
    | some (N, rs, C) => if args.length ≤ N then (match runC P (runF P T L k) N L C (initRegs args) σ with
      | some (.normal, r, σ') => (retE P rs r σ').map fun v => (v, σ')
      | some (.ret, r, σ') => (retE P rs r σ').map fun v => (v, σ')
      | _ => none) else none
    | none => none

section
variable {P : Program} {N : Nat} {ro : Option Nat}

def CFOk (P : Program) (cf : CF) : Prop := ∀ f args σ v σ', cf f args σ = some (v, σ') → FnOk P f args σ fun u τ => u = v ∧ τ = σ'

theorem stepR_ok {cf : CF} (hcf : CFOk P cf) {r : Regs} {σ σ' : Heap} {op : Op} {res : Option AV} {K : Option AV → Heap → Prop} {t : Tag K} (h : stepR P cf r σ op = some (res, σ')) (hK : K res σ') : stepC P r σ op K t := by
  unfold stepR at h
  unfold stepC
  split at h
  · rename_i f args ts
    simp only
    split at h
    · rename_i x hx
      rw [hx]
      rw [Option.map_eq_some_iff] at h
      obtain ⟨⟨v, τ⟩, h1, h2⟩ := h
      injection h2 with h2 h3
      subst h2; subst h3
      exact (hcf _ _ _ _ _ h1).mono fun u τ' ⟨e1, e2⟩ => by subst e1; subst e2; exact hK
    · cases h
  · rename_i b xT x y yT
    simp only
    split at h
    · rename_i hy
      split at h
      · rename_i n ne hn
        split at h
        · cases h
        · rename_i hn0
          injection h with h
          injection h with h1 h2
          subst h1; subst h2
          simp only [hy, if_true]
          have hn' := hn
          simp only [nilTest, hy, if_true] at hn
          split at hn
          · rename_i i v ne' e1 e2 e3
            split at hn
            · rename_i e m hk _
              simp only [e1, hk, hn', onOpt, nilK]
              exact ⟨hK, fun e => absurd e hn0⟩
            · cases hn
          · cases hn
      · cases h
    · rename_i hy
      simp only [hy, if_false]
      simp only [h, onSome, Bool.false_eq_true, if_false]
      exact hK
  · rename_i h1 h2
    split
    · rename_i f args ts
      exact absurd rfl (h1 f args ts)
    · rename_i b xT x y yT
      exact absurd rfl (h2 b xT x y yT)
    · simp only [h, onSome]
      exact hK

theorem opsR_ok {cf : CF} (hcf : CFOk P cf) {K : Regs → Heap → Prop} {t : Tag K} : ∀ {os : List COp} {r r' : Regs} {σ σ' : Heap}, opsR P cf N os r σ = some (r', σ') → K r' σ' → opsC P N os r σ K t
  | [], r, r', σ, σ', h, hK => by
    simp only [opsR, Option.some.injEq, Prod.mk.injEq] at h
    obtain ⟨rfl, rfl⟩ := h
    exact hK
  | ⟨d, op, g, k⟩ :: os, r, r', σ, σ', h, hK => by
    simp only [opsR] at h
    split at h
    · rename_i hd
      refine ⟨hd, ?_⟩
      split at h
      · rename_i hg
        rw [hg, onGuard_true]
        split at h
        · rename_i res σ1 h1
          exact stepR_ok hcf h1 (opsR_ok hcf h hK)
        · cases h
      · rename_i hg
        rw [hg, onGuard_false]
        exact opsR_ok hcf h hK
      · cases h
    · cases h

theorem constR_ok {cf : CF} (hcf : CFOk P cf) {g : FuncId} {args : List AV} {v : AV} {σ : Heap} (h : constR cf g args = some v) : ConstAt P g args σ [] v := by
  unfold constR at h
  split at h
  · rename_i ha
    split at h
    · rename_i u τ h1
      split at h
      · rename_i y hy
        split at h
        · rename_i ht
          injection h with h
          subst h
          refine const_any ha ht (fn_frz 0 (by simp) ((hcf _ _ _ _ _ h1).mono fun v' σ' ⟨e1, e2⟩ => ?_))
          subst e1; subst e2
          exact ⟨8, y, [], hy, by simp [frzH, mapO], rfl, rfl⟩
        · cases h
      · cases h
    · cases h
  · cases h

theorem stepDR_ok {cf : CF} (hcf : CFOk P cf) {r : Regs} {σ σ' : Heap} {op : Op} {res : Option AV} {rs ws : List Nat} {K : Option AV → Heap → List Nat → List Nat → Prop} {t : Tag K} (h : stepDR P cf r σ op = some (res, σ', rs, ws)) (hK : K res σ' rs ws) : stepD P r σ op K t := by
  unfold stepDR at h
  unfold stepD
  split at h
  · rename_i f args ts
    simp only
    split at h
    · rename_i x hx
      rw [hx]
      rw [Option.map_eq_some_iff] at h
      obtain ⟨v, h1, h2⟩ := h
      simp only [Prod.mk.injEq] at h2
      obtain ⟨rfl, rfl, rfl, rfl⟩ := h2
      exact .inl ⟨v, [], constR_ok hcf h1, hK⟩
    · cases h
  · rename_i b xT x y yT
    simp only
    split at h
    · cases h
    · rename_i hy
      simp only [hy, Bool.false_eq_true, if_false, h, onDraw]
      exact hK
  · rename_i h1 h2
    split
    · rename_i f args ts
      exact absurd rfl (h1 f args ts)
    · rename_i b xT x y yT
      exact absurd rfl (h2 b xT x y yT)
    · simp only [h, onDraw]
      exact hK

theorem drawR_ok {cf : CF} (hcf : CFOk P cf) {K : Regs → Heap → Prop} {t : Tag K} : ∀ {os : List COp} {j : Nat} {bef : List Nat} {log : DrawLog} {r r' : Regs} {σ σ' : Heap}, drawR P cf N os j bef log r σ = some (r', σ') → K r' σ' → drawC P N os j bef log r σ K t
  | [], j, bef, log, r, r', σ, σ', h, hK => by
    simp only [drawR, Option.some.injEq, Prod.mk.injEq] at h
    obtain ⟨rfl, rfl⟩ := h
    exact hK
  | ⟨d, op, g, k⟩ :: os, j, bef, log, r, r', σ, σ', h, hK => by
    simp only [drawR] at h
    split at h
    · rename_i hd
      refine ⟨hd, ?_⟩
      split at h
      · rename_i hg
        rw [hg, onGuard_true]
        split at h
        · rename_i res σ1 rs ws h1
          split at h
          · rename_i hf
            exact stepDR_ok hcf h1 ⟨hf, drawR_ok hcf h hK⟩
          · cases h
        · cases h
      · rename_i hg
        rw [hg, onGuard_false]
        exact drawR_ok hcf h hK
      · cases h
    · cases h

theorem runC_ok (hm : P.follows .mixedOrders = true) {cf : CF} (hcf : CFOk P cf) : ∀ {k : Nat} {C : CC} {r r' : Regs} {σ σ' : Heap} {e : Exit} {Q : Exit → Regs → Heap → Prop} {t : Tag Q}, runC P cf N k C r σ = some (e, r', σ') → Q e r' σ' → wpq P N ro C r σ Q t := by
  intro k
  induction k using Nat.strongRecOn with
  | _ k ih =>
  cases k with
  | zero => intro C r r' σ σ' e Q t h; simp [runC] at h
  | succ k =>
    intro C r r' σ σ' e Q t h hQ
    cases C with
    | skip =>
      simp only [runC, Option.some.injEq, Prod.mk.injEq] at h
      obtain ⟨rfl, rfl, rfl⟩ := h
      exact hQ
    | reg ops =>
      simp only [runC, Option.map_eq_some_iff] at h
      obtain ⟨⟨r1, σ1⟩, h1, h2⟩ := h
      simp only [Prod.mk.injEq] at h2
      obtain ⟨rfl, rfl, rfl⟩ := h2
      exact opsR_ok hcf h1 hQ
    | drw ops bef =>
      simp only [runC, Option.map_eq_some_iff] at h
      obtain ⟨⟨r1, σ1⟩, h1, h2⟩ := h
      simp only [Prod.mk.injEq] at h2
      obtain ⟨rfl, rfl, rfl⟩ := h2
      exact draw_ok hm (t' := ⟨⟩) (drawR_ok hcf h1 hQ)
    | seq a b =>
      simp only [runC] at h
      simp only [wpq]
      split at h
      · rename_i r1 σ1 h1
        exact ih k (Nat.lt_succ_self k) h1 (ih k (Nat.lt_succ_self k) h hQ)
      · rename_i hne
        refine ih k (Nat.lt_succ_self k) h ?_
        cases e with
        | normal => exact absurd h (hne _ _)
        | _ => exact hQ
    | cond c a b =>
      simp only [runC] at h
      simp only [wpq]
      split at h
      · rename_i hc
        rw [hc, onBool_true]
        exact ih k (Nat.lt_succ_self k) h hQ
      · rename_i hc
        rw [hc, onBool_false]
        exact ih k (Nat.lt_succ_self k) h hQ
      · cases h
    | block id a =>
      simp only [runC] at h
      simp only [wpq]
      split at h
      · rename_i i r1 σ1 h1
        refine ih k (Nat.lt_succ_self k) h1 ?_
        simp only
        split at h
        · rename_i hi
          rw [if_pos hi]
          simp only [Option.some.injEq, Prod.mk.injEq] at h
          obtain ⟨rfl, rfl, rfl⟩ := h
          exact hQ
        · rename_i hi
          rw [if_neg hi]
          simp only [Option.some.injEq, Prod.mk.injEq] at h
          obtain ⟨rfl, rfl, rfl⟩ := h
          exact hQ
      · rename_i hne
        refine ih k (Nat.lt_succ_self k) h ?_
        cases e with
        | exit i => exact absurd h (hne _ _ _)
        | _ => exact hQ
    | loop a =>
      intro c ks ks' hc
      refine ok_loop2 (fun n r σ => ∃ e r' σ', n ≤ k + 1 ∧ runC P cf N n (.loop a) r σ = some (e, r', σ') ∧ Q e r' σ') (n := k + 1) ⟨e, r', σ', Nat.le_refl _, h, hQ⟩ ?_
      rintro n r1 σ1 ⟨e2, r2, σ2, hn, h2, hQ2⟩
      cases n with
      | zero => simp [runC] at h2
      | succ n =>
        simp only [runC] at h2
        split at h2
        · rename_i r3 σ3 h3
          refine wpq_ok (t := ⟨⟩) hc (ih n (by omega) h3 ?_)
          exact ⟨n, r3, σ3, Nat.lt_succ_self n, (Ghost.sub fun _ _ h => h).f _, e2, r2, σ2, by omega, h2, hQ2⟩
        · rename_i hne
          refine wpq_ok (t := ⟨⟩) hc (ih n (by omega) h2 ?_)
          cases e2 with
          | normal => exact absurd h2 (hne _ _)
          | _ => exact hQ2
    | exit id =>
      simp only [runC, Option.some.injEq, Prod.mk.injEq] at h
      obtain ⟨rfl, rfl, rfl⟩ := h
      exact hQ
    | ret =>
      simp only [runC, Option.some.injEq, Prod.mk.injEq] at h
      obtain ⟨rfl, rfl, rfl⟩ := h
      exact hQ
    | rng f ps a b => simp [runC] at h

theorem runF_ok (hm : P.follows .mixedOrders = true) {T : Tab} (hT : ∀ f N rs C, T f = some (N, rs, C) → Stripped P f N rs C) (L : Nat) : ∀ k, CFOk P (runF P T L k) := by
  intro k
  induction k with
  | zero => intro f args σ v σ' h; simp [runF] at h
  | succ k ih =>
    intro f args σ v σ' h
    simp only [runF] at h
    split at h
    · rename_i N rs C hf
      split at h
      · rename_i hn
        refine fnq (hT f N rs C hf) hn ?_
        split at h
        · rename_i r1 σ1 h1
          rw [Option.map_eq_some_iff] at h
          obtain ⟨u, h2, h3⟩ := h
          injection h3 with h3 h4
          subst h3; subst h4
          refine runC_ok hm ih h1 ?_
          simp only [bodyQ, h2, onOpt, and_self]
        · rename_i r1 σ1 h1
          rw [Option.map_eq_some_iff] at h
          obtain ⟨u, h2, h3⟩ := h
          injection h3 with h3 h4
          subst h3; subst h4
          refine runC_ok hm ih h1 ?_
          simp only [bodyQ, h2, onOpt, and_self]
        · cases h
      · cases h
    · cases h

/-- a function without parameters, run -/
def checkR (P : Program) (T : Tab) (L k : Nat) (f : FuncId) (args : List AV) : Option AV := match runF P T L k f args [] with
  | some (v, σ) => frzV 8 σ 0 v
  | none => none

theorem checkR_ok (hm : P.follows .mixedOrders = true) {T : Tab} (hT : ∀ f N rs C, T f = some (N, rs, C) → Stripped P f N rs C) {L k : Nat} {f : FuncId} {args : List AV} {v : AV} (h : checkR P T L k f args = some v) : FnOk P f args [] fun u τ => u = v ∧ τ = [] := by
  unfold checkR at h
  split at h
  · rename_i u σ h1
    refine fn_frz 0 (by simp) ((runF_ok hm hT L k f args [] u σ h1).mono fun v' σ' ⟨e1, e2⟩ => ?_)
    subst e1; subst e2
    exact ⟨8, v, [], h, by simp [frzH, mapO], rfl, rfl⟩
  · cases h

end
end Go.Abs
