/-
  A general library: regions in the order of the text, the weakest precondition of code, functions from their bodies.
-/
import Derived.Test.YthchfbanjeiieaaAbsF
set_option linter.unusedSimpArgs false
set_option linter.unusedVariables false
namespace Go.Abs

section
variable {P : Program} {N : Nat} {ro : Option Nat}

theorem ops_ok {ops : Array Oper} {K : Regs → Heap → Prop} {ι₀ : Map} {σ₀ : Heap} {w₀ : World} {a₀ : Act} {Q : Exit → Regs → Heap → Prop} (hQ : ∀ r σ, K r σ → Q .normal r σ) :
    ∀ (os : List Oper) (k : Nat), os = ops.toList.drop k → ∀ {r : Regs} {σ : Heap}, opsOk P N ops os r σ K → ∀ {ι : Map} {w : World} {a : Act}, HR ι σ w → RegR N ι w r a → Step ι₀ σ₀ w₀ ι σ w → a.defers = a₀.defers →
      wpOpsIn (wr ro) 0 P ops (post N Q ι₀ σ₀ w₀ a₀) (List.range' k (ops.size - k)) a w
  | [], k, hk, r, σ, h, ι, w, a, hh, hr, hs, hd => by
    have hlen : ops.toList.length ≤ k := List.drop_eq_nil_iff.1 hk.symm
    have : ops.size - k = 0 := by simp at hlen; omega
    rw [this]
    exact ⟨trivial, r, σ, ι, [], hQ r σ h, hh, hr, hs, hd, Marks.nil _ _⟩
  | o :: os, k, hk, r, σ, h, ι, w, a, hh, hr, hs, hd => by
    have hlt : k < ops.size := by
      have : (ops.toList.drop k).length = os.length + 1 := by rw [← hk]; rfl
      simp at this; omega
    have hok : ops[k]? = some o := by
      have : (ops.toList.drop k)[0]? = some o := by rw [← hk]; rfl
      simpa using this
    have hos : os = ops.toList.drop (k + 1) := by
      have : (ops.toList.drop k).tail = os := by rw [← hk]; rfl
      rw [← this]; simp
    have hr' : List.range' k (ops.size - k) = k :: List.range' (k + 1) (ops.size - (k + 1)) := by
      have : ops.size - k = (ops.size - (k + 1)) + 1 := by omega
      rw [this, List.range'_succ]
    rw [hr']
    obtain ⟨hdst, h⟩ := h
    simp only [wpOpsIn, hok]
    split at h
    · rename_i b hb
      have hw := guard_ok hr hb
      rw [hw]
      cases b with
      | true =>
        simp only [if_true] at h ⊢
        refine step_ok hh hr hdst h fun res σ' ι' w' a' hK hh' hr' hs' hd' => ?_
        exact ops_ok hQ os (k + 1) hos hK hh' hr' (hs.trans hs') (hd'.trans hd)
      | false =>
        simp only [Bool.false_eq_true, if_false] at h ⊢
        refine ⟨fun _ _ => trivial, ?_⟩
        have hdf : (a.put o.dst undef).defers = a.defers := by cases o.dst <;> rfl
        exact ops_ok hQ os (k + 1) hos h hh (hr.drop _) hs (hdf.trans hd)
    · exact h.elim

theorem ok_region {id : Nat} {ops : Array Oper} {r : Regs} {σ : Heap} {Q : Exit → Regs → Heap → Prop} (h : opsOk P N ops ops.toList r σ (Q .normal)) : CodeOk P N ro (.region id ops false) r σ Q := fun ι w a hh hr => by
  refine wpIn_region ?_
  rw [List.range_eq_range']
  have := ops_ok (ro := ro) (Q := Q) (a₀ := a) (fun _ _ h => h) ops.toList 0 (by simp) h hh hr (Step.refl ι σ w) rfl
  simpa using this

/-- a region that draws its order: opaque here -/
def DrawOk (P : Program) (N : Nat) (ro : Option Nat) (id : Nat) (ops : Array Oper) (r : Regs) (σ : Heap) (Q : Exit → Regs → Heap → Prop) : Prop := CodeOk P N ro (.region id ops true) r σ Q
def LoopOk (P : Program) (N : Nat) (ro : Option Nat) (c : Code) (r : Regs) (σ : Heap) (Q : Exit → Regs → Heap → Prop) : Prop := CodeOk P N ro (.loop c) r σ Q

/-- the weakest precondition, by recursion on the code -/
def wpc (P : Program) (N : Nat) (ro : Option Nat) : Code → Regs → Heap → (Exit → Regs → Heap → Prop) → Prop
  | .skip, r, σ, Q => Q .normal r σ
  | .region id ops draw, r, σ, Q => if draw then DrawOk P N ro id ops r σ Q else opsOk P N ops ops.toList r σ (Q .normal)
  | .seq x y, r, σ, Q => wpc P N ro x r σ fun e r' σ' => match e with | .normal => wpc P N ro y r' σ' Q | e => Q e r' σ'
  | .cond c x y, r, σ, Q => match ev r c with
    | some (.c (.t (.bool t))) => if t then wpc P N ro x r σ Q else wpc P N ro y r σ Q
    | _ => False
  | .block id c, r, σ, Q => wpc P N ro c r σ fun e r' σ' => match e with | .exit i => if i = id then Q .normal r' σ' else Q (.exit i) r' σ' | e => Q e r' σ'
  | .loop c, r, σ, Q => LoopOk P N ro c r σ Q
  | .exit id, r, σ, Q => Q (.exit id) r σ
  | .ret, r, σ, Q => Q .ret r σ
  | .rangeFunc f ps x y, r, σ, Q => CodeOk P N ro (.rangeFunc f ps x y) r σ Q
  | .scope c, r, σ, Q => CodeOk P N ro (.scope c) r σ Q
  | .label l, r, σ, Q => CodeOk P N ro (.label l) r σ Q
  | .goto l, r, σ, Q => CodeOk P N ro (.goto l) r σ Q
  | .refuse s, r, σ, Q => CodeOk P N ro (.refuse s) r σ Q

theorem wpc_ok : ∀ {c : Code} {r : Regs} {σ : Heap} {Q : Exit → Regs → Heap → Prop}, wpc P N ro c r σ Q → CodeOk P N ro c r σ Q
  | .skip, r, σ, Q, h => ok_skip h
  | .region id ops draw, r, σ, Q, h => by
    cases draw with
    | true => exact h
    | false => exact ok_region h
  | .seq x y, r, σ, Q, h => ok_seq ((wpc_ok (c := x) h).mono fun e r' σ' hq => by
      cases e with
      | normal => exact wpc_ok (c := y) hq
      | _ => exact hq)
  | .cond c x y, r, σ, Q, h => by
    simp only [wpc] at h
    split at h
    · rename_i t ht
      refine ok_cond ht ?_
      cases t with
      | true => exact wpc_ok (c := x) h
      | false => exact wpc_ok (c := y) h
    · exact h.elim
  | .block id c, r, σ, Q, h => ok_block (wpc_ok (c := c) h)
  | .loop c, r, σ, Q, h => h
  | .exit id, r, σ, Q, h => ok_exit h
  | .ret, r, σ, Q, h => ok_ret h
  | .rangeFunc f ps x y, r, σ, Q, h => h
  | .scope c, r, σ, Q, h => h
  | .label l, r, σ, Q, h => h
  | .goto l, r, σ, Q, h => h
  | .refuse s, r, σ, Q, h => h

/-! ### functions -/
def resE (P : Program) (r : Regs) (σ : Heap) : List ResultVar → Option (List AV)
  | [] => some []
  | .tmp t :: rest => match r.get t, resE P r σ rest with
    | some v, some vs => some (v :: vs)
    | _, _ => none
  | .cell a t :: rest => match tinf P t, r.get a, resE P r σ rest with
    | some i, some p, some vs => match loadE σ i p with
      | some v => some (v :: vs)
      | none => none
    | _, _, _ => none

def compE : AV → Option (Cell ⊕ List Cell)
  | .c x => some (.inl x)
  | .agg xs => some (.inr xs)
  | .tup _ => none

def compsE : List AV → Option (List (Cell ⊕ List Cell))
  | [] => some []
  | v :: vs => match compE v, compsE vs with
    | some x, some xs => some (x :: xs)
    | _, _ => none

def packE : List AV → Option AV
  | [v] => some v
  | vs => (compsE vs).map .tup

def retE (P : Program) (rs : List ResultVar) (r : Regs) (σ : Heap) : Option AV := match resE P r σ rs with
  | some vs => packE vs
  | none => none

def resSem (tmps : Array Value) : ResultVar → Sem Value
  | .tmp t => pure (tmps.getD t undef)
  | .cell x t => do loadVar t (← asAddr (tmps.getD x undef))

theorem resE_ok {ι : Map} {σ : Heap} {w : World} {r : Regs} {a : Act} (hh : HR ι σ w) (hr : RegR N ι w r a) : ∀ {rs : List ResultVar} {vs : List AV}, resE P r σ rs = some vs →
    ∃ us : List Value, ((rs.mapM (resSem a.tmps)).run P w = .ok us w) ∧ us.length = vs.length ∧ ∀ i (hi : i < vs.length), ∃ u, us[i]? = some u ∧ VR ι w vs[i] u
  | [], vs, h => by
    simp only [resE, Option.some.injEq] at h
    subst h
    exact ⟨[], rfl, rfl, fun i hi => absurd hi (by simp)⟩
  | .tmp t :: rest, vs, h => by
    simp only [resE] at h
    split at h
    · rename_i v vs' h1 h2
      injection h with h
      subst h
      obtain ⟨us, h3, h4, h5⟩ := resE_ok hh hr h2
      refine ⟨a.tmps.getD t undef :: us, ?_, by simp [h4], fun i hi => ?_⟩
      · simp only [List.mapM_cons, resSem, Sem.run_bind, Sem.run_pure, Result.andThen_ok, h3]
      · cases i with
        | zero => exact ⟨_, rfl, hr.get t v h1⟩
        | succ i => simpa using h5 i (by simpa using hi)
    · cases h
  | .cell x t :: rest, vs, h => by
    simp only [resE] at h
    split at h
    · rename_i i p vs' hi h1 h2
      split at h
      · rename_i v hv
        injection h with h
        subst h
        obtain ⟨us, h3, h4, h5⟩ := resE_ok hh hr h2
        obtain ⟨u, h6, h7⟩ := loadE_ok (P := P) hi hh (hr.get x p h1) hv
        have haddr : ∃ ad, a.tmps.getD x undef = .pointer (some ad) := by
          have hp := hr.get x p h1
          unfold loadE at hv
          split at hv
          · obtain ⟨ad, e, _⟩ := hp
            exact ⟨ad, e⟩
          · obtain ⟨b, off, e, _⟩ := iptr_row hp
            exact ⟨_, e⟩
          · cases hv
        obtain ⟨ad, e⟩ := haddr
        have h8 : (loadVar t ad).run P w = .ok u w := by
          rw [e] at h6
          simpa [Instr.loadAt, Instr.sureAddr] using h6
        refine ⟨u :: us, ?_, by simp [h4], fun i hi => ?_⟩
        · simp only [List.mapM_cons, resSem, Sem.run_bind, e, asAddr, Sem.run_pure, Result.andThen_ok, h8, h3]
        · cases i with
          | zero => exact ⟨_, rfl, h7⟩
          | succ i => simpa using h5 i (by simpa using hi)
      · cases h
    · cases h

theorem compsE_ok {ι : Map} {w : World} : ∀ {vs : List AV} {xs : List (Cell ⊕ List Cell)}, compsE vs = some xs → ∀ {us : List Value}, us.length = vs.length → (∀ i (hi : i < vs.length), ∃ u, us[i]? = some u ∧ VR ι w vs[i] u) →
    us.length = xs.length ∧ ∀ i (hi : i < xs.length), ∃ u, us[i]? = some u ∧ compR ι w xs[i] u
  | [], xs, h, us, hl, hv => by
    simp only [compsE, Option.some.injEq] at h
    subst h
    exact ⟨hl, fun i hi => absurd hi (by simp)⟩
  | v :: vs, xs, h, us, hl, hv => by
    simp only [compsE] at h
    split at h
    · rename_i x xs' h1 h2
      injection h with h
      subst h
      cases us with
      | nil => simp at hl
      | cons u us =>
        obtain ⟨h3, h4⟩ := compsE_ok h2 (us := us) (by simpa using hl) (fun i hi => by
          obtain ⟨u', h5, h6⟩ := hv (i + 1) (by simpa using hi)
          exact ⟨u', by simpa using h5, h6⟩)
        refine ⟨by simp [h3], fun i hi => ?_⟩
        cases i with
        | zero =>
          obtain ⟨u', h5, h6⟩ := hv 0 (by simp)
          refine ⟨u', h5, ?_⟩
          cases v <;> simp only [compE, Option.some.injEq, reduceCtorEq] at h1
          · subst h1; exact h6
          · subst h1; exact h6
        | succ i => simpa using h4 i (by simpa using hi)
    · cases h

theorem retE_ok {ι : Map} {σ : Heap} {w : World} {r : Regs} {a : Act} (hh : HR ι σ w) (hr : RegR N ι w r a) {fn : Func} {v : AV} (h : retE P fn.results.toList r σ = some v) :
    ∃ u, (results fn a.tmps).run P w = .ok u w ∧ VR ι w v u := by
  unfold retE at h
  split at h
  · rename_i vs hvs
    obtain ⟨us, h1, h2, h3⟩ := resE_ok (P := P) hh hr hvs
    have hm : (results fn a.tmps).run P w = .ok (if h : us.toArray.size = 1 then us.toArray[0] else .tuple us.toArray) w := by
      have hres : results fn a.tmps = (fn.results.mapM (resSem a.tmps) >>= fun vs => Pure.pure (if h : vs.size = 1 then vs[0] else .tuple vs)) := by
        unfold results
        congr 1
      rw [hres, Sem.run_bind, Array.mapM_eq_mapM_toList]
      simp only [Sem.run_map, h1, Result.andThen_ok, Sem.run_pure]
    refine ⟨_, hm, ?_⟩
    unfold packE at h
    split at h
    · rename_i x
      injection h with h
      subst h
      obtain ⟨u, rfl, hv⟩ := vals1 ⟨h2, h3⟩
      exact hv
    · rename_i hne
      simp only [Option.map_eq_some_iff] at h
      obtain ⟨xs, h4, rfl⟩ := h
      have hn1 : ¬ us.toArray.size = 1 := by
        intro e
        have : vs.length = 1 := by rw [← h2]; simpa using e
        obtain ⟨x, hx⟩ := List.length_eq_one_iff.1 this
        exact hne x hx
      rw [dif_neg hn1]
      obtain ⟨h5, h6⟩ := compsE_ok h4 h2 h3
      exact ⟨us.toArray, rfl, by simpa using h5, fun i hi => by simpa using h6 i hi⟩
  · cases h

/-- worlds that differ in no block of cells -/
theorem HR.other {ι : Map} {σ : Heap} {w w' : World} (h : HR ι σ w) (hb : ∀ b, isRow w b → w'.heap[b]? = w.heap[b]?) :
    HR ι σ w' ∧ ∀ v u, VR ι w v u → VR ι w' v u := by
  have hT : ∀ t u, TR ι.un w t u → TR ι.un w' t u := fun t u ht => ht.mono fun b hu hrow => ⟨hu, hb b hrow⟩
  have hC : ∀ c u, CR ι w c u → CR ι w' c u := fun c u hc => by
    cases c with
    | t x => exact hT x u hc
    | ptr r => exact hc
    | sl r len cap => exact hc
    | clo f caps => exact hc
  have hA : ∀ xs u, aggR ι w xs u → aggR ι w' xs u := fun xs u ⟨arr, e, h1, h2⟩ => ⟨arr, e, h1, fun i hi => let ⟨v, h3, h4⟩ := h2 i hi; ⟨v, h3, hC _ _ h4⟩⟩
  refine ⟨⟨fun id s hs => ?_, h.inj, fun b hr => (let ⟨c, e, fr, h1⟩ := h.resRow b hr; ⟨c, e, fr, (hb b ⟨c, e, fr, h1⟩).trans h1⟩), h.resNo⟩, fun v u hv => ?_⟩
  · obtain ⟨o, h1, h2, h3, h4⟩ := h.obj id s hs
    refine ⟨o, h1, h2, h3, ?_⟩
    cases hl : s.loc with
    | none => rw [hl] at h4; exact h4
    | some l =>
      rw [hl] at h4
      obtain ⟨⟨cells, elem, h5, h6⟩, h7, h8⟩ := h4
      have e := hb l.blk ⟨cells, elem, _, h5⟩
      refine ⟨⟨cells, elem, e.trans h5, h6⟩, h7, fun i hi => ?_⟩
      obtain ⟨v, h9, h10⟩ := h8 i hi
      exact ⟨v, (cell_congr e _).trans h9, hC _ _ h10⟩
  · cases v with
    | c x => exact hC x u hv
    | agg xs => exact hA xs u hv
    | tup xs =>
      obtain ⟨arr, e, h1, h2⟩ := hv
      refine ⟨arr, e, h1, fun i hi => ?_⟩
      obtain ⟨v, h3, h4⟩ := h2 i hi
      refine ⟨v, h3, ?_⟩
      cases hx : xs[i] with
      | inl x => rw [hx] at h4; exact hC x v h4
      | inr x => rw [hx] at h4; exact hA x v h4

def initRegs (args : List AV) : Regs := args.zipIdx.map fun (v, i) => (i, v)

theorem initRegs_get : ∀ (args : List AV) (k t : Nat) (v : AV), Regs.get ((args.zipIdx k).map fun (v, i) => (i, v)) t = some v → k ≤ t ∧ args[t - k]? = some v
  | [], k, t, v, h => by simp [Regs.get] at h
  | x :: args, k, t, v, h => by
    simp only [List.zipIdx_cons, List.map_cons, Regs.get] at h
    split at h
    · rename_i e
      subst e
      injection h with h
      exact ⟨Nat.le_refl _, by simp [h]⟩
    · rename_i hne
      obtain ⟨h1, h2⟩ := initRegs_get args (k + 1) t v h
      refine ⟨by omega, ?_⟩
      have e : t - k = (t - (k + 1)) + 1 := by omega
      rw [e, List.getElem?_cons_succ]
      exact h2

theorem putObj_get {w : World} {b : Nat} {o : Go.Obj} {c : Nat} (h : c ≠ b) : (w.putObj b o).heap[c]? = w.heap[c]? := by
  simp [World.putObj, Array.getElem?_setIfInBounds, h.symm]

/-- the marks are taken: nothing else turns -/
theorem leaves_marks {fn : Func} {tmps : Array Value} {R : Ending → World → Prop} {n : Nat} {P : Program} : ∀ (ms : List Deferred) (w : World), Marks n w ms →
    (∀ w', (∀ b, isRow w b → w'.heap[b]? = w.heap[b]?) → (∀ b, b < n → w'.heap[b]? = w.heap[b]?) → w'.heap.size = w.heap.size → w'.os = w.os → w'.output = w.output → ∃ v, (results fn tmps).run P w' = .ok v w' ∧ R (.returned v) w') →
    LeavesInM Fence.wide 0 P fn tmps R ms .returning w
  | [], w, hm, h => h w (fun _ _ => rfl) (fun _ _ => rfl) rfl rfl rfl
  | d :: ds, w, hm, h => by
    obtain ⟨b, h1, h0, h2⟩ := hm.1 d (by simp)
    have hne : ∀ d' ∈ ds, ∀ b', d'.target = .collected b' → b' ≠ b := fun d' hd' b' hb' e => by
      have := (List.pairwise_cons.1 hm.2).1 d' hd'
      rw [h1, hb', e] at this
      exact this rfl
    refine ⟨(fun e => by cases e), .inl ⟨b, w.putObj b (.deferred none), h1, run_takeDeferred h2, ?_⟩⟩
    refine leaves_marks (n := n) ds _ ⟨fun d' hd' => ?_, (List.pairwise_cons.1 hm.2).2⟩ fun w' hrow hn hsz hos hout => ?_
    · obtain ⟨b', h3, h4, h5⟩ := hm.1 d' (by simp [hd'])
      exact ⟨b', h3, h4, by rw [putObj_get (hne d' hd' b' h3)]; exact h5⟩
    · have hnb : ∀ c, isRow w c → c ≠ b := fun c ⟨x, y, z, hc⟩ e => by subst e; rw [h2] at hc; cases hc
      refine h w' (fun c hc => ?_) (fun c hc => ?_) (by rw [hsz]; simp [World.putObj]) (by rw [hos]; rfl) (by rw [hout]; rfl)
      · have e := putObj_get (w := w) (o := .deferred none) (hnb c hc)
        rw [hrow c (by obtain ⟨x, y, z, hx⟩ := hc; exact ⟨x, y, z, e.trans hx⟩), e]
      · rw [hn c hc, putObj_get (by omega)]

theorem fn_ok {f : FuncId} {fn : Func} {c : Code} {args : List AV} {σ : Heap} {Q : AV → Heap → Prop} (hf : P.funcs[f]? = some fn) (hb : fn.body = some c) (hname : (fn.name == "runtime.NumGoroutine") = false) (hn : args.length ≤ fn.ntmps)
    (h : CodeOk P fn.ntmps none c (initRegs args) σ fun e r' σ' => (match e with | .normal | .ret => True | _ => False) ∧ match retE P fn.results.toList r' σ' with | some v => Q v σ' | none => False) : FnOk P f args σ Q := by
  refine ⟨⟨fn, hf, hname, by rw [hb]; rfl⟩, fun ι w cargs hh ha => ?_⟩
  refine callsIn_of_wp_marks hf hb trivial ?_ rfl
  have hsz : (cargs ++ Array.replicate (fn.ntmps - cargs.size) undef).size = fn.ntmps := by
    have := ha.1
    simp; omega
  have hr : RegR fn.ntmps ι w (initRegs args) { tmps := cargs ++ Array.replicate (fn.ntmps - cargs.size) undef, defers := [] } := by
    refine ⟨hsz, fun t x hx => ?_⟩
    obtain ⟨_, h2⟩ := initRegs_get args 0 t x hx
    simp only [Nat.sub_zero] at h2
    have hlt : t < args.length := (List.getElem?_eq_some_iff.1 h2).1
    obtain ⟨u, h3, h4⟩ := ha.2 t hlt
    have e : args[t] = x := by
      rw [List.getElem?_eq_getElem hlt] at h2
      injection h2
    rw [e] at h4
    have : (cargs ++ Array.replicate (fn.ntmps - cargs.size) undef).getD t undef = u := by
      have hlt' : t < cargs.size := by rw [ha.1]; exact hlt
      have : (cargs ++ Array.replicate (fn.ntmps - cargs.size) undef)[t]? = some u := by
        rw [Array.getElem?_append_left hlt']; exact h3
      simp [this]
    show VR ι w x ((cargs ++ Array.replicate (fn.ntmps - cargs.size) undef).getD t undef)
    rw [this]
    exact h4
  refine wpIn_mono (h ι w _ hh hr) fun e a' w' hp => ?_
  obtain ⟨h0, r', σ', ι', ms, ⟨hex, hret⟩, h2, h3, h4, h5, h6⟩ := hp
  have h5 : a'.defers = ms := by simpa using h5
  split at hret
  · rename_i v hv
    have hleave : LeavesInM Fence.wide 0 P fn a'.tmps (fun e w' => ∃ v σ' ι' cv, e = .returned cv ∧ Q v σ' ∧ VR ι' w' v cv ∧ HR ι' σ' w' ∧ Step ι σ w ι' σ' w') ms .returning w' := by
      refine leaves_marks ms w' h6 fun w'' hrow hn' hsz' hos hout => ?_
      obtain ⟨h7, h8⟩ := h2.other hrow
      have hr'' : RegR fn.ntmps ι' w'' r' a' := ⟨h3.size, fun t x hx => h8 _ _ (h3.get t x hx)⟩
      obtain ⟨u, h9, h10⟩ := retE_ok (P := P) h7 hr'' hv
      refine ⟨u, h9, v, σ', ι', u, rfl, hret, h10, h7, ?_⟩
      exact { len := h4.len, size := by rw [hsz']; exact h4.size, os := hos.trans h4.os, out := hout.trans h4.out, keep := h4.keep, none := h4.none, new := h4.new, res := h4.res, resKeep := fun b hb => (hrow b (h2.resRow b (h4.res ▸ hb))).trans (h4.resKeep b hb),
              frame := fun b hb hu => (hn' b hb).trans (h4.frame b hb hu) }
    cases e with
    | normal => show LeavesInM _ _ _ _ _ _ a'.defers _ _; rw [h5]; exact hleave
    | ret => show LeavesInM _ _ _ _ _ _ a'.defers _ _; rw [h5]; exact hleave
    | exit _ => exact hex.elim
    | goto _ => exact hex.elim
    | panic _ => exact hex.elim
    | outgrown => exact hex.elim
  · exact hret.elim

end
end Go.Abs
