/-
  A general library: weaker descriptions of the same world; code, seen from the start of its function.
-/
import Derived.Test.YtfcbahfdgopgfaaKR5QSy1
set_option linter.unusedSimpArgs false
set_option linter.unusedVariables false
namespace Go.Abs

/-- a weaker description -/
inductive WT : T → T → Prop
  | refl (t : T) : WT t t
  | cap (cs : List T) (len : Nat) (cap : Option Nat) : WT (.imm cs len cap) (.imm cs len none)
  | junk (t : T) : WT t .junk
  | cells (cs cs' : List T) (len : Nat) (cap : Option Nat) : cs.length = cs'.length → (∀ i (h : i < cs.length) (h' : i < cs'.length), WT cs[i] cs'[i]) → WT (.imm cs len cap) (.imm cs' len cap)
  | ptrs (cs cs' : List T) : cs.length = cs'.length → (∀ i (h : i < cs.length) (h' : i < cs'.length), WT cs[i] cs'[i]) → WT (.iptr cs) (.iptr cs')

inductive WC : Cell → Cell → Prop
  | refl (c : Cell) : WC c c
  | t {a b : T} (h : WT a b) : WC (.t a) (.t b)
  | junk (c : Cell) : WC c (.t .junk)

def WL : List Cell → List Cell → Prop
  | [], [] => True
  | a :: as, b :: bs => WC a b ∧ WL as bs
  | _, _ => False

def WP : Cell ⊕ List Cell → Cell ⊕ List Cell → Prop
  | .inl a, .inl b => WC a b
  | .inr a, .inr b => WL a b
  | _, _ => False
def WPL : List (Cell ⊕ List Cell) → List (Cell ⊕ List Cell) → Prop
  | [], [] => True
  | a :: as, b :: bs => WP a b ∧ WPL as bs
  | _, _ => False

def WV : AV → AV → Prop
  | .c a, .c b => WC a b
  | .agg a, .agg b => WL a b
  | .tup a, .tup b => WPL a b
  | _, _ => False

def WVO : Option AV → Option AV → Prop
  | some a, some b => WV a b
  | none, none => True
  | _, _ => False

def WO (a b : Obj) : Prop := WL a.cs b.cs ∧ a.es = b.es ∧ a.ep = b.ep
def WH : Heap → Heap → Prop
  | [], [] => True
  | a :: as, b :: bs => WO a b ∧ WH as bs
  | _, _ => False

theorem WL.rfl' : ∀ {l : List Cell}, WL l l
  | [] => trivial
  | c :: _ => ⟨.refl c, WL.rfl'⟩
theorem WO.rfl' {o : Obj} : WO o o := ⟨WL.rfl', rfl, rfl⟩
theorem WH.rfl' : ∀ {l : Heap}, WH l l
  | [] => trivial
  | _ :: _ => ⟨WO.rfl', WH.rfl'⟩
theorem WP.rfl' : ∀ {x : Cell ⊕ List Cell}, WP x x
  | .inl c => WC.refl c
  | .inr _ => WL.rfl'
theorem WPL.rfl' : ∀ {l : List (Cell ⊕ List Cell)}, WPL l l
  | [] => trivial
  | _ :: _ => ⟨WP.rfl', WPL.rfl'⟩
theorem WV.rfl' : ∀ {v : AV}, WV v v
  | .c x => WC.refl x
  | .agg _ => WL.rfl'
  | .tup _ => WPL.rfl'
theorem WVO.rfl' : ∀ {v : Option AV}, WVO v v
  | none => trivial
  | some _ => WV.rfl'

theorem WL.length : ∀ {a b : List Cell}, WL a b → a.length = b.length
  | [], [], _ => rfl
  | _ :: _, _ :: _, h => by simp [WL.length h.2]
theorem WL.get : ∀ {a b : List Cell}, WL a b → ∀ {i : Nat} (hi : i < a.length) (hi' : i < b.length), WC a[i] b[i]
  | _ :: _, _ :: _, h, 0, _, _ => h.1
  | _ :: _, _ :: _, h, i + 1, hi, hi' => WL.get h.2 (by simpa using hi) (by simpa using hi')
theorem WL.of_get : ∀ {a b : List Cell}, a.length = b.length → (∀ i (hi : i < a.length) (hi' : i < b.length), WC a[i] b[i]) → WL a b
  | [], [], _, _ => trivial
  | [], _ :: _, h, _ => by cases h
  | _ :: _, [], h, _ => by cases h
  | _ :: _, _ :: _, h, hc => ⟨hc 0 (by simp) (by simp), WL.of_get (by simpa using h) fun i hi hi' => hc (i + 1) (by simpa using hi) (by simpa using hi')⟩
theorem WL.append {a b a' b' : List Cell} (h : WL a b) (h' : WL a' b') : WL (a ++ a') (b ++ b') := by
  induction a generalizing b with
  | nil => cases b with | nil => exact h' | cons _ _ => exact h.elim
  | cons x a ih => cases b with | nil => exact h.elim | cons y b => exact ⟨h.1, ih h.2⟩
theorem WH.length : ∀ {a b : Heap}, WH a b → a.length = b.length
  | [], [], _ => rfl
  | _ :: _, _ :: _, h => by simp [WH.length h.2]
theorem WH.get : ∀ {a b : Heap}, WH a b → ∀ {i : Nat} {o : Obj}, a[i]? = some o → ∃ o', b[i]? = some o' ∧ WO o o'
  | [], [], _, i, o, h => by simp at h
  | _ :: _, _ :: _, h, 0, o, e => by simp at e; subst e; exact ⟨_, rfl, h.1⟩
  | _ :: _, _ :: _, h, i + 1, o, e => by simpa using WH.get h.2 (by simpa using e)
theorem WH.set : ∀ {a b : Heap}, WH a b → ∀ {i : Nat} {o o' : Obj}, WO o o' → WH (a.set i o) (b.set i o')
  | [], [], _, i, o, o', _ => trivial
  | _ :: _, _ :: _, h, 0, o, o', e => ⟨e, h.2⟩
  | _ :: _, _ :: _, h, i + 1, o, o', e => ⟨h.1, WH.set h.2 e⟩
theorem WH.push {a b : Heap} (h : WH a b) {o o' : Obj} (e : WO o o') : WH (a ++ [o]) (b ++ [o']) := by
  induction a generalizing b with
  | nil => cases b with | nil => exact ⟨e, trivial⟩ | cons _ _ => exact h.elim
  | cons x a ih => cases b with | nil => exact h.elim | cons y b => exact ⟨h.1, ih h.2⟩

section
variable {ι : Map} {σ σ' : Heap} {w : World}

theorem TR.weak {U : Nat → Prop} {a b : T} (h : WT a b) : ∀ {v : Value}, TR U w a v → TR U w b v := by
  induction h with
  | refl => exact fun hv => hv
  | cap cs len cap =>
    intro v hv
    cases hv with
    | imm0 cap ad c hc => exact .imm0 none ad c trivial
    | imm cs len cap b off c f h1 h2 h3 h4 h5 h6 => exact .imm cs len none b off c f h1 h2 trivial h4 h5 h6
  | junk => exact fun {v} hv => .junk v hv.oneCell
  | cells cs cs' len cap hl _ ih =>
    intro v hv
    cases hv with
    | imm0 cap ad c hc =>
      have : cs' = [] := List.length_eq_zero_iff.1 hl.symm
      subst this
      exact .imm0 cap ad c hc
    | imm cs len cap b off c f h1 h2 h3 h4 h5 h6 => exact .imm cs' len cap b off c f h1 h2 h3 h4 (fun i hi => h5 i (by omega)) (fun i hi => ih i (by omega) hi (h6 i (by omega)))
  | ptrs cs cs' hl _ ih =>
    intro v hv
    cases hv with
    | iptr cs b off f h1 h2 h5 h6 => exact .iptr cs' b off f h1 h2 (fun i hi => h5 i (by omega)) (fun i hi => ih i (by omega) hi (h6 i (by omega)))

theorem CR.weak {a b : Cell} (h : WC a b) {v : Value} (hv : CR ι w a v) : CR ι w b v := by
  cases h with
  | refl => exact hv
  | t h => exact TR.weak h hv
  | junk => exact TR.junk v (CR.oneCell hv)

theorem aggR.weak {a b : List Cell} (h : WL a b) {v : Value} (hv : aggR ι w a v) : aggR ι w b v := by
  obtain ⟨arr, rfl, h1, h2⟩ := hv
  refine ⟨arr, rfl, h1.trans h.length, fun i hi => ?_⟩
  obtain ⟨u, h3, h4⟩ := h2 i (by rw [h.length]; exact hi)
  exact ⟨u, h3, CR.weak (h.get _ hi) h4⟩

theorem WPL.length : ∀ {a b : List (Cell ⊕ List Cell)}, WPL a b → a.length = b.length
  | [], [], _ => rfl
  | _ :: _, _ :: _, h => by simp [WPL.length h.2]
theorem WPL.get : ∀ {a b : List (Cell ⊕ List Cell)}, WPL a b → ∀ {i : Nat} (hi : i < a.length) (hi' : i < b.length), WP a[i] b[i]
  | _ :: _, _ :: _, h, 0, _, _ => h.1
  | _ :: _, _ :: _, h, i + 1, hi, hi' => WPL.get h.2 (by simpa using hi) (by simpa using hi')

theorem VR.weak {a b : AV} (h : WV a b) {v : Value} (hv : VR ι w a v) : VR ι w b v := by
  cases a with
  | c a => cases b with
    | c b => exact CR.weak h hv
    | _ => exact h.elim
  | agg a => cases b with
    | agg b => exact aggR.weak h hv
    | _ => exact h.elim
  | tup a => cases b with
    | tup b =>
      have h' : WPL a b := h
      obtain ⟨arr, rfl, h1, h2⟩ := hv
      refine ⟨arr, rfl, h1.trans h'.length, fun i hi => ?_⟩
      obtain ⟨u, h3, h4⟩ := h2 i (by rw [h'.length]; exact hi)
      refine ⟨u, h3, ?_⟩
      have hp := h'.get (by rw [h'.length]; exact hi) hi
      generalize a[i]'(by rw [h'.length]; exact hi) = x at h4 hp
      generalize b[i] = y at hp
      cases x <;> cases y <;> first | exact hp.elim | exact CR.weak hp h4 | exact aggR.weak hp h4
    | _ => exact h.elim

theorem HR.weak (h : WH σ σ') (hh : HR ι σ w) : HR ι σ' w where
  obj := fun id s hs => by
    obtain ⟨o, h1, h2, h3, h4⟩ := hh.obj id s hs
    obtain ⟨o', h5, h6, h7, h8⟩ := h.get h1
    refine ⟨o', h5, h7 ▸ h2, h8 ▸ h3, ?_⟩
    cases hl : s.loc with
    | none => rw [hl] at h4; have h4' : o.cs = [] := h4; rw [h4'] at h6; exact List.length_eq_zero_iff.1 h6.length.symm
    | some l =>
      rw [hl] at h4
      obtain ⟨h9, h10, h11⟩ := h4
      refine ⟨h9, by rw [← h6.length]; exact h10, fun i hi => ?_⟩
      obtain ⟨v, h12, h13⟩ := h11 i (by rw [h6.length]; exact hi)
      exact ⟨v, h12, CR.weak (h6.get _ hi) h13⟩
  inj := hh.inj
  resRow := hh.resRow
  resNo := hh.resNo

theorem Step.weak {ι' : Map} {w' : World} {σ1 : Heap} (h : WH σ' σ1) (hs : Step ι σ w ι' σ' w') : Step ι σ w ι' σ1 w' :=
  ⟨by rw [← h.length]; exact hs.len, hs.size, hs.os, hs.out, hs.keep, hs.none, hs.new, hs.res, hs.resKeep, hs.frame⟩

/-- registers: what the second knows, the first knows at least as well -/
def WR (r r' : Regs) : Prop := ∀ t v, r'.get t = some v → ∃ u, r.get t = some u ∧ WV u v

theorem WR.rfl' {r : Regs} : WR r r := fun _ v h => ⟨v, h, WV.rfl'⟩

theorem RegR.weak {N : Nat} {r r' : Regs} {a : Act} (h : WR r r') (hr : RegR N ι w r a) : RegR N ι w r' a :=
  ⟨hr.size, fun t v hv => let ⟨_, h1, h2⟩ := h t v hv; VR.weak h2 (hr.get t _ h1)⟩
end

/-- code, as it is seen from a function's start (n0: the objects that were there) -/
def postF (N : Nat) (Q : Exit → Regs → Heap → Prop) (ι0 : Map) (σ0 : Heap) (w0 : World) (ds : List Deferred) : Exit → Act → World → Prop := fun e a' w' =>
  (match e with | .panic _ | .outgrown => False | _ => True) ∧ ∃ r' σ' ι' ms, Q e r' σ' ∧ HR ι' σ' w' ∧ RegR N ι' w' r' a' ∧ Step ι0 σ0 w0 ι' σ' w' ∧ a'.defers = ms ++ ds ∧ Marks w0.heap.size w' ms

def CodeF (P : Program) (N : Nat) (ro : Option Nat) (n0 : Nat) (c : Code) (r : Regs) (σ : Heap) (Q : Exit → Regs → Heap → Prop) : Prop :=
  ∀ ι0 σ0 w0 ds, HR ι0 σ0 w0 → σ0.length ≤ n0 → ∀ ι w a ms, HR ι σ w → RegR N ι w r a → Step ι0 σ0 w0 ι σ w → a.defers = ms ++ ds → Marks w0.heap.size w ms → c.wpIn (wr ro) 0 P (postF N Q ι0 σ0 w0 ds) a w

section
variable {P : Program} {N : Nat} {ro : Option Nat} {n0 : Nat}

theorem postF_mono {Q Q' : Exit → Regs → Heap → Prop} (hq : ∀ e r σ, Q e r σ → Q' e r σ) {ι0 : Map} {σ0 : Heap} {w0 : World} {ds : List Deferred} {e : Exit} {a : Act} {w : World} (h : postF N Q ι0 σ0 w0 ds e a w) : postF N Q' ι0 σ0 w0 ds e a w :=
  let ⟨h0, r', σ', ι', ms, h1, h2⟩ := h
  ⟨h0, r', σ', ι', ms, hq _ _ _ h1, h2⟩

theorem CodeF.mono {c : Code} {r : Regs} {σ : Heap} {Q Q' : Exit → Regs → Heap → Prop} (h : CodeF P N ro n0 c r σ Q) (hq : ∀ e r σ, Q e r σ → Q' e r σ) : CodeF P N ro n0 c r σ Q' :=
  fun ι0 σ0 w0 ds h0 hn ι w a ms hh hr hs hd hm => wpIn_mono (h ι0 σ0 w0 ds h0 hn ι w a ms hh hr hs hd hm) fun _ _ _ hp => postF_mono hq hp

theorem CodeOk.toF {c : Code} {r : Regs} {σ : Heap} {Q : Exit → Regs → Heap → Prop} (h : CodeOk P N ro c r σ Q) : CodeF P N ro n0 c r σ Q :=
  fun ι0 σ0 w0 ds _ _ ι w a ms hh hr hs hd hm => wpIn_mono (h ι w a hh hr) fun e a' w' ⟨h0, r', σ', ι', ms', h1, h2, h3, h4, h5, h6⟩ =>
    ⟨h0, r', σ', ι', ms' ++ ms, h1, h2, h3, hs.trans h4, by rw [h5, hd, List.append_assoc], Marks.append (hm.step hh h4) h6 hs.size hm.lt⟩

theorem CodeF.toOk {c : Code} {r : Regs} {σ : Heap} {Q : Exit → Regs → Heap → Prop} (h : CodeF P N ro σ.length c r σ Q) : CodeOk P N ro c r σ Q :=
  fun ι w a hh hr => wpIn_mono (h ι σ w a.defers hh (Nat.le_refl _) ι w a [] hh hr (Step.refl ι σ w) rfl (Marks.nil _ _)) fun _ _ _ hp => hp

theorem okF_ghost {c : Code} {r r' : Regs} {σ σ' : Heap} {Q : Exit → Regs → Heap → Prop} (hg : GhostF N n0 r σ r' σ') (h : CodeF P N ro n0 c r' σ' Q) : CodeF P N ro n0 c r σ Q :=
  fun ι0 σ0 w0 ds h0 hn ι w a ms hh hr hs hd hm => by
    obtain ⟨ι', h1, h2, h3⟩ := hg ι w a hh hr
    exact h ι0 σ0 w0 ds h0 hn ι' w a ms h1 h2 (h3 ι0 σ0 w0 h0 hn hs) hd hm

/-- at the end: another description -/
theorem okF_post {c : Code} {r : Regs} {σ : Heap} {Q : Exit → Regs → Heap → Prop} (h : CodeF P N ro n0 c r σ fun e r' σ' => ∃ r'' σ'', GhostF N n0 r' σ' r'' σ'' ∧ Q e r'' σ'') : CodeF P N ro n0 c r σ Q :=
  fun ι0 σ0 w0 ds h0 hn ι w a ms hh hr hs hd hm => wpIn_mono (h ι0 σ0 w0 ds h0 hn ι w a ms hh hr hs hd hm) fun e a' w' ⟨he, r', σ', ι', ms', ⟨r'', σ'', hg, hq⟩, h2, h3, h4, h5, h6⟩ => by
    obtain ⟨ι'', h7, h8, h9⟩ := hg ι' w' a' h2 h3
    exact ⟨he, r'', σ'', ι'', ms', hq, h7, h8, h9 ι0 σ0 w0 h0 hn h4, h5, h6⟩

theorem okF_skip {r : Regs} {σ : Heap} {Q : Exit → Regs → Heap → Prop} (h : Q .normal r σ) : CodeF P N ro n0 .skip r σ Q :=
  fun _ _ _ _ _ _ ι _ _ ms hh hr hs hd hm => wpIn_skip ⟨trivial, r, σ, ι, ms, h, hh, hr, hs, hd, hm⟩
theorem okF_exit {id : Nat} {r : Regs} {σ : Heap} {Q : Exit → Regs → Heap → Prop} (h : Q (.exit id) r σ) : CodeF P N ro n0 (.exit id) r σ Q :=
  fun _ _ _ _ _ _ ι _ _ ms hh hr hs hd hm => wpIn_exit ⟨trivial, r, σ, ι, ms, h, hh, hr, hs, hd, hm⟩
theorem okF_ret {r : Regs} {σ : Heap} {Q : Exit → Regs → Heap → Prop} (h : Q .ret r σ) : CodeF P N ro n0 .ret r σ Q :=
  fun _ _ _ _ _ _ ι _ _ ms hh hr hs hd hm => wpIn_ret ⟨trivial, r, σ, ι, ms, h, hh, hr, hs, hd, hm⟩

theorem okF_seq {x y : Code} {r : Regs} {σ : Heap} {Q : Exit → Regs → Heap → Prop} (h : CodeF P N ro n0 x r σ fun e r' σ' => match e with | .normal => CodeF P N ro n0 y r' σ' Q | e => Q e r' σ') : CodeF P N ro n0 (.seq x y) r σ Q :=
  fun ι0 σ0 w0 ds h0 hn ι w a ms hh hr hs hd hm => wpIn_seq (wpIn_mono (h ι0 σ0 w0 ds h0 hn ι w a ms hh hr hs hd hm) fun e a' w' hp => by
    cases e with
    | normal =>
      obtain ⟨_, r', σ', ι', ms', h1, h2, h3, h4, h5, h6⟩ := hp
      exact h1 ι0 σ0 w0 ds h0 hn ι' w' a' ms' h2 h3 h4 h5 h6
    | _ => exact hp)

theorem okF_cond {c : Operand} {x y : Code} {r : Regs} {σ : Heap} {t : Bool} (hc : ev r c = some (.c (.t (.bool t)))) {Q : Exit → Regs → Heap → Prop} (h : CodeF P N ro n0 (if t then x else y) r σ Q) : CodeF P N ro n0 (.cond c x y) r σ Q :=
  fun ι0 σ0 w0 ds h0 hn ι w a ms hh hr hs hd hm => wpIn_cond (bool_of (ev_ok hr hc)) (h ι0 σ0 w0 ds h0 hn ι w a ms hh hr hs hd hm)

theorem okF_block {id : Nat} {c : Code} {r : Regs} {σ : Heap} {Q : Exit → Regs → Heap → Prop} (h : CodeF P N ro n0 c r σ fun e r' σ' => match e with | .exit i => if i = id then Q .normal r' σ' else Q (.exit i) r' σ' | e => Q e r' σ') :
    CodeF P N ro n0 (.block id c) r σ Q :=
  fun ι0 σ0 w0 ds h0 hn ι w a ms hh hr hs hd hm => wpIn_block (wpIn_mono (h ι0 σ0 w0 ds h0 hn ι w a ms hh hr hs hd hm) fun e a' w' hp => by
    cases e with
    | exit i =>
      obtain ⟨_, r', σ', ι', ms', h1, h2⟩ := hp
      by_cases hi : i = id
      · simp only [hi, if_true] at h1
        simp only [Exit.inBlock, hi, if_true]
        exact ⟨trivial, r', σ', ι', ms', h1, h2⟩
      · simp only [hi, if_false] at h1
        simp only [Exit.inBlock, hi, if_false]
        exact ⟨trivial, r', σ', ι', ms', h1, h2⟩
    | _ => exact hp)

theorem okF_loop {c : Code} (I : Nat → Regs → Heap → Prop) {n : Nat} {r : Regs} {σ : Heap} {Q : Exit → Regs → Heap → Prop} (h0 : I n r σ)
    (round : ∀ n r σ, I n r σ → CodeF P N ro n0 c r σ fun e r' σ' => match e with | .normal => ∃ m, m < n ∧ I m r' σ' | e => Q e r' σ') : CodeF P N ro n0 (.loop c) r σ Q := fun ι0 σ0 w0 ds hh0 hn ι w a ms hh hr hs hd hm => by
  refine wpIn_loop' (fun j a' w' => ∃ r' σ' ι' ms, I j r' σ' ∧ HR ι' σ' w' ∧ RegR N ι' w' r' a' ∧ Step ι0 σ0 w0 ι' σ' w' ∧ a'.defers = ms ++ ds ∧ Marks w0.heap.size w' ms) (j := n)
    ⟨r, σ, ι, ms, h0, hh, hr, hs, hd, hm⟩ ?_
  rintro j a1 w1 ⟨r1, σ1, ι1, ms1, h1, h2, h3, h4, h5, h6⟩
  refine wpIn_mono (round j r1 σ1 h1 ι0 σ0 w0 ds hh0 hn ι1 w1 a1 ms1 h2 h3 h4 h5 h6) fun e a2 w2 hp => ?_
  obtain ⟨h0', r2, σ2, ι2, ms2, h7, h8⟩ := hp
  cases e with
  | normal =>
    obtain ⟨m, hlt, hI⟩ := h7
    exact ⟨m, hlt, r2, σ2, ι2, ms2, hI, h8⟩
  | exit id => exact ⟨trivial, r2, σ2, ι2, ms2, h7, h8⟩
  | goto l => exact ⟨trivial, r2, σ2, ι2, ms2, h7, h8⟩
  | ret => exact ⟨trivial, r2, σ2, ι2, ms2, h7, h8⟩
  | panic ch => exact h0'.elim
  | outgrown => exact h0'.elim

/-! ### ghosts -/
theorem GhostF.rfl' {n : Nat} {r : Regs} {σ : Heap} : GhostF N n r σ r σ := fun ι _ _ hh hr => ⟨ι, hh, hr, fun _ _ _ _ _ hs => hs⟩

theorem ghost_weak {n : Nat} {r r' : Regs} {σ σ' : Heap} (hr : WR r r') (hσ : WH σ σ') : GhostF N n r σ r' σ' :=
  fun ι _ _ hh ha => ⟨ι, hh.weak hσ, ha.weak hr, fun _ _ _ _ _ hs => hs.weak hσ⟩

/-- fewer objects, other epochs: n1 objects stay; e: their new epochs -/
def reCell (n1 : Nat) (σ : Heap) (e : Nat → Nat) : Cell → Cell → Prop
  | .t a, c => c = .t a
  | .ptr r, c => c = .ptr { r with ep := e r.id } ∧ r.id < n1 ∧ ∃ o, σ[r.id]? = some o ∧ o.ep = r.ep
  | .sl r len cap, c => c = .sl { r with ep := e r.id } len cap ∧ r.id < n1 ∧ ∃ o, σ[r.id]? = some o ∧ o.ep = r.ep
  | .clo f rs, c => c = .clo f (rs.map fun r => { r with ep := e r.id }) ∧ ∀ r ∈ rs, r.id < n1 ∧ ∃ o, σ[r.id]? = some o ∧ o.ep = r.ep

end
end Go.Abs
